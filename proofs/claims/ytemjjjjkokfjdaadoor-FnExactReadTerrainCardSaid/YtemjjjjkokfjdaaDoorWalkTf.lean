/- Terrains read: the program's walk (printed by mkri.py). -/
import Derived.Test.YtemjjjjkokfjdaaDoorWalkTa
namespace Go.Proofs.YtemjjjjkokfjdaaDoor.WalkTf
open Go Go.RowKit Go.Proofs.YtemjjjjkokfjdaaDoor.Base Go.Proofs.YtemjjjjkokfjdaaDoor.Plain Go.Proofs.YtemjjjjkokfjdaaDoor.PlainT Go.Proofs.YtemjjjjkokfjdaaDoor.PlainTx Go.Proofs.YtemjjjjkokfjdaaDoor.PlainSp Go.Proofs.YtemjjjjkokfjdaaDoor.WalkN Go.Proofs.YtemjjjjkokfjdaaDoor.WalkP Go.Proofs.YtemjjjjkokfjdaaDoor.Words Go.Proofs.YtemjjjjkokfjdaaDoor.Ints Go.Proofs.YtemjjjjkokfjdaaDoor.WalkI Go.Proofs.YtemjjjjkokfjdaaDoor.WalkU Go.Proofs.YtemjjjjkokfjdaaDoor.WalkV Go.Proofs.YtemjjjjkokfjdaaDoor.WalkW Go.Proofs.YtemjjjjkokfjdaaDoor.Cells Go.Proofs.YtemjjjjkokfjdaaDoor.Text Go.Proofs.YtemjjjjkokfjdaaDoor.WalkTt Go.Proofs.YtemjjjjkokfjdaaDoor.WalkTv Go.Proofs.YtemjjjjkokfjdaaDoor.WalkRD Go.Proofs.YtemjjjjkokfjdaaDoor.WalkRI Go.Proofs.YtemjjjjkokfjdaaDoor.WalkSp Go.Proofs.YtemjjjjkokfjdaaDoor.WalkSq Go.Proofs.YtemjjjjkokfjdaaDoor.WalkQ Go.Proofs.YtemjjjjkokfjdaaDoor.WalkSH Go.Proofs.YtemjjjjkokfjdaaDoor.WalkSI0 Go.Proofs.YtemjjjjkokfjdaaDoor.WalkAp Go.Proofs.YtemjjjjkokfjdaaDoor.WalkCT Go.Proofs.YtemjjjjkokfjdaaDoor.PlainRt Go.Proofs.YtemjjjjkokfjdaaDoor.PlainRu Go.Proofs.YtemjjjjkokfjdaaDoor.WalkTa Go.Proofs.YtemjjjjkokfjdaaDoor.WalkTb Go.Proofs.YtemjjjjkokfjdaaDoor.WalkTc Go.Proofs.YtemjjjjkokfjdaaDoor.WalkTe
open Go.Proofs.YtemjjjjkokfjdaaDoor.WalkRb (Env2)
set_option linter.unusedVariables false
set_option linter.unusedSimpArgs false

/-- the numbers that have been read: k of them -/
def nAt (z : Int) (i k : Nat) : Int := if i < k then z else 0
def arr (z1 z2 z3 : Int) (k : Nat) : Array Value := #[.int .i64 (nAt z1 0 k), .int .i64 (nAt z2 1 k), .int .i64 (nAt z3 2 k)]
/-- what holds while they are read -/
structure NInv (w wr : World) (nb : Nat) (cs : Array Value) (LA : Option Addr) (ln lq : Nat) (L : List TX) (HA : Option Addr) (hq : Nat) (H : List TX) : Prop where
  below : Below w.heap.size w wr
  hnb : w.heap.size + 1 ≤ nb
  box : Blk wr nb 46 cs
  rb : Blk wr w.heap.size 24 #[.int .i64 0, .int .i64 0, .int .i64 0, .slice none 0 0, .slice none 0 0]
  tx : Txs wr 0 LA ln lq L
  th : Txs wr 0 HA 4 hq H
  tb : ∀ x, LA = some x → x.block < nb ∧ w.heap.size < x.block
  hb : ∀ x, HA = some x → x.block < nb ∧ w.heap.size < x.block
section
variable {w wr w1 : World} {nb : Nat} {cs : Array Value} {LA : Option Addr} {ln lq : Nat} {L : List TX} {HA : Option Addr} {hq : Nat} {H : List TX}
theorem NInv.grow (hb : Below wr.heap.size wr w1) (h : NInv w wr nb cs LA ln lq L HA hq H) : NInv w w1 nb cs LA ln lq L HA hq H :=
  ⟨below_via hb h.below h.below.size, h.hnb, Blk.below hb h.box, Blk.below hb h.rb, Orw.below hb h.tx, Orw.below hb h.th, h.tb, h.hb⟩
theorem NInv.set (h : NInv w wr nb cs LA ln lq L HA hq H) (i : Nat) (u : Value) {cs' : Array Value} (e : cs.setIfInBounds i u = cs') : NInv w (wr.setCell ⟨nb, i, none⟩ u) nb cs' LA ln lq L HA hq H := by
  have hn := h.hnb
  subst e
  exact ⟨h.below.setCell (by show w.heap.size ≤ nb; omega) _, h.hnb, h.box.set_ i u, h.rb.far _ (by omega), Txs.far h.tx _ (fun x e => by have := h.tb x e; omega), Txs.far h.th _ (fun x e => by have := h.hb x e; omega), h.tb, h.hb⟩
end

set_option maxRecDepth 20000 in
set_option maxHeartbeats 8000000 in
theorem implRt (s : ByteArray) (w : World) (hs : s.size ≤ 1048576) (hE : Env2 w) : Calls Tryd.prog 6 #[.string s] w (GotT s.data.toList w) := by
  obtain ⟨L, hL⟩ : ∃ L, Lib.splitN s.data.toList [10] 26 = L := ⟨_, rfl⟩
  have HL := Lib.hid hL
  have HP := Lib.hid (show ∀ k, (bs (L.getD k [])).size ≤ 1048576 from fun k => by
    rw [bs_size]
    by_cases h : k < L.length
    · have h1 := splitK_le [10] (min 26 (s.data.toList.length + 1) - 1) s.data.toList (L.getD k []) (by rw [← hL] at h ⊢; exact getD_mem h)
      rw [← Lib.size_eq] at h1
      omega
    · rw [List.getD_eq_getElem?_getD, List.getElem?_eq_none (by omega)]
      simp)
  have S := Lib.hid (fun W (hb : Below w.heap.size w W) => splitLn s W hs (hE.below hb))
  rw [hL] at S
  have SA := Lib.hid (fun (t : ByteArray) W (ht : t.size ≤ 1048576) (hb : Below w.heap.size w W) => splitAll t _ W ht (Classical.choose_spec (hE.below hb).mx))
  have DC := Lib.hid (fun (t : ByteArray) (W : World) (ht : t.size ≤ 1048576) (hb : Below w.heap.size w W) => implNum t W ht (hE.env.below hb))
  have CB := Lib.hid (fun (t : ByteArray) (W : World) (ht : t.size ≤ 1048576) (hb : Below w.heap.size w W) => cutBlank t W ht (hE.below hb))
  have RL := Lib.hid (fun (t : ByteArray) (W : World) (ht : t.size ≤ 1048576) (hb : Below w.heap.size w W) => implRl t W ht (hE.below hb))
  have TTX := Lib.hid (fun (W : World) (hb : Below w.heap.size w W) => Tab.below hb hE.env.tab)
  obtain ⟨t0, ht0⟩ : ∃ t, bs (L.getD 0 []) = t := ⟨_, rfl⟩
  obtain ⟨H, hH⟩ : ∃ H, splF 32 (L.getD 0 []) = H := ⟨_, rfl⟩
  have HH := Lib.hid hH
  have HT := Lib.hid ht0
  have S2 := Lib.hid (fun W (hb : Below w.heap.size w W) => SA.out t0 W (by rw [← HT.out]; exact HP.out 0) hb)
  have e0 : t0.data.toList = L.getD 0 [] := by rw [← ht0, bs_list]
  rw [e0, hH] at S2
  have HQ := Lib.hid (show ∀ k, (bs (H.getD k [])).size ≤ 1048576 from fun k => by rw [bs_size, ← hH]; have h1 := piece_le 32 (bs (L.getD 0 [])) k; have h2 := HP.out 0; rw [bs_list] at h1; omega)
  obtain ⟨z1, b1, e1, _, _, x1⟩ := WalkTc.rdV_form (H.getD 1 [])
  obtain ⟨z2, b2, e2, _, _, x2⟩ := WalkTc.rdV_form (H.getD 2 [])
  obtain ⟨z3, b3, e3, _, _, x3⟩ := WalkTc.rdV_form (H.getD 3 [])
  have D1 := Lib.hid (fun W (hb : Below w.heap.size w W) => DC.out (bs (H.getD 1 [])) W (HQ.out 1) hb)
  have D2 := Lib.hid (fun W (hb : Below w.heap.size w W) => DC.out (bs (H.getD 2 [])) W (HQ.out 2) hb)
  have D3 := Lib.hid (fun W (hb : Below w.heap.size w W) => DC.out (bs (H.getD 3 [])) W (HQ.out 3) hb)
  rw [bs_list, e1] at D1
  rw [bs_list, e2] at D2
  rw [bs_list, e3] at D3
  have HXZ := Lib.hid (And.intro x1 (And.intro x2 x3))
  rename_i y1 m1 y2 m2 y3 m3
  clear e1 e2 e3 x1 x2 x3 y1 m1 y2 m2 y3 m3 DC HQ
  clear hL ht0 hH e0 hE
  go_enter Tryd.func6, Tryd.ntmps6
  go_upto_region 2 with (go_at_call 19; refine (S.out _ (by repeat (first | with_reducible exact Below.refl _ _ | with_reducible assumption | (with_reducible refine Below.drew ?_) | (with_reducible refine below_drewN ?_ _) | ((with_reducible refine Below.alloc ?_ ?_ _); rotate_left; (focus first | exact Nat.le_refl _ | omega | (simp; done) | (simp; omega))) | ((with_reducible refine Below.setCell ?_ ?_ _); rotate_left; (focus first | exact Nat.le_refl _ | omega | (simp; done) | (simp; omega))) | ((with_reducible refine below_via (W := ?_) ?_ ?_ ?_); rotate_left; (with_reducible assumption); rotate_left; (focus first | exact Nat.le_refl _ | omega | (simp; done) | (simp; omega)))))).mono ?_; rintro e w1 ⟨A, n, q, rfl, ht, hn0, hn26, hb1⟩; have HT0 := Lib.hid ht; clear ht)
  have HT1 : Hid (Txs w1 (w.heap.size + 1) A n q L) := Lib.hid (Orw.lower HT0.out (by simp))
  have hn := txs_len HT1.out
  have HN := Lib.hid hn
  have KR : Blk w1 w.heap.size 24 #[.int .i64 0, .int .i64 0, .int .i64 0, .slice none 0 0, .slice none 0 0] := by (repeat (first | with_reducible assumption | (with_reducible refine Blk.drew ?_) | (with_reducible refine Blk.drewN ?_ _) | ((with_reducible refine Blk.new _ _ _ ?_); (focus first | rfl | (simp; done) | omega)) | (with_reducible refine Blk.alloc ?_ _) | ((with_reducible refine Blk.far ?_ _ ?_); rotate_left; (focus first | omega | (simp; done) | (simp; omega))) | ((with_reducible refine Blk.below (w := ?_) ?_ ?_); rotate_left; (with_reducible assumption))))
  have B1 : Below w.heap.size w w1 := (by repeat (first | with_reducible exact Below.refl _ _ | with_reducible assumption | (with_reducible refine Below.drew ?_) | (with_reducible refine below_drewN ?_ _) | ((with_reducible refine Below.alloc ?_ ?_ _); rotate_left; (focus first | exact Nat.le_refl _ | omega | (simp; done) | (simp; omega))) | ((with_reducible refine Below.setCell ?_ ?_ _); rotate_left; (focus first | exact Nat.le_refl _ | omega | (simp; done) | (simp; omega))) | ((with_reducible refine below_via (W := ?_) ?_ ?_ ?_); rotate_left; (with_reducible assumption); rotate_left; (focus first | exact Nat.le_refl _ | omega | (simp; done) | (simp; omega)))))
  have s1 := hb1.size
  simp at s1
  clear hn hb1 S HT0
  obtain ⟨gA, rfl, hgA, hgA2, cA, _⟩ := HT1.out.at_ (j := 0) (by omega)
  rw [sts_at (by have := HN.out; omega), HT.out] at cA
  have HKR := Lib.hid KR
  clear KR
  go_upto_region 3 with (go_at_call 20; refine (S2.out _ (by repeat (first | with_reducible exact Below.refl _ _ | with_reducible assumption | (with_reducible refine Below.drew ?_) | (with_reducible refine below_drewN ?_ _) | ((with_reducible refine Below.alloc ?_ ?_ _); rotate_left; (focus first | exact Nat.le_refl _ | omega | (simp; done) | (simp; omega))) | ((with_reducible refine Below.setCell ?_ ?_ _); rotate_left; (focus first | exact Nat.le_refl _ | omega | (simp; done) | (simp; omega))) | ((with_reducible refine below_via (W := ?_) ?_ ?_ ?_); rotate_left; (with_reducible assumption); rotate_left; (focus first | exact Nat.le_refl _ | omega | (simp; done) | (simp; omega)))))).mono ?_; rintro e w2 ⟨B, m, q2, rfl, ht, hb2⟩; have HT0 := Lib.hid ht; clear ht)
  have HT2 : Hid (Txs w2 w1.heap.size B m q2 H) := HT0
  have hm := txs_len HT2.out
  have HN2 := Lib.hid hm
  have HT1' : Hid (Txs w2 (w.heap.size + 1) (some ⟨gA, 0, none⟩) n q L) := Lib.hid (Orw.below hb2 HT1.out)
  have KR : Blk w2 w.heap.size 24 #[.int .i64 0, .int .i64 0, .int .i64 0, .slice none 0 0, .slice none 0 0] := Blk.below hb2 HKR.out
  have B2 : Below w.heap.size w w2 := below_via hb2 B1 (by omega)
  have s2 := hb2.size
  clear hm hb2 S2 cA HKR HT1 B1 HT0
  have HKR := Lib.hid KR
  have r0 := KR.cell 0
  have r1 := KR.cell 1
  have r2 := KR.cell 2
  have r3 := KR.cell 3
  have r4 := KR.cell 4
  have v0 := KR.free 0
  have v1 := KR.free 1
  have v2 := KR.free 2
  have v3 := KR.free 3
  have v4 := KR.free 4
  simp at r0 r1 r2 r3 r4
  clear KR
  by_cases c2 : m = 4
  case neg =>
    have HF : Hid (refT s.data.toList = none) := Lib.hid (pro_1 HL.out (by rw [HH.out]; have := HN2.out; omega))
    have g : ((m : Int) != 4) = true := by simp; omega
    go_wp2_with fail
    exact bodyPost_ret (v := .tuple #[.agg #[.int .i64 0, .int .i64 0, .int .i64 0, .slice none 0 0, .slice none 0 0], .bool false]) (by simp [results, Tryd.results6, go_sem, r0, r1, r2, r3, r4]) rfl ⟨.inl ⟨HF.out, rfl⟩, (by repeat (first | with_reducible exact Below.refl _ _ | with_reducible assumption | (with_reducible refine Below.drew ?_) | (with_reducible refine below_drewN ?_ _) | ((with_reducible refine Below.alloc ?_ ?_ _); rotate_left; (focus first | exact Nat.le_refl _ | omega | (simp; done) | (simp; omega))) | ((with_reducible refine Below.setCell ?_ ?_ _); rotate_left; (focus first | exact Nat.le_refl _ | omega | (simp; done) | (simp; omega))) | ((with_reducible refine below_via (W := ?_) ?_ ?_ ?_); rotate_left; (with_reducible assumption); rotate_left; (focus first | exact Nat.le_refl _ | omega | (simp; done) | (simp; omega)))))⟩
  subst c2
  obtain ⟨gB, rfl, hgB, hgB2, _, _⟩ := HT2.out.at_ (j := 0) (by omega)
  have hq2 : 4 ≤ q2 := by
    rcases HT2.out.form with ⟨h, _⟩ | ⟨g, cs, _, _, _, h, _⟩
    · cases h
    · exact h
  have hq : n ≤ q := by
    rcases HT1'.out.form with ⟨h, _⟩ | ⟨g, cs, _, _, _, h, _⟩
    · cases h
    · exact h
  obtain ⟨B', hB', CW⟩ := cut_one gB 4 q2 hq2 (by omega)
  obtain rfl := hB' (by omega)
  clear r0 r1 r2 r3 r4 v0 v1 v2 v3 v4 hB'
  obtain ⟨nb, hnb0⟩ : ∃ k, w2.heap.size = k := ⟨_, rfl⟩
  have HI00 : Hid (NInv w (w2.alloc (.cells #[.int .i64 0, .int .i64 0, .int .i64 0] 46)) nb (arr z1 z2 z3 0) (some ⟨gA, 0, none⟩) n q L (some ⟨gB, 0, none⟩) q2 H) := Lib.hid ⟨(by repeat (first | with_reducible exact Below.refl _ _ | with_reducible assumption | (with_reducible refine Below.drew ?_) | (with_reducible refine below_drewN ?_ _) | ((with_reducible refine Below.alloc ?_ ?_ _); rotate_left; (focus first | exact Nat.le_refl _ | omega | (simp; done) | (simp; omega))) | ((with_reducible refine Below.setCell ?_ ?_ _); rotate_left; (focus first | exact Nat.le_refl _ | omega | (simp; done) | (simp; omega))) | ((with_reducible refine below_via (W := ?_) ?_ ?_ ?_); rotate_left; (with_reducible assumption); rotate_left; (focus first | exact Nat.le_refl _ | omega | (simp; done) | (simp; omega))))), by omega, Blk.new _ _ _ hnb0.symm, Blk.alloc HKR.out _, Orw.alloc (Orw.lower HT1'.out (Nat.zero_le _)) _, Orw.alloc (Orw.lower HT2.out (Nat.zero_le _)) _, fun x e => by injection e with e; subst e; show gA < nb ∧ w.heap.size < gA; omega, fun x e => by injection e with e; subst e; show gB < nb ∧ w.heap.size < gB; omega⟩
  go_wp2_with fail
  go_loopw [32] (fun kv wr => ∃ k : Nat, kv = .int .i64 (k : Int) ∧ k ≤ 3 ∧ Hid (NInv w wr nb (arr z1 z2 z3 k) (some ⟨gA, 0, none⟩) n q L (some ⟨gB, 0, none⟩) q2 H)) (fun kv _ => 3 - (intOf kv).toNat)
  case atStart => exact ⟨0, rfl, by omega, HI00⟩
  case round =>
    clear HI00 HKR HT2 HT1' hnb0 B2
    obtain ⟨k, rfl, hk, HI⟩ := hrel
    by_cases hlt : k < 3
    · rcases (show k = 0 ∨ k = 1 ∨ k = 2 by omega) with rfl | rfl | rfl
      · have cx := HI.out.th.cell (j := 1) (by omega)
        rw [sts_at (by have := HN2.out; omega)] at cx
        have D := D1.out wr HI.out.below
        obtain ⟨x, hx⟩ : ∃ t, bs (H.getD 1 []) = t := ⟨_, rfl⟩
        rw [hx] at cx D
        have HD := Lib.hid D
        clear hx D hlt hk
        go_wp2_with (go_at_call 21; refine HD.out.mono ?_; rintro e w3 ⟨rfl, hb3⟩; have HI3 := Lib.hid (NInv.grow hb3 HI.out); have o := HI3.out.box.cell 0; have f := HI3.out.box.free 0; simp [arr] at o; clear hb3)
        go_roundw
        case rel => exact ⟨1, by go_num, by omega, Lib.hid (NInv.set HI3.out 0 _ (by rfl))⟩
        case measure => simp [intOf]
      · have cx := HI.out.th.cell (j := 2) (by omega)
        rw [sts_at (by have := HN2.out; omega)] at cx
        have D := D2.out wr HI.out.below
        obtain ⟨x, hx⟩ : ∃ t, bs (H.getD 2 []) = t := ⟨_, rfl⟩
        rw [hx] at cx D
        have HD := Lib.hid D
        clear hx D hlt hk
        go_wp2_with (go_at_call 21; refine HD.out.mono ?_; rintro e w3 ⟨rfl, hb3⟩; have HI3 := Lib.hid (NInv.grow hb3 HI.out); have o := HI3.out.box.cell 1; have f := HI3.out.box.free 1; simp [arr] at o; clear hb3)
        go_roundw
        case rel => exact ⟨2, by go_num, by omega, Lib.hid (NInv.set HI3.out 1 _ (by rfl))⟩
        case measure => simp [intOf]
      · have cx := HI.out.th.cell (j := 3) (by omega)
        rw [sts_at (by have := HN2.out; omega)] at cx
        have D := D3.out wr HI.out.below
        obtain ⟨x, hx⟩ : ∃ t, bs (H.getD 3 []) = t := ⟨_, rfl⟩
        rw [hx] at cx D
        have HD := Lib.hid D
        clear hx D hlt hk
        go_wp2_with (go_at_call 21; refine HD.out.mono ?_; rintro e w3 ⟨rfl, hb3⟩; have HI3 := Lib.hid (NInv.grow hb3 HI.out); have o := HI3.out.box.cell 2; have f := HI3.out.box.free 2; simp [arr] at o; clear hb3)
        go_roundw
        case rel => exact ⟨3, by go_num, by omega, Lib.hid (NInv.set HI3.out 2 _ (by rfl))⟩
        case measure => simp [intOf]
    · obtain rfl : k = 3 := by omega
      obtain ⟨W1, eW⟩ : ∃ W, W = wr := ⟨_, rfl⟩
      subst eW
      have o0 := HI.out.box.cell 0
      have o1 := HI.out.box.cell 1
      have o2 := HI.out.box.cell 2
      have f0 := HI.out.box.free 0
      have f1 := HI.out.box.free 1
      have f2 := HI.out.box.free 2
      simp [arr, nAt] at o0 o1 o2
      obtain ⟨n1, hn1⟩ : ∃ k, n - 1 = k := ⟨_, rfl⟩
      obtain ⟨A', hA', CL⟩ := cut_one gA n q hq (by omega)
      rw [hn1] at CL
      have HN1 : Hid (n = n1 + 1) := Lib.hid (by omega)
      have HA' := Lib.hid (show 1 ≤ n1 → A' = some ⟨gA, 1, none⟩ from fun h => hA' (by omega))
      have n1b : n1 ≤ 25 := by omega
      clear hn1 hA'
      obtain ⟨ob, hob0⟩ : ∃ k, W1.heap.size = k := ⟨_, rfl⟩
      have nlt := HI.out.box.lt
      have nge := HI.out.hnb
      have HI00 : Hid (RInv w (W1.alloc (.cells #[.int .i64 z1, .int .i64 z2, .int .i64 z3, .slice none 0 0, .slice none 0 0] 24)) ob z1 z2 z3 0 0 (HsTo L 0) (CsTo L 0) none none 0 0 (some ⟨gA, 0, none⟩) n q L) := Lib.hid ⟨HI.out.below.alloc HI.out.below.size _, by omega, Ow.nil _ _, Ow.nil _ _, Ap.none_l _, Blk.new _ _ _ hob0.symm, Blk.alloc HI.out.rb _, Orw.alloc HI.out.tx _, fun x e => by have := HI.out.tb x e; omega⟩
      clear HI D1 D2 D3 CW hlt hk
      go_wp2_with fail
      clear o0 o1 o2 f0 f1 f2 hob0 nlt nge
      go_loopw [55] (fun kv wr => ∃ (k K1 K2 p qq : Nat) (P Q : Option Addr), kv = .int .i64 (k : Int) ∧ k ≤ n1 ∧ K1 ≤ 64 * k ∧ K2 ≤ 64 * k ∧ Hid (RInv w wr ob z1 z2 z3 K1 K2 (HsTo L k) (CsTo L k) P Q p qq (some ⟨gA, 0, none⟩) n q L)) (fun kv _ => n1 - (intOf kv).toNat)
      case atStart => exact ⟨0, 0, 0, 0, 0, none, none, rfl, by omega, by omega, by omega, HI00⟩
      case round =>
        clear HI00
        obtain ⟨k, K1, K2, p, qq, P, Q, rfl, hk, hk1, hk2, HI⟩ := hrel
        have hob := HI.out.hob
        have hobl := HI.out.bob.lt
        by_cases hlt : k < n1
        · obtain rfl := HA'.out (by omega)
          have cy := HI.out.tx.cell (j := 1 + k) (by have := HN1.out; omega)
          rw [sts_at (by have := HN.out; have := HN1.out; omega)] at cy
          obtain ⟨t, ht⟩ : ∃ t, bs (L.getD (1 + k) []) = t := ⟨_, rfl⟩
          have ts : t.size ≤ 1048576 := by rw [← ht]; exact HP.out _
          rw [ht] at cy
          have HTS := Lib.hid ht
          have CC := Lib.hid (CB.out t wr ts HI.out.below)
          have R1 := Lib.hid (fun W (hb : Below w.heap.size w W) => RL.out (dA t) W (by have := dA_size t; omega) hb)
          have R2 := Lib.hid (fun W (hb : Below w.heap.size w W) => RL.out (dB t) W (by have := dB_size t; omega) hb)
          have eA : (dA t).data.toList = (Lib.cut (L.getD (1 + k) []) [32]).1 := by rw [← ht]; rfl
          have eB : (dB t).data.toList = (Lib.cut (L.getD (1 + k) []) [32]).2.1 := by rw [← ht]; rfl
          rw [eA] at R1
          rw [eB] at R2
          obtain ⟨xa, hxa⟩ : ∃ t', dA t = t' := ⟨_, rfl⟩
          obtain ⟨xb, hxb⟩ : ∃ t', dB t = t' := ⟨_, rfl⟩
          rw [hxa] at R1 CC
          rw [hxb] at R2 CC
          clear ht ts eA eB hxa hxb
          go_upto_region 16 with (go_at_call 22; refine CC.out.mono ?_; rintro e w3 ⟨bb, rfl, hb3⟩)
          have s3 := hb3.size
          have HI3 := Lib.hid (RInv.grow hb3 HI.out)
          clear hb3 CC cy
          go_upto_region 17 with (go_at_call 23; refine (R1.out _ HI3.out.below).mono ?_; rintro e w4 ⟨hg4, hb4⟩; obtain ⟨zs1, A1, a1, q1, f1, rfl, o1, ya1, na1, xa1⟩ := got_form hg4; have HO1 := Lib.hid o1; have HX1 := Lib.hid xa1; clear hg4 o1 ya1 na1 xa1)
          have s4 := hb4.size
          have HI4 := Lib.hid (RInv.grow hb4 HI3.out)
          clear hb4 R1 HI3
          go_upto_region 18 with (go_at_call 23; refine (R2.out _ HI4.out.below).mono ?_; rintro e w5 ⟨hg5, hb5⟩; obtain ⟨zs2, A2, a2, q2', f2, rfl, o2, ya2, na2, xa2⟩ := got_form hg5; have HO2 := Lib.hid o2; have HX2 := Lib.hid xa2; clear hg5 o2 ya2 na2 xa2)
          have s5 := hb5.size
          have HI5 := Lib.hid (RInv.grow hb5 HI4.out)
          have HO1' := Lib.hid (Ow.below hb5 HO1.out)
          clear hb5 R2 HI4 HO1
          obtain ⟨k', hk'⟩ : ∃ j, j = k + 1 := ⟨_, rfl⟩
          have HK' := Lib.hid hk'
          have HE1 : Hid (HsTo L k ++ zs1 = HsTo L k') := Lib.hid (by rw [hs_next (by have := HN.out; have := HN1.out; omega) hk', HX1.out, Nat.add_comm k 1]; rfl)
          have HE2 : Hid (CsTo L k ++ zs2 = CsTo L k') := Lib.hid (by rw [cs_next (by have := HN.out; have := HN1.out; omega) hk', HX2.out, Nat.add_comm k 1]; rfl)
          have a1b : a1 ≤ 64 := by
            have h := hsF_len (L.getD (1 + k) [])
            have h2 := HO1'.out.len
            rw [HX1.out] at h2
            rw [← h2]
            exact h
          have a2b : a2 ≤ 64 := by
            have h := csF_len (L.getD (1 + k) [])
            have h2 := HO2.out.len
            rw [HX2.out] at h2
            rw [← h2]
            exact h
          have o3 := HI5.out.bob.cell 3
          have u3 := HI5.out.bob.free 3
          have o4 := HI5.out.bob.cell 4
          have u4 := HI5.out.bob.free 4
          simp at o3 o4
          have lt5 : ob + 1 ≤ w5.heap.size := by omega
          clear hk'
          go_region_law (first | (refine step_ints rfl (.tmp 76) (.tmp 77) rfl (lo := ob + 1) (lo2 := w3.heap.size) (A := P) (n := K1) (c := p) (zs := (HsTo L k)) (B := A1) (m := a1) (d := q1) (ys := zs1) ?_ ?_ ?_ ?_ ?_ ?_ ?_; (focus simp [Act.eval, Act.put]); (focus exact HI5.out.oP); (focus simp [Act.eval, Act.put]); (focus exact HO1'.out); (focus omega); (focus exact lt5); intro B' q' w6 ho g nn; rw [HE1.out] at ho; have G := Gr.trans (Gr.drew (Gr.refl w5 P)) g; have KO := blk_gr G (fun a e => by have h := HI5.out.oP.block e; omega) HI5.out.bob; have o36 := KO.cell 3; have u36 := KO.free 3; have o46 := KO.cell 4; have u46 := KO.free 4; simp at o36 o46; have HKO := Lib.hid KO; have HOP := Lib.hid ho; have HG1 := Lib.hid G; have HNP := Lib.hid nn; have HX6 := Lib.hid (Ow.gr HI5.out.oQ G HI5.out.ap.symm); have HS6 := Lib.hid (Ow.gr HO2.out G (Ap.symm (Ap.of_lt HI.out.oP HO2.out (by omega)))); have lt6 : ob + 1 ≤ w6.heap.size := Nat.le_trans lt5 G.size; clear ho g G KO nn) | (refine step_ints rfl (.tmp 80) (.tmp 81) rfl (lo := ob + 1) (lo2 := w4.heap.size) (A := Q) (n := K2) (c := qq) (zs := (CsTo L k)) (B := A2) (m := a2) (d := q2') (ys := zs2) ?_ ?_ ?_ ?_ ?_ ?_ ?_; (focus simp [Act.eval, Act.put]); (focus exact HI5.out.oQ); (focus simp [Act.eval, Act.put]); (focus exact HO2.out); (focus omega); (focus exact lt5); intro B'' q'' w6 ho g nn; rw [HE2.out] at ho; have G := Gr.trans (Gr.drew (Gr.refl w5 Q)) g; have KO := blk_gr G (fun a e => by have h := HI5.out.oQ.block e; omega) HI5.out.bob; have o36 := KO.cell 3; have u36 := KO.free 3; have o46 := KO.cell 4; have u46 := KO.free 4; simp at o36 o46; have HKO := Lib.hid KO; have HOQ := Lib.hid ho; have HG1 := Lib.hid G; have HNQ := Lib.hid nn; have HX6 := Lib.hid (Ow.gr HI5.out.oP G HI5.out.ap); have HS6 := Lib.hid (Ow.gr HO1'.out G (Ap.symm (Ap.of_lt HI.out.oQ HO1'.out (by omega)))); have lt6 : ob + 1 ≤ w6.heap.size := Nat.le_trans lt5 G.size; clear ho g G KO nn) | (refine step_ints rfl (.tmp 76) (.tmp 77) rfl (lo := ob + 1) (lo2 := w3.heap.size) (A := P) (n := K1) (c := p) (zs := (HsTo L k)) (B := A1) (m := a1) (d := q1) (ys := zs1) ?_ ?_ ?_ ?_ ?_ ?_ ?_; (focus simp [Act.eval, Act.put]); (focus exact HX6.out); (focus simp [Act.eval, Act.put]); (focus exact HS6.out); (focus omega); (focus exact lt6); intro B' q' w7 ho g nn; rw [HE1.out] at ho; have KO := blk_gr g (fun a e => by have h := HX6.out.block e; omega) HKO.out; have o37 := KO.cell 3; have u37 := KO.free 3; have o47 := KO.cell 4; have u47 := KO.free 4; simp at o37 o47; have HOP := Lib.hid ho; have HG2 := Lib.hid g; have HNP := Lib.hid nn; clear ho g KO nn) | (refine step_ints rfl (.tmp 80) (.tmp 81) rfl (lo := ob + 1) (lo2 := w4.heap.size) (A := Q) (n := K2) (c := qq) (zs := (CsTo L k)) (B := A2) (m := a2) (d := q2') (ys := zs2) ?_ ?_ ?_ ?_ ?_ ?_ ?_; (focus simp [Act.eval, Act.put]); (focus exact HX6.out); (focus simp [Act.eval, Act.put]); (focus exact HS6.out); (focus omega); (focus exact lt6); intro B'' q'' w7 ho g nn; rw [HE2.out] at ho; have KO := blk_gr g (fun a e => by have h := HX6.out.block e; omega) HKO.out; have o37 := KO.cell 3; have u37 := KO.free 3; have o47 := KO.cell 4; have u47 := KO.free 4; simp at o37 o47; have HOQ := Lib.hid ho; have HG2 := Lib.hid g; have HNQ := Lib.hid nn; clear ho g KO nn))
          all_goals (go_wp2_with fail; go_roundw)
          all_goals first
            | exact ⟨k', K1 + a1, K2 + a2, q', q'', B', B'', by rw [HK'.out]; go_num, by have := HK'.out; omega, by have := HK'.out; omega, by have := HK'.out; omega, Lib.hid (RInv.ab HI5.out HG1.out HOP.out HNP.out HG2.out HOQ.out HNQ.out).1⟩
            | exact ⟨k', K1 + a1, K2 + a2, q', q'', B', B'', by rw [HK'.out]; go_num, by have := HK'.out; omega, by have := HK'.out; omega, by have := HK'.out; omega, Lib.hid (RInv.ab HI5.out HG1.out HOP.out HNP.out HG2.out HOQ.out HNQ.out).2⟩
            | exact ⟨k', K1 + a1, K2 + a2, q', q'', B', B'', by rw [HK'.out]; go_num, by have := HK'.out; omega, by have := HK'.out; omega, by have := HK'.out; omega, Lib.hid (RInv.ba HI5.out HG1.out HOQ.out HNQ.out HG2.out HOP.out HNP.out).1⟩
            | exact ⟨k', K1 + a1, K2 + a2, q', q'', B', B'', by rw [HK'.out]; go_num, by have := HK'.out; omega, by have := HK'.out; omega, by have := HK'.out; omega, Lib.hid (RInv.ba HI5.out HG1.out HOQ.out HNQ.out HG2.out HOP.out HNP.out).2⟩
            | ((repeat apply Exists.intro); exact ⟨⟨k', K1 + a1, K2 + a2, q', q'', B', B'', by rw [HK'.out]; go_num, by have := HK'.out; omega, by have := HK'.out; omega, by have := HK'.out; omega, Lib.hid (RInv.ab HI5.out HG1.out HOP.out HNP.out HG2.out HOQ.out HNQ.out).1⟩, rfl⟩)
            | ((repeat apply Exists.intro); exact ⟨⟨k', K1 + a1, K2 + a2, q', q'', B', B'', by rw [HK'.out]; go_num, by have := HK'.out; omega, by have := HK'.out; omega, by have := HK'.out; omega, Lib.hid (RInv.ab HI5.out HG1.out HOP.out HNP.out HG2.out HOQ.out HNQ.out).2⟩, rfl⟩)
            | ((repeat apply Exists.intro); exact ⟨⟨k', K1 + a1, K2 + a2, q', q'', B', B'', by rw [HK'.out]; go_num, by have := HK'.out; omega, by have := HK'.out; omega, by have := HK'.out; omega, Lib.hid (RInv.ba HI5.out HG1.out HOQ.out HNQ.out HG2.out HOP.out HNP.out).1⟩, rfl⟩)
            | ((repeat apply Exists.intro); exact ⟨⟨k', K1 + a1, K2 + a2, q', q'', B', B'', by rw [HK'.out]; go_num, by have := HK'.out; omega, by have := HK'.out; omega, by have := HK'.out; omega, Lib.hid (RInv.ba HI5.out HG1.out HOQ.out HNQ.out HG2.out HOP.out HNP.out).2⟩, rfl⟩)
            | (simp [intOf]; done)
            | (simp [intOf]; have := HK'.out; omega)
        · obtain rfl : k = n1 := by omega
          have hl1 := HI.out.oP.len
          have hl2 := HI.out.oQ.len
          obtain ⟨T, hT⟩ : ∃ T : Tr, (⟨z1, z2, z3, HsTo L k, CsTo L k⟩ : Tr) = T := ⟨_, rfl⟩
          have HPR : Hid (refT s.data.toList = if ttT T = s.data.toList ∧ s.data.toList ≠ [] then some T else none) := Lib.hid (by rw [← hT, HXZ.out.1, HXZ.out.2.1, HXZ.out.2.2]; exact pro_2 HL.out HH.out HN2.out (by have := HN.out; have := HN1.out; omega))
          have X := implTtAll z1 z2 z3 P Q K1 p K2 qq (HsTo L k) (CsTo L k) wr (TTX.out wr HI.out.below) HI.out.oP.rd HI.out.oQ.rd (by unfold maxLen; omega) (by unfold maxLen; omega) (ow_cap HI.out.oP) (ow_cap HI.out.oQ)
          obtain ⟨tt, htt⟩ : ∃ x, ttR z1 z2 z3 K1 K2 (HsTo L k) (CsTo L k) = x := ⟨_, rfl⟩
          rw [htt] at X
          have HTT : Hid (ttT T = tt.data.toList) := Lib.hid (by rw [← htt, ← hT]; show (ttR z1 z2 z3 (HsTo L k).length (CsTo L k).length (HsTo L k) (CsTo L k)).data.toList = _; rw [hl1, hl2])
          have HTr := Lib.hid hT
          have HX := Lib.hid X
          clear hl1 hl2 X htt hT
          have o0 := HI.out.bob.cell 0
          have o1 := HI.out.bob.cell 1
          have o2 := HI.out.bob.cell 2
          have o3 := HI.out.bob.cell 3
          have o4 := HI.out.bob.cell 4
          have f0 := HI.out.bob.free 0
          have f1 := HI.out.bob.free 1
          have f2 := HI.out.bob.free 2
          have f3 := HI.out.bob.free 3
          have f4 := HI.out.bob.free 4
          simp at o0 o1 o2 o3 o4
          by_cases he : tt = s
          case neg =>
            have HF : Hid (refT s.data.toList = none) := Lib.hid (by rw [HPR.out, if_neg (fun h => he (by apply ByteArray.ext; exact Array.toList_inj.1 (HTT.out.symm.trans h.1)))])
            have g : (tt.toList == s.toList) = false := by
              rw [beq_eq_false_iff_ne, Go.Lib.toList_data, Go.Lib.toList_data]
              exact fun e => he (by apply ByteArray.ext; exact Array.toList_inj.1 e)
            clear he
            go_wp2_with (go_at_call 13; refine HX.out.mono ?_; rintro e w8 ⟨rfl, hb8⟩; have s8 := hb8.size; have HI8 := Lib.hid (RInv.grow hb8 HI.out); have B8 := HI8.out.below; have r0 := HI8.out.rb.cell 0; have r1 := HI8.out.rb.cell 1; have r2 := HI8.out.rb.cell 2; have r3 := HI8.out.rb.cell 3; have r4 := HI8.out.rb.cell 4; have v0 := HI8.out.rb.free 0; have v1 := HI8.out.rb.free 1; have v2 := HI8.out.rb.free 2; have v3 := HI8.out.rb.free 3; have v4 := HI8.out.rb.free 4; simp at r0 r1 r2 r3 r4; clear hb8)
            exact bodyPost_ret (v := .tuple #[.agg #[.int .i64 0, .int .i64 0, .int .i64 0, .slice none 0 0, .slice none 0 0], .bool false]) (by simp [results, Tryd.results6, go_sem, r0, r1, r2, r3, r4]) rfl ⟨.inl ⟨HF.out, rfl⟩, (by repeat (first | with_reducible exact Below.refl _ _ | with_reducible assumption | (with_reducible refine Below.drew ?_) | (with_reducible refine below_drewN ?_ _) | ((with_reducible refine Below.alloc ?_ ?_ _); rotate_left; (focus first | exact Nat.le_refl _ | omega | (simp; done) | (simp; omega))) | ((with_reducible refine Below.setCell ?_ ?_ _); rotate_left; (focus first | exact Nat.le_refl _ | omega | (simp; done) | (simp; omega))) | ((with_reducible refine below_via (W := ?_) ?_ ?_ ?_); rotate_left; (with_reducible assumption); rotate_left; (focus first | exact Nat.le_refl _ | omega | (simp; done) | (simp; omega)))))⟩
          have g : (tt.toList == s.toList) = true := by rw [he]; simp
          have HHE := Lib.hid he
          clear he
          by_cases hs0 : s.data.toList = []
          case pos =>
            have HF : Hid (refT s.data.toList = none) := Lib.hid (by rw [HPR.out, if_neg (fun h => h.2 hs0)])
            have gv : s.toList.isEmpty = true := by rw [Go.Lib.toList_data, hs0]; rfl
            clear hs0
            go_wp2_with (go_at_call 13; refine HX.out.mono ?_; rintro e w8 ⟨rfl, hb8⟩; have s8 := hb8.size; have HI8 := Lib.hid (RInv.grow hb8 HI.out); have B8 := HI8.out.below; have r0 := HI8.out.rb.cell 0; have r1 := HI8.out.rb.cell 1; have r2 := HI8.out.rb.cell 2; have r3 := HI8.out.rb.cell 3; have r4 := HI8.out.rb.cell 4; have v0 := HI8.out.rb.free 0; have v1 := HI8.out.rb.free 1; have v2 := HI8.out.rb.free 2; have v3 := HI8.out.rb.free 3; have v4 := HI8.out.rb.free 4; simp at r0 r1 r2 r3 r4; clear hb8)
            exact bodyPost_ret (v := .tuple #[.agg #[.int .i64 0, .int .i64 0, .int .i64 0, .slice none 0 0, .slice none 0 0], .bool false]) (by simp [results, Tryd.results6, go_sem, r0, r1, r2, r3, r4]) rfl ⟨.inl ⟨HF.out, rfl⟩, (by repeat (first | with_reducible exact Below.refl _ _ | with_reducible assumption | (with_reducible refine Below.drew ?_) | (with_reducible refine below_drewN ?_ _) | ((with_reducible refine Below.alloc ?_ ?_ _); rotate_left; (focus first | exact Nat.le_refl _ | omega | (simp; done) | (simp; omega))) | ((with_reducible refine Below.setCell ?_ ?_ _); rotate_left; (focus first | exact Nat.le_refl _ | omega | (simp; done) | (simp; omega))) | ((with_reducible refine below_via (W := ?_) ?_ ?_ ?_); rotate_left; (with_reducible assumption); rotate_left; (focus first | exact Nat.le_refl _ | omega | (simp; done) | (simp; omega)))))⟩
          have HF : Hid (refT s.data.toList = some T) := Lib.hid (by rw [HPR.out, if_pos ⟨by rw [HTT.out, HHE.out], hs0⟩])
          have gv : s.toList.isEmpty = false := by rw [Go.Lib.toList_data]; cases hh : s.data.toList with | nil => exact absurd hh hs0 | cons a b => rfl
          clear hs0
          go_wp2_with (go_at_call 13; refine HX.out.mono ?_; rintro e w8 ⟨rfl, hb8⟩; have s8 := hb8.size; have HI8 := Lib.hid (RInv.grow hb8 HI.out); have B8 := HI8.out.below; have r0 := HI8.out.rb.cell 0; have r1 := HI8.out.rb.cell 1; have r2 := HI8.out.rb.cell 2; have r3 := HI8.out.rb.cell 3; have r4 := HI8.out.rb.cell 4; have v0 := HI8.out.rb.free 0; have v1 := HI8.out.rb.free 1; have v2 := HI8.out.rb.free 2; have v3 := HI8.out.rb.free 3; have v4 := HI8.out.rb.free 4; simp at r0 r1 r2 r3 r4; have o0 := HI8.out.bob.cell 0; have o1 := HI8.out.bob.cell 1; have o2 := HI8.out.bob.cell 2; have o3 := HI8.out.bob.cell 3; have o4 := HI8.out.bob.cell 4; have f0 := HI8.out.bob.free 0; have f1 := HI8.out.bob.free 1; have f2 := HI8.out.bob.free 2; have f3 := HI8.out.bob.free 3; have f4 := HI8.out.bob.free 4; simp at o0 o1 o2 o3 o4; clear hb8)
          refine ret_world fun W hW => ?_
          obtain ⟨c0, c1, c2, c3, c4⟩ := box5n (S := w8) r0 r1 r2 r3 r4 hW
          have hB := box5n_below (S := w8) B8 (Nat.le_refl _) hW
          refine bodyPost_ret (v := .tuple #[.agg #[.int .i64 z1, .int .i64 z2, .int .i64 z3, .slice P K1 p, .slice Q K2 qq], .bool true]) (by simp [results, Tryd.results6, go_sem, c0, c1, c2, c3, c4]) rfl ⟨.inr ⟨T, P, Q, K1, K2, p, qq, HF.out, by rw [← HTr.out], ?_, ?_, HI.out.ap⟩, hB⟩
          · rw [hW, ← HTr.out]
            exact Ow.lower (Ow.low _ (by omega) (Ow.low _ (by omega) (Ow.low _ (by omega) (Ow.low _ (by omega) (Ow.low _ (by omega) HI8.out.oP))))) (by omega)
          · rw [hW, ← HTr.out]
            exact Ow.lower (Ow.low _ (by omega) (Ow.low _ (by omega) (Ow.low _ (by omega) (Ow.low _ (by omega) (Ow.low _ (by omega) HI8.out.oQ))))) (by omega)

end Go.Proofs.YtemjjjjkokfjdaaDoor.WalkTf
