/- Terrains read: the reference's walk (printed by mkrt.py). -/
import Derived.Test.YtemjjjjkokfjdaaDoorWalkTa
import Derived.Test.YtemjjjjkokfjdaaDoorWalkCT
namespace Go.Proofs.YtemjjjjkokfjdaaDoor.WalkTd
open Go Go.RowKit Go.Proofs.YtemjjjjkokfjdaaDoor.Base Go.Proofs.YtemjjjjkokfjdaaDoor.Plain Go.Proofs.YtemjjjjkokfjdaaDoor.PlainT Go.Proofs.YtemjjjjkokfjdaaDoor.PlainTx Go.Proofs.YtemjjjjkokfjdaaDoor.PlainSp Go.Proofs.YtemjjjjkokfjdaaDoor.WalkN Go.Proofs.YtemjjjjkokfjdaaDoor.WalkP Go.Proofs.YtemjjjjkokfjdaaDoor.Words Go.Proofs.YtemjjjjkokfjdaaDoor.Ints Go.Proofs.YtemjjjjkokfjdaaDoor.WalkI Go.Proofs.YtemjjjjkokfjdaaDoor.WalkU Go.Proofs.YtemjjjjkokfjdaaDoor.WalkV Go.Proofs.YtemjjjjkokfjdaaDoor.WalkW Go.Proofs.YtemjjjjkokfjdaaDoor.Cells Go.Proofs.YtemjjjjkokfjdaaDoor.Text Go.Proofs.YtemjjjjkokfjdaaDoor.WalkRD Go.Proofs.YtemjjjjkokfjdaaDoor.WalkSp Go.Proofs.YtemjjjjkokfjdaaDoor.WalkSq Go.Proofs.YtemjjjjkokfjdaaDoor.WalkQ Go.Proofs.YtemjjjjkokfjdaaDoor.WalkSH Go.Proofs.YtemjjjjkokfjdaaDoor.WalkSI0 Go.Proofs.YtemjjjjkokfjdaaDoor.WalkAp Go.Proofs.YtemjjjjkokfjdaaDoor.WalkCT Go.Proofs.YtemjjjjkokfjdaaDoor.PlainRt Go.Proofs.YtemjjjjkokfjdaaDoor.PlainRu Go.Proofs.YtemjjjjkokfjdaaDoor.WalkTa Go.Proofs.YtemjjjjkokfjdaaDoor.WalkTb Go.Proofs.YtemjjjjkokfjdaaDoor.WalkTc
set_option linter.unusedVariables false
set_option linter.unusedSimpArgs false

set_option maxRecDepth 20000 in
set_option maxHeartbeats 8000000 in
theorem specRt (s : ByteArray) (w : World) (hs : s.size ≤ 1048576) : Calls Tryd.prog 5 #[.string s] w (GotT s.data.toList w) := by
  have S := Lib.hid (fun W => specSplit s 10 10 rfl W hs)
  obtain ⟨L, hL⟩ : ∃ L, splF 10 s.data.toList = L := ⟨_, rfl⟩
  have HP := Lib.hid (show ∀ k, (bs (L.getD k [])).size ≤ 1048576 from fun k => by rw [bs_size, ← hL]; have := piece_le 10 s k; omega)
  have hpos := splF_len_pos 10 s.data.toList
  rw [hL] at S hpos
  have HL := Lib.hid hL
  have S3 := Lib.hid (fun k W => specSplit (bs (L.getD k [])) 32 32 rfl W (HP.out k))
  obtain ⟨H, hH⟩ : ∃ H, splF 32 (L.getD 0 []) = H := ⟨_, rfl⟩
  have HH := Lib.hid hH
  have S2 := Lib.hid (fun W => S3.out 0 W)
  rw [bs_list, hH] at S2
  have HQ := Lib.hid (show ∀ k, (bs (H.getD k [])).size ≤ 9223372036854775807 from fun k => by rw [bs_size, ← hH]; have h1 := piece_le 32 (bs (L.getD 0 [])) k; have h2 := HP.out 0; rw [bs_list] at h1; omega)
  have N1 := Lib.hid (fun W => specNum (bs (H.getD 1 [])) W (HQ.out 1))
  have N2 := Lib.hid (fun W => specNum (bs (H.getD 2 [])) W (HQ.out 2))
  have N3 := Lib.hid (fun W => specNum (bs (H.getD 3 [])) W (HQ.out 3))
  rw [bs_list] at N1 N2 N3
  obtain ⟨z1, b1, e1, y1, m1, x1⟩ := rdV_form (H.getD 1 [])
  obtain ⟨z2, b2, e2, y2, m2, x2⟩ := rdV_form (H.getD 2 [])
  obtain ⟨z3, b3, e3, y3, m3, x3⟩ := rdV_form (H.getD 3 [])
  rw [e1] at N1
  rw [e2] at N2
  rw [e3] at N3
  have HY := Lib.hid (And.intro y1 (And.intro y2 y3))
  have HM := Lib.hid (And.intro m1 (And.intro m2 m3))
  obtain ⟨t0, ht0⟩ : ∃ t, bs (L.getD 0 []) = t := ⟨_, rfl⟩
  rw [ht0] at S2
  have HT := Lib.hid ht0
  obtain ⟨u0, hu0⟩ : ∃ t, bs (H.getD 0 []) = t := ⟨_, rfl⟩
  obtain ⟨u1, hu1⟩ : ∃ t, bs (H.getD 1 []) = t := ⟨_, rfl⟩
  obtain ⟨u2, hu2⟩ : ∃ t, bs (H.getD 2 []) = t := ⟨_, rfl⟩
  obtain ⟨u3, hu3⟩ : ∃ t, bs (H.getD 3 []) = t := ⟨_, rfl⟩
  rw [hu1] at N1
  rw [hu2] at N2
  rw [hu3] at N3
  have HU := Lib.hid (And.intro hu0 (And.intro hu1 (And.intro hu2 hu3)))
  obtain ⟨v, hv⟩ : ∃ t, bs (L.getD (L.length - 1) []) = t := ⟨_, rfl⟩
  have HV := Lib.hid hv
  clear x1 x2 x3 hL hH ht0 hu0 hu1 hu2 hu3 hv e1 e2 e3 y1 y2 y3 m1 m2 m3
  go_enter Tryd.func5, Tryd.ntmps5
  go_upto_region 2 with (go_at_call 14; refine (S.out _).mono ?_; rintro e w1 ⟨A, n, q, rfl, hn, ht, hb1⟩; have HN := Lib.hid hn; clear hn)
  have hn0 : 0 < n := by have := HN.out; omega
  have HT1 : Hid (Txs w1 (w.heap.size + 1) A n q L) := Lib.hid (Orw.lower ht (by simp))
  have KR : Blk w1 w.heap.size 24 #[.int .i64 0, .int .i64 0, .int .i64 0, .slice none 0 0, .slice none 0 0] := by (repeat (first | with_reducible assumption | (with_reducible refine Blk.drew ?_) | (with_reducible refine Blk.drewN ?_ _) | ((with_reducible refine Blk.new _ _ _ ?_); (focus first | rfl | (simp; done) | omega)) | (with_reducible refine Blk.alloc ?_ _) | ((with_reducible refine Blk.far ?_ _ ?_); rotate_left; (focus first | omega | (simp; done) | (simp; omega))) | ((with_reducible refine Blk.below (w := ?_) ?_ ?_); rotate_left; (with_reducible assumption))))
  have B1 : Below w.heap.size w w1 := (by repeat (first | with_reducible exact Below.refl _ _ | with_reducible assumption | (with_reducible refine Below.drew ?_) | (with_reducible refine below_drewN ?_ _) | ((with_reducible refine Below.alloc ?_ ?_ _); rotate_left; (focus first | exact Nat.le_refl _ | omega | (simp; done) | (simp; omega))) | ((with_reducible refine Below.setCell ?_ ?_ _); rotate_left; (focus first | exact Nat.le_refl _ | omega | (simp; done) | (simp; omega))) | ((with_reducible refine below_via (W := ?_) ?_ ?_ ?_); rotate_left; (with_reducible assumption); rotate_left; (focus first | exact Nat.le_refl _ | omega | (simp; done) | (simp; omega)))))
  have s1 := hb1.size
  simp at s1
  clear ht hpos hb1 S
  obtain ⟨gA, rfl, hgA, hgA2, cA, _⟩ := HT1.out.at_ (j := 0) (by omega)
  rw [sts_at (by have := HN.out; omega), HT.out] at cA
  have HKR := Lib.hid KR
  have r0 := KR.cell 0
  have r1 := KR.cell 1
  have r2 := KR.cell 2
  have r3 := KR.cell 3
  have r4 := KR.cell 4
  have v0 := KR.free 0
  have v1 := KR.free 1
  have v2 := KR.free 2
  have v3 := KR.free 3
  have v4 := KR.free 4
  simp at r0 r1 r2 r3 r4
  clear KR
  by_cases c1 : n < 2 ∨ 26 < n
  · have HF : Hid (refT s.data.toList = none) := Lib.hid (ref_1 HL.out (by have := HN.out; omega))
    rcases c1 with c | c
    · have g := decide_eq_true (show (n : Int) < 2 by omega)
      go_wp2_with fail
      exact bodyPost_ret (v := .tuple #[.agg #[.int .i64 0, .int .i64 0, .int .i64 0, .slice none 0 0, .slice none 0 0], .bool false]) (by simp [results, Tryd.results5, go_sem, r0, r1, r2, r3, r4]) rfl ⟨.inl ⟨HF.out, rfl⟩, (by repeat (first | with_reducible exact Below.refl _ _ | with_reducible assumption | (with_reducible refine Below.drew ?_) | (with_reducible refine below_drewN ?_ _) | ((with_reducible refine Below.alloc ?_ ?_ _); rotate_left; (focus first | exact Nat.le_refl _ | omega | (simp; done) | (simp; omega))) | ((with_reducible refine Below.setCell ?_ ?_ _); rotate_left; (focus first | exact Nat.le_refl _ | omega | (simp; done) | (simp; omega))) | ((with_reducible refine below_via (W := ?_) ?_ ?_ ?_); rotate_left; (with_reducible assumption); rotate_left; (focus first | exact Nat.le_refl _ | omega | (simp; done) | (simp; omega)))))⟩
    · have g0 := decide_eq_false (show ¬ (n : Int) < 2 by omega)
      have g := decide_eq_true (show (26 : Int) < (n : Int) by omega)
      go_wp2_with fail
      exact bodyPost_ret (v := .tuple #[.agg #[.int .i64 0, .int .i64 0, .int .i64 0, .slice none 0 0, .slice none 0 0], .bool false]) (by simp [results, Tryd.results5, go_sem, r0, r1, r2, r3, r4]) rfl ⟨.inl ⟨HF.out, rfl⟩, (by repeat (first | with_reducible exact Below.refl _ _ | with_reducible assumption | (with_reducible refine Below.drew ?_) | (with_reducible refine below_drewN ?_ _) | ((with_reducible refine Below.alloc ?_ ?_ _); rotate_left; (focus first | exact Nat.le_refl _ | omega | (simp; done) | (simp; omega))) | ((with_reducible refine Below.setCell ?_ ?_ _); rotate_left; (focus first | exact Nat.le_refl _ | omega | (simp; done) | (simp; omega))) | ((with_reducible refine below_via (W := ?_) ?_ ?_ ?_); rotate_left; (with_reducible assumption); rotate_left; (focus first | exact Nat.le_refl _ | omega | (simp; done) | (simp; omega)))))⟩
  have g0 := decide_eq_false (show ¬ (n : Int) < 2 by omega)
  have g1 := decide_eq_false (show ¬ (26 : Int) < (n : Int) by omega)
  clear r0 r1 r2 r3 r4 v0 v1 v2 v3 v4
  go_upto_region 5 with (go_at_call 14; refine (S2.out _).mono ?_; rintro e w2 ⟨B, m, q2, rfl, hm, ht, hb2⟩; have HN2 := Lib.hid hm; clear hm)
  have HT2 : Hid (Txs w2 (w.heap.size + 1) B m q2 H) := Lib.hid (Orw.lower ht (by omega))
  have HB2 : Hid (∀ x, B = some x → w1.heap.size ≤ x.block) := Lib.hid (fun x e => (Orw.block ht e).1)
  have HT1' : Hid (Txs w2 (w.heap.size + 1) (some ⟨gA, 0, none⟩) n q L) := Lib.hid (Orw.below hb2 HT1.out)
  have KR : Blk w2 w.heap.size 24 #[.int .i64 0, .int .i64 0, .int .i64 0, .slice none 0 0, .slice none 0 0] := Blk.below hb2 HKR.out
  have B2 : Below w.heap.size w w2 := below_via hb2 B1 (by omega)
  have s2 := hb2.size
  clear ht hb2 S2 cA HKR HT1 B1 g0 g1
  have HKR := Lib.hid KR
  have r0 := KR.cell 0
  have r1 := KR.cell 1
  have r2 := KR.cell 2
  have r3 := KR.cell 3
  have r4 := KR.cell 4
  have v0 := KR.free 0
  have v1 := KR.free 1
  have v2 := KR.free 2
  have v3 := KR.free 3
  have v4 := KR.free 4
  simp at r0 r1 r2 r3 r4
  clear KR
  by_cases c2 : m = 4
  case neg =>
    have HF : Hid (refT s.data.toList = none) := Lib.hid (ref_2 HL.out HH.out (.inl (by have := HN2.out; omega)))
    have g : ((m : Int) != 4) = true := by simp; omega
    go_wp2_with fail
    exact bodyPost_ret (v := .tuple #[.agg #[.int .i64 0, .int .i64 0, .int .i64 0, .slice none 0 0, .slice none 0 0], .bool false]) (by simp [results, Tryd.results5, go_sem, r0, r1, r2, r3, r4]) rfl ⟨.inl ⟨HF.out, rfl⟩, (by repeat (first | with_reducible exact Below.refl _ _ | with_reducible assumption | (with_reducible refine Below.drew ?_) | (with_reducible refine below_drewN ?_ _) | ((with_reducible refine Below.alloc ?_ ?_ _); rotate_left; (focus first | exact Nat.le_refl _ | omega | (simp; done) | (simp; omega))) | ((with_reducible refine Below.setCell ?_ ?_ _); rotate_left; (focus first | exact Nat.le_refl _ | omega | (simp; done) | (simp; omega))) | ((with_reducible refine below_via (W := ?_) ?_ ?_ ?_); rotate_left; (with_reducible assumption); rotate_left; (focus first | exact Nat.le_refl _ | omega | (simp; done) | (simp; omega)))))⟩
  subst c2
  obtain ⟨gB, rfl, hgB, hgB2, cB0, _⟩ := HT2.out.at_ (j := 0) (by omega)
  have cB1 := HT2.out.cell (j := 1) (by omega)
  have cB2 := HT2.out.cell (j := 2) (by omega)
  have cB3 := HT2.out.cell (j := 3) (by omega)
  rw [sts_at (by have := HN2.out; omega)] at cB0 cB1 cB2 cB3
  rw [HU.out.1] at cB0
  rw [HU.out.2.1] at cB1
  rw [HU.out.2.2.1] at cB2
  rw [HU.out.2.2.2] at cB3
  by_cases c3 : H.getD 0 [] = ter8
  case neg =>
    have HF : Hid (refT s.data.toList = none) := Lib.hid (ref_2 HL.out HH.out (.inr (.inl c3)))
    have g : (u0.toList == [116, 101, 114, 114, 97, 105, 110]) = false := by rw [str_eq, ← HU.out.1, bs_list]; exact decide_eq_false c3
    clear c3
    go_wp2_with fail
    exact bodyPost_ret (v := .tuple #[.agg #[.int .i64 0, .int .i64 0, .int .i64 0, .slice none 0 0, .slice none 0 0], .bool false]) (by simp [results, Tryd.results5, go_sem, r0, r1, r2, r3, r4]) rfl ⟨.inl ⟨HF.out, rfl⟩, (by repeat (first | with_reducible exact Below.refl _ _ | with_reducible assumption | (with_reducible refine Below.drew ?_) | (with_reducible refine below_drewN ?_ _) | ((with_reducible refine Below.alloc ?_ ?_ _); rotate_left; (focus first | exact Nat.le_refl _ | omega | (simp; done) | (simp; omega))) | ((with_reducible refine Below.setCell ?_ ?_ _); rotate_left; (focus first | exact Nat.le_refl _ | omega | (simp; done) | (simp; omega))) | ((with_reducible refine below_via (W := ?_) ?_ ?_ ?_); rotate_left; (with_reducible assumption); rotate_left; (focus first | exact Nat.le_refl _ | omega | (simp; done) | (simp; omega)))))⟩
  have g : (u0.toList == [116, 101, 114, 114, 97, 105, 110]) = true := by rw [str_eq, ← HU.out.1, bs_list]; exact decide_eq_true c3
  have HC3 := Lib.hid c3
  clear c3
  obtain ⟨n1, hn1⟩ : ∃ k, n = k + 1 := ⟨n - 1, by omega⟩
  have HN1 := Lib.hid hn1
  have ew : IntKind.i64.wrap ((n : Int) - 1) = (n1 : Int) := by rw [show (n : Int) - 1 = (n1 : Int) by omega]; exact IntWalk.i64_in _ (by omega)
  have hlt1 : n1 < n := by omega
  clear hn1
  have cL := HT1'.out.cell (j := n1) (by omega)
  rw [sts_at (by have := HN.out; omega), show n1 = L.length - 1 by have := HN.out; have := HN1.out; omega, HV.out, ← show n1 = L.length - 1 by have := HN.out; have := HN1.out; omega] at cL
  by_cases c4 : L.getD (L.length - 1) [] = []
  case neg =>
    have HF : Hid (refT s.data.toList = none) := Lib.hid (ref_2 HL.out HH.out (.inr (.inr c4)))
    have gv : v.toList.isEmpty = false := by rw [Go.Lib.toList_data, ← HV.out, bs_list]; cases hh : L.getD (L.length - 1) [] with | nil => exact absurd hh c4 | cons a b => rfl
    clear c4
    go_wp2_with fail
    exact bodyPost_ret (v := .tuple #[.agg #[.int .i64 0, .int .i64 0, .int .i64 0, .slice none 0 0, .slice none 0 0], .bool false]) (by simp [results, Tryd.results5, go_sem, r0, r1, r2, r3, r4]) rfl ⟨.inl ⟨HF.out, rfl⟩, (by repeat (first | with_reducible exact Below.refl _ _ | with_reducible assumption | (with_reducible refine Below.drew ?_) | (with_reducible refine below_drewN ?_ _) | ((with_reducible refine Below.alloc ?_ ?_ _); rotate_left; (focus first | exact Nat.le_refl _ | omega | (simp; done) | (simp; omega))) | ((with_reducible refine Below.setCell ?_ ?_ _); rotate_left; (focus first | exact Nat.le_refl _ | omega | (simp; done) | (simp; omega))) | ((with_reducible refine below_via (W := ?_) ?_ ?_ ?_); rotate_left; (with_reducible assumption); rotate_left; (focus first | exact Nat.le_refl _ | omega | (simp; done) | (simp; omega)))))⟩
  have gv : v.toList.isEmpty = true := by rw [Go.Lib.toList_data, ← HV.out, bs_list, c4]; rfl
  have HC4 := Lib.hid c4
  clear c4
  go_upto_region 8 with (go_at_call 15; refine (N1.out _).mono ?_; rintro e w' ⟨rfl, rfl⟩)
  go_upto_region 9 with (go_at_call 15; refine (N2.out _).mono ?_; rintro e w' ⟨rfl, rfl⟩)
  go_upto_region 10 with (go_at_call 15; refine (N3.out _).mono ?_; rintro e w' ⟨rfl, rfl⟩)
  clear g gv ew cL cB0 cB1 cB2 cB3 N1 N2 N3
  cases b1
  case false =>
    have HF : Hid (refT s.data.toList = none) := Lib.hid (ref_3 HL.out HH.out (.inl (HM.out.1 rfl)))
    go_wp2_with fail
    exact bodyPost_ret (v := .tuple #[.agg #[.int .i64 0, .int .i64 0, .int .i64 0, .slice none 0 0, .slice none 0 0], .bool false]) (by simp [results, Tryd.results5, go_sem, r0, r1, r2, r3, r4]) rfl ⟨.inl ⟨HF.out, rfl⟩, (by repeat (first | with_reducible exact Below.refl _ _ | with_reducible assumption | (with_reducible refine Below.drew ?_) | (with_reducible refine below_drewN ?_ _) | ((with_reducible refine Below.alloc ?_ ?_ _); rotate_left; (focus first | exact Nat.le_refl _ | omega | (simp; done) | (simp; omega))) | ((with_reducible refine Below.setCell ?_ ?_ _); rotate_left; (focus first | exact Nat.le_refl _ | omega | (simp; done) | (simp; omega))) | ((with_reducible refine below_via (W := ?_) ?_ ?_ ?_); rotate_left; (with_reducible assumption); rotate_left; (focus first | exact Nat.le_refl _ | omega | (simp; done) | (simp; omega)))))⟩
  cases b2
  case false =>
    have HF : Hid (refT s.data.toList = none) := Lib.hid (ref_3 HL.out HH.out (.inr (.inl (HM.out.2.1 rfl))))
    go_wp2_with fail
    exact bodyPost_ret (v := .tuple #[.agg #[.int .i64 0, .int .i64 0, .int .i64 0, .slice none 0 0, .slice none 0 0], .bool false]) (by simp [results, Tryd.results5, go_sem, r0, r1, r2, r3, r4]) rfl ⟨.inl ⟨HF.out, rfl⟩, (by repeat (first | with_reducible exact Below.refl _ _ | with_reducible assumption | (with_reducible refine Below.drew ?_) | (with_reducible refine below_drewN ?_ _) | ((with_reducible refine Below.alloc ?_ ?_ _); rotate_left; (focus first | exact Nat.le_refl _ | omega | (simp; done) | (simp; omega))) | ((with_reducible refine Below.setCell ?_ ?_ _); rotate_left; (focus first | exact Nat.le_refl _ | omega | (simp; done) | (simp; omega))) | ((with_reducible refine below_via (W := ?_) ?_ ?_ ?_); rotate_left; (with_reducible assumption); rotate_left; (focus first | exact Nat.le_refl _ | omega | (simp; done) | (simp; omega)))))⟩
  cases b3
  case false =>
    have HF : Hid (refT s.data.toList = none) := Lib.hid (ref_3 HL.out HH.out (.inr (.inr (HM.out.2.2 rfl))))
    go_wp2_with fail
    exact bodyPost_ret (v := .tuple #[.agg #[.int .i64 0, .int .i64 0, .int .i64 0, .slice none 0 0, .slice none 0 0], .bool false]) (by simp [results, Tryd.results5, go_sem, r0, r1, r2, r3, r4]) rfl ⟨.inl ⟨HF.out, rfl⟩, (by repeat (first | with_reducible exact Below.refl _ _ | with_reducible assumption | (with_reducible refine Below.drew ?_) | (with_reducible refine below_drewN ?_ _) | ((with_reducible refine Below.alloc ?_ ?_ _); rotate_left; (focus first | exact Nat.le_refl _ | omega | (simp; done) | (simp; omega))) | ((with_reducible refine Below.setCell ?_ ?_ _); rotate_left; (focus first | exact Nat.le_refl _ | omega | (simp; done) | (simp; omega))) | ((with_reducible refine below_via (W := ?_) ?_ ?_ ?_); rotate_left; (with_reducible assumption); rotate_left; (focus first | exact Nat.le_refl _ | omega | (simp; done) | (simp; omega)))))⟩
  have HNM := Lib.hid (And.intro (HY.out.1 rfl) (And.intro (HY.out.2.1 rfl) (HY.out.2.2 rfl)))
  have SZ := Lib.hid (fun W => specSize z1 z2 z3 W)
  cases hz : sizeB z1 z2 z3
  case false =>
    have HF : Hid (refT s.data.toList = none) := Lib.hid (ref_4 HL.out HH.out HNM.out.1 HNM.out.2.1 HNM.out.2.2 (.inl (fun h => by rw [hz] at h; cases h.1)))
    rw [hz] at SZ
    clear hz
    go_wp2_with (go_at_call 16; refine (SZ.out _).mono ?_; rintro e w' ⟨rfl, rfl⟩)
    exact bodyPost_ret (v := .tuple #[.agg #[.int .i64 0, .int .i64 0, .int .i64 0, .slice none 0 0, .slice none 0 0], .bool false]) (by simp [results, Tryd.results5, go_sem, r0, r1, r2, r3, r4]) rfl ⟨.inl ⟨HF.out, rfl⟩, (by repeat (first | with_reducible exact Below.refl _ _ | with_reducible assumption | (with_reducible refine Below.drew ?_) | (with_reducible refine below_drewN ?_ _) | ((with_reducible refine Below.alloc ?_ ?_ _); rotate_left; (focus first | exact Nat.le_refl _ | omega | (simp; done) | (simp; omega))) | ((with_reducible refine Below.setCell ?_ ?_ _); rotate_left; (focus first | exact Nat.le_refl _ | omega | (simp; done) | (simp; omega))) | ((with_reducible refine below_via (W := ?_) ?_ ?_ ?_); rotate_left; (with_reducible assumption); rotate_left; (focus first | exact Nat.le_refl _ | omega | (simp; done) | (simp; omega)))))⟩
  have tb := sizeB_yes hz
  rw [hz] at SZ
  have HZ := Lib.hid hz
  clear hz
  obtain ⟨N, rfl⟩ : ∃ N : Nat, z3 = (N : Int) := ⟨z3.toNat, by omega⟩
  have ew : IntKind.i64.wrap ((N : Int) + 2) = (N : Int) + 2 := IntWalk.i64_in _ (by omega)
  by_cases c5 : n = N + 2
  case neg =>
    have HF : Hid (refT s.data.toList = none) := Lib.hid (ref_4 HL.out HH.out HNM.out.1 HNM.out.2.1 HNM.out.2.2 (.inl (fun h => by have := HN.out; have := h.2; omega)))
    have g : ((n : Int) != (N : Int) + 2) = true := by simp; omega
    clear tb
    go_wp2_with (go_at_call 16; refine (SZ.out _).mono ?_; rintro e w' ⟨rfl, rfl⟩)
    exact bodyPost_ret (v := .tuple #[.agg #[.int .i64 0, .int .i64 0, .int .i64 0, .slice none 0 0, .slice none 0 0], .bool false]) (by simp [results, Tryd.results5, go_sem, r0, r1, r2, r3, r4]) rfl ⟨.inl ⟨HF.out, rfl⟩, (by repeat (first | with_reducible exact Below.refl _ _ | with_reducible assumption | (with_reducible refine Below.drew ?_) | (with_reducible refine below_drewN ?_ _) | ((with_reducible refine Below.alloc ?_ ?_ _); rotate_left; (focus first | exact Nat.le_refl _ | omega | (simp; done) | (simp; omega))) | ((with_reducible refine Below.setCell ?_ ?_ _); rotate_left; (focus first | exact Nat.le_refl _ | omega | (simp; done) | (simp; omega))) | ((with_reducible refine below_via (W := ?_) ?_ ?_ ?_); rotate_left; (with_reducible assumption); rotate_left; (focus first | exact Nat.le_refl _ | omega | (simp; done) | (simp; omega)))))⟩
  have g : ((n : Int) != (N : Int) + 2) = false := by simp; omega
  have HC5 := Lib.hid c5
  have HLN : Hid (L.length = N + 2) := Lib.hid (by have := HN.out; omega)
  obtain ⟨hzN, hw0, hw1⟩ : N ≤ 24 ∧ 2 ≤ z2 ∧ z2 ≤ 24 := by omega
  clear c5 tb r0 r1 r2 r3 r4 v0 v1 v2 v3 v4 c1
  obtain ⟨ob, hob0⟩ : ∃ k, w2.heap.size = k := ⟨_, rfl⟩
  have HI00 : Hid (RInv w (w2.alloc (.cells #[.int .i64 z1, .int .i64 z2, .int .i64 (N : Int), .slice none 0 0, .slice none 0 0] 24)) ob z1 z2 (N : Int) 0 0 [] [] none none 0 0 (some ⟨gA, 0, none⟩) n q L) := Lib.hid ⟨(by repeat (first | with_reducible exact Below.refl _ _ | with_reducible assumption | (with_reducible refine Below.drew ?_) | (with_reducible refine below_drewN ?_ _) | ((with_reducible refine Below.alloc ?_ ?_ _); rotate_left; (focus first | exact Nat.le_refl _ | omega | (simp; done) | (simp; omega))) | ((with_reducible refine Below.setCell ?_ ?_ _); rotate_left; (focus first | exact Nat.le_refl _ | omega | (simp; done) | (simp; omega))) | ((with_reducible refine below_via (W := ?_) ?_ ?_ ?_); rotate_left; (with_reducible assumption); rotate_left; (focus first | exact Nat.le_refl _ | omega | (simp; done) | (simp; omega))))), by omega, Ow.nil _ _, Ow.nil _ _, Ap.none_l _, Blk.new _ _ _ hob0.symm, Blk.alloc HKR.out _, Orw.alloc (Orw.lower HT1'.out (Nat.zero_le _)) _, fun x e => by injection e with e; subst e; show gA < ob ∧ w.heap.size < gA; omega⟩
  go_wp2_with (go_at_call 16; refine (SZ.out _).mono ?_; rintro e w' ⟨rfl, rfl⟩)
  clear g ew
  go_loopw [13] (fun yv wr => ∃ (y K1 K2 p qq : Nat) (P Q : Option Addr) (ZP ZQ : List Int), yv = .int .i64 (y : Int) ∧ 1 ≤ y ∧ y ≤ N + 1 ∧ K1 ≤ 24 * y ∧ K2 ≤ 24 * y ∧ Hid (RowsTo z2 L N y ZP ZQ) ∧ Hid (RInv w wr ob z1 z2 (N : Int) K1 K2 ZP ZQ P Q p qq (some ⟨gA, 0, none⟩) n q L)) (fun yv _ => N + 1 - (intOf yv).toNat)
  case atStart => exact ⟨1, 0, 0, 0, 0, none, none, [], [], rfl, by omega, by omega, by omega, by omega, Lib.hid (rows_start _ _ _), HI00⟩
  case round =>
    obtain ⟨y, K1, K2, p, qq, P, Q, ZP, ZQ, rfl, hy1, hy2, hk1, hk2, HR, HI⟩ := hrel
    clear HI00 HKR SZ HT2 HB2 HT1' hob0 B2
    have hob := HI.out.hob
    have hobl := HI.out.bob.lt
    by_cases hlt : y ≤ N
    · have cy := HI.out.tx.cell (j := y) (by have := HC5.out; omega)
      rw [sts_at (by have := HLN.out; omega)] at cy
      have hyn : y < n := by have := HC5.out; omega
      have D := fun W => S3.out y W
      rw [bs_list] at D
      obtain ⟨ps, hps⟩ : ∃ x, splF 32 (L.getD y []) = x := ⟨_, rfl⟩
      have HX := Lib.hid (show ∀ k, (bs (ps.getD k [])).size ≤ 1048576 from fun k => by rw [bs_size, ← hps]; have h1 := piece_le 32 (bs (L.getD y [])) k; have h2 := HP.out y; rw [bs_list] at h1; omega)
      rw [hps] at D
      have HPS := Lib.hid hps
      obtain ⟨ty, hty⟩ : ∃ t, bs (L.getD y []) = t := ⟨_, rfl⟩
      rw [hty] at cy D
      have HD := Lib.hid D
      have HST : Hid (rowF z2 (L.getD y []) = none → refT s.data.toList = none) := Lib.hid (fun h => ref_stop HL.out HH.out HNM.out.1 HNM.out.2.1 HNM.out.2.2 HLN.out hy1 hlt h)
      clear hty hps D
      go_upto_region 17 with (go_at_call 14; refine (HD.out _).mono ?_; rintro e w3 ⟨B, m, q3, rfl, hm, ht, hb3⟩; have HN3 := Lib.hid hm; clear hm)
      have s3 := hb3.size
      have HT3 := Lib.hid ht
      have HI3 := Lib.hid (RInv.grow hb3 HI.out)
      have B3 := HI3.out.below
      clear ht hb3 HD cy
      by_cases c6 : m = 2
      case neg =>
        have HF : Hid (refT s.data.toList = none) := Lib.hid (HST.out (rowF_len (by rw [HPS.out]; have := HN3.out; omega)))
        have g : ((m : Int) != 2) = true := by simp; omega
        have r0 := HI3.out.rb.cell 0
        have r1 := HI3.out.rb.cell 1
        have r2 := HI3.out.rb.cell 2
        have r3 := HI3.out.rb.cell 3
        have r4 := HI3.out.rb.cell 4
        have v0 := HI3.out.rb.free 0
        have v1 := HI3.out.rb.free 1
        have v2 := HI3.out.rb.free 2
        have v3 := HI3.out.rb.free 3
        have v4 := HI3.out.rb.free 4
        simp at r0 r1 r2 r3 r4
        go_wp2_with fail
        exact bodyPost_ret (v := .tuple #[.agg #[.int .i64 0, .int .i64 0, .int .i64 0, .slice none 0 0, .slice none 0 0], .bool false]) (by simp [results, Tryd.results5, go_sem, r0, r1, r2, r3, r4]) rfl ⟨.inl ⟨HF.out, rfl⟩, (by repeat (first | with_reducible exact Below.refl _ _ | with_reducible assumption | (with_reducible refine Below.drew ?_) | (with_reducible refine below_drewN ?_ _) | ((with_reducible refine Below.alloc ?_ ?_ _); rotate_left; (focus first | exact Nat.le_refl _ | omega | (simp; done) | (simp; omega))) | ((with_reducible refine Below.setCell ?_ ?_ _); rotate_left; (focus first | exact Nat.le_refl _ | omega | (simp; done) | (simp; omega))) | ((with_reducible refine below_via (W := ?_) ?_ ?_ ?_); rotate_left; (with_reducible assumption); rotate_left; (focus first | exact Nat.le_refl _ | omega | (simp; done) | (simp; omega)))))⟩
      subst c6
      obtain ⟨gC, rfl, hgC, hgC2, d0, _⟩ := HT3.out.at_ (j := 0) (by omega)
      have d1 := HT3.out.cell (j := 1) (by omega)
      rw [sts_at (by have := HN3.out; omega)] at d0 d1
      have R1 := fun W => specRl (bs (ps.getD 0 [])) W (HX.out 0)
      have R2 := fun W => specRl (bs (ps.getD 1 [])) W (HX.out 1)
      rw [bs_list] at R1 R2
      obtain ⟨x0, hx0⟩ : ∃ t, bs (ps.getD 0 []) = t := ⟨_, rfl⟩
      obtain ⟨x1, hx1⟩ : ∃ t, bs (ps.getD 1 []) = t := ⟨_, rfl⟩
      rw [hx0] at d0 R1
      rw [hx1] at d1 R2
      have HR1 := Lib.hid R1
      have HR2 := Lib.hid R2
      clear hx0 hx1 R1 R2
      go_upto_region 20 with (go_at_call 17; refine (HR1.out _).mono ?_; rintro e w4 ⟨hg4, hb4⟩; obtain ⟨zs1, A1, a1, q1, f1, rfl, o1, ya1, na1, xa1⟩ := got_form hg4; have HO1 := Lib.hid o1; have HA1 := Lib.hid (And.intro ya1 na1); clear hg4 o1 ya1 na1 xa1; have d1' := keep_below hb4 d1)
      have s4 := hb4.size
      have HI4 := Lib.hid (RInv.grow hb4 HI3.out)
      clear hb4 HR1 d0 d1 B3 HI3
      go_upto_region 21 with (go_at_call 17; refine (HR2.out _).mono ?_; rintro e w5 ⟨hg5, hb5⟩; obtain ⟨zs2, A2, a2, q2, f2, rfl, o2, ya2, na2, xa2⟩ := got_form hg5; have HO2 := Lib.hid o2; have HA2 := Lib.hid (And.intro ya2 na2); clear hg5 o2 ya2 na2 xa2)
      have s5 := hb5.size
      have HI5 := Lib.hid (RInv.grow hb5 HI4.out)
      have HO1' := Lib.hid (Ow.below hb5 HO1.out)
      have B5 := HI5.out.below
      clear hb5 HR2 d1' HI4 HO1
      have r0 := HI5.out.rb.cell 0
      have r1 := HI5.out.rb.cell 1
      have r2 := HI5.out.rb.cell 2
      have r3 := HI5.out.rb.cell 3
      have r4 := HI5.out.rb.cell 4
      have v0 := HI5.out.rb.free 0
      have v1 := HI5.out.rb.free 1
      have v2 := HI5.out.rb.free 2
      have v3 := HI5.out.rb.free 3
      have v4 := HI5.out.rb.free 4
      simp at r0 r1 r2 r3 r4
      cases f1
      case false =>
        have HF : Hid (refT s.data.toList = none) := Lib.hid (HST.out (rowF_a (by rw [HPS.out]; exact HA1.out.2 rfl)))
        go_wp2_with fail
        exact bodyPost_ret (v := .tuple #[.agg #[.int .i64 0, .int .i64 0, .int .i64 0, .slice none 0 0, .slice none 0 0], .bool false]) (by simp [results, Tryd.results5, go_sem, r0, r1, r2, r3, r4]) rfl ⟨.inl ⟨HF.out, rfl⟩, (by repeat (first | with_reducible exact Below.refl _ _ | with_reducible assumption | (with_reducible refine Below.drew ?_) | (with_reducible refine below_drewN ?_ _) | ((with_reducible refine Below.alloc ?_ ?_ _); rotate_left; (focus first | exact Nat.le_refl _ | omega | (simp; done) | (simp; omega))) | ((with_reducible refine Below.setCell ?_ ?_ _); rotate_left; (focus first | exact Nat.le_refl _ | omega | (simp; done) | (simp; omega))) | ((with_reducible refine below_via (W := ?_) ?_ ?_ ?_); rotate_left; (with_reducible assumption); rotate_left; (focus first | exact Nat.le_refl _ | omega | (simp; done) | (simp; omega)))))⟩
      cases f2
      case false =>
        have HF : Hid (refT s.data.toList = none) := Lib.hid (HST.out (rowF_b (by rw [HPS.out]; exact HA2.out.2 rfl)))
        go_wp2_with fail
        exact bodyPost_ret (v := .tuple #[.agg #[.int .i64 0, .int .i64 0, .int .i64 0, .slice none 0 0, .slice none 0 0], .bool false]) (by simp [results, Tryd.results5, go_sem, r0, r1, r2, r3, r4]) rfl ⟨.inl ⟨HF.out, rfl⟩, (by repeat (first | with_reducible exact Below.refl _ _ | with_reducible assumption | (with_reducible refine Below.drew ?_) | (with_reducible refine below_drewN ?_ _) | ((with_reducible refine Below.alloc ?_ ?_ _); rotate_left; (focus first | exact Nat.le_refl _ | omega | (simp; done) | (simp; omega))) | ((with_reducible refine Below.setCell ?_ ?_ _); rotate_left; (focus first | exact Nat.le_refl _ | omega | (simp; done) | (simp; omega))) | ((with_reducible refine below_via (W := ?_) ?_ ?_ ?_); rotate_left; (with_reducible assumption); rotate_left; (focus first | exact Nat.le_refl _ | omega | (simp; done) | (simp; omega)))))⟩
      have HE1 := Lib.hid (HA1.out.1 rfl)
      have HE2 := Lib.hid (HA2.out.1 rfl)
      have L1 := HO1'.out.len
      have L2 := HO2.out.len
      have HL1 := Lib.hid L1
      have HL2 := Lib.hid L2
      clear HA1 HA2 L1 L2
      by_cases c7 : (a1 : Int) = z2
      case neg =>
        have HF : Hid (refT s.data.toList = none) := Lib.hid (HST.out (rowF_w (by rw [HPS.out]; exact HE1.out) (by rw [HPS.out]; exact HE2.out) (fun h => c7 (by have := HL1.out; have := h.1; omega))))
        have g : ((a1 : Int) != z2) = true := by simp; exact c7
        go_wp2_with fail
        exact bodyPost_ret (v := .tuple #[.agg #[.int .i64 0, .int .i64 0, .int .i64 0, .slice none 0 0, .slice none 0 0], .bool false]) (by simp [results, Tryd.results5, go_sem, r0, r1, r2, r3, r4]) rfl ⟨.inl ⟨HF.out, rfl⟩, (by repeat (first | with_reducible exact Below.refl _ _ | with_reducible assumption | (with_reducible refine Below.drew ?_) | (with_reducible refine below_drewN ?_ _) | ((with_reducible refine Below.alloc ?_ ?_ _); rotate_left; (focus first | exact Nat.le_refl _ | omega | (simp; done) | (simp; omega))) | ((with_reducible refine Below.setCell ?_ ?_ _); rotate_left; (focus first | exact Nat.le_refl _ | omega | (simp; done) | (simp; omega))) | ((with_reducible refine below_via (W := ?_) ?_ ?_ ?_); rotate_left; (with_reducible assumption); rotate_left; (focus first | exact Nat.le_refl _ | omega | (simp; done) | (simp; omega)))))⟩
      by_cases c8 : (a2 : Int) = z2
      case neg =>
        have HF : Hid (refT s.data.toList = none) := Lib.hid (HST.out (rowF_w (by rw [HPS.out]; exact HE1.out) (by rw [HPS.out]; exact HE2.out) (fun h => c8 (by have := HL2.out; have := h.2; omega))))
        have g : ((a1 : Int) != z2) = false := by simp; exact c7
        have g2 : ((a2 : Int) != z2) = true := by simp; exact c8
        go_wp2_with fail
        exact bodyPost_ret (v := .tuple #[.agg #[.int .i64 0, .int .i64 0, .int .i64 0, .slice none 0 0, .slice none 0 0], .bool false]) (by simp [results, Tryd.results5, go_sem, r0, r1, r2, r3, r4]) rfl ⟨.inl ⟨HF.out, rfl⟩, (by repeat (first | with_reducible exact Below.refl _ _ | with_reducible assumption | (with_reducible refine Below.drew ?_) | (with_reducible refine below_drewN ?_ _) | ((with_reducible refine Below.alloc ?_ ?_ _); rotate_left; (focus first | exact Nat.le_refl _ | omega | (simp; done) | (simp; omega))) | ((with_reducible refine Below.setCell ?_ ?_ _); rotate_left; (focus first | exact Nat.le_refl _ | omega | (simp; done) | (simp; omega))) | ((with_reducible refine below_via (W := ?_) ?_ ?_ ?_); rotate_left; (with_reducible assumption); rotate_left; (focus first | exact Nat.le_refl _ | omega | (simp; done) | (simp; omega)))))⟩
      have g : ((a1 : Int) != z2) = false := by simp; exact c7
      have g2 : ((a2 : Int) != z2) = false := by simp; exact c8
      have hy9 : y + 1 = y + 1 := rfl
      obtain ⟨y', hy'⟩ : ∃ k, k = y + 1 := ⟨_, rfl⟩
      have HRN : Hid (RowsTo z2 L N y' (ZP ++ zs1) (ZQ ++ zs2)) := Lib.hid (rows_next HLN.out hy1 hlt hy' HR.out (rowF_mk (a := ps.getD 0 []) (b := ps.getD 1 []) (by rw [HPS.out]; exact PlainRt.two_of [] (by have := HN3.out; omega)) HE1.out HE2.out (by rw [HL1.out]; exact c7) (by rw [HL2.out]; exact c8)))
      have hA1 : a1 ≤ 24 ∧ 0 < a1 := by omega
      have hA2 : a2 ≤ 24 ∧ 0 < a2 := by omega
      clear c7 c8 hy9
      go_upto_region 23 with fail
      clear g g2 r0 r1 r2 r3 r4 v0 v1 v2 v3 v4
      obtain ⟨i9, hI, hz0, hz1, hz2⟩ := info_parts WalkQ.infoI
      obtain ⟨g1, rfl, hg1, hg1', _, _⟩ := ow_at HO1'.out (i := 0) (by omega)
      obtain ⟨g2, rfl, hg2, hg2', _, _⟩ := ow_at HO2.out (i := 0) (by omega)
      have o3 := HI5.out.bob.cell 3
      have u3 := HI5.out.bob.free 3
      simp at o3
      have RNH := Lib.hid (And.intro (rd_news HO1'.out.rd) (And.intro (vals_one zs1) (show (vals zs1).length = a1 * 1 by rw [vals_len, HL1.out, Nat.mul_one])))
      have BN := Lib.hid (show K1 + a1 ≤ maxLen ∧ (K1 + a1) * 8 ≤ 140737488355328 ∧ ob + 1 ≤ w5.heap.size by unfold maxLen; omega)
      go_upto_region 24 with (at_builtin; refine wpList_append_own_at _ rfl _ _ 22 rfl (ob + 1) 2 i9 (.int .i64 0) 1 8 Tryd.underlying22 hI hz0 hz1 hz2 rfl (Nat.le_refl 1) (.slice P K1 p) K1 (vals ZP) rfl HI5.out.oP ⟨g1, 0, none⟩ a1 q1 (vals zs1) rfl RNH.out.2.2 RNH.out.1 RNH.out.2.1 BN.out.1 BN.out.2.1 BN.out.2.2 ?_; intro v' w6 hown hgrow hnil hat; rw [← vals_app] at hown; obtain ⟨B', q', rfl, ho⟩ := row_form0 hown; have gg := gr_own hgrow; have KO1 := blk_gr gg (fun a e => by have h := HI5.out.oP.block e; omega) HI5.out.bob; have o31 := KO1.cell 3; have u31 := KO1.free 3; have o41 := KO1.cell 4; have u41 := KO1.free 4; simp at o31 o41; have HG := Lib.hid gg; have HO := Lib.hid ho; have HW := Lib.hid (at_where hat); clear hown hgrow gg ho KO1 hnil hat)
      have HI6 := Lib.hid (RInv.left HI5.out HG.out HO.out HW.out)
      have s6 := HG.out.size
      have HO2' : Hid (Ow (w6.setCell ⟨ob, 3, none⟩ (.slice B' (K1 + a1) q')) w4.heap.size (some ⟨g2, 0, none⟩) a2 q2 zs2) := Lib.hid (Ow.low _ (by omega) (Ow.gr HO2.out HG.out (Ap.symm (Ap.of_lt HI.out.oP HO2.out (by omega)))))
      have RNH2 := Lib.hid (And.intro (rd_news HO2'.out.rd) (And.intro (vals_one zs2) (show (vals zs2).length = a2 * 1 by rw [vals_len, HL2.out, Nat.mul_one])))
      have BN2 := Lib.hid (show K2 + a2 ≤ maxLen ∧ (K2 + a2) * 8 ≤ 140737488355328 ∧ ob + 1 ≤ (w6.setCell ⟨ob, 3, none⟩ (.slice B' (K1 + a1) q')).heap.size by unfold maxLen; simp; omega)
      clear RNH BN o3 u3
      go_wp2_with (at_builtin; refine wpList_append_own_at _ rfl _ _ 22 rfl (ob + 1) 2 i9 (.int .i64 0) 1 8 Tryd.underlying22 hI hz0 hz1 hz2 rfl (Nat.le_refl 1) (.slice Q K2 qq) K2 (vals ZQ) rfl HI6.out.oQ ⟨g2, 0, none⟩ a2 q2 (vals zs2) rfl RNH2.out.2.2 RNH2.out.1 RNH2.out.2.1 BN2.out.1 BN2.out.2.1 BN2.out.2.2 ?_; intro v' w7 hown hgrow hnil hat; rw [← vals_app] at hown; obtain ⟨B2, q2', rfl, ho⟩ := row_form0 hown; have gg := gr_own hgrow; have KO2 := blk_gr gg (fun a e => by have h := HI6.out.oQ.block e; omega) HI6.out.bob; have o42 := KO2.cell 4; have u42 := KO2.free 4; simp at o42; have HG2 := Lib.hid gg; have HQ2 := Lib.hid ho; have HW2 := Lib.hid (at_where hat); clear hown hgrow gg ho KO2 hnil hat)
      go_roundw
      case rel => exact ⟨y', K1 + a1, K2 + a2, q', q2', B', B2, ZP ++ zs1, ZQ ++ zs2, by rw [hy']; go_num, by omega, by omega, by omega, by omega, HRN, Lib.hid (RInv.right HI6.out HG2.out HQ2.out HW2.out)⟩
      case measure => simp [intOf]; omega
    · have HRA := Lib.hid (rows_all HLN.out (by omega) HR.out)
      have hl1 := HI.out.oP.len
      have hl2 := HI.out.oQ.len
      have HL1 := Lib.hid hl1
      have HL2 := Lib.hid hl2
      clear hl1 hl2
      have o0 := HI.out.bob.cell 0
      have o1 := HI.out.bob.cell 1
      have o2 := HI.out.bob.cell 2
      have o3 := HI.out.bob.cell 3
      have o4 := HI.out.bob.cell 4
      have f0 := HI.out.bob.free 0
      have f1 := HI.out.bob.free 1
      have f2 := HI.out.bob.free 2
      have f3 := HI.out.bob.free 3
      have f4 := HI.out.bob.free 4
      simp at o0 o1 o2 o3 o4
      have r0 := HI.out.rb.cell 0
      have r1 := HI.out.rb.cell 1
      have r2 := HI.out.rb.cell 2
      have r3 := HI.out.rb.cell 3
      have r4 := HI.out.rb.cell 4
      have v0 := HI.out.rb.free 0
      have v1 := HI.out.rb.free 1
      have v2 := HI.out.rb.free 2
      have v3 := HI.out.rb.free 3
      have v4 := HI.out.rb.free 4
      simp at r0 r1 r2 r3 r4
      have T := Lib.hid (specTer z1 z2 (N : Int) P Q K1 p K2 qq ZP ZQ ob wr HI.out.oP.rd HI.out.oQ.rd (by unfold maxLen; omega) (by unfold maxLen; omega) o0 o1 o2 o3 o4)
      have B3 := HI.out.below
      cases hter : terB z1 z2 (N : Int) K1 K2 ZP ZQ
      case false =>
        have HF : Hid (refT s.data.toList = none) := Lib.hid (ref_4 HL.out HH.out HNM.out.1 HNM.out.2.1 HNM.out.2.2 (.inr (.inr ⟨(ZP, ZQ), HRA.out, by show terB z1 z2 (N : Int) ZP.length ZQ.length ZP ZQ = false; rw [HL1.out, HL2.out]; exact hter⟩)))
        rw [hter] at T
        clear hter
        go_wp2_with (go_at_call 18; refine T.out.mono ?_; rintro e w' ⟨rfl, kd, rfl⟩)
        exact bodyPost_ret (v := .tuple #[.agg #[.int .i64 0, .int .i64 0, .int .i64 0, .slice none 0 0, .slice none 0 0], .bool false]) (by simp [results, Tryd.results5, go_sem, r0, r1, r2, r3, r4]) rfl ⟨.inl ⟨HF.out, rfl⟩, (by repeat (first | with_reducible exact Below.refl _ _ | with_reducible assumption | (with_reducible refine Below.drew ?_) | (with_reducible refine below_drewN ?_ _) | ((with_reducible refine Below.alloc ?_ ?_ _); rotate_left; (focus first | exact Nat.le_refl _ | omega | (simp; done) | (simp; omega))) | ((with_reducible refine Below.setCell ?_ ?_ _); rotate_left; (focus first | exact Nat.le_refl _ | omega | (simp; done) | (simp; omega))) | ((with_reducible refine below_via (W := ?_) ?_ ?_ ?_); rotate_left; (with_reducible assumption); rotate_left; (focus first | exact Nat.le_refl _ | omega | (simp; done) | (simp; omega)))))⟩
      have HF : Hid (refT s.data.toList = some ⟨z1, z2, (N : Int), ZP, ZQ⟩) := Lib.hid (ref_5 HL.out HH.out (by have := HLN.out; omega) HN2.out.symm HC3.out HC4.out HNM.out.1 HNM.out.2.1 HNM.out.2.2 HZ.out (by have := HLN.out; omega) HRA.out (by rw [HL1.out, HL2.out]; exact hter))
      rw [hter] at T
      clear hter
      go_wp2_with (go_at_call 18; refine T.out.mono ?_; rintro e w' ⟨rfl, kd, rfl⟩)
      refine ret_world fun W hW => ?_
      obtain ⟨c0, c1, c2, c3, c4⟩ := box5n (S := wr.drewN kd) r0 r1 r2 r3 r4 hW
      have hB := box5n_below (S := wr.drewN kd) (below_drewN HI.out.below kd) (by omega) hW
      refine bodyPost_ret (v := .tuple #[.agg #[.int .i64 z1, .int .i64 z2, .int .i64 (N : Int), .slice P K1 p, .slice Q K2 qq], .bool true]) (by simp [results, Tryd.results5, go_sem, c0, c1, c2, c3, c4]) rfl ⟨.inr ⟨_, P, Q, K1, K2, p, qq, HF.out, rfl, ?_, ?_, HI.out.ap⟩, hB⟩
      · rw [hW]
        exact Ow.lower (Ow.low _ (by omega) (Ow.low _ (by omega) (Ow.low _ (by omega) (Ow.low _ (by omega) (Ow.low _ (by omega) (Ow.drewN HI.out.oP kd)))))) (by omega)
      · rw [hW]
        exact Ow.lower (Ow.low _ (by omega) (Ow.low _ (by omega) (Ow.low _ (by omega) (Ow.low _ (by omega) (Ow.low _ (by omega) (Ow.drewN HI.out.oQ kd)))))) (by omega)

end Go.Proofs.YtemjjjjkokfjdaaDoor.WalkTd
