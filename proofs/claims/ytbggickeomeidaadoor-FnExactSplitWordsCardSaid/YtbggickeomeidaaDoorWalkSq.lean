/- Lists read: the reference's way and the program's. -/
import Derived.Test.YtbggickeomeidaaDoorPlainSq
import Derived.Test.YtbggickeomeidaaDoorWalkSp
import Derived.Test.YtbggickeomeidaaDoorWalkRb
import Derived.Test.YtbggickeomeidaaDoorShelfL
namespace Go.Proofs.YtbggickeomeidaaDoor.WalkSq
open Go Go.RowKit Go.Proofs.YtbggickeomeidaaDoor.Base Go.Proofs.YtbggickeomeidaaDoor.Plain Go.Proofs.YtbggickeomeidaaDoor.PlainT Go.Proofs.YtbggickeomeidaaDoor.PlainTx Go.Proofs.YtbggickeomeidaaDoor.PlainSp Go.Proofs.YtbggickeomeidaaDoor.PlainSq Go.Proofs.YtbggickeomeidaaDoor.WalkN Go.Proofs.YtbggickeomeidaaDoor.WalkP Go.Proofs.YtbggickeomeidaaDoor.Words Go.Proofs.YtbggickeomeidaaDoor.Ints Go.Proofs.YtbggickeomeidaaDoor.WalkI Go.Proofs.YtbggickeomeidaaDoor.Cells Go.Proofs.YtbggickeomeidaaDoor.Text Go.Proofs.YtbggickeomeidaaDoor.WalkTx Go.Proofs.YtbggickeomeidaaDoor.WalkLT Go.Proofs.YtbggickeomeidaaDoor.WalkLU Go.Proofs.YtbggickeomeidaaDoor.WalkRD Go.Proofs.YtbggickeomeidaaDoor.WalkRI Go.Proofs.YtbggickeomeidaaDoor.WalkSp
open Go.Proofs.YtbggickeomeidaaDoor.WalkRb (Env2)
set_option linter.unusedVariables false
set_option linter.unusedSimpArgs false

theorem infoI : (Tryd.prog.info? 2).map (fun i => (i.zero, i.size, i.bytes)) = some (some (.int .i64 0), 1, 8) := by kernel_rfl
theorem bs_map (L : List ByteArray) : (L.map (·.data.toList)).map bs = L := by
  rw [List.map_map]
  conv => rhs; rw [← List.map_id L]
  rfl
theorem splitK_le (sep : List UInt8) : ∀ (k : Nat) (l : List UInt8), ∀ p ∈ Lib.splitK sep 0 k l, p.length ≤ l.length
  | 0, l, p, h => by
    rw [Lib.splitK, List.mem_singleton] at h
    rw [h]
    exact Nat.le_refl _
  | k + 1, l, p, h => by
    unfold Lib.splitK at h
    split at h
    · rw [List.mem_singleton] at h
      rw [h]
      exact Nat.le_refl _
    · rcases List.mem_cons.1 h with h | h
      · rw [h, List.length_take]
        exact Nat.min_le_right _ _
      · have := splitK_le sep k _ p h
        rw [List.length_drop] at this
        omega
theorem splF_le2 (c : UInt8) (l : List UInt8) : ∀ p ∈ splF c l, p.length ≤ l.length := by
  rw [← splitK_all c (l.count c) l (Nat.le_refl _)]
  exact splitK_le [c] _ l
theorem getD_mem {ps : List (List UInt8)} {k : Nat} (h : k < ps.length) : ps.getD k [] ∈ ps := by
  simp [List.getD, List.getElem?_eq_getElem h]
theorem sts_at {ps : List (List UInt8)} {k : Nat} (h : k < ps.length) : (sts (ps.map bs))[k]? = some (.string (bs (ps.getD k []))) := by
  simp [sts, List.getD, List.getElem?_eq_getElem h]
theorem vals_snoc (zs : List Int) (z : Int) : vals zs ++ [.int .i64 z] = vals (zs ++ [z]) := by simp [vals]
theorem all_snoc {zs : List Int} {z : Int} (h : zs.all big = true) (hz : big z = true) : (zs ++ [z]).all big = true := by simp [List.all_append, h, hz]
theorem txs_len {w : World} {lo n q : Nat} {A : Option Addr} {ps : List (List UInt8)} (h : Txs w lo A n q ps) : ps.length = n := by
  have := Orw.len h
  rw [Cells.sts_len, List.length_map] at this
  omega

theorem splitRow (s : ByteArray) (w : World) (hs : s.size ≤ 1048576) (hE : Env2 w) :
    Calls Tryd.prog 39 #[.string s, .string ⟨#[44]⟩, .int .i64 65] w fun e w' => ∃ (A : Option Addr) (n q : Nat), e = .returned (.slice A n q) ∧ Txs w' w.heap.size A n q (Lib.splitN s.data.toList [44] 65) ∧ 0 < n ∧ n ≤ 65 ∧ Below w.heap.size w w' := by
  obtain ⟨m, hm⟩ := hE.mx
  refine (Tryd.strings_SplitN s ⟨#[44]⟩ 65 m w (by omega) hm (by decide) (by omega) (by omega)).mono fun e w' ⟨he, hw⟩ => ?_
  have hL : Lib.splitB ⟨#[44]⟩ 0 (min 65 (s.size + 1) - 1) s = (Lib.splitN s.data.toList [44] 65).map bs := by
    rw [← bs_map (Lib.splitB _ _ _ _), Lib.splitB_data]
    unfold Lib.splitN
    rw [Lib.size_eq]
  have hle := Lib.splitB_length_le ⟨#[44]⟩ 0 (min 65 (s.size + 1) - 1) s
  have hpos : 0 < (Lib.splitB ⟨#[44]⟩ 0 (min 65 (s.size + 1) - 1) s).length := by
    generalize min 65 (s.size + 1) - 1 = k
    cases k with
    | zero => simp [Lib.splitB]
    | succ k => unfold Lib.splitB; split <;> simp
  obtain ⟨N, hN⟩ : ∃ N, min 65 (s.size + 1) = N := ⟨_, rfl⟩
  rw [hN] at he hw hL hle hpos
  generalize hB : Lib.splitB ⟨#[44]⟩ 0 (N - 1) s = L at he hw hL hle hpos
  have hN1 : 1 ≤ N := by omega
  have hN2 : N ≤ 65 := by omega
  refine ⟨_, _, _, he, ?_, hpos, by omega, ?_⟩
  · subst hw
    have hl : (sts ((Lib.splitN s.data.toList [44] 65).map bs)).length = L.length * 1 := by rw [Cells.sts_len, ← hL]; omega
    refine Orw.mk (Nat.le_refl _) (Blk.new w _ _ rfl) (by omega) (by unfold maxLen; omega) (by rw [Lib.cellsOf_size (by omega)]; omega) ?_ hl
    rw [Nat.mul_one, ← hL]
    unfold Lib.cellsOf
    rw [List.toList_toArray]
    have : (L.map Value.string).length = L.length := by simp
    rw [← this, List.take_left]
    rfl
  · subst hw
    exact (Below.refl _ _).alloc (Nat.le_refl _) _

/-- what the reading of a list gives -/
def Got (l : List UInt8) (lo : Nat) (e : Ending) (w' : World) : Prop :=
  (readF l = none ∧ e = .returned (.tuple #[.slice none 0 0, .bool false])) ∨ ∃ (zs : List Int) (A : Option Addr) (n q : Nat), readF l = some zs ∧ e = .returned (.tuple #[.slice A n q, .bool true]) ∧ Ow w' lo A n q zs
theorem str_eq {s : ByteArray} {l : List UInt8} : (s.toList == l) = decide (s.data.toList = l) := by
  rw [Go.Lib.toList_data]
  exact Bool.beq_eq_decide_eq _ _

set_option maxHeartbeats 1000000 in
theorem specRl (s : ByteArray) (w : World) (hs : s.size ≤ 1048576) : Calls Tryd.prog 13 #[.string s] w fun e w' => Got s.data.toList w.heap.size e w' ∧ Below w.heap.size w w' := by
  by_cases h0 : s.data.toList = [45]
  · have g : (s.toList == [45]) = true := by rw [str_eq]; exact decide_eq_true h0
    have HR : Hid (readF s.data.toList = some []) := Lib.hid (by rw [h0]; rfl)
    have hown : Orw (w.alloc (.cells #[] 2)) 2 1 w.heap.size (some ⟨w.heap.size, 0, none⟩) 0 0 [] := World.ownsRow_made (base := w.heap.size) (e := 2) (size := 1) w #[] 0 (Nat.le_refl _) (by omega) (by simp)
    have HO := Lib.hid hown
    clear h0 hown
    go_enter Tryd.func13, Tryd.ntmps13
    go_wp2
    go_ret2
    exact ⟨.inr ⟨[], _, _, _, HR.out, rfl, HO.out⟩, (by repeat (first | with_reducible exact Below.refl _ _ | with_reducible assumption | (with_reducible refine Below.drew ?_) | (with_reducible refine below_drewN ?_ _) | ((with_reducible refine Below.alloc ?_ ?_ _); rotate_left; (focus first | exact Nat.le_refl _ | omega | (simp; done) | (simp; omega))) | ((with_reducible refine Below.setCell ?_ ?_ _); rotate_left; (focus first | exact Nat.le_refl _ | omega | (simp; done) | (simp; omega))) | ((with_reducible refine below_via (W := ?_) ?_ ?_ ?_); rotate_left; (with_reducible assumption); rotate_left; (focus first | exact Nat.le_refl _ | omega | (simp; done) | (simp; omega)))))⟩
  · have g : (s.toList == [45]) = false := by rw [str_eq]; exact decide_eq_false h0
    have S := Lib.hid (fun W => specSplit s 44 44 rfl W hs)
    have hpos := splF_len_pos 44 s.data.toList
    have hmem := splF_le2 44 s.data.toList
    rw [← Lib.size_eq] at hmem
    have H0 := Lib.hid h0
    by_cases h64 : 64 < (splF 44 s.data.toList).length
    · have HN := Lib.hid (readF_long h0 h64)
      generalize splF 44 s.data.toList = ps at S h64
      clear hpos hmem h0
      go_enter Tryd.func13, Tryd.ntmps13
      go_wp2_with (go_at_call 37; refine (S.out _).mono ?_; rintro e w1 ⟨A, n, q, rfl, hn, ht, hb1⟩; have g64 := decide_eq_true (show (64 : Int) < (n : Int) by omega); clear ht hn h64)
      go_ret2
      exact ⟨.inl ⟨HN.out, rfl⟩, hb1⟩
    · have HX : Hid (∀ zs, numsF (splF 44 s.data.toList) = some zs → zs.all big = true → readF s.data.toList = some zs) := Lib.hid (fun zs h hb => readF_some h0 (by omega) h hb)
      have HY : Hid ((∀ zs, numsF (splF 44 s.data.toList) = some zs → zs.all big = false) → readF s.data.toList = none) := Lib.hid (fun h => readF_not h0 h)
      generalize splF 44 s.data.toList = ps at S h64 HX HY hpos hmem
      have HM := Lib.hid hmem
      obtain ⟨i0, hi, hz0, hz1, hz2⟩ := info_parts infoI
      have HI := Lib.hid (show Tryd.prog.info? 2 = some i0 ∧ i0.zero = some (.int .i64 0) ∧ i0.size = 1 ∧ i0.bytes = 8 from ⟨hi, hz0, hz1, hz2⟩)
      clear h0 hmem hi hz0 hz1 hz2
      go_enter Tryd.func13, Tryd.ntmps13
      go_wp2_with (go_at_call 37; refine (S.out _).mono ?_; rintro e w1 ⟨A, n, q, rfl, hn, ht, hb1⟩; have g64 := decide_eq_false (show ¬ (64 : Int) < (n : Int) by omega); have HT0 := Lib.hid ht; clear ht)
      obtain ⟨gA, rfl, hgA, hgA2, _⟩ := HT0.out.at_ (j := 0) (by omega)
      have hown : Orw (w1.alloc (.cells #[] 2)) 2 1 w1.heap.size (some ⟨w1.heap.size, 0, none⟩) 0 0 (vals []) := World.ownsRow_made (base := w1.heap.size) (e := 2) (size := 1) w1 #[] 0 (Nat.le_refl _) (by omega) (by simp)
      have HO0 := Lib.hid hown
      have hzz := hb1.size
      clear hown g64 S
      go_loopw [5, 6] (fun o iv wr => ∃ (k q2 : Nat) (B : Option Addr) (zs : List Int), o = .slice B k q2 ∧ iv = .int .i64 (k : Int) ∧ k ≤ n ∧ Hid (numsF (ps.take k) = some zs ∧ zs.all big = true) ∧ Hid (Orw wr 2 1 w1.heap.size B k q2 (vals zs)) ∧ Hid (Txs wr w.heap.size (some ⟨gA, 0, none⟩) n q ps) ∧ Hid (Below w.heap.size w wr) ∧ w1.heap.size ≤ wr.heap.size) (fun _ i _ => n - (intOf i).toNat)
      case atStart => exact ⟨0, 0, _, [], rfl, rfl, by omega, Lib.hid ⟨rfl, rfl⟩, HO0, Lib.hid (Orw.alloc HT0.out _), Lib.hid (hb1.alloc (by omega) _), by simp⟩
      case round =>
        obtain ⟨k, q2, B, zs, rfl, rfl, hk, HZ, HO, HT, HB, hsz⟩ := hrel
        by_cases hlt : k < n
        · obtain ⟨g', e', _, _, hc, hf⟩ := HT.out.at_ (j := k) (by omega)
          injection e' with e'
          injection e' with e' _
          subst e'
          rw [sts_at (by omega)] at hc
          have hmk := HM.out _ (getD_mem (ps := ps) (k := k) (by omega))
          have N := specNum (bs (ps.getD k [])) wr (by rw [bs_size]; omega)
          rw [bs_list] at N
          cases hn1 : numF (ps.getD k []) with
          | none =>
            rw [rdV_no hn1] at N
            have HN := Lib.hid (HY.out (fun l hl => by rw [numsF_stop ps k (by omega) hn1] at hl; cases hl))
            generalize bs (ps.getD k []) = t at hc N
            have NH := Lib.hid N
            have hb := HB.out
            clear N hn1 hmk hf
            go_wp2_with (go_at_call 34; refine NH.out.mono ?_; rintro e w' ⟨rfl, rfl⟩)
            go_ret2
            exact ⟨.inl ⟨HN.out, rfl⟩, hb⟩
          | some z =>
            rw [rdV_yes hn1] at N
            have CL := specIn z (-1000000000000) 1000000000000 wr
            cases hbz : inB z (-1000000000000) 1000000000000
            · have HN := Lib.hid (HY.out (fun l hl => all_big_not (numsF_at ps k l z (by omega) hl hn1) hbz))
              rw [hbz] at CL
              generalize bs (ps.getD k []) = t at hc N
              have NH := Lib.hid N
              have CH := Lib.hid CL
              have hb := HB.out
              clear N hn1 hmk hf CL hbz
              go_wp2_with (first | (go_at_call 34; refine NH.out.mono ?_; rintro e w' ⟨rfl, rfl⟩) | (go_at_call 38; refine CH.out.mono ?_; rintro e w' ⟨rfl, rfl⟩))
              go_ret2
              exact ⟨.inl ⟨HN.out, rfl⟩, hb⟩
            · have HZ2 : Hid (numsF (ps.take (k + 1)) = some (zs ++ [z]) ∧ (zs ++ [z]).all big = true) := Lib.hid ⟨by rw [take_snocL (by omega)]; exact numsF_snoc _ _ _ _ HZ.out.1 hn1, all_snoc HZ.out.2 hbz⟩
              rw [hbz] at CL
              generalize bs (ps.getD k []) = t at hc N
              have NH := Lib.hid N
              have CH := Lib.hid CL
              have HV := Lib.hid (vals_snoc zs z)
              have HR9 := Lib.hid (fun a e => (HO.out.block (a := a) e).1)
              have hz9 := HB.out.size
              clear N hn1 hmk hf CL hbz
              go_wp2_with (first | (go_at_call 34; refine NH.out.mono ?_; rintro e w' ⟨rfl, rfl⟩) | (go_at_call 38; refine CH.out.mono ?_; rintro e w' ⟨rfl, rfl⟩) | (at_builtin; refine wpList_append_own _ rfl _ _ 25 rfl w1.heap.size 2 i0 (.int .i64 0) 1 8 Tryd.underlying25 HI.out.1 HI.out.2.1 HI.out.2.2.1 HI.out.2.2.2 rfl (by decide) _ _ _ rfl (HO.out.alloc _) ⟨wr.heap.size, 0, none⟩ 1 1 [.int .i64 z] rfl rfl (news_one wr _ _) (one_cell rfl) (by unfold maxLen; omega) (by omega) (by simp; omega) ?_; intro v' w3 hown3 hgrow3 _; rw [HV.out] at hown3; obtain ⟨B', q', rfl, ho3⟩ := orw_form hown3 (by omega); have HR3 := Lib.hid ho3; have HG3 := Lib.hid (gr_of hgrow3); clear hown3 hgrow3 ho3))
              all_goals go_roundw
              all_goals first
                | (simp [intOf]; omega)
                | exact ⟨k + 1, q', B', zs ++ [z], rfl, by go_num, by omega, HZ2, HR3, Lib.hid (Orw.gr (Orw.alloc HT.out _) HG3.out (fun a b ea eb => by have x2 := HR9.out b eb; injection ea with ea; subst ea; simp only; omega)), Lib.hid (Below.trans (HB.out.alloc (by omega) _) (Gr.below HG3.out (fun a e => by have x2 := HR9.out a e; omega) (by simp; omega))), by have := HG3.out.size; simp at this; omega⟩
        · obtain rfl : k = n := by omega
          rw [List.take_of_length_le (by omega)] at HZ
          have HF := Lib.hid (HX.out zs HZ.out.1 HZ.out.2)
          have HO2 := Lib.hid (HO.out.lower (lo' := w.heap.size) hzz)
          have hb := HB.out
          go_wp2_with fail
          go_ret2
          exact ⟨.inr ⟨zs, B, k, q2, HF.out, rfl, HO2.out⟩, hb⟩

theorem listR_eq {zs : List Int} {s : ByteArray} : listR zs = s ↔ listF zs = s.data.toList := by
  constructor
  · intro h
    rw [← h]
    rfl
  · intro h
    unfold listR
    rw [h]

set_option maxHeartbeats 1000000 in
theorem implRl (s : ByteArray) (w : World) (hs : s.size ≤ 1048576) (hE : Env2 w) : Calls Tryd.prog 14 #[.string s] w fun e w' => Got s.data.toList w.heap.size e w' ∧ Below w.heap.size w w' := by
  by_cases h0 : s.data.toList = [45]
  · have g : (s.toList == [45]) = true := by rw [str_eq]; exact decide_eq_true h0
    have HR : Hid (readF s.data.toList = some []) := Lib.hid (by rw [h0]; rfl)
    clear h0 hE
    go_enter Tryd.func14, Tryd.ntmps14
    go_wp2
    go_ret2
    exact ⟨.inr ⟨[], _, _, _, HR.out, rfl, Ow.nil _ _⟩, Below.refl _ _⟩
  · have g : (s.toList == [45]) = false := by rw [str_eq]; exact decide_eq_false h0
    have S := Lib.hid (splitRow s w hs hE)
    have hmem : ∀ p ∈ Lib.splitN s.data.toList [44] 65, p.length ≤ s.size := by
      rw [Lib.size_eq]
      exact splitK_le [44] _ _
    have HX : Hid (∀ zs, numsF (Lib.splitN s.data.toList [44] 65) = some zs → readF s.data.toList = if listF zs = s.data.toList then some zs else none) := Lib.hid (fun zs h => readG_some h0 h)
    have HY : Hid (numsF (Lib.splitN s.data.toList [44] 65) = none → readF s.data.toList = none) := Lib.hid (fun h => readG_not h0 h)
    generalize Lib.splitN s.data.toList [44] 65 = ps at S HX HY hmem
    have HM := Lib.hid hmem
    have DC := Lib.hid (fun (t : ByteArray) (W : World) (ht : t.size ≤ 1048576) (hb : Below w.heap.size w W) => implNum t W ht (hE.env.below hb))
    have LT := Lib.hid (fun (A : Option Addr) (n c : Nat) (zs : List Int) (W : World) (ra : Rd W A n zs) (hn : n ≤ maxLen) (hb : Below w.heap.size w W) => implListText A n c zs W ra hn (Tab.below hb hE.env.tab))
    obtain ⟨i0, hi, hz0, hz1, hz2⟩ := info_parts infoI
    have HI := Lib.hid (show Tryd.prog.info? 2 = some i0 ∧ i0.zero = some (.int .i64 0) ∧ i0.size = 1 ∧ i0.bytes = 8 from ⟨hi, hz0, hz1, hz2⟩)
    clear h0 hmem hi hz0 hz1 hz2 hE
    go_enter Tryd.func14, Tryd.ntmps14
    go_wp2_with (go_at_call 39; refine S.out.mono ?_; rintro e w1 ⟨A, n, q, rfl, ht, hn0, hn65, hb1⟩; have HT0 := Lib.hid ht; clear ht)
    have hn := txs_len HT0.out
    obtain ⟨gA, rfl, hgA, hgA2, _⟩ := HT0.out.at_ (j := 0) (by omega)
    have hzz := hb1.size
    clear S
    go_loopw [4, 14] (fun o iv wr => ∃ (k q2 : Nat) (B : Option Addr) (zs : List Int), o = .slice B k q2 ∧ iv = .int .i64 (k : Int) ∧ k ≤ n ∧ Hid (numsF (ps.take k) = some zs) ∧ Hid (Orw wr 2 1 w1.heap.size B k q2 (vals zs)) ∧ Hid (Txs wr w.heap.size (some ⟨gA, 0, none⟩) n q ps) ∧ Hid (Below w.heap.size w wr) ∧ w1.heap.size ≤ wr.heap.size) (fun _ i _ => n - (intOf i).toNat)
    case atStart => exact ⟨0, 0, _, [], rfl, rfl, by omega, Lib.hid rfl, Lib.hid (Orw.nil _ _ _ _), HT0, Lib.hid hb1, by omega⟩
    case round =>
      obtain ⟨k, q2, B, zs, rfl, rfl, hk, HZ, HO, HT, HB, hsz⟩ := hrel
      by_cases hlt : k < n
      · obtain ⟨g', e', _, _, hc, hf⟩ := HT.out.at_ (j := k) (by omega)
        injection e' with e'
        injection e' with e' _
        subst e'
        rw [sts_at (by omega)] at hc
        have hmk := HM.out _ (getD_mem (ps := ps) (k := k) (by omega))
        have N := DC.out (bs (ps.getD k [])) wr (by rw [bs_size]; omega) HB.out
        rw [bs_list] at N
        cases hn1 : numF (ps.getD k []) with
        | none =>
          rw [rdV_no hn1] at N
          have HN := Lib.hid (HY.out (numsF_stop ps k (by omega) hn1))
          generalize bs (ps.getD k []) = t at hc N
          have NH := Lib.hid N
          have hb := HB.out
          clear N hn1 hmk hf
          go_wp2_with (go_at_call 12; refine NH.out.mono ?_; rintro e w2 ⟨rfl, hb2⟩)
          go_ret2
          exact ⟨.inl ⟨HN.out, rfl⟩, hb.trans (hb2.mono hb.size)⟩
        | some z =>
          rw [rdV_yes hn1] at N
          have HZ2 : Hid (numsF (ps.take (k + 1)) = some (zs ++ [z])) := Lib.hid (by rw [take_snocL (by omega)]; exact numsF_snoc _ _ _ _ HZ.out hn1)
          generalize bs (ps.getD k []) = t at hc N
          have NH := Lib.hid N
          have HV := Lib.hid (vals_snoc zs z)
          have HR9 := Lib.hid (fun a e => (HO.out.block (a := a) e).1)
          have hz9 := HB.out.size
          clear N hn1 hmk hf
          go_wp2_with (first | (go_at_call 12; refine NH.out.mono ?_; rintro e w2 ⟨rfl, hb2⟩; have z2 := hb2.size; have HO2 := Lib.hid (Orw.below hb2 HO.out); have HT2 := Lib.hid (Orw.below hb2 HT.out); have HB2 := Lib.hid (HB.out.trans (hb2.mono HB.out.size)); clear hb2) | (at_builtin; refine wpList_append_own _ rfl _ _ 25 rfl w1.heap.size 2 i0 (.int .i64 0) 1 8 Tryd.underlying25 HI.out.1 HI.out.2.1 HI.out.2.2.1 HI.out.2.2.2 rfl (by decide) _ _ _ rfl (HO2.out.alloc _) ⟨w2.heap.size, 0, none⟩ 1 1 [.int .i64 z] rfl rfl (news_one w2 _ _) (one_cell rfl) (by unfold maxLen; omega) (by omega) (by simp; omega) ?_; intro v' w3 hown3 hgrow3 _; rw [HV.out] at hown3; obtain ⟨B', q', rfl, ho3⟩ := orw_form hown3 (by omega); have HR3 := Lib.hid ho3; have HG3 := Lib.hid (gr_of hgrow3); clear hown3 hgrow3 ho3))
          all_goals go_roundw
          all_goals first
            | (simp [intOf]; omega)
            | exact ⟨k + 1, q', B', zs ++ [z], rfl, by go_num, by omega, HZ2, HR3, Lib.hid (Orw.gr (Orw.alloc HT2.out _) HG3.out (fun a b ea eb => by have x2 := HR9.out b eb; injection ea with ea; subst ea; simp only; omega)), Lib.hid (Below.trans (HB2.out.alloc (by omega) _) (Gr.below HG3.out (fun a e => by have x2 := HR9.out a e; omega) (by simp; omega))), by have := HG3.out.size; simp at this; omega⟩
      · obtain rfl : k = n := by omega
        rw [List.take_of_length_le (by omega)] at HZ
        have HF := Lib.hid (HX.out zs HZ.out)
        have HO2 := Lib.hid (HO.out.lower (lo' := w.heap.size) hzz)
        have hb := HB.out
        have L := LT.out B k q2 zs wr (Ow.rd HO.out) (by unfold maxLen; omega) HB.out
        by_cases he : listR zs = s
        · have HG : Hid (readF s.data.toList = some zs) := Lib.hid (by rw [HF.out, if_pos (listR_eq.1 he)])
          rw [he] at L
          have LH := Lib.hid L
          clear L he
          go_wp2_with (go_at_call 40; refine LH.out.mono ?_; rintro e w2 ⟨rfl, hb2⟩)
          go_ret2
          exact ⟨.inr ⟨zs, B, k, q2, HG.out, rfl, Orw.below hb2 HO2.out⟩, hb.trans (hb2.mono hb.size)⟩
        · have HG : Hid (readF s.data.toList = none) := Lib.hid (by rw [HF.out, if_neg (fun e => he (listR_eq.2 e))])
          generalize listR zs = tt at L he
          have hnt : (tt.toList == s.toList) = false := by
            rw [beq_eq_false_iff_ne, Go.Lib.toList_data, Go.Lib.toList_data]
            exact fun e => he (by apply ByteArray.ext; exact Array.toList_inj.1 e)
          have LH := Lib.hid L
          clear L he
          go_wp2_with (go_at_call 40; refine LH.out.mono ?_; rintro e w2 ⟨rfl, hb2⟩)
          go_ret2
          exact ⟨.inl ⟨HG.out, rfl⟩, hb.trans (hb2.mono hb.size)⟩

end Go.Proofs.YtbggickeomeidaaDoor.WalkSq
