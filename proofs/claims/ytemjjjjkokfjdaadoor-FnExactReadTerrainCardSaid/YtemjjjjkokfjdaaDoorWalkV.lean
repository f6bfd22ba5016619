/- Terrains: the laws' helpers, sizes, validity. -/
import Derived.Test.YtemjjjjkokfjdaaDoorWalkU
import Derived.BigQuiet
import Derived.BigGuardPart
namespace Go.Proofs.YtemjjjjkokfjdaaDoor.WalkV
open Go Go.RowKit Go.Proofs.YtemjjjjkokfjdaaDoor.Base Go.Proofs.YtemjjjjkokfjdaaDoor.Plain Go.Proofs.YtemjjjjkokfjdaaDoor.Words Go.Proofs.YtemjjjjkokfjdaaDoor.Ints Go.Proofs.YtemjjjjkokfjdaaDoor.WalkN Go.Proofs.YtemjjjjkokfjdaaDoor.WalkP Go.Proofs.YtemjjjjkokfjdaaDoor.WalkI Go.Proofs.YtemjjjjkokfjdaaDoor.WalkU Go.Proofs.YtemjjjjkokfjdaaDoor.PlainT
set_option linter.unusedVariables false
set_option linter.unusedSimpArgs false

theorem size_out {s w h : Int} (e : ¬ (inB s 1 10000 = true ∧ inB w 2 24 = true ∧ inB h 2 24 = true)) : sizeB s w h = false := by
  unfold sizeB
  cases h1 : inB s 1 10000 <;> cases h2 : inB w 2 24 <;> cases h3 : inB h 2 24 <;> first | rfl | exact absurd ⟨h1, h2, h3⟩ e
theorem size_in {s w h : Int} (h1 : inB s 1 10000 = true) (h2 : inB w 2 24 = true) (h3 : inB h 2 24 = true) : sizeB s w h = (decide ((w - 1) * s ≤ 200000) && decide ((h - 1) * s ≤ 200000)) := by
  unfold sizeB
  rw [h1, h2, h3]
  simp

theorem specSize (s wd ht : Int) (w : World) : Calls Tryd.prog 16 #[.int .i64 s, .int .i64 wd, .int .i64 ht] w fun e w' => e = .returned (.bool (sizeB s wd ht)) ∧ w = w' := by
  cases h1 : inB s 1 10000 <;> cases h2 : inB wd 2 24 <;> cases h3 : inB ht 2 24
  case true.true.true =>
    have b1 := inB_yes h1
    have b2 := inB_yes h2
    have b3 := inB_yes h3
    have m1 := mul_bound (a := wd - 1) (b := s) (A := 23) (B := 10000) (by omega) (by omega) (by omega) (by omega) (by omega) (by omega)
    have m2 := mul_bound (a := ht - 1) (b := s) (A := 23) (B := 10000) (by omega) (by omega) (by omega) (by omega) (by omega) (by omega)
    by_cases c1 : (wd - 1) * s ≤ 200000 <;> by_cases c2 : (ht - 1) * s ≤ 200000
    all_goals have HF : Hid (sizeB s wd ht = (decide ((wd - 1) * s ≤ 200000) && decide ((ht - 1) * s ≤ 200000))) := Lib.hid (size_in h1 h2 h3)
    all_goals have C1 := Lib.hid c1
    all_goals have C2 := Lib.hid c2
    all_goals first | have d1 := decide_eq_true c1 | have d1 := decide_eq_false c1
    all_goals first | have d2 := decide_eq_true c2 | have d2 := decide_eq_false c2
    all_goals go_enter Tryd.func16, Tryd.ntmps16
    all_goals go_wp2_with (first | (go_at_call 35; refine (specIn _ _ _ _).mono ?_; rintro e w' ⟨rfl, rfl⟩) | (go_at_call 43; refine (implIn _ _ _ _).mono ?_; rintro e w' ⟨rfl, rfl⟩))
    all_goals (go_ret; exact ⟨ret_bool (by rw [HF.out]; have k1 := C1.out; have k2 := C2.out; clear d1 d2; first | (exfalso; omega) | (by_cases x1 : (wd - 1) * s ≤ 200000 <;> by_cases x2 : (ht - 1) * s ≤ 200000 <;> simp [x1, x2] <;> omega)), rfl⟩)
  all_goals have HF := Lib.hid (size_out (s := s) (w := wd) (h := ht) (by rw [h1, h2, h3]; simp))
  all_goals go_enter Tryd.func16, Tryd.ntmps16
  all_goals go_wp2_with (first | (go_at_call 35; refine (specIn _ _ _ _).mono ?_; rintro e w' ⟨rfl, rfl⟩) | (go_at_call 43; refine (implIn _ _ _ _).mono ?_; rintro e w' ⟨rfl, rfl⟩))
  all_goals (go_ret; exact ⟨ret_bool HF.out.symm, rfl⟩)

theorem implSize (s wd ht : Int) (w : World) : Calls Tryd.prog 40 #[.int .i64 s, .int .i64 wd, .int .i64 ht] w fun e w' => e = .returned (.bool (sizeB s wd ht)) ∧ w = w' := by
  cases h1 : inB s 1 10000 <;> cases h2 : inB wd 2 24 <;> cases h3 : inB ht 2 24
  case true.true.true =>
    have b1 := inB_yes h1
    have b2 := inB_yes h2
    have b3 := inB_yes h3
    have m1 := mul_bound (a := wd - 1) (b := s) (A := 23) (B := 10000) (by omega) (by omega) (by omega) (by omega) (by omega) (by omega)
    have m2 := mul_bound (a := ht - 1) (b := s) (A := 23) (B := 10000) (by omega) (by omega) (by omega) (by omega) (by omega) (by omega)
    have HF : Hid (sizeB s wd ht = (decide ((wd - 1) * s ≤ 200000) && decide ((ht - 1) * s ≤ 200000))) := Lib.hid (size_in h1 h2 h3)
    by_cases hle : wd ≤ ht
    · have HM : Hid ((wd - 1) * s ≤ (ht - 1) * s) := Lib.hid (Int.mul_le_mul_of_nonneg_right (by omega) (by omega))
      go_enter Tryd.func40, Tryd.ntmps40
      go_wp2_with (first | (go_at_call 35; refine (specIn _ _ _ _).mono ?_; rintro e w' ⟨rfl, rfl⟩) | (go_at_call 43; refine (implIn _ _ _ _).mono ?_; rintro e w' ⟨rfl, rfl⟩))
      all_goals (go_ret; exact ⟨ret_bool (by rw [HF.out]; have k := HM.out; have wr := IntWalk.wrap64_in ((ht - 1) * s) (by omega); have wr' := IntWalk.wrap64_in ((wd - 1) * s) (by omega); by_cases c : (ht - 1) * s ≤ 200000 <;> by_cases c' : (wd - 1) * s ≤ 200000 <;> simp [c, c'] <;> first | omega | ((obtain rfl : wd = ht := (by omega)); omega)), rfl⟩)
    · have HM : Hid ((ht - 1) * s ≤ (wd - 1) * s) := Lib.hid (Int.mul_le_mul_of_nonneg_right (by omega) (by omega))
      go_enter Tryd.func40, Tryd.ntmps40
      go_wp2_with (first | (go_at_call 35; refine (specIn _ _ _ _).mono ?_; rintro e w' ⟨rfl, rfl⟩) | (go_at_call 43; refine (implIn _ _ _ _).mono ?_; rintro e w' ⟨rfl, rfl⟩))
      all_goals (go_ret; exact ⟨ret_bool (by rw [HF.out]; have k := HM.out; have wr := IntWalk.wrap64_in ((ht - 1) * s) (by omega); have wr' := IntWalk.wrap64_in ((wd - 1) * s) (by omega); by_cases c : (ht - 1) * s ≤ 200000 <;> by_cases c' : (wd - 1) * s ≤ 200000 <;> simp [c, c'] <;> first | omega | ((obtain rfl : wd = ht := (by omega)); omega)), rfl⟩)
  all_goals have HF := Lib.hid (size_out (s := s) (w := wd) (h := ht) (by rw [h1, h2, h3]; simp))
  all_goals go_enter Tryd.func40, Tryd.ntmps40
  all_goals go_wp2_with (first | (go_at_call 35; refine (specIn _ _ _ _).mono ?_; rintro e w' ⟨rfl, rfl⟩) | (go_at_call 43; refine (implIn _ _ _ _).mono ?_; rintro e w' ⟨rfl, rfl⟩))
  all_goals (go_ret; exact ⟨ret_bool HF.out.symm, rfl⟩)

/-- what is left of a size behind two lists -/
def szT (n m : Nat) : Int := if n + m ≤ 1048576 then 1048576 - n - m else -1

theorem szF_yes {n : Nat} {L : Int} (h : L - n < 0) : szF n L = -1 := by unfold szF; rw [if_pos h]
theorem szF_no {n : Nat} {L : Int} (h : ¬ L - n < 0) : szF n L = L - n := by unfold szF; rw [if_neg h]
theorem szTer (s wd ht : Int) (A B : Option Addr) (n c m d : Nat) (w : World) (hn : n ≤ maxLen) (hm : m ≤ maxLen) :
    Calls Tryd.prog 10 #[.agg #[.int .i64 s, .int .i64 wd, .int .i64 ht, .slice A n c, .slice B m d], .int .i64 1048576] w fun e w' => e = .returned (.int .i64 (szT n m)) ∧ w' = w.alloc (.cells #[.int .i64 s, .int .i64 wd, .int .i64 ht, .slice A n c, .slice B m d] 30) := by
  by_cases h1 : n ≤ 1048576
  · have e1 := szF_no (n := n) (L := 1048576) (by omega)
    obtain ⟨L, hL⟩ : ∃ L, szF n 1048576 = L := ⟨_, rfl⟩
    have HL := Lib.hid hL
    have l1 : L ≤ 1048576 - n ∧ 1048576 - n ≤ L := by omega
    by_cases h2 : n + m ≤ 1048576
    · have e2 := szF_no (n := m) (L := L) (by omega)
      have HE : Hid (szT n m = szF m L) := Lib.hid (by unfold szT; rw [if_pos h2]; omega)
      have l2 : 0 ≤ szF m L := by omega
      clear e1 e2 hL
      go_enter Tryd.func10, Tryd.ntmps10
      go_wp2_with (go_at_call 27; (with_reducible refine (szInts _ _ _ _ _ (by omega) (by omega)).mono ?_); rintro e w' ⟨rfl, rfl⟩; try rw [HL.out])
      go_ret
      exact ⟨ret_int HE.out.symm, rfl⟩
    · have e2 := szF_yes (n := m) (L := L) (by omega)
      have HE : Hid (szT n m = -1) := Lib.hid (by unfold szT; rw [if_neg h2])
      have l2 : szF m L < 0 := by omega
      clear e1 e2 hL
      go_enter Tryd.func10, Tryd.ntmps10
      go_wp2_with (go_at_call 27; (with_reducible refine (szInts _ _ _ _ _ (by omega) (by omega)).mono ?_); rintro e w' ⟨rfl, rfl⟩; try rw [HL.out])
      go_ret
      exact ⟨ret_int HE.out.symm, rfl⟩
  · have e1 := szF_yes (n := n) (L := 1048576) (by omega)
    have HE : Hid (szT n m = -1) := Lib.hid (by unfold szT; rw [if_neg (by omega)])
    have l1 : szF n 1048576 < 0 := by omega
    clear e1
    go_enter Tryd.func10, Tryd.ntmps10
    go_wp2_with (go_at_call 27; (with_reducible refine (szInts _ _ _ _ _ (by omega) (by omega)).mono ?_); rintro e w' ⟨rfl, rfl⟩)
    go_ret
    exact ⟨ret_int HE.out.symm, rfl⟩

end Go.Proofs.YtemjjjjkokfjdaaDoor.WalkV
