/- The square root: the program's way by sort.Search; and what rests on it. -/
import Derived.Test.YtahemohmkgchfaaWalkN
namespace Go.Proofs.Ytahemohmkgchfaa.WalkR
open Go.RowKit Go.Proofs.Ytahemohmkgchfaa.Base Go.Proofs.Ytahemohmkgchfaa.Plain Go.Proofs.Ytahemohmkgchfaa.WalkN
set_option linter.unusedVariables false
set_option linter.unusedSimpArgs false

theorem rootClosure (n : Int) (B r : Nat) (w : World) (hr : r < 3037000499) (hn : -9223372036854775808 ≤ n ∧ n ≤ 9223372036854775807) (hc : w.cell? ⟨B, 0, none⟩ = some (.int .i64 n)) :
    Calls Try.prog 59 #[.int .i64 r, .pointer (some ⟨B, 0, none⟩)] w fun e w' => e = .returned (.bool (decide (n < ((r : Int) + 1) * ((r : Int) + 1)))) ∧ w = w' := by
  have hsq := mul_bound (A := 3037000499) (B := 3037000499) (by omega) (by omega) (show -3037000499 ≤ (r : Int) + 1 by omega) (show (r : Int) + 1 ≤ 3037000499 by omega) (show -3037000499 ≤ (r : Int) + 1 by omega) (show (r : Int) + 1 ≤ 3037000499 by omega)
  go_enter Try.func59, Try.ntmps59
  go_wp2
  go_ret
  exact ⟨rfl, rfl⟩

theorem rootSearch (n : Int) (B : Nat) (w : World) (h0 : 0 ≤ n) (hn : n ≤ 9223372036854775807) (hc : w.cell? ⟨B, 0, none⟩ = some (.int .i64 n)) :
    Calls Try.prog 58 #[.int .i64 3037000499, .func (.func 59) #[] #[.pointer (some ⟨B, 0, none⟩)]] w fun e w' => e = .returned (.int .i64 (rootF n)) ∧ w = w' := by
  have HC := Lib.hid hc
  clear hc
  go_enter Try.func58, Try.ntmps58
  go_wp2
  go_loop [5, 6, 7] (fun i j h => ∃ lo hi : Nat, i = .int .i64 lo ∧ j = .int .i64 hi ∧ lo ≤ hi ∧ hi ≤ 3037000499 ∧ Hid ((lo = 0 ∨ (lo : Int) * lo ≤ n) ∧ n < ((hi : Int) + 1) * ((hi : Int) + 1)))
    (fun i j _ => (intOf j - intOf i).toNat)
  case atStart => exact ⟨0, 3037000499, rfl, rfl, by omega, by omega, Lib.hid ⟨.inl rfl, by simp; omega⟩⟩
  case round =>
    obtain ⟨lo, hi, rfl, rfl, h1, h2, H⟩ := hrel
    by_cases hlt : lo < hi
    · have hcl := rootClosure n B ((lo + hi) / 2) w (by omega) (by omega) HC.out
      rw [show (((lo + hi) / 2 : Nat) : Int) = ((lo : Int) + hi) / 2 by omega] at hcl
      by_cases hc : n < (((lo : Int) + hi) / 2 + 1) * (((lo : Int) + hi) / 2 + 1)
      · rw [decide_eq_true hc] at hcl
        have HCL := Lib.hid hcl
        clear hcl
        have HH := Lib.hid hc
        clear hc
        go_wp2_with (go_at_call 59; refine HCL.out.mono ?_; rintro e w' ⟨rfl, rfl⟩)
        go_round
        case rel => exact ⟨lo, (lo + hi) / 2, rfl, by rw [show (((lo + hi) / 2 : Nat) : Int) = ((lo : Int) + hi) / 2 by omega], by omega, by omega, Lib.hid ⟨H.out.1, by rw [show (((lo + hi) / 2 : Nat) : Int) = ((lo : Int) + hi) / 2 by omega]; exact HH.out⟩⟩
        case measure => simp [intOf]; omega
      · rw [decide_eq_false hc] at hcl
        have HCL := Lib.hid hcl
        clear hcl
        have HH := Lib.hid hc
        clear hc
        go_wp2_with (go_at_call 59; refine HCL.out.mono ?_; rintro e w' ⟨rfl, rfl⟩)
        go_round
        case rel => exact ⟨(lo + hi) / 2 + 1, hi, by rw [show (((lo + hi) / 2 + 1 : Nat) : Int) = ((lo : Int) + hi) / 2 + 1 by omega], rfl, by omega, by omega, Lib.hid ⟨.inr (by rw [show (((lo + hi) / 2 + 1 : Nat) : Int) = ((lo : Int) + hi) / 2 + 1 by omega]; exact HH.out), H.out.2⟩⟩
        case measure => simp [intOf]; omega
    · go_wp2
      go_ret
      obtain rfl : lo = hi := by omega
      exact ⟨ret_int (rootF_of H.out.1 H.out.2).symm, rfl⟩

theorem implRoot (n : Int) (w : World) (hn : -9223372036854775808 ≤ n ∧ n ≤ 9223372036854775807) :
    Calls Try.prog 32 #[.int .i64 n] w fun e w' => e = .returned (.int .i64 (rootF n)) ∧ w' = w.alloc (.cells #[.int .i64 n] 2) := by
  by_cases h : n < 0
  · go_enter Try.func32, Try.ntmps32
    go_wp2
    go_ret
    exact ⟨ret_int (by unfold rootF; rw [Int.toNat_of_nonpos (by omega)]; rfl), rfl⟩
  · have hs := rootSearch n w.heap.size (w.alloc (.cells #[.int .i64 n] 2)) (by omega) hn.2 (by simp)
    have H := Lib.hid hs
    clear hs
    go_enter Try.func32, Try.ntmps32
    go_wp2_with (go_at_call 58; refine H.out.mono ?_; rintro e w' ⟨rfl, rfl⟩)
    go_ret
    exact ⟨rfl, rfl⟩

theorem rootOf (a : Int) (wa : (Lit.int .i64 a).wf = true) (w : World) :
    Calls Try.prog 10 #[.int .i64 a] w fun e w' => e = .returned (.bool true) ∧ Below w.heap.size w w' := by
  have ba := bd wa
  go_enter Try.func10, Try.ntmps10
  go_wp2_with (first | (go_at_call 32; refine (implRoot _ _ ba).mono ?_; rintro e w' ⟨rfl, rfl⟩) | (go_at_call 57; refine (specRoot _ _ ba).mono ?_; rintro e w' ⟨rfl, rfl⟩) | go_in)
  go_ret
  exact ⟨rfl, (by repeat (first | with_reducible exact Below.refl _ _ | with_reducible assumption | (with_reducible refine Below.drew ?_) | (with_reducible refine Below.alloc ?_ (by first | exact Nat.le_refl _ | (simp; done) | (simp; omega)) _) | (with_reducible refine Below.setCell ?_ (by first | exact Nat.le_refl _ | (simp; done) | (simp; omega)) _)))⟩

theorem bulgeAt (a b : Int) (wa : (Lit.int .i64 a).wf = true) (wb : (Lit.int .i64 b).wf = true) (w : World) :
    Calls Try.prog 12 #[.int .i64 a, .int .i64 b] w fun e w' => e = .returned (.bool true) ∧ Below w.heap.size w w' := by
  cases ha : inB a 0 283000 <;> cases hb : inB b 0 283000
  case true.true =>
    have h1 := inB_yes ha
    have h2 := inB_yes hb
    have hm := mul_bound (a := 10 * a) (b := b) (A := 2830000) (B := 283000) (by omega) (by omega) (by omega) (by omega) (by omega) (by omega)
    go_enter Try.func12, Try.ntmps12
    go_wp2_with (first | (go_at_call 51; refine (specIn _ _ _ _).mono ?_; rintro e w' ⟨rfl, rfl⟩) | (go_at_call 49; refine (implIn _ _ _ _).mono ?_; rintro e w' ⟨rfl, rfl⟩) | (go_at_call 61; refine (implDiv _ _ _ (by omega) (by omega) (by omega)).mono ?_; rintro e w' ⟨rfl, n, rfl⟩) | (go_at_call 60; refine (specDiv _ _ _ (by omega) (by omega) (by omega)).mono ?_; rintro e w' ⟨rfl, rfl⟩) | go_in)
    go_ret
    exact ⟨rfl, below_drewN (Below.refl _ _) _⟩
  all_goals go_enter Try.func12, Try.ntmps12
  all_goals go_wp2_with (first | (go_at_call 51; refine (specIn _ _ _ _).mono ?_; rintro e w' ⟨rfl, rfl⟩) | (go_at_call 49; refine (implIn _ _ _ _).mono ?_; rintro e w' ⟨rfl, rfl⟩) | go_in)
  all_goals (go_ret; exact ⟨rfl, Below.refl _ _⟩)

theorem horizonOf (a : Int) (wa : (Lit.int .i64 a).wf = true) (w : World) :
    Calls Try.prog 13 #[.int .i64 a] w fun e w' => e = .returned (.bool true) ∧ Below w.heap.size w w' := by
  cases ha : inB a 0 180000
  · go_enter Try.func13, Try.ntmps13
    go_wp2_with (first | (go_at_call 51; refine (specIn _ _ _ _).mono ?_; rintro e w' ⟨rfl, rfl⟩) | (go_at_call 49; refine (implIn _ _ _ _).mono ?_; rintro e w' ⟨rfl, rfl⟩) | go_in)
    go_ret
    exact ⟨rfl, Below.refl _ _⟩
  · have h1 := inB_yes ha
    go_enter Try.func13, Try.ntmps13
    go_wp2_with (first | (go_at_call 51; refine (specIn _ _ _ _).mono ?_; rintro e w' ⟨rfl, rfl⟩) | (go_at_call 49; refine (implIn _ _ _ _).mono ?_; rintro e w' ⟨rfl, rfl⟩) | (go_at_call 32; refine (implRoot _ _ (by omega)).mono ?_; rintro e w' ⟨rfl, rfl⟩) | (go_at_call 57; refine (specRoot _ _ (by omega)).mono ?_; rintro e w' ⟨rfl, rfl⟩) | go_in)
    go_ret
    exact ⟨rfl, (by repeat (first | with_reducible exact Below.refl _ _ | with_reducible assumption | (with_reducible refine Below.drew ?_) | (with_reducible refine Below.alloc ?_ (by first | exact Nat.le_refl _ | (simp; done) | (simp; omega)) _) | (with_reducible refine Below.setCell ?_ (by first | exact Nat.le_refl _ | (simp; done) | (simp; omega)) _)))⟩

theorem fresnelRadius (f a b : Int) (wf : (Lit.int .i64 f).wf = true) (wa : (Lit.int .i64 a).wf = true) (wb : (Lit.int .i64 b).wf = true) (w : World) :
    Calls Try.prog 15 #[.int .i64 f, .int .i64 a, .int .i64 b] w fun e w' => e = .returned (.bool true) ∧ Below w.heap.size w w' := by
  cases ha : inB a 0 283000 <;> cases hb : inB b 0 283000 <;> cases hf : inB f 1 100000000
  case true.true.true =>
    have h1 := inB_yes ha
    have h2 := inB_yes hb
    have h3 := inB_yes hf
    by_cases hz : a + b = 0
    · obtain rfl : a = 0 := by omega
      obtain rfl : b = 0 := by omega
      go_enter Try.func15, Try.ntmps15
      go_wp2_with (first | (go_at_call 51; refine (specIn _ _ _ _).mono ?_; rintro e w' ⟨rfl, rfl⟩) | (go_at_call 49; refine (implIn _ _ _ _).mono ?_; rintro e w' ⟨rfl, rfl⟩) | go_in)
      go_ret
      exact ⟨rfl, Below.refl _ _⟩
    · have hz' : (a + b == 0) = false := by simpa using hz
      have hm := mul_bound (a := 29979246 * a) (b := b) (A := 8484126618000) (B := 283000) (by omega) (by omega) (by omega) (by omega) (by omega) (by omega)
      have hp := Int.mul_nonneg (a := 29979246 * a) (b := b) (by omega) (by omega)
      have hn := mul_bound (a := f) (b := a + b) (A := 100000000) (B := 566000) (by omega) (by omega) (by omega) (by omega) (by omega) (by omega)
      have hq := Int.mul_pos (a := f) (b := a + b) (by omega) (by omega)
      have hr : 0 ≤ 29979246 * a * b / (f * (a + b)) ∧ 29979246 * a * b / (f * (a + b)) ≤ 29979246 * a * b := ⟨Int.ediv_nonneg (by omega) (by omega), Int.ediv_le_self _ (by omega)⟩
      go_enter Try.func15, Try.ntmps15
      go_wp2_with (first | (go_at_call 51; refine (specIn _ _ _ _).mono ?_; rintro e w' ⟨rfl, rfl⟩) | (go_at_call 49; refine (implIn _ _ _ _).mono ?_; rintro e w' ⟨rfl, rfl⟩) | (go_at_call 32; refine (implRoot _ _ (by omega)).mono ?_; rintro e w' ⟨rfl, rfl⟩) | (go_at_call 57; refine (specRoot _ _ (by omega)).mono ?_; rintro e w' ⟨rfl, rfl⟩) | go_in)
      go_ret
      exact ⟨rfl, (by repeat (first | with_reducible exact Below.refl _ _ | with_reducible assumption | (with_reducible refine Below.drew ?_) | (with_reducible refine Below.alloc ?_ (by first | exact Nat.le_refl _ | (simp; done) | (simp; omega)) _) | (with_reducible refine Below.setCell ?_ (by first | exact Nat.le_refl _ | (simp; done) | (simp; omega)) _)))⟩
  all_goals go_enter Try.func15, Try.ntmps15
  all_goals go_wp2_with (first | (go_at_call 51; refine (specIn _ _ _ _).mono ?_; rintro e w' ⟨rfl, rfl⟩) | (go_at_call 49; refine (implIn _ _ _ _).mono ?_; rintro e w' ⟨rfl, rfl⟩) | go_in)
  all_goals (go_ret; exact ⟨rfl, Below.refl _ _⟩)

/-- the reference's line -/
theorem specLine (x0 y0 x1 y1 x : Int) (w : World) (h1 : -1000000 ≤ x0 ∧ x0 ≤ 1000000) (h2 : -1000000 ≤ y0 ∧ y0 ≤ 1000000) (h3 : -1000000 ≤ x1 ∧ x1 ≤ 1000000) (h4 : -1000000 ≤ y1 ∧ y1 ≤ 1000000) :
    Calls Try.prog 64 #[.int .i64 x0, .int .i64 y0, .int .i64 x1, .int .i64 y1, .int .i64 x] w fun e w' => e = .returned (.int .i64 (lineF x0 y0 x1 y1 x)) ∧ w = w' := by
  by_cases c1 : x ≤ x0
  · go_enter Try.func64, Try.ntmps64
    go_wp2
    go_ret
    exact ⟨ret_int (by unfold lineF; rw [if_pos (.inl c1)]), rfl⟩
  · by_cases c2 : x1 ≤ x0
    · go_enter Try.func64, Try.ntmps64
      go_wp2
      go_ret
      exact ⟨ret_int (by unfold lineF; rw [if_pos (.inr c2)]), rfl⟩
    · by_cases c3 : x1 ≤ x
      · go_enter Try.func64, Try.ntmps64
        go_wp2
        go_ret
        exact ⟨ret_int (by unfold lineF; rw [if_neg (by omega), if_pos c3]), rfl⟩
      · have hm := mul_bound (a := y1 - y0) (b := x - x0) (A := 2000000) (B := 2000000) (by omega) (by omega) (by omega) (by omega) (by omega) (by omega)
        have hd := divR_bound (a := (y1 - y0) * (x - x0)) (b := x1 - x0) (by omega) 4000000000000 (by omega) (by omega)
        go_enter Try.func64, Try.ntmps64
        go_wp2_with (first | (go_at_call 61; refine (implDiv _ _ _ (by omega) (by omega) (by omega)).mono ?_; rintro e w' ⟨rfl, n, rfl⟩) | (go_at_call 60; refine (specDiv _ _ _ (by omega) (by omega) (by omega)).mono ?_; rintro e w' ⟨rfl, rfl⟩) | go_in)
        go_ret
        exact ⟨ret_int (by unfold lineF; rw [if_neg (by omega), if_neg (by omega)]), rfl⟩

theorem implLine (x0 y0 x1 y1 x : Int) (w : World) (h1 : -1000000 ≤ x0 ∧ x0 ≤ 1000000) (h2 : -1000000 ≤ y0 ∧ y0 ≤ 1000000) (h3 : -1000000 ≤ x1 ∧ x1 ≤ 1000000) (h4 : -1000000 ≤ y1 ∧ y1 ≤ 1000000) :
    Calls Try.prog 65 #[.int .i64 x0, .int .i64 y0, .int .i64 x1, .int .i64 y1, .int .i64 x] w fun e w' => e = .returned (.int .i64 (lineF x0 y0 x1 y1 x)) ∧ ∃ n, w' = w.drewN n := by
  by_cases c1 : x ≤ x0
  · go_enter Try.func65, Try.ntmps65
    go_wp2
    go_ret
    exact ⟨ret_int (by unfold lineF; rw [if_pos (.inl c1)]), 0, rfl⟩
  · by_cases c2 : x1 ≤ x0
    · go_enter Try.func65, Try.ntmps65
      go_wp2
      go_ret
      exact ⟨ret_int (by unfold lineF; rw [if_pos (.inr c2)]), 0, rfl⟩
    · by_cases c3 : x1 ≤ x
      · go_enter Try.func65, Try.ntmps65
        go_wp2
        go_ret
        exact ⟨ret_int (by unfold lineF; rw [if_neg (by omega), if_pos c3]), 0, rfl⟩
      · have hm := mul_bound (a := y1 - y0) (b := x - x0) (A := 2000000) (B := 2000000) (by omega) (by omega) (by omega) (by omega) (by omega) (by omega)
        have hd := divR_bound (a := (y1 - y0) * (x - x0)) (b := x1 - x0) (by omega) 4000000000000 (by omega) (by omega)
        go_enter Try.func65, Try.ntmps65
        go_wp2_with (first | (go_at_call 61; refine (implDiv _ _ _ (by omega) (by omega) (by omega)).mono ?_; rintro e w' ⟨rfl, n, rfl⟩) | (go_at_call 60; refine (specDiv _ _ _ (by omega) (by omega) (by omega)).mono ?_; rintro e w' ⟨rfl, rfl⟩) | go_in)
        go_ret
        exact ⟨ret_int (by unfold lineF; rw [if_neg (by omega), if_neg (by omega)]), _, rfl⟩

end Go.Proofs.Ytahemohmkgchfaa.WalkR
