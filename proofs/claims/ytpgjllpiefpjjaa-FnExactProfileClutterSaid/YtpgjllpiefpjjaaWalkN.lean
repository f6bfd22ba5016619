/- Walks of the functions on numbers: nearest quotient, angles, root, line. -/
import Derived.Test.YtpgjllpiefpjjaaChecked
import Derived.Test.YtpgjllpiefpjjaaBase
import Derived.Test.YtpgjllpiefpjjaaPlain
import Derived.LoopTactic
import Derived.Outline
import Derived.Deep.QuietTactic
import Derived.BigQuiet
namespace Go.Proofs.Ytpgjllpiefpjjaa.WalkN
open Go.RowKit Go.Proofs.Ytpgjllpiefpjjaa.Base Go.Proofs.Ytpgjllpiefpjjaa.Plain
set_option linter.unusedVariables false
set_option linter.unusedSimpArgs false

theorem specIn (n lo hi : Int) (w : World) : Calls Try.prog 43 #[.int .i64 n, .int .i64 lo, .int .i64 hi] w fun e w' => e = .returned (.bool (inB n lo hi)) ∧ w = w' := by
  by_cases h1 : lo ≤ n
  · by_cases h2 : n ≤ hi
    · have h := Lib.hid (inB_mk ⟨h1, h2⟩)
      go_enter Try.func43, Try.ntmps43
      go_wp2
      go_ret
      exact ⟨ret_bool h.out.symm, rfl⟩
    · have h : Hid (inB n lo hi = false) := Lib.hid (by simp [inB]; omega)
      go_enter Try.func43, Try.ntmps43
      go_wp2
      go_ret
      exact ⟨ret_bool h.out.symm, rfl⟩
  · have h : Hid (inB n lo hi = false) := Lib.hid (by simp [inB]; omega)
    go_enter Try.func43, Try.ntmps43
    go_wp2
    go_ret
    exact ⟨ret_bool h.out.symm, rfl⟩
theorem implIn (n lo hi : Int) (w : World) : Calls Try.prog 45 #[.int .i64 n, .int .i64 lo, .int .i64 hi] w fun e w' => e = .returned (.bool (inB n lo hi)) ∧ w = w' := by
  by_cases h1 : lo ≤ n
  · by_cases h2 : n ≤ hi
    · have h := Lib.hid (inB_mk ⟨h1, h2⟩)
      go_enter Try.func45, Try.ntmps45
      go_wp2
      go_ret
      exact ⟨ret_bool h.out.symm, rfl⟩
    · have h : Hid (inB n lo hi = false) := Lib.hid (by simp [inB]; omega)
      go_enter Try.func45, Try.ntmps45
      go_wp2
      go_ret
      exact ⟨ret_bool h.out.symm, rfl⟩
  · have h : Hid (inB n lo hi = false) := Lib.hid (by simp [inB]; omega)
    go_enter Try.func45, Try.ntmps45
    go_wp2
    go_ret
    exact ⟨ret_bool h.out.symm, rfl⟩

theorem abs_any (x : Int) (w : World) (hx : -9223372036854775807 ≤ x ∧ x ≤ 9223372036854775807) :
    Calls Try.prog 75 #[.int .i64 x] w fun e w' => e = .returned (.int .i64 (absF x)) ∧ w = w' := by
  go_enter Try.func75, Try.ntmps75
  go_wp2
  all_goals (go_ret; exact ⟨ret_int (by unfold absF; first | (rw [if_pos (by omega)]; done) | (rw [if_neg (by omega)]; done)), rfl⟩)

/-- the reference's nearest quotient -/
theorem specDiv (a b : Int) (w : World) (hb : b ≠ 0) (ha : -10000000000000000 ≤ a ∧ a ≤ 10000000000000000) (hb' : -10000000000000000 ≤ b ∧ b ≤ 10000000000000000) :
    Calls Try.prog 64 #[.int .i64 a, .int .i64 b] w fun e w' => e = .returned (.int .i64 (divR a b)) ∧ w = w' := by
  by_cases h1 : b < 0
  · by_cases h2 : 0 < a
    · have hq : 0 ≤ (-b - 2 * -a) / (2 * -b) ∧ (-b - 2 * -a) / (2 * -b) ≤ -b - 2 * -a := ⟨Int.ediv_nonneg (by omega) (by omega), Int.ediv_le_self _ (by omega)⟩
      go_enter Try.func64, Try.ntmps64
      go_wp2
      go_ret
      exact ⟨ret_int (by unfold divR divP; rw [if_pos h1, if_pos (by omega)]), rfl⟩
    · go_enter Try.func64, Try.ntmps64
      go_wp2
      go_ret
      exact ⟨ret_int (by unfold divR divP; rw [if_pos h1, if_neg (by omega)]), rfl⟩
  · by_cases h2 : a < 0
    · have hq : 0 ≤ (b - 2 * a) / (2 * b) ∧ (b - 2 * a) / (2 * b) ≤ b - 2 * a := ⟨Int.ediv_nonneg (by omega) (by omega), Int.ediv_le_self _ (by omega)⟩
      go_enter Try.func64, Try.ntmps64
      go_wp2
      go_ret
      exact ⟨ret_int (by unfold divR divP; rw [if_neg (by omega), if_pos (by omega)]), rfl⟩
    · go_enter Try.func64, Try.ntmps64
      go_wp2
      go_ret
      exact ⟨ret_int (by unfold divR divP; rw [if_neg (by omega), if_neg (by omega)]), rfl⟩

theorem implDiv (a b : Int) (w : World) (hb : b ≠ 0) (ha : -10000000000000000 ≤ a ∧ a ≤ 10000000000000000) (hb' : -10000000000000000 ≤ b ∧ b ≤ 10000000000000000) :
    Calls Try.prog 65 #[.int .i64 a, .int .i64 b] w fun e w' => e = .returned (.int .i64 (divR a b)) ∧ ∃ n, w' = w.drewN n := by
  obtain ⟨q, r, t, e1, e2, e3, e4, h1, h2, h3, h4⟩ := quorem a b
  have hq := divR_abs hb e1 e2
  have hqb : -10000000000000000 ≤ q ∧ q ≤ 10000000000000000 := by
    have := Int.natAbs_tdiv_le_natAbs a b
    rw [e1] at this
    omega
  have hrb : -10000000000000000 < r ∧ r < 10000000000000000 := by omega
  have ew : IntKind.i64.wrap (a.tdiv b) = q := by rw [e1]; exact IntWalk.i64_in _ (by omega)
  have H := Lib.hid hq
  clear hq e3 e4 e1
  have gr := absF_range r 10000000000000000 (by omega) (by omega)
  have gb := absF_range b 10000000000000000 (by omega) (by omega)
  go_enter Try.func65, Try.ntmps65
  go_wp2_with fail
  go_quiet ((go_at_call 75; exact quietL (abs_any _ _ (by omega))))
  go_wp2_with (go_at_call 75; refine (abs_any _ _ (by omega)).mono ?_; rintro e w' ⟨rfl, rfl⟩)
  · have c1 : absF b - absF r ≤ absF r := by assumption
    have c2 : (decide (a < 0) == decide (b < 0)) = true := by assumption
    go_ret
    exact ⟨ret_int (by rw [H.out, if_pos c1, if_pos c2]), _, rfl⟩
  · have c1 : absF b - absF r ≤ absF r := by assumption
    have c2 : (decide (a < 0) == decide (b < 0)) = false := by assumption
    go_ret
    exact ⟨ret_int (by rw [H.out, if_pos c1, if_neg (by rw [c2]; simp)]), _, rfl⟩
  · have c1 : absF r < absF b - absF r := by assumption
    go_ret
    exact ⟨ret_int (by rw [H.out, if_neg (by omega)]), _, rfl⟩

/-- the reference's square root -/
theorem specRoot (n : Int) (w : World) (hn : -9223372036854775808 ≤ n ∧ n ≤ 9223372036854775807) :
    Calls Try.prog 61 #[.int .i64 n] w fun e w' => e = .returned (.int .i64 (rootF n)) ∧ w = w' := by
  go_enter Try.func61, Try.ntmps61
  go_wp2
  go_loop [3, 4, 5] (fun low high mid => ∃ lo hi : Nat, low = .int .i64 lo ∧ high = .int .i64 hi ∧ lo ≤ hi ∧ hi ≤ 3037000499 ∧ Hid ((lo = 0 ∨ (lo : Int) * lo ≤ n) ∧ n < ((hi : Int) + 1) * ((hi : Int) + 1)))
    (fun low high _ => (intOf high - intOf low).toNat)
  case atStart => exact ⟨0, 3037000499, rfl, rfl, by omega, by omega, Lib.hid ⟨.inl rfl, by simp; omega⟩⟩
  case round =>
    obtain ⟨lo, hi, rfl, rfl, h1, h2, H⟩ := hrel
    by_cases hlt : lo < hi
    · obtain ⟨m, hm⟩ : ∃ m : Nat, ((lo : Int) + hi + 1) / 2 = (m : Int) := ⟨(lo + hi + 1) / 2, by omega⟩
      have hm1 : lo < m := by omega
      have hm2 : m ≤ hi := by omega
      have hsq := mul_bound (A := 3037000499) (B := 3037000499) (by omega) (by omega) (show -3037000499 ≤ (m : Int) by omega) (show (m : Int) ≤ 3037000499 by omega) (show -3037000499 ≤ (m : Int) by omega) (show (m : Int) ≤ 3037000499 by omega)
      by_cases hc : (m : Int) * m ≤ n
      · go_wp2
        go_round
        case rel => exact ⟨m, hi, by rw [hm], rfl, by omega, by omega, Lib.hid ⟨.inr hc, H.out.2⟩⟩
        case measure => simp [intOf]; omega
      · go_wp2
        go_round
        case rel => exact ⟨lo, m - 1, rfl, by rw [show ((m - 1 : Nat) : Int) = (m : Int) - 1 by omega], by omega, by omega, Lib.hid ⟨H.out.1, by rw [show ((m - 1 : Nat) : Int) + 1 = (m : Int) by omega]; omega⟩⟩
        case measure => simp [intOf]; omega
    · go_wp2
      go_ret
      obtain rfl : lo = hi := by omega
      exact ⟨ret_int (rootF_of H.out.1 H.out.2).symm, rfl⟩

end Go.Proofs.Ytpgjllpiefpjjaa.WalkN
