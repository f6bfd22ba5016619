/- Walks of the functions on numbers: nearest quotient, angles, root, line. -/
import Derived.Test.YtpgjllpiefpjjaaDoorChecked
import Derived.Test.YtpgjllpiefpjjaaDoorBase
import Derived.Test.YtpgjllpiefpjjaaDoorPlain
import Derived.LoopTactic
import Derived.Outline
import Derived.Deep.QuietTactic
import Derived.BigQuiet
namespace Go.Proofs.YtpgjllpiefpjjaaDoor.WalkN
open Go.RowKit Go.Proofs.YtpgjllpiefpjjaaDoor.Base Go.Proofs.YtpgjllpiefpjjaaDoor.Plain
set_option linter.unusedVariables false
set_option linter.unusedSimpArgs false

theorem specIn (n lo hi : Int) (w : World) : Calls Tryd.prog 43 #[.int .i64 n, .int .i64 lo, .int .i64 hi] w fun e w' => e = .returned (.bool (inB n lo hi)) ∧ w = w' := by
  by_cases h1 : lo ≤ n
  · by_cases h2 : n ≤ hi
    · have h := Lib.hid (inB_mk ⟨h1, h2⟩)
      go_enter Tryd.func43, Tryd.ntmps43
      go_wp2
      go_ret
      exact ⟨ret_bool h.out.symm, rfl⟩
    · have h : Hid (inB n lo hi = false) := Lib.hid (by simp [inB]; omega)
      go_enter Tryd.func43, Tryd.ntmps43
      go_wp2
      go_ret
      exact ⟨ret_bool h.out.symm, rfl⟩
  · have h : Hid (inB n lo hi = false) := Lib.hid (by simp [inB]; omega)
    go_enter Tryd.func43, Tryd.ntmps43
    go_wp2
    go_ret
    exact ⟨ret_bool h.out.symm, rfl⟩
theorem implIn (n lo hi : Int) (w : World) : Calls Tryd.prog 47 #[.int .i64 n, .int .i64 lo, .int .i64 hi] w fun e w' => e = .returned (.bool (inB n lo hi)) ∧ w = w' := by
  by_cases h1 : lo ≤ n
  · by_cases h2 : n ≤ hi
    · have h := Lib.hid (inB_mk ⟨h1, h2⟩)
      go_enter Tryd.func47, Tryd.ntmps47
      go_wp2
      go_ret
      exact ⟨ret_bool h.out.symm, rfl⟩
    · have h : Hid (inB n lo hi = false) := Lib.hid (by simp [inB]; omega)
      go_enter Tryd.func47, Tryd.ntmps47
      go_wp2
      go_ret
      exact ⟨ret_bool h.out.symm, rfl⟩
  · have h : Hid (inB n lo hi = false) := Lib.hid (by simp [inB]; omega)
    go_enter Tryd.func47, Tryd.ntmps47
    go_wp2
    go_ret
    exact ⟨ret_bool h.out.symm, rfl⟩

theorem degrees (x : Int) (w : World) :
    Calls Tryd.prog 65 #[.int .i64 x] w fun e w' => e = .returned (.int .i64 (x % 360)) ∧ w = w' := by
  obtain ⟨q, r, e1, e2, h1, h2, _⟩ := tm360 x
  have h3 : (r + 360) % 360 = x % 360 := by omega
  have H := Lib.hid h3
  have E2 := Lib.hid e2
  clear h3 e2
  go_enter Tryd.func65, Tryd.ntmps65
  go_wp2
  go_ret
  exact ⟨ret_int H.out, rfl⟩

theorem abs_any (x : Int) (w : World) (hx : -9223372036854775807 ≤ x ∧ x ≤ 9223372036854775807) :
    Calls Tryd.prog 68 #[.int .i64 x] w fun e w' => e = .returned (.int .i64 (absF x)) ∧ w = w' := by
  go_enter Tryd.func68, Tryd.ntmps68
  go_wp2
  all_goals (go_ret; exact ⟨ret_int (by unfold absF; first | (rw [if_pos (by omega)]; done) | (rw [if_neg (by omega)]; done)), rfl⟩)

theorem specTurn (a b : Int) (w : World) :
    Calls Tryd.prog 44 #[.int .i64 a, .int .i64 b] w fun e w' => e = .returned (.int .i64 (turnP a b)) ∧ w = w' := by
  have h1 : 0 ≤ a % 360 ∧ a % 360 < 360 := by omega
  have h2 : 0 ≤ b % 360 ∧ b % 360 < 360 := by omega
  have h4 : 0 ≤ (a - b) % 360 ∧ (a - b) % 360 < 360 := by omega
  go_enter Tryd.func44, Tryd.ntmps44
  go_wp2_with (first | (go_at_call 65; refine (degrees _ _).mono ?_; rintro e w' ⟨rfl, rfl⟩) | go_in)
  all_goals (go_ret; exact ⟨ret_int (by unfold turnP; first | (rw [if_pos (by omega)]; done) | (rw [if_neg (by omega)]; done)), rfl⟩)

theorem implTurn (a b : Int) (w : World) :
    Calls Tryd.prog 48 #[.int .i64 a, .int .i64 b] w fun e w' => e = .returned (.int .i64 (turnP a b)) ∧ w = w' := by
  obtain ⟨q1, r1, e1, s1, h1, h2, _⟩ := tm360 a
  obtain ⟨q2, r2, e2, s2, h3, h4, _⟩ := tm360 b
  have H := Lib.hid (turn_impl r1 r2 q1 q2 a b s1 s2)
  have hb := absF_range (r1 - r2) 720 (by omega) (by omega)
  have hc : 0 ≤ absF (r1 - r2) % 360 ∧ absF (r1 - r2) % 360 < 360 := by omega
  clear s1 s2
  go_enter Tryd.func48, Tryd.ntmps48
  go_wp2_with (go_at_call 68; refine (abs_any _ _ (by omega)).mono ?_; rintro e w' ⟨rfl, rfl⟩)
  all_goals (go_ret; exact ⟨ret_int (by rw [← H.out]; first | (rw [if_pos (by omega)]; done) | (rw [if_neg (by omega)]; done)), rfl⟩)

/-- the reference's nearest quotient -/
theorem specDiv (a b : Int) (w : World) (hb : b ≠ 0) (ha : -10000000000000000 ≤ a ∧ a ≤ 10000000000000000) (hb' : -10000000000000000 ≤ b ∧ b ≤ 10000000000000000) :
    Calls Tryd.prog 50 #[.int .i64 a, .int .i64 b] w fun e w' => e = .returned (.int .i64 (divR a b)) ∧ w = w' := by
  by_cases h1 : b < 0
  · by_cases h2 : 0 < a
    · have hq : 0 ≤ (-b - 2 * -a) / (2 * -b) ∧ (-b - 2 * -a) / (2 * -b) ≤ -b - 2 * -a := ⟨Int.ediv_nonneg (by omega) (by omega), Int.ediv_le_self _ (by omega)⟩
      go_enter Tryd.func50, Tryd.ntmps50
      go_wp2
      go_ret
      exact ⟨ret_int (by unfold divR divP; rw [if_pos h1, if_pos (by omega)]), rfl⟩
    · go_enter Tryd.func50, Tryd.ntmps50
      go_wp2
      go_ret
      exact ⟨ret_int (by unfold divR divP; rw [if_pos h1, if_neg (by omega)]), rfl⟩
  · by_cases h2 : a < 0
    · have hq : 0 ≤ (b - 2 * a) / (2 * b) ∧ (b - 2 * a) / (2 * b) ≤ b - 2 * a := ⟨Int.ediv_nonneg (by omega) (by omega), Int.ediv_le_self _ (by omega)⟩
      go_enter Tryd.func50, Tryd.ntmps50
      go_wp2
      go_ret
      exact ⟨ret_int (by unfold divR divP; rw [if_neg (by omega), if_pos (by omega)]), rfl⟩
    · go_enter Tryd.func50, Tryd.ntmps50
      go_wp2
      go_ret
      exact ⟨ret_int (by unfold divR divP; rw [if_neg (by omega), if_neg (by omega)]), rfl⟩

theorem implDiv (a b : Int) (w : World) (hb : b ≠ 0) (ha : -10000000000000000 ≤ a ∧ a ≤ 10000000000000000) (hb' : -10000000000000000 ≤ b ∧ b ≤ 10000000000000000) :
    Calls Tryd.prog 53 #[.int .i64 a, .int .i64 b] w fun e w' => e = .returned (.int .i64 (divR a b)) ∧ ∃ n, w' = w.drewN n := by
  obtain ⟨q, r, t, e1, e2, e3, e4, h1, h2, h3, h4⟩ := quorem a b
  have hq := divR_abs hb e1 e2
  have hqb : -10000000000000000 ≤ q ∧ q ≤ 10000000000000000 := by
    have := Int.natAbs_tdiv_le_natAbs a b
    rw [e1] at this
    omega
  have hrb : -10000000000000000 < r ∧ r < 10000000000000000 := by omega
  have ew : IntKind.i64.wrap (a.tdiv b) = q := by rw [e1]; exact IntWalk.i64_in _ (by omega)
  have H := Lib.hid hq
  clear hq e3 e4 e1
  have gr := absF_range r 10000000000000000 (by omega) (by omega)
  have gb := absF_range b 10000000000000000 (by omega) (by omega)
  go_enter Tryd.func53, Tryd.ntmps53
  go_wp2_with fail
  go_quiet ((go_at_call 68; exact quietL (abs_any _ _ (by omega))))
  go_wp2_with (go_at_call 68; refine (abs_any _ _ (by omega)).mono ?_; rintro e w' ⟨rfl, rfl⟩)
  · have c1 : absF b - absF r ≤ absF r := by assumption
    have c2 : (decide (a < 0) == decide (b < 0)) = true := by assumption
    go_ret
    exact ⟨ret_int (by rw [H.out, if_pos c1, if_pos c2]), _, rfl⟩
  · have c1 : absF b - absF r ≤ absF r := by assumption
    have c2 : (decide (a < 0) == decide (b < 0)) = false := by assumption
    go_ret
    exact ⟨ret_int (by rw [H.out, if_pos c1, if_neg (by rw [c2]; simp)]), _, rfl⟩
  · have c1 : absF r < absF b - absF r := by assumption
    go_ret
    exact ⟨ret_int (by rw [H.out, if_neg (by omega)]), _, rfl⟩

end Go.Proofs.YtpgjllpiefpjjaaDoor.WalkN
