/- Walks of the functions on numbers: nearest quotient, angles, root, line. -/
import Derived.Test.YtbggickeomeidaaDoorChecked
import Derived.Test.YtbggickeomeidaaDoorBase
import Derived.Test.YtbggickeomeidaaDoorPlain
import Derived.LoopTactic
import Derived.Outline
import Derived.Deep.QuietTactic
import Derived.BigQuiet
namespace Go.Proofs.YtbggickeomeidaaDoor.WalkN
open Go.RowKit Go.Proofs.YtbggickeomeidaaDoor.Base Go.Proofs.YtbggickeomeidaaDoor.Plain
set_option linter.unusedVariables false
set_option linter.unusedSimpArgs false

theorem specIn (n lo hi : Int) (w : World) : Calls Tryd.prog 38 #[.int .i64 n, .int .i64 lo, .int .i64 hi] w fun e w' => e = .returned (.bool (inB n lo hi)) ∧ w = w' := by
  by_cases h1 : lo ≤ n
  · by_cases h2 : n ≤ hi
    · have h := Lib.hid (inB_mk ⟨h1, h2⟩)
      go_enter Tryd.func38, Tryd.ntmps38
      go_wp2
      go_ret
      exact ⟨ret_bool h.out.symm, rfl⟩
    · have h : Hid (inB n lo hi = false) := Lib.hid (by simp [inB]; omega)
      go_enter Tryd.func38, Tryd.ntmps38
      go_wp2
      go_ret
      exact ⟨ret_bool h.out.symm, rfl⟩
  · have h : Hid (inB n lo hi = false) := Lib.hid (by simp [inB]; omega)
    go_enter Tryd.func38, Tryd.ntmps38
    go_wp2
    go_ret
    exact ⟨ret_bool h.out.symm, rfl⟩
theorem implIn (n lo hi : Int) (w : World) : Calls Tryd.prog 50 #[.int .i64 n, .int .i64 lo, .int .i64 hi] w fun e w' => e = .returned (.bool (inB n lo hi)) ∧ w = w' := by
  by_cases h1 : lo ≤ n
  · by_cases h2 : n ≤ hi
    · have h := Lib.hid (inB_mk ⟨h1, h2⟩)
      go_enter Tryd.func50, Tryd.ntmps50
      go_wp2
      go_ret
      exact ⟨ret_bool h.out.symm, rfl⟩
    · have h : Hid (inB n lo hi = false) := Lib.hid (by simp [inB]; omega)
      go_enter Tryd.func50, Tryd.ntmps50
      go_wp2
      go_ret
      exact ⟨ret_bool h.out.symm, rfl⟩
  · have h : Hid (inB n lo hi = false) := Lib.hid (by simp [inB]; omega)
    go_enter Tryd.func50, Tryd.ntmps50
    go_wp2
    go_ret
    exact ⟨ret_bool h.out.symm, rfl⟩

theorem degrees (x : Int) (w : World) :
    Calls Tryd.prog 66 #[.int .i64 x] w fun e w' => e = .returned (.int .i64 (x % 360)) ∧ w = w' := by
  obtain ⟨q, r, e1, e2, h1, h2, _⟩ := tm360 x
  have h3 : (r + 360) % 360 = x % 360 := by omega
  have H := Lib.hid h3
  have E2 := Lib.hid e2
  clear h3 e2
  go_enter Tryd.func66, Tryd.ntmps66
  go_wp2
  go_ret
  exact ⟨ret_int H.out, rfl⟩

theorem abs_any (x : Int) (w : World) (hx : -9223372036854775807 ≤ x ∧ x ≤ 9223372036854775807) :
    Calls Tryd.prog 59 #[.int .i64 x] w fun e w' => e = .returned (.int .i64 (absF x)) ∧ w = w' := by
  go_enter Tryd.func59, Tryd.ntmps59
  go_wp2
  all_goals (go_ret; exact ⟨ret_int (by unfold absF; first | (rw [if_pos (by omega)]; done) | (rw [if_neg (by omega)]; done)), rfl⟩)

theorem specTurn (a b : Int) (w : World) :
    Calls Tryd.prog 47 #[.int .i64 a, .int .i64 b] w fun e w' => e = .returned (.int .i64 (turnP a b)) ∧ w = w' := by
  have h1 : 0 ≤ a % 360 ∧ a % 360 < 360 := by omega
  have h2 : 0 ≤ b % 360 ∧ b % 360 < 360 := by omega
  have h4 : 0 ≤ (a - b) % 360 ∧ (a - b) % 360 < 360 := by omega
  go_enter Tryd.func47, Tryd.ntmps47
  go_wp2_with (first | (go_at_call 66; refine (degrees _ _).mono ?_; rintro e w' ⟨rfl, rfl⟩) | go_in)
  all_goals (go_ret; exact ⟨ret_int (by unfold turnP; first | (rw [if_pos (by omega)]; done) | (rw [if_neg (by omega)]; done)), rfl⟩)

theorem implTurn (a b : Int) (w : World) :
    Calls Tryd.prog 51 #[.int .i64 a, .int .i64 b] w fun e w' => e = .returned (.int .i64 (turnP a b)) ∧ w = w' := by
  obtain ⟨q1, r1, e1, s1, h1, h2, _⟩ := tm360 a
  obtain ⟨q2, r2, e2, s2, h3, h4, _⟩ := tm360 b
  have H := Lib.hid (turn_impl r1 r2 q1 q2 a b s1 s2)
  have hb := absF_range (r1 - r2) 720 (by omega) (by omega)
  have hc : 0 ≤ absF (r1 - r2) % 360 ∧ absF (r1 - r2) % 360 < 360 := by omega
  clear s1 s2
  go_enter Tryd.func51, Tryd.ntmps51
  go_wp2_with (go_at_call 59; refine (abs_any _ _ (by omega)).mono ?_; rintro e w' ⟨rfl, rfl⟩)
  all_goals (go_ret; exact ⟨ret_int (by rw [← H.out]; first | (rw [if_pos (by omega)]; done) | (rw [if_neg (by omega)]; done)), rfl⟩)

end Go.Proofs.YtbggickeomeidaaDoor.WalkN
