/- Walks of the functions on numbers: nearest quotient, angles, root, line. -/
import Derived.Test.YthjdmcjlnmonmabDoorChecked
import Derived.Test.YthjdmcjlnmonmabDoorBase
import Derived.Test.YthjdmcjlnmonmabDoorPlain
import Derived.LoopTactic
import Derived.Outline
import Derived.Deep.QuietTactic
import Derived.BigQuiet
namespace Go.Proofs.YthjdmcjlnmonmabDoor.WalkN
open Go.RowKit Go.Proofs.YthjdmcjlnmonmabDoor.Base Go.Proofs.YthjdmcjlnmonmabDoor.Plain
set_option linter.unusedVariables false
set_option linter.unusedSimpArgs false

theorem specIn (n lo hi : Int) (w : World) : Calls Tryd.prog 22 #[.int .i64 n, .int .i64 lo, .int .i64 hi] w fun e w' => e = .returned (.bool (inB n lo hi)) ∧ w = w' := by
  by_cases h1 : lo ≤ n
  · by_cases h2 : n ≤ hi
    · have h := Lib.hid (inB_mk ⟨h1, h2⟩)
      go_enter Tryd.func22, Tryd.ntmps22
      go_wp2
      go_ret
      exact ⟨ret_bool h.out.symm, rfl⟩
    · have h : Hid (inB n lo hi = false) := Lib.hid (by simp [inB]; omega)
      go_enter Tryd.func22, Tryd.ntmps22
      go_wp2
      go_ret
      exact ⟨ret_bool h.out.symm, rfl⟩
  · have h : Hid (inB n lo hi = false) := Lib.hid (by simp [inB]; omega)
    go_enter Tryd.func22, Tryd.ntmps22
    go_wp2
    go_ret
    exact ⟨ret_bool h.out.symm, rfl⟩
theorem implIn (n lo hi : Int) (w : World) : Calls Tryd.prog 24 #[.int .i64 n, .int .i64 lo, .int .i64 hi] w fun e w' => e = .returned (.bool (inB n lo hi)) ∧ w = w' := by
  by_cases h1 : lo ≤ n
  · by_cases h2 : n ≤ hi
    · have h := Lib.hid (inB_mk ⟨h1, h2⟩)
      go_enter Tryd.func24, Tryd.ntmps24
      go_wp2
      go_ret
      exact ⟨ret_bool h.out.symm, rfl⟩
    · have h : Hid (inB n lo hi = false) := Lib.hid (by simp [inB]; omega)
      go_enter Tryd.func24, Tryd.ntmps24
      go_wp2
      go_ret
      exact ⟨ret_bool h.out.symm, rfl⟩
  · have h : Hid (inB n lo hi = false) := Lib.hid (by simp [inB]; omega)
    go_enter Tryd.func24, Tryd.ntmps24
    go_wp2
    go_ret
    exact ⟨ret_bool h.out.symm, rfl⟩

end Go.Proofs.YthjdmcjlnmonmabDoor.WalkN
