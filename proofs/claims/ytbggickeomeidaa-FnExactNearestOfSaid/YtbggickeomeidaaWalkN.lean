/- Walks of the functions on numbers: nearest quotient, angles, root, line. -/
import Derived.Test.YtbggickeomeidaaChecked
import Derived.Test.YtbggickeomeidaaBase
import Derived.Test.YtbggickeomeidaaPlain
import Derived.LoopTactic
import Derived.Outline
import Derived.Deep.QuietTactic
import Derived.BigQuiet
namespace Go.Proofs.Ytbggickeomeidaa.WalkN
open Go.RowKit Go.Proofs.Ytbggickeomeidaa.Base Go.Proofs.Ytbggickeomeidaa.Plain
set_option linter.unusedVariables false
set_option linter.unusedSimpArgs false

theorem specIn (n lo hi : Int) (w : World) : Calls Try.prog 17 #[.int .i64 n, .int .i64 lo, .int .i64 hi] w fun e w' => e = .returned (.bool (inB n lo hi)) ∧ w = w' := by
  by_cases h1 : lo ≤ n
  · by_cases h2 : n ≤ hi
    · have h := Lib.hid (inB_mk ⟨h1, h2⟩)
      go_enter Try.func17, Try.ntmps17
      go_wp2
      go_ret
      exact ⟨ret_bool h.out.symm, rfl⟩
    · have h : Hid (inB n lo hi = false) := Lib.hid (by simp [inB]; omega)
      go_enter Try.func17, Try.ntmps17
      go_wp2
      go_ret
      exact ⟨ret_bool h.out.symm, rfl⟩
  · have h : Hid (inB n lo hi = false) := Lib.hid (by simp [inB]; omega)
    go_enter Try.func17, Try.ntmps17
    go_wp2
    go_ret
    exact ⟨ret_bool h.out.symm, rfl⟩
theorem implIn (n lo hi : Int) (w : World) : Calls Try.prog 19 #[.int .i64 n, .int .i64 lo, .int .i64 hi] w fun e w' => e = .returned (.bool (inB n lo hi)) ∧ w = w' := by
  by_cases h1 : lo ≤ n
  · by_cases h2 : n ≤ hi
    · have h := Lib.hid (inB_mk ⟨h1, h2⟩)
      go_enter Try.func19, Try.ntmps19
      go_wp2
      go_ret
      exact ⟨ret_bool h.out.symm, rfl⟩
    · have h : Hid (inB n lo hi = false) := Lib.hid (by simp [inB]; omega)
      go_enter Try.func19, Try.ntmps19
      go_wp2
      go_ret
      exact ⟨ret_bool h.out.symm, rfl⟩
  · have h : Hid (inB n lo hi = false) := Lib.hid (by simp [inB]; omega)
    go_enter Try.func19, Try.ntmps19
    go_wp2
    go_ret
    exact ⟨ret_bool h.out.symm, rfl⟩

/-- the reference's square root -/
theorem specRoot (n : Int) (w : World) (hn : -9223372036854775808 ≤ n ∧ n ≤ 9223372036854775807) :
    Calls Try.prog 18 #[.int .i64 n] w fun e w' => e = .returned (.int .i64 (rootF n)) ∧ w = w' := by
  go_enter Try.func18, Try.ntmps18
  go_wp2
  go_loop [3, 4, 5] (fun low high mid => ∃ lo hi : Nat, low = .int .i64 lo ∧ high = .int .i64 hi ∧ lo ≤ hi ∧ hi ≤ 3037000499 ∧ Hid ((lo = 0 ∨ (lo : Int) * lo ≤ n) ∧ n < ((hi : Int) + 1) * ((hi : Int) + 1)))
    (fun low high _ => (intOf high - intOf low).toNat)
  case atStart => exact ⟨0, 3037000499, rfl, rfl, by omega, by omega, Lib.hid ⟨.inl rfl, by simp; omega⟩⟩
  case round =>
    obtain ⟨lo, hi, rfl, rfl, h1, h2, H⟩ := hrel
    by_cases hlt : lo < hi
    · obtain ⟨m, hm⟩ : ∃ m : Nat, ((lo : Int) + hi + 1) / 2 = (m : Int) := ⟨(lo + hi + 1) / 2, by omega⟩
      have hm1 : lo < m := by omega
      have hm2 : m ≤ hi := by omega
      have hsq := mul_bound (A := 3037000499) (B := 3037000499) (by omega) (by omega) (show -3037000499 ≤ (m : Int) by omega) (show (m : Int) ≤ 3037000499 by omega) (show -3037000499 ≤ (m : Int) by omega) (show (m : Int) ≤ 3037000499 by omega)
      by_cases hc : (m : Int) * m ≤ n
      · go_wp2
        go_round
        case rel => exact ⟨m, hi, by rw [hm], rfl, by omega, by omega, Lib.hid ⟨.inr hc, H.out.2⟩⟩
        case measure => simp [intOf]; omega
      · go_wp2
        go_round
        case rel => exact ⟨lo, m - 1, rfl, by rw [show ((m - 1 : Nat) : Int) = (m : Int) - 1 by omega], by omega, by omega, Lib.hid ⟨H.out.1, by rw [show ((m - 1 : Nat) : Int) + 1 = (m : Int) by omega]; omega⟩⟩
        case measure => simp [intOf]; omega
    · go_wp2
      go_ret
      obtain rfl : lo = hi := by omega
      exact ⟨ret_int (rootF_of H.out.1 H.out.2).symm, rfl⟩

end Go.Proofs.Ytbggickeomeidaa.WalkN
