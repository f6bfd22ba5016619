/- The square root: the program's way by sort.Search; and what rests on it. -/
import Derived.Test.YtbggickeomeidaaWalkN
namespace Go.Proofs.Ytbggickeomeidaa.WalkR
open Go.RowKit Go.Proofs.Ytbggickeomeidaa.Base Go.Proofs.Ytbggickeomeidaa.Plain Go.Proofs.Ytbggickeomeidaa.WalkN
set_option linter.unusedVariables false
set_option linter.unusedSimpArgs false

theorem rootClosure (n : Int) (B r : Nat) (w : World) (hr : r < 3037000499) (hn : -9223372036854775808 ≤ n ∧ n ≤ 9223372036854775807) (hc : w.cell? ⟨B, 0, none⟩ = some (.int .i64 n)) :
    Calls Try.prog 23 #[.int .i64 r, .pointer (some ⟨B, 0, none⟩)] w fun e w' => e = .returned (.bool (decide (n < ((r : Int) + 1) * ((r : Int) + 1)))) ∧ w = w' := by
  have hsq := mul_bound (A := 3037000499) (B := 3037000499) (by omega) (by omega) (show -3037000499 ≤ (r : Int) + 1 by omega) (show (r : Int) + 1 ≤ 3037000499 by omega) (show -3037000499 ≤ (r : Int) + 1 by omega) (show (r : Int) + 1 ≤ 3037000499 by omega)
  go_enter Try.func23, Try.ntmps23
  go_wp2
  go_ret
  exact ⟨rfl, rfl⟩

theorem rootSearch (n : Int) (B : Nat) (w : World) (h0 : 0 ≤ n) (hn : n ≤ 9223372036854775807) (hc : w.cell? ⟨B, 0, none⟩ = some (.int .i64 n)) :
    Calls Try.prog 22 #[.int .i64 3037000499, .func (.func 23) #[] #[.pointer (some ⟨B, 0, none⟩)]] w fun e w' => e = .returned (.int .i64 (rootF n)) ∧ w = w' := by
  have HC := Lib.hid hc
  clear hc
  go_enter Try.func22, Try.ntmps22
  go_wp2
  go_loop [5, 6, 7] (fun i j h => ∃ lo hi : Nat, i = .int .i64 lo ∧ j = .int .i64 hi ∧ lo ≤ hi ∧ hi ≤ 3037000499 ∧ Hid ((lo = 0 ∨ (lo : Int) * lo ≤ n) ∧ n < ((hi : Int) + 1) * ((hi : Int) + 1)))
    (fun i j _ => (intOf j - intOf i).toNat)
  case atStart => exact ⟨0, 3037000499, rfl, rfl, by omega, by omega, Lib.hid ⟨.inl rfl, by simp; omega⟩⟩
  case round =>
    obtain ⟨lo, hi, rfl, rfl, h1, h2, H⟩ := hrel
    by_cases hlt : lo < hi
    · have hcl := rootClosure n B ((lo + hi) / 2) w (by omega) (by omega) HC.out
      rw [show (((lo + hi) / 2 : Nat) : Int) = ((lo : Int) + hi) / 2 by omega] at hcl
      by_cases hc : n < (((lo : Int) + hi) / 2 + 1) * (((lo : Int) + hi) / 2 + 1)
      · rw [decide_eq_true hc] at hcl
        have HCL := Lib.hid hcl
        clear hcl
        have HH := Lib.hid hc
        clear hc
        go_wp2_with (go_at_call 23; refine HCL.out.mono ?_; rintro e w' ⟨rfl, rfl⟩)
        go_round
        case rel => exact ⟨lo, (lo + hi) / 2, rfl, by rw [show (((lo + hi) / 2 : Nat) : Int) = ((lo : Int) + hi) / 2 by omega], by omega, by omega, Lib.hid ⟨H.out.1, by rw [show (((lo + hi) / 2 : Nat) : Int) = ((lo : Int) + hi) / 2 by omega]; exact HH.out⟩⟩
        case measure => simp [intOf]; omega
      · rw [decide_eq_false hc] at hcl
        have HCL := Lib.hid hcl
        clear hcl
        have HH := Lib.hid hc
        clear hc
        go_wp2_with (go_at_call 23; refine HCL.out.mono ?_; rintro e w' ⟨rfl, rfl⟩)
        go_round
        case rel => exact ⟨(lo + hi) / 2 + 1, hi, by rw [show (((lo + hi) / 2 + 1 : Nat) : Int) = ((lo : Int) + hi) / 2 + 1 by omega], rfl, by omega, by omega, Lib.hid ⟨.inr (by rw [show (((lo + hi) / 2 + 1 : Nat) : Int) = ((lo : Int) + hi) / 2 + 1 by omega]; exact HH.out), H.out.2⟩⟩
        case measure => simp [intOf]; omega
    · go_wp2
      go_ret
      obtain rfl : lo = hi := by omega
      exact ⟨ret_int (rootF_of H.out.1 H.out.2).symm, rfl⟩

theorem implRoot (n : Int) (w : World) (hn : -9223372036854775808 ≤ n ∧ n ≤ 9223372036854775807) :
    Calls Try.prog 21 #[.int .i64 n] w fun e w' => e = .returned (.int .i64 (rootF n)) ∧ w' = w.alloc (.cells #[.int .i64 n] 2) := by
  by_cases h : n < 0
  · go_enter Try.func21, Try.ntmps21
    go_wp2
    go_ret
    exact ⟨ret_int (by unfold rootF; rw [Int.toNat_of_nonpos (by omega)]; rfl), rfl⟩
  · have hs := rootSearch n w.heap.size (w.alloc (.cells #[.int .i64 n] 2)) (by omega) hn.2 (by simp)
    have H := Lib.hid hs
    clear hs
    go_enter Try.func21, Try.ntmps21
    go_wp2_with (go_at_call 22; refine H.out.mono ?_; rintro e w' ⟨rfl, rfl⟩)
    go_ret
    exact ⟨rfl, rfl⟩

end Go.Proofs.Ytbggickeomeidaa.WalkR
