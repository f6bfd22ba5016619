/- Between: the walk. -/
import Derived.Test.YtahemohmkgchfaaWalkR
namespace Go.Proofs.Ytahemohmkgchfaa.WalkB
open Go.RowKit Go.Proofs.Ytahemohmkgchfaa.Base Go.Proofs.Ytahemohmkgchfaa.Plain Go.Proofs.Ytahemohmkgchfaa.WalkN Go.Proofs.Ytahemohmkgchfaa.WalkR
set_option linter.unusedVariables false
set_option linter.unusedSimpArgs false

theorem implBetween_yes (x0 y0 x1 y1 x : Int) (w : World) (i0 : inB x0 (-1000000) 1000000 = true) (i1 : inB y0 (-1000000) 1000000 = true) (i2 : inB x1 (-1000000) 1000000 = true) (i3 : inB y1 (-1000000) 1000000 = true) :
    Calls Try.prog 40 #[.int .i64 x0, .int .i64 y0, .int .i64 x1, .int .i64 y1, .int .i64 x] w fun e w' => e = .returned (.int .i64 (lineF x0 y0 x1 y1 x)) ∧ ∃ n, w' = w.drewN n := by
  have L := Lib.hid (implLine x0 y0 x1 y1 x w (inB_yes i0) (inB_yes i1) (inB_yes i2) (inB_yes i3))
  have j0 : ∀ w, (Instr.index 52 (.agg #[.int .i64 x0, .int .i64 y0, .int .i64 x1, .int .i64 y1]) (.int .i64 0)).run Try.prog w = .ok (.int .i64 x0) w := fun _ => by kernel_rfl
  have j1 : ∀ w, (Instr.index 52 (.agg #[.int .i64 x0, .int .i64 y0, .int .i64 x1, .int .i64 y1]) (.int .i64 1)).run Try.prog w = .ok (.int .i64 y0) w := fun _ => by kernel_rfl
  have j2 : ∀ w, (Instr.index 52 (.agg #[.int .i64 x0, .int .i64 y0, .int .i64 x1, .int .i64 y1]) (.int .i64 2)).run Try.prog w = .ok (.int .i64 x1) w := fun _ => by kernel_rfl
  have j3 : ∀ w, (Instr.index 52 (.agg #[.int .i64 x0, .int .i64 y0, .int .i64 x1, .int .i64 y1]) (.int .i64 3)).run Try.prog w = .ok (.int .i64 y1) w := fun _ => by kernel_rfl
  go_enter Try.func40, Try.ntmps40
  go_wp2
  go_loop [12, 18] (fun _ c => ∃ k : Nat, k ≤ 4 ∧ c = .int .i64 k ∧ True) (fun _ c => (4 - intOf c).toNat)
  case atStart => exact ⟨0, by omega, rfl, trivial⟩
  case round =>
    obtain ⟨k, hk, rfl, H⟩ := hrel
    rcases (show k = 0 ∨ k = 1 ∨ k = 2 ∨ k = 3 ∨ k = 4 by omega) with rfl | rfl | rfl | rfl | rfl
    · have g := Lib.hid H
      go_wp2_with (first | (go_at_call 51; refine (specIn _ _ _ _).mono ?_; rintro e w' ⟨rfl, rfl⟩) | (go_at_call 49; refine (implIn _ _ _ _).mono ?_; rintro e w' ⟨rfl, rfl⟩) | go_in)
      go_round
      case rel => exact ⟨1, by omega, rfl, trivial⟩
      case measure => simp [intOf]
    · have g := Lib.hid H
      go_wp2_with (first | (go_at_call 51; refine (specIn _ _ _ _).mono ?_; rintro e w' ⟨rfl, rfl⟩) | (go_at_call 49; refine (implIn _ _ _ _).mono ?_; rintro e w' ⟨rfl, rfl⟩) | go_in)
      go_round
      case rel => exact ⟨2, by omega, rfl, trivial⟩
      case measure => simp [intOf]
    · have g := Lib.hid H
      go_wp2_with (first | (go_at_call 51; refine (specIn _ _ _ _).mono ?_; rintro e w' ⟨rfl, rfl⟩) | (go_at_call 49; refine (implIn _ _ _ _).mono ?_; rintro e w' ⟨rfl, rfl⟩) | go_in)
      go_round
      case rel => exact ⟨3, by omega, rfl, trivial⟩
      case measure => simp [intOf]
    · have g := Lib.hid H
      go_wp2_with (first | (go_at_call 51; refine (specIn _ _ _ _).mono ?_; rintro e w' ⟨rfl, rfl⟩) | (go_at_call 49; refine (implIn _ _ _ _).mono ?_; rintro e w' ⟨rfl, rfl⟩) | go_in)
      go_round
      case rel => exact ⟨4, by omega, rfl, trivial⟩
      case measure => simp [intOf]
    · go_wp2_with (go_at_call 65; refine L.out.mono ?_; rintro e w' ⟨rfl, n, rfl⟩)
      go_ret
      exact ⟨rfl, n, rfl⟩

theorem implBetween_no (x0 y0 x1 y1 x : Int) (w : World) (hno : ¬ (inB x0 (-1000000) 1000000 = true ∧ inB y0 (-1000000) 1000000 = true ∧ inB x1 (-1000000) 1000000 = true ∧ inB y1 (-1000000) 1000000 = true)) :
    Calls Try.prog 40 #[.int .i64 x0, .int .i64 y0, .int .i64 x1, .int .i64 y1, .int .i64 x] w fun e w' => e = .returned (.int .i64 0) ∧ w = w' := by
  have N := Lib.hid hno
  clear hno
  have j0 : ∀ w, (Instr.index 52 (.agg #[.int .i64 x0, .int .i64 y0, .int .i64 x1, .int .i64 y1]) (.int .i64 0)).run Try.prog w = .ok (.int .i64 x0) w := fun _ => by kernel_rfl
  have j1 : ∀ w, (Instr.index 52 (.agg #[.int .i64 x0, .int .i64 y0, .int .i64 x1, .int .i64 y1]) (.int .i64 1)).run Try.prog w = .ok (.int .i64 y0) w := fun _ => by kernel_rfl
  have j2 : ∀ w, (Instr.index 52 (.agg #[.int .i64 x0, .int .i64 y0, .int .i64 x1, .int .i64 y1]) (.int .i64 2)).run Try.prog w = .ok (.int .i64 x1) w := fun _ => by kernel_rfl
  have j3 : ∀ w, (Instr.index 52 (.agg #[.int .i64 x0, .int .i64 y0, .int .i64 x1, .int .i64 y1]) (.int .i64 3)).run Try.prog w = .ok (.int .i64 y1) w := fun _ => by kernel_rfl
  go_enter Try.func40, Try.ntmps40
  go_wp2
  go_loop [12, 18] (fun _ c => ∃ k : Nat, k ≤ 4 ∧ c = .int .i64 k ∧ Hid (∀ j, j < k → inB (([x0, y0, x1, y1] : List Int).getD j 0) (-1000000) 1000000 = true)) (fun _ c => (4 - intOf c).toNat)
  case atStart => exact ⟨0, by omega, rfl, Lib.hid (by intro j hj; omega)⟩
  case round =>
    obtain ⟨k, hk, rfl, H⟩ := hrel
    rcases (show k = 0 ∨ k = 1 ∨ k = 2 ∨ k = 3 ∨ k = 4 by omega) with rfl | rfl | rfl | rfl | rfl
    · cases hb : inB x0 (-1000000) 1000000
      · go_wp2_with (first | (go_at_call 51; refine (specIn _ _ _ _).mono ?_; rintro e w' ⟨rfl, rfl⟩) | (go_at_call 49; refine (implIn _ _ _ _).mono ?_; rintro e w' ⟨rfl, rfl⟩) | go_in)
        go_ret
        exact ⟨rfl, rfl⟩
      · go_wp2_with (first | (go_at_call 51; refine (specIn _ _ _ _).mono ?_; rintro e w' ⟨rfl, rfl⟩) | (go_at_call 49; refine (implIn _ _ _ _).mono ?_; rintro e w' ⟨rfl, rfl⟩) | go_in)
        go_round
        case rel => exact ⟨1, by omega, rfl, Lib.hid (by intro j hj; rcases (show j = 0 by omega) with rfl <;> first | exact hb | exact H.out _ (by omega))⟩
        case measure => simp [intOf]
    · cases hb : inB y0 (-1000000) 1000000
      · go_wp2_with (first | (go_at_call 51; refine (specIn _ _ _ _).mono ?_; rintro e w' ⟨rfl, rfl⟩) | (go_at_call 49; refine (implIn _ _ _ _).mono ?_; rintro e w' ⟨rfl, rfl⟩) | go_in)
        go_ret
        exact ⟨rfl, rfl⟩
      · go_wp2_with (first | (go_at_call 51; refine (specIn _ _ _ _).mono ?_; rintro e w' ⟨rfl, rfl⟩) | (go_at_call 49; refine (implIn _ _ _ _).mono ?_; rintro e w' ⟨rfl, rfl⟩) | go_in)
        go_round
        case rel => exact ⟨2, by omega, rfl, Lib.hid (by intro j hj; rcases (show j = 0 ∨ j = 1 by omega) with rfl | rfl <;> first | exact hb | exact H.out _ (by omega))⟩
        case measure => simp [intOf]
    · cases hb : inB x1 (-1000000) 1000000
      · go_wp2_with (first | (go_at_call 51; refine (specIn _ _ _ _).mono ?_; rintro e w' ⟨rfl, rfl⟩) | (go_at_call 49; refine (implIn _ _ _ _).mono ?_; rintro e w' ⟨rfl, rfl⟩) | go_in)
        go_ret
        exact ⟨rfl, rfl⟩
      · go_wp2_with (first | (go_at_call 51; refine (specIn _ _ _ _).mono ?_; rintro e w' ⟨rfl, rfl⟩) | (go_at_call 49; refine (implIn _ _ _ _).mono ?_; rintro e w' ⟨rfl, rfl⟩) | go_in)
        go_round
        case rel => exact ⟨3, by omega, rfl, Lib.hid (by intro j hj; rcases (show j = 0 ∨ j = 1 ∨ j = 2 by omega) with rfl | rfl | rfl <;> first | exact hb | exact H.out _ (by omega))⟩
        case measure => simp [intOf]
    · cases hb : inB y1 (-1000000) 1000000
      · go_wp2_with (first | (go_at_call 51; refine (specIn _ _ _ _).mono ?_; rintro e w' ⟨rfl, rfl⟩) | (go_at_call 49; refine (implIn _ _ _ _).mono ?_; rintro e w' ⟨rfl, rfl⟩) | go_in)
        go_ret
        exact ⟨rfl, rfl⟩
      · go_wp2_with (first | (go_at_call 51; refine (specIn _ _ _ _).mono ?_; rintro e w' ⟨rfl, rfl⟩) | (go_at_call 49; refine (implIn _ _ _ _).mono ?_; rintro e w' ⟨rfl, rfl⟩) | go_in)
        go_round
        case rel => exact ⟨4, by omega, rfl, Lib.hid (by intro j hj; rcases (show j = 0 ∨ j = 1 ∨ j = 2 ∨ j = 3 by omega) with rfl | rfl | rfl | rfl <;> first | exact hb | exact H.out _ (by omega))⟩
        case measure => simp [intOf]
    · exact absurd ⟨H.out 0 (by omega), H.out 1 (by omega), H.out 2 (by omega), H.out 3 (by omega)⟩ N.out

theorem between (x0 : Int) (w0 : (Lit.int .i64 x0).wf = true) (y0 : Int) (v0 : (Lit.int .i64 y0).wf = true) (x1 : Int) (w1 : (Lit.int .i64 x1).wf = true) (y1 : Int) (v1 : (Lit.int .i64 y1).wf = true) (x : Int) (wx : (Lit.int .i64 x).wf = true) (w : World) :
    Calls Try.prog 14 #[.int .i64 x0, .int .i64 y0, .int .i64 x1, .int .i64 y1, .int .i64 x] w fun e w' => e = .returned (.bool true) ∧ Below w.heap.size w w' := by
  by_cases hy : inB x0 (-1000000) 1000000 = true ∧ inB y0 (-1000000) 1000000 = true ∧ inB x1 (-1000000) 1000000 = true ∧ inB y1 (-1000000) 1000000 = true
  · obtain ⟨i0, i1, i2, i3⟩ := hy
    have L1 := Lib.hid (fun w => implBetween_yes x0 y0 x1 y1 x w i0 i1 i2 i3)
    have L2 := Lib.hid (fun w => specLine x0 y0 x1 y1 x w (inB_yes i0) (inB_yes i1) (inB_yes i2) (inB_yes i3))
    go_enter Try.func14, Try.ntmps14
    go_wp2_with (first | (go_at_call 51; refine (specIn _ _ _ _).mono ?_; rintro e w' ⟨rfl, rfl⟩) | (go_at_call 49; refine (implIn _ _ _ _).mono ?_; rintro e w' ⟨rfl, rfl⟩) | (go_at_call 40; refine (L1.out _).mono ?_; rintro e w' ⟨rfl, n, rfl⟩) | (go_at_call 64; refine (L2.out _).mono ?_; rintro e w' ⟨rfl, rfl⟩) | go_in)
    go_ret
    exact ⟨rfl, below_drewN (Below.refl _ _) _⟩
  · have L1 := Lib.hid (fun w => implBetween_no x0 y0 x1 y1 x w hy)
    have N := Lib.hid hy
    clear hy
    cases i0 : inB x0 (-1000000) 1000000 <;> cases i1 : inB y0 (-1000000) 1000000 <;> cases i2 : inB x1 (-1000000) 1000000 <;> cases i3 : inB y1 (-1000000) 1000000
    case true.true.true.true => exact absurd ⟨i0, i1, i2, i3⟩ N.out
    all_goals go_enter Try.func14, Try.ntmps14
    all_goals go_wp2_with (first | (go_at_call 51; refine (specIn _ _ _ _).mono ?_; rintro e w' ⟨rfl, rfl⟩) | (go_at_call 49; refine (implIn _ _ _ _).mono ?_; rintro e w' ⟨rfl, rfl⟩) | (go_at_call 40; refine (L1.out _).mono ?_; rintro e w' ⟨rfl, rfl⟩) | go_in)
    all_goals (go_ret; exact ⟨rfl, Below.refl _ _⟩)

end Go.Proofs.Ytahemohmkgchfaa.WalkB
