/- Decibels: the difference of two powers. -/
import Derived.Test.YthjdmcjlnmonmabDoorWalkDP
import Derived.BigQuiet
import Derived.BigGuardPart
namespace Go.Proofs.YthjdmcjlnmonmabDoor.WalkDD
open Go Go.RowKit Go.Proofs.YthjdmcjlnmonmabDoor.Base Go.Proofs.YthjdmcjlnmonmabDoor.Plain Go.Proofs.YthjdmcjlnmonmabDoor.PlainDb Go.Proofs.YthjdmcjlnmonmabDoor.WalkN Go.Proofs.YthjdmcjlnmonmabDoor.WalkP Go.Proofs.YthjdmcjlnmonmabDoor.Words Go.Proofs.YthjdmcjlnmonmabDoor.WalkLS Go.Proofs.YthjdmcjlnmonmabDoor.Text Go.Proofs.YthjdmcjlnmonmabDoor.WalkLI Go.Proofs.YthjdmcjlnmonmabDoor.WalkDP
set_option linter.unusedVariables false
set_option linter.unusedSimpArgs false

/-- is a number a level -/
def lvB (v : Int) : Bool := inB v (-300000) 300000
theorem lvB_yes {v : Int} (h : lvB v = true) : -300000 ≤ v ∧ v ≤ 300000 := inB_yes h
theorem specLv (v : Int) (w : World) : Calls Tryd.prog 25 #[.int .i64 v] w fun e w' => e = .returned (.bool (lvB v)) ∧ w = w' := by
  have I := Lib.hid (fun W => specIn v (-300000) 300000 W)
  go_enter Tryd.func25, Tryd.ntmps25
  go_wp2_with (go_at_call 22; refine (I.out _).mono ?_; rintro e w' ⟨rfl, rfl⟩)
  go_ret
  exact ⟨rfl, rfl⟩
theorem implLv (v : Int) (w : World) : Calls Tryd.prog 27 #[.int .i64 v] w fun e w' => e = .returned (.bool (lvB v)) ∧ w = w' := by
  have I := Lib.hid (fun W => implIn v (-300000) 300000 W)
  go_enter Tryd.func27, Tryd.ntmps27
  go_wp2_with (go_at_call 24; refine (I.out _).mono ?_; rintro e w' ⟨rfl, rfl⟩)
  go_ret
  exact ⟨rfl, rfl⟩

/-- what DiffDb gives -/
def difR (a b : Int) : Int × Int :=
  bif lvB a && lvB b then (if a ≤ b then (0, 6) else if partF (b - a) = 1000000000 then (0, 6) else (a - 90000 + logZ (1000000000 - partF (b - a)), 0)) else (0, 2)
def difV (a b : Int) : Value := .tuple #[.int .i64 (difR a b).1, .int .i64 (difR a b).2]
theorem difV_eq {a b x y : Int} (h : difR a b = (x, y)) : difV a b = .tuple #[.int .i64 x, .int .i64 y] := by unfold difV; rw [h]
theorem dif_out {a b : Int} (h : (lvB a && lvB b) = false) : difR a b = (0, 2) := by unfold difR; rw [h]; rfl
theorem dif_in {a b : Int} (h1 : lvB a = true) (h2 : lvB b = true) : difR a b = (if a ≤ b then (0, 6) else if partF (b - a) = 1000000000 then (0, 6) else (a - 90000 + logZ (1000000000 - partF (b - a)), 0)) := by unfold difR; rw [h1, h2]; rfl
theorem ret_val {u v : Value} (h : u = v) : Ending.returned u = .returned v := by rw [h]

set_option maxHeartbeats 1000000 in
theorem specDif (a b : Int) (w : World) : Calls Tryd.prog 12 #[.int .i64 a, .int .i64 b] w fun e w' => e = .returned (difV a b) ∧ w = w' := by
  have A := Lib.hid (fun W => specLv a W)
  have B := Lib.hid (fun W => specLv b W)
  cases ha : lvB a <;> cases hb : lvB b
  case true.true =>
    have ya := lvB_yes ha
    have yb := lvB_yes hb
    rw [ha] at A
    rw [hb] at B
    by_cases h1 : a ≤ b
    · have H := Lib.hid (difV_eq (show difR a b = (0, 6) by rw [dif_in ha hb, if_pos h1]))
      clear ha hb
      go_enter Tryd.func12, Tryd.ntmps12
      go_wp2_with (go_at_call 25; first | ((with_reducible refine (A.out _).mono ?_); rintro e w' ⟨rfl, rfl⟩) | ((with_reducible refine (B.out _).mono ?_); rintro e w' ⟨rfl, rfl⟩))
      go_ret2
      exact ⟨ret_val H.out.symm, rfl⟩
    · have hr := partF_range (v := b - a) (by omega)
      have P := Lib.hid (fun W => specPart (b - a) W (by omega))
      by_cases h2 : partF (b - a) = 1000000000
      · have H := Lib.hid (difV_eq (show difR a b = (0, 6) by rw [dif_in ha hb, if_neg h1, if_pos h2]))
        rw [h2] at P
        clear ha hb h2 hr
        go_enter Tryd.func12, Tryd.ntmps12
        go_wp2_with (first | (go_at_call 25; first | ((with_reducible refine (A.out _).mono ?_); rintro e w' ⟨rfl, rfl⟩) | ((with_reducible refine (B.out _).mono ?_); rintro e w' ⟨rfl, rfl⟩)) | (go_at_call 26; refine (P.out _).mono ?_; rintro e w' ⟨rfl, rfl⟩))
        go_ret2
        exact ⟨ret_val H.out.symm, rfl⟩
      · have H0 := difV_eq (show difR a b = (a - 90000 + logZ (1000000000 - partF (b - a)), 0) by rw [dif_in ha hb, if_neg h1, if_neg h2])
        obtain ⟨p, hp⟩ : ∃ p, partF (b - a) = p := ⟨_, rfl⟩
        rw [hp] at P hr h2 H0
        obtain ⟨m, hm⟩ : ∃ m : Nat, 1000000000 - p = (m : Int) := ⟨(1000000000 - p).toNat, by omega⟩
        have L := Lib.hid (fun W => specLog m W (by omega) (by omega))
        have lr := logF_range (n := m) (by omega) (by omega)
        rw [hm, logZ_nat (by omega)] at H0
        have H := Lib.hid H0
        have m1 : 1 ≤ m := by omega
        clear ha hb hp H0
        go_enter Tryd.func12, Tryd.ntmps12
        go_wp2_with (first | (go_at_call 25; first | ((with_reducible refine (A.out _).mono ?_); rintro e w' ⟨rfl, rfl⟩) | ((with_reducible refine (B.out _).mono ?_); rintro e w' ⟨rfl, rfl⟩)) | (go_at_call 26; refine (P.out _).mono ?_; rintro e w' ⟨rfl, rfl⟩) | (go_at_call 20; refine (L.out _).mono ?_; rintro e w' ⟨rfl, rfl⟩))
        go_ret2
        exact ⟨ret_val H.out.symm, rfl⟩
  all_goals have H := Lib.hid (difV_eq (dif_out (show (lvB a && lvB b) = false by rw [ha, hb]; rfl)))
  all_goals rw [ha] at A
  all_goals rw [hb] at B
  all_goals clear ha hb
  all_goals go_enter Tryd.func12, Tryd.ntmps12
  all_goals go_wp2_with (go_at_call 25; first | ((with_reducible refine (A.out _).mono ?_); rintro e w' ⟨rfl, rfl⟩) | ((with_reducible refine (B.out _).mono ?_); rintro e w' ⟨rfl, rfl⟩))
  all_goals (go_ret2; exact ⟨ret_val H.out.symm, rfl⟩)

set_option maxHeartbeats 1000000 in
theorem implDif (a b : Int) (w : World) (hT : Tab w) : Calls Tryd.prog 13 #[.int .i64 a, .int .i64 b] w fun e w' => e = .returned (difV a b) ∧ Below w.heap.size w w' := by
  have A := Lib.hid (fun W => implLv a W)
  have B := Lib.hid (fun W => implLv b W)
  cases ha : lvB a <;> cases hb : lvB b
  case true.true =>
    have ya := lvB_yes ha
    have yb := lvB_yes hb
    rw [ha] at A
    rw [hb] at B
    by_cases h1 : a ≤ b
    · have H := Lib.hid (difV_eq (show difR a b = (0, 6) by rw [dif_in ha hb, if_pos h1]))
      clear ha hb hT
      go_enter Tryd.func13, Tryd.ntmps13
      go_wp2_with (go_at_call 27; first | ((with_reducible refine (A.out _).mono ?_); rintro e w' ⟨rfl, rfl⟩) | ((with_reducible refine (B.out _).mono ?_); rintro e w' ⟨rfl, rfl⟩))
      go_ret2
      exact ⟨ret_val H.out.symm, Below.refl _ _⟩
    · have hr := partF_range (v := b - a) (by omega)
      have P := Lib.hid (fun W (hb : Below w.heap.size w W) => implPart (b - a) W (by omega) (Tab.below hb hT))
      by_cases h2 : partF (b - a) = 1000000000
      · have H := Lib.hid (difV_eq (show difR a b = (0, 6) by rw [dif_in ha hb, if_neg h1, if_pos h2]))
        rw [h2] at P
        clear ha hb h2 hr hT
        go_enter Tryd.func13, Tryd.ntmps13
        go_wp2_with (first | (go_at_call 27; first | ((with_reducible refine (A.out _).mono ?_); rintro e w' ⟨rfl, rfl⟩) | ((with_reducible refine (B.out _).mono ?_); rintro e w' ⟨rfl, rfl⟩)) | (go_at_call 28; refine (P.out _ (by repeat (first | with_reducible exact Below.refl _ _ | with_reducible assumption | (with_reducible refine Below.drew ?_) | (with_reducible refine below_drewN ?_ _) | ((with_reducible refine Below.alloc ?_ ?_ _); rotate_left; (focus first | exact Nat.le_refl _ | omega | (simp; done) | (simp; omega))) | ((with_reducible refine Below.setCell ?_ ?_ _); rotate_left; (focus first | exact Nat.le_refl _ | omega | (simp; done) | (simp; omega))) | ((with_reducible refine below_via (W := ?_) ?_ ?_ ?_); rotate_left; (with_reducible assumption); rotate_left; (focus first | exact Nat.le_refl _ | omega | (simp; done) | (simp; omega)))))).mono ?_; rintro e w1 ⟨rfl, hb1⟩))
        go_ret2
        exact ⟨ret_val H.out.symm, hb1⟩
      · have H0 := difV_eq (show difR a b = (a - 90000 + logZ (1000000000 - partF (b - a)), 0) by rw [dif_in ha hb, if_neg h1, if_neg h2])
        obtain ⟨p, hp⟩ : ∃ p, partF (b - a) = p := ⟨_, rfl⟩
        rw [hp] at P hr h2 H0
        have L := Lib.hid (fun W (hb : Below w.heap.size w W) => implLogZ (1000000000 - p) W (by omega) (Tab.below hb hT))
        have lr := logZ_range (n := 1000000000 - p) (by omega)
        have H := Lib.hid H0
        have pf : (p == 1000000000) = false := by simp; omega
        clear ha hb hp H0 h2 hT
        go_enter Tryd.func13, Tryd.ntmps13
        go_wp2_with (first | (go_at_call 27; first | ((with_reducible refine (A.out _).mono ?_); rintro e w' ⟨rfl, rfl⟩) | ((with_reducible refine (B.out _).mono ?_); rintro e w' ⟨rfl, rfl⟩)) | (go_at_call 28; refine (P.out _ (by repeat (first | with_reducible exact Below.refl _ _ | with_reducible assumption | (with_reducible refine Below.drew ?_) | (with_reducible refine below_drewN ?_ _) | ((with_reducible refine Below.alloc ?_ ?_ _); rotate_left; (focus first | exact Nat.le_refl _ | omega | (simp; done) | (simp; omega))) | ((with_reducible refine Below.setCell ?_ ?_ _); rotate_left; (focus first | exact Nat.le_refl _ | omega | (simp; done) | (simp; omega))) | ((with_reducible refine below_via (W := ?_) ?_ ?_ ?_); rotate_left; (with_reducible assumption); rotate_left; (focus first | exact Nat.le_refl _ | omega | (simp; done) | (simp; omega)))))).mono ?_; rintro e w1 ⟨rfl, hb1⟩; have z1 := hb1.size) | (go_at_call 21; refine (L.out _ (by repeat (first | with_reducible exact Below.refl _ _ | with_reducible assumption | (with_reducible refine Below.drew ?_) | (with_reducible refine below_drewN ?_ _) | ((with_reducible refine Below.alloc ?_ ?_ _); rotate_left; (focus first | exact Nat.le_refl _ | omega | (simp; done) | (simp; omega))) | ((with_reducible refine Below.setCell ?_ ?_ _); rotate_left; (focus first | exact Nat.le_refl _ | omega | (simp; done) | (simp; omega))) | ((with_reducible refine below_via (W := ?_) ?_ ?_ ?_); rotate_left; (with_reducible assumption); rotate_left; (focus first | exact Nat.le_refl _ | omega | (simp; done) | (simp; omega)))))).mono ?_; rintro e w2 ⟨rfl, hb2⟩; have z2 := hb2.size))
        go_ret2
        exact ⟨ret_val H.out.symm, (by repeat (first | with_reducible exact Below.refl _ _ | with_reducible assumption | (with_reducible refine Below.drew ?_) | (with_reducible refine below_drewN ?_ _) | ((with_reducible refine Below.alloc ?_ ?_ _); rotate_left; (focus first | exact Nat.le_refl _ | omega | (simp; done) | (simp; omega))) | ((with_reducible refine Below.setCell ?_ ?_ _); rotate_left; (focus first | exact Nat.le_refl _ | omega | (simp; done) | (simp; omega))) | ((with_reducible refine below_via (W := ?_) ?_ ?_ ?_); rotate_left; (with_reducible assumption); rotate_left; (focus first | exact Nat.le_refl _ | omega | (simp; done) | (simp; omega)))))⟩
  all_goals have H := Lib.hid (difV_eq (dif_out (show (lvB a && lvB b) = false by rw [ha, hb]; rfl)))
  all_goals rw [ha] at A
  all_goals rw [hb] at B
  all_goals clear ha hb hT
  all_goals go_enter Tryd.func13, Tryd.ntmps13
  all_goals go_wp2_with (go_at_call 27; first | ((with_reducible refine (A.out _).mono ?_); rintro e w' ⟨rfl, rfl⟩) | ((with_reducible refine (B.out _).mono ?_); rintro e w' ⟨rfl, rfl⟩))
  all_goals (go_ret2; exact ⟨ret_val H.out.symm, Below.refl _ _⟩)

theorem diffDb (a b : Int) (wa : (Lit.int .i64 a).wf = true) (wb : (Lit.int .i64 b).wf = true) (w : World) (hT : Tab w) :
    Calls Tryd.prog 5 #[.int .i64 a, .int .i64 b] w fun e w' => e = .returned (.bool true) ∧ Below w.heap.size w w' := by
  obtain ⟨x, hx⟩ : ∃ x, (difR a b).1 = x := ⟨_, rfl⟩
  obtain ⟨y, hy⟩ : ∃ x, (difR a b).2 = x := ⟨_, rfl⟩
  have hv : difV a b = .tuple #[.int .i64 x, .int .i64 y] := by unfold difV; rw [hx, hy]
  have S := Lib.hid (specDif a b w)
  have C := Lib.hid (implDif a b w hT)
  rw [hv] at S C
  clear hT hx hy hv
  go_enter Tryd.func5, Tryd.ntmps5
  go_wp2_with (first | (go_at_call 12; refine S.out.mono ?_; rintro e w' ⟨rfl, rfl⟩) | (go_at_call 13; refine C.out.mono ?_; rintro e w' ⟨rfl, hb⟩))
  go_ret
  exact ⟨rfl, hb⟩

end Go.Proofs.YthjdmcjlnmonmabDoor.WalkDD
