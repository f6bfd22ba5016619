/- Validity of profiles: the reference's and the program's. -/
import Derived.Test.YtgondkjephojjaaWalkU
import Derived.BigQuiet
import Derived.Test.YtgondkjephojjaaOver
namespace Go.Proofs.Ytgondkjephojjaa.WalkK
open Go Go.RowKit Go.Proofs.Ytgondkjephojjaa.Base Go.Proofs.Ytgondkjephojjaa.Plain Go.Proofs.Ytgondkjephojjaa.Words Go.Proofs.Ytgondkjephojjaa.Ints Go.Proofs.Ytgondkjephojjaa.Over Go.Proofs.Ytgondkjephojjaa.WalkN Go.Proofs.Ytgondkjephojjaa.WalkP Go.Proofs.Ytgondkjephojjaa.WalkI Go.Proofs.Ytgondkjephojjaa.WalkU Go.Proofs.Ytgondkjephojjaa.PlainT
set_option linter.unusedVariables false
set_option linter.unusedSimpArgs false

/-- is a profile valid -/
def profB (d f l : Int) (n : Nat) (hs : List Int) : Bool :=
  inB d 1 283000 && (inB f 0 180000 && (inB l 0 180000 && (allB hs 0 90000 && (decide (2 ≤ n ∧ n ≤ 65) && (decide (hs.getD 0 0 ≤ f) && decide (hs.getD (n - 1) 0 ≤ l))))))
theorem prof_1 {d f l : Int} {n : Nat} {hs : List Int} (h : inB d 1 283000 = false) : profB d f l n hs = false := by unfold profB; rw [h]; rfl
theorem prof_2 {d f l : Int} {n : Nat} {hs : List Int} (h : inB f 0 180000 = false) : profB d f l n hs = false := by unfold profB; rw [h]; simp
theorem prof_3 {d f l : Int} {n : Nat} {hs : List Int} (h : inB l 0 180000 = false) : profB d f l n hs = false := by unfold profB; rw [h]; simp
theorem prof_4 {d f l : Int} {n : Nat} {hs : List Int} (h : allB hs 0 90000 = false) : profB d f l n hs = false := by unfold profB; rw [h]; simp
theorem prof_5 {d f l : Int} {n : Nat} {hs : List Int} (h : ¬ (2 ≤ n ∧ n ≤ 65)) : profB d f l n hs = false := by unfold profB; rw [decide_eq_false h]; simp
theorem prof_6 {d f l : Int} {n : Nat} {hs : List Int} (h : ¬ hs.getD 0 0 ≤ f) : profB d f l n hs = false := by unfold profB; rw [decide_eq_false h]; simp
theorem prof_7 {d f l : Int} {n : Nat} {hs : List Int} (h1 : inB d 1 283000 = true) (h2 : inB f 0 180000 = true) (h3 : inB l 0 180000 = true) (h4 : allB hs 0 90000 = true) (h5 : 2 ≤ n ∧ n ≤ 65) (h6 : hs.getD 0 0 ≤ f) :
    profB d f l n hs = decide (hs.getD (n - 1) 0 ≤ l) := by unfold profB; rw [h1, h2, h3, h4, decide_eq_true h5, decide_eq_true h6]; simp
theorem prof_yes {d f l : Int} {n : Nat} {hs : List Int} (h : profB d f l n hs = true) : (1 ≤ d ∧ d ≤ 283000) ∧ (0 ≤ f ∧ f ≤ 180000) ∧ (0 ≤ l ∧ l ≤ 180000) ∧ allB hs 0 90000 = true ∧ (2 ≤ n ∧ n ≤ 65) ∧ hs.getD 0 0 ≤ f ∧ hs.getD (n - 1) 0 ≤ l := by
  unfold profB at h
  simp only [Bool.and_eq_true, decide_eq_true_eq] at h
  exact ⟨inB_yes h.1, inB_yes h.2.1, inB_yes h.2.2.1, h.2.2.2.1, h.2.2.2.2.1, h.2.2.2.2.2.1, h.2.2.2.2.2.2⟩

theorem specH (z : Int) (w : World) : Calls Try.prog 77 #[.int .i64 z] w fun e w' => e = .returned (.bool (inB z 0 90000)) ∧ w = w' := by
  go_enter Try.func77, Try.ntmps77
  go_wp2_with (first | (go_at_call 87; refine (specIn _ _ _ _).mono ?_; rintro e w' ⟨rfl, rfl⟩) | (go_at_call 62; refine (implIn _ _ _ _).mono ?_; rintro e w' ⟨rfl, rfl⟩))
  go_ret
  exact ⟨rfl, rfl⟩

set_option maxHeartbeats 4000000 in
set_option maxRecDepth 100000 in
theorem specProf (d f l : Int) (A : Option Addr) (n c : Nat) (hs : List Int) (g : Nat) (w : World) (ra : Rd w A n hs) (hn : n ≤ maxLen)
    (t0 : w.cell? ⟨g, 0, none⟩ = some (.int .i64 d)) (t1 : w.cell? ⟨g, 1, none⟩ = some (.int .i64 f)) (t2 : w.cell? ⟨g, 2, none⟩ = some (.int .i64 l)) (t3 : w.cell? ⟨g, 3, none⟩ = some (.slice A n c)) :
    Calls Try.prog 61 #[.pointer (some ⟨g, 0, none⟩)] w fun e w' => e = .returned (.bool (profB d f l n hs)) ∧ ∃ k, w' = w.drewN k := by
  unfold maxLen at hn
  have RA := Lib.hid ra
  clear ra
  have I1 := Lib.hid (fun w => specIn d 1 283000 w)
  have I2 := Lib.hid (fun w => specIn f 0 180000 w)
  have I3 := Lib.hid (fun w => specIn l 0 180000 w)
  cases i1 : inB d 1 283000
  · have HF : Hid (profB d f l n hs = false) := Lib.hid (prof_1 i1)
    rw [i1] at I1
    clear i1
    go_enter Try.func61, Try.ntmps61
    go_wp2_with (go_at_call 87; (with_reducible refine (I1.out _).mono ?_); rintro e w' ⟨rfl, rfl⟩)
    go_ret
    exact ⟨ret_bool HF.out.symm, 0, rfl⟩
  cases i2 : inB f 0 180000
  · have HF : Hid (profB d f l n hs = false) := Lib.hid (prof_2 i2)
    rw [i1] at I1
    rw [i2] at I2
    clear i1 i2
    go_enter Try.func61, Try.ntmps61
    go_wp2_with (go_at_call 87; first | ((with_reducible refine (I1.out _).mono ?_); rintro e w' ⟨rfl, rfl⟩) | ((with_reducible refine (I2.out _).mono ?_); rintro e w' ⟨rfl, rfl⟩))
    go_ret
    exact ⟨ret_bool HF.out.symm, 0, rfl⟩
  cases i3 : inB l 0 180000
  · have HF : Hid (profB d f l n hs = false) := Lib.hid (prof_3 i3)
    rw [i1] at I1
    rw [i2] at I2
    rw [i3] at I3
    clear i1 i2 i3
    go_enter Try.func61, Try.ntmps61
    go_wp2_with (go_at_call 87; first | ((with_reducible refine (I1.out _).mono ?_); rintro e w' ⟨rfl, rfl⟩) | ((with_reducible refine (I2.out _).mono ?_); rintro e w' ⟨rfl, rfl⟩) | ((with_reducible refine (I3.out _).mono ?_); rintro e w' ⟨rfl, rfl⟩))
    go_ret
    exact ⟨ret_bool HF.out.symm, 0, rfl⟩
  have K1 := Lib.hid i1
  have K2 := Lib.hid i2
  have K3 := Lib.hid i3
  rw [i1] at I1
  rw [i2] at I2
  rw [i3] at I3
  clear i1 i2 i3
  go_enter Try.func61, Try.ntmps61
  go_wp2_with (go_at_call 87; first | ((with_reducible refine (I1.out _).mono ?_); rintro e w' ⟨rfl, rfl⟩) | ((with_reducible refine (I2.out _).mono ?_); rintro e w' ⟨rfl, rfl⟩) | ((with_reducible refine (I3.out _).mono ?_); rintro e w' ⟨rfl, rfl⟩))
  go_loop [3] (fun i => ∃ k : Nat, k ≤ n ∧ i = .int .i64 k ∧ Hid (∀ j, j < k → inB (hs.getD j 0) 0 90000 = true)) (fun i => n - (intOf i).toNat)
  case atStart => exact ⟨0, Nat.zero_le _, rfl, Lib.hid (fun j hj => absurd hj (by omega))⟩
  case round =>
    obtain ⟨k, hk, rfl, HK⟩ := hrel
    by_cases hlt : k < n
    · obtain ⟨ad, rfl, hc⟩ := RA.out.at_ hlt
      generalize hx : hs.getD k 0 = x at hc
      have HX := Lib.hid hx
      clear hx
      have H1 := Lib.hid (fun w => specH x w)
      cases i1 : inB x 0 90000
      · have J1 := Lib.hid i1
        rw [i1] at H1
        clear i1
        go_wp2_with (go_at_call 77; (with_reducible refine (H1.out _).mono ?_); rintro e w' ⟨rfl, rfl⟩)
        go_ret
        exact ⟨ret_bool (by rw [prof_4 (allB_stop (k := k) (by rw [RA.out.len]; exact hlt) (by rw [HX.out]; exact J1.out))]), 0, rfl⟩
      · have J1 := Lib.hid i1
        rw [i1] at H1
        clear i1
        go_wp2_with (go_at_call 77; (with_reducible refine (H1.out _).mono ?_); rintro e w' ⟨rfl, rfl⟩)
        go_round
        case rel =>
          refine ⟨k + 1, by omega, by go_num, Lib.hid fun j hj => ?_⟩
          by_cases e : j = k
          · rw [e, HX.out]
            exact J1.out
          · exact HK.out j (by omega)
        case measure => simp [intOf]; omega
    · obtain rfl : k = n := by omega
      have HA := Lib.hid (allB_end RA.out.len HK.out)
      clear hlt
      by_cases h5 : 2 ≤ k ∧ k ≤ 65
      · obtain ⟨h5a, h5b⟩ := h5
        have l0 : 0 < k := by omega
        have l1 : k - 1 < k := by omega
        obtain ⟨ad, hA, hc0⟩ := RA.out.at_ l0
        obtain ⟨ad', hA', hc1⟩ := RA.out.at_ l1
        rw [hA] at hA'
        injection hA' with hA'
        subst hA'
        subst hA
        have e5 : ((k - 1 : Nat) : Int) = (k : Int) - 1 := by omega
        have e6 : k - 1 = ((k : Int) - 1).toNat := by omega
        have hc2 := hc1
        rw [e6] at hc1
        have E6 := Lib.hid e6
        clear e5
        generalize hx : hs.getD 0 0 = x at hc0
        have hc0' := hc0
        rw [show ad.add 0 = ad from rfl] at hc0'
        rw [show hs.getD (k - 1) 0 = hs.getD ((k : Int) - 1).toNat 0 by rw [← e6]] at hc2
        generalize hy : hs.getD ((k : Int) - 1).toNat 0 = y at hc1 hc2
        have HX := Lib.hid hx
        have HY := Lib.hid hy
        clear hx hy e6
        by_cases h6 : x ≤ f
        · have HF : Hid (profB d f l k hs = decide (y ≤ l)) := Lib.hid (by rw [prof_7 K1.out K2.out K3.out HA.out ⟨h5a, h5b⟩ (by rw [HX.out]; exact h6), E6.out, HY.out])
          have q1 : decide (x ≤ f) = true := decide_eq_true h6
          have w1 : IntKind.i64.wrap ((k : Int) - 1) = (k : Int) - 1 := IntWalk.i64_in _ (by omega)
          have q2 : decide ((2 : Int) ≤ k) = true := decide_eq_true (by omega)
          have q3 : decide ((k : Int) ≤ 65) = true := decide_eq_true (by omega)
          have q4 : (0 : Int) ≤ (k : Int) - 1 := by omega
          have q5 : (k : Int) - 1 < k := by omega
          clear h6 HX HY
          go_wp2_with fail
          go_quiet (fail)
          clear w1
          go_wp2_with fail
          go_ret
          exact ⟨ret_bool HF.out.symm, _, rfl⟩
        · have HF : Hid (profB d f l k hs = false) := Lib.hid (prof_6 (by rw [HX.out]; exact h6))
          have q1 : decide (x ≤ f) = false := decide_eq_false h6
          have q2 : decide ((2 : Int) ≤ k) = true := decide_eq_true (by omega)
          have q3 : decide ((k : Int) ≤ 65) = true := decide_eq_true (by omega)
          clear h6 HX HY hc1 E6
          go_wp2_with fail
          go_quiet (fail)
          go_wp2_with fail
          go_ret
          exact ⟨ret_bool HF.out.symm, _, rfl⟩
      · have HF : Hid (profB d f l k hs = false) := Lib.hid (prof_5 h5)
        by_cases h7 : 2 ≤ k
        · have q2 : decide ((2 : Int) ≤ k) = true := decide_eq_true (by omega)
          have q3 : decide ((k : Int) ≤ 65) = false := decide_eq_false (by omega)
          clear h5 h7
          go_wp2_with fail
          go_quiet (fail)
          go_wp2_with fail
          go_ret
          exact ⟨ret_bool HF.out.symm, _, rfl⟩
        · have q2 : decide ((2 : Int) ≤ k) = false := decide_eq_false (by omega)
          clear h5 h7
          go_wp2_with fail
          go_quiet (fail)
          go_wp2_with fail
          go_ret
          exact ⟨ret_bool HF.out.symm, _, rfl⟩

set_option maxHeartbeats 4000000 in
set_option maxRecDepth 100000 in
theorem implProf (d f l : Int) (A : Option Addr) (n c : Nat) (hs : List Int) (w : World) (ra : Rd w A n hs) (hn : n ≤ maxLen) :
    Calls Try.prog 31 #[.agg #[.int .i64 d, .int .i64 f, .int .i64 l, .slice A n c]] w fun e w' => e = .returned (.bool (profB d f l n hs)) ∧ Below w.heap.size w w' := by
  have hn' := hn
  unfold maxLen at hn
  have RA := Lib.hid ra
  clear ra
  have I1 := Lib.hid (fun w => implIn d 1 283000 w)
  have I2 := Lib.hid (fun w => implIn f 0 180000 w)
  have I3 := Lib.hid (fun w => implIn l 0 180000 w)
  cases i1 : inB d 1 283000
  · have HF : Hid (profB d f l n hs = false) := Lib.hid (prof_1 i1)
    rw [i1] at I1
    clear i1
    go_enter Try.func31, Try.ntmps31
    go_wp2_with (go_at_call 62; (with_reducible refine (I1.out _).mono ?_); rintro e w' ⟨rfl, rfl⟩)
    go_ret
    exact ⟨ret_bool HF.out.symm, (by repeat (first | with_reducible exact Below.refl _ _ | with_reducible assumption | (with_reducible refine Below.drew ?_) | (with_reducible refine below_drewN ?_ _) | ((with_reducible refine Below.alloc ?_ ?_ _); rotate_left; (focus first | exact Nat.le_refl _ | omega | (simp; done) | (simp; omega))) | ((with_reducible refine Below.setCell ?_ ?_ _); rotate_left; (focus first | exact Nat.le_refl _ | omega | (simp; done) | (simp; omega))) | ((with_reducible refine below_via (W := ?_) ?_ ?_ ?_); rotate_left; (with_reducible assumption); rotate_left; (focus first | exact Nat.le_refl _ | omega | (simp; done) | (simp; omega)))))⟩
  cases i2 : inB f 0 180000
  · have HF : Hid (profB d f l n hs = false) := Lib.hid (prof_2 i2)
    rw [i1] at I1
    rw [i2] at I2
    clear i1 i2
    go_enter Try.func31, Try.ntmps31
    go_wp2_with (go_at_call 62; first | ((with_reducible refine (I1.out _).mono ?_); rintro e w' ⟨rfl, rfl⟩) | ((with_reducible refine (I2.out _).mono ?_); rintro e w' ⟨rfl, rfl⟩))
    go_ret
    exact ⟨ret_bool HF.out.symm, (by repeat (first | with_reducible exact Below.refl _ _ | with_reducible assumption | (with_reducible refine Below.drew ?_) | (with_reducible refine below_drewN ?_ _) | ((with_reducible refine Below.alloc ?_ ?_ _); rotate_left; (focus first | exact Nat.le_refl _ | omega | (simp; done) | (simp; omega))) | ((with_reducible refine Below.setCell ?_ ?_ _); rotate_left; (focus first | exact Nat.le_refl _ | omega | (simp; done) | (simp; omega))) | ((with_reducible refine below_via (W := ?_) ?_ ?_ ?_); rotate_left; (with_reducible assumption); rotate_left; (focus first | exact Nat.le_refl _ | omega | (simp; done) | (simp; omega)))))⟩
  cases i3 : inB l 0 180000
  · have HF : Hid (profB d f l n hs = false) := Lib.hid (prof_3 i3)
    rw [i1] at I1
    rw [i2] at I2
    rw [i3] at I3
    clear i1 i2 i3
    go_enter Try.func31, Try.ntmps31
    go_wp2_with (go_at_call 62; first | ((with_reducible refine (I1.out _).mono ?_); rintro e w' ⟨rfl, rfl⟩) | ((with_reducible refine (I2.out _).mono ?_); rintro e w' ⟨rfl, rfl⟩) | ((with_reducible refine (I3.out _).mono ?_); rintro e w' ⟨rfl, rfl⟩))
    go_ret
    exact ⟨ret_bool HF.out.symm, (by repeat (first | with_reducible exact Below.refl _ _ | with_reducible assumption | (with_reducible refine Below.drew ?_) | (with_reducible refine below_drewN ?_ _) | ((with_reducible refine Below.alloc ?_ ?_ _); rotate_left; (focus first | exact Nat.le_refl _ | omega | (simp; done) | (simp; omega))) | ((with_reducible refine Below.setCell ?_ ?_ _); rotate_left; (focus first | exact Nat.le_refl _ | omega | (simp; done) | (simp; omega))) | ((with_reducible refine below_via (W := ?_) ?_ ?_ ?_); rotate_left; (with_reducible assumption); rotate_left; (focus first | exact Nat.le_refl _ | omega | (simp; done) | (simp; omega)))))⟩
  have K1 := Lib.hid i1
  have K2 := Lib.hid i2
  have K3 := Lib.hid i3
  rw [i1] at I1
  rw [i2] at I2
  rw [i3] at I3
  clear i1 i2 i3
  by_cases h5 : 2 ≤ n ∧ n ≤ 65
  · obtain ⟨h5a, h5b⟩ := h5
    have l0 : 0 < n := by omega
    have l1 : n - 1 < n := by omega
    obtain ⟨ad, hA, hc0⟩ := RA.out.at_ l0
    obtain ⟨ad', hA', hc1⟩ := RA.out.at_ l1
    rw [hA] at hA'
    injection hA' with hA'
    subst hA'
    subst hA
    have hc0' : w.cell? ad = some (.int .i64 (hs.getD 0 0)) := hc0
    obtain ⟨x, hx⟩ : ∃ x, hs.getD 0 0 = x := ⟨_, rfl⟩
    obtain ⟨y, hy⟩ : ∃ y, hs.getD (n - 1) 0 = y := ⟨_, rfl⟩
    rw [hx] at hc0 hc0'
    rw [hy] at hc1
    have HX := Lib.hid hx
    have HY := Lib.hid hy
    have hb0 := World.block_lt_of_cell? _ _ hc0'
    have hbn := World.block_lt_of_cell? _ _ hc1
    have hbn' : (ad.add (n - 1)).block < w.heap.size + 1 := by omega
    have hb0' : ad.block < w.heap.size + 1 := by omega
    have q2 : decide ((2 : Int) ≤ n) = true := decide_eq_true (by omega)
    have q3 : decide ((n : Int) ≤ 65) = true := decide_eq_true (by omega)
    have AL := Lib.hid (fun y : Up (w.alloc (.cells #[.int .i64 d, .int .i64 f, .int .i64 l, .slice (some ad) n c] 27)) => implAll (some ad) n c hs 0 90000 y.1 (Rd.below (((Below.refl w.heap.size w).alloc (Nat.le_refl _) _).trans (y.2.mono (by simp))) RA.out) hn')
    clear hx hy hc0
    have q4 : (0 : Int) ≤ (n : Int) - 1 := by omega
    have q6 : (1 : Int) ≤ (n : Int) := by omega
    have q7 : (0 : Int) < (n : Int) := by omega
    have q5 : (n : Int) - 1 < n := by omega
    have ew : IntKind.i64.wrap ((n : Int) - 1) = (n : Int) - 1 := IntWalk.i64_in _ (by omega)
    have e6 : ((n : Int) - 1).toNat = n - 1 := by omega
    cases a4 : allB hs 0 90000
    · have HF : Hid (profB d f l n hs = false) := Lib.hid (prof_4 a4)
      rw [a4] at AL
      clear a4
      go_enter Try.func31, Try.ntmps31
      go_wp2_with (go_at_call 62; first | ((with_reducible refine (I1.out _).mono ?_); rintro e w' ⟨rfl, rfl⟩) | ((with_reducible refine (I2.out _).mono ?_); rintro e w' ⟨rfl, rfl⟩) | ((with_reducible refine (I3.out _).mono ?_); rintro e w' ⟨rfl, rfl⟩))
      have hu := Up.cells (w.alloc (.cells #[.int .i64 d, .int .i64 f, .int .i64 l, .slice (some ad) n c] 27))
      refine region_up (by kernel_rfl) (by kernel_rfl) ?_
      repeat (go_big_quiet_step ((go_at_call 63; exact call_up _ (AL.out _))))
      refine wpQuiet_nil ?_
      rintro _ ⟨⟨w1, hb1⟩, rfl⟩
      clear hu
      all_goals (clear ew e6; go_wp2_with fail; go_ret; exact ⟨ret_bool HF.out.symm, (by repeat (first | with_reducible exact Below.refl _ _ | with_reducible assumption | (with_reducible refine Below.drew ?_) | (with_reducible refine below_drewN ?_ _) | ((with_reducible refine Below.alloc ?_ ?_ _); rotate_left; (focus first | exact Nat.le_refl _ | omega | (simp; done) | (simp; omega))) | ((with_reducible refine Below.setCell ?_ ?_ _); rotate_left; (focus first | exact Nat.le_refl _ | omega | (simp; done) | (simp; omega))) | ((with_reducible refine below_via (W := ?_) ?_ ?_ ?_); rotate_left; (with_reducible assumption); rotate_left; (focus first | exact Nat.le_refl _ | omega | (simp; done) | (simp; omega)))))⟩)
    · have A4 := Lib.hid a4
      rw [a4] at AL
      clear a4
      by_cases h6 : x ≤ f
      · have HF : Hid (profB d f l n hs = decide (y ≤ l)) := Lib.hid (by rw [prof_7 K1.out K2.out K3.out A4.out ⟨h5a, h5b⟩ (by rw [HX.out]; exact h6), HY.out])
        have q1 : decide (x ≤ f) = true := decide_eq_true h6
        clear h6 HX HY
        go_enter Try.func31, Try.ntmps31
        go_wp2_with (go_at_call 62; first | ((with_reducible refine (I1.out _).mono ?_); rintro e w' ⟨rfl, rfl⟩) | ((with_reducible refine (I2.out _).mono ?_); rintro e w' ⟨rfl, rfl⟩) | ((with_reducible refine (I3.out _).mono ?_); rintro e w' ⟨rfl, rfl⟩))
        have hu := Up.cells (w.alloc (.cells #[.int .i64 d, .int .i64 f, .int .i64 l, .slice (some ad) n c] 27))
        refine region_up (by kernel_rfl) (by kernel_rfl) ?_
        repeat (go_big_quiet_step ((go_at_call 63; exact call_up _ (AL.out _))))
        refine wpQuiet_nil ?_
        rintro _ ⟨⟨w1, hb1⟩, rfl⟩
        clear hu
        all_goals (clear ew e6; go_wp2_with fail; go_ret; exact ⟨ret_bool HF.out.symm, (by repeat (first | with_reducible exact Below.refl _ _ | with_reducible assumption | (with_reducible refine Below.drew ?_) | (with_reducible refine below_drewN ?_ _) | ((with_reducible refine Below.alloc ?_ ?_ _); rotate_left; (focus first | exact Nat.le_refl _ | omega | (simp; done) | (simp; omega))) | ((with_reducible refine Below.setCell ?_ ?_ _); rotate_left; (focus first | exact Nat.le_refl _ | omega | (simp; done) | (simp; omega))) | ((with_reducible refine below_via (W := ?_) ?_ ?_ ?_); rotate_left; (with_reducible assumption); rotate_left; (focus first | exact Nat.le_refl _ | omega | (simp; done) | (simp; omega)))))⟩)
      · have HF : Hid (profB d f l n hs = false) := Lib.hid (prof_6 (by rw [HX.out]; exact h6))
        have q1 : decide (x ≤ f) = false := decide_eq_false h6
        clear h6 HX HY
        go_enter Try.func31, Try.ntmps31
        go_wp2_with (go_at_call 62; first | ((with_reducible refine (I1.out _).mono ?_); rintro e w' ⟨rfl, rfl⟩) | ((with_reducible refine (I2.out _).mono ?_); rintro e w' ⟨rfl, rfl⟩) | ((with_reducible refine (I3.out _).mono ?_); rintro e w' ⟨rfl, rfl⟩))
        have hu := Up.cells (w.alloc (.cells #[.int .i64 d, .int .i64 f, .int .i64 l, .slice (some ad) n c] 27))
        refine region_up (by kernel_rfl) (by kernel_rfl) ?_
        repeat (go_big_quiet_step ((go_at_call 63; exact call_up _ (AL.out _))))
        refine wpQuiet_nil ?_
        rintro _ ⟨⟨w1, hb1⟩, rfl⟩
        clear hu
        all_goals (clear ew e6; go_wp2_with fail; go_ret; exact ⟨ret_bool HF.out.symm, (by repeat (first | with_reducible exact Below.refl _ _ | with_reducible assumption | (with_reducible refine Below.drew ?_) | (with_reducible refine below_drewN ?_ _) | ((with_reducible refine Below.alloc ?_ ?_ _); rotate_left; (focus first | exact Nat.le_refl _ | omega | (simp; done) | (simp; omega))) | ((with_reducible refine Below.setCell ?_ ?_ _); rotate_left; (focus first | exact Nat.le_refl _ | omega | (simp; done) | (simp; omega))) | ((with_reducible refine below_via (W := ?_) ?_ ?_ ?_); rotate_left; (with_reducible assumption); rotate_left; (focus first | exact Nat.le_refl _ | omega | (simp; done) | (simp; omega)))))⟩)
  · have HF : Hid (profB d f l n hs = false) := Lib.hid (prof_5 h5)
    by_cases h7 : 2 ≤ n
    · have q2 : decide ((2 : Int) ≤ n) = true := decide_eq_true (by omega)
      have q3 : decide ((n : Int) ≤ 65) = false := decide_eq_false (by omega)
      clear h5 h7
      go_enter Try.func31, Try.ntmps31
      go_wp2_with (go_at_call 62; first | ((with_reducible refine (I1.out _).mono ?_); rintro e w' ⟨rfl, rfl⟩) | ((with_reducible refine (I2.out _).mono ?_); rintro e w' ⟨rfl, rfl⟩) | ((with_reducible refine (I3.out _).mono ?_); rintro e w' ⟨rfl, rfl⟩))
      go_quiet (fail)
      go_wp2_with fail
      go_ret
      exact ⟨ret_bool HF.out.symm, (by repeat (first | with_reducible exact Below.refl _ _ | with_reducible assumption | (with_reducible refine Below.drew ?_) | (with_reducible refine below_drewN ?_ _) | ((with_reducible refine Below.alloc ?_ ?_ _); rotate_left; (focus first | exact Nat.le_refl _ | omega | (simp; done) | (simp; omega))) | ((with_reducible refine Below.setCell ?_ ?_ _); rotate_left; (focus first | exact Nat.le_refl _ | omega | (simp; done) | (simp; omega))) | ((with_reducible refine below_via (W := ?_) ?_ ?_ ?_); rotate_left; (with_reducible assumption); rotate_left; (focus first | exact Nat.le_refl _ | omega | (simp; done) | (simp; omega)))))⟩
    · have q2 : decide ((2 : Int) ≤ n) = false := decide_eq_false (by omega)
      clear h5 h7
      go_enter Try.func31, Try.ntmps31
      go_wp2_with (go_at_call 62; first | ((with_reducible refine (I1.out _).mono ?_); rintro e w' ⟨rfl, rfl⟩) | ((with_reducible refine (I2.out _).mono ?_); rintro e w' ⟨rfl, rfl⟩) | ((with_reducible refine (I3.out _).mono ?_); rintro e w' ⟨rfl, rfl⟩))
      go_quiet (fail)
      go_wp2_with fail
      go_ret
      exact ⟨ret_bool HF.out.symm, (by repeat (first | with_reducible exact Below.refl _ _ | with_reducible assumption | (with_reducible refine Below.drew ?_) | (with_reducible refine below_drewN ?_ _) | ((with_reducible refine Below.alloc ?_ ?_ _); rotate_left; (focus first | exact Nat.le_refl _ | omega | (simp; done) | (simp; omega))) | ((with_reducible refine Below.setCell ?_ ?_ _); rotate_left; (focus first | exact Nat.le_refl _ | omega | (simp; done) | (simp; omega))) | ((with_reducible refine below_via (W := ?_) ?_ ?_ ?_); rotate_left; (with_reducible assumption); rotate_left; (focus first | exact Nat.le_refl _ | omega | (simp; done) | (simp; omega)))))⟩

theorem specProfV (d f l : Int) (A : Option Addr) (n c : Nat) (hs : List Int) (w : World) (ra : Rd w A n hs) (hn : n ≤ maxLen) :
    Calls Try.prog 30 #[.agg #[.int .i64 d, .int .i64 f, .int .i64 l, .slice A n c]] w fun e w' => e = .returned (.bool (profB d f l n hs)) ∧ Below w.heap.size w w' := by
  have A1 := Lib.hid (specProf d f l A n c hs w.heap.size (w.alloc (.cells #[.int .i64 d, .int .i64 f, .int .i64 l, .slice A n c] 27)) (ra.alloc _) hn (by (((try dsimp only); (repeat' apply And.intro) <;> (repeat (first | with_reducible assumption | (with_reducible refine keep_drew ?_) | (with_reducible refine keep_drewN ?_) | ((with_reducible refine keep_new _ _ _ _ _ _ ?_ ?_) <;> (first | rfl | (simp; done) | omega)) | (with_reducible refine keep_alloc _ ?_) | ((with_reducible refine keep_set _ ?_ ?_); (focus first | omega | (simp; done) | (simp; omega))) | ((with_reducible refine keep_set' _ ?_ ?_); (focus first | omega | (simp; done))) | ((with_reducible refine keep_same (u := ?_) _ ?_); rotate_left) | ((with_reducible refine keep_setA _ ?_ ?_); (focus first | omega | (simp; done) | (simp; omega))) | ((with_reducible refine keep_below (w := ?_) ?_ ?_); rotate_left; (with_reducible assumption))))))) (by (((try dsimp only); (repeat' apply And.intro) <;> (repeat (first | with_reducible assumption | (with_reducible refine keep_drew ?_) | (with_reducible refine keep_drewN ?_) | ((with_reducible refine keep_new _ _ _ _ _ _ ?_ ?_) <;> (first | rfl | (simp; done) | omega)) | (with_reducible refine keep_alloc _ ?_) | ((with_reducible refine keep_set _ ?_ ?_); (focus first | omega | (simp; done) | (simp; omega))) | ((with_reducible refine keep_set' _ ?_ ?_); (focus first | omega | (simp; done))) | ((with_reducible refine keep_same (u := ?_) _ ?_); rotate_left) | ((with_reducible refine keep_setA _ ?_ ?_); (focus first | omega | (simp; done) | (simp; omega))) | ((with_reducible refine keep_below (w := ?_) ?_ ?_); rotate_left; (with_reducible assumption))))))) (by (((try dsimp only); (repeat' apply And.intro) <;> (repeat (first | with_reducible assumption | (with_reducible refine keep_drew ?_) | (with_reducible refine keep_drewN ?_) | ((with_reducible refine keep_new _ _ _ _ _ _ ?_ ?_) <;> (first | rfl | (simp; done) | omega)) | (with_reducible refine keep_alloc _ ?_) | ((with_reducible refine keep_set _ ?_ ?_); (focus first | omega | (simp; done) | (simp; omega))) | ((with_reducible refine keep_set' _ ?_ ?_); (focus first | omega | (simp; done))) | ((with_reducible refine keep_same (u := ?_) _ ?_); rotate_left) | ((with_reducible refine keep_setA _ ?_ ?_); (focus first | omega | (simp; done) | (simp; omega))) | ((with_reducible refine keep_below (w := ?_) ?_ ?_); rotate_left; (with_reducible assumption))))))) (by (((try dsimp only); (repeat' apply And.intro) <;> (repeat (first | with_reducible assumption | (with_reducible refine keep_drew ?_) | (with_reducible refine keep_drewN ?_) | ((with_reducible refine keep_new _ _ _ _ _ _ ?_ ?_) <;> (first | rfl | (simp; done) | omega)) | (with_reducible refine keep_alloc _ ?_) | ((with_reducible refine keep_set _ ?_ ?_); (focus first | omega | (simp; done) | (simp; omega))) | ((with_reducible refine keep_set' _ ?_ ?_); (focus first | omega | (simp; done))) | ((with_reducible refine keep_same (u := ?_) _ ?_); rotate_left) | ((with_reducible refine keep_setA _ ?_ ?_); (focus first | omega | (simp; done) | (simp; omega))) | ((with_reducible refine keep_below (w := ?_) ?_ ?_); rotate_left; (with_reducible assumption))))))))
  clear ra
  go_enter Try.func30, Try.ntmps30
  go_wp2_with (go_at_call 61; refine A1.out.mono ?_; rintro e w' ⟨rfl, k, rfl⟩)
  go_ret
  exact ⟨rfl, (by repeat (first | with_reducible exact Below.refl _ _ | with_reducible assumption | (with_reducible refine Below.drew ?_) | (with_reducible refine below_drewN ?_ _) | ((with_reducible refine Below.alloc ?_ ?_ _); rotate_left; (focus first | exact Nat.le_refl _ | omega | (simp; done) | (simp; omega))) | ((with_reducible refine Below.setCell ?_ ?_ _); rotate_left; (focus first | exact Nat.le_refl _ | omega | (simp; done) | (simp; omega))) | ((with_reducible refine below_via (W := ?_) ?_ ?_ ?_); rotate_left; (with_reducible assumption); rotate_left; (focus first | exact Nat.le_refl _ | omega | (simp; done) | (simp; omega)))))⟩

end Go.Proofs.Ytgondkjephojjaa.WalkK
