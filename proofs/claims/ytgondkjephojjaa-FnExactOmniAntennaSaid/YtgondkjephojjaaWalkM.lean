/- Validity of antennas, and what stands behind one: the reference's and the program's. -/
import Derived.Test.YtgondkjephojjaaWalkU
import Derived.Test.YtgondkjephojjaaWalkS
namespace Go.Proofs.Ytgondkjephojjaa.WalkM
open Go Go.RowKit Go.Proofs.Ytgondkjephojjaa.Base Go.Proofs.Ytgondkjephojjaa.Plain Go.Proofs.Ytgondkjephojjaa.PlainS Go.Proofs.Ytgondkjephojjaa.Words Go.Proofs.Ytgondkjephojjaa.Ints Go.Proofs.Ytgondkjephojjaa.WalkN Go.Proofs.Ytgondkjephojjaa.WalkP Go.Proofs.Ytgondkjephojjaa.WalkI Go.Proofs.Ytgondkjephojjaa.WalkU Go.Proofs.Ytgondkjephojjaa.PlainT Go.Proofs.Ytgondkjephojjaa.WalkS
set_option linter.unusedVariables false
set_option linter.unusedSimpArgs false

/-- are these the losses of a pattern -/
def lossB (zs : List Int) (n many main : Nat) : Bool := decide (n = many) && (decide (zs.getD main 0 = 0) && allB zs 0 60000)
theorem loss_n {zs : List Int} {n many main : Nat} (h : ¬ n = many) : lossB zs n many main = false := by unfold lossB; rw [decide_eq_false h]; rfl
theorem loss_0 {zs : List Int} {n many main : Nat} (h : ¬ zs.getD main 0 = 0) : lossB zs n many main = false := by unfold lossB; rw [decide_eq_false h]; simp
theorem loss_a {zs : List Int} {n many main : Nat} (h : allB zs 0 60000 = false) : lossB zs n many main = false := by unfold lossB; rw [h]; simp
theorem loss_y {zs : List Int} {n many main : Nat} (h1 : n = many) (h2 : zs.getD main 0 = 0) : lossB zs n many main = allB zs 0 60000 := by unfold lossB; rw [decide_eq_true h1, decide_eq_true h2]; simp
theorem loss_yes {zs : List Int} {n many main : Nat} (h : lossB zs n many main = true) : n = many ∧ zs.getD main 0 = 0 ∧ allB zs 0 60000 = true := by
  unfold lossB at h
  simp only [Bool.and_eq_true, decide_eq_true_eq] at h
  exact h
/-- is an antenna valid -/
def antB (nm : ByteArray) (gn : Int) (n m : Nat) (hs cs : List Int) : Bool := nameB nm.data.toList && (inB gn (-60000) 60000 && (lossB hs n 36 0 && lossB cs m 19 9))

theorem specLoss (A : Option Addr) (n c : Nat) (zs : List Int) (many main : Int) (M K : Nat) (w : World) (ra : Rd w A n zs) (hn : n ≤ maxLen) (hM : many = M) (hK : main = K) (hlt : K < M) (hm : M ≤ 1000) :
    Calls Try.prog 91 #[.slice A n c, .int .i64 many, .int .i64 main] w fun e w' => e = .returned (.bool (lossB zs n M K)) ∧ w = w' := by
  subst hM hK
  unfold maxLen at hn
  have RA := Lib.hid ra
  clear ra
  by_cases h1 : n = M
  · subst h1
    have e1 : ((n : Int) != (n : Int)) = false := by simp
    obtain ⟨ad, rfl, hc⟩ := RA.out.at_ hlt
    generalize hx : zs.getD K 0 = x at hc
    have HX := Lib.hid hx
    clear hx
    have i0 : (0 : Int) ≤ (K : Int) := by omega
    have i1 : (K : Int) < (n : Int) := by omega
    by_cases h2 : x = 0
    · have HF : Hid (lossB zs n n K = allB zs 0 60000) := Lib.hid (loss_y rfl (by rw [HX.out]; exact h2))
      have e2 : (x != 0) = false := by simpa using h2
      subst h2
      clear e2
      go_enter Try.func91, Try.ntmps91
      go_wp2_with fail
      go_loop [7] (fun i => ∃ k : Nat, k ≤ n ∧ i = .int .i64 k ∧ Hid (∀ j, j < k → inB (zs.getD j 0) 0 60000 = true)) (fun i => n - (intOf i).toNat)
      case atStart => exact ⟨0, Nat.zero_le _, rfl, Lib.hid (fun j hj => absurd hj (by omega))⟩
      case round =>
        obtain ⟨k, hk, rfl, HK⟩ := hrel
        by_cases hlt : k < n
        · obtain ⟨ad', hA, hd⟩ := RA.out.at_ hlt
          injection hA with hA
          subst hA
          generalize hy : zs.getD k 0 = y at hd
          have HY := Lib.hid hy
          clear hy
          have I1 := Lib.hid (fun w => specIn y 0 60000 w)
          cases j1 : inB y 0 60000
          · have J1 := Lib.hid j1
            rw [j1] at I1
            clear j1
            go_wp2_with (go_at_call 87; (with_reducible refine (I1.out _).mono ?_); rintro e w' ⟨rfl, rfl⟩)
            go_ret
            exact ⟨ret_bool (by rw [HF.out, allB_stop (k := k) (by rw [RA.out.len]; exact hlt) (by rw [HY.out]; exact J1.out)]), rfl⟩
          · have J1 := Lib.hid j1
            rw [j1] at I1
            clear j1
            go_wp2_with (go_at_call 87; (with_reducible refine (I1.out _).mono ?_); rintro e w' ⟨rfl, rfl⟩)
            go_round
            case rel =>
              refine ⟨k + 1, by omega, by go_num, Lib.hid fun j hj => ?_⟩
              by_cases e : j = k
              · rw [e, HY.out]
                exact J1.out
              · exact HK.out j (by omega)
            case measure => simp [intOf]; omega
        · go_wp2_with fail
          go_ret
          obtain rfl : k = n := by omega
          exact ⟨ret_bool (by rw [HF.out, allB_end RA.out.len HK.out]), rfl⟩
    · have HF : Hid (lossB zs n n K = false) := Lib.hid (loss_0 (by rw [HX.out]; exact h2))
      have e2 : (x != 0) = true := by simpa using h2
      clear h2
      go_enter Try.func91, Try.ntmps91
      go_wp2_with fail
      go_ret
      exact ⟨ret_bool HF.out.symm, rfl⟩
  · have HF : Hid (lossB zs n M K = false) := Lib.hid (loss_n h1)
    have e1 : ((n : Int) != (M : Int)) = true := by simp; omega
    clear h1
    go_enter Try.func91, Try.ntmps91
    go_wp2_with fail
    go_ret
    exact ⟨ret_bool HF.out.symm, rfl⟩

theorem specGain (g : Int) (w : World) : Calls Try.prog 70 #[.int .i64 g] w fun e w' => e = .returned (.bool (inB g (-60000) 60000)) ∧ w = w' := by
  go_enter Try.func70, Try.ntmps70
  go_wp2_with (first | (go_at_call 87; refine (specIn _ _ _ _).mono ?_; rintro e w' ⟨rfl, rfl⟩) | (go_at_call 62; refine (implIn _ _ _ _).mono ?_; rintro e w' ⟨rfl, rfl⟩))
  go_ret
  exact ⟨rfl, rfl⟩
theorem implGain (g : Int) (w : World) : Calls Try.prog 68 #[.int .i64 g] w fun e w' => e = .returned (.bool (inB g (-60000) 60000)) ∧ w = w' := by
  go_enter Try.func68, Try.ntmps68
  go_wp2_with (first | (go_at_call 87; refine (specIn _ _ _ _).mono ?_; rintro e w' ⟨rfl, rfl⟩) | (go_at_call 62; refine (implIn _ _ _ _).mono ?_; rintro e w' ⟨rfl, rfl⟩))
  go_ret
  exact ⟨rfl, rfl⟩

theorem specAnt (nm : ByteArray) (gn : Int) (A : Option Addr) (n c : Nat) (hs : List Int) (B : Option Addr) (m d : Nat) (cs : List Int) (g : Nat) (w : World) (ra : Rd w A n hs) (rb : Rd w B m cs) (hn : n ≤ maxLen) (hm : m ≤ maxLen) (hz : nm.size ≤ maxLen)
    (t0 : w.cell? ⟨g, 0, none⟩ = some (.string nm)) (t1 : w.cell? ⟨g, 1, none⟩ = some (.int .i64 gn)) (t2 : w.cell? ⟨g, 2, none⟩ = some (.slice A n c)) (t3 : w.cell? ⟨g, 3, none⟩ = some (.slice B m d)) :
    Calls Try.prog 66 #[.pointer (some ⟨g, 0, none⟩)] w fun e w' => e = .returned (.bool (antB nm gn n m hs cs)) ∧ w = w' := by
  have N1 := Lib.hid (fun w => specName nm w (by unfold maxLen at hz; omega))
  have G1 := Lib.hid (fun w => specGain gn w)
  have L1 := Lib.hid (specLoss A n c hs 36 0 36 0 w ra hn rfl rfl (by omega) (by omega))
  have L2 := Lib.hid (specLoss B m d cs 19 9 19 9 w rb hm rfl rfl (by omega) (by omega))
  clear ra rb hn hm hz
  cases h1 : nameB nm.data.toList <;> cases h2 : inB gn (-60000) 60000 <;> cases h3 : lossB hs n 36 0
  all_goals have HF : Hid (antB nm gn n m hs cs = _) := Lib.hid (by unfold antB; rw [h1, h2, h3])
  all_goals rw [h1] at N1
  all_goals rw [h2] at G1
  all_goals rw [h3] at L1
  all_goals clear h1 h2 h3
  all_goals go_enter Try.func66, Try.ntmps66
  all_goals go_wp2_with (first | (go_at_call 69; refine (N1.out _).mono ?_; rintro e w' ⟨rfl, rfl⟩) | (go_at_call 70; refine (G1.out _).mono ?_; rintro e w' ⟨rfl, rfl⟩) | (go_at_call 91; first | ((with_reducible refine L1.out.mono ?_); rintro e w' ⟨rfl, rfl⟩) | ((with_reducible refine L2.out.mono ?_); rintro e w' ⟨rfl, rfl⟩)))
  all_goals (go_ret; exact ⟨ret_bool (by rw [HF.out]; simp), rfl⟩)

set_option maxHeartbeats 4000000 in
theorem implAnt (nm : ByteArray) (gn : Int) (A : Option Addr) (n c : Nat) (hs : List Int) (B : Option Addr) (m d : Nat) (cs : List Int) (w : World) (ra : Rd w A n hs) (rb : Rd w B m cs) (hn : n ≤ maxLen) (hm : m ≤ maxLen) (hz : nm.size ≤ maxLen) :
    Calls Try.prog 35 #[.agg #[.string nm, .int .i64 gn, .slice A n c, .slice B m d]] w fun e w' => e = .returned (.bool (antB nm gn n m hs cs)) ∧ Below w.heap.size w w' := by
  have N1 := Lib.hid (fun w => implName nm w (by unfold maxLen at hz; omega))
  have G1 := Lib.hid (fun w => implGain gn w)
  have A1 := Lib.hid (fun W (hb : Below w.heap.size w W) => implAll A n c hs 0 60000 W (Rd.below hb ra) hn)
  have A2 := Lib.hid (fun W (hb : Below w.heap.size w W) => implAll B m d cs 0 60000 W (Rd.below hb rb) hm)
  have RA := Lib.hid ra
  have RB := Lib.hid rb
  unfold maxLen at hn hm
  clear ra rb hz
  cases h1 : nameB nm.data.toList
  · have HF : Hid (antB nm gn n m hs cs = false) := Lib.hid (by unfold antB; rw [h1]; rfl)
    rw [h1] at N1
    clear h1
    go_enter Try.func35, Try.ntmps35
    go_wp2_with (go_at_call 67; refine (N1.out _).mono ?_; rintro e w' ⟨rfl, rfl⟩)
    go_ret
    exact ⟨ret_bool HF.out.symm, (by repeat (first | with_reducible exact Below.refl _ _ | with_reducible assumption | (with_reducible refine Below.drew ?_) | (with_reducible refine below_drewN ?_ _) | ((with_reducible refine Below.alloc ?_ ?_ _); rotate_left; (focus first | exact Nat.le_refl _ | omega | (simp; done) | (simp; omega))) | ((with_reducible refine Below.setCell ?_ ?_ _); rotate_left; (focus first | exact Nat.le_refl _ | omega | (simp; done) | (simp; omega))) | ((with_reducible refine below_via (W := ?_) ?_ ?_ ?_); rotate_left; (with_reducible assumption); rotate_left; (focus first | exact Nat.le_refl _ | omega | (simp; done) | (simp; omega)))))⟩
  cases h2 : inB gn (-60000) 60000
  · have HF : Hid (antB nm gn n m hs cs = false) := Lib.hid (by unfold antB; rw [h2]; simp)
    rw [h1] at N1
    rw [h2] at G1
    clear h1 h2
    go_enter Try.func35, Try.ntmps35
    go_wp2_with (first | (go_at_call 67; refine (N1.out _).mono ?_; rintro e w' ⟨rfl, rfl⟩) | (go_at_call 68; refine (G1.out _).mono ?_; rintro e w' ⟨rfl, rfl⟩))
    go_ret
    exact ⟨ret_bool HF.out.symm, (by repeat (first | with_reducible exact Below.refl _ _ | with_reducible assumption | (with_reducible refine Below.drew ?_) | (with_reducible refine below_drewN ?_ _) | ((with_reducible refine Below.alloc ?_ ?_ _); rotate_left; (focus first | exact Nat.le_refl _ | omega | (simp; done) | (simp; omega))) | ((with_reducible refine Below.setCell ?_ ?_ _); rotate_left; (focus first | exact Nat.le_refl _ | omega | (simp; done) | (simp; omega))) | ((with_reducible refine below_via (W := ?_) ?_ ?_ ?_); rotate_left; (with_reducible assumption); rotate_left; (focus first | exact Nat.le_refl _ | omega | (simp; done) | (simp; omega)))))⟩
  have HA : Hid (antB nm gn n m hs cs = (lossB hs n 36 0 && lossB cs m 19 9)) := Lib.hid (by unfold antB; rw [h1, h2]; simp)
  rw [h1] at N1
  rw [h2] at G1
  clear h1 h2
  by_cases h3 : n = 36
  case neg =>
    have HF : Hid (antB nm gn n m hs cs = false) := Lib.hid (by rw [HA.out, loss_n h3]; rfl)
    have e1 : ((n : Int) == 36) = false := by simp; omega
    clear h3
    go_enter Try.func35, Try.ntmps35
    go_wp2_with (first | (go_at_call 67; refine (N1.out _).mono ?_; rintro e w' ⟨rfl, rfl⟩) | (go_at_call 68; refine (G1.out _).mono ?_; rintro e w' ⟨rfl, rfl⟩))
    go_ret
    exact ⟨ret_bool HF.out.symm, (by repeat (first | with_reducible exact Below.refl _ _ | with_reducible assumption | (with_reducible refine Below.drew ?_) | (with_reducible refine below_drewN ?_ _) | ((with_reducible refine Below.alloc ?_ ?_ _); rotate_left; (focus first | exact Nat.le_refl _ | omega | (simp; done) | (simp; omega))) | ((with_reducible refine Below.setCell ?_ ?_ _); rotate_left; (focus first | exact Nat.le_refl _ | omega | (simp; done) | (simp; omega))) | ((with_reducible refine below_via (W := ?_) ?_ ?_ ?_); rotate_left; (with_reducible assumption); rotate_left; (focus first | exact Nat.le_refl _ | omega | (simp; done) | (simp; omega)))))⟩
  by_cases h4 : m = 19
  case neg =>
    have HF : Hid (antB nm gn n m hs cs = false) := Lib.hid (by rw [HA.out, loss_n (zs := cs) h4]; simp)
    have e1 : ((n : Int) == 36) = true := by simp; omega
    have e2 : ((m : Int) == 19) = false := by simp; omega
    clear h3 h4
    go_enter Try.func35, Try.ntmps35
    go_wp2_with (first | (go_at_call 67; refine (N1.out _).mono ?_; rintro e w' ⟨rfl, rfl⟩) | (go_at_call 68; refine (G1.out _).mono ?_; rintro e w' ⟨rfl, rfl⟩))
    go_ret
    exact ⟨ret_bool HF.out.symm, (by repeat (first | with_reducible exact Below.refl _ _ | with_reducible assumption | (with_reducible refine Below.drew ?_) | (with_reducible refine below_drewN ?_ _) | ((with_reducible refine Below.alloc ?_ ?_ _); rotate_left; (focus first | exact Nat.le_refl _ | omega | (simp; done) | (simp; omega))) | ((with_reducible refine Below.setCell ?_ ?_ _); rotate_left; (focus first | exact Nat.le_refl _ | omega | (simp; done) | (simp; omega))) | ((with_reducible refine below_via (W := ?_) ?_ ?_ ?_); rotate_left; (with_reducible assumption); rotate_left; (focus first | exact Nat.le_refl _ | omega | (simp; done) | (simp; omega)))))⟩
  subst h3 h4
  cases h5 : allB hs 0 60000
  · have HF : Hid (antB nm gn 36 19 hs cs = false) := Lib.hid (by rw [HA.out, loss_a h5]; rfl)
    rw [h5] at A1
    clear h5
    go_enter Try.func35, Try.ntmps35
    go_wp2_with (first | (go_at_call 67; refine (N1.out _).mono ?_; rintro e w' ⟨rfl, rfl⟩) | (go_at_call 68; refine (G1.out _).mono ?_; rintro e w' ⟨rfl, rfl⟩))
    refine (A1.out _ (by repeat (first | with_reducible exact Below.refl _ _ | with_reducible assumption | (with_reducible refine Below.drew ?_) | (with_reducible refine below_drewN ?_ _) | ((with_reducible refine Below.alloc ?_ ?_ _); rotate_left; (focus first | exact Nat.le_refl _ | omega | (simp; done) | (simp; omega))) | ((with_reducible refine Below.setCell ?_ ?_ _); rotate_left; (focus first | exact Nat.le_refl _ | omega | (simp; done) | (simp; omega))) | ((with_reducible refine below_via (W := ?_) ?_ ?_ ?_); rotate_left; (with_reducible assumption); rotate_left; (focus first | exact Nat.le_refl _ | omega | (simp; done) | (simp; omega)))))).mono ?_
    rintro e w1 ⟨rfl, hb1⟩
    go_wp2_with fail
    go_ret
    exact ⟨ret_bool HF.out.symm, (by repeat (first | with_reducible exact Below.refl _ _ | with_reducible assumption | (with_reducible refine Below.drew ?_) | (with_reducible refine below_drewN ?_ _) | ((with_reducible refine Below.alloc ?_ ?_ _); rotate_left; (focus first | exact Nat.le_refl _ | omega | (simp; done) | (simp; omega))) | ((with_reducible refine Below.setCell ?_ ?_ _); rotate_left; (focus first | exact Nat.le_refl _ | omega | (simp; done) | (simp; omega))) | ((with_reducible refine below_via (W := ?_) ?_ ?_ ?_); rotate_left; (with_reducible assumption); rotate_left; (focus first | exact Nat.le_refl _ | omega | (simp; done) | (simp; omega)))))⟩
  rw [h5] at A1
  cases h6 : allB cs 0 60000
  · have HF : Hid (antB nm gn 36 19 hs cs = false) := Lib.hid (by rw [HA.out, loss_a (zs := cs) h6]; simp)
    rw [h6] at A2
    clear h5 h6
    go_enter Try.func35, Try.ntmps35
    go_wp2_with (first | (go_at_call 67; refine (N1.out _).mono ?_; rintro e w' ⟨rfl, rfl⟩) | (go_at_call 68; refine (G1.out _).mono ?_; rintro e w' ⟨rfl, rfl⟩))
    refine (A1.out _ (by repeat (first | with_reducible exact Below.refl _ _ | with_reducible assumption | (with_reducible refine Below.drew ?_) | (with_reducible refine below_drewN ?_ _) | ((with_reducible refine Below.alloc ?_ ?_ _); rotate_left; (focus first | exact Nat.le_refl _ | omega | (simp; done) | (simp; omega))) | ((with_reducible refine Below.setCell ?_ ?_ _); rotate_left; (focus first | exact Nat.le_refl _ | omega | (simp; done) | (simp; omega))) | ((with_reducible refine below_via (W := ?_) ?_ ?_ ?_); rotate_left; (with_reducible assumption); rotate_left; (focus first | exact Nat.le_refl _ | omega | (simp; done) | (simp; omega)))))).mono ?_
    rintro e w1 ⟨rfl, hb1⟩
    obtain ⟨hc1, hf1⟩ := bcell hb1
    have s1 := hb1.size
    simp at s1
    have z1 : w.heap.size < w1.heap.size := by omega
    go_wp2_with fail
    refine (A2.out _ (by repeat (first | with_reducible exact Below.refl _ _ | with_reducible assumption | (with_reducible refine Below.drew ?_) | (with_reducible refine below_drewN ?_ _) | ((with_reducible refine Below.alloc ?_ ?_ _); rotate_left; (focus first | exact Nat.le_refl _ | omega | (simp; done) | (simp; omega))) | ((with_reducible refine Below.setCell ?_ ?_ _); rotate_left; (focus first | exact Nat.le_refl _ | omega | (simp; done) | (simp; omega))) | ((with_reducible refine below_via (W := ?_) ?_ ?_ ?_); rotate_left; (with_reducible assumption); rotate_left; (focus first | exact Nat.le_refl _ | omega | (simp; done) | (simp; omega)))))).mono ?_
    rintro e w2 ⟨rfl, hb2⟩
    go_wp2_with fail
    go_ret
    exact ⟨ret_bool HF.out.symm, (by repeat (first | with_reducible exact Below.refl _ _ | with_reducible assumption | (with_reducible refine Below.drew ?_) | (with_reducible refine below_drewN ?_ _) | ((with_reducible refine Below.alloc ?_ ?_ _); rotate_left; (focus first | exact Nat.le_refl _ | omega | (simp; done) | (simp; omega))) | ((with_reducible refine Below.setCell ?_ ?_ _); rotate_left; (focus first | exact Nat.le_refl _ | omega | (simp; done) | (simp; omega))) | ((with_reducible refine below_via (W := ?_) ?_ ?_ ?_); rotate_left; (with_reducible assumption); rotate_left; (focus first | exact Nat.le_refl _ | omega | (simp; done) | (simp; omega)))))⟩
  rw [h6] at A2
  obtain ⟨ad, rfl, c0⟩ := RA.out.at_ (show 0 < 36 by omega)
  obtain ⟨bd, rfl, c9⟩ := RB.out.at_ (show 9 < 19 by omega)
  have c0' : w.cell? ad = some (.int .i64 (hs.getD 0 0)) := c0
  have HA2 : Hid (antB nm gn 36 19 hs cs = (decide (hs.getD 0 0 = 0) && decide (cs.getD 9 0 = 0))) := Lib.hid (by rw [HA.out]; unfold lossB; rw [h5, h6]; simp)
  clear h5 h6 c0
  generalize hs.getD 0 0 = x at c0' HA2
  generalize cs.getD 9 0 = y at c9 HA2
  go_enter Try.func35, Try.ntmps35
  go_wp2_with (first | (go_at_call 67; refine (N1.out _).mono ?_; rintro e w' ⟨rfl, rfl⟩) | (go_at_call 68; refine (G1.out _).mono ?_; rintro e w' ⟨rfl, rfl⟩))
  refine (A1.out _ (by repeat (first | with_reducible exact Below.refl _ _ | with_reducible assumption | (with_reducible refine Below.drew ?_) | (with_reducible refine below_drewN ?_ _) | ((with_reducible refine Below.alloc ?_ ?_ _); rotate_left; (focus first | exact Nat.le_refl _ | omega | (simp; done) | (simp; omega))) | ((with_reducible refine Below.setCell ?_ ?_ _); rotate_left; (focus first | exact Nat.le_refl _ | omega | (simp; done) | (simp; omega))) | ((with_reducible refine below_via (W := ?_) ?_ ?_ ?_); rotate_left; (with_reducible assumption); rotate_left; (focus first | exact Nat.le_refl _ | omega | (simp; done) | (simp; omega)))))).mono ?_
  rintro e w1 ⟨rfl, hb1⟩
  have s1 := hb1.size
  simp at s1
  have t : w1.cell? ⟨w.heap.size, 2, none⟩ = some (.slice (some ad) 36 c) ∧ w1.cell? ⟨w.heap.size, 3, none⟩ = some (.slice (some bd) 19 d) ∧ w1.cell? ad = some (.int .i64 x) ∧ w1.cell? (bd.add 9) = some (.int .i64 y) := by (((try dsimp only); (repeat' apply And.intro) <;> (repeat (first | with_reducible assumption | (with_reducible refine keep_drew ?_) | (with_reducible refine keep_drewN ?_) | ((with_reducible refine keep_new _ _ _ _ _ _ ?_ ?_) <;> (first | rfl | (simp; done) | omega)) | (with_reducible refine keep_alloc _ ?_) | ((with_reducible refine keep_set _ ?_ ?_); (focus first | omega | (simp; done) | (simp; omega))) | ((with_reducible refine keep_set' _ ?_ ?_); (focus first | omega | (simp; done))) | ((with_reducible refine keep_same (u := ?_) _ ?_); rotate_left) | ((with_reducible refine keep_below (w := ?_) ?_ ?_); rotate_left; (with_reducible assumption))))))
  have B1 : Below w.heap.size w w1 := (by repeat (first | with_reducible exact Below.refl _ _ | with_reducible assumption | (with_reducible refine Below.drew ?_) | (with_reducible refine below_drewN ?_ _) | ((with_reducible refine Below.alloc ?_ ?_ _); rotate_left; (focus first | exact Nat.le_refl _ | omega | (simp; done) | (simp; omega))) | ((with_reducible refine Below.setCell ?_ ?_ _); rotate_left; (focus first | exact Nat.le_refl _ | omega | (simp; done) | (simp; omega))) | ((with_reducible refine below_via (W := ?_) ?_ ?_ ?_); rotate_left; (with_reducible assumption); rotate_left; (focus first | exact Nat.le_refl _ | omega | (simp; done) | (simp; omega)))))
  clear hb1 c0' c9
  obtain ⟨t2, t3, t4, t5⟩ := t
  go_wp2_with fail
  refine (A2.out _ B1).mono ?_
  rintro e w2 ⟨rfl, hb2⟩
  have s2 := hb2.size
  have t : w2.cell? ⟨w.heap.size, 2, none⟩ = some (.slice (some ad) 36 c) ∧ w2.cell? ⟨w.heap.size, 3, none⟩ = some (.slice (some bd) 19 d) ∧ w2.cell? ad = some (.int .i64 x) ∧ w2.cell? (bd.add 9) = some (.int .i64 y) := by (((try dsimp only); (repeat' apply And.intro) <;> (repeat (first | with_reducible assumption | (with_reducible refine keep_drew ?_) | (with_reducible refine keep_drewN ?_) | ((with_reducible refine keep_new _ _ _ _ _ _ ?_ ?_) <;> (first | rfl | (simp; done) | omega)) | (with_reducible refine keep_alloc _ ?_) | ((with_reducible refine keep_set _ ?_ ?_); (focus first | omega | (simp; done) | (simp; omega))) | ((with_reducible refine keep_set' _ ?_ ?_); (focus first | omega | (simp; done))) | ((with_reducible refine keep_same (u := ?_) _ ?_); rotate_left) | ((with_reducible refine keep_below (w := ?_) ?_ ?_); rotate_left; (with_reducible assumption))))))
  have B2 : Below w.heap.size w w2 := (by repeat (first | with_reducible exact Below.refl _ _ | with_reducible assumption | (with_reducible refine Below.drew ?_) | (with_reducible refine below_drewN ?_ _) | ((with_reducible refine Below.alloc ?_ ?_ _); rotate_left; (focus first | exact Nat.le_refl _ | omega | (simp; done) | (simp; omega))) | ((with_reducible refine Below.setCell ?_ ?_ _); rotate_left; (focus first | exact Nat.le_refl _ | omega | (simp; done) | (simp; omega))) | ((with_reducible refine below_via (W := ?_) ?_ ?_ ?_); rotate_left; (with_reducible assumption); rotate_left; (focus first | exact Nat.le_refl _ | omega | (simp; done) | (simp; omega)))))
  clear hb2 t2 t3 t4 t5 B1
  obtain ⟨t2, t3, t4, t5⟩ := t
  have t6 : w2.cell? ⟨bd.block, bd.off + 9, none⟩ = some (.int .i64 y) := t5
  by_cases k1 : x = 0
  · subst k1
    go_wp2_with fail
    go_ret
    exact ⟨ret_bool (by rw [HA2.out]; by_cases hy : y = 0 <;> simp [hy]), B2⟩
  · have e1 : (x == 0) = false := by simpa using k1
    have K1 := Lib.hid k1
    clear k1
    go_wp2_with fail
    go_ret
    exact ⟨ret_bool (by rw [HA2.out, decide_eq_false K1.out]; rfl), B2⟩

theorem specAntV (nm : ByteArray) (gn : Int) (A : Option Addr) (n c : Nat) (hs : List Int) (B : Option Addr) (m d : Nat) (cs : List Int) (w : World) (ra : Rd w A n hs) (rb : Rd w B m cs) (hn : n ≤ maxLen) (hm : m ≤ maxLen) (hz : nm.size ≤ maxLen) :
    Calls Try.prog 34 #[.agg #[.string nm, .int .i64 gn, .slice A n c, .slice B m d]] w fun e w' => e = .returned (.bool (antB nm gn n m hs cs)) ∧ Below w.heap.size w w' := by
  have A1 := Lib.hid (specAnt nm gn A n c hs B m d cs w.heap.size (w.alloc (.cells #[.string nm, .int .i64 gn, .slice A n c, .slice B m d] 34)) (ra.alloc _) (rb.alloc _) hn hm hz (by (((try dsimp only); (repeat' apply And.intro) <;> (repeat (first | with_reducible assumption | (with_reducible refine keep_drew ?_) | (with_reducible refine keep_drewN ?_) | ((with_reducible refine keep_new _ _ _ _ _ _ ?_ ?_) <;> (first | rfl | (simp; done) | omega)) | (with_reducible refine keep_alloc _ ?_) | ((with_reducible refine keep_set _ ?_ ?_); (focus first | omega | (simp; done) | (simp; omega))) | ((with_reducible refine keep_set' _ ?_ ?_); (focus first | omega | (simp; done))) | ((with_reducible refine keep_same (u := ?_) _ ?_); rotate_left) | ((with_reducible refine keep_below (w := ?_) ?_ ?_); rotate_left; (with_reducible assumption))))))) (by (((try dsimp only); (repeat' apply And.intro) <;> (repeat (first | with_reducible assumption | (with_reducible refine keep_drew ?_) | (with_reducible refine keep_drewN ?_) | ((with_reducible refine keep_new _ _ _ _ _ _ ?_ ?_) <;> (first | rfl | (simp; done) | omega)) | (with_reducible refine keep_alloc _ ?_) | ((with_reducible refine keep_set _ ?_ ?_); (focus first | omega | (simp; done) | (simp; omega))) | ((with_reducible refine keep_set' _ ?_ ?_); (focus first | omega | (simp; done))) | ((with_reducible refine keep_same (u := ?_) _ ?_); rotate_left) | ((with_reducible refine keep_below (w := ?_) ?_ ?_); rotate_left; (with_reducible assumption))))))) (by (((try dsimp only); (repeat' apply And.intro) <;> (repeat (first | with_reducible assumption | (with_reducible refine keep_drew ?_) | (with_reducible refine keep_drewN ?_) | ((with_reducible refine keep_new _ _ _ _ _ _ ?_ ?_) <;> (first | rfl | (simp; done) | omega)) | (with_reducible refine keep_alloc _ ?_) | ((with_reducible refine keep_set _ ?_ ?_); (focus first | omega | (simp; done) | (simp; omega))) | ((with_reducible refine keep_set' _ ?_ ?_); (focus first | omega | (simp; done))) | ((with_reducible refine keep_same (u := ?_) _ ?_); rotate_left) | ((with_reducible refine keep_below (w := ?_) ?_ ?_); rotate_left; (with_reducible assumption))))))) (by (((try dsimp only); (repeat' apply And.intro) <;> (repeat (first | with_reducible assumption | (with_reducible refine keep_drew ?_) | (with_reducible refine keep_drewN ?_) | ((with_reducible refine keep_new _ _ _ _ _ _ ?_ ?_) <;> (first | rfl | (simp; done) | omega)) | (with_reducible refine keep_alloc _ ?_) | ((with_reducible refine keep_set _ ?_ ?_); (focus first | omega | (simp; done) | (simp; omega))) | ((with_reducible refine keep_set' _ ?_ ?_); (focus first | omega | (simp; done))) | ((with_reducible refine keep_same (u := ?_) _ ?_); rotate_left) | ((with_reducible refine keep_below (w := ?_) ?_ ?_); rotate_left; (with_reducible assumption))))))))
  clear ra rb
  go_enter Try.func34, Try.ntmps34
  go_wp2_with (go_at_call 66; refine A1.out.mono ?_; rintro e w' ⟨rfl, rfl⟩)
  go_ret
  exact ⟨rfl, (by repeat (first | with_reducible exact Below.refl _ _ | with_reducible assumption | (with_reducible refine Below.drew ?_) | (with_reducible refine below_drewN ?_ _) | ((with_reducible refine Below.alloc ?_ ?_ _); rotate_left; (focus first | exact Nat.le_refl _ | omega | (simp; done) | (simp; omega))) | ((with_reducible refine Below.setCell ?_ ?_ _); rotate_left; (focus first | exact Nat.le_refl _ | omega | (simp; done) | (simp; omega))) | ((with_reducible refine below_via (W := ?_) ?_ ?_ ?_); rotate_left; (with_reducible assumption); rotate_left; (focus first | exact Nat.le_refl _ | omega | (simp; done) | (simp; omega)))))⟩

/-- what FrontToBack gives -/
def ftbR (nm : ByteArray) (gn : Int) (n m : Nat) (hs cs : List Int) : Int × Int := bif antB nm gn n m hs cs then (hs.getD 18 0, 0) else (0, 1)
def ftbV (nm : ByteArray) (gn : Int) (n m : Nat) (hs cs : List Int) : Value := .tuple #[.int .i64 (ftbR nm gn n m hs cs).1, .int .i64 (ftbR nm gn n m hs cs).2]
theorem ftbV_eq {nm : ByteArray} {gn : Int} {n m : Nat} {hs cs : List Int} {a c : Int} (h : ftbR nm gn n m hs cs = (a, c)) : ftbV nm gn n m hs cs = .tuple #[.int .i64 a, .int .i64 c] := by unfold ftbV; rw [h]
theorem ant_n {nm : ByteArray} {gn : Int} {n m : Nat} {hs cs : List Int} (h : antB nm gn n m hs cs = true) : n = 36 := by
  unfold antB at h
  simp only [Bool.and_eq_true] at h
  exact (loss_yes h.2.2.1).1

theorem specFtb (nm : ByteArray) (gn : Int) (A : Option Addr) (n c : Nat) (hs : List Int) (B : Option Addr) (m d : Nat) (cs : List Int) (w : World) (ra : Rd w A n hs) (rb : Rd w B m cs) (hn : n ≤ maxLen) (hm : m ≤ maxLen) (hz : nm.size ≤ maxLen) :
    Calls Try.prog 43 #[.agg #[.string nm, .int .i64 gn, .slice A n c, .slice B m d]] w fun e w' => e = .returned (ftbV nm gn n m hs cs) ∧ Below w.heap.size w w' := by
  have A1 := Lib.hid (specAnt nm gn A n c hs B m d cs w.heap.size (w.alloc (.cells #[.string nm, .int .i64 gn, .slice A n c, .slice B m d] 34)) (ra.alloc _) (rb.alloc _) hn hm hz (by (((try dsimp only); (repeat' apply And.intro) <;> (repeat (first | with_reducible assumption | (with_reducible refine keep_drew ?_) | (with_reducible refine keep_drewN ?_) | ((with_reducible refine keep_new _ _ _ _ _ _ ?_ ?_) <;> (first | rfl | (simp; done) | omega)) | (with_reducible refine keep_alloc _ ?_) | ((with_reducible refine keep_set _ ?_ ?_); (focus first | omega | (simp; done) | (simp; omega))) | ((with_reducible refine keep_set' _ ?_ ?_); (focus first | omega | (simp; done))) | ((with_reducible refine keep_same (u := ?_) _ ?_); rotate_left) | ((with_reducible refine keep_below (w := ?_) ?_ ?_); rotate_left; (with_reducible assumption))))))) (by (((try dsimp only); (repeat' apply And.intro) <;> (repeat (first | with_reducible assumption | (with_reducible refine keep_drew ?_) | (with_reducible refine keep_drewN ?_) | ((with_reducible refine keep_new _ _ _ _ _ _ ?_ ?_) <;> (first | rfl | (simp; done) | omega)) | (with_reducible refine keep_alloc _ ?_) | ((with_reducible refine keep_set _ ?_ ?_); (focus first | omega | (simp; done) | (simp; omega))) | ((with_reducible refine keep_set' _ ?_ ?_); (focus first | omega | (simp; done))) | ((with_reducible refine keep_same (u := ?_) _ ?_); rotate_left) | ((with_reducible refine keep_below (w := ?_) ?_ ?_); rotate_left; (with_reducible assumption))))))) (by (((try dsimp only); (repeat' apply And.intro) <;> (repeat (first | with_reducible assumption | (with_reducible refine keep_drew ?_) | (with_reducible refine keep_drewN ?_) | ((with_reducible refine keep_new _ _ _ _ _ _ ?_ ?_) <;> (first | rfl | (simp; done) | omega)) | (with_reducible refine keep_alloc _ ?_) | ((with_reducible refine keep_set _ ?_ ?_); (focus first | omega | (simp; done) | (simp; omega))) | ((with_reducible refine keep_set' _ ?_ ?_); (focus first | omega | (simp; done))) | ((with_reducible refine keep_same (u := ?_) _ ?_); rotate_left) | ((with_reducible refine keep_below (w := ?_) ?_ ?_); rotate_left; (with_reducible assumption))))))) (by (((try dsimp only); (repeat' apply And.intro) <;> (repeat (first | with_reducible assumption | (with_reducible refine keep_drew ?_) | (with_reducible refine keep_drewN ?_) | ((with_reducible refine keep_new _ _ _ _ _ _ ?_ ?_) <;> (first | rfl | (simp; done) | omega)) | (with_reducible refine keep_alloc _ ?_) | ((with_reducible refine keep_set _ ?_ ?_); (focus first | omega | (simp; done) | (simp; omega))) | ((with_reducible refine keep_set' _ ?_ ?_); (focus first | omega | (simp; done))) | ((with_reducible refine keep_same (u := ?_) _ ?_); rotate_left) | ((with_reducible refine keep_below (w := ?_) ?_ ?_); rotate_left; (with_reducible assumption))))))))
  cases hT : antB nm gn n m hs cs
  · have HF := Lib.hid (ftbV_eq (show ftbR nm gn n m hs cs = (0, 1) by unfold ftbR; rw [hT]; rfl))
    rw [hT] at A1
    clear hT ra rb
    go_enter Try.func43, Try.ntmps43
    go_wp2_with (go_at_call 66; refine A1.out.mono ?_; rintro e w' ⟨rfl, rfl⟩)
    go_ret2
    exact ⟨by rw [HF.out]; rfl, (by repeat (first | with_reducible exact Below.refl _ _ | with_reducible assumption | (with_reducible refine Below.drew ?_) | (with_reducible refine below_drewN ?_ _) | ((with_reducible refine Below.alloc ?_ ?_ _); rotate_left; (focus first | exact Nat.le_refl _ | omega | (simp; done) | (simp; omega))) | ((with_reducible refine Below.setCell ?_ ?_ _); rotate_left; (focus first | exact Nat.le_refl _ | omega | (simp; done) | (simp; omega))) | ((with_reducible refine below_via (W := ?_) ?_ ?_ ?_); rotate_left; (with_reducible assumption); rotate_left; (focus first | exact Nat.le_refl _ | omega | (simp; done) | (simp; omega)))))⟩
  · have HF := Lib.hid (ftbV_eq (show ftbR nm gn n m hs cs = (hs.getD 18 0, 0) by unfold ftbR; rw [hT]; rfl))
    have e := ant_n hT
    subst e
    rw [hT] at A1
    obtain ⟨ad, rfl, c0⟩ := ra.at_ (show 18 < 36 by omega)
    generalize hs.getD 18 0 = x at c0 HF
    have c1 : w.cell? ⟨ad.block, ad.off + 18, none⟩ = some (.int .i64 x) := c0
    have c2 := World.block_lt_of_cell? _ _ c1
    have c3 : ad.block < w.heap.size := c2
    clear hT ra rb
    go_enter Try.func43, Try.ntmps43
    go_wp2_with (go_at_call 66; refine A1.out.mono ?_; rintro e w' ⟨rfl, rfl⟩)
    go_ret2
    exact ⟨by rw [HF.out]; rfl, (by repeat (first | with_reducible exact Below.refl _ _ | with_reducible assumption | (with_reducible refine Below.drew ?_) | (with_reducible refine below_drewN ?_ _) | ((with_reducible refine Below.alloc ?_ ?_ _); rotate_left; (focus first | exact Nat.le_refl _ | omega | (simp; done) | (simp; omega))) | ((with_reducible refine Below.setCell ?_ ?_ _); rotate_left; (focus first | exact Nat.le_refl _ | omega | (simp; done) | (simp; omega))) | ((with_reducible refine below_via (W := ?_) ?_ ?_ ?_); rotate_left; (with_reducible assumption); rotate_left; (focus first | exact Nat.le_refl _ | omega | (simp; done) | (simp; omega)))))⟩

theorem implFtb (nm : ByteArray) (gn : Int) (A : Option Addr) (n c : Nat) (hs : List Int) (B : Option Addr) (m d : Nat) (cs : List Int) (w : World) (ra : Rd w A n hs) (rb : Rd w B m cs) (hn : n ≤ maxLen) (hm : m ≤ maxLen) (hz : nm.size ≤ maxLen) :
    Calls Try.prog 44 #[.agg #[.string nm, .int .i64 gn, .slice A n c, .slice B m d]] w fun e w' => e = .returned (ftbV nm gn n m hs cs) ∧ Below w.heap.size w w' := by
  have A1 := Lib.hid (fun W (hb : Below w.heap.size w W) => implAnt nm gn A n c hs B m d cs W (Rd.below hb ra) (Rd.below hb rb) hn hm hz)
  cases hT : antB nm gn n m hs cs
  · have HF := Lib.hid (ftbV_eq (show ftbR nm gn n m hs cs = (0, 1) by unfold ftbR; rw [hT]; rfl))
    rw [hT] at A1
    clear hT ra rb
    go_enter Try.func44, Try.ntmps44
    go_wp2_with (go_at_call 35; refine (A1.out _ (by repeat (first | with_reducible exact Below.refl _ _ | with_reducible assumption | (with_reducible refine Below.drew ?_) | (with_reducible refine below_drewN ?_ _) | ((with_reducible refine Below.alloc ?_ ?_ _); rotate_left; (focus first | exact Nat.le_refl _ | omega | (simp; done) | (simp; omega))) | ((with_reducible refine Below.setCell ?_ ?_ _); rotate_left; (focus first | exact Nat.le_refl _ | omega | (simp; done) | (simp; omega))) | ((with_reducible refine below_via (W := ?_) ?_ ?_ ?_); rotate_left; (with_reducible assumption); rotate_left; (focus first | exact Nat.le_refl _ | omega | (simp; done) | (simp; omega)))))).mono ?_; rintro e w1 ⟨rfl, hb1⟩)
    go_ret2
    exact ⟨by rw [HF.out]; rfl, (by repeat (first | with_reducible exact Below.refl _ _ | with_reducible assumption | (with_reducible refine Below.drew ?_) | (with_reducible refine below_drewN ?_ _) | ((with_reducible refine Below.alloc ?_ ?_ _); rotate_left; (focus first | exact Nat.le_refl _ | omega | (simp; done) | (simp; omega))) | ((with_reducible refine Below.setCell ?_ ?_ _); rotate_left; (focus first | exact Nat.le_refl _ | omega | (simp; done) | (simp; omega))) | ((with_reducible refine below_via (W := ?_) ?_ ?_ ?_); rotate_left; (with_reducible assumption); rotate_left; (focus first | exact Nat.le_refl _ | omega | (simp; done) | (simp; omega)))))⟩
  · have HF := Lib.hid (ftbV_eq (show ftbR nm gn n m hs cs = (hs.getD 18 0, 0) by unfold ftbR; rw [hT]; rfl))
    have e := ant_n hT
    subst e
    rw [hT] at A1
    obtain ⟨ad, rfl, c0⟩ := ra.at_ (show 18 < 36 by omega)
    generalize hs.getD 18 0 = x at c0 HF
    clear hT ra rb
    go_enter Try.func44, Try.ntmps44
    go_wp2_with fail
    refine (A1.out _ (by repeat (first | with_reducible exact Below.refl _ _ | with_reducible assumption | (with_reducible refine Below.drew ?_) | (with_reducible refine below_drewN ?_ _) | ((with_reducible refine Below.alloc ?_ ?_ _); rotate_left; (focus first | exact Nat.le_refl _ | omega | (simp; done) | (simp; omega))) | ((with_reducible refine Below.setCell ?_ ?_ _); rotate_left; (focus first | exact Nat.le_refl _ | omega | (simp; done) | (simp; omega))) | ((with_reducible refine below_via (W := ?_) ?_ ?_ ?_); rotate_left; (with_reducible assumption); rotate_left; (focus first | exact Nat.le_refl _ | omega | (simp; done) | (simp; omega)))))).mono ?_
    rintro e w1 ⟨rfl, hb1⟩
    have s1 := hb1.size
    simp at s1
    have t : w1.cell? ⟨w.heap.size, 2, none⟩ = some (.slice (some ad) 36 c) ∧ w1.cell? (ad.add 18) = some (.int .i64 x) := by (((try dsimp only); (repeat' apply And.intro) <;> (repeat (first | with_reducible assumption | (with_reducible refine keep_drew ?_) | (with_reducible refine keep_drewN ?_) | ((with_reducible refine keep_new _ _ _ _ _ _ ?_ ?_) <;> (first | rfl | (simp; done) | omega)) | (with_reducible refine keep_alloc _ ?_) | ((with_reducible refine keep_set _ ?_ ?_); (focus first | omega | (simp; done) | (simp; omega))) | ((with_reducible refine keep_set' _ ?_ ?_); (focus first | omega | (simp; done))) | ((with_reducible refine keep_same (u := ?_) _ ?_); rotate_left) | ((with_reducible refine keep_below (w := ?_) ?_ ?_); rotate_left; (with_reducible assumption))))))
    have B1 : Below w.heap.size w w1 := (by repeat (first | with_reducible exact Below.refl _ _ | with_reducible assumption | (with_reducible refine Below.drew ?_) | (with_reducible refine below_drewN ?_ _) | ((with_reducible refine Below.alloc ?_ ?_ _); rotate_left; (focus first | exact Nat.le_refl _ | omega | (simp; done) | (simp; omega))) | ((with_reducible refine Below.setCell ?_ ?_ _); rotate_left; (focus first | exact Nat.le_refl _ | omega | (simp; done) | (simp; omega))) | ((with_reducible refine below_via (W := ?_) ?_ ?_ ?_); rotate_left; (with_reducible assumption); rotate_left; (focus first | exact Nat.le_refl _ | omega | (simp; done) | (simp; omega)))))
    clear hb1
    obtain ⟨t0, t1⟩ := t
    have t2 : w1.cell? ⟨ad.block, ad.off + 18, none⟩ = some (.int .i64 x) := t1
    go_wp2_with fail
    go_ret2
    exact ⟨by rw [HF.out]; rfl, B1⟩

end Go.Proofs.Ytgondkjephojjaa.WalkM
