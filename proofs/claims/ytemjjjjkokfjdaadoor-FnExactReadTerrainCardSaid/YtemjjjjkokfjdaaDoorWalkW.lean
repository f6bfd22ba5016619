/- Validity of terrains: the reference's and the program's. -/
import Derived.Test.YtemjjjjkokfjdaaDoorWalkV
namespace Go.Proofs.YtemjjjjkokfjdaaDoor.WalkW
open Go Go.RowKit Go.Proofs.YtemjjjjkokfjdaaDoor.Base Go.Proofs.YtemjjjjkokfjdaaDoor.Plain Go.Proofs.YtemjjjjkokfjdaaDoor.Words Go.Proofs.YtemjjjjkokfjdaaDoor.Ints Go.Proofs.YtemjjjjkokfjdaaDoor.WalkN Go.Proofs.YtemjjjjkokfjdaaDoor.WalkP Go.Proofs.YtemjjjjkokfjdaaDoor.WalkI Go.Proofs.YtemjjjjkokfjdaaDoor.WalkU Go.Proofs.YtemjjjjkokfjdaaDoor.WalkV Go.Proofs.YtemjjjjkokfjdaaDoor.PlainT
set_option linter.unusedVariables false
set_option linter.unusedSimpArgs false

theorem ter_size {s w h : Int} {n m : Nat} {hs cs : List Int} (e : sizeB s w h = false) : terB s w h n m hs cs = false := by unfold terB; rw [e]; rfl
theorem ter_n {s w h : Int} {n m : Nat} {hs cs : List Int} (e : ¬ (n : Int) = w * h) : terB s w h n m hs cs = false := by unfold terB; rw [decide_eq_false e]; simp
theorem ter_m {s w h : Int} {n m : Nat} {hs cs : List Int} (e : ¬ m = n) : terB s w h n m hs cs = false := by unfold terB; rw [decide_eq_false e]; simp
theorem ter_in {s w h : Int} {n m : Nat} {hs cs : List Int} (e1 : sizeB s w h = true) (e2 : (n : Int) = w * h) (e3 : m = n) : terB s w h n m hs cs = (allB hs 0 90000 && allB cs 0 7) := by
  unfold terB
  rw [e1, decide_eq_true e2, decide_eq_true e3]
  simp
theorem ter_yes {s w h : Int} {n m : Nat} {hs cs : List Int} (e : terB s w h n m hs cs = true) : sizeB s w h = true ∧ (n : Int) = w * h ∧ m = n ∧ allB hs 0 90000 = true ∧ allB cs 0 7 = true := by
  unfold terB at e
  simp only [Bool.and_eq_true, decide_eq_true_eq] at e
  exact ⟨e.1, e.2.1, e.2.2.1, e.2.2.2.1, e.2.2.2.2⟩

set_option maxHeartbeats 1000000 in
theorem specTer (s wd ht : Int) (A B : Option Addr) (n c m d : Nat) (hs cs : List Int) (g : Nat) (w : World) (ra : Rd w A n hs) (rb : Rd w B m cs) (hn : n ≤ maxLen) (hm : m ≤ maxLen)
    (t0 : w.cell? ⟨g, 0, none⟩ = some (.int .i64 s)) (t1 : w.cell? ⟨g, 1, none⟩ = some (.int .i64 wd)) (t2 : w.cell? ⟨g, 2, none⟩ = some (.int .i64 ht)) (t3 : w.cell? ⟨g, 3, none⟩ = some (.slice A n c)) (t4 : w.cell? ⟨g, 4, none⟩ = some (.slice B m d)) :
    Calls Tryd.prog 18 #[.pointer (some ⟨g, 0, none⟩)] w fun e w' => e = .returned (.bool (terB s wd ht n m hs cs)) ∧ ∃ k, w' = w.drewN k := by
  unfold maxLen at hn hm
  have RA := Lib.hid ra
  have RB := Lib.hid rb
  clear ra rb
  have S0 := Lib.hid (fun w => specSize s wd ht w)
  cases h1 : sizeB s wd ht
  · rw [h1] at S0
    have HF : Hid (terB s wd ht n m hs cs = false) := Lib.hid (ter_size h1)
    clear h1
    go_enter Tryd.func18, Tryd.ntmps18
    go_wp2_with fail
    go_quiet ((go_at_call 16; exact quietL (S0.out _)))
    go_wp2_with fail
    go_ret
    exact ⟨ret_bool HF.out.symm, _, rfl⟩
  · have b := sizeB_yes h1
    have mm := mul_bound (a := wd) (b := ht) (A := 24) (B := 24) (by omega) (by omega) (by omega) (by omega) (by omega) (by omega)
    rw [h1] at S0
    by_cases h2 : (n : Int) = wd * ht
    · by_cases h3 : m = n
      · have HF : Hid (terB s wd ht n m hs cs = (allB hs 0 90000 && allB cs 0 7)) := Lib.hid (ter_in h1 h2 h3)
        have e2 : ((n : Int) != wd * ht) = false := by simpa using h2
        have e3 : ((m : Int) != (n : Int)) = false := by simp; omega
        have ew : IntKind.i64.wrap (wd * ht) = wd * ht := IntWalk.i64_in _ (by omega)
        have L3 := Lib.hid h3
        clear h1 h2 h3 b
        go_enter Tryd.func18, Tryd.ntmps18
        go_wp2_with fail
        go_quiet ((go_at_call 16; exact quietL (S0.out _)))
        clear ew e2 e3
        go_wp2_with fail
        go_loopw [3] (fun i wr => ∃ k q : Nat, k ≤ n ∧ i = .int .i64 k ∧ wr = w.drewN q ∧ Hid (∀ j, j < k → inB (hs.getD j 0) 0 90000 = true ∧ inB (cs.getD j 0) 0 7 = true)) (fun i _ => n - (intOf i).toNat)
        case atStart => exact ⟨0, _, Nat.zero_le _, rfl, rfl, Lib.hid (fun j hj => absurd hj (by omega))⟩
        case round =>
          obtain ⟨k, q, hk, rfl, rfl, HK⟩ := hrel
          by_cases hlt : k < n
          · have hltm : k < m := by have := L3.out; omega
            obtain ⟨ad, rfl, hc⟩ := RA.out.at_ hlt
            obtain ⟨bd, rfl, hd⟩ := RB.out.at_ hltm
            generalize hx : hs.getD k 0 = x at hc
            generalize hy : cs.getD k 0 = y at hd
            have HX := Lib.hid hx
            have HY := Lib.hid hy
            clear hx hy
            have I1 := Lib.hid (fun w => specIn x 0 90000 w)
            have I2 := Lib.hid (fun w => specIn y 0 7 w)
            cases i1 : inB x 0 90000
            · have J1 := Lib.hid i1
              rw [i1] at I1
              clear i1
              go_wp2_with (go_at_call 35; first | ((with_reducible refine (I1.out _).mono ?_); rintro e w' ⟨rfl, rfl⟩) | ((with_reducible refine (I2.out _).mono ?_); rintro e w' ⟨rfl, rfl⟩))
              go_ret
              exact ⟨ret_bool (by rw [HF.out, allB_stop (k := k) (by rw [RA.out.len]; exact hlt) (by rw [HX.out]; exact J1.out)]; rfl), _, rfl⟩
            · have J1 := Lib.hid i1
              rw [i1] at I1
              clear i1
              cases i2 : inB y 0 7
              · have J2 := Lib.hid i2
                rw [i2] at I2
                clear i2
                go_wp2_with (go_at_call 35; first | ((with_reducible refine (I1.out _).mono ?_); rintro e w' ⟨rfl, rfl⟩) | ((with_reducible refine (I2.out _).mono ?_); rintro e w' ⟨rfl, rfl⟩))
                go_ret
                exact ⟨ret_bool (by rw [HF.out, allB_stop (k := k) (zs := cs) (by rw [RB.out.len]; exact hltm) (by rw [HY.out]; exact J2.out)]; simp), _, rfl⟩
              · have J2 := Lib.hid i2
                rw [i2] at I2
                clear i2
                go_wp2_with (go_at_call 35; first | ((with_reducible refine (I1.out _).mono ?_); rintro e w' ⟨rfl, rfl⟩) | ((with_reducible refine (I2.out _).mono ?_); rintro e w' ⟨rfl, rfl⟩))
                go_roundw
                case rel =>
                  refine ⟨k + 1, _, by omega, by go_num, rfl, Lib.hid fun j hj => ?_⟩
                  by_cases e : j = k
                  · rw [e, HX.out, HY.out]
                    exact ⟨J1.out, J2.out⟩
                  · exact HK.out j (by omega)
                case measure => simp [intOf]; omega
          · go_wp2_with fail
            go_ret
            obtain rfl : k = n := by omega
            exact ⟨ret_bool (by rw [HF.out, allB_end RA.out.len (fun j hj => (HK.out j hj).1), allB_end (RB.out.len.trans L3.out) (fun j hj => (HK.out j hj).2)]; rfl), _, rfl⟩
      · have HF : Hid (terB s wd ht n m hs cs = false) := Lib.hid (ter_m h3)
        have e2 : ((n : Int) != wd * ht) = false := by simpa using h2
        have e3 : ((m : Int) != (n : Int)) = true := by simp; omega
        have ew : IntKind.i64.wrap (wd * ht) = wd * ht := IntWalk.i64_in _ (by omega)
        clear h1 h2 h3 b
        go_enter Tryd.func18, Tryd.ntmps18
        go_wp2_with fail
        go_quiet ((go_at_call 16; exact quietL (S0.out _)))
        go_wp2_with fail
        go_ret
        exact ⟨ret_bool HF.out.symm, _, rfl⟩
    · have HF : Hid (terB s wd ht n m hs cs = false) := Lib.hid (ter_n h2)
      have e2 : ((n : Int) != wd * ht) = true := by simpa using h2
      have ew : IntKind.i64.wrap (wd * ht) = wd * ht := IntWalk.i64_in _ (by omega)
      clear h1 h2 b
      go_enter Tryd.func18, Tryd.ntmps18
      go_wp2_with fail
      go_quiet ((go_at_call 16; exact quietL (S0.out _)))
      go_wp2_with fail
      go_ret
      exact ⟨ret_bool HF.out.symm, _, rfl⟩

set_option maxHeartbeats 1000000 in
theorem implTer (s wd ht : Int) (A B : Option Addr) (n c m d : Nat) (hs cs : List Int) (w : World) (ra : Rd w A n hs) (rb : Rd w B m cs) (hn : n ≤ maxLen) (hm : m ≤ maxLen) :
    Calls Tryd.prog 31 #[.agg #[.int .i64 s, .int .i64 wd, .int .i64 ht, .slice A n c, .slice B m d]] w fun e w' => e = .returned (.bool (terB s wd ht n m hs cs)) ∧ Below w.heap.size w w' := by
  have RA := Lib.hid ra
  have RB := Lib.hid rb
  clear ra rb
  have hn' := hn
  have hm' := hm
  unfold maxLen at hn hm
  have S0 := Lib.hid (fun w => implSize s wd ht w)
  cases h1 : sizeB s wd ht
  · rw [h1] at S0
    have HF : Hid (terB s wd ht n m hs cs = false) := Lib.hid (ter_size h1)
    clear h1
    go_enter Tryd.func31, Tryd.ntmps31
    go_wp2_with (go_at_call 40; refine (S0.out _).mono ?_; rintro e w' ⟨rfl, rfl⟩)
    go_ret
    exact ⟨ret_bool HF.out.symm, (by repeat (first | with_reducible exact Below.refl _ _ | with_reducible assumption | (with_reducible refine Below.drew ?_) | (with_reducible refine below_drewN ?_ _) | ((with_reducible refine Below.alloc ?_ ?_ _); rotate_left; (focus first | exact Nat.le_refl _ | omega | (simp; done) | (simp; omega))) | ((with_reducible refine Below.setCell ?_ ?_ _); rotate_left; (focus first | exact Nat.le_refl _ | omega | (simp; done) | (simp; omega))) | ((with_reducible refine below_via (W := ?_) ?_ ?_ ?_); rotate_left; (with_reducible assumption); rotate_left; (focus first | exact Nat.le_refl _ | omega | (simp; done) | (simp; omega)))))⟩
  · have b := sizeB_yes h1
    have mm := mul_bound (a := wd) (b := ht) (A := 24) (B := 24) (by omega) (by omega) (by omega) (by omega) (by omega) (by omega)
    rw [h1] at S0
    by_cases h2 : (n : Int) = wd * ht
    · by_cases h3 : m = n
      · have HF : Hid (terB s wd ht n m hs cs = (allB hs 0 90000 && allB cs 0 7)) := Lib.hid (ter_in h1 h2 h3)
        have e2 : ((n : Int) == wd * ht) = true := by simpa using h2
        have e3 : ((m : Int) == (n : Int)) = true := by simp; omega
        clear h1 h2 h3 b
        cases a1 : allB hs 0 90000
        · have A1 := Lib.hid (fun W (hb : Below w.heap.size w W) => implAll A n c hs 0 90000 W (RA.out.below hb) hn')
          rw [a1] at A1 HF
          clear a1
          go_enter Tryd.func31, Tryd.ntmps31
          go_wp2_with (first | (go_at_call 40; refine (S0.out _).mono ?_; rintro e w' ⟨rfl, rfl⟩) | (go_at_call 41; refine (A1.out _ (by repeat (first | with_reducible exact Below.refl _ _ | with_reducible assumption | (with_reducible refine Below.drew ?_) | (with_reducible refine below_drewN ?_ _) | ((with_reducible refine Below.alloc ?_ ?_ _); rotate_left; (focus first | exact Nat.le_refl _ | omega | (simp; done) | (simp; omega))) | ((with_reducible refine Below.setCell ?_ ?_ _); rotate_left; (focus first | exact Nat.le_refl _ | omega | (simp; done) | (simp; omega))) | ((with_reducible refine below_via (W := ?_) ?_ ?_ ?_); rotate_left; (with_reducible assumption); rotate_left; (focus first | exact Nat.le_refl _ | omega | (simp; done) | (simp; omega)))))).mono ?_; rintro e w1 ⟨rfl, hb1⟩))
          go_ret
          exact ⟨ret_bool HF.out.symm, (by repeat (first | with_reducible exact Below.refl _ _ | with_reducible assumption | (with_reducible refine Below.drew ?_) | (with_reducible refine below_drewN ?_ _) | ((with_reducible refine Below.alloc ?_ ?_ _); rotate_left; (focus first | exact Nat.le_refl _ | omega | (simp; done) | (simp; omega))) | ((with_reducible refine Below.setCell ?_ ?_ _); rotate_left; (focus first | exact Nat.le_refl _ | omega | (simp; done) | (simp; omega))) | ((with_reducible refine below_via (W := ?_) ?_ ?_ ?_); rotate_left; (with_reducible assumption); rotate_left; (focus first | exact Nat.le_refl _ | omega | (simp; done) | (simp; omega)))))⟩
        · have A1 := Lib.hid (fun W (hb : Below w.heap.size w W) => implAll A n c hs 0 90000 W (RA.out.below hb) hn')
          have A2 := Lib.hid (fun W (hb : Below w.heap.size w W) => implAll B m d cs 0 7 W (RB.out.below hb) hm')
          rw [a1] at A1 HF
          clear a1
          go_enter Tryd.func31, Tryd.ntmps31
          go_wp2_with (go_at_call 40; refine (S0.out _).mono ?_; rintro e w' ⟨rfl, rfl⟩)
          refine (A1.out _ (by repeat (first | with_reducible exact Below.refl _ _ | with_reducible assumption | (with_reducible refine Below.drew ?_) | (with_reducible refine below_drewN ?_ _) | ((with_reducible refine Below.alloc ?_ ?_ _); rotate_left; (focus first | exact Nat.le_refl _ | omega | (simp; done) | (simp; omega))) | ((with_reducible refine Below.setCell ?_ ?_ _); rotate_left; (focus first | exact Nat.le_refl _ | omega | (simp; done) | (simp; omega))) | ((with_reducible refine below_via (W := ?_) ?_ ?_ ?_); rotate_left; (with_reducible assumption); rotate_left; (focus first | exact Nat.le_refl _ | omega | (simp; done) | (simp; omega)))))).mono ?_
          rintro e w1 ⟨rfl, hb1⟩
          obtain ⟨hc1, hf1⟩ := bcell hb1
          have z1 := hb1.size
          simp at z1
          have z2 : w.heap.size < w1.heap.size := by omega
          go_wp2_with fail
          refine (A2.out _ (by repeat (first | with_reducible exact Below.refl _ _ | with_reducible assumption | (with_reducible refine Below.drew ?_) | (with_reducible refine below_drewN ?_ _) | ((with_reducible refine Below.alloc ?_ ?_ _); rotate_left; (focus first | exact Nat.le_refl _ | omega | (simp; done) | (simp; omega))) | ((with_reducible refine Below.setCell ?_ ?_ _); rotate_left; (focus first | exact Nat.le_refl _ | omega | (simp; done) | (simp; omega))) | ((with_reducible refine below_via (W := ?_) ?_ ?_ ?_); rotate_left; (with_reducible assumption); rotate_left; (focus first | exact Nat.le_refl _ | omega | (simp; done) | (simp; omega)))))).mono ?_
          rintro e w2 ⟨rfl, hb2⟩
          go_wp2_with fail
          go_ret
          exact ⟨ret_bool (by rw [HF.out]; rfl), (by repeat (first | with_reducible exact Below.refl _ _ | with_reducible assumption | (with_reducible refine Below.drew ?_) | (with_reducible refine below_drewN ?_ _) | ((with_reducible refine Below.alloc ?_ ?_ _); rotate_left; (focus first | exact Nat.le_refl _ | omega | (simp; done) | (simp; omega))) | ((with_reducible refine Below.setCell ?_ ?_ _); rotate_left; (focus first | exact Nat.le_refl _ | omega | (simp; done) | (simp; omega))) | ((with_reducible refine below_via (W := ?_) ?_ ?_ ?_); rotate_left; (with_reducible assumption); rotate_left; (focus first | exact Nat.le_refl _ | omega | (simp; done) | (simp; omega)))))⟩
      · have HF : Hid (terB s wd ht n m hs cs = false) := Lib.hid (ter_m h3)
        have e2 : ((n : Int) == wd * ht) = true := by simpa using h2
        have e3 : ((m : Int) == (n : Int)) = false := by simp; omega
        clear h1 h2 h3 b
        go_enter Tryd.func31, Tryd.ntmps31
        go_wp2_with (go_at_call 40; refine (S0.out _).mono ?_; rintro e w' ⟨rfl, rfl⟩)
        go_ret
        exact ⟨ret_bool HF.out.symm, (by repeat (first | with_reducible exact Below.refl _ _ | with_reducible assumption | (with_reducible refine Below.drew ?_) | (with_reducible refine below_drewN ?_ _) | ((with_reducible refine Below.alloc ?_ ?_ _); rotate_left; (focus first | exact Nat.le_refl _ | omega | (simp; done) | (simp; omega))) | ((with_reducible refine Below.setCell ?_ ?_ _); rotate_left; (focus first | exact Nat.le_refl _ | omega | (simp; done) | (simp; omega))) | ((with_reducible refine below_via (W := ?_) ?_ ?_ ?_); rotate_left; (with_reducible assumption); rotate_left; (focus first | exact Nat.le_refl _ | omega | (simp; done) | (simp; omega)))))⟩
    · have HF : Hid (terB s wd ht n m hs cs = false) := Lib.hid (ter_n h2)
      have e2 : ((n : Int) == wd * ht) = false := by simpa using h2
      clear h1 h2 b
      go_enter Tryd.func31, Tryd.ntmps31
      go_wp2_with (go_at_call 40; refine (S0.out _).mono ?_; rintro e w' ⟨rfl, rfl⟩)
      go_ret
      exact ⟨ret_bool HF.out.symm, (by repeat (first | with_reducible exact Below.refl _ _ | with_reducible assumption | (with_reducible refine Below.drew ?_) | (with_reducible refine below_drewN ?_ _) | ((with_reducible refine Below.alloc ?_ ?_ _); rotate_left; (focus first | exact Nat.le_refl _ | omega | (simp; done) | (simp; omega))) | ((with_reducible refine Below.setCell ?_ ?_ _); rotate_left; (focus first | exact Nat.le_refl _ | omega | (simp; done) | (simp; omega))) | ((with_reducible refine below_via (W := ?_) ?_ ?_ ?_); rotate_left; (with_reducible assumption); rotate_left; (focus first | exact Nat.le_refl _ | omega | (simp; done) | (simp; omega)))))⟩

end Go.Proofs.YtemjjjjkokfjdaaDoor.WalkW
