/- The walk of the law FnExactValidProfile over whatever the two functions give. Printed by a program (mklaw.py). -/
import Derived.Test.YtgondkjephojjaaWalkX
import Derived.Test.YtgondkjephojjaaWalkK
import Derived.Deep.RegionHeld3
namespace Go.Proofs.Ytgondkjephojjaa.LawValidProfile
open Go Go.RowKit Go.Proofs.Ytgondkjephojjaa.Base Go.Proofs.Ytgondkjephojjaa.Plain Go.Proofs.Ytgondkjephojjaa.Words Go.Proofs.Ytgondkjephojjaa.Ints Go.Proofs.Ytgondkjephojjaa.WalkN Go.Proofs.Ytgondkjephojjaa.WalkP Go.Proofs.Ytgondkjephojjaa.WalkI Go.Proofs.Ytgondkjephojjaa.WalkX Go.Proofs.Ytgondkjephojjaa.WalkK
set_option linter.unusedVariables false
set_option linter.unusedSimpArgs false
set_option maxHeartbeats 2000000 in
theorem frame (pd0 : Int) (pf0 : Int) (pl0 : Int) (A0 : Option Addr) (n0 c0 : Nat) (hs0 : List Int) (V0 : Bool) (w : World) (raA0 : Rd w A0 n0 hs0) (knn0 : n0 ≤ maxLen)
    (SP0 : ∀ (W : World) (g0 : Nat), Rd W (some ⟨g0, 0, none⟩) n0 hs0 → Calls Try.prog 30 #[.agg #[.int .i64 pd0, .int .i64 pf0, .int .i64 pl0, .slice (some ⟨g0, 0, none⟩) n0 n0]] W fun e w' => e = .returned (.bool V0) ∧ Below W.heap.size W w')
    (IM0 : ∀ (W : World) (g0 : Nat), Rd W (some ⟨g0, 0, none⟩) n0 hs0 → Calls Try.prog 31 #[.agg #[.int .i64 pd0, .int .i64 pf0, .int .i64 pl0, .slice (some ⟨g0, 0, none⟩) n0 n0]] W fun e w' => e = .returned (.bool V0) ∧ Below W.heap.size W w') :
    Calls Try.prog 6 #[.agg #[.int .i64 pd0, .int .i64 pf0, .int .i64 pl0, .slice A0 n0 c0]] w fun e w' => e = .returned (.bool true) ∧ Below w.heap.size w w' := by
  have SP := Lib.hid SP0
  have IM := Lib.hid IM0
  clear SP0 IM0
  by_cases hsz0 : ((n0 : Nat) : Int) ≤ 1048576
  · obtain ⟨L0, hL0⟩ : ∃ L, szG (n0) 1048576 = L := ⟨_, rfl⟩
    have q0 := szG_yes hsz0
    have b0 : 0 ≤ L0 ∧ L0 ≤ 1048576 := by omega
    have Z0 := Lib.hid (fun w => szProfile pd0 pf0 pl0 A0 n0 c0 1048576 w knn0 (by omega))
    rw [hL0] at Z0
    have TT0 := Lib.hid (fun W (hb : Below w.heap.size w W) => toProfile pd0 pf0 pl0 A0 n0 c0 hs0 W (Rd.below hb raA0) (by omega))
    clear raA0 q0 hL0
    go_enter Try.func6, Try.ntmps6
    go_wp2_with fail
    refine (Z0.out _).mono ?_
    rintro e w' ⟨rfl, rfl⟩
    go_wp2_with fail
    refine (TT0.out _ (by repeat (first | with_reducible exact Below.refl _ _ | with_reducible assumption | (with_reducible refine Below.drew ?_) | (with_reducible refine below_drewN ?_ _) | ((with_reducible refine Below.alloc ?_ ?_ _); rotate_left; (focus first | exact Nat.le_refl _ | omega | (simp; done) | (simp; omega))) | ((with_reducible refine Below.setCell ?_ ?_ _); rotate_left; (focus first | exact Nat.le_refl _ | omega | (simp; done) | (simp; omega))) | ((with_reducible refine below_via (W := ?_) ?_ ?_ ?_); rotate_left; (with_reducible assumption); rotate_left; (focus first | exact Nat.le_refl _ | omega | (simp; done) | (simp; omega)))))).mono ?_
    rintro e wa0 ⟨g0a, rfl, o0, hba0⟩
    have Pa00 := Lib.hid o0.rd
    clear o0
    have sa0 := hba0.size
    (try simp at sa0)
    go_wp2_with fail
    refine (SP.out _ g0a (Rd.below (by repeat (first | with_reducible exact Below.refl _ _ | with_reducible assumption | (with_reducible refine Below.drew ?_) | (with_reducible refine below_drewN ?_ _) | ((with_reducible refine Below.alloc ?_ ?_ _); rotate_left; (focus first | exact Nat.le_refl _ | omega | (simp; done) | (simp; omega))) | ((with_reducible refine Below.setCell ?_ ?_ _); rotate_left; (focus first | exact Nat.le_refl _ | omega | (simp; done) | (simp; omega))) | ((with_reducible refine below_via (W := ?_) ?_ ?_ ?_); rotate_left; (with_reducible assumption); rotate_left; (focus first | exact Nat.le_refl _ | omega | (simp; done) | (simp; omega))))) Pa00.out)).mono ?_
    rintro e w2 ⟨rfl, hb2⟩
    have s2 := hb2.size
    (try simp at s2)
    skip
    have t : w2.cell? ⟨w.heap.size, 0, none⟩ = some (.int .i64 pd0) ∧ w2.cell? ⟨w.heap.size, 1, none⟩ = some (.int .i64 pf0) ∧ w2.cell? ⟨w.heap.size, 2, none⟩ = some (.int .i64 pl0) ∧ w2.cell? ⟨w.heap.size, 3, none⟩ = some (.slice A0 n0 c0) := by (((try dsimp only); (repeat' apply And.intro) <;> (repeat (first | with_reducible assumption | (with_reducible refine keep_drew ?_) | (with_reducible refine keep_drewN ?_) | ((with_reducible refine keep_new _ _ _ _ _ _ ?_ ?_) <;> (first | rfl | (simp; done) | omega)) | (with_reducible refine keep_alloc _ ?_) | ((with_reducible refine keep_set _ ?_ ?_); (focus first | omega | (simp; done) | (simp; omega))) | ((with_reducible refine keep_set' _ ?_ ?_); (focus first | omega | (simp; done))) | ((with_reducible refine keep_same (u := ?_) _ ?_); rotate_left) | ((with_reducible refine keep_below (w := ?_) ?_ ?_); rotate_left; (with_reducible assumption))))))
    have B2 : Below w.heap.size w w2 := (by repeat (first | with_reducible exact Below.refl _ _ | with_reducible assumption | (with_reducible refine Below.drew ?_) | (with_reducible refine below_drewN ?_ _) | ((with_reducible refine Below.alloc ?_ ?_ _); rotate_left; (focus first | exact Nat.le_refl _ | omega | (simp; done) | (simp; omega))) | ((with_reducible refine Below.setCell ?_ ?_ _); rotate_left; (focus first | exact Nat.le_refl _ | omega | (simp; done) | (simp; omega))) | ((with_reducible refine below_via (W := ?_) ?_ ?_ ?_); rotate_left; (with_reducible assumption); rotate_left; (focus first | exact Nat.le_refl _ | omega | (simp; done) | (simp; omega)))))
    (try clear hb2 s2)
    (try clear hba0 sa0)
    (try clear Pa00)
    have z2 := B2.size
    obtain ⟨t0, t1, t2, t3⟩ := t
    go_wp2_with fail
    refine (TT0.out _ B2).mono ?_
    rintro e w30 ⟨g0b, rfl, o0, hbb0⟩
    have sb0 := hbb0.size
    (try simp at sb0)
    have Pb00 := Lib.hid o0.rd
    clear o0
    have t : w30.cell? ⟨w.heap.size, 0, none⟩ = some (.int .i64 pd0) ∧ w30.cell? ⟨w.heap.size, 1, none⟩ = some (.int .i64 pf0) ∧ w30.cell? ⟨w.heap.size, 2, none⟩ = some (.int .i64 pl0) ∧ w30.cell? ⟨w.heap.size, 3, none⟩ = some (.slice A0 n0 c0) := by (((try dsimp only); (repeat' apply And.intro) <;> (repeat (first | with_reducible assumption | (with_reducible refine keep_drew ?_) | (with_reducible refine keep_drewN ?_) | ((with_reducible refine keep_new _ _ _ _ _ _ ?_ ?_) <;> (first | rfl | (simp; done) | omega)) | (with_reducible refine keep_alloc _ ?_) | ((with_reducible refine keep_set _ ?_ ?_); (focus first | omega | (simp; done) | (simp; omega))) | ((with_reducible refine keep_set' _ ?_ ?_); (focus first | omega | (simp; done))) | ((with_reducible refine keep_same (u := ?_) _ ?_); rotate_left) | ((with_reducible refine keep_below (w := ?_) ?_ ?_); rotate_left; (with_reducible assumption))))))
    have B3 : Below w.heap.size w w30 := (by repeat (first | with_reducible exact Below.refl _ _ | with_reducible assumption | (with_reducible refine Below.drew ?_) | (with_reducible refine below_drewN ?_ _) | ((with_reducible refine Below.alloc ?_ ?_ _); rotate_left; (focus first | exact Nat.le_refl _ | omega | (simp; done) | (simp; omega))) | ((with_reducible refine Below.setCell ?_ ?_ _); rotate_left; (focus first | exact Nat.le_refl _ | omega | (simp; done) | (simp; omega))) | ((with_reducible refine below_via (W := ?_) ?_ ?_ ?_); rotate_left; (with_reducible assumption); rotate_left; (focus first | exact Nat.le_refl _ | omega | (simp; done) | (simp; omega)))))
    (try clear t0 t1 t2 t3)
    clear hbb0 B2
    have B2 := B3
    clear B3
    have z30 := B2.size
    have z40 : w.heap.size < w30.heap.size := World.block_lt_of_cell? _ _ t.1
    obtain ⟨t0, t1, t2, t3⟩ := t
    go_wp2_with fail
    refine (IM.out _ g0b (Rd.below (by repeat (first | with_reducible exact Below.refl _ _ | with_reducible assumption | (with_reducible refine Below.drew ?_) | (with_reducible refine below_drewN ?_ _) | ((with_reducible refine Below.alloc ?_ ?_ _); rotate_left; (focus first | exact Nat.le_refl _ | omega | (simp; done) | (simp; omega))) | ((with_reducible refine Below.setCell ?_ ?_ _); rotate_left; (focus first | exact Nat.le_refl _ | omega | (simp; done) | (simp; omega))) | ((with_reducible refine below_via (W := ?_) ?_ ?_ ?_); rotate_left; (with_reducible assumption); rotate_left; (focus first | exact Nat.le_refl _ | omega | (simp; done) | (simp; omega))))) Pb00.out)).mono ?_
    rintro e w4 ⟨rfl, hb4⟩
    have s4 := hb4.size
    (try simp at s4)
    have Q00 : Hid (Rd w4 (some ⟨g0b, 0, none⟩) n0 hs0) := Lib.hid (Rd.below (by repeat (first | with_reducible exact Below.refl _ _ | with_reducible assumption | (with_reducible refine Below.drew ?_) | (with_reducible refine below_drewN ?_ _) | ((with_reducible refine Below.alloc ?_ ?_ _); rotate_left; (focus first | exact Nat.le_refl _ | omega | (simp; done) | (simp; omega))) | ((with_reducible refine Below.setCell ?_ ?_ _); rotate_left; (focus first | exact Nat.le_refl _ | omega | (simp; done) | (simp; omega))) | ((with_reducible refine below_via (W := ?_) ?_ ?_ ?_); rotate_left; (with_reducible assumption); rotate_left; (focus first | exact Nat.le_refl _ | omega | (simp; done) | (simp; omega))))) Pb00.out)
    have t : w4.cell? ⟨w.heap.size, 0, none⟩ = some (.int .i64 pd0) ∧ w4.cell? ⟨w.heap.size, 1, none⟩ = some (.int .i64 pf0) ∧ w4.cell? ⟨w.heap.size, 2, none⟩ = some (.int .i64 pl0) ∧ w4.cell? ⟨w.heap.size, 3, none⟩ = some (.slice A0 n0 c0) := by (((try dsimp only); (repeat' apply And.intro) <;> (repeat (first | with_reducible assumption | (with_reducible refine keep_drew ?_) | (with_reducible refine keep_drewN ?_) | ((with_reducible refine keep_new _ _ _ _ _ _ ?_ ?_) <;> (first | rfl | (simp; done) | omega)) | (with_reducible refine keep_alloc _ ?_) | ((with_reducible refine keep_set _ ?_ ?_); (focus first | omega | (simp; done) | (simp; omega))) | ((with_reducible refine keep_set' _ ?_ ?_); (focus first | omega | (simp; done))) | ((with_reducible refine keep_same (u := ?_) _ ?_); rotate_left) | ((with_reducible refine keep_below (w := ?_) ?_ ?_); rotate_left; (with_reducible assumption))))))
    have u : w4.cell? ⟨w30.heap.size, 0, none⟩ = some (.int .i64 pd0) ∧ w4.cell? ⟨w30.heap.size, 1, none⟩ = some (.int .i64 pf0) ∧ w4.cell? ⟨w30.heap.size, 2, none⟩ = some (.int .i64 pl0) ∧ w4.cell? ⟨w30.heap.size, 3, none⟩ = some (.slice (some ⟨g0b, 0, none⟩) n0 n0) := by (((try dsimp only); (repeat' apply And.intro) <;> (repeat (first | with_reducible assumption | (with_reducible refine keep_drew ?_) | (with_reducible refine keep_drewN ?_) | ((with_reducible refine keep_new _ _ _ _ _ _ ?_ ?_) <;> (first | rfl | (simp; done) | omega)) | (with_reducible refine keep_alloc _ ?_) | ((with_reducible refine keep_set _ ?_ ?_); (focus first | omega | (simp; done) | (simp; omega))) | ((with_reducible refine keep_set' _ ?_ ?_); (focus first | omega | (simp; done))) | ((with_reducible refine keep_same (u := ?_) _ ?_); rotate_left) | ((with_reducible refine keep_below (w := ?_) ?_ ?_); rotate_left; (with_reducible assumption))))))
    have B4 : Below w.heap.size w w4 := (by repeat (first | with_reducible exact Below.refl _ _ | with_reducible assumption | (with_reducible refine Below.drew ?_) | (with_reducible refine below_drewN ?_ _) | ((with_reducible refine Below.alloc ?_ ?_ _); rotate_left; (focus first | exact Nat.le_refl _ | omega | (simp; done) | (simp; omega))) | ((with_reducible refine Below.setCell ?_ ?_ _); rotate_left; (focus first | exact Nat.le_refl _ | omega | (simp; done) | (simp; omega))) | ((with_reducible refine below_via (W := ?_) ?_ ?_ ?_); rotate_left; (with_reducible assumption); rotate_left; (focus first | exact Nat.le_refl _ | omega | (simp; done) | (simp; omega)))))
    have z4 := B4.size
    (try clear hc4 hf4)
    clear hb4 s4 Pb00
    (try clear t0 t1 t2 t3)
    (try clear u0 u1 u2 u3)
    obtain ⟨t0, t1, t2, t3⟩ := t
    obtain ⟨u0, u1, u2, u3⟩ := u
    clear B2
    go_wp2_with fail
    go_region_held3 (fun w' => w'.cell? ⟨w.heap.size, 0, none⟩ = some (.int .i64 pd0) ∧ w'.cell? ⟨w.heap.size, 1, none⟩ = some (.int .i64 pf0) ∧ w'.cell? ⟨w.heap.size, 2, none⟩ = some (.int .i64 pl0) ∧ w'.cell? ⟨w.heap.size, 3, none⟩ = some (.slice A0 n0 c0) ∧ w'.cell? ⟨w30.heap.size, 0, none⟩ = some (.int .i64 pd0) ∧ w'.cell? ⟨w30.heap.size, 1, none⟩ = some (.int .i64 pf0) ∧ w'.cell? ⟨w30.heap.size, 2, none⟩ = some (.int .i64 pl0) ∧ w'.cell? ⟨w30.heap.size, 3, none⟩ = some (.slice (some ⟨g0b, 0, none⟩) n0 n0)) ((((try dsimp only); (repeat' apply And.intro) <;> (repeat (first | with_reducible assumption | (with_reducible refine keep_drew ?_) | (with_reducible refine keep_drewN ?_) | ((with_reducible refine keep_new _ _ _ _ _ _ ?_ ?_) <;> (first | rfl | (simp; done) | omega)) | (with_reducible refine keep_alloc _ ?_) | ((with_reducible refine keep_set _ ?_ ?_); (focus first | omega | (simp; done) | (simp; omega))) | ((with_reducible refine keep_set' _ ?_ ?_); (focus first | omega | (simp; done))) | ((with_reducible refine keep_same (u := ?_) _ ?_); rotate_left) | ((with_reducible refine keep_below (w := ?_) ?_ ?_); rotate_left; (with_reducible assumption)))))))
      (first | (go_at_call 17; (with_reducible refine (TT0.out _ (by repeat (first | with_reducible exact Below.refl _ _ | with_reducible assumption | (with_reducible refine Below.drew ?_) | (with_reducible refine below_drewN ?_ _) | ((with_reducible refine Below.alloc ?_ ?_ _); rotate_left; (focus first | exact Nat.le_refl _ | omega | (simp; done) | (simp; omega))) | ((with_reducible refine Below.setCell ?_ ?_ _); rotate_left; (focus first | exact Nat.le_refl _ | omega | (simp; done) | (simp; omega))) | ((with_reducible refine below_via (W := ?_) ?_ ?_ ?_); rotate_left; (with_reducible assumption); rotate_left; (focus first | exact Nat.le_refl _ | omega | (simp; done) | (simp; omega)))))).mono ?_); rintro e wc0 ⟨g0c, rfl, o0, hbc0⟩; obtain ⟨hcc0, hfc0⟩ := bcell hbc0; have Pc00 := Lib.hid o0.rd; clear o0; have sc0 := hbc0.size; (try simp at sc0)) | (go_at_call 19; (with_reducible refine (eqProfile pd0 pf0 pl0 _ _ n0 _ _ hs0 _ (Rd.below (by repeat (first | with_reducible exact Below.refl _ _ | with_reducible assumption | (with_reducible refine Below.drew ?_) | (with_reducible refine below_drewN ?_ _) | ((with_reducible refine Below.alloc ?_ ?_ _); rotate_left; (focus first | exact Nat.le_refl _ | omega | (simp; done) | (simp; omega))) | ((with_reducible refine Below.setCell ?_ ?_ _); rotate_left; (focus first | exact Nat.le_refl _ | omega | (simp; done) | (simp; omega))) | ((with_reducible refine below_via (W := ?_) ?_ ?_ ?_); rotate_left; (with_reducible assumption); rotate_left; (focus first | exact Nat.le_refl _ | omega | (simp; done) | (simp; omega))))) Q00.out) (Rd.below (by repeat (first | with_reducible exact Below.refl _ _ | with_reducible assumption | (with_reducible refine Below.drew ?_) | (with_reducible refine below_drewN ?_ _) | ((with_reducible refine Below.alloc ?_ ?_ _); rotate_left; (focus first | exact Nat.le_refl _ | omega | (simp; done) | (simp; omega))) | ((with_reducible refine Below.setCell ?_ ?_ _); rotate_left; (focus first | exact Nat.le_refl _ | omega | (simp; done) | (simp; omega))) | ((with_reducible refine below_via (W := ?_) ?_ ?_ ?_); rotate_left; (with_reducible assumption); rotate_left; (focus first | exact Nat.le_refl _ | omega | (simp; done) | (simp; omega))))) Pc00.out) knn0).mono ?_); rintro e w60 ⟨rfl, hb60⟩; have s60 := hb60.size; (try simp at s60)))
    all_goals (go_wp2_with fail; go_ret; exact ⟨rfl, (by repeat (first | with_reducible exact Below.refl _ _ | with_reducible assumption | (with_reducible refine Below.drew ?_) | (with_reducible refine below_drewN ?_ _) | ((with_reducible refine Below.alloc ?_ ?_ _); rotate_left; (focus first | exact Nat.le_refl _ | omega | (simp; done) | (simp; omega))) | ((with_reducible refine Below.setCell ?_ ?_ _); rotate_left; (focus first | exact Nat.le_refl _ | omega | (simp; done) | (simp; omega))) | ((with_reducible refine below_via (W := ?_) ?_ ?_ ?_); rotate_left; (with_reducible assumption); rotate_left; (focus first | exact Nat.le_refl _ | omega | (simp; done) | (simp; omega)))))⟩)
  · have q0 := szG_no hsz0
    have b0 : szG (n0) 1048576 < 0 := by omega
    have Z0 := Lib.hid (fun w => szProfile pd0 pf0 pl0 A0 n0 c0 1048576 w knn0 (by omega))
    clear raA0 q0
    go_enter Try.func6, Try.ntmps6
    go_wp2_with fail
    refine (Z0.out _).mono ?_
    rintro e w' ⟨rfl, rfl⟩
    go_wp2_with fail
    go_ret
    exact ⟨rfl, (by repeat (first | with_reducible exact Below.refl _ _ | with_reducible assumption | (with_reducible refine Below.drew ?_) | (with_reducible refine below_drewN ?_ _) | ((with_reducible refine Below.alloc ?_ ?_ _); rotate_left; (focus first | exact Nat.le_refl _ | omega | (simp; done) | (simp; omega))) | ((with_reducible refine Below.setCell ?_ ?_ _); rotate_left; (focus first | exact Nat.le_refl _ | omega | (simp; done) | (simp; omega))) | ((with_reducible refine below_via (W := ?_) ?_ ?_ ?_); rotate_left; (with_reducible assumption); rotate_left; (focus first | exact Nat.le_refl _ | omega | (simp; done) | (simp; omega)))))⟩

theorem law (pd0 : Int) (pf0 : Int) (pl0 : Int) (A0 : Option Addr) (n0 c0 : Nat) (hs0 : List Int) (w : World) (raA0 : Rd w A0 n0 hs0) (knn0 : n0 ≤ maxLen) :
    Calls Try.prog 6 #[.agg #[.int .i64 pd0, .int .i64 pf0, .int .i64 pl0, .slice A0 n0 c0]] w fun e w' => e = .returned (.bool true) ∧ Below w.heap.size w w' :=
  frame pd0 pf0 pl0 A0 n0 c0 hs0 _ w raA0 knn0
    (fun W g ra => specProfV pd0 pf0 pl0 _ n0 _ hs0 W ra knn0)
    (fun W g ra => implProf pd0 pf0 pl0 _ n0 _ hs0 W ra knn0)

end Go.Proofs.Ytgondkjephojjaa.LawValidProfile
