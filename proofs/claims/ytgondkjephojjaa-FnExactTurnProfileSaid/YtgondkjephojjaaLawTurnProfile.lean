/- The walk of the law FnExactTurnProfile over whatever the two functions give. Printed by a program (mklaw2.py). -/
import Derived.Test.YtgondkjephojjaaWalkX
import Derived.Test.YtgondkjephojjaaWalkK
import Derived.Test.YtgondkjephojjaaWalkQ
import Derived.Test.YtgondkjephojjaaWalkRE
import Derived.Test.YtgondkjephojjaaWalkTP
import Derived.Test.YtgondkjephojjaaWalkTQ
import Derived.Deep.RegionHeld3
namespace Go.Proofs.Ytgondkjephojjaa.LawTurnProfile
open Go Go.RowKit Go.Proofs.Ytgondkjephojjaa.Base Go.Proofs.Ytgondkjephojjaa.Plain Go.Proofs.Ytgondkjephojjaa.Words Go.Proofs.Ytgondkjephojjaa.Ints Go.Proofs.Ytgondkjephojjaa.WalkN Go.Proofs.Ytgondkjephojjaa.WalkP Go.Proofs.Ytgondkjephojjaa.WalkI Go.Proofs.Ytgondkjephojjaa.WalkX Go.Proofs.Ytgondkjephojjaa.WalkK Go.Proofs.Ytgondkjephojjaa.WalkQ Go.Proofs.Ytgondkjephojjaa.WalkRE Go.Proofs.Ytgondkjephojjaa.WalkTP Go.Proofs.Ytgondkjephojjaa.WalkTQ
set_option linter.unusedVariables false
set_option linter.unusedSimpArgs false
set_option maxRecDepth 100000 in
set_option maxHeartbeats 8000000 in
theorem frame (pd0 : Int) (pf0 : Int) (pl0 : Int) (A0 : Option Addr) (n0 c0 : Nat) (hs0 : List Int) (R0 : Int) (R1 : Int) (R2 : Int) (N : Nat) (Z : List Int) (C : Int) (w : World) (raA0 : Rd w A0 n0 hs0) (knn0 : n0 ≤ maxLen) (bN : N ≤ 1048576)
    (SP0 : ∀ (W : World) (g0 : Nat), Rd W (some ⟨g0, 0, none⟩) n0 hs0 → Calls Try.prog 45 #[.agg #[.int .i64 pd0, .int .i64 pf0, .int .i64 pl0, .slice (some ⟨g0, 0, none⟩) n0 n0]] W fun e w' => ∃ (P : Option Addr) (p : Nat), e = .returned (.tuple #[.agg #[.int .i64 R0, .int .i64 R1, .int .i64 R2, .slice P N p], .int .i64 C]) ∧ Ow w' W.heap.size P N p Z ∧ Below W.heap.size W w')
    (IM0 : ∀ (W : World) (g0 : Nat), Rd W (some ⟨g0, 0, none⟩) n0 hs0 → Calls Try.prog 46 #[.agg #[.int .i64 pd0, .int .i64 pf0, .int .i64 pl0, .slice (some ⟨g0, 0, none⟩) n0 n0]] W fun e w' => ∃ (P : Option Addr) (p : Nat), e = .returned (.tuple #[.agg #[.int .i64 R0, .int .i64 R1, .int .i64 R2, .slice P N p], .int .i64 C]) ∧ Ow w' W.heap.size P N p Z ∧ Below W.heap.size W w') :
    Calls Try.prog 12 #[.agg #[.int .i64 pd0, .int .i64 pf0, .int .i64 pl0, .slice A0 n0 c0]] w fun e w' => e = .returned (.bool true) ∧ Below w.heap.size w w' := by
  have SP := Lib.hid SP0
  have IM := Lib.hid IM0
  clear SP0 IM0
  have mN : N ≤ maxLen := by unfold maxLen; omega
  by_cases hsz : ((n0 : Nat) : Int) ≤ 1048576
  · skip
    obtain ⟨L0, hL0⟩ : ∃ L, szG (n0) 1048576 = L := ⟨_, rfl⟩
    have q0 := szG_yes hsz
    have b0 : 0 ≤ L0 ∧ L0 ≤ 1048576 := by omega
    have Z0 := Lib.hid (fun w => szProfile pd0 pf0 pl0 A0 n0 c0 1048576 w knn0 (by omega))
    rw [hL0] at Z0
    have TT := Lib.hid (fun W (hb : Below w.heap.size w W) => toProfile pd0 pf0 pl0 A0 n0 c0 hs0 W (Rd.below hb raA0) (by omega))
    clear raA0 q0 hL0
    go_enter Try.func12, Try.ntmps12
    go_wp2_with fail
    refine (Z0.out _).mono ?_
    rintro e w' ⟨rfl, rfl⟩
    go_wp2_with fail
    refine (TT.out _ (by repeat (first | with_reducible exact Below.refl _ _ | with_reducible assumption | (with_reducible refine Below.drew ?_) | (with_reducible refine below_drewN ?_ _) | ((with_reducible refine Below.alloc ?_ ?_ _); rotate_left; (focus first | exact Nat.le_refl _ | omega | (simp; done) | (simp; omega))) | ((with_reducible refine Below.setCell ?_ ?_ _); rotate_left; (focus first | exact Nat.le_refl _ | omega | (simp; done) | (simp; omega))) | ((with_reducible refine below_via (W := ?_) ?_ ?_ ?_); rotate_left; (with_reducible assumption); rotate_left; (focus first | exact Nat.le_refl _ | omega | (simp; done) | (simp; omega)))))).mono ?_
    rintro e wta ⟨g0a, rfl, o0, hba⟩
    have sa := hba.size
    (try simp at sa)
    have Pa0 := Lib.hid o0.rd
    clear o0
    go_wp2_with fail
    refine (SP.out _ g0a (Rd.below (by repeat (first | with_reducible exact Below.refl _ _ | with_reducible assumption | (with_reducible refine Below.drew ?_) | (with_reducible refine below_drewN ?_ _) | ((with_reducible refine Below.alloc ?_ ?_ _); rotate_left; (focus first | exact Nat.le_refl _ | omega | (simp; done) | (simp; omega))) | ((with_reducible refine Below.setCell ?_ ?_ _); rotate_left; (focus first | exact Nat.le_refl _ | omega | (simp; done) | (simp; omega))) | ((with_reducible refine below_via (W := ?_) ?_ ?_ ?_); rotate_left; (with_reducible assumption); rotate_left; (focus first | exact Nat.le_refl _ | omega | (simp; done) | (simp; omega))))) Pa0.out)).mono ?_
    rintro e w2 ⟨Pw, pw, rfl, ow0, hbw2⟩
    have sw2 := hbw2.size
    (try simp at sw2)
    have t_ : w2.cell? ⟨w.heap.size, 0, none⟩ = some (.int .i64 pd0) ∧ w2.cell? ⟨w.heap.size, 1, none⟩ = some (.int .i64 pf0) ∧ w2.cell? ⟨w.heap.size, 2, none⟩ = some (.int .i64 pl0) ∧ w2.cell? ⟨w.heap.size, 3, none⟩ = some (.slice A0 n0 c0) := by (((try dsimp only); (repeat' apply And.intro) <;> (repeat (first | with_reducible assumption | (with_reducible refine keep_drew ?_) | (with_reducible refine keep_drewN ?_) | ((with_reducible refine keep_new _ _ _ _ _ _ ?_ ?_) <;> (first | rfl | (simp; done) | omega)) | (with_reducible refine keep_alloc _ ?_) | ((with_reducible refine keep_set _ ?_ ?_); (focus first | omega | (simp; done) | (simp; omega))) | ((with_reducible refine keep_set' _ ?_ ?_); (focus first | omega | (simp; done))) | ((with_reducible refine keep_same (u := ?_) _ ?_); rotate_left) | ((with_reducible refine keep_setA _ ?_ ?_); (focus first | omega | (simp; done) | (simp; omega))) | ((with_reducible refine keep_below (w := ?_) ?_ ?_); rotate_left; (with_reducible assumption))))))
    have B2 : Below w.heap.size w w2 := (by repeat (first | with_reducible exact Below.refl _ _ | with_reducible assumption | (with_reducible refine Below.drew ?_) | (with_reducible refine below_drewN ?_ _) | ((with_reducible refine Below.alloc ?_ ?_ _); rotate_left; (focus first | exact Nat.le_refl _ | omega | (simp; done) | (simp; omega))) | ((with_reducible refine Below.setCell ?_ ?_ _); rotate_left; (focus first | exact Nat.le_refl _ | omega | (simp; done) | (simp; omega))) | ((with_reducible refine below_via (W := ?_) ?_ ?_ ?_); rotate_left; (with_reducible assumption); rotate_left; (focus first | exact Nat.le_refl _ | omega | (simp; done) | (simp; omega)))))
    have WB0 : ∀ a, Pw = some a → a.block < w2.heap.size := fun a ha => (ow0.block ha).2
    have Ow0 := Lib.hid ow0
    clear ow0
    (try clear hc2 hf2 hcw2 hfw2 hca hfa)
    clear hbw2 sw2 hba sa
    (try clear Pa0)
    have z2 := B2.size
    (try clear t0 t1 t2 t3)
    obtain ⟨t0, t1, t2, t3⟩ := t_
    have y20 : w.heap.size < w2.heap.size := World.block_lt_of_cell? _ _ t0
    go_wp2_with fail
    refine (TT.out _ (by repeat (first | with_reducible exact Below.refl _ _ | with_reducible assumption | (with_reducible refine Below.drew ?_) | (with_reducible refine below_drewN ?_ _) | ((with_reducible refine Below.alloc ?_ ?_ _); rotate_left; (focus first | exact Nat.le_refl _ | omega | (simp; done) | (simp; omega))) | ((with_reducible refine Below.setCell ?_ ?_ _); rotate_left; (focus first | exact Nat.le_refl _ | omega | (simp; done) | (simp; omega))) | ((with_reducible refine below_via (W := ?_) ?_ ?_ ?_); rotate_left; (with_reducible assumption); rotate_left; (focus first | exact Nat.le_refl _ | omega | (simp; done) | (simp; omega)))))).mono ?_
    rintro e w3 ⟨g0b, rfl, o0, hbb⟩
    have sb := hbb.size
    (try simp at sb)
    have X0 := Lib.hid o0
    clear o0
    have N0 : Hid (Ow w3 _ _ _ _ _) := Lib.hid (Ow.below (by repeat (first | with_reducible exact Below.refl _ _ | with_reducible assumption | (with_reducible refine Below.drew ?_) | (with_reducible refine below_drewN ?_ _) | ((with_reducible refine Below.alloc ?_ ?_ _); rotate_left; (focus first | exact Nat.le_refl _ | omega | (simp; done) | (simp; omega))) | ((with_reducible refine Below.setCell ?_ ?_ _); rotate_left; (focus first | exact Nat.le_refl _ | omega | (simp; done) | (simp; omega))) | ((with_reducible refine below_via (W := ?_) ?_ ?_ ?_); rotate_left; (with_reducible assumption); rotate_left; (focus first | exact Nat.le_refl _ | omega | (simp; done) | (simp; omega))))) Ow0.out)
    clear Ow0
    have Ow0 := N0
    clear N0
    have t_ : w3.cell? ⟨w.heap.size, 0, none⟩ = some (.int .i64 pd0) ∧ w3.cell? ⟨w.heap.size, 1, none⟩ = some (.int .i64 pf0) ∧ w3.cell? ⟨w.heap.size, 2, none⟩ = some (.int .i64 pl0) ∧ w3.cell? ⟨w.heap.size, 3, none⟩ = some (.slice A0 n0 c0) := by (((try dsimp only); (repeat' apply And.intro) <;> (repeat (first | with_reducible assumption | (with_reducible refine keep_drew ?_) | (with_reducible refine keep_drewN ?_) | ((with_reducible refine keep_new _ _ _ _ _ _ ?_ ?_) <;> (first | rfl | (simp; done) | omega)) | (with_reducible refine keep_alloc _ ?_) | ((with_reducible refine keep_set _ ?_ ?_); (focus first | omega | (simp; done) | (simp; omega))) | ((with_reducible refine keep_set' _ ?_ ?_); (focus first | omega | (simp; done))) | ((with_reducible refine keep_same (u := ?_) _ ?_); rotate_left) | ((with_reducible refine keep_setA _ ?_ ?_); (focus first | omega | (simp; done) | (simp; omega))) | ((with_reducible refine keep_below (w := ?_) ?_ ?_); rotate_left; (with_reducible assumption))))))
    have u_ : w3.cell? ⟨w2.heap.size, 0, none⟩ = some (.int .i64 R0) ∧ w3.cell? ⟨w2.heap.size, 1, none⟩ = some (.int .i64 R1) ∧ w3.cell? ⟨w2.heap.size, 2, none⟩ = some (.int .i64 R2) ∧ w3.cell? ⟨w2.heap.size, 3, none⟩ = some (.slice Pw N pw) := by (((try dsimp only); (repeat' apply And.intro) <;> (repeat (first | with_reducible assumption | (with_reducible refine keep_drew ?_) | (with_reducible refine keep_drewN ?_) | ((with_reducible refine keep_new _ _ _ _ _ _ ?_ ?_) <;> (first | rfl | (simp; done) | omega)) | (with_reducible refine keep_alloc _ ?_) | ((with_reducible refine keep_set _ ?_ ?_); (focus first | omega | (simp; done) | (simp; omega))) | ((with_reducible refine keep_set' _ ?_ ?_); (focus first | omega | (simp; done))) | ((with_reducible refine keep_same (u := ?_) _ ?_); rotate_left) | ((with_reducible refine keep_setA _ ?_ ?_); (focus first | omega | (simp; done) | (simp; omega))) | ((with_reducible refine keep_below (w := ?_) ?_ ?_); rotate_left; (with_reducible assumption))))))
    have B3 : Below w.heap.size w w3 := (by repeat (first | with_reducible exact Below.refl _ _ | with_reducible assumption | (with_reducible refine Below.drew ?_) | (with_reducible refine below_drewN ?_ _) | ((with_reducible refine Below.alloc ?_ ?_ _); rotate_left; (focus first | exact Nat.le_refl _ | omega | (simp; done) | (simp; omega))) | ((with_reducible refine Below.setCell ?_ ?_ _); rotate_left; (focus first | exact Nat.le_refl _ | omega | (simp; done) | (simp; omega))) | ((with_reducible refine below_via (W := ?_) ?_ ?_ ?_); rotate_left; (with_reducible assumption); rotate_left; (focus first | exact Nat.le_refl _ | omega | (simp; done) | (simp; omega)))))
    clear hbb B2
    have B2 := B3
    clear B3
    (try clear t0 t1 t2 t3)
    obtain ⟨t0, t1, t2, t3⟩ := t_
    (try clear u0 u1 u2 u3)
    obtain ⟨u0, u1, u2, u3⟩ := u_
    have y3 : w2.heap.size < w3.heap.size := World.block_lt_of_cell? _ _ u0
    have y30 : w.heap.size < w3.heap.size := by omega
    go_wp2_with fail
    refine (IM.out _ g0b (Rd.below (by repeat (first | with_reducible exact Below.refl _ _ | with_reducible assumption | (with_reducible refine Below.drew ?_) | (with_reducible refine below_drewN ?_ _) | ((with_reducible refine Below.alloc ?_ ?_ _); rotate_left; (focus first | exact Nat.le_refl _ | omega | (simp; done) | (simp; omega))) | ((with_reducible refine Below.setCell ?_ ?_ _); rotate_left; (focus first | exact Nat.le_refl _ | omega | (simp; done) | (simp; omega))) | ((with_reducible refine below_via (W := ?_) ?_ ?_ ?_); rotate_left; (with_reducible assumption); rotate_left; (focus first | exact Nat.le_refl _ | omega | (simp; done) | (simp; omega))))) X0.out.rd)).mono ?_
    rintro e w4 ⟨Pg, pg, rfl, og0, hbw4⟩
    have sw4 := hbw4.size
    (try simp at sw4)
    have Og0 := Lib.hid og0
    clear og0
    have N0 : Hid (Ow w4 _ _ _ _ _) := Lib.hid (Ow.below (by repeat (first | with_reducible exact Below.refl _ _ | with_reducible assumption | (with_reducible refine Below.drew ?_) | (with_reducible refine below_drewN ?_ _) | ((with_reducible refine Below.alloc ?_ ?_ _); rotate_left; (focus first | exact Nat.le_refl _ | omega | (simp; done) | (simp; omega))) | ((with_reducible refine Below.setCell ?_ ?_ _); rotate_left; (focus first | exact Nat.le_refl _ | omega | (simp; done) | (simp; omega))) | ((with_reducible refine below_via (W := ?_) ?_ ?_ ?_); rotate_left; (with_reducible assumption); rotate_left; (focus first | exact Nat.le_refl _ | omega | (simp; done) | (simp; omega))))) Ow0.out)
    clear Ow0
    have Ow0 := N0
    clear N0
    have N0 : Hid (Ow w4 _ _ _ _ _) := Lib.hid (Ow.below (by repeat (first | with_reducible exact Below.refl _ _ | with_reducible assumption | (with_reducible refine Below.drew ?_) | (with_reducible refine below_drewN ?_ _) | ((with_reducible refine Below.alloc ?_ ?_ _); rotate_left; (focus first | exact Nat.le_refl _ | omega | (simp; done) | (simp; omega))) | ((with_reducible refine Below.setCell ?_ ?_ _); rotate_left; (focus first | exact Nat.le_refl _ | omega | (simp; done) | (simp; omega))) | ((with_reducible refine below_via (W := ?_) ?_ ?_ ?_); rotate_left; (with_reducible assumption); rotate_left; (focus first | exact Nat.le_refl _ | omega | (simp; done) | (simp; omega))))) X0.out)
    have AX0 := Lib.hid (Ap.of_lt X0.out Og0.out (by simp))
    have XB0 : g0b < w3.heap.size ∧ w2.heap.size < g0b := by have h := X0.out.lt; simp at h; omega
    clear X0
    have X0 := N0
    clear N0
    have t_ : w4.cell? ⟨w.heap.size, 0, none⟩ = some (.int .i64 pd0) ∧ w4.cell? ⟨w.heap.size, 1, none⟩ = some (.int .i64 pf0) ∧ w4.cell? ⟨w.heap.size, 2, none⟩ = some (.int .i64 pl0) ∧ w4.cell? ⟨w.heap.size, 3, none⟩ = some (.slice A0 n0 c0) := by (((try dsimp only); (repeat' apply And.intro) <;> (repeat (first | with_reducible assumption | (with_reducible refine keep_drew ?_) | (with_reducible refine keep_drewN ?_) | ((with_reducible refine keep_new _ _ _ _ _ _ ?_ ?_) <;> (first | rfl | (simp; done) | omega)) | (with_reducible refine keep_alloc _ ?_) | ((with_reducible refine keep_set _ ?_ ?_); (focus first | omega | (simp; done) | (simp; omega))) | ((with_reducible refine keep_set' _ ?_ ?_); (focus first | omega | (simp; done))) | ((with_reducible refine keep_same (u := ?_) _ ?_); rotate_left) | ((with_reducible refine keep_setA _ ?_ ?_); (focus first | omega | (simp; done) | (simp; omega))) | ((with_reducible refine keep_below (w := ?_) ?_ ?_); rotate_left; (with_reducible assumption))))))
    have u_ : w4.cell? ⟨w2.heap.size, 0, none⟩ = some (.int .i64 R0) ∧ w4.cell? ⟨w2.heap.size, 1, none⟩ = some (.int .i64 R1) ∧ w4.cell? ⟨w2.heap.size, 2, none⟩ = some (.int .i64 R2) ∧ w4.cell? ⟨w2.heap.size, 3, none⟩ = some (.slice Pw N pw) := by (((try dsimp only); (repeat' apply And.intro) <;> (repeat (first | with_reducible assumption | (with_reducible refine keep_drew ?_) | (with_reducible refine keep_drewN ?_) | ((with_reducible refine keep_new _ _ _ _ _ _ ?_ ?_) <;> (first | rfl | (simp; done) | omega)) | (with_reducible refine keep_alloc _ ?_) | ((with_reducible refine keep_set _ ?_ ?_); (focus first | omega | (simp; done) | (simp; omega))) | ((with_reducible refine keep_set' _ ?_ ?_); (focus first | omega | (simp; done))) | ((with_reducible refine keep_same (u := ?_) _ ?_); rotate_left) | ((with_reducible refine keep_setA _ ?_ ?_); (focus first | omega | (simp; done) | (simp; omega))) | ((with_reducible refine keep_below (w := ?_) ?_ ?_); rotate_left; (with_reducible assumption))))))
    have v_ : w4.cell? ⟨w3.heap.size, 0, none⟩ = some (.int .i64 pd0) ∧ w4.cell? ⟨w3.heap.size, 1, none⟩ = some (.int .i64 pf0) ∧ w4.cell? ⟨w3.heap.size, 2, none⟩ = some (.int .i64 pl0) ∧ w4.cell? ⟨w3.heap.size, 3, none⟩ = some (.slice (some ⟨g0b, 0, none⟩) n0 n0) := by (((try dsimp only); (repeat' apply And.intro) <;> (repeat (first | with_reducible assumption | (with_reducible refine keep_drew ?_) | (with_reducible refine keep_drewN ?_) | ((with_reducible refine keep_new _ _ _ _ _ _ ?_ ?_) <;> (first | rfl | (simp; done) | omega)) | (with_reducible refine keep_alloc _ ?_) | ((with_reducible refine keep_set _ ?_ ?_); (focus first | omega | (simp; done) | (simp; omega))) | ((with_reducible refine keep_set' _ ?_ ?_); (focus first | omega | (simp; done))) | ((with_reducible refine keep_same (u := ?_) _ ?_); rotate_left) | ((with_reducible refine keep_setA _ ?_ ?_); (focus first | omega | (simp; done) | (simp; omega))) | ((with_reducible refine keep_below (w := ?_) ?_ ?_); rotate_left; (with_reducible assumption))))))
    have B3 : Below w.heap.size w w4 := (by repeat (first | with_reducible exact Below.refl _ _ | with_reducible assumption | (with_reducible refine Below.drew ?_) | (with_reducible refine below_drewN ?_ _) | ((with_reducible refine Below.alloc ?_ ?_ _); rotate_left; (focus first | exact Nat.le_refl _ | omega | (simp; done) | (simp; omega))) | ((with_reducible refine Below.setCell ?_ ?_ _); rotate_left; (focus first | exact Nat.le_refl _ | omega | (simp; done) | (simp; omega))) | ((with_reducible refine below_via (W := ?_) ?_ ?_ ?_); rotate_left; (with_reducible assumption); rotate_left; (focus first | exact Nat.le_refl _ | omega | (simp; done) | (simp; omega)))))
    (try clear hcw4 hfw4 hc2 hf2)
    clear hbw4 B2
    have B2 := B3
    clear B3
    (try clear t0 t1 t2 t3)
    obtain ⟨t0, t1, t2, t3⟩ := t_
    (try clear u0 u1 u2 u3)
    obtain ⟨u0, u1, u2, u3⟩ := u_
    (try clear v0 v1 v2 v3)
    obtain ⟨v0, v1, v2, v3⟩ := v_
    have y4 : w2.heap.size < w4.heap.size := World.block_lt_of_cell? _ _ u0
    have y4' : w3.heap.size < w4.heap.size := World.block_lt_of_cell? _ _ v0
    have y40 : w.heap.size < w4.heap.size := by omega
    have GB0 : ∀ a, Pg = some a → w3.heap.size < a.block ∧ a.block < w4.heap.size := fun a ha => by have h := Og0.out.block ha; simp at h; omega
    go_wp2_with fail
    refine (eqProfile R0 R1 R2 _ _ N _ _ Z _ (Rd.below (by repeat (first | with_reducible exact Below.refl _ _ | with_reducible assumption | (with_reducible refine Below.drew ?_) | (with_reducible refine below_drewN ?_ _) | ((with_reducible refine Below.alloc ?_ ?_ _); rotate_left; (focus first | exact Nat.le_refl _ | omega | (simp; done) | (simp; omega))) | ((with_reducible refine Below.setCell ?_ ?_ _); rotate_left; (focus first | exact Nat.le_refl _ | omega | (simp; done) | (simp; omega))) | ((with_reducible refine below_via (W := ?_) ?_ ?_ ?_); rotate_left; (with_reducible assumption); rotate_left; (focus first | exact Nat.le_refl _ | omega | (simp; done) | (simp; omega))))) Og0.out.rd) (Rd.below (by repeat (first | with_reducible exact Below.refl _ _ | with_reducible assumption | (with_reducible refine Below.drew ?_) | (with_reducible refine below_drewN ?_ _) | ((with_reducible refine Below.alloc ?_ ?_ _); rotate_left; (focus first | exact Nat.le_refl _ | omega | (simp; done) | (simp; omega))) | ((with_reducible refine Below.setCell ?_ ?_ _); rotate_left; (focus first | exact Nat.le_refl _ | omega | (simp; done) | (simp; omega))) | ((with_reducible refine below_via (W := ?_) ?_ ?_ ?_); rotate_left; (with_reducible assumption); rotate_left; (focus first | exact Nat.le_refl _ | omega | (simp; done) | (simp; omega))))) Ow0.out.rd) mN).mono ?_
    rintro e w5 ⟨rfl, hbz⟩
    have sz := hbz.size
    (try simp at sz)
    have N0 : Hid (Ow w5 _ _ _ _ _) := Lib.hid (Ow.below (by repeat (first | with_reducible exact Below.refl _ _ | with_reducible assumption | (with_reducible refine Below.drew ?_) | (with_reducible refine below_drewN ?_ _) | ((with_reducible refine Below.alloc ?_ ?_ _); rotate_left; (focus first | exact Nat.le_refl _ | omega | (simp; done) | (simp; omega))) | ((with_reducible refine Below.setCell ?_ ?_ _); rotate_left; (focus first | exact Nat.le_refl _ | omega | (simp; done) | (simp; omega))) | ((with_reducible refine below_via (W := ?_) ?_ ?_ ?_); rotate_left; (with_reducible assumption); rotate_left; (focus first | exact Nat.le_refl _ | omega | (simp; done) | (simp; omega))))) Ow0.out)
    clear Ow0
    have Ow0 := N0
    clear N0
    have N0 : Hid (Ow w5 _ _ _ _ _) := Lib.hid (Ow.below (by repeat (first | with_reducible exact Below.refl _ _ | with_reducible assumption | (with_reducible refine Below.drew ?_) | (with_reducible refine below_drewN ?_ _) | ((with_reducible refine Below.alloc ?_ ?_ _); rotate_left; (focus first | exact Nat.le_refl _ | omega | (simp; done) | (simp; omega))) | ((with_reducible refine Below.setCell ?_ ?_ _); rotate_left; (focus first | exact Nat.le_refl _ | omega | (simp; done) | (simp; omega))) | ((with_reducible refine below_via (W := ?_) ?_ ?_ ?_); rotate_left; (with_reducible assumption); rotate_left; (focus first | exact Nat.le_refl _ | omega | (simp; done) | (simp; omega))))) Og0.out)
    clear Og0
    have Og0 := N0
    clear N0
    have N0 : Hid (Ow w5 _ _ _ _ _) := Lib.hid (Ow.below (by repeat (first | with_reducible exact Below.refl _ _ | with_reducible assumption | (with_reducible refine Below.drew ?_) | (with_reducible refine below_drewN ?_ _) | ((with_reducible refine Below.alloc ?_ ?_ _); rotate_left; (focus first | exact Nat.le_refl _ | omega | (simp; done) | (simp; omega))) | ((with_reducible refine Below.setCell ?_ ?_ _); rotate_left; (focus first | exact Nat.le_refl _ | omega | (simp; done) | (simp; omega))) | ((with_reducible refine below_via (W := ?_) ?_ ?_ ?_); rotate_left; (with_reducible assumption); rotate_left; (focus first | exact Nat.le_refl _ | omega | (simp; done) | (simp; omega))))) X0.out)
    clear X0
    have X0 := N0
    clear N0
    have t_ : w5.cell? ⟨w.heap.size, 0, none⟩ = some (.int .i64 pd0) ∧ w5.cell? ⟨w.heap.size, 1, none⟩ = some (.int .i64 pf0) ∧ w5.cell? ⟨w.heap.size, 2, none⟩ = some (.int .i64 pl0) ∧ w5.cell? ⟨w.heap.size, 3, none⟩ = some (.slice A0 n0 c0) := by (((try dsimp only); (repeat' apply And.intro) <;> (repeat (first | with_reducible assumption | (with_reducible refine keep_drew ?_) | (with_reducible refine keep_drewN ?_) | ((with_reducible refine keep_new _ _ _ _ _ _ ?_ ?_) <;> (first | rfl | (simp; done) | omega)) | (with_reducible refine keep_alloc _ ?_) | ((with_reducible refine keep_set _ ?_ ?_); (focus first | omega | (simp; done) | (simp; omega))) | ((with_reducible refine keep_set' _ ?_ ?_); (focus first | omega | (simp; done))) | ((with_reducible refine keep_same (u := ?_) _ ?_); rotate_left) | ((with_reducible refine keep_setA _ ?_ ?_); (focus first | omega | (simp; done) | (simp; omega))) | ((with_reducible refine keep_below (w := ?_) ?_ ?_); rotate_left; (with_reducible assumption))))))
    have u_ : w5.cell? ⟨w2.heap.size, 0, none⟩ = some (.int .i64 R0) ∧ w5.cell? ⟨w2.heap.size, 1, none⟩ = some (.int .i64 R1) ∧ w5.cell? ⟨w2.heap.size, 2, none⟩ = some (.int .i64 R2) ∧ w5.cell? ⟨w2.heap.size, 3, none⟩ = some (.slice Pw N pw) := by (((try dsimp only); (repeat' apply And.intro) <;> (repeat (first | with_reducible assumption | (with_reducible refine keep_drew ?_) | (with_reducible refine keep_drewN ?_) | ((with_reducible refine keep_new _ _ _ _ _ _ ?_ ?_) <;> (first | rfl | (simp; done) | omega)) | (with_reducible refine keep_alloc _ ?_) | ((with_reducible refine keep_set _ ?_ ?_); (focus first | omega | (simp; done) | (simp; omega))) | ((with_reducible refine keep_set' _ ?_ ?_); (focus first | omega | (simp; done))) | ((with_reducible refine keep_same (u := ?_) _ ?_); rotate_left) | ((with_reducible refine keep_setA _ ?_ ?_); (focus first | omega | (simp; done) | (simp; omega))) | ((with_reducible refine keep_below (w := ?_) ?_ ?_); rotate_left; (with_reducible assumption))))))
    have v_ : w5.cell? ⟨w3.heap.size, 0, none⟩ = some (.int .i64 pd0) ∧ w5.cell? ⟨w3.heap.size, 1, none⟩ = some (.int .i64 pf0) ∧ w5.cell? ⟨w3.heap.size, 2, none⟩ = some (.int .i64 pl0) ∧ w5.cell? ⟨w3.heap.size, 3, none⟩ = some (.slice (some ⟨g0b, 0, none⟩) n0 n0) := by (((try dsimp only); (repeat' apply And.intro) <;> (repeat (first | with_reducible assumption | (with_reducible refine keep_drew ?_) | (with_reducible refine keep_drewN ?_) | ((with_reducible refine keep_new _ _ _ _ _ _ ?_ ?_) <;> (first | rfl | (simp; done) | omega)) | (with_reducible refine keep_alloc _ ?_) | ((with_reducible refine keep_set _ ?_ ?_); (focus first | omega | (simp; done) | (simp; omega))) | ((with_reducible refine keep_set' _ ?_ ?_); (focus first | omega | (simp; done))) | ((with_reducible refine keep_same (u := ?_) _ ?_); rotate_left) | ((with_reducible refine keep_setA _ ?_ ?_); (focus first | omega | (simp; done) | (simp; omega))) | ((with_reducible refine keep_below (w := ?_) ?_ ?_); rotate_left; (with_reducible assumption))))))
    have p_ : w5.cell? ⟨w4.heap.size, 0, none⟩ = some (.int .i64 R0) ∧ w5.cell? ⟨w4.heap.size, 1, none⟩ = some (.int .i64 R1) ∧ w5.cell? ⟨w4.heap.size, 2, none⟩ = some (.int .i64 R2) ∧ w5.cell? ⟨w4.heap.size, 3, none⟩ = some (.slice Pg N pg) := by (((try dsimp only); (repeat' apply And.intro) <;> (repeat (first | with_reducible assumption | (with_reducible refine keep_drew ?_) | (with_reducible refine keep_drewN ?_) | ((with_reducible refine keep_new _ _ _ _ _ _ ?_ ?_) <;> (first | rfl | (simp; done) | omega)) | (with_reducible refine keep_alloc _ ?_) | ((with_reducible refine keep_set _ ?_ ?_); (focus first | omega | (simp; done) | (simp; omega))) | ((with_reducible refine keep_set' _ ?_ ?_); (focus first | omega | (simp; done))) | ((with_reducible refine keep_same (u := ?_) _ ?_); rotate_left) | ((with_reducible refine keep_setA _ ?_ ?_); (focus first | omega | (simp; done) | (simp; omega))) | ((with_reducible refine keep_below (w := ?_) ?_ ?_); rotate_left; (with_reducible assumption))))))
    have B3 : Below w.heap.size w w5 := (by repeat (first | with_reducible exact Below.refl _ _ | with_reducible assumption | (with_reducible refine Below.drew ?_) | (with_reducible refine below_drewN ?_ _) | ((with_reducible refine Below.alloc ?_ ?_ _); rotate_left; (focus first | exact Nat.le_refl _ | omega | (simp; done) | (simp; omega))) | ((with_reducible refine Below.setCell ?_ ?_ _); rotate_left; (focus first | exact Nat.le_refl _ | omega | (simp; done) | (simp; omega))) | ((with_reducible refine below_via (W := ?_) ?_ ?_ ?_); rotate_left; (with_reducible assumption); rotate_left; (focus first | exact Nat.le_refl _ | omega | (simp; done) | (simp; omega)))))
    clear hbz B2
    have B2 := B3
    clear B3
    (try clear t0 t1 t2 t3)
    obtain ⟨t0, t1, t2, t3⟩ := t_
    (try clear u0 u1 u2 u3)
    obtain ⟨u0, u1, u2, u3⟩ := u_
    (try clear v0 v1 v2 v3)
    obtain ⟨v0, v1, v2, v3⟩ := v_
    (try clear p0 p1 p2 p3)
    obtain ⟨p0, p1, p2, p3⟩ := p_
    have y5 : w4.heap.size < w5.heap.size := World.block_lt_of_cell? _ _ p0
    have yyw50 : w.heap.size < w5.heap.size := by omega
    have yuw5 : w2.heap.size < w5.heap.size := by omega
    have yvw5 : w3.heap.size < w5.heap.size := by omega
    go_wp2_with fail
    go_region_held3 (fun w' => w'.cell? ⟨w.heap.size, 0, none⟩ = some (.int .i64 pd0) ∧ w'.cell? ⟨w.heap.size, 1, none⟩ = some (.int .i64 pf0) ∧ w'.cell? ⟨w.heap.size, 2, none⟩ = some (.int .i64 pl0) ∧ w'.cell? ⟨w.heap.size, 3, none⟩ = some (.slice A0 n0 c0) ∧ w'.cell? ⟨w3.heap.size, 0, none⟩ = some (.int .i64 pd0) ∧ w'.cell? ⟨w3.heap.size, 1, none⟩ = some (.int .i64 pf0) ∧ w'.cell? ⟨w3.heap.size, 2, none⟩ = some (.int .i64 pl0) ∧ w'.cell? ⟨w3.heap.size, 3, none⟩ = some (.slice (some ⟨g0b, 0, none⟩) n0 n0)) ((((try dsimp only); (repeat' apply And.intro) <;> (repeat (first | with_reducible assumption | (with_reducible refine keep_drew ?_) | (with_reducible refine keep_drewN ?_) | ((with_reducible refine keep_new _ _ _ _ _ _ ?_ ?_) <;> (first | rfl | (simp; done) | omega)) | (with_reducible refine keep_alloc _ ?_) | ((with_reducible refine keep_set _ ?_ ?_); (focus first | omega | (simp; done) | (simp; omega))) | ((with_reducible refine keep_set' _ ?_ ?_); (focus first | omega | (simp; done))) | ((with_reducible refine keep_same (u := ?_) _ ?_); rotate_left) | ((with_reducible refine keep_setA _ ?_ ?_); (focus first | omega | (simp; done) | (simp; omega))) | ((with_reducible refine keep_below (w := ?_) ?_ ?_); rotate_left; (with_reducible assumption)))))))
      (first | (go_at_call 17; (with_reducible refine (TT.out _ (by repeat (first | with_reducible exact Below.refl _ _ | with_reducible assumption | (with_reducible refine Below.drew ?_) | (with_reducible refine below_drewN ?_ _) | ((with_reducible refine Below.alloc ?_ ?_ _); rotate_left; (focus first | exact Nat.le_refl _ | omega | (simp; done) | (simp; omega))) | ((with_reducible refine Below.setCell ?_ ?_ _); rotate_left; (focus first | exact Nat.le_refl _ | omega | (simp; done) | (simp; omega))) | ((with_reducible refine below_via (W := ?_) ?_ ?_ ?_); rotate_left; (with_reducible assumption); rotate_left; (focus first | exact Nat.le_refl _ | omega | (simp; done) | (simp; omega)))))).mono ?_); rintro e wtc ⟨g0c, rfl, o0, hbc⟩; obtain ⟨hcc, hfc⟩ := bcell hbc; have Pc0 := Lib.hid o0.rd; clear o0; have sc := hbc.size; (try simp at sc)) | (go_at_call 19; (with_reducible refine (eqProfile pd0 pf0 pl0 _ _ n0 _ _ hs0 _ (Rd.below (by repeat (first | with_reducible exact Below.refl _ _ | with_reducible assumption | (with_reducible refine Below.drew ?_) | (with_reducible refine below_drewN ?_ _) | ((with_reducible refine Below.alloc ?_ ?_ _); rotate_left; (focus first | exact Nat.le_refl _ | omega | (simp; done) | (simp; omega))) | ((with_reducible refine Below.setCell ?_ ?_ _); rotate_left; (focus first | exact Nat.le_refl _ | omega | (simp; done) | (simp; omega))) | ((with_reducible refine below_via (W := ?_) ?_ ?_ ?_); rotate_left; (with_reducible assumption); rotate_left; (focus first | exact Nat.le_refl _ | omega | (simp; done) | (simp; omega))))) X0.out.rd) (Rd.below (by repeat (first | with_reducible exact Below.refl _ _ | with_reducible assumption | (with_reducible refine Below.drew ?_) | (with_reducible refine below_drewN ?_ _) | ((with_reducible refine Below.alloc ?_ ?_ _); rotate_left; (focus first | exact Nat.le_refl _ | omega | (simp; done) | (simp; omega))) | ((with_reducible refine Below.setCell ?_ ?_ _); rotate_left; (focus first | exact Nat.le_refl _ | omega | (simp; done) | (simp; omega))) | ((with_reducible refine below_via (W := ?_) ?_ ?_ ?_); rotate_left; (with_reducible assumption); rotate_left; (focus first | exact Nat.le_refl _ | omega | (simp; done) | (simp; omega))))) Pc0.out) knn0).mono ?_); rintro e w6 ⟨rfl, hb6⟩; have s6 := hb6.size; (try simp at s6)))
    have N0 : Hid (Ow w6 _ _ _ _ _) := Lib.hid (Ow.below (by repeat (first | with_reducible exact Below.refl _ _ | with_reducible assumption | (with_reducible refine Below.drew ?_) | (with_reducible refine below_drewN ?_ _) | ((with_reducible refine Below.alloc ?_ ?_ _); rotate_left; (focus first | exact Nat.le_refl _ | omega | (simp; done) | (simp; omega))) | ((with_reducible refine Below.setCell ?_ ?_ _); rotate_left; (focus first | exact Nat.le_refl _ | omega | (simp; done) | (simp; omega))) | ((with_reducible refine below_via (W := ?_) ?_ ?_ ?_); rotate_left; (with_reducible assumption); rotate_left; (focus first | exact Nat.le_refl _ | omega | (simp; done) | (simp; omega))))) Ow0.out)
    clear Ow0
    have Ow0 := N0
    clear N0
    have N0 : Hid (Ow w6 _ _ _ _ _) := Lib.hid (Ow.below (by repeat (first | with_reducible exact Below.refl _ _ | with_reducible assumption | (with_reducible refine Below.drew ?_) | (with_reducible refine below_drewN ?_ _) | ((with_reducible refine Below.alloc ?_ ?_ _); rotate_left; (focus first | exact Nat.le_refl _ | omega | (simp; done) | (simp; omega))) | ((with_reducible refine Below.setCell ?_ ?_ _); rotate_left; (focus first | exact Nat.le_refl _ | omega | (simp; done) | (simp; omega))) | ((with_reducible refine below_via (W := ?_) ?_ ?_ ?_); rotate_left; (with_reducible assumption); rotate_left; (focus first | exact Nat.le_refl _ | omega | (simp; done) | (simp; omega))))) Og0.out)
    clear Og0
    have Og0 := N0
    clear N0
    have N0 : Hid (Ow w6 _ _ _ _ _) := Lib.hid (Ow.below (by repeat (first | with_reducible exact Below.refl _ _ | with_reducible assumption | (with_reducible refine Below.drew ?_) | (with_reducible refine below_drewN ?_ _) | ((with_reducible refine Below.alloc ?_ ?_ _); rotate_left; (focus first | exact Nat.le_refl _ | omega | (simp; done) | (simp; omega))) | ((with_reducible refine Below.setCell ?_ ?_ _); rotate_left; (focus first | exact Nat.le_refl _ | omega | (simp; done) | (simp; omega))) | ((with_reducible refine below_via (W := ?_) ?_ ?_ ?_); rotate_left; (with_reducible assumption); rotate_left; (focus first | exact Nat.le_refl _ | omega | (simp; done) | (simp; omega))))) X0.out)
    clear X0
    have X0 := N0
    clear N0
    have t_ : w6.cell? ⟨w.heap.size, 0, none⟩ = some (.int .i64 pd0) ∧ w6.cell? ⟨w.heap.size, 1, none⟩ = some (.int .i64 pf0) ∧ w6.cell? ⟨w.heap.size, 2, none⟩ = some (.int .i64 pl0) ∧ w6.cell? ⟨w.heap.size, 3, none⟩ = some (.slice A0 n0 c0) := by (((try dsimp only); (repeat' apply And.intro) <;> (repeat (first | with_reducible assumption | (with_reducible refine keep_drew ?_) | (with_reducible refine keep_drewN ?_) | ((with_reducible refine keep_new _ _ _ _ _ _ ?_ ?_) <;> (first | rfl | (simp; done) | omega)) | (with_reducible refine keep_alloc _ ?_) | ((with_reducible refine keep_set _ ?_ ?_); (focus first | omega | (simp; done) | (simp; omega))) | ((with_reducible refine keep_set' _ ?_ ?_); (focus first | omega | (simp; done))) | ((with_reducible refine keep_same (u := ?_) _ ?_); rotate_left) | ((with_reducible refine keep_setA _ ?_ ?_); (focus first | omega | (simp; done) | (simp; omega))) | ((with_reducible refine keep_below (w := ?_) ?_ ?_); rotate_left; (with_reducible assumption))))))
    have u_ : w6.cell? ⟨w2.heap.size, 0, none⟩ = some (.int .i64 R0) ∧ w6.cell? ⟨w2.heap.size, 1, none⟩ = some (.int .i64 R1) ∧ w6.cell? ⟨w2.heap.size, 2, none⟩ = some (.int .i64 R2) ∧ w6.cell? ⟨w2.heap.size, 3, none⟩ = some (.slice Pw N pw) := by (((try dsimp only); (repeat' apply And.intro) <;> (repeat (first | with_reducible assumption | (with_reducible refine keep_drew ?_) | (with_reducible refine keep_drewN ?_) | ((with_reducible refine keep_new _ _ _ _ _ _ ?_ ?_) <;> (first | rfl | (simp; done) | omega)) | (with_reducible refine keep_alloc _ ?_) | ((with_reducible refine keep_set _ ?_ ?_); (focus first | omega | (simp; done) | (simp; omega))) | ((with_reducible refine keep_set' _ ?_ ?_); (focus first | omega | (simp; done))) | ((with_reducible refine keep_same (u := ?_) _ ?_); rotate_left) | ((with_reducible refine keep_setA _ ?_ ?_); (focus first | omega | (simp; done) | (simp; omega))) | ((with_reducible refine keep_below (w := ?_) ?_ ?_); rotate_left; (with_reducible assumption))))))
    have v_ : w6.cell? ⟨w3.heap.size, 0, none⟩ = some (.int .i64 pd0) ∧ w6.cell? ⟨w3.heap.size, 1, none⟩ = some (.int .i64 pf0) ∧ w6.cell? ⟨w3.heap.size, 2, none⟩ = some (.int .i64 pl0) ∧ w6.cell? ⟨w3.heap.size, 3, none⟩ = some (.slice (some ⟨g0b, 0, none⟩) n0 n0) := by (((try dsimp only); (repeat' apply And.intro) <;> (repeat (first | with_reducible assumption | (with_reducible refine keep_drew ?_) | (with_reducible refine keep_drewN ?_) | ((with_reducible refine keep_new _ _ _ _ _ _ ?_ ?_) <;> (first | rfl | (simp; done) | omega)) | (with_reducible refine keep_alloc _ ?_) | ((with_reducible refine keep_set _ ?_ ?_); (focus first | omega | (simp; done) | (simp; omega))) | ((with_reducible refine keep_set' _ ?_ ?_); (focus first | omega | (simp; done))) | ((with_reducible refine keep_same (u := ?_) _ ?_); rotate_left) | ((with_reducible refine keep_setA _ ?_ ?_); (focus first | omega | (simp; done) | (simp; omega))) | ((with_reducible refine keep_below (w := ?_) ?_ ?_); rotate_left; (with_reducible assumption))))))
    have p_ : w6.cell? ⟨w4.heap.size, 0, none⟩ = some (.int .i64 R0) ∧ w6.cell? ⟨w4.heap.size, 1, none⟩ = some (.int .i64 R1) ∧ w6.cell? ⟨w4.heap.size, 2, none⟩ = some (.int .i64 R2) ∧ w6.cell? ⟨w4.heap.size, 3, none⟩ = some (.slice Pg N pg) := by (((try dsimp only); (repeat' apply And.intro) <;> (repeat (first | with_reducible assumption | (with_reducible refine keep_drew ?_) | (with_reducible refine keep_drewN ?_) | ((with_reducible refine keep_new _ _ _ _ _ _ ?_ ?_) <;> (first | rfl | (simp; done) | omega)) | (with_reducible refine keep_alloc _ ?_) | ((with_reducible refine keep_set _ ?_ ?_); (focus first | omega | (simp; done) | (simp; omega))) | ((with_reducible refine keep_set' _ ?_ ?_); (focus first | omega | (simp; done))) | ((with_reducible refine keep_same (u := ?_) _ ?_); rotate_left) | ((with_reducible refine keep_setA _ ?_ ?_); (focus first | omega | (simp; done) | (simp; omega))) | ((with_reducible refine keep_below (w := ?_) ?_ ?_); rotate_left; (with_reducible assumption))))))
    have B3 : Below w.heap.size w w6 := (by repeat (first | with_reducible exact Below.refl _ _ | with_reducible assumption | (with_reducible refine Below.drew ?_) | (with_reducible refine below_drewN ?_ _) | ((with_reducible refine Below.alloc ?_ ?_ _); rotate_left; (focus first | exact Nat.le_refl _ | omega | (simp; done) | (simp; omega))) | ((with_reducible refine Below.setCell ?_ ?_ _); rotate_left; (focus first | exact Nat.le_refl _ | omega | (simp; done) | (simp; omega))) | ((with_reducible refine below_via (W := ?_) ?_ ?_ ?_); rotate_left; (with_reducible assumption); rotate_left; (focus first | exact Nat.le_refl _ | omega | (simp; done) | (simp; omega)))))
    clear hb6 hbc s6 sc hcc hfc B2 Pc0
    have B2 := B3
    clear B3
    (try clear t0 t1 t2 t3)
    obtain ⟨t0, t1, t2, t3⟩ := t_
    (try clear u0 u1 u2 u3)
    obtain ⟨u0, u1, u2, u3⟩ := u_
    (try clear v0 v1 v2 v3)
    obtain ⟨v0, v1, v2, v3⟩ := v_
    (try clear p0 p1 p2 p3)
    obtain ⟨p0, p1, p2, p3⟩ := p_
    have y6 : w4.heap.size < w6.heap.size := World.block_lt_of_cell? _ _ p0
    have yyw60 : w.heap.size < w6.heap.size := by omega
    have yuw6 : w2.heap.size < w6.heap.size := by omega
    have yvw6 : w3.heap.size < w6.heap.size := by omega
    go_wp2_with fail
    refine (markProfile pd0 pf0 pl0 _ n0 _ _ hs0 1 _ X0.out (by omega) (by omega)).mono ?_
    rintro e w7 ⟨rfl, o0, g7⟩
    clear o0 X0
    have t_ : w7.cell? ⟨w.heap.size, 0, none⟩ = some (.int .i64 pd0) ∧ w7.cell? ⟨w.heap.size, 1, none⟩ = some (.int .i64 pf0) ∧ w7.cell? ⟨w.heap.size, 2, none⟩ = some (.int .i64 pl0) ∧ w7.cell? ⟨w.heap.size, 3, none⟩ = some (.slice A0 n0 c0) := ⟨keep_gr2 g7 (fun b hb => by injection hb with hb; subst hb; intro e; dsimp only at e; omega) (fun b hb => by cases hb) t0, keep_gr2 g7 (fun b hb => by injection hb with hb; subst hb; intro e; dsimp only at e; omega) (fun b hb => by cases hb) t1, keep_gr2 g7 (fun b hb => by injection hb with hb; subst hb; intro e; dsimp only at e; omega) (fun b hb => by cases hb) t2, keep_gr2 g7 (fun b hb => by injection hb with hb; subst hb; intro e; dsimp only at e; omega) (fun b hb => by cases hb) t3⟩
    have u_ : w7.cell? ⟨w2.heap.size, 0, none⟩ = some (.int .i64 R0) ∧ w7.cell? ⟨w2.heap.size, 1, none⟩ = some (.int .i64 R1) ∧ w7.cell? ⟨w2.heap.size, 2, none⟩ = some (.int .i64 R2) ∧ w7.cell? ⟨w2.heap.size, 3, none⟩ = some (.slice Pw N pw) := ⟨keep_gr2 g7 (fun b hb => by injection hb with hb; subst hb; intro e; dsimp only at e; omega) (fun b hb => by cases hb) u0, keep_gr2 g7 (fun b hb => by injection hb with hb; subst hb; intro e; dsimp only at e; omega) (fun b hb => by cases hb) u1, keep_gr2 g7 (fun b hb => by injection hb with hb; subst hb; intro e; dsimp only at e; omega) (fun b hb => by cases hb) u2, keep_gr2 g7 (fun b hb => by injection hb with hb; subst hb; intro e; dsimp only at e; omega) (fun b hb => by cases hb) u3⟩
    have p_ : w7.cell? ⟨w4.heap.size, 0, none⟩ = some (.int .i64 R0) ∧ w7.cell? ⟨w4.heap.size, 1, none⟩ = some (.int .i64 R1) ∧ w7.cell? ⟨w4.heap.size, 2, none⟩ = some (.int .i64 R2) ∧ w7.cell? ⟨w4.heap.size, 3, none⟩ = some (.slice Pg N pg) := ⟨keep_gr2 g7 (fun b hb => by injection hb with hb; subst hb; intro e; dsimp only at e; omega) (fun b hb => by cases hb) p0, keep_gr2 g7 (fun b hb => by injection hb with hb; subst hb; intro e; dsimp only at e; omega) (fun b hb => by cases hb) p1, keep_gr2 g7 (fun b hb => by injection hb with hb; subst hb; intro e; dsimp only at e; omega) (fun b hb => by cases hb) p2, keep_gr2 g7 (fun b hb => by injection hb with hb; subst hb; intro e; dsimp only at e; omega) (fun b hb => by cases hb) p3⟩
    have N0 := Lib.hid (Ow.gr2 Ow0.out g7 ((fun a b ha hb => by injection hb with hb; subst hb; have h := WB0 a ha; show a.block ≠ g0b; omega)) ((Ap.symm (Ap.none_l _))))
    clear Ow0
    have Ow0 := N0
    clear N0
    have N0 := Lib.hid (Ow.gr2 Og0.out g7 (AX0.out.symm) (Ap.symm (Ap.none_l _)))
    clear Og0
    have Og0 := N0
    clear N0
    have B3 : Below w.heap.size w w7 := B2.trans (Gr2.below g7 (fun b hb => by injection hb with hb; subst hb; show w.heap.size ≤ g0b; omega) (fun b hb => by cases hb) (by omega))
    have s7 := g7.size
    clear g7 B2
    have B2 := B3
    clear B3
    (try clear v0 v1 v2 v3 v4)
    (try clear t0 t1 t2 t3)
    obtain ⟨t0, t1, t2, t3⟩ := t_
    (try clear u0 u1 u2 u3)
    obtain ⟨u0, u1, u2, u3⟩ := u_
    (try clear p0 p1 p2 p3)
    obtain ⟨p0, p1, p2, p3⟩ := p_
    have y7 : w4.heap.size < w7.heap.size := by omega
    have yyw70 : w.heap.size < w7.heap.size := by omega
    have yuw7 : w2.heap.size < w7.heap.size := by omega
    have yvw7 : w3.heap.size < w7.heap.size := by omega
    go_wp2_with fail
    refine (eqProfile R0 R1 R2 _ _ N _ _ Z _ (Rd.below (by repeat (first | with_reducible exact Below.refl _ _ | with_reducible assumption | (with_reducible refine Below.drew ?_) | (with_reducible refine below_drewN ?_ _) | ((with_reducible refine Below.alloc ?_ ?_ _); rotate_left; (focus first | exact Nat.le_refl _ | omega | (simp; done) | (simp; omega))) | ((with_reducible refine Below.setCell ?_ ?_ _); rotate_left; (focus first | exact Nat.le_refl _ | omega | (simp; done) | (simp; omega))) | ((with_reducible refine below_via (W := ?_) ?_ ?_ ?_); rotate_left; (with_reducible assumption); rotate_left; (focus first | exact Nat.le_refl _ | omega | (simp; done) | (simp; omega))))) Og0.out.rd) (Rd.below (by repeat (first | with_reducible exact Below.refl _ _ | with_reducible assumption | (with_reducible refine Below.drew ?_) | (with_reducible refine below_drewN ?_ _) | ((with_reducible refine Below.alloc ?_ ?_ _); rotate_left; (focus first | exact Nat.le_refl _ | omega | (simp; done) | (simp; omega))) | ((with_reducible refine Below.setCell ?_ ?_ _); rotate_left; (focus first | exact Nat.le_refl _ | omega | (simp; done) | (simp; omega))) | ((with_reducible refine below_via (W := ?_) ?_ ?_ ?_); rotate_left; (with_reducible assumption); rotate_left; (focus first | exact Nat.le_refl _ | omega | (simp; done) | (simp; omega))))) Ow0.out.rd) mN).mono ?_
    rintro e w8 ⟨rfl, hbz⟩
    have sz := hbz.size
    (try simp at sz)
    have N0 : Hid (Ow w8 _ _ _ _ _) := Lib.hid (Ow.below (by repeat (first | with_reducible exact Below.refl _ _ | with_reducible assumption | (with_reducible refine Below.drew ?_) | (with_reducible refine below_drewN ?_ _) | ((with_reducible refine Below.alloc ?_ ?_ _); rotate_left; (focus first | exact Nat.le_refl _ | omega | (simp; done) | (simp; omega))) | ((with_reducible refine Below.setCell ?_ ?_ _); rotate_left; (focus first | exact Nat.le_refl _ | omega | (simp; done) | (simp; omega))) | ((with_reducible refine below_via (W := ?_) ?_ ?_ ?_); rotate_left; (with_reducible assumption); rotate_left; (focus first | exact Nat.le_refl _ | omega | (simp; done) | (simp; omega))))) Ow0.out)
    clear Ow0
    have Ow0 := N0
    clear N0
    have N0 : Hid (Ow w8 _ _ _ _ _) := Lib.hid (Ow.below (by repeat (first | with_reducible exact Below.refl _ _ | with_reducible assumption | (with_reducible refine Below.drew ?_) | (with_reducible refine below_drewN ?_ _) | ((with_reducible refine Below.alloc ?_ ?_ _); rotate_left; (focus first | exact Nat.le_refl _ | omega | (simp; done) | (simp; omega))) | ((with_reducible refine Below.setCell ?_ ?_ _); rotate_left; (focus first | exact Nat.le_refl _ | omega | (simp; done) | (simp; omega))) | ((with_reducible refine below_via (W := ?_) ?_ ?_ ?_); rotate_left; (with_reducible assumption); rotate_left; (focus first | exact Nat.le_refl _ | omega | (simp; done) | (simp; omega))))) Og0.out)
    clear Og0
    have Og0 := N0
    clear N0
    have t_ : w8.cell? ⟨w.heap.size, 0, none⟩ = some (.int .i64 pd0) ∧ w8.cell? ⟨w.heap.size, 1, none⟩ = some (.int .i64 pf0) ∧ w8.cell? ⟨w.heap.size, 2, none⟩ = some (.int .i64 pl0) ∧ w8.cell? ⟨w.heap.size, 3, none⟩ = some (.slice A0 n0 c0) := by (((try dsimp only); (repeat' apply And.intro) <;> (repeat (first | with_reducible assumption | (with_reducible refine keep_drew ?_) | (with_reducible refine keep_drewN ?_) | ((with_reducible refine keep_new _ _ _ _ _ _ ?_ ?_) <;> (first | rfl | (simp; done) | omega)) | (with_reducible refine keep_alloc _ ?_) | ((with_reducible refine keep_set _ ?_ ?_); (focus first | omega | (simp; done) | (simp; omega))) | ((with_reducible refine keep_set' _ ?_ ?_); (focus first | omega | (simp; done))) | ((with_reducible refine keep_same (u := ?_) _ ?_); rotate_left) | ((with_reducible refine keep_setA _ ?_ ?_); (focus first | omega | (simp; done) | (simp; omega))) | ((with_reducible refine keep_below (w := ?_) ?_ ?_); rotate_left; (with_reducible assumption))))))
    have u_ : w8.cell? ⟨w2.heap.size, 0, none⟩ = some (.int .i64 R0) ∧ w8.cell? ⟨w2.heap.size, 1, none⟩ = some (.int .i64 R1) ∧ w8.cell? ⟨w2.heap.size, 2, none⟩ = some (.int .i64 R2) ∧ w8.cell? ⟨w2.heap.size, 3, none⟩ = some (.slice Pw N pw) := by (((try dsimp only); (repeat' apply And.intro) <;> (repeat (first | with_reducible assumption | (with_reducible refine keep_drew ?_) | (with_reducible refine keep_drewN ?_) | ((with_reducible refine keep_new _ _ _ _ _ _ ?_ ?_) <;> (first | rfl | (simp; done) | omega)) | (with_reducible refine keep_alloc _ ?_) | ((with_reducible refine keep_set _ ?_ ?_); (focus first | omega | (simp; done) | (simp; omega))) | ((with_reducible refine keep_set' _ ?_ ?_); (focus first | omega | (simp; done))) | ((with_reducible refine keep_same (u := ?_) _ ?_); rotate_left) | ((with_reducible refine keep_setA _ ?_ ?_); (focus first | omega | (simp; done) | (simp; omega))) | ((with_reducible refine keep_below (w := ?_) ?_ ?_); rotate_left; (with_reducible assumption))))))
    have p_ : w8.cell? ⟨w4.heap.size, 0, none⟩ = some (.int .i64 R0) ∧ w8.cell? ⟨w4.heap.size, 1, none⟩ = some (.int .i64 R1) ∧ w8.cell? ⟨w4.heap.size, 2, none⟩ = some (.int .i64 R2) ∧ w8.cell? ⟨w4.heap.size, 3, none⟩ = some (.slice Pg N pg) := by (((try dsimp only); (repeat' apply And.intro) <;> (repeat (first | with_reducible assumption | (with_reducible refine keep_drew ?_) | (with_reducible refine keep_drewN ?_) | ((with_reducible refine keep_new _ _ _ _ _ _ ?_ ?_) <;> (first | rfl | (simp; done) | omega)) | (with_reducible refine keep_alloc _ ?_) | ((with_reducible refine keep_set _ ?_ ?_); (focus first | omega | (simp; done) | (simp; omega))) | ((with_reducible refine keep_set' _ ?_ ?_); (focus first | omega | (simp; done))) | ((with_reducible refine keep_same (u := ?_) _ ?_); rotate_left) | ((with_reducible refine keep_setA _ ?_ ?_); (focus first | omega | (simp; done) | (simp; omega))) | ((with_reducible refine keep_below (w := ?_) ?_ ?_); rotate_left; (with_reducible assumption))))))
    have B3 : Below w.heap.size w w8 := (by repeat (first | with_reducible exact Below.refl _ _ | with_reducible assumption | (with_reducible refine Below.drew ?_) | (with_reducible refine below_drewN ?_ _) | ((with_reducible refine Below.alloc ?_ ?_ _); rotate_left; (focus first | exact Nat.le_refl _ | omega | (simp; done) | (simp; omega))) | ((with_reducible refine Below.setCell ?_ ?_ _); rotate_left; (focus first | exact Nat.le_refl _ | omega | (simp; done) | (simp; omega))) | ((with_reducible refine below_via (W := ?_) ?_ ?_ ?_); rotate_left; (with_reducible assumption); rotate_left; (focus first | exact Nat.le_refl _ | omega | (simp; done) | (simp; omega)))))
    clear hbz B2
    have B2 := B3
    clear B3
    (try clear t0 t1 t2 t3)
    obtain ⟨t0, t1, t2, t3⟩ := t_
    (try clear u0 u1 u2 u3)
    obtain ⟨u0, u1, u2, u3⟩ := u_
    (try clear p0 p1 p2 p3)
    obtain ⟨p0, p1, p2, p3⟩ := p_
    have y8 : w4.heap.size < w8.heap.size := by omega
    have yyw80 : w.heap.size < w8.heap.size := by omega
    have yuw8 : w2.heap.size < w8.heap.size := by omega
    have yvw8 : w3.heap.size < w8.heap.size := by omega
    go_wp2_with fail
    refine (markProfile R0 R1 R2 _ N _ _ Z 1 _ Og0.out (by omega) (by omega)).mono ?_
    rintro e w9 ⟨rfl, mg0, g9⟩
    have t_ : w9.cell? ⟨w.heap.size, 0, none⟩ = some (.int .i64 pd0) ∧ w9.cell? ⟨w.heap.size, 1, none⟩ = some (.int .i64 pf0) ∧ w9.cell? ⟨w.heap.size, 2, none⟩ = some (.int .i64 pl0) ∧ w9.cell? ⟨w.heap.size, 3, none⟩ = some (.slice A0 n0 c0) := ⟨keep_gr2 g9 (fun b hb => by have h := GB0 b hb; intro e; dsimp only at e; omega) (fun b hb => by cases hb) t0, keep_gr2 g9 (fun b hb => by have h := GB0 b hb; intro e; dsimp only at e; omega) (fun b hb => by cases hb) t1, keep_gr2 g9 (fun b hb => by have h := GB0 b hb; intro e; dsimp only at e; omega) (fun b hb => by cases hb) t2, keep_gr2 g9 (fun b hb => by have h := GB0 b hb; intro e; dsimp only at e; omega) (fun b hb => by cases hb) t3⟩
    have u_ : w9.cell? ⟨w2.heap.size, 0, none⟩ = some (.int .i64 R0) ∧ w9.cell? ⟨w2.heap.size, 1, none⟩ = some (.int .i64 R1) ∧ w9.cell? ⟨w2.heap.size, 2, none⟩ = some (.int .i64 R2) ∧ w9.cell? ⟨w2.heap.size, 3, none⟩ = some (.slice Pw N pw) := ⟨keep_gr2 g9 (fun b hb => by have h := GB0 b hb; intro e; dsimp only at e; omega) (fun b hb => by cases hb) u0, keep_gr2 g9 (fun b hb => by have h := GB0 b hb; intro e; dsimp only at e; omega) (fun b hb => by cases hb) u1, keep_gr2 g9 (fun b hb => by have h := GB0 b hb; intro e; dsimp only at e; omega) (fun b hb => by cases hb) u2, keep_gr2 g9 (fun b hb => by have h := GB0 b hb; intro e; dsimp only at e; omega) (fun b hb => by cases hb) u3⟩
    have p_ : w9.cell? ⟨w4.heap.size, 0, none⟩ = some (.int .i64 R0) ∧ w9.cell? ⟨w4.heap.size, 1, none⟩ = some (.int .i64 R1) ∧ w9.cell? ⟨w4.heap.size, 2, none⟩ = some (.int .i64 R2) ∧ w9.cell? ⟨w4.heap.size, 3, none⟩ = some (.slice Pg N pg) := ⟨keep_gr2 g9 (fun b hb => by have h := GB0 b hb; intro e; dsimp only at e; omega) (fun b hb => by cases hb) p0, keep_gr2 g9 (fun b hb => by have h := GB0 b hb; intro e; dsimp only at e; omega) (fun b hb => by cases hb) p1, keep_gr2 g9 (fun b hb => by have h := GB0 b hb; intro e; dsimp only at e; omega) (fun b hb => by cases hb) p2, keep_gr2 g9 (fun b hb => by have h := GB0 b hb; intro e; dsimp only at e; omega) (fun b hb => by cases hb) p3⟩
    have N0 := Lib.hid (Ow.gr2 Ow0.out g9 (fun a b ha hb => by have h := WB0 a ha; have h' := GB0 b hb; omega) (Ap.symm (Ap.none_l _)))
    clear Ow0
    have Ow0 := N0
    clear N0
    clear Og0
    have Og0 := Lib.hid mg0
    clear mg0
    have B3 : Below w.heap.size w w9 := B2.trans (Gr2.below g9 (fun b hb => by have h := GB0 b hb; omega) (fun b hb => by cases hb) (by omega))
    have s9 := g9.size
    clear g9 B2
    have B2 := B3
    clear B3
    (try clear t0 t1 t2 t3)
    obtain ⟨t0, t1, t2, t3⟩ := t_
    (try clear u0 u1 u2 u3)
    obtain ⟨u0, u1, u2, u3⟩ := u_
    (try clear p0 p1 p2 p3)
    obtain ⟨p0, p1, p2, p3⟩ := p_
    have y9 : w4.heap.size < w9.heap.size := by omega
    have yyw90 : w.heap.size < w9.heap.size := by omega
    have yuw9 : w2.heap.size < w9.heap.size := by omega
    have yvw9 : w3.heap.size < w9.heap.size := by omega
    go_wp2_with fail
    refine (heldProfile R0 R1 R2 _ N _ 1 _ (Rd.below (by repeat (first | with_reducible exact Below.refl _ _ | with_reducible assumption | (with_reducible refine Below.drew ?_) | (with_reducible refine below_drewN ?_ _) | ((with_reducible refine Below.alloc ?_ ?_ _); rotate_left; (focus first | exact Nat.le_refl _ | omega | (simp; done) | (simp; omega))) | ((with_reducible refine Below.setCell ?_ ?_ _); rotate_left; (focus first | exact Nat.le_refl _ | omega | (simp; done) | (simp; omega))) | ((with_reducible refine below_via (W := ?_) ?_ ?_ ?_); rotate_left; (with_reducible assumption); rotate_left; (focus first | exact Nat.le_refl _ | omega | (simp; done) | (simp; omega))))) Og0.out.rd) (by omega) (by omega)).mono ?_
    rintro e w10 ⟨rfl, hbz⟩
    have sz := hbz.size
    (try simp at sz)
    have N0 : Hid (Ow w10 _ _ _ _ _) := Lib.hid (Ow.below (by repeat (first | with_reducible exact Below.refl _ _ | with_reducible assumption | (with_reducible refine Below.drew ?_) | (with_reducible refine below_drewN ?_ _) | ((with_reducible refine Below.alloc ?_ ?_ _); rotate_left; (focus first | exact Nat.le_refl _ | omega | (simp; done) | (simp; omega))) | ((with_reducible refine Below.setCell ?_ ?_ _); rotate_left; (focus first | exact Nat.le_refl _ | omega | (simp; done) | (simp; omega))) | ((with_reducible refine below_via (W := ?_) ?_ ?_ ?_); rotate_left; (with_reducible assumption); rotate_left; (focus first | exact Nat.le_refl _ | omega | (simp; done) | (simp; omega))))) Ow0.out)
    clear Ow0
    have Ow0 := N0
    clear N0
    have N0 : Hid (Ow w10 _ _ _ _ _) := Lib.hid (Ow.below (by repeat (first | with_reducible exact Below.refl _ _ | with_reducible assumption | (with_reducible refine Below.drew ?_) | (with_reducible refine below_drewN ?_ _) | ((with_reducible refine Below.alloc ?_ ?_ _); rotate_left; (focus first | exact Nat.le_refl _ | omega | (simp; done) | (simp; omega))) | ((with_reducible refine Below.setCell ?_ ?_ _); rotate_left; (focus first | exact Nat.le_refl _ | omega | (simp; done) | (simp; omega))) | ((with_reducible refine below_via (W := ?_) ?_ ?_ ?_); rotate_left; (with_reducible assumption); rotate_left; (focus first | exact Nat.le_refl _ | omega | (simp; done) | (simp; omega))))) Og0.out)
    clear Og0
    have Og0 := N0
    clear N0
    have t_ : w10.cell? ⟨w.heap.size, 0, none⟩ = some (.int .i64 pd0) ∧ w10.cell? ⟨w.heap.size, 1, none⟩ = some (.int .i64 pf0) ∧ w10.cell? ⟨w.heap.size, 2, none⟩ = some (.int .i64 pl0) ∧ w10.cell? ⟨w.heap.size, 3, none⟩ = some (.slice A0 n0 c0) := by (((try dsimp only); (repeat' apply And.intro) <;> (repeat (first | with_reducible assumption | (with_reducible refine keep_drew ?_) | (with_reducible refine keep_drewN ?_) | ((with_reducible refine keep_new _ _ _ _ _ _ ?_ ?_) <;> (first | rfl | (simp; done) | omega)) | (with_reducible refine keep_alloc _ ?_) | ((with_reducible refine keep_set _ ?_ ?_); (focus first | omega | (simp; done) | (simp; omega))) | ((with_reducible refine keep_set' _ ?_ ?_); (focus first | omega | (simp; done))) | ((with_reducible refine keep_same (u := ?_) _ ?_); rotate_left) | ((with_reducible refine keep_setA _ ?_ ?_); (focus first | omega | (simp; done) | (simp; omega))) | ((with_reducible refine keep_below (w := ?_) ?_ ?_); rotate_left; (with_reducible assumption))))))
    have u_ : w10.cell? ⟨w2.heap.size, 0, none⟩ = some (.int .i64 R0) ∧ w10.cell? ⟨w2.heap.size, 1, none⟩ = some (.int .i64 R1) ∧ w10.cell? ⟨w2.heap.size, 2, none⟩ = some (.int .i64 R2) ∧ w10.cell? ⟨w2.heap.size, 3, none⟩ = some (.slice Pw N pw) := by (((try dsimp only); (repeat' apply And.intro) <;> (repeat (first | with_reducible assumption | (with_reducible refine keep_drew ?_) | (with_reducible refine keep_drewN ?_) | ((with_reducible refine keep_new _ _ _ _ _ _ ?_ ?_) <;> (first | rfl | (simp; done) | omega)) | (with_reducible refine keep_alloc _ ?_) | ((with_reducible refine keep_set _ ?_ ?_); (focus first | omega | (simp; done) | (simp; omega))) | ((with_reducible refine keep_set' _ ?_ ?_); (focus first | omega | (simp; done))) | ((with_reducible refine keep_same (u := ?_) _ ?_); rotate_left) | ((with_reducible refine keep_setA _ ?_ ?_); (focus first | omega | (simp; done) | (simp; omega))) | ((with_reducible refine keep_below (w := ?_) ?_ ?_); rotate_left; (with_reducible assumption))))))
    have p_ : w10.cell? ⟨w4.heap.size, 0, none⟩ = some (.int .i64 R0) ∧ w10.cell? ⟨w4.heap.size, 1, none⟩ = some (.int .i64 R1) ∧ w10.cell? ⟨w4.heap.size, 2, none⟩ = some (.int .i64 R2) ∧ w10.cell? ⟨w4.heap.size, 3, none⟩ = some (.slice Pg N pg) := by (((try dsimp only); (repeat' apply And.intro) <;> (repeat (first | with_reducible assumption | (with_reducible refine keep_drew ?_) | (with_reducible refine keep_drewN ?_) | ((with_reducible refine keep_new _ _ _ _ _ _ ?_ ?_) <;> (first | rfl | (simp; done) | omega)) | (with_reducible refine keep_alloc _ ?_) | ((with_reducible refine keep_set _ ?_ ?_); (focus first | omega | (simp; done) | (simp; omega))) | ((with_reducible refine keep_set' _ ?_ ?_); (focus first | omega | (simp; done))) | ((with_reducible refine keep_same (u := ?_) _ ?_); rotate_left) | ((with_reducible refine keep_setA _ ?_ ?_); (focus first | omega | (simp; done) | (simp; omega))) | ((with_reducible refine keep_below (w := ?_) ?_ ?_); rotate_left; (with_reducible assumption))))))
    have B3 : Below w.heap.size w w10 := (by repeat (first | with_reducible exact Below.refl _ _ | with_reducible assumption | (with_reducible refine Below.drew ?_) | (with_reducible refine below_drewN ?_ _) | ((with_reducible refine Below.alloc ?_ ?_ _); rotate_left; (focus first | exact Nat.le_refl _ | omega | (simp; done) | (simp; omega))) | ((with_reducible refine Below.setCell ?_ ?_ _); rotate_left; (focus first | exact Nat.le_refl _ | omega | (simp; done) | (simp; omega))) | ((with_reducible refine below_via (W := ?_) ?_ ?_ ?_); rotate_left; (with_reducible assumption); rotate_left; (focus first | exact Nat.le_refl _ | omega | (simp; done) | (simp; omega)))))
    clear hbz B2
    have B2 := B3
    clear B3
    (try clear t0 t1 t2 t3)
    obtain ⟨t0, t1, t2, t3⟩ := t_
    (try clear u0 u1 u2 u3)
    obtain ⟨u0, u1, u2, u3⟩ := u_
    (try clear p0 p1 p2 p3)
    obtain ⟨p0, p1, p2, p3⟩ := p_
    have y10 : w4.heap.size < w10.heap.size := by omega
    have yyw100 : w.heap.size < w10.heap.size := by omega
    have yuw10 : w2.heap.size < w10.heap.size := by omega
    have yvw10 : w3.heap.size < w10.heap.size := by omega
    go_wp2_with fail
    refine (TT.out _ (by repeat (first | with_reducible exact Below.refl _ _ | with_reducible assumption | (with_reducible refine Below.drew ?_) | (with_reducible refine below_drewN ?_ _) | ((with_reducible refine Below.alloc ?_ ?_ _); rotate_left; (focus first | exact Nat.le_refl _ | omega | (simp; done) | (simp; omega))) | ((with_reducible refine Below.setCell ?_ ?_ _); rotate_left; (focus first | exact Nat.le_refl _ | omega | (simp; done) | (simp; omega))) | ((with_reducible refine below_via (W := ?_) ?_ ?_ ?_); rotate_left; (with_reducible assumption); rotate_left; (focus first | exact Nat.le_refl _ | omega | (simp; done) | (simp; omega)))))).mono ?_
    rintro e wtd ⟨g0d, rfl, o0, hbd⟩
    have sd := hbd.size
    (try simp at sd)
    have Pd0 := Lib.hid o0.rd
    clear o0
    go_wp2_with fail
    refine (IM.out _ g0d (Rd.below (by repeat (first | with_reducible exact Below.refl _ _ | with_reducible assumption | (with_reducible refine Below.drew ?_) | (with_reducible refine below_drewN ?_ _) | ((with_reducible refine Below.alloc ?_ ?_ _); rotate_left; (focus first | exact Nat.le_refl _ | omega | (simp; done) | (simp; omega))) | ((with_reducible refine Below.setCell ?_ ?_ _); rotate_left; (focus first | exact Nat.le_refl _ | omega | (simp; done) | (simp; omega))) | ((with_reducible refine below_via (W := ?_) ?_ ?_ ?_); rotate_left; (with_reducible assumption); rotate_left; (focus first | exact Nat.le_refl _ | omega | (simp; done) | (simp; omega))))) Pd0.out)).mono ?_
    rintro e w12 ⟨Ph, ph, rfl, oh0, hbw12⟩
    have sw12 := hbw12.size
    (try simp at sw12)
    have Oh0 := Lib.hid oh0
    clear oh0
    have N0 : Hid (Ow w12 _ _ _ _ _) := Lib.hid (Ow.below (by repeat (first | with_reducible exact Below.refl _ _ | with_reducible assumption | (with_reducible refine Below.drew ?_) | (with_reducible refine below_drewN ?_ _) | ((with_reducible refine Below.alloc ?_ ?_ _); rotate_left; (focus first | exact Nat.le_refl _ | omega | (simp; done) | (simp; omega))) | ((with_reducible refine Below.setCell ?_ ?_ _); rotate_left; (focus first | exact Nat.le_refl _ | omega | (simp; done) | (simp; omega))) | ((with_reducible refine below_via (W := ?_) ?_ ?_ ?_); rotate_left; (with_reducible assumption); rotate_left; (focus first | exact Nat.le_refl _ | omega | (simp; done) | (simp; omega))))) Ow0.out)
    clear Ow0
    have Ow0 := N0
    clear N0
    have N0 : Hid (Ow w12 _ _ _ _ _) := Lib.hid (Ow.below (by repeat (first | with_reducible exact Below.refl _ _ | with_reducible assumption | (with_reducible refine Below.drew ?_) | (with_reducible refine below_drewN ?_ _) | ((with_reducible refine Below.alloc ?_ ?_ _); rotate_left; (focus first | exact Nat.le_refl _ | omega | (simp; done) | (simp; omega))) | ((with_reducible refine Below.setCell ?_ ?_ _); rotate_left; (focus first | exact Nat.le_refl _ | omega | (simp; done) | (simp; omega))) | ((with_reducible refine below_via (W := ?_) ?_ ?_ ?_); rotate_left; (with_reducible assumption); rotate_left; (focus first | exact Nat.le_refl _ | omega | (simp; done) | (simp; omega))))) Og0.out)
    clear Og0
    have Og0 := N0
    clear N0
    have u_ : w12.cell? ⟨w2.heap.size, 0, none⟩ = some (.int .i64 R0) ∧ w12.cell? ⟨w2.heap.size, 1, none⟩ = some (.int .i64 R1) ∧ w12.cell? ⟨w2.heap.size, 2, none⟩ = some (.int .i64 R2) ∧ w12.cell? ⟨w2.heap.size, 3, none⟩ = some (.slice Pw N pw) := by (((try dsimp only); (repeat' apply And.intro) <;> (repeat (first | with_reducible assumption | (with_reducible refine keep_drew ?_) | (with_reducible refine keep_drewN ?_) | ((with_reducible refine keep_new _ _ _ _ _ _ ?_ ?_) <;> (first | rfl | (simp; done) | omega)) | (with_reducible refine keep_alloc _ ?_) | ((with_reducible refine keep_set _ ?_ ?_); (focus first | omega | (simp; done) | (simp; omega))) | ((with_reducible refine keep_set' _ ?_ ?_); (focus first | omega | (simp; done))) | ((with_reducible refine keep_same (u := ?_) _ ?_); rotate_left) | ((with_reducible refine keep_setA _ ?_ ?_); (focus first | omega | (simp; done) | (simp; omega))) | ((with_reducible refine keep_below (w := ?_) ?_ ?_); rotate_left; (with_reducible assumption))))))
    have p_ : w12.cell? ⟨w4.heap.size, 0, none⟩ = some (.int .i64 R0) ∧ w12.cell? ⟨w4.heap.size, 1, none⟩ = some (.int .i64 R1) ∧ w12.cell? ⟨w4.heap.size, 2, none⟩ = some (.int .i64 R2) ∧ w12.cell? ⟨w4.heap.size, 3, none⟩ = some (.slice Pg N pg) := by (((try dsimp only); (repeat' apply And.intro) <;> (repeat (first | with_reducible assumption | (with_reducible refine keep_drew ?_) | (with_reducible refine keep_drewN ?_) | ((with_reducible refine keep_new _ _ _ _ _ _ ?_ ?_) <;> (first | rfl | (simp; done) | omega)) | (with_reducible refine keep_alloc _ ?_) | ((with_reducible refine keep_set _ ?_ ?_); (focus first | omega | (simp; done) | (simp; omega))) | ((with_reducible refine keep_set' _ ?_ ?_); (focus first | omega | (simp; done))) | ((with_reducible refine keep_same (u := ?_) _ ?_); rotate_left) | ((with_reducible refine keep_setA _ ?_ ?_); (focus first | omega | (simp; done) | (simp; omega))) | ((with_reducible refine keep_below (w := ?_) ?_ ?_); rotate_left; (with_reducible assumption))))))
    have B3 : Below w.heap.size w w12 := (by repeat (first | with_reducible exact Below.refl _ _ | with_reducible assumption | (with_reducible refine Below.drew ?_) | (with_reducible refine below_drewN ?_ _) | ((with_reducible refine Below.alloc ?_ ?_ _); rotate_left; (focus first | exact Nat.le_refl _ | omega | (simp; done) | (simp; omega))) | ((with_reducible refine Below.setCell ?_ ?_ _); rotate_left; (focus first | exact Nat.le_refl _ | omega | (simp; done) | (simp; omega))) | ((with_reducible refine below_via (W := ?_) ?_ ?_ ?_); rotate_left; (with_reducible assumption); rotate_left; (focus first | exact Nat.le_refl _ | omega | (simp; done) | (simp; omega)))))
    (try clear hcw12 hfw12 hcd hfd)
    clear hbw12 sw12 hbd sd B2
    have B2 := B3
    clear B3
    (try clear Pd0)
    (try clear t0 t1 t2 t3)
    (try clear u0 u1 u2 u3)
    obtain ⟨u0, u1, u2, u3⟩ := u_
    (try clear p0 p1 p2 p3)
    obtain ⟨p0, p1, p2, p3⟩ := p_
    have y12 : w4.heap.size < w12.heap.size := World.block_lt_of_cell? _ _ p0
    have y12' : w2.heap.size < w12.heap.size := World.block_lt_of_cell? _ _ u0
    go_wp2_with fail
    refine (eqProfile R0 R1 R2 _ _ N _ _ Z _ (Rd.below (by repeat (first | with_reducible exact Below.refl _ _ | with_reducible assumption | (with_reducible refine Below.drew ?_) | (with_reducible refine below_drewN ?_ _) | ((with_reducible refine Below.alloc ?_ ?_ _); rotate_left; (focus first | exact Nat.le_refl _ | omega | (simp; done) | (simp; omega))) | ((with_reducible refine Below.setCell ?_ ?_ _); rotate_left; (focus first | exact Nat.le_refl _ | omega | (simp; done) | (simp; omega))) | ((with_reducible refine below_via (W := ?_) ?_ ?_ ?_); rotate_left; (with_reducible assumption); rotate_left; (focus first | exact Nat.le_refl _ | omega | (simp; done) | (simp; omega))))) Oh0.out.rd) (Rd.below (by repeat (first | with_reducible exact Below.refl _ _ | with_reducible assumption | (with_reducible refine Below.drew ?_) | (with_reducible refine below_drewN ?_ _) | ((with_reducible refine Below.alloc ?_ ?_ _); rotate_left; (focus first | exact Nat.le_refl _ | omega | (simp; done) | (simp; omega))) | ((with_reducible refine Below.setCell ?_ ?_ _); rotate_left; (focus first | exact Nat.le_refl _ | omega | (simp; done) | (simp; omega))) | ((with_reducible refine below_via (W := ?_) ?_ ?_ ?_); rotate_left; (with_reducible assumption); rotate_left; (focus first | exact Nat.le_refl _ | omega | (simp; done) | (simp; omega))))) Ow0.out.rd) mN).mono ?_
    rintro e w13 ⟨rfl, hbz⟩
    have sz := hbz.size
    (try simp at sz)
    have N0 : Hid (Ow w13 _ _ _ _ _) := Lib.hid (Ow.below (by repeat (first | with_reducible exact Below.refl _ _ | with_reducible assumption | (with_reducible refine Below.drew ?_) | (with_reducible refine below_drewN ?_ _) | ((with_reducible refine Below.alloc ?_ ?_ _); rotate_left; (focus first | exact Nat.le_refl _ | omega | (simp; done) | (simp; omega))) | ((with_reducible refine Below.setCell ?_ ?_ _); rotate_left; (focus first | exact Nat.le_refl _ | omega | (simp; done) | (simp; omega))) | ((with_reducible refine below_via (W := ?_) ?_ ?_ ?_); rotate_left; (with_reducible assumption); rotate_left; (focus first | exact Nat.le_refl _ | omega | (simp; done) | (simp; omega))))) Og0.out)
    clear Og0
    have Og0 := N0
    clear N0
    have p_ : w13.cell? ⟨w4.heap.size, 0, none⟩ = some (.int .i64 R0) ∧ w13.cell? ⟨w4.heap.size, 1, none⟩ = some (.int .i64 R1) ∧ w13.cell? ⟨w4.heap.size, 2, none⟩ = some (.int .i64 R2) ∧ w13.cell? ⟨w4.heap.size, 3, none⟩ = some (.slice Pg N pg) := by (((try dsimp only); (repeat' apply And.intro) <;> (repeat (first | with_reducible assumption | (with_reducible refine keep_drew ?_) | (with_reducible refine keep_drewN ?_) | ((with_reducible refine keep_new _ _ _ _ _ _ ?_ ?_) <;> (first | rfl | (simp; done) | omega)) | (with_reducible refine keep_alloc _ ?_) | ((with_reducible refine keep_set _ ?_ ?_); (focus first | omega | (simp; done) | (simp; omega))) | ((with_reducible refine keep_set' _ ?_ ?_); (focus first | omega | (simp; done))) | ((with_reducible refine keep_same (u := ?_) _ ?_); rotate_left) | ((with_reducible refine keep_setA _ ?_ ?_); (focus first | omega | (simp; done) | (simp; omega))) | ((with_reducible refine keep_below (w := ?_) ?_ ?_); rotate_left; (with_reducible assumption))))))
    have B3 : Below w.heap.size w w13 := (by repeat (first | with_reducible exact Below.refl _ _ | with_reducible assumption | (with_reducible refine Below.drew ?_) | (with_reducible refine below_drewN ?_ _) | ((with_reducible refine Below.alloc ?_ ?_ _); rotate_left; (focus first | exact Nat.le_refl _ | omega | (simp; done) | (simp; omega))) | ((with_reducible refine Below.setCell ?_ ?_ _); rotate_left; (focus first | exact Nat.le_refl _ | omega | (simp; done) | (simp; omega))) | ((with_reducible refine below_via (W := ?_) ?_ ?_ ?_); rotate_left; (with_reducible assumption); rotate_left; (focus first | exact Nat.le_refl _ | omega | (simp; done) | (simp; omega)))))
    clear hbz B2
    have B2 := B3
    clear B3
    (try clear p0 p1 p2 p3)
    obtain ⟨p0, p1, p2, p3⟩ := p_
    have y13 : w4.heap.size < w13.heap.size := World.block_lt_of_cell? _ _ p0
    go_wp2_with fail
    refine (heldProfile R0 R1 R2 _ N _ 1 _ (Rd.below (by repeat (first | with_reducible exact Below.refl _ _ | with_reducible assumption | (with_reducible refine Below.drew ?_) | (with_reducible refine below_drewN ?_ _) | ((with_reducible refine Below.alloc ?_ ?_ _); rotate_left; (focus first | exact Nat.le_refl _ | omega | (simp; done) | (simp; omega))) | ((with_reducible refine Below.setCell ?_ ?_ _); rotate_left; (focus first | exact Nat.le_refl _ | omega | (simp; done) | (simp; omega))) | ((with_reducible refine below_via (W := ?_) ?_ ?_ ?_); rotate_left; (with_reducible assumption); rotate_left; (focus first | exact Nat.le_refl _ | omega | (simp; done) | (simp; omega))))) Og0.out.rd) (by omega) (by omega)).mono ?_
    rintro e w14 ⟨rfl, hbz⟩
    have sz := hbz.size
    (try simp at sz)
    go_wp2_with fail
    go_ret
    exact ⟨rfl, (by repeat (first | with_reducible exact Below.refl _ _ | with_reducible assumption | (with_reducible refine Below.drew ?_) | (with_reducible refine below_drewN ?_ _) | ((with_reducible refine Below.alloc ?_ ?_ _); rotate_left; (focus first | exact Nat.le_refl _ | omega | (simp; done) | (simp; omega))) | ((with_reducible refine Below.setCell ?_ ?_ _); rotate_left; (focus first | exact Nat.le_refl _ | omega | (simp; done) | (simp; omega))) | ((with_reducible refine below_via (W := ?_) ?_ ?_ ?_); rotate_left; (with_reducible assumption); rotate_left; (focus first | exact Nat.le_refl _ | omega | (simp; done) | (simp; omega)))))⟩
  · have q0 := szG_no hsz
    have b0 : szG (n0) 1048576 < 0 := by omega
    have Z0 := Lib.hid (fun w => szProfile pd0 pf0 pl0 A0 n0 c0 1048576 w knn0 (by omega))
    clear raA0 q0
    go_enter Try.func12, Try.ntmps12
    go_wp2_with fail
    refine (Z0.out _).mono ?_
    rintro e w' ⟨rfl, rfl⟩
    go_wp2_with fail
    go_ret
    exact ⟨rfl, (by repeat (first | with_reducible exact Below.refl _ _ | with_reducible assumption | (with_reducible refine Below.drew ?_) | (with_reducible refine below_drewN ?_ _) | ((with_reducible refine Below.alloc ?_ ?_ _); rotate_left; (focus first | exact Nat.le_refl _ | omega | (simp; done) | (simp; omega))) | ((with_reducible refine Below.setCell ?_ ?_ _); rotate_left; (focus first | exact Nat.le_refl _ | omega | (simp; done) | (simp; omega))) | ((with_reducible refine below_via (W := ?_) ?_ ?_ ?_); rotate_left; (with_reducible assumption); rotate_left; (focus first | exact Nat.le_refl _ | omega | (simp; done) | (simp; omega)))))⟩

theorem law (pd0 : Int) (pf0 : Int) (pl0 : Int) (A0 : Option Addr) (n0 c0 : Nat) (hs0 : List Int) (w : World) (raA0 : Rd w A0 n0 hs0) (knn0 : n0 ≤ maxLen) :
    Calls Try.prog 12 #[.agg #[.int .i64 pd0, .int .i64 pf0, .int .i64 pl0, .slice A0 n0 c0]] w fun e w' => e = .returned (.bool true) ∧ Below w.heap.size w w' := by
  have bN : (turnR pd0 pf0 pl0 n0 hs0).2.2.2.2.1 ≤ 1048576 := by
    unfold turnR
    cases h1 : profB pd0 pf0 pl0 n0 hs0 <;> first | exact Nat.zero_le _ | (have h2 := (prof_yes h1).2.2.2.2.1; show n0 ≤ _; omega)
  exact frame pd0 pf0 pl0 A0 n0 c0 hs0 (turnR pd0 pf0 pl0 n0 hs0).1 (turnR pd0 pf0 pl0 n0 hs0).2.1 (turnR pd0 pf0 pl0 n0 hs0).2.2.1 (turnR pd0 pf0 pl0 n0 hs0).2.2.2.2.1 (turnR pd0 pf0 pl0 n0 hs0).2.2.2.2.2 (turnR pd0 pf0 pl0 n0 hs0).2.2.2.1 w raA0 knn0 bN (fun W g ra => specTurn pd0 pf0 pl0 _ n0 _ hs0 W ra knn0) (fun W g ra => implTurn pd0 pf0 pl0 _ n0 _ hs0 W ra knn0)

end Go.Proofs.Ytgondkjephojjaa.LawTurnProfile
