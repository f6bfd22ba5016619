/- The walk of the law FnExactReadTerrain over whatever the two functions give. Printed by a program (mklaw2.py). -/
import Derived.Test.YtemjjjjkokfjdaaDoorWalkX
import Derived.Test.YtemjjjjkokfjdaaDoorWalkTd
import Derived.Test.YtemjjjjkokfjdaaDoorWalkTf
import Derived.Deep.RegionHeld3
namespace Go.Proofs.YtemjjjjkokfjdaaDoor.LawReadTerrain
open Go Go.RowKit Go.Proofs.YtemjjjjkokfjdaaDoor.Base Go.Proofs.YtemjjjjkokfjdaaDoor.Plain Go.Proofs.YtemjjjjkokfjdaaDoor.Words Go.Proofs.YtemjjjjkokfjdaaDoor.Ints Go.Proofs.YtemjjjjkokfjdaaDoor.WalkN Go.Proofs.YtemjjjjkokfjdaaDoor.WalkP Go.Proofs.YtemjjjjkokfjdaaDoor.WalkI Go.Proofs.YtemjjjjkokfjdaaDoor.WalkX
set_option linter.unusedVariables false
set_option linter.unusedSimpArgs false
set_option maxRecDepth 100000 in
set_option maxHeartbeats 8000000 in
theorem frame (a0 : ByteArray) (R0 : Int) (R1 : Int) (R2 : Int) (N : Nat) (Z : List Int) (M : Nat) (Y : List Int) (C : Bool) (w : World) (ws0 : a0.size ≤ maxLen) (bN : N ≤ 1048576) (bM : M ≤ 1048576)
    (SP0 : ∀ (W : World), Calls Tryd.prog 5 #[.string a0] W fun e w' => ∃ (P : Option Addr) (p : Nat) (Q : Option Addr) (q : Nat), e = .returned (.tuple #[.agg #[.int .i64 R0, .int .i64 R1, .int .i64 R2, .slice P N p, .slice Q M q], .bool C]) ∧ Ow w' W.heap.size P N p Z ∧ Ow w' W.heap.size Q M q Y ∧ Ap P Q ∧ Below W.heap.size W w')
    (IM0 : ∀ (W : World), Below w.heap.size w W → Calls Tryd.prog 6 #[.string a0] W fun e w' => ∃ (P : Option Addr) (p : Nat) (Q : Option Addr) (q : Nat), e = .returned (.tuple #[.agg #[.int .i64 R0, .int .i64 R1, .int .i64 R2, .slice P N p, .slice Q M q], .bool C]) ∧ Ow w' W.heap.size P N p Z ∧ Ow w' W.heap.size Q M q Y ∧ Ap P Q ∧ Below W.heap.size W w') :
    Calls Tryd.prog 3 #[.string a0] w fun e w' => e = .returned (.bool true) ∧ Below w.heap.size w w' := by
  have SP := Lib.hid SP0
  have IM := Lib.hid IM0
  clear SP0 IM0
  have mN : N ≤ maxLen := by unfold maxLen; omega
  have mM : M ≤ maxLen := by unfold maxLen; omega
  unfold maxLen at ws0
  by_cases hsz : a0.size ≤ 1048576
  · skip
    go_enter Tryd.func3, Tryd.ntmps3
    go_wp2_with fail
    refine (SP.out _  ).mono ?_
    rintro e w2 ⟨Pw, pw, Qw, qw, rfl, ow0, ow1, apw, hbw2⟩
    have sw2 := hbw2.size
    (try simp at sw2)
    have B2 : Below w.heap.size w w2 := (by repeat (first | with_reducible exact Below.refl _ _ | with_reducible assumption | (with_reducible refine Below.drew ?_) | (with_reducible refine below_drewN ?_ _) | ((with_reducible refine Below.alloc ?_ ?_ _); rotate_left; (focus first | exact Nat.le_refl _ | omega | (simp; done) | (simp; omega))) | ((with_reducible refine Below.setCell ?_ ?_ _); rotate_left; (focus first | exact Nat.le_refl _ | omega | (simp; done) | (simp; omega))) | ((with_reducible refine below_via (W := ?_) ?_ ?_ ?_); rotate_left; (with_reducible assumption); rotate_left; (focus first | exact Nat.le_refl _ | omega | (simp; done) | (simp; omega)))))
    have WB0 : ∀ a, Pw = some a → a.block < w2.heap.size := fun a ha => (ow0.block ha).2
    have WB1 : ∀ a, Qw = some a → a.block < w2.heap.size := fun a ha => (ow1.block ha).2
    have Ow0 := Lib.hid ow0
    have Ow1 := Lib.hid ow1
    clear ow0 ow1
    have APw := Lib.hid apw
    clear apw
    (try clear hc2 hf2 hcw2 hfw2 hca hfa)
    clear hbw2 sw2
    have z2 := B2.size
    go_wp2_with fail
    refine (IM.out _ (by repeat (first | with_reducible exact Below.refl _ _ | with_reducible assumption | (with_reducible refine Below.drew ?_) | (with_reducible refine below_drewN ?_ _) | ((with_reducible refine Below.alloc ?_ ?_ _); rotate_left; (focus first | exact Nat.le_refl _ | omega | (simp; done) | (simp; omega))) | ((with_reducible refine Below.setCell ?_ ?_ _); rotate_left; (focus first | exact Nat.le_refl _ | omega | (simp; done) | (simp; omega))) | ((with_reducible refine below_via (W := ?_) ?_ ?_ ?_); rotate_left; (with_reducible assumption); rotate_left; (focus first | exact Nat.le_refl _ | omega | (simp; done) | (simp; omega)))))).mono ?_
    rintro e w4 ⟨Pg, pg, Qg, qg, rfl, og0, og1, apg, hbw4⟩
    have sw4 := hbw4.size
    (try simp at sw4)
    have Og0 := Lib.hid og0
    have Og1 := Lib.hid og1
    clear og0 og1
    have APg := Lib.hid apg
    clear apg
    have N0 : Hid (Ow w4 _ _ _ _ _) := Lib.hid (Ow.below (by repeat (first | with_reducible exact Below.refl _ _ | with_reducible assumption | (with_reducible refine Below.drew ?_) | (with_reducible refine below_drewN ?_ _) | ((with_reducible refine Below.alloc ?_ ?_ _); rotate_left; (focus first | exact Nat.le_refl _ | omega | (simp; done) | (simp; omega))) | ((with_reducible refine Below.setCell ?_ ?_ _); rotate_left; (focus first | exact Nat.le_refl _ | omega | (simp; done) | (simp; omega))) | ((with_reducible refine below_via (W := ?_) ?_ ?_ ?_); rotate_left; (with_reducible assumption); rotate_left; (focus first | exact Nat.le_refl _ | omega | (simp; done) | (simp; omega))))) Ow0.out)
    clear Ow0
    have Ow0 := N0
    clear N0
    have N1 : Hid (Ow w4 _ _ _ _ _) := Lib.hid (Ow.below (by repeat (first | with_reducible exact Below.refl _ _ | with_reducible assumption | (with_reducible refine Below.drew ?_) | (with_reducible refine below_drewN ?_ _) | ((with_reducible refine Below.alloc ?_ ?_ _); rotate_left; (focus first | exact Nat.le_refl _ | omega | (simp; done) | (simp; omega))) | ((with_reducible refine Below.setCell ?_ ?_ _); rotate_left; (focus first | exact Nat.le_refl _ | omega | (simp; done) | (simp; omega))) | ((with_reducible refine below_via (W := ?_) ?_ ?_ ?_); rotate_left; (with_reducible assumption); rotate_left; (focus first | exact Nat.le_refl _ | omega | (simp; done) | (simp; omega))))) Ow1.out)
    clear Ow1
    have Ow1 := N1
    clear N1
    have u_ : w4.cell? ⟨w2.heap.size, 0, none⟩ = some (.int .i64 R0) ∧ w4.cell? ⟨w2.heap.size, 1, none⟩ = some (.int .i64 R1) ∧ w4.cell? ⟨w2.heap.size, 2, none⟩ = some (.int .i64 R2) ∧ w4.cell? ⟨w2.heap.size, 3, none⟩ = some (.slice Pw N pw) ∧ w4.cell? ⟨w2.heap.size, 4, none⟩ = some (.slice Qw M qw) := by (((try dsimp only); (repeat' apply And.intro) <;> (repeat (first | with_reducible assumption | (with_reducible refine keep_drew ?_) | (with_reducible refine keep_drewN ?_) | ((with_reducible refine keep_new _ _ _ _ _ _ ?_ ?_) <;> (first | rfl | (simp; done) | omega)) | (with_reducible refine keep_alloc _ ?_) | ((with_reducible refine keep_set _ ?_ ?_); (focus first | omega | (simp; done) | (simp; omega))) | ((with_reducible refine keep_set' _ ?_ ?_); (focus first | omega | (simp; done))) | ((with_reducible refine keep_same (u := ?_) _ ?_); rotate_left) | ((with_reducible refine keep_setA _ ?_ ?_); (focus first | omega | (simp; done) | (simp; omega))) | ((with_reducible refine keep_below (w := ?_) ?_ ?_); rotate_left; (with_reducible assumption))))))
    have B3 : Below w.heap.size w w4 := (by repeat (first | with_reducible exact Below.refl _ _ | with_reducible assumption | (with_reducible refine Below.drew ?_) | (with_reducible refine below_drewN ?_ _) | ((with_reducible refine Below.alloc ?_ ?_ _); rotate_left; (focus first | exact Nat.le_refl _ | omega | (simp; done) | (simp; omega))) | ((with_reducible refine Below.setCell ?_ ?_ _); rotate_left; (focus first | exact Nat.le_refl _ | omega | (simp; done) | (simp; omega))) | ((with_reducible refine below_via (W := ?_) ?_ ?_ ?_); rotate_left; (with_reducible assumption); rotate_left; (focus first | exact Nat.le_refl _ | omega | (simp; done) | (simp; omega)))))
    (try clear hcw4 hfw4 hc2 hf2)
    clear hbw4 B2
    have B2 := B3
    clear B3
    (try clear u0 u1 u2 u3 u4)
    obtain ⟨u0, u1, u2, u3, u4⟩ := u_
    have y4 : w2.heap.size < w4.heap.size := World.block_lt_of_cell? _ _ u0
    have GB0 : ∀ a, Pg = some a → w2.heap.size < a.block ∧ a.block < w4.heap.size := fun a ha => by have h := Og0.out.block ha; (try simp at h); omega
    have GB1 : ∀ a, Qg = some a → w2.heap.size < a.block ∧ a.block < w4.heap.size := fun a ha => by have h := Og1.out.block ha; (try simp at h); omega
    go_wp2_with fail
    refine (eqTerrain R0 R1 R2 _ _ N _ _ Z _ _ M _ _ Y _ (Rd.below (by repeat (first | with_reducible exact Below.refl _ _ | with_reducible assumption | (with_reducible refine Below.drew ?_) | (with_reducible refine below_drewN ?_ _) | ((with_reducible refine Below.alloc ?_ ?_ _); rotate_left; (focus first | exact Nat.le_refl _ | omega | (simp; done) | (simp; omega))) | ((with_reducible refine Below.setCell ?_ ?_ _); rotate_left; (focus first | exact Nat.le_refl _ | omega | (simp; done) | (simp; omega))) | ((with_reducible refine below_via (W := ?_) ?_ ?_ ?_); rotate_left; (with_reducible assumption); rotate_left; (focus first | exact Nat.le_refl _ | omega | (simp; done) | (simp; omega))))) Og0.out.rd) (Rd.below (by repeat (first | with_reducible exact Below.refl _ _ | with_reducible assumption | (with_reducible refine Below.drew ?_) | (with_reducible refine below_drewN ?_ _) | ((with_reducible refine Below.alloc ?_ ?_ _); rotate_left; (focus first | exact Nat.le_refl _ | omega | (simp; done) | (simp; omega))) | ((with_reducible refine Below.setCell ?_ ?_ _); rotate_left; (focus first | exact Nat.le_refl _ | omega | (simp; done) | (simp; omega))) | ((with_reducible refine below_via (W := ?_) ?_ ?_ ?_); rotate_left; (with_reducible assumption); rotate_left; (focus first | exact Nat.le_refl _ | omega | (simp; done) | (simp; omega))))) Ow0.out.rd) mN (Rd.below (by repeat (first | with_reducible exact Below.refl _ _ | with_reducible assumption | (with_reducible refine Below.drew ?_) | (with_reducible refine below_drewN ?_ _) | ((with_reducible refine Below.alloc ?_ ?_ _); rotate_left; (focus first | exact Nat.le_refl _ | omega | (simp; done) | (simp; omega))) | ((with_reducible refine Below.setCell ?_ ?_ _); rotate_left; (focus first | exact Nat.le_refl _ | omega | (simp; done) | (simp; omega))) | ((with_reducible refine below_via (W := ?_) ?_ ?_ ?_); rotate_left; (with_reducible assumption); rotate_left; (focus first | exact Nat.le_refl _ | omega | (simp; done) | (simp; omega))))) Og1.out.rd) (Rd.below (by repeat (first | with_reducible exact Below.refl _ _ | with_reducible assumption | (with_reducible refine Below.drew ?_) | (with_reducible refine below_drewN ?_ _) | ((with_reducible refine Below.alloc ?_ ?_ _); rotate_left; (focus first | exact Nat.le_refl _ | omega | (simp; done) | (simp; omega))) | ((with_reducible refine Below.setCell ?_ ?_ _); rotate_left; (focus first | exact Nat.le_refl _ | omega | (simp; done) | (simp; omega))) | ((with_reducible refine below_via (W := ?_) ?_ ?_ ?_); rotate_left; (with_reducible assumption); rotate_left; (focus first | exact Nat.le_refl _ | omega | (simp; done) | (simp; omega))))) Ow1.out.rd) mM).mono ?_
    rintro e w5 ⟨rfl, hbz⟩
    have sz := hbz.size
    (try simp at sz)
    have N0 : Hid (Ow w5 _ _ _ _ _) := Lib.hid (Ow.below (by repeat (first | with_reducible exact Below.refl _ _ | with_reducible assumption | (with_reducible refine Below.drew ?_) | (with_reducible refine below_drewN ?_ _) | ((with_reducible refine Below.alloc ?_ ?_ _); rotate_left; (focus first | exact Nat.le_refl _ | omega | (simp; done) | (simp; omega))) | ((with_reducible refine Below.setCell ?_ ?_ _); rotate_left; (focus first | exact Nat.le_refl _ | omega | (simp; done) | (simp; omega))) | ((with_reducible refine below_via (W := ?_) ?_ ?_ ?_); rotate_left; (with_reducible assumption); rotate_left; (focus first | exact Nat.le_refl _ | omega | (simp; done) | (simp; omega))))) Ow0.out)
    clear Ow0
    have Ow0 := N0
    clear N0
    have N1 : Hid (Ow w5 _ _ _ _ _) := Lib.hid (Ow.below (by repeat (first | with_reducible exact Below.refl _ _ | with_reducible assumption | (with_reducible refine Below.drew ?_) | (with_reducible refine below_drewN ?_ _) | ((with_reducible refine Below.alloc ?_ ?_ _); rotate_left; (focus first | exact Nat.le_refl _ | omega | (simp; done) | (simp; omega))) | ((with_reducible refine Below.setCell ?_ ?_ _); rotate_left; (focus first | exact Nat.le_refl _ | omega | (simp; done) | (simp; omega))) | ((with_reducible refine below_via (W := ?_) ?_ ?_ ?_); rotate_left; (with_reducible assumption); rotate_left; (focus first | exact Nat.le_refl _ | omega | (simp; done) | (simp; omega))))) Ow1.out)
    clear Ow1
    have Ow1 := N1
    clear N1
    have N0 : Hid (Ow w5 _ _ _ _ _) := Lib.hid (Ow.below (by repeat (first | with_reducible exact Below.refl _ _ | with_reducible assumption | (with_reducible refine Below.drew ?_) | (with_reducible refine below_drewN ?_ _) | ((with_reducible refine Below.alloc ?_ ?_ _); rotate_left; (focus first | exact Nat.le_refl _ | omega | (simp; done) | (simp; omega))) | ((with_reducible refine Below.setCell ?_ ?_ _); rotate_left; (focus first | exact Nat.le_refl _ | omega | (simp; done) | (simp; omega))) | ((with_reducible refine below_via (W := ?_) ?_ ?_ ?_); rotate_left; (with_reducible assumption); rotate_left; (focus first | exact Nat.le_refl _ | omega | (simp; done) | (simp; omega))))) Og0.out)
    clear Og0
    have Og0 := N0
    clear N0
    have N1 : Hid (Ow w5 _ _ _ _ _) := Lib.hid (Ow.below (by repeat (first | with_reducible exact Below.refl _ _ | with_reducible assumption | (with_reducible refine Below.drew ?_) | (with_reducible refine below_drewN ?_ _) | ((with_reducible refine Below.alloc ?_ ?_ _); rotate_left; (focus first | exact Nat.le_refl _ | omega | (simp; done) | (simp; omega))) | ((with_reducible refine Below.setCell ?_ ?_ _); rotate_left; (focus first | exact Nat.le_refl _ | omega | (simp; done) | (simp; omega))) | ((with_reducible refine below_via (W := ?_) ?_ ?_ ?_); rotate_left; (with_reducible assumption); rotate_left; (focus first | exact Nat.le_refl _ | omega | (simp; done) | (simp; omega))))) Og1.out)
    clear Og1
    have Og1 := N1
    clear N1
    have u_ : w5.cell? ⟨w2.heap.size, 0, none⟩ = some (.int .i64 R0) ∧ w5.cell? ⟨w2.heap.size, 1, none⟩ = some (.int .i64 R1) ∧ w5.cell? ⟨w2.heap.size, 2, none⟩ = some (.int .i64 R2) ∧ w5.cell? ⟨w2.heap.size, 3, none⟩ = some (.slice Pw N pw) ∧ w5.cell? ⟨w2.heap.size, 4, none⟩ = some (.slice Qw M qw) := by (((try dsimp only); (repeat' apply And.intro) <;> (repeat (first | with_reducible assumption | (with_reducible refine keep_drew ?_) | (with_reducible refine keep_drewN ?_) | ((with_reducible refine keep_new _ _ _ _ _ _ ?_ ?_) <;> (first | rfl | (simp; done) | omega)) | (with_reducible refine keep_alloc _ ?_) | ((with_reducible refine keep_set _ ?_ ?_); (focus first | omega | (simp; done) | (simp; omega))) | ((with_reducible refine keep_set' _ ?_ ?_); (focus first | omega | (simp; done))) | ((with_reducible refine keep_same (u := ?_) _ ?_); rotate_left) | ((with_reducible refine keep_setA _ ?_ ?_); (focus first | omega | (simp; done) | (simp; omega))) | ((with_reducible refine keep_below (w := ?_) ?_ ?_); rotate_left; (with_reducible assumption))))))
    have p_ : w5.cell? ⟨w4.heap.size, 0, none⟩ = some (.int .i64 R0) ∧ w5.cell? ⟨w4.heap.size, 1, none⟩ = some (.int .i64 R1) ∧ w5.cell? ⟨w4.heap.size, 2, none⟩ = some (.int .i64 R2) ∧ w5.cell? ⟨w4.heap.size, 3, none⟩ = some (.slice Pg N pg) ∧ w5.cell? ⟨w4.heap.size, 4, none⟩ = some (.slice Qg M qg) := by (((try dsimp only); (repeat' apply And.intro) <;> (repeat (first | with_reducible assumption | (with_reducible refine keep_drew ?_) | (with_reducible refine keep_drewN ?_) | ((with_reducible refine keep_new _ _ _ _ _ _ ?_ ?_) <;> (first | rfl | (simp; done) | omega)) | (with_reducible refine keep_alloc _ ?_) | ((with_reducible refine keep_set _ ?_ ?_); (focus first | omega | (simp; done) | (simp; omega))) | ((with_reducible refine keep_set' _ ?_ ?_); (focus first | omega | (simp; done))) | ((with_reducible refine keep_same (u := ?_) _ ?_); rotate_left) | ((with_reducible refine keep_setA _ ?_ ?_); (focus first | omega | (simp; done) | (simp; omega))) | ((with_reducible refine keep_below (w := ?_) ?_ ?_); rotate_left; (with_reducible assumption))))))
    have B3 : Below w.heap.size w w5 := (by repeat (first | with_reducible exact Below.refl _ _ | with_reducible assumption | (with_reducible refine Below.drew ?_) | (with_reducible refine below_drewN ?_ _) | ((with_reducible refine Below.alloc ?_ ?_ _); rotate_left; (focus first | exact Nat.le_refl _ | omega | (simp; done) | (simp; omega))) | ((with_reducible refine Below.setCell ?_ ?_ _); rotate_left; (focus first | exact Nat.le_refl _ | omega | (simp; done) | (simp; omega))) | ((with_reducible refine below_via (W := ?_) ?_ ?_ ?_); rotate_left; (with_reducible assumption); rotate_left; (focus first | exact Nat.le_refl _ | omega | (simp; done) | (simp; omega)))))
    clear hbz B2
    have B2 := B3
    clear B3
    (try clear u0 u1 u2 u3 u4)
    obtain ⟨u0, u1, u2, u3, u4⟩ := u_
    (try clear p0 p1 p2 p3 p4)
    obtain ⟨p0, p1, p2, p3, p4⟩ := p_
    have y5 : w4.heap.size < w5.heap.size := World.block_lt_of_cell? _ _ p0
    have yuw5 : w2.heap.size < w5.heap.size := by omega
    go_wp2_with fail
    refine (markTerrain R0 R1 R2 _ N _ _ Z _ M _ _ Y 1 _ Og0.out (by omega) Og1.out (by omega) APg.out (by omega)).mono ?_
    rintro e w9 ⟨rfl, mg0, mg1, g9⟩
    have u_ : w9.cell? ⟨w2.heap.size, 0, none⟩ = some (.int .i64 R0) ∧ w9.cell? ⟨w2.heap.size, 1, none⟩ = some (.int .i64 R1) ∧ w9.cell? ⟨w2.heap.size, 2, none⟩ = some (.int .i64 R2) ∧ w9.cell? ⟨w2.heap.size, 3, none⟩ = some (.slice Pw N pw) ∧ w9.cell? ⟨w2.heap.size, 4, none⟩ = some (.slice Qw M qw) := ⟨keep_gr2 g9 (fun b hb => by have h := GB0 b hb; intro e; dsimp only at e; omega) (fun b hb => by have h := GB1 b hb; intro e; dsimp only at e; omega) u0, keep_gr2 g9 (fun b hb => by have h := GB0 b hb; intro e; dsimp only at e; omega) (fun b hb => by have h := GB1 b hb; intro e; dsimp only at e; omega) u1, keep_gr2 g9 (fun b hb => by have h := GB0 b hb; intro e; dsimp only at e; omega) (fun b hb => by have h := GB1 b hb; intro e; dsimp only at e; omega) u2, keep_gr2 g9 (fun b hb => by have h := GB0 b hb; intro e; dsimp only at e; omega) (fun b hb => by have h := GB1 b hb; intro e; dsimp only at e; omega) u3, keep_gr2 g9 (fun b hb => by have h := GB0 b hb; intro e; dsimp only at e; omega) (fun b hb => by have h := GB1 b hb; intro e; dsimp only at e; omega) u4⟩
    have p_ : w9.cell? ⟨w4.heap.size, 0, none⟩ = some (.int .i64 R0) ∧ w9.cell? ⟨w4.heap.size, 1, none⟩ = some (.int .i64 R1) ∧ w9.cell? ⟨w4.heap.size, 2, none⟩ = some (.int .i64 R2) ∧ w9.cell? ⟨w4.heap.size, 3, none⟩ = some (.slice Pg N pg) ∧ w9.cell? ⟨w4.heap.size, 4, none⟩ = some (.slice Qg M qg) := ⟨keep_gr2 g9 (fun b hb => by have h := GB0 b hb; intro e; dsimp only at e; omega) (fun b hb => by have h := GB1 b hb; intro e; dsimp only at e; omega) p0, keep_gr2 g9 (fun b hb => by have h := GB0 b hb; intro e; dsimp only at e; omega) (fun b hb => by have h := GB1 b hb; intro e; dsimp only at e; omega) p1, keep_gr2 g9 (fun b hb => by have h := GB0 b hb; intro e; dsimp only at e; omega) (fun b hb => by have h := GB1 b hb; intro e; dsimp only at e; omega) p2, keep_gr2 g9 (fun b hb => by have h := GB0 b hb; intro e; dsimp only at e; omega) (fun b hb => by have h := GB1 b hb; intro e; dsimp only at e; omega) p3, keep_gr2 g9 (fun b hb => by have h := GB0 b hb; intro e; dsimp only at e; omega) (fun b hb => by have h := GB1 b hb; intro e; dsimp only at e; omega) p4⟩
    have N0 := Lib.hid (Ow.gr2 Ow0.out g9 (fun a b ha hb => by have h := WB0 a ha; have h' := GB0 b hb; omega) (fun a b ha hb => by have h := WB0 a ha; have h' := GB1 b hb; omega))
    clear Ow0
    have Ow0 := N0
    clear N0
    have N1 := Lib.hid (Ow.gr2 Ow1.out g9 (fun a b ha hb => by have h := WB1 a ha; have h' := GB0 b hb; omega) (fun a b ha hb => by have h := WB1 a ha; have h' := GB1 b hb; omega))
    clear Ow1
    have Ow1 := N1
    clear N1
    clear Og0
    have Og0 := Lib.hid mg0
    clear mg0
    clear Og1
    have Og1 := Lib.hid mg1
    clear mg1
    have B3 : Below w.heap.size w w9 := B2.trans (Gr2.below g9 (fun b hb => by have h := GB0 b hb; omega) (fun b hb => by have h := GB1 b hb; omega) (by omega))
    have s9 := g9.size
    clear g9 B2
    have B2 := B3
    clear B3
    (try clear u0 u1 u2 u3 u4)
    obtain ⟨u0, u1, u2, u3, u4⟩ := u_
    (try clear p0 p1 p2 p3 p4)
    obtain ⟨p0, p1, p2, p3, p4⟩ := p_
    have y9 : w4.heap.size < w9.heap.size := by omega
    have yuw9 : w2.heap.size < w9.heap.size := by omega
    go_wp2_with fail
    refine (heldTerrain R0 R1 R2 _ N _ _ M _ 1 _ (Rd.below (by repeat (first | with_reducible exact Below.refl _ _ | with_reducible assumption | (with_reducible refine Below.drew ?_) | (with_reducible refine below_drewN ?_ _) | ((with_reducible refine Below.alloc ?_ ?_ _); rotate_left; (focus first | exact Nat.le_refl _ | omega | (simp; done) | (simp; omega))) | ((with_reducible refine Below.setCell ?_ ?_ _); rotate_left; (focus first | exact Nat.le_refl _ | omega | (simp; done) | (simp; omega))) | ((with_reducible refine below_via (W := ?_) ?_ ?_ ?_); rotate_left; (with_reducible assumption); rotate_left; (focus first | exact Nat.le_refl _ | omega | (simp; done) | (simp; omega))))) Og0.out.rd) (by omega) (Rd.below (by repeat (first | with_reducible exact Below.refl _ _ | with_reducible assumption | (with_reducible refine Below.drew ?_) | (with_reducible refine below_drewN ?_ _) | ((with_reducible refine Below.alloc ?_ ?_ _); rotate_left; (focus first | exact Nat.le_refl _ | omega | (simp; done) | (simp; omega))) | ((with_reducible refine Below.setCell ?_ ?_ _); rotate_left; (focus first | exact Nat.le_refl _ | omega | (simp; done) | (simp; omega))) | ((with_reducible refine below_via (W := ?_) ?_ ?_ ?_); rotate_left; (with_reducible assumption); rotate_left; (focus first | exact Nat.le_refl _ | omega | (simp; done) | (simp; omega))))) Og1.out.rd) (by omega) (by omega)).mono ?_
    rintro e w10 ⟨rfl, hbz⟩
    have sz := hbz.size
    (try simp at sz)
    have N0 : Hid (Ow w10 _ _ _ _ _) := Lib.hid (Ow.below (by repeat (first | with_reducible exact Below.refl _ _ | with_reducible assumption | (with_reducible refine Below.drew ?_) | (with_reducible refine below_drewN ?_ _) | ((with_reducible refine Below.alloc ?_ ?_ _); rotate_left; (focus first | exact Nat.le_refl _ | omega | (simp; done) | (simp; omega))) | ((with_reducible refine Below.setCell ?_ ?_ _); rotate_left; (focus first | exact Nat.le_refl _ | omega | (simp; done) | (simp; omega))) | ((with_reducible refine below_via (W := ?_) ?_ ?_ ?_); rotate_left; (with_reducible assumption); rotate_left; (focus first | exact Nat.le_refl _ | omega | (simp; done) | (simp; omega))))) Ow0.out)
    clear Ow0
    have Ow0 := N0
    clear N0
    have N1 : Hid (Ow w10 _ _ _ _ _) := Lib.hid (Ow.below (by repeat (first | with_reducible exact Below.refl _ _ | with_reducible assumption | (with_reducible refine Below.drew ?_) | (with_reducible refine below_drewN ?_ _) | ((with_reducible refine Below.alloc ?_ ?_ _); rotate_left; (focus first | exact Nat.le_refl _ | omega | (simp; done) | (simp; omega))) | ((with_reducible refine Below.setCell ?_ ?_ _); rotate_left; (focus first | exact Nat.le_refl _ | omega | (simp; done) | (simp; omega))) | ((with_reducible refine below_via (W := ?_) ?_ ?_ ?_); rotate_left; (with_reducible assumption); rotate_left; (focus first | exact Nat.le_refl _ | omega | (simp; done) | (simp; omega))))) Ow1.out)
    clear Ow1
    have Ow1 := N1
    clear N1
    have N0 : Hid (Ow w10 _ _ _ _ _) := Lib.hid (Ow.below (by repeat (first | with_reducible exact Below.refl _ _ | with_reducible assumption | (with_reducible refine Below.drew ?_) | (with_reducible refine below_drewN ?_ _) | ((with_reducible refine Below.alloc ?_ ?_ _); rotate_left; (focus first | exact Nat.le_refl _ | omega | (simp; done) | (simp; omega))) | ((with_reducible refine Below.setCell ?_ ?_ _); rotate_left; (focus first | exact Nat.le_refl _ | omega | (simp; done) | (simp; omega))) | ((with_reducible refine below_via (W := ?_) ?_ ?_ ?_); rotate_left; (with_reducible assumption); rotate_left; (focus first | exact Nat.le_refl _ | omega | (simp; done) | (simp; omega))))) Og0.out)
    clear Og0
    have Og0 := N0
    clear N0
    have N1 : Hid (Ow w10 _ _ _ _ _) := Lib.hid (Ow.below (by repeat (first | with_reducible exact Below.refl _ _ | with_reducible assumption | (with_reducible refine Below.drew ?_) | (with_reducible refine below_drewN ?_ _) | ((with_reducible refine Below.alloc ?_ ?_ _); rotate_left; (focus first | exact Nat.le_refl _ | omega | (simp; done) | (simp; omega))) | ((with_reducible refine Below.setCell ?_ ?_ _); rotate_left; (focus first | exact Nat.le_refl _ | omega | (simp; done) | (simp; omega))) | ((with_reducible refine below_via (W := ?_) ?_ ?_ ?_); rotate_left; (with_reducible assumption); rotate_left; (focus first | exact Nat.le_refl _ | omega | (simp; done) | (simp; omega))))) Og1.out)
    clear Og1
    have Og1 := N1
    clear N1
    have u_ : w10.cell? ⟨w2.heap.size, 0, none⟩ = some (.int .i64 R0) ∧ w10.cell? ⟨w2.heap.size, 1, none⟩ = some (.int .i64 R1) ∧ w10.cell? ⟨w2.heap.size, 2, none⟩ = some (.int .i64 R2) ∧ w10.cell? ⟨w2.heap.size, 3, none⟩ = some (.slice Pw N pw) ∧ w10.cell? ⟨w2.heap.size, 4, none⟩ = some (.slice Qw M qw) := by (((try dsimp only); (repeat' apply And.intro) <;> (repeat (first | with_reducible assumption | (with_reducible refine keep_drew ?_) | (with_reducible refine keep_drewN ?_) | ((with_reducible refine keep_new _ _ _ _ _ _ ?_ ?_) <;> (first | rfl | (simp; done) | omega)) | (with_reducible refine keep_alloc _ ?_) | ((with_reducible refine keep_set _ ?_ ?_); (focus first | omega | (simp; done) | (simp; omega))) | ((with_reducible refine keep_set' _ ?_ ?_); (focus first | omega | (simp; done))) | ((with_reducible refine keep_same (u := ?_) _ ?_); rotate_left) | ((with_reducible refine keep_setA _ ?_ ?_); (focus first | omega | (simp; done) | (simp; omega))) | ((with_reducible refine keep_below (w := ?_) ?_ ?_); rotate_left; (with_reducible assumption))))))
    have p_ : w10.cell? ⟨w4.heap.size, 0, none⟩ = some (.int .i64 R0) ∧ w10.cell? ⟨w4.heap.size, 1, none⟩ = some (.int .i64 R1) ∧ w10.cell? ⟨w4.heap.size, 2, none⟩ = some (.int .i64 R2) ∧ w10.cell? ⟨w4.heap.size, 3, none⟩ = some (.slice Pg N pg) ∧ w10.cell? ⟨w4.heap.size, 4, none⟩ = some (.slice Qg M qg) := by (((try dsimp only); (repeat' apply And.intro) <;> (repeat (first | with_reducible assumption | (with_reducible refine keep_drew ?_) | (with_reducible refine keep_drewN ?_) | ((with_reducible refine keep_new _ _ _ _ _ _ ?_ ?_) <;> (first | rfl | (simp; done) | omega)) | (with_reducible refine keep_alloc _ ?_) | ((with_reducible refine keep_set _ ?_ ?_); (focus first | omega | (simp; done) | (simp; omega))) | ((with_reducible refine keep_set' _ ?_ ?_); (focus first | omega | (simp; done))) | ((with_reducible refine keep_same (u := ?_) _ ?_); rotate_left) | ((with_reducible refine keep_setA _ ?_ ?_); (focus first | omega | (simp; done) | (simp; omega))) | ((with_reducible refine keep_below (w := ?_) ?_ ?_); rotate_left; (with_reducible assumption))))))
    have B3 : Below w.heap.size w w10 := (by repeat (first | with_reducible exact Below.refl _ _ | with_reducible assumption | (with_reducible refine Below.drew ?_) | (with_reducible refine below_drewN ?_ _) | ((with_reducible refine Below.alloc ?_ ?_ _); rotate_left; (focus first | exact Nat.le_refl _ | omega | (simp; done) | (simp; omega))) | ((with_reducible refine Below.setCell ?_ ?_ _); rotate_left; (focus first | exact Nat.le_refl _ | omega | (simp; done) | (simp; omega))) | ((with_reducible refine below_via (W := ?_) ?_ ?_ ?_); rotate_left; (with_reducible assumption); rotate_left; (focus first | exact Nat.le_refl _ | omega | (simp; done) | (simp; omega)))))
    clear hbz B2
    have B2 := B3
    clear B3
    (try clear u0 u1 u2 u3 u4)
    obtain ⟨u0, u1, u2, u3, u4⟩ := u_
    (try clear p0 p1 p2 p3 p4)
    obtain ⟨p0, p1, p2, p3, p4⟩ := p_
    have y10 : w4.heap.size < w10.heap.size := by omega
    have yuw10 : w2.heap.size < w10.heap.size := by omega
    go_wp2_with fail
    refine (IM.out _ (by repeat (first | with_reducible exact Below.refl _ _ | with_reducible assumption | (with_reducible refine Below.drew ?_) | (with_reducible refine below_drewN ?_ _) | ((with_reducible refine Below.alloc ?_ ?_ _); rotate_left; (focus first | exact Nat.le_refl _ | omega | (simp; done) | (simp; omega))) | ((with_reducible refine Below.setCell ?_ ?_ _); rotate_left; (focus first | exact Nat.le_refl _ | omega | (simp; done) | (simp; omega))) | ((with_reducible refine below_via (W := ?_) ?_ ?_ ?_); rotate_left; (with_reducible assumption); rotate_left; (focus first | exact Nat.le_refl _ | omega | (simp; done) | (simp; omega)))))).mono ?_
    rintro e w12 ⟨Ph, ph, Qh, qh, rfl, oh0, oh1, aph, hbw12⟩
    have sw12 := hbw12.size
    (try simp at sw12)
    have Oh0 := Lib.hid oh0
    have Oh1 := Lib.hid oh1
    clear oh0 oh1
    have APh := Lib.hid aph
    clear aph
    have N0 : Hid (Ow w12 _ _ _ _ _) := Lib.hid (Ow.below (by repeat (first | with_reducible exact Below.refl _ _ | with_reducible assumption | (with_reducible refine Below.drew ?_) | (with_reducible refine below_drewN ?_ _) | ((with_reducible refine Below.alloc ?_ ?_ _); rotate_left; (focus first | exact Nat.le_refl _ | omega | (simp; done) | (simp; omega))) | ((with_reducible refine Below.setCell ?_ ?_ _); rotate_left; (focus first | exact Nat.le_refl _ | omega | (simp; done) | (simp; omega))) | ((with_reducible refine below_via (W := ?_) ?_ ?_ ?_); rotate_left; (with_reducible assumption); rotate_left; (focus first | exact Nat.le_refl _ | omega | (simp; done) | (simp; omega))))) Ow0.out)
    clear Ow0
    have Ow0 := N0
    clear N0
    have N1 : Hid (Ow w12 _ _ _ _ _) := Lib.hid (Ow.below (by repeat (first | with_reducible exact Below.refl _ _ | with_reducible assumption | (with_reducible refine Below.drew ?_) | (with_reducible refine below_drewN ?_ _) | ((with_reducible refine Below.alloc ?_ ?_ _); rotate_left; (focus first | exact Nat.le_refl _ | omega | (simp; done) | (simp; omega))) | ((with_reducible refine Below.setCell ?_ ?_ _); rotate_left; (focus first | exact Nat.le_refl _ | omega | (simp; done) | (simp; omega))) | ((with_reducible refine below_via (W := ?_) ?_ ?_ ?_); rotate_left; (with_reducible assumption); rotate_left; (focus first | exact Nat.le_refl _ | omega | (simp; done) | (simp; omega))))) Ow1.out)
    clear Ow1
    have Ow1 := N1
    clear N1
    have N0 : Hid (Ow w12 _ _ _ _ _) := Lib.hid (Ow.below (by repeat (first | with_reducible exact Below.refl _ _ | with_reducible assumption | (with_reducible refine Below.drew ?_) | (with_reducible refine below_drewN ?_ _) | ((with_reducible refine Below.alloc ?_ ?_ _); rotate_left; (focus first | exact Nat.le_refl _ | omega | (simp; done) | (simp; omega))) | ((with_reducible refine Below.setCell ?_ ?_ _); rotate_left; (focus first | exact Nat.le_refl _ | omega | (simp; done) | (simp; omega))) | ((with_reducible refine below_via (W := ?_) ?_ ?_ ?_); rotate_left; (with_reducible assumption); rotate_left; (focus first | exact Nat.le_refl _ | omega | (simp; done) | (simp; omega))))) Og0.out)
    clear Og0
    have Og0 := N0
    clear N0
    have N1 : Hid (Ow w12 _ _ _ _ _) := Lib.hid (Ow.below (by repeat (first | with_reducible exact Below.refl _ _ | with_reducible assumption | (with_reducible refine Below.drew ?_) | (with_reducible refine below_drewN ?_ _) | ((with_reducible refine Below.alloc ?_ ?_ _); rotate_left; (focus first | exact Nat.le_refl _ | omega | (simp; done) | (simp; omega))) | ((with_reducible refine Below.setCell ?_ ?_ _); rotate_left; (focus first | exact Nat.le_refl _ | omega | (simp; done) | (simp; omega))) | ((with_reducible refine below_via (W := ?_) ?_ ?_ ?_); rotate_left; (with_reducible assumption); rotate_left; (focus first | exact Nat.le_refl _ | omega | (simp; done) | (simp; omega))))) Og1.out)
    clear Og1
    have Og1 := N1
    clear N1
    have u_ : w12.cell? ⟨w2.heap.size, 0, none⟩ = some (.int .i64 R0) ∧ w12.cell? ⟨w2.heap.size, 1, none⟩ = some (.int .i64 R1) ∧ w12.cell? ⟨w2.heap.size, 2, none⟩ = some (.int .i64 R2) ∧ w12.cell? ⟨w2.heap.size, 3, none⟩ = some (.slice Pw N pw) ∧ w12.cell? ⟨w2.heap.size, 4, none⟩ = some (.slice Qw M qw) := by (((try dsimp only); (repeat' apply And.intro) <;> (repeat (first | with_reducible assumption | (with_reducible refine keep_drew ?_) | (with_reducible refine keep_drewN ?_) | ((with_reducible refine keep_new _ _ _ _ _ _ ?_ ?_) <;> (first | rfl | (simp; done) | omega)) | (with_reducible refine keep_alloc _ ?_) | ((with_reducible refine keep_set _ ?_ ?_); (focus first | omega | (simp; done) | (simp; omega))) | ((with_reducible refine keep_set' _ ?_ ?_); (focus first | omega | (simp; done))) | ((with_reducible refine keep_same (u := ?_) _ ?_); rotate_left) | ((with_reducible refine keep_setA _ ?_ ?_); (focus first | omega | (simp; done) | (simp; omega))) | ((with_reducible refine keep_below (w := ?_) ?_ ?_); rotate_left; (with_reducible assumption))))))
    have p_ : w12.cell? ⟨w4.heap.size, 0, none⟩ = some (.int .i64 R0) ∧ w12.cell? ⟨w4.heap.size, 1, none⟩ = some (.int .i64 R1) ∧ w12.cell? ⟨w4.heap.size, 2, none⟩ = some (.int .i64 R2) ∧ w12.cell? ⟨w4.heap.size, 3, none⟩ = some (.slice Pg N pg) ∧ w12.cell? ⟨w4.heap.size, 4, none⟩ = some (.slice Qg M qg) := by (((try dsimp only); (repeat' apply And.intro) <;> (repeat (first | with_reducible assumption | (with_reducible refine keep_drew ?_) | (with_reducible refine keep_drewN ?_) | ((with_reducible refine keep_new _ _ _ _ _ _ ?_ ?_) <;> (first | rfl | (simp; done) | omega)) | (with_reducible refine keep_alloc _ ?_) | ((with_reducible refine keep_set _ ?_ ?_); (focus first | omega | (simp; done) | (simp; omega))) | ((with_reducible refine keep_set' _ ?_ ?_); (focus first | omega | (simp; done))) | ((with_reducible refine keep_same (u := ?_) _ ?_); rotate_left) | ((with_reducible refine keep_setA _ ?_ ?_); (focus first | omega | (simp; done) | (simp; omega))) | ((with_reducible refine keep_below (w := ?_) ?_ ?_); rotate_left; (with_reducible assumption))))))
    have B3 : Below w.heap.size w w12 := (by repeat (first | with_reducible exact Below.refl _ _ | with_reducible assumption | (with_reducible refine Below.drew ?_) | (with_reducible refine below_drewN ?_ _) | ((with_reducible refine Below.alloc ?_ ?_ _); rotate_left; (focus first | exact Nat.le_refl _ | omega | (simp; done) | (simp; omega))) | ((with_reducible refine Below.setCell ?_ ?_ _); rotate_left; (focus first | exact Nat.le_refl _ | omega | (simp; done) | (simp; omega))) | ((with_reducible refine below_via (W := ?_) ?_ ?_ ?_); rotate_left; (with_reducible assumption); rotate_left; (focus first | exact Nat.le_refl _ | omega | (simp; done) | (simp; omega)))))
    (try clear hcw12 hfw12 hcd hfd)
    clear hbw12 sw12 B2
    have B2 := B3
    clear B3
    (try clear u0 u1 u2 u3 u4)
    obtain ⟨u0, u1, u2, u3, u4⟩ := u_
    (try clear p0 p1 p2 p3 p4)
    obtain ⟨p0, p1, p2, p3, p4⟩ := p_
    have y12 : w4.heap.size < w12.heap.size := World.block_lt_of_cell? _ _ p0
    have y12' : w2.heap.size < w12.heap.size := World.block_lt_of_cell? _ _ u0
    go_wp2_with fail
    refine (eqTerrain R0 R1 R2 _ _ N _ _ Z _ _ M _ _ Y _ (Rd.below (by repeat (first | with_reducible exact Below.refl _ _ | with_reducible assumption | (with_reducible refine Below.drew ?_) | (with_reducible refine below_drewN ?_ _) | ((with_reducible refine Below.alloc ?_ ?_ _); rotate_left; (focus first | exact Nat.le_refl _ | omega | (simp; done) | (simp; omega))) | ((with_reducible refine Below.setCell ?_ ?_ _); rotate_left; (focus first | exact Nat.le_refl _ | omega | (simp; done) | (simp; omega))) | ((with_reducible refine below_via (W := ?_) ?_ ?_ ?_); rotate_left; (with_reducible assumption); rotate_left; (focus first | exact Nat.le_refl _ | omega | (simp; done) | (simp; omega))))) Oh0.out.rd) (Rd.below (by repeat (first | with_reducible exact Below.refl _ _ | with_reducible assumption | (with_reducible refine Below.drew ?_) | (with_reducible refine below_drewN ?_ _) | ((with_reducible refine Below.alloc ?_ ?_ _); rotate_left; (focus first | exact Nat.le_refl _ | omega | (simp; done) | (simp; omega))) | ((with_reducible refine Below.setCell ?_ ?_ _); rotate_left; (focus first | exact Nat.le_refl _ | omega | (simp; done) | (simp; omega))) | ((with_reducible refine below_via (W := ?_) ?_ ?_ ?_); rotate_left; (with_reducible assumption); rotate_left; (focus first | exact Nat.le_refl _ | omega | (simp; done) | (simp; omega))))) Ow0.out.rd) mN (Rd.below (by repeat (first | with_reducible exact Below.refl _ _ | with_reducible assumption | (with_reducible refine Below.drew ?_) | (with_reducible refine below_drewN ?_ _) | ((with_reducible refine Below.alloc ?_ ?_ _); rotate_left; (focus first | exact Nat.le_refl _ | omega | (simp; done) | (simp; omega))) | ((with_reducible refine Below.setCell ?_ ?_ _); rotate_left; (focus first | exact Nat.le_refl _ | omega | (simp; done) | (simp; omega))) | ((with_reducible refine below_via (W := ?_) ?_ ?_ ?_); rotate_left; (with_reducible assumption); rotate_left; (focus first | exact Nat.le_refl _ | omega | (simp; done) | (simp; omega))))) Oh1.out.rd) (Rd.below (by repeat (first | with_reducible exact Below.refl _ _ | with_reducible assumption | (with_reducible refine Below.drew ?_) | (with_reducible refine below_drewN ?_ _) | ((with_reducible refine Below.alloc ?_ ?_ _); rotate_left; (focus first | exact Nat.le_refl _ | omega | (simp; done) | (simp; omega))) | ((with_reducible refine Below.setCell ?_ ?_ _); rotate_left; (focus first | exact Nat.le_refl _ | omega | (simp; done) | (simp; omega))) | ((with_reducible refine below_via (W := ?_) ?_ ?_ ?_); rotate_left; (with_reducible assumption); rotate_left; (focus first | exact Nat.le_refl _ | omega | (simp; done) | (simp; omega))))) Ow1.out.rd) mM).mono ?_
    rintro e w13 ⟨rfl, hbz⟩
    have sz := hbz.size
    (try simp at sz)
    have N0 : Hid (Ow w13 _ _ _ _ _) := Lib.hid (Ow.below (by repeat (first | with_reducible exact Below.refl _ _ | with_reducible assumption | (with_reducible refine Below.drew ?_) | (with_reducible refine below_drewN ?_ _) | ((with_reducible refine Below.alloc ?_ ?_ _); rotate_left; (focus first | exact Nat.le_refl _ | omega | (simp; done) | (simp; omega))) | ((with_reducible refine Below.setCell ?_ ?_ _); rotate_left; (focus first | exact Nat.le_refl _ | omega | (simp; done) | (simp; omega))) | ((with_reducible refine below_via (W := ?_) ?_ ?_ ?_); rotate_left; (with_reducible assumption); rotate_left; (focus first | exact Nat.le_refl _ | omega | (simp; done) | (simp; omega))))) Og0.out)
    clear Og0
    have Og0 := N0
    clear N0
    have N1 : Hid (Ow w13 _ _ _ _ _) := Lib.hid (Ow.below (by repeat (first | with_reducible exact Below.refl _ _ | with_reducible assumption | (with_reducible refine Below.drew ?_) | (with_reducible refine below_drewN ?_ _) | ((with_reducible refine Below.alloc ?_ ?_ _); rotate_left; (focus first | exact Nat.le_refl _ | omega | (simp; done) | (simp; omega))) | ((with_reducible refine Below.setCell ?_ ?_ _); rotate_left; (focus first | exact Nat.le_refl _ | omega | (simp; done) | (simp; omega))) | ((with_reducible refine below_via (W := ?_) ?_ ?_ ?_); rotate_left; (with_reducible assumption); rotate_left; (focus first | exact Nat.le_refl _ | omega | (simp; done) | (simp; omega))))) Og1.out)
    clear Og1
    have Og1 := N1
    clear N1
    have p_ : w13.cell? ⟨w4.heap.size, 0, none⟩ = some (.int .i64 R0) ∧ w13.cell? ⟨w4.heap.size, 1, none⟩ = some (.int .i64 R1) ∧ w13.cell? ⟨w4.heap.size, 2, none⟩ = some (.int .i64 R2) ∧ w13.cell? ⟨w4.heap.size, 3, none⟩ = some (.slice Pg N pg) ∧ w13.cell? ⟨w4.heap.size, 4, none⟩ = some (.slice Qg M qg) := by (((try dsimp only); (repeat' apply And.intro) <;> (repeat (first | with_reducible assumption | (with_reducible refine keep_drew ?_) | (with_reducible refine keep_drewN ?_) | ((with_reducible refine keep_new _ _ _ _ _ _ ?_ ?_) <;> (first | rfl | (simp; done) | omega)) | (with_reducible refine keep_alloc _ ?_) | ((with_reducible refine keep_set _ ?_ ?_); (focus first | omega | (simp; done) | (simp; omega))) | ((with_reducible refine keep_set' _ ?_ ?_); (focus first | omega | (simp; done))) | ((with_reducible refine keep_same (u := ?_) _ ?_); rotate_left) | ((with_reducible refine keep_setA _ ?_ ?_); (focus first | omega | (simp; done) | (simp; omega))) | ((with_reducible refine keep_below (w := ?_) ?_ ?_); rotate_left; (with_reducible assumption))))))
    have B3 : Below w.heap.size w w13 := (by repeat (first | with_reducible exact Below.refl _ _ | with_reducible assumption | (with_reducible refine Below.drew ?_) | (with_reducible refine below_drewN ?_ _) | ((with_reducible refine Below.alloc ?_ ?_ _); rotate_left; (focus first | exact Nat.le_refl _ | omega | (simp; done) | (simp; omega))) | ((with_reducible refine Below.setCell ?_ ?_ _); rotate_left; (focus first | exact Nat.le_refl _ | omega | (simp; done) | (simp; omega))) | ((with_reducible refine below_via (W := ?_) ?_ ?_ ?_); rotate_left; (with_reducible assumption); rotate_left; (focus first | exact Nat.le_refl _ | omega | (simp; done) | (simp; omega)))))
    clear hbz B2
    have B2 := B3
    clear B3
    (try clear p0 p1 p2 p3 p4)
    obtain ⟨p0, p1, p2, p3, p4⟩ := p_
    have y13 : w4.heap.size < w13.heap.size := World.block_lt_of_cell? _ _ p0
    go_wp2_with fail
    refine (heldTerrain R0 R1 R2 _ N _ _ M _ 1 _ (Rd.below (by repeat (first | with_reducible exact Below.refl _ _ | with_reducible assumption | (with_reducible refine Below.drew ?_) | (with_reducible refine below_drewN ?_ _) | ((with_reducible refine Below.alloc ?_ ?_ _); rotate_left; (focus first | exact Nat.le_refl _ | omega | (simp; done) | (simp; omega))) | ((with_reducible refine Below.setCell ?_ ?_ _); rotate_left; (focus first | exact Nat.le_refl _ | omega | (simp; done) | (simp; omega))) | ((with_reducible refine below_via (W := ?_) ?_ ?_ ?_); rotate_left; (with_reducible assumption); rotate_left; (focus first | exact Nat.le_refl _ | omega | (simp; done) | (simp; omega))))) Og0.out.rd) (by omega) (Rd.below (by repeat (first | with_reducible exact Below.refl _ _ | with_reducible assumption | (with_reducible refine Below.drew ?_) | (with_reducible refine below_drewN ?_ _) | ((with_reducible refine Below.alloc ?_ ?_ _); rotate_left; (focus first | exact Nat.le_refl _ | omega | (simp; done) | (simp; omega))) | ((with_reducible refine Below.setCell ?_ ?_ _); rotate_left; (focus first | exact Nat.le_refl _ | omega | (simp; done) | (simp; omega))) | ((with_reducible refine below_via (W := ?_) ?_ ?_ ?_); rotate_left; (with_reducible assumption); rotate_left; (focus first | exact Nat.le_refl _ | omega | (simp; done) | (simp; omega))))) Og1.out.rd) (by omega) (by omega)).mono ?_
    rintro e w14 ⟨rfl, hbz⟩
    have sz := hbz.size
    (try simp at sz)
    go_wp2_with fail
    go_ret
    exact ⟨rfl, (by repeat (first | with_reducible exact Below.refl _ _ | with_reducible assumption | (with_reducible refine Below.drew ?_) | (with_reducible refine below_drewN ?_ _) | ((with_reducible refine Below.alloc ?_ ?_ _); rotate_left; (focus first | exact Nat.le_refl _ | omega | (simp; done) | (simp; omega))) | ((with_reducible refine Below.setCell ?_ ?_ _); rotate_left; (focus first | exact Nat.le_refl _ | omega | (simp; done) | (simp; omega))) | ((with_reducible refine below_via (W := ?_) ?_ ?_ ?_); rotate_left; (with_reducible assumption); rotate_left; (focus first | exact Nat.le_refl _ | omega | (simp; done) | (simp; omega)))))⟩
  · go_enter Tryd.func3, Tryd.ntmps3
    go_wp2_with fail
    go_ret
    exact ⟨rfl, (by repeat (first | with_reducible exact Below.refl _ _ | with_reducible assumption | (with_reducible refine Below.drew ?_) | (with_reducible refine below_drewN ?_ _) | ((with_reducible refine Below.alloc ?_ ?_ _); rotate_left; (focus first | exact Nat.le_refl _ | omega | (simp; done) | (simp; omega))) | ((with_reducible refine Below.setCell ?_ ?_ _); rotate_left; (focus first | exact Nat.le_refl _ | omega | (simp; done) | (simp; omega))) | ((with_reducible refine below_via (W := ?_) ?_ ?_ ?_); rotate_left; (with_reducible assumption); rotate_left; (focus first | exact Nat.le_refl _ | omega | (simp; done) | (simp; omega)))))⟩

open Go.Proofs.YtemjjjjkokfjdaaDoor.PlainT Go.Proofs.YtemjjjjkokfjdaaDoor.WalkW Go.Proofs.YtemjjjjkokfjdaaDoor.WalkSI0 Go.Proofs.YtemjjjjkokfjdaaDoor.PlainRu Go.Proofs.YtemjjjjkokfjdaaDoor.WalkTa
open Go.Proofs.YtemjjjjkokfjdaaDoor.WalkRb (Env2)
/-- the terrain that is given: what was read, or nothing -/
def trOf (o : Option Tr) : Tr := o.getD ⟨0, 0, 0, [], []⟩
theorem got_one {s : List UInt8} {W w' : World} {e : Ending} (h : GotT s W e w') : ∃ (P : Option Addr) (p : Nat) (Q : Option Addr) (q : Nat), e = .returned (.tuple #[.agg #[.int .i64 (trOf (refT s)).s, .int .i64 (trOf (refT s)).wd, .int .i64 (trOf (refT s)).ht, .slice P (trOf (refT s)).hs.length p, .slice Q (trOf (refT s)).cs.length q], .bool (refT s).isSome]) ∧ Ow w' W.heap.size P (trOf (refT s)).hs.length p (trOf (refT s)).hs ∧ Ow w' W.heap.size Q (trOf (refT s)).cs.length q (trOf (refT s)).cs ∧ Ap P Q ∧ Below W.heap.size W w' := by
  obtain ⟨h, hb⟩ := h
  rcases h with ⟨h, rfl⟩ | ⟨t, P, Q, n, m, p, q, h, rfl, o1, o2, ap⟩
  · rw [h]
    exact ⟨none, 0, none, 0, rfl, Ow.nil _ _, Ow.nil _ _, Ap.none_l _, hb⟩
  · rw [h]
    have l1 := o1.len
    have l2 := o2.len
    subst l1 l2
    exact ⟨P, p, Q, q, rfl, o1, o2, ap, hb⟩
theorem small (s : List UInt8) : (trOf (refT s)).hs.length ≤ 1048576 ∧ (trOf (refT s)).cs.length ≤ 1048576 := by
  cases h : refT s with
  | none => exact ⟨Nat.zero_le _, Nat.zero_le _⟩
  | some t =>
    have h1 := (ref_sound h).1
    have h2 : terB t.s t.wd t.ht t.hs.length t.cs.length t.hs t.cs = true := h1
    have h3 := ter_len h2
    show t.hs.length ≤ _ ∧ t.cs.length ≤ _
    omega
theorem law (a0 : ByteArray) (ws0 : a0.size ≤ maxLen) (w : World) (hE : Env2 w) :
    Calls Tryd.prog 3 #[.string a0] w fun e w' => e = .returned (.bool true) ∧ Below w.heap.size w w' := by
  by_cases hs : a0.size ≤ 1048576
  · have b := small a0.data.toList
    exact frame a0 (trOf (refT a0.data.toList)).s (trOf (refT a0.data.toList)).wd (trOf (refT a0.data.toList)).ht (trOf (refT a0.data.toList)).hs.length (trOf (refT a0.data.toList)).hs (trOf (refT a0.data.toList)).cs.length (trOf (refT a0.data.toList)).cs (refT a0.data.toList).isSome w ws0 b.1 b.2
      (fun W => (WalkTd.specRt a0 W hs).mono fun e w' h => got_one h) (fun W hb => (WalkTf.implRt a0 W hs (hE.below hb)).mono fun e w' h => got_one h)
  · unfold maxLen at ws0
    clear hE
    go_enter Tryd.func3, Tryd.ntmps3
    go_wp2_with fail
    go_ret
    exact ⟨rfl, (by repeat (first | with_reducible exact Below.refl _ _ | with_reducible assumption | (with_reducible refine Below.drew ?_) | (with_reducible refine below_drewN ?_ _) | ((with_reducible refine Below.alloc ?_ ?_ _); rotate_left; (focus first | exact Nat.le_refl _ | omega | (simp; done) | (simp; omega))) | ((with_reducible refine Below.setCell ?_ ?_ _); rotate_left; (focus first | exact Nat.le_refl _ | omega | (simp; done) | (simp; omega))) | ((with_reducible refine below_via (W := ?_) ?_ ?_ ?_); rotate_left; (with_reducible assumption); rotate_left; (focus first | exact Nat.le_refl _ | omega | (simp; done) | (simp; omega)))))⟩

end Go.Proofs.YtemjjjjkokfjdaaDoor.LawReadTerrain

