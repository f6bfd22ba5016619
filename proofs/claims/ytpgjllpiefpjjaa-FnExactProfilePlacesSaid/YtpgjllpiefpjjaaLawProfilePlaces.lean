/- The walk of the law FnExactProfilePlaces. -/
import Derived.Test.YtpgjllpiefpjjaaWalkPn
import Derived.Deep.RegionHeld3
namespace Go.Proofs.Ytpgjllpiefpjjaa.LawProfilePlaces
open Go Go.RowKit Go.Proofs.Ytpgjllpiefpjjaa.Base Go.Proofs.Ytpgjllpiefpjjaa.Plain Go.Proofs.Ytpgjllpiefpjjaa.Words Go.Proofs.Ytpgjllpiefpjjaa.Ints Go.Proofs.Ytpgjllpiefpjjaa.WalkN Go.Proofs.Ytpgjllpiefpjjaa.WalkP Go.Proofs.Ytpgjllpiefpjjaa.WalkI Go.Proofs.Ytpgjllpiefpjjaa.Cells Go.Proofs.Ytpgjllpiefpjjaa.Pts Go.Proofs.Ytpgjllpiefpjjaa.WalkPI Go.Proofs.Ytpgjllpiefpjjaa.WalkPn
set_option linter.unusedVariables false
set_option linter.unusedSimpArgs false

set_option maxHeartbeats 4000000 in
theorem frame (ax ay bx cy n C : Int) (N : Nat) (ps : List PT) (w : World) (hN : N ≤ 65)
    (SP0 : ∀ W, Calls Try.prog 15 #[.agg #[.int .i64 ax, .int .i64 ay], .agg #[.int .i64 bx, .int .i64 cy], .int .i64 n] W (PpRes ps N C W))
    (IM0 : ∀ W, Calls Try.prog 16 #[.agg #[.int .i64 ax, .int .i64 ay], .agg #[.int .i64 bx, .int .i64 cy], .int .i64 n] W (PpRes ps N C W)) :
    Calls Try.prog 4 #[.agg #[.int .i64 ax, .int .i64 ay], .agg #[.int .i64 bx, .int .i64 cy], .int .i64 n] w fun e w' => e = .returned (.bool true) ∧ Below w.heap.size w w' := by
  have SP := Lib.hid SP0
  have IM := Lib.hid IM0
  clear SP0 IM0
  have nm : N ≤ maxLen := by unfold maxLen; omega
  have d1 := decide_eq_false (show ¬ (1 : Int) + 2 * (N : Int) < 0 by omega)
  go_enter Try.func4, Try.ntmps4
  go_wp2_with fail
  go_region_held3 (fun w' => w'.cell? ⟨w.heap.size, 0, none⟩ = some (.int .i64 ax) ∧ w'.cell? ⟨w.heap.size, 1, none⟩ = some (.int .i64 ay) ∧ w'.cell? ⟨w.heap.size + 1, 0, none⟩ = some (.int .i64 bx) ∧ w'.cell? ⟨w.heap.size + 1, 1, none⟩ = some (.int .i64 cy)) ((((try dsimp only); (repeat' apply And.intro) <;> (repeat (first | with_reducible assumption | (with_reducible refine keep_drew ?_) | (with_reducible refine keep_drewN ?_) | ((with_reducible refine keep_new _ _ _ _ _ _ ?_ ?_) <;> (first | rfl | (simp; done) | omega)) | (with_reducible refine keep_alloc _ ?_) | ((with_reducible refine keep_set _ ?_ ?_); (focus first | omega | (simp; done) | (simp; omega))) | ((with_reducible refine keep_set' _ ?_ ?_); (focus first | omega | (simp; done))) | ((with_reducible refine keep_same (u := ?_) _ ?_); rotate_left) | ((with_reducible refine keep_setA _ ?_ ?_); (focus first | omega | (simp; done) | (simp; omega))) | ((with_reducible refine keep_below (w := ?_) ?_ ?_); rotate_left; (with_reducible assumption)))))))
    (first | (go_at_call 12; (with_reducible refine (toPoint _ _ _).mono ?_); rintro e w' ⟨rfl, rfl⟩) | (go_at_call 15; refine (SP.out _).mono ?_; rintro e w1 ⟨Aw, qw, rfl, ow, hb1⟩; obtain ⟨hc1, hf1⟩ := bcell hb1; have s1 := hb1.size; (try simp at s1); have OW := Lib.hid (OwP.lower ow (show w.heap.size + 2 ≤ _ by simp; try omega)); clear ow))
  all_goals (try clear hc1 hf1)
  all_goals
    have t10 : w1.cell? ⟨w.heap.size, 0, none⟩ = some (.int .i64 ax) := by (((try dsimp only); (repeat' apply And.intro) <;> (repeat (first | with_reducible assumption | (with_reducible refine keep_drew ?_) | (with_reducible refine keep_drewN ?_) | ((with_reducible refine keep_new _ _ _ _ _ _ ?_ ?_) <;> (first | rfl | (simp; done) | omega)) | (with_reducible refine keep_alloc _ ?_) | ((with_reducible refine keep_set _ ?_ ?_); (focus first | omega | (simp; done) | (simp; omega))) | ((with_reducible refine keep_set' _ ?_ ?_); (focus first | omega | (simp; done))) | ((with_reducible refine keep_same (u := ?_) _ ?_); rotate_left) | ((with_reducible refine keep_setA _ ?_ ?_); (focus first | omega | (simp; done) | (simp; omega))) | ((with_reducible refine keep_below (w := ?_) ?_ ?_); rotate_left; (with_reducible assumption))))))
    have t11 : w1.cell? ⟨w.heap.size, 1, none⟩ = some (.int .i64 ay) := by (((try dsimp only); (repeat' apply And.intro) <;> (repeat (first | with_reducible assumption | (with_reducible refine keep_drew ?_) | (with_reducible refine keep_drewN ?_) | ((with_reducible refine keep_new _ _ _ _ _ _ ?_ ?_) <;> (first | rfl | (simp; done) | omega)) | (with_reducible refine keep_alloc _ ?_) | ((with_reducible refine keep_set _ ?_ ?_); (focus first | omega | (simp; done) | (simp; omega))) | ((with_reducible refine keep_set' _ ?_ ?_); (focus first | omega | (simp; done))) | ((with_reducible refine keep_same (u := ?_) _ ?_); rotate_left) | ((with_reducible refine keep_setA _ ?_ ?_); (focus first | omega | (simp; done) | (simp; omega))) | ((with_reducible refine keep_below (w := ?_) ?_ ?_); rotate_left; (with_reducible assumption))))))
    have t12 : w1.cell? ⟨w.heap.size + 1, 0, none⟩ = some (.int .i64 bx) := by (((try dsimp only); (repeat' apply And.intro) <;> (repeat (first | with_reducible assumption | (with_reducible refine keep_drew ?_) | (with_reducible refine keep_drewN ?_) | ((with_reducible refine keep_new _ _ _ _ _ _ ?_ ?_) <;> (first | rfl | (simp; done) | omega)) | (with_reducible refine keep_alloc _ ?_) | ((with_reducible refine keep_set _ ?_ ?_); (focus first | omega | (simp; done) | (simp; omega))) | ((with_reducible refine keep_set' _ ?_ ?_); (focus first | omega | (simp; done))) | ((with_reducible refine keep_same (u := ?_) _ ?_); rotate_left) | ((with_reducible refine keep_setA _ ?_ ?_); (focus first | omega | (simp; done) | (simp; omega))) | ((with_reducible refine keep_below (w := ?_) ?_ ?_); rotate_left; (with_reducible assumption))))))
    have t13 : w1.cell? ⟨w.heap.size + 1, 1, none⟩ = some (.int .i64 cy) := by (((try dsimp only); (repeat' apply And.intro) <;> (repeat (first | with_reducible assumption | (with_reducible refine keep_drew ?_) | (with_reducible refine keep_drewN ?_) | ((with_reducible refine keep_new _ _ _ _ _ _ ?_ ?_) <;> (first | rfl | (simp; done) | omega)) | (with_reducible refine keep_alloc _ ?_) | ((with_reducible refine keep_set _ ?_ ?_); (focus first | omega | (simp; done) | (simp; omega))) | ((with_reducible refine keep_set' _ ?_ ?_); (focus first | omega | (simp; done))) | ((with_reducible refine keep_same (u := ?_) _ ?_); rotate_left) | ((with_reducible refine keep_setA _ ?_ ?_); (focus first | omega | (simp; done) | (simp; omega))) | ((with_reducible refine keep_below (w := ?_) ?_ ?_); rotate_left; (with_reducible assumption))))))
    have B1 : Below w.heap.size w w1 := (by repeat (first | with_reducible exact Below.refl _ _ | with_reducible assumption | (with_reducible refine Below.drew ?_) | (with_reducible refine below_drewN ?_ _) | ((with_reducible refine Below.alloc ?_ ?_ _); rotate_left; (focus first | exact Nat.le_refl _ | omega | (simp; done) | (simp; omega))) | ((with_reducible refine Below.setCell ?_ ?_ _); rotate_left; (focus first | exact Nat.le_refl _ | omega | (simp; done) | (simp; omega))) | ((with_reducible refine below_via (W := ?_) ?_ ?_ ?_); rotate_left; (with_reducible assumption); rotate_left; (focus first | exact Nat.le_refl _ | omega | (simp; done) | (simp; omega)))))
    have l1 : w.heap.size + 1 < w1.heap.size := World.block_lt_of_cell? _ _ t12
    clear hb1 s1
    go_wp2_with fail
    go_region_held3 (fun w' => w'.cell? ⟨w.heap.size, 0, none⟩ = some (.int .i64 ax) ∧ w'.cell? ⟨w.heap.size, 1, none⟩ = some (.int .i64 ay) ∧ w'.cell? ⟨w.heap.size + 1, 0, none⟩ = some (.int .i64 bx) ∧ w'.cell? ⟨w.heap.size + 1, 1, none⟩ = some (.int .i64 cy)) ((((try dsimp only); (repeat' apply And.intro) <;> (repeat (first | with_reducible assumption | (with_reducible refine keep_drew ?_) | (with_reducible refine keep_drewN ?_) | ((with_reducible refine keep_new _ _ _ _ _ _ ?_ ?_) <;> (first | rfl | (simp; done) | omega)) | (with_reducible refine keep_alloc _ ?_) | ((with_reducible refine keep_set _ ?_ ?_); (focus first | omega | (simp; done) | (simp; omega))) | ((with_reducible refine keep_set' _ ?_ ?_); (focus first | omega | (simp; done))) | ((with_reducible refine keep_same (u := ?_) _ ?_); rotate_left) | ((with_reducible refine keep_setA _ ?_ ?_); (focus first | omega | (simp; done) | (simp; omega))) | ((with_reducible refine keep_below (w := ?_) ?_ ?_); rotate_left; (with_reducible assumption)))))))
      (first | (go_at_call 12; (with_reducible refine (toPoint _ _ _).mono ?_); rintro e w' ⟨rfl, rfl⟩) | (go_at_call 16; refine (IM.out _).mono ?_; rintro e w2 ⟨Ag, qg, rfl, og, hb2⟩; obtain ⟨hc2, hf2⟩ := bcell hb2; have s2 := hb2.size; (try simp at s2); have OG := Lib.hid (OwP.lower og (show w1.heap.size ≤ _ by simp; try omega)); clear og))
    all_goals (try clear hc2 hf2)
    have B12 : Below w1.heap.size w1 w2 := by clear B1; exact (by repeat (first | with_reducible exact Below.refl _ _ | with_reducible assumption | (with_reducible refine Below.drew ?_) | (with_reducible refine below_drewN ?_ _) | ((with_reducible refine Below.alloc ?_ ?_ _); rotate_left; (focus first | exact Nat.le_refl _ | omega | (simp; done) | (simp; omega))) | ((with_reducible refine Below.setCell ?_ ?_ _); rotate_left; (focus first | exact Nat.le_refl _ | omega | (simp; done) | (simp; omega))) | ((with_reducible refine below_via (W := ?_) ?_ ?_ ?_); rotate_left; (with_reducible assumption); rotate_left; (focus first | exact Nat.le_refl _ | omega | (simp; done) | (simp; omega)))))
    have OW2 := Lib.hid (OwP.below B12 OW.out)
    have AP := Lib.hid (show Ap Ag Aw from fun a b ha hb => by have h := OG.out.block ha; have h' := OW.out.block hb; omega)
    have B2 := B1.trans (B12.mono B1.size)
    have t20 : w2.cell? ⟨w.heap.size, 0, none⟩ = some (.int .i64 ax) := keep_below B12 t10
    have t21 : w2.cell? ⟨w.heap.size, 1, none⟩ = some (.int .i64 ay) := keep_below B12 t11
    have t22 : w2.cell? ⟨w.heap.size + 1, 0, none⟩ = some (.int .i64 bx) := keep_below B12 t12
    have t23 : w2.cell? ⟨w.heap.size + 1, 1, none⟩ = some (.int .i64 cy) := keep_below B12 t13
    clear hb2 B12 OW B1 s2 t10 t11 t12 t13
    have z2 := B2.size
    go_wp2_with fail
    refine (eqPts Ag Aw N qg qw ps w2 OG.out.rd OW2.out.rd nm).mono ?_
    rintro e w3 ⟨rfl, hb3⟩
    have OG3 := Lib.hid (OwP.below hb3 OG.out)
    have OW3 := Lib.hid (OwP.below hb3 OW2.out)
    have B3 := below_via hb3 B2 B2.size
    have t30 : w3.cell? ⟨w.heap.size, 0, none⟩ = some (.int .i64 ax) := keep_below hb3 t20
    have t31 : w3.cell? ⟨w.heap.size, 1, none⟩ = some (.int .i64 ay) := keep_below hb3 t21
    have t32 : w3.cell? ⟨w.heap.size + 1, 0, none⟩ = some (.int .i64 bx) := keep_below hb3 t22
    have t33 : w3.cell? ⟨w.heap.size + 1, 1, none⟩ = some (.int .i64 cy) := keep_below hb3 t23
    clear hb3 OG OW2 B2 t20 t21 t22 t23
    have z3 := B3.size
    go_wp2_with fail
    refine (markPts Ag N qg w1.heap.size ps 1 w3 OG3.out (by omega) (by omega)).mono ?_
    rintro e w4 ⟨rfl, og4, hg4⟩
    have OG4 := Lib.hid og4
    have OW4 := Lib.hid (OwP.gr OW3.out hg4 AP.out.symm)
    have t40 : w4.cell? ⟨w.heap.size, 0, none⟩ = some (.int .i64 ax) := keep_gr hg4 (fun b hb => by have h := OG3.out.block hb; intro e; dsimp only at e; omega) t30
    have t41 : w4.cell? ⟨w.heap.size, 1, none⟩ = some (.int .i64 ay) := keep_gr hg4 (fun b hb => by have h := OG3.out.block hb; intro e; dsimp only at e; omega) t31
    have t42 : w4.cell? ⟨w.heap.size + 1, 0, none⟩ = some (.int .i64 bx) := keep_gr hg4 (fun b hb => by have h := OG3.out.block hb; intro e; dsimp only at e; omega) t32
    have t43 : w4.cell? ⟨w.heap.size + 1, 1, none⟩ = some (.int .i64 cy) := keep_gr hg4 (fun b hb => by have h := OG3.out.block hb; intro e; dsimp only at e; omega) t33
    have B4 : Below w.heap.size w w4 := B3.trans (Gr.below hg4 (fun a ha => by have h := OG3.out.block ha; omega) z3)
    clear hg4 og4 OG3 OW3 B3 t30 t31 t32 t33
    have l4 : w.heap.size + 1 < w4.heap.size := World.block_lt_of_cell? _ _ t42
    go_wp2_with fail
    refine (heldPts Ag N qg 1 w4 OG4.out.rd (by omega) (by omega)).mono ?_
    rintro e w' ⟨rfl, rfl⟩
    go_wp2_with fail
    go_region_held3 (fun w' => w'.cell? ⟨w.heap.size, 0, none⟩ = some (.int .i64 ax) ∧ w'.cell? ⟨w.heap.size, 1, none⟩ = some (.int .i64 ay) ∧ w'.cell? ⟨w.heap.size + 1, 0, none⟩ = some (.int .i64 bx) ∧ w'.cell? ⟨w.heap.size + 1, 1, none⟩ = some (.int .i64 cy)) ((((try dsimp only); (repeat' apply And.intro) <;> (repeat (first | with_reducible assumption | (with_reducible refine keep_drew ?_) | (with_reducible refine keep_drewN ?_) | ((with_reducible refine keep_new _ _ _ _ _ _ ?_ ?_) <;> (first | rfl | (simp; done) | omega)) | (with_reducible refine keep_alloc _ ?_) | ((with_reducible refine keep_set _ ?_ ?_); (focus first | omega | (simp; done) | (simp; omega))) | ((with_reducible refine keep_set' _ ?_ ?_); (focus first | omega | (simp; done))) | ((with_reducible refine keep_same (u := ?_) _ ?_); rotate_left) | ((with_reducible refine keep_setA _ ?_ ?_); (focus first | omega | (simp; done) | (simp; omega))) | ((with_reducible refine keep_below (w := ?_) ?_ ?_); rotate_left; (with_reducible assumption)))))))
      (first | (go_at_call 12; (with_reducible refine (toPoint _ _ _).mono ?_); rintro e w' ⟨rfl, rfl⟩) | (go_at_call 16; refine (IM.out _).mono ?_; rintro e w5 ⟨Ah, qh, rfl, oh, hb5⟩; obtain ⟨hc5, hf5⟩ := bcell hb5; have s5 := hb5.size; (try simp at s5); have OH := Lib.hid oh; clear oh))
    all_goals (try clear hc5 hf5)
    have B45 : Below w4.heap.size w4 w5 := by clear B4; exact (by repeat (first | with_reducible exact Below.refl _ _ | with_reducible assumption | (with_reducible refine Below.drew ?_) | (with_reducible refine below_drewN ?_ _) | ((with_reducible refine Below.alloc ?_ ?_ _); rotate_left; (focus first | exact Nat.le_refl _ | omega | (simp; done) | (simp; omega))) | ((with_reducible refine Below.setCell ?_ ?_ _); rotate_left; (focus first | exact Nat.le_refl _ | omega | (simp; done) | (simp; omega))) | ((with_reducible refine below_via (W := ?_) ?_ ?_ ?_); rotate_left; (with_reducible assumption); rotate_left; (focus first | exact Nat.le_refl _ | omega | (simp; done) | (simp; omega)))))
    have OG5 := Lib.hid (OwP.below B45 OG4.out)
    have OW5 := Lib.hid (OwP.below B45 OW4.out)
    have B5 := B4.trans (B45.mono B4.size)
    clear hb5 B45 B4 OG4 OW4 t40 t41 t42 t43
    go_wp2_with fail
    refine (eqPts Ah Aw N qh qw ps w5 OH.out.rd OW5.out.rd nm).mono ?_
    rintro e w6 ⟨rfl, hb6⟩
    have OG6 := Lib.hid (OwP.below hb6 OG5.out)
    have B6 := below_via hb6 B5 B5.size
    clear hb6 OG5 B5
    go_wp2_with fail
    refine (heldPts Ag N qg 1 w6 OG6.out.rd (by omega) (by omega)).mono ?_
    rintro e w' ⟨rfl, rfl⟩
    go_wp2_with fail
    go_ret
    exact ⟨rfl, B6⟩

theorem law (ax ay bx cy n : Int) (w : World) :
    Calls Try.prog 4 #[.agg #[.int .i64 ax, .int .i64 ay], .agg #[.int .i64 bx, .int .i64 cy], .int .i64 n] w fun e w' => e = .returned (.bool true) ∧ Below w.heap.size w w' :=
  frame ax ay bx cy n (ppR ax ay bx cy n).2 (ppR ax ay bx cy n).1.length (ppR ax ay bx cy n).1 w (ppR_len ax ay bx cy n) (fun W => specPp ax ay bx cy n W) (fun W => implPp ax ay bx cy n W)

end Go.Proofs.Ytpgjllpiefpjjaa.LawProfilePlaces
