/- A point in a terrain: the reference's and the program's. -/
import Derived.Test.YtpgjllpiefpjjaaWalkW
namespace Go.Proofs.Ytpgjllpiefpjjaa.WalkY
open Go Go.RowKit Go.Proofs.Ytpgjllpiefpjjaa.Base Go.Proofs.Ytpgjllpiefpjjaa.Plain Go.Proofs.Ytpgjllpiefpjjaa.Words Go.Proofs.Ytpgjllpiefpjjaa.Ints Go.Proofs.Ytpgjllpiefpjjaa.WalkN Go.Proofs.Ytpgjllpiefpjjaa.WalkP Go.Proofs.Ytpgjllpiefpjjaa.WalkI Go.Proofs.Ytpgjllpiefpjjaa.WalkU Go.Proofs.Ytpgjllpiefpjjaa.WalkV Go.Proofs.Ytpgjllpiefpjjaa.PlainT Go.Proofs.Ytpgjllpiefpjjaa.WalkW
set_option linter.unusedVariables false
set_option linter.unusedSimpArgs false

/-- does a point lie in a terrain -/
def hasB (s wd ht x y : Int) : Bool := inB x 0 ((wd - 1) * s) && inB y 0 ((ht - 1) * s)
theorem size_mul {s wd ht : Int} (h : sizeB s wd ht = true) : (0 ≤ (wd - 1) * s ∧ (wd - 1) * s ≤ 200000) ∧ (0 ≤ (ht - 1) * s ∧ (ht - 1) * s ≤ 200000) := by
  have b := sizeB_yes h
  have p1 := Int.mul_nonneg (a := wd - 1) (b := s) (by omega) (by omega)
  have p2 := Int.mul_nonneg (a := ht - 1) (b := s) (by omega) (by omega)
  omega

theorem specHas (s wd ht x y : Int) (v3 v4 : Value) (g : Nat) (w : World) (hz : sizeB s wd ht = true)
    (t0 : w.cell? ⟨g, 0, none⟩ = some (.int .i64 s)) (t1 : w.cell? ⟨g, 1, none⟩ = some (.int .i64 wd)) (t2 : w.cell? ⟨g, 2, none⟩ = some (.int .i64 ht)) :
    Calls Try.prog 69 #[.pointer (some ⟨g, 0, none⟩), .agg #[.int .i64 x, .int .i64 y]] w fun e w' => e = .returned (.bool (hasB s wd ht x y)) ∧ Below w.heap.size w w' := by
  have b := sizeB_yes hz
  have p := size_mul hz
  have e1 : IntKind.i64.wrap (wd - 1) = wd - 1 := IntWalk.i64_in _ (by omega)
  have e2 : IntKind.i64.wrap ((wd - 1) * s) = (wd - 1) * s := IntWalk.i64_in _ (by omega)
  have e3 : IntKind.i64.wrap (ht - 1) = ht - 1 := IntWalk.i64_in _ (by omega)
  have e4 : IntKind.i64.wrap ((ht - 1) * s) = (ht - 1) * s := IntWalk.i64_in _ (by omega)
  have g0 := World.block_lt_of_cell? _ _ t0
  have I1 := Lib.hid (fun w => specIn x 0 ((wd - 1) * s) w)
  have I2 := Lib.hid (fun w => specIn y 0 ((ht - 1) * s) w)
  cases i1 : inB x 0 ((wd - 1) * s)
  · have HF : Hid (hasB s wd ht x y = false) := Lib.hid (by unfold hasB; rw [i1]; rfl)
    rw [i1] at I1
    clear i1 hz b
    go_enter Try.func69, Try.ntmps69
    go_wp2_with fail
    go_quiet ((go_at_call 43; exact quietL (I1.out _)))
    clear e1 e2 e3 e4
    go_wp2_with fail
    go_ret
    exact ⟨ret_bool HF.out.symm, (by repeat (first | with_reducible exact Below.refl _ _ | with_reducible assumption | (with_reducible refine Below.drew ?_) | (with_reducible refine below_drewN ?_ _) | ((with_reducible refine Below.alloc ?_ ?_ _); rotate_left; (focus first | exact Nat.le_refl _ | omega | (simp; done) | (simp; omega))) | ((with_reducible refine Below.setCell ?_ ?_ _); rotate_left; (focus first | exact Nat.le_refl _ | omega | (simp; done) | (simp; omega))) | ((with_reducible refine below_via (W := ?_) ?_ ?_ ?_); rotate_left; (with_reducible assumption); rotate_left; (focus first | exact Nat.le_refl _ | omega | (simp; done) | (simp; omega)))))⟩
  · have HF : Hid (hasB s wd ht x y = inB y 0 ((ht - 1) * s)) := Lib.hid (by unfold hasB; rw [i1]; rfl)
    rw [i1] at I1
    clear i1 hz b
    go_enter Try.func69, Try.ntmps69
    go_wp2_with fail
    go_quiet ((go_at_call 43; first | (with_reducible exact quietL (I1.out _)) | (with_reducible exact quietL2 (I1.out _)) | (with_reducible exact quietL (I2.out _)) | (with_reducible exact quietL2 (I2.out _))))
    clear e1 e2 e3 e4
    go_wp2_with fail
    go_ret
    exact ⟨ret_bool HF.out.symm, (by repeat (first | with_reducible exact Below.refl _ _ | with_reducible assumption | (with_reducible refine Below.drew ?_) | (with_reducible refine below_drewN ?_ _) | ((with_reducible refine Below.alloc ?_ ?_ _); rotate_left; (focus first | exact Nat.le_refl _ | omega | (simp; done) | (simp; omega))) | ((with_reducible refine Below.setCell ?_ ?_ _); rotate_left; (focus first | exact Nat.le_refl _ | omega | (simp; done) | (simp; omega))) | ((with_reducible refine below_via (W := ?_) ?_ ?_ ?_); rotate_left; (with_reducible assumption); rotate_left; (focus first | exact Nat.le_refl _ | omega | (simp; done) | (simp; omega)))))⟩

theorem implHas (s wd ht x y : Int) (A B : Option Addr) (n c m d : Nat) (w : World) (hz : sizeB s wd ht = true) :
    Calls Try.prog 71 #[.agg #[.int .i64 s, .int .i64 wd, .int .i64 ht, .slice A n c, .slice B m d], .agg #[.int .i64 x, .int .i64 y]] w fun e w' => e = .returned (.bool (hasB s wd ht x y)) ∧ Below w.heap.size w w' := by
  have b := sizeB_yes hz
  have p := size_mul hz
  have I1 := Lib.hid (fun w => implIn x 0 ((wd - 1) * s) w)
  have I2 := Lib.hid (fun w => implIn y 0 ((ht - 1) * s) w)
  cases i1 : inB x 0 ((wd - 1) * s)
  · have HF : Hid (hasB s wd ht x y = false) := Lib.hid (by unfold hasB; rw [i1]; rfl)
    rw [i1] at I1
    clear i1 hz
    go_enter Try.func71, Try.ntmps71
    go_wp2_with (go_at_call 45; refine (I1.out _).mono ?_; rintro e w' ⟨rfl, rfl⟩)
    go_ret
    exact ⟨ret_bool HF.out.symm, (by repeat (first | with_reducible exact Below.refl _ _ | with_reducible assumption | (with_reducible refine Below.drew ?_) | (with_reducible refine below_drewN ?_ _) | ((with_reducible refine Below.alloc ?_ ?_ _); rotate_left; (focus first | exact Nat.le_refl _ | omega | (simp; done) | (simp; omega))) | ((with_reducible refine Below.setCell ?_ ?_ _); rotate_left; (focus first | exact Nat.le_refl _ | omega | (simp; done) | (simp; omega))) | ((with_reducible refine below_via (W := ?_) ?_ ?_ ?_); rotate_left; (with_reducible assumption); rotate_left; (focus first | exact Nat.le_refl _ | omega | (simp; done) | (simp; omega)))))⟩
  · have HF : Hid (hasB s wd ht x y = inB y 0 ((ht - 1) * s)) := Lib.hid (by unfold hasB; rw [i1]; rfl)
    rw [i1] at I1
    clear i1 hz
    go_enter Try.func71, Try.ntmps71
    go_wp2_with (go_at_call 45; first | ((with_reducible refine (I1.out _).mono ?_); rintro e w' ⟨rfl, rfl⟩) | ((with_reducible refine (I2.out _).mono ?_); rintro e w' ⟨rfl, rfl⟩))
    go_ret
    exact ⟨ret_bool HF.out.symm, (by repeat (first | with_reducible exact Below.refl _ _ | with_reducible assumption | (with_reducible refine Below.drew ?_) | (with_reducible refine below_drewN ?_ _) | ((with_reducible refine Below.alloc ?_ ?_ _); rotate_left; (focus first | exact Nat.le_refl _ | omega | (simp; done) | (simp; omega))) | ((with_reducible refine Below.setCell ?_ ?_ _); rotate_left; (focus first | exact Nat.le_refl _ | omega | (simp; done) | (simp; omega))) | ((with_reducible refine below_via (W := ?_) ?_ ?_ ?_); rotate_left; (with_reducible assumption); rotate_left; (focus first | exact Nat.le_refl _ | omega | (simp; done) | (simp; omega)))))⟩

end Go.Proofs.Ytpgjllpiefpjjaa.WalkY
