/- Points: validity, distance, a point between two points. -/
import Derived.Test.YtbggickeomeidaaWalkR
import Derived.StillTailTactics
import Derived.Deep.RegionHeld3
namespace Go.Proofs.Ytbggickeomeidaa.WalkP
open Go.RowKit Go.Proofs.Ytbggickeomeidaa.Base Go.Proofs.Ytbggickeomeidaa.Plain Go.Proofs.Ytbggickeomeidaa.WalkN Go.Proofs.Ytbggickeomeidaa.WalkR
set_option linter.unusedVariables false
set_option linter.unusedSimpArgs false

theorem keep_alloc {w : World} {a : Addr} {v : Value} (o : Obj) (h : w.cell? a = some v) : (w.alloc o).cell? a = some v := by
  rw [World.cell?_alloc_lt w o a (World.block_lt_of_cell? _ _ h)]
  exact h
theorem keep_drew {w : World} {a : Addr} {v : Value} (h : w.cell? a = some v) : w.drew.cell? a = some v := h
theorem keep_drewN {w : World} {a : Addr} {v : Value} {n : Nat} (h : w.cell? a = some v) : (w.drewN n).cell? a = some v := h
theorem keep_below {w w1 : World} {a : Addr} {v : Value} (hb : Below w.heap.size w w1) (h : w.cell? a = some v) : w1.cell? a = some v := by
  rw [hb.cell (World.block_lt_of_cell? _ _ h)]
  exact h
theorem keep_set {w : World} {b o b' o' : Nat} {v : Value} (u : Value) (hne : b ≠ b') (h : w.cell? ⟨b, o, none⟩ = some v) : (w.setCell ⟨b', o', none⟩ u).cell? ⟨b, o, none⟩ = some v := by
  rw [World.cell?_setCell_other _ _ _ _ (by intro e; injection e; omega)]
  exact h
theorem keep_same {w : World} {a : Addr} {u : Value} (v : Value) (h : w.cell? a = some u) : (w.setCell a v).cell? a = some v := World.cell?_setCell_same _ _ _ h
theorem keep_set' {w : World} {b o o' : Nat} {v : Value} (u : Value) (hne : o ≠ o') (h : w.cell? ⟨b, o, none⟩ = some v) : (w.setCell ⟨b, o', none⟩ u).cell? ⟨b, o, none⟩ = some v := by
  rw [World.cell?_setCell_other _ _ _ _ (by intro e; injection e; omega)]
  exact h
theorem keep_setA {w : World} {a : Addr} {b' o' : Nat} {v : Value} (u : Value) (hne : a.block ≠ b') (h : w.cell? a = some v) : (w.setCell ⟨b', o', none⟩ u).cell? a = some v := by
  rw [World.cell?_setCell_other _ _ _ _ (by intro e; subst e; exact hne rfl)]
  exact h
theorem below_via {B : Nat} {w W w1 : World} (hb : Below W.heap.size W w1) (h : Below B w W) (hB : B ≤ W.heap.size) : Below B w w1 := h.trans (hb.mono hB)
theorem keep_new (w : World) (cs : Array Value) (t : TypeId) (i b : Nat) (v : Value) (hb : b = w.heap.size) (h : cs[i]? = some v) : (w.alloc (.cells cs t)).cell? ⟨b, i, none⟩ = some v := by
  subst hb
  rw [World.cell?_alloc_at _ _ _ _ (by simp)]
  exact h
/-- is a point valid -/
def okP (x y : Int) : Bool := inB x 0 200000 && inB y 0 200000
theorem okP_yes {x y : Int} (h : okP x y = true) : (0 ≤ x ∧ x ≤ 200000) ∧ (0 ≤ y ∧ y ≤ 200000) := by
  unfold okP at h
  rw [Bool.and_eq_true] at h
  exact ⟨inB_yes h.1, inB_yes h.2⟩
theorem specOk (x y : Int) (w : World) :
    Calls Try.prog 10 #[.agg #[.int .i64 x, .int .i64 y]] w fun e w' => e = .returned (.bool (okP x y)) ∧ w' = w.alloc (.cells #[.int .i64 x, .int .i64 y] 30) := by
  cases h1 : inB x 0 200000 <;> cases h2 : inB y 0 200000
  all_goals have H := Lib.hid (show okP x y = _ by unfold okP; rw [h1, h2])
  all_goals go_enter Try.func10, Try.ntmps10
  all_goals go_wp2_with (first | (go_at_call 17; refine (specIn _ _ _ _).mono ?_; rintro e w' ⟨rfl, rfl⟩) | (go_at_call 19; refine (implIn _ _ _ _).mono ?_; rintro e w' ⟨rfl, rfl⟩) | go_in)
  all_goals (go_ret; exact ⟨ret_bool (by rw [H.out]; rfl), rfl⟩)
theorem implOk (x y : Int) (w : World) :
    Calls Try.prog 12 #[.agg #[.int .i64 x, .int .i64 y]] w fun e w' => e = .returned (.bool (okP x y)) ∧ w' = w.alloc (.cells #[.int .i64 x, .int .i64 y] 30) := by
  cases h1 : inB x 0 200000 <;> cases h2 : inB y 0 200000
  all_goals have H := Lib.hid (show okP x y = _ by unfold okP; rw [h1, h2])
  all_goals go_enter Try.func12, Try.ntmps12
  all_goals go_wp2_with (first | (go_at_call 17; refine (specIn _ _ _ _).mono ?_; rintro e w' ⟨rfl, rfl⟩) | (go_at_call 19; refine (implIn _ _ _ _).mono ?_; rintro e w' ⟨rfl, rfl⟩) | go_in)
  all_goals (go_ret; exact ⟨ret_bool (by rw [H.out]; rfl), rfl⟩)

theorem toPoint (x y : Int) (w : World) :
    Calls Try.prog 7 #[.agg #[.int .i64 x, .int .i64 y]] w fun e w' => e = .returned (.agg #[.int .i64 x, .int .i64 y]) ∧
      w' = (((w.alloc (.cells #[.int .i64 x, .int .i64 y] 24)).alloc (.cells #[.int .i64 x, .int .i64 y] 30)).alloc (.cells #[.int .i64 x, .int .i64 y] 30)) := by
  go_enter Try.func7, Try.ntmps7
  go_wp2
  exact bodyPost_ret (v := .agg #[.int .i64 x, .int .i64 y]) (by simp [results, Try.results7, go_sem]) rfl ⟨rfl, rfl⟩

theorem mul_self_nonneg' (a : Int) : 0 ≤ a * a := by
  rcases Int.le_total 0 a with h | h
  · exact Int.mul_nonneg h h
  · have := Int.mul_nonneg (show 0 ≤ -a by omega) (show 0 ≤ -a by omega)
    rwa [Int.neg_mul_neg] at this
/-- the square of the distance -/
def distN (x y u v : Int) : Int := (u - x) * (u - x) + (v - y) * (v - y)
theorem distN_bound {x y u v : Int} (h1 : okP x y = true) (h2 : okP u v = true) : 0 ≤ distN x y u v ∧ distN x y u v ≤ 80000000000 := by
  have a := okP_yes h1
  have b := okP_yes h2
  have m1 := mul_bound (a := u - x) (b := u - x) (A := 200000) (B := 200000) (by omega) (by omega) (by omega) (by omega) (by omega) (by omega)
  have m2 := mul_bound (a := v - y) (b := v - y) (A := 200000) (B := 200000) (by omega) (by omega) (by omega) (by omega) (by omega) (by omega)
  have s1 : 0 ≤ (u - x) * (u - x) := mul_self_nonneg' _
  have s2 : 0 ≤ (v - y) * (v - y) := mul_self_nonneg' _
  unfold distN
  omega

theorem specApart (x y u v : Int) (w : World) (h1 : okP x y = true) (h2 : okP u v = true) :
    Calls Try.prog 11 #[.agg #[.int .i64 x, .int .i64 y], .agg #[.int .i64 u, .int .i64 v]] w fun e w' => e = .returned (.int .i64 (rootF (distN x y u v))) ∧
      w' = (w.alloc (.cells #[.int .i64 x, .int .i64 y] 30)).alloc (.cells #[.int .i64 u, .int .i64 v] 30) := by
  have a := okP_yes h1
  have b := okP_yes h2
  have hd := distN_bound h1 h2
  have m1 := mul_bound (a := u - x) (b := u - x) (A := 200000) (B := 200000) (by omega) (by omega) (by omega) (by omega) (by omega) (by omega)
  have m2 := mul_bound (a := v - y) (b := v - y) (A := 200000) (B := 200000) (by omega) (by omega) (by omega) (by omega) (by omega) (by omega)
  have HR := Lib.hid (fun w => specRoot (distN x y u v) w (by omega))
  unfold distN at HR
  go_enter Try.func11, Try.ntmps11
  go_wp2_with (go_at_call 18; refine (HR.out _).mono ?_; rintro e w' ⟨rfl, rfl⟩)
  go_ret
  exact ⟨rfl, rfl⟩
theorem implApart (x y u v : Int) (w : World) (h1 : okP x y = true) (h2 : okP u v = true) :
    Calls Try.prog 15 #[.agg #[.int .i64 x, .int .i64 y], .agg #[.int .i64 u, .int .i64 v]] w fun e w' => e = .returned (.int .i64 (rootF (distN x y u v))) ∧ Below w.heap.size w w' := by
  have a := okP_yes h1
  have b := okP_yes h2
  have hd := distN_bound h1 h2
  have m1 := mul_bound (a := x - u) (b := x - u) (A := 200000) (B := 200000) (by omega) (by omega) (by omega) (by omega) (by omega) (by omega)
  have m2 := mul_bound (a := y - v) (b := y - v) (A := 200000) (B := 200000) (by omega) (by omega) (by omega) (by omega) (by omega) (by omega)
  have e1 : (u - x) * (u - x) = (x - u) * (x - u) := by rw [← Int.neg_sub x u, Int.neg_mul_neg]
  have e2 : (v - y) * (v - y) = (y - v) * (y - v) := by rw [← Int.neg_sub y v, Int.neg_mul_neg]
  have HD : Hid (distN x y u v = (x - u) * (x - u) + (y - v) * (y - v)) := Lib.hid (by unfold distN; rw [e1, e2])
  have HR := Lib.hid (fun w => implRoot (distN x y u v) w (by omega))
  rw [HD.out] at HR
  clear e1 e2
  go_enter Try.func15, Try.ntmps15
  go_wp2_with (go_at_call 21; refine (HR.out _).mono ?_; rintro e w' ⟨rfl, rfl⟩)
  go_ret
  exact ⟨ret_int (by rw [HD.out]), (by repeat (first | with_reducible exact Below.refl _ _ | with_reducible assumption | (with_reducible refine Below.drew ?_) | (with_reducible refine below_drewN ?_ _) | ((with_reducible refine Below.alloc ?_ ?_ _); rotate_left; (focus first | exact Nat.le_refl _ | omega | (simp; done) | (simp; omega))) | ((with_reducible refine Below.setCell ?_ ?_ _); rotate_left; (focus first | exact Nat.le_refl _ | omega | (simp; done) | (simp; omega))) | ((with_reducible refine below_via (W := ?_) ?_ ?_ ?_); rotate_left; (with_reducible assumption); rotate_left; (focus first | exact Nat.le_refl _ | omega | (simp; done) | (simp; omega)))))⟩

/-- the distance of two points, 0 where one is not valid -/
def distF (x y u v : Int) : Int := bif okP x y && okP u v then rootF (distN x y u v) else 0
end Go.Proofs.Ytbggickeomeidaa.WalkP
