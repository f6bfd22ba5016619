/- Points: validity, distance, a point between two points. -/
import Derived.Test.YtbggickeomeidaaDoorWalkR
import Derived.StillTailTactics
import Derived.Deep.RegionHeld3
namespace Go.Proofs.YtbggickeomeidaaDoor.WalkP
open Go.RowKit Go.Proofs.YtbggickeomeidaaDoor.Base Go.Proofs.YtbggickeomeidaaDoor.Plain Go.Proofs.YtbggickeomeidaaDoor.WalkN Go.Proofs.YtbggickeomeidaaDoor.WalkR
set_option linter.unusedVariables false
set_option linter.unusedSimpArgs false

theorem keep_alloc {w : World} {a : Addr} {v : Value} (o : Obj) (h : w.cell? a = some v) : (w.alloc o).cell? a = some v := by
  rw [World.cell?_alloc_lt w o a (World.block_lt_of_cell? _ _ h)]
  exact h
theorem keep_drew {w : World} {a : Addr} {v : Value} (h : w.cell? a = some v) : w.drew.cell? a = some v := h
theorem keep_drewN {w : World} {a : Addr} {v : Value} {n : Nat} (h : w.cell? a = some v) : (w.drewN n).cell? a = some v := h
theorem keep_below {w w1 : World} {a : Addr} {v : Value} (hb : Below w.heap.size w w1) (h : w.cell? a = some v) : w1.cell? a = some v := by
  rw [hb.cell (World.block_lt_of_cell? _ _ h)]
  exact h
theorem keep_set {w : World} {b o b' o' : Nat} {v : Value} (u : Value) (hne : b ≠ b') (h : w.cell? ⟨b, o, none⟩ = some v) : (w.setCell ⟨b', o', none⟩ u).cell? ⟨b, o, none⟩ = some v := by
  rw [World.cell?_setCell_other _ _ _ _ (by intro e; injection e; omega)]
  exact h
theorem keep_same {w : World} {a : Addr} {u : Value} (v : Value) (h : w.cell? a = some u) : (w.setCell a v).cell? a = some v := World.cell?_setCell_same _ _ _ h
theorem keep_set' {w : World} {b o o' : Nat} {v : Value} (u : Value) (hne : o ≠ o') (h : w.cell? ⟨b, o, none⟩ = some v) : (w.setCell ⟨b, o', none⟩ u).cell? ⟨b, o, none⟩ = some v := by
  rw [World.cell?_setCell_other _ _ _ _ (by intro e; injection e; omega)]
  exact h
theorem keep_setA {w : World} {a : Addr} {b' o' : Nat} {v : Value} (u : Value) (hne : a.block ≠ b') (h : w.cell? a = some v) : (w.setCell ⟨b', o', none⟩ u).cell? a = some v := by
  rw [World.cell?_setCell_other _ _ _ _ (by intro e; subst e; exact hne rfl)]
  exact h
theorem below_via {B : Nat} {w W w1 : World} (hb : Below W.heap.size W w1) (h : Below B w W) (hB : B ≤ W.heap.size) : Below B w w1 := h.trans (hb.mono hB)
theorem keep_new (w : World) (cs : Array Value) (t : TypeId) (i b : Nat) (v : Value) (hb : b = w.heap.size) (h : cs[i]? = some v) : (w.alloc (.cells cs t)).cell? ⟨b, i, none⟩ = some v := by
  subst hb
  rw [World.cell?_alloc_at _ _ _ _ (by simp)]
  exact h
/-- is a point valid -/
def okP (x y : Int) : Bool := inB x 0 200000 && inB y 0 200000
theorem okP_yes {x y : Int} (h : okP x y = true) : (0 ≤ x ∧ x ≤ 200000) ∧ (0 ≤ y ∧ y ≤ 200000) := by
  unfold okP at h
  rw [Bool.and_eq_true] at h
  exact ⟨inB_yes h.1, inB_yes h.2⟩
theorem specOk (x y : Int) (w : World) :
    Calls Tryd.prog 46 #[.agg #[.int .i64 x, .int .i64 y]] w fun e w' => e = .returned (.bool (okP x y)) ∧ w' = w.alloc (.cells #[.int .i64 x, .int .i64 y] 31) := by
  cases h1 : inB x 0 200000 <;> cases h2 : inB y 0 200000
  all_goals have H := Lib.hid (show okP x y = _ by unfold okP; rw [h1, h2])
  all_goals go_enter Tryd.func46, Tryd.ntmps46
  all_goals go_wp2_with (first | (go_at_call 38; refine (specIn _ _ _ _).mono ?_; rintro e w' ⟨rfl, rfl⟩) | (go_at_call 50; refine (implIn _ _ _ _).mono ?_; rintro e w' ⟨rfl, rfl⟩) | go_in)
  all_goals (go_ret; exact ⟨ret_bool (by rw [H.out]; rfl), rfl⟩)
theorem implOk (x y : Int) (w : World) :
    Calls Tryd.prog 49 #[.agg #[.int .i64 x, .int .i64 y]] w fun e w' => e = .returned (.bool (okP x y)) ∧ w' = w.alloc (.cells #[.int .i64 x, .int .i64 y] 31) := by
  cases h1 : inB x 0 200000 <;> cases h2 : inB y 0 200000
  all_goals have H := Lib.hid (show okP x y = _ by unfold okP; rw [h1, h2])
  all_goals go_enter Tryd.func49, Tryd.ntmps49
  all_goals go_wp2_with (first | (go_at_call 38; refine (specIn _ _ _ _).mono ?_; rintro e w' ⟨rfl, rfl⟩) | (go_at_call 50; refine (implIn _ _ _ _).mono ?_; rintro e w' ⟨rfl, rfl⟩) | go_in)
  all_goals (go_ret; exact ⟨ret_bool (by rw [H.out]; rfl), rfl⟩)

theorem toPoint (x y : Int) (w : World) :
    Calls Tryd.prog 27 #[.agg #[.int .i64 x, .int .i64 y]] w fun e w' => e = .returned (.agg #[.int .i64 x, .int .i64 y]) ∧
      w' = (((w.alloc (.cells #[.int .i64 x, .int .i64 y] 39)).alloc (.cells #[.int .i64 x, .int .i64 y] 31)).alloc (.cells #[.int .i64 x, .int .i64 y] 31)) := by
  go_enter Tryd.func27, Tryd.ntmps27
  go_wp2
  exact bodyPost_ret (v := .agg #[.int .i64 x, .int .i64 y]) (by simp [results, Tryd.results27, go_sem]) rfl ⟨rfl, rfl⟩

theorem mul_self_nonneg' (a : Int) : 0 ≤ a * a := by
  rcases Int.le_total 0 a with h | h
  · exact Int.mul_nonneg h h
  · have := Int.mul_nonneg (show 0 ≤ -a by omega) (show 0 ≤ -a by omega)
    rwa [Int.neg_mul_neg] at this
/-- the square of the distance -/
def distN (x y u v : Int) : Int := (u - x) * (u - x) + (v - y) * (v - y)
theorem distN_bound {x y u v : Int} (h1 : okP x y = true) (h2 : okP u v = true) : 0 ≤ distN x y u v ∧ distN x y u v ≤ 80000000000 := by
  have a := okP_yes h1
  have b := okP_yes h2
  have m1 := mul_bound (a := u - x) (b := u - x) (A := 200000) (B := 200000) (by omega) (by omega) (by omega) (by omega) (by omega) (by omega)
  have m2 := mul_bound (a := v - y) (b := v - y) (A := 200000) (B := 200000) (by omega) (by omega) (by omega) (by omega) (by omega) (by omega)
  have s1 : 0 ≤ (u - x) * (u - x) := mul_self_nonneg' _
  have s2 : 0 ≤ (v - y) * (v - y) := mul_self_nonneg' _
  unfold distN
  omega

/-- the distance of two points, 0 where one is not valid -/
def distF (x y u v : Int) : Int := bif okP x y && okP u v then rootF (distN x y u v) else 0
end Go.Proofs.YtbggickeomeidaaDoor.WalkP
