/- The comparison of two points, once; the wedge joined. -/
import Derived.Test.YtbggickeomeidaaDoorWalkF
import Derived.Laws.StructEq
import Derived.Deep.RegionHeld3
namespace Go.Proofs.YtbggickeomeidaaDoor.WalkFe
open Go Go.RowKit Go.Proofs.YtbggickeomeidaaDoor.Base Go.Proofs.YtbggickeomeidaaDoor.Plain Go.Proofs.YtbggickeomeidaaDoor.PlainD Go.Proofs.YtbggickeomeidaaDoor.WalkN Go.Proofs.YtbggickeomeidaaDoor.WalkP Go.Proofs.YtbggickeomeidaaDoor.WalkD Go.Proofs.YtbggickeomeidaaDoor.WalkF
set_option linter.unusedVariables false
set_option linter.unusedSimpArgs false

theorem eqPt (x y u v : Int) (w : World) : (binOp .eql 31 (.agg #[.int .i64 x, .int .i64 y]) (.agg #[.int .i64 u, .int .i64 v])).run Tryd.prog w = .ok (.bool ((x == u) && (y == v))) w := by
  have hf : (Tryd.prog.fieldsOf 31).toList = [⟨ "X", 2, 0, false, "", "", 0⟩, ⟨ "Y", 2, 1, false, "", "", 8⟩] := by kernel_rfl
  have hp : ∀ (o : Nat) (cs : Array Value) (v : Value), cs[o]? = some v → (part 2 cs o).run Tryd.prog w = .ok v w := fun o cs v h => by
    have hi : (isAgg 2).run Tryd.prog w = .ok false w := by kernel_rfl
    unfold part
    simp only [Sem.run_bind, hi, Result.andThen_ok, h]
    rfl
  rw [run_eql_struct, run_equalIn_struct w 9999 31 _ _ (by kernel_rfl) (by kernel_rfl), hf]
  have e1 := fun a b : Int => run_equalIn_int (P := Tryd.prog) w 9998 2 .i64 .i64 a b Tryd.underlying2
  simp only [Op.eqFields]
  have hx := hp 0 #[.int .i64 x, .int .i64 y] _ rfl
  have hy := hp 1 #[.int .i64 x, .int .i64 y] _ rfl
  have hu := hp 0 #[.int .i64 u, .int .i64 v] _ rfl
  have hv := hp 1 #[.int .i64 u, .int .i64 v] _ rfl
  cases h1 : (x == u) <;> cases h2 : (y == v) <;> simp [Sem.run_bind, hx, hy, hu, hv, e1, h1, h2, Result.andThen_ok, Sem.run_ite]
theorem guardPt (x y u v : Int) (a b : Operand) (w : World) : (eqGuard .eql 31 a b (.agg #[.int .i64 x, .int .i64 y]) (.agg #[.int .i64 u, .int .i64 v])).run Tryd.prog w = .ok () w :=
  run_eqGuard_agg w .eql 31 a b _ _ (by kernel_rfl)

set_option maxHeartbeats 2000000 in
theorem inWedge (x y az wd u v : Int) (wx : (Lit.int .i64 x).wf = true) (wy : (Lit.int .i64 y).wf = true) (wa : (Lit.int .i64 az).wf = true) (ww : (Lit.int .i64 wd).wf = true) (wu : (Lit.int .i64 u).wf = true) (wv : (Lit.int .i64 v).wf = true) (w : World) (ht : Tab w) :
    Calls Tryd.prog 8 #[.agg #[.int .i64 x, .int .i64 y], .int .i64 az, .int .i64 wd, .agg #[.int .i64 u, .int .i64 v]] w fun e w' => e = .returned (.bool true) ∧ Below w.heap.size w w' := by
  have A := Lib.hid (fun W => specWedge x y az wd u v W eqPt guardPt)
  have C := Lib.hid (fun W (hb : Below w.heap.size w W) => implWedge x y az wd u v W (ht.below hb) eqPt guardPt)
  clear ht
  go_enter Tryd.func8, Tryd.ntmps8
  go_wp2_with fail
  go_region_held3 (fun w' => w'.cell? ⟨w.heap.size, 0, none⟩ = some (.int .i64 x) ∧ w'.cell? ⟨w.heap.size, 1, none⟩ = some (.int .i64 y) ∧ w'.cell? ⟨w.heap.size + 1, 0, none⟩ = some (.int .i64 u) ∧ w'.cell? ⟨w.heap.size + 1, 1, none⟩ = some (.int .i64 v)) ((((try dsimp only); (repeat' apply And.intro) <;> (repeat (first | with_reducible assumption | (with_reducible refine keep_drew ?_) | (with_reducible refine keep_drewN ?_) | ((with_reducible refine keep_new _ _ _ _ _ _ ?_ ?_) <;> (first | rfl | (simp; done) | omega)) | (with_reducible refine keep_alloc _ ?_) | ((with_reducible refine keep_set _ ?_ ?_); (focus first | omega | (simp; done) | (simp; omega))) | ((with_reducible refine keep_set' _ ?_ ?_); (focus first | omega | (simp; done))) | ((with_reducible refine keep_same (u := ?_) _ ?_); rotate_left) | ((with_reducible refine keep_setA _ ?_ ?_); (focus first | omega | (simp; done) | (simp; omega))) | ((with_reducible refine keep_below (w := ?_) ?_ ?_); rotate_left; (with_reducible assumption)))))))
    (first | (go_at_call 27; refine (toPoint _ _ _).mono ?_; rintro e w' ⟨rfl, rfl⟩) | (go_at_call 26; refine (A.out _).mono ?_; rintro e w1 ⟨rfl, hb1⟩; obtain ⟨hc1, hf1⟩ := bcell hb1))
  have hB1 : Below w.heap.size w w1 := Below.trans (by repeat (first | with_reducible exact Below.refl _ _ | with_reducible assumption | (with_reducible refine Below.drew ?_) | (with_reducible refine below_drewN ?_ _) | ((with_reducible refine Below.alloc ?_ ?_ _); rotate_left; (focus first | exact Nat.le_refl _ | omega | (simp; done) | (simp; omega))) | ((with_reducible refine Below.setCell ?_ ?_ _); rotate_left; (focus first | exact Nat.le_refl _ | omega | (simp; done) | (simp; omega))) | ((with_reducible refine below_via (W := ?_) ?_ ?_ ?_); rotate_left; (with_reducible assumption); rotate_left; (focus first | exact Nat.le_refl _ | omega | (simp; done) | (simp; omega))))) (hb1.mono (by simp; omega))
  have hz1 : w.heap.size + 2 ≤ w1.heap.size := by have := hb1.size; simp at this; omega
  clear hb1 hc1 hf1
  obtain ⟨g1, g2, g3, g4⟩ : w1.cell? ⟨w.heap.size, 0, none⟩ = some (.int .i64 x) ∧ w1.cell? ⟨w.heap.size, 1, none⟩ = some (.int .i64 y) ∧ w1.cell? ⟨w.heap.size + 1, 0, none⟩ = some (.int .i64 u) ∧ w1.cell? ⟨w.heap.size + 1, 1, none⟩ = some (.int .i64 v) := by assumption
  go_wp2_with fail
  go_region_held3 (fun w' => w'.cell? ⟨w.heap.size, 0, none⟩ = some (.int .i64 x) ∧ w'.cell? ⟨w.heap.size, 1, none⟩ = some (.int .i64 y) ∧ w'.cell? ⟨w.heap.size + 1, 0, none⟩ = some (.int .i64 u) ∧ w'.cell? ⟨w.heap.size + 1, 1, none⟩ = some (.int .i64 v)) ((((try dsimp only); (repeat' apply And.intro) <;> (repeat (first | with_reducible assumption | (with_reducible refine keep_drew ?_) | (with_reducible refine keep_drewN ?_) | ((with_reducible refine keep_new _ _ _ _ _ _ ?_ ?_) <;> (first | rfl | (simp; done) | omega)) | (with_reducible refine keep_alloc _ ?_) | ((with_reducible refine keep_set _ ?_ ?_); (focus first | omega | (simp; done) | (simp; omega))) | ((with_reducible refine keep_set' _ ?_ ?_); (focus first | omega | (simp; done))) | ((with_reducible refine keep_same (u := ?_) _ ?_); rotate_left) | ((with_reducible refine keep_setA _ ?_ ?_); (focus first | omega | (simp; done) | (simp; omega))) | ((with_reducible refine keep_below (w := ?_) ?_ ?_); rotate_left; (with_reducible assumption)))))))
    (first | (go_at_call 27; refine (toPoint _ _ _).mono ?_; rintro e w' ⟨rfl, rfl⟩) | (go_at_call 28; refine (C.out _ (by repeat (first | with_reducible exact Below.refl _ _ | with_reducible assumption | (with_reducible refine Below.drew ?_) | (with_reducible refine below_drewN ?_ _) | ((with_reducible refine Below.alloc ?_ ?_ _); rotate_left; (focus first | exact Nat.le_refl _ | omega | (simp; done) | (simp; omega))) | ((with_reducible refine Below.setCell ?_ ?_ _); rotate_left; (focus first | exact Nat.le_refl _ | omega | (simp; done) | (simp; omega))) | ((with_reducible refine below_via (W := ?_) ?_ ?_ ?_); rotate_left; (with_reducible assumption); rotate_left; (focus first | exact Nat.le_refl _ | omega | (simp; done) | (simp; omega)))))).mono ?_; rintro e w2 ⟨rfl, hb2⟩; obtain ⟨hc2, hf2⟩ := bcell hb2))
  have hB2 : Below w.heap.size w1 w2 := Below.trans (by repeat (first | with_reducible exact Below.refl _ _ | with_reducible assumption | (with_reducible refine Below.drew ?_) | (with_reducible refine below_drewN ?_ _) | ((with_reducible refine Below.alloc ?_ ?_ _); rotate_left; (focus first | exact Nat.le_refl _ | omega | (simp; done) | (simp; omega))) | ((with_reducible refine Below.setCell ?_ ?_ _); rotate_left; (focus first | exact Nat.le_refl _ | omega | (simp; done) | (simp; omega))) | ((with_reducible refine below_via (W := ?_) ?_ ?_ ?_); rotate_left; (with_reducible assumption); rotate_left; (focus first | exact Nat.le_refl _ | omega | (simp; done) | (simp; omega))))) (hb2.mono (by simp; omega))
  clear hb2 hc2 hf2
  go_wp2
  go_ret
  exact ⟨rfl, hB1.trans hB2⟩

end Go.Proofs.YtbggickeomeidaaDoor.WalkFe
