/- The wedge: the walks and the law. -/
import Derived.Test.YtbggickeomeidaaDoorWalkE3
namespace Go.Proofs.YtbggickeomeidaaDoor.WalkF
open Go Go.RowKit Go.Proofs.YtbggickeomeidaaDoor.Base Go.Proofs.YtbggickeomeidaaDoor.Plain Go.Proofs.YtbggickeomeidaaDoor.PlainD Go.Proofs.YtbggickeomeidaaDoor.WalkN Go.Proofs.YtbggickeomeidaaDoor.WalkP Go.Proofs.YtbggickeomeidaaDoor.WalkD Go.Proofs.YtbggickeomeidaaDoor.WalkE Go.Proofs.YtbggickeomeidaaDoor.WalkE2 Go.Proofs.YtbggickeomeidaaDoor.WalkE3
set_option linter.unusedVariables false
set_option linter.unusedSimpArgs false

theorem turnP_bd (a b : Int) : 0 ≤ turnP a b ∧ turnP a b ≤ 360 := by unfold turnP; split <;> omega
/-- does a point lie within an angle of view -/
def wedgeF (x y az wd u v : Int) : Bool :=
  okP x y && okP u v && inB wd 0 360 && (decide (x = u ∧ y = v) || decide (2 * turnP (bestF (u - x) (v - y) 360) az ≤ wd))
theorem wedge_out {x y az wd u v : Int} (h : ¬ (okP x y = true ∧ okP u v = true ∧ inB wd 0 360 = true)) : wedgeF x y az wd u v = false := by
  unfold wedgeF
  cases h1 : okP x y <;> cases h2 : okP u v <;> cases h3 : inB wd 0 360 <;> first | rfl | exact absurd ⟨h1, h2, h3⟩ h
theorem wedge_same {x y az wd : Int} (h1 : okP x y = true) (h3 : inB wd 0 360 = true) : wedgeF x y az wd x y = true := by
  unfold wedgeF
  rw [h1, h3]
  simp
theorem wedge_far {x y az wd u v : Int} (h1 : okP x y = true) (h2 : okP u v = true) (h3 : inB wd 0 360 = true) (h : ¬ (x = u ∧ y = v)) :
    wedgeF x y az wd u v = decide (2 * turnP (bestF (u - x) (v - y) 360) az ≤ wd) := by
  unfold wedgeF
  rw [h1, h2, h3, decide_eq_false h]
  simp

set_option maxHeartbeats 2000000 in
theorem specWedge (x y az wd u v : Int) (w : World) (EQ : ∀ (x y u v : Int) (w : World), (binOp .eql 31 (.agg #[.int .i64 x, .int .i64 y]) (.agg #[.int .i64 u, .int .i64 v])).run Tryd.prog w = .ok (.bool ((x == u) && (y == v))) w) (EG : ∀ (x y u v : Int) (a b : Operand) (w : World), (eqGuard .eql 31 a b (.agg #[.int .i64 x, .int .i64 y]) (.agg #[.int .i64 u, .int .i64 v])).run Tryd.prog w = .ok () w) :
    Calls Tryd.prog 26 #[.agg #[.int .i64 x, .int .i64 y], .int .i64 az, .int .i64 wd, .agg #[.int .i64 u, .int .i64 v]] w fun e w' => e = .returned (.bool (wedgeF x y az wd u v)) ∧ Below w.heap.size w w' := by
  cases h1 : okP x y <;> cases h2 : okP u v <;> cases h3 : inB wd 0 360
  case true.true.true =>
    by_cases hs : x = u ∧ y = v
    · obtain ⟨rfl, rfl⟩ := hs
      have HF := Lib.hid (wedge_same (az := az) h1 h3)
      go_enter Tryd.func26, Tryd.ntmps26
      go_wp2_with (first | (go_at_call 27; refine (toPoint _ _ _).mono ?_; rintro e w' ⟨rfl, rfl⟩) | (go_at_call 46; refine (specOk _ _ _).mono ?_; rintro e w' ⟨rfl, rfl⟩) | (go_at_call 49; refine (implOk _ _ _).mono ?_; rintro e w' ⟨rfl, rfl⟩) | (go_at_call 38; refine (specIn _ _ _ _).mono ?_; rintro e w' ⟨rfl, rfl⟩) | (go_at_call 50; refine (implIn _ _ _ _).mono ?_; rintro e w' ⟨rfl, rfl⟩))
      go_ret
      exact ⟨ret_bool HF.out.symm, (by repeat (first | with_reducible exact Below.refl _ _ | with_reducible assumption | (with_reducible refine Below.drew ?_) | (with_reducible refine below_drewN ?_ _) | ((with_reducible refine Below.alloc ?_ ?_ _); rotate_left; (focus first | exact Nat.le_refl _ | omega | (simp; done) | (simp; omega))) | ((with_reducible refine Below.setCell ?_ ?_ _); rotate_left; (focus first | exact Nat.le_refl _ | omega | (simp; done) | (simp; omega))) | ((with_reducible refine below_via (W := ?_) ?_ ?_ ?_); rotate_left; (with_reducible assumption); rotate_left; (focus first | exact Nat.le_refl _ | omega | (simp; done) | (simp; omega)))))⟩
    · have HF := Lib.hid (wedge_far (az := az) h1 h2 h3 hs)
      have A1 := Lib.hid (fun w => specBearing x y u v w h1 h2)
      have tb := turnP_bd (bestF (u - x) (v - y) 360) az
      have he : ((x == u) && (y == v)) = false := by
        rw [Bool.eq_false_iff]
        intro h
        simp at h
        exact hs h
      clear hs
      have EQ2 := EQ x y u v
      have EG2 := EG x y u v
      rw [he] at EQ2
      clear EQ EG he
      go_enter Tryd.func26, Tryd.ntmps26
      go_wp2_with (first | (go_at_call 27; refine (toPoint _ _ _).mono ?_; rintro e w' ⟨rfl, rfl⟩) | (go_at_call 46; refine (specOk _ _ _).mono ?_; rintro e w' ⟨rfl, rfl⟩) | (go_at_call 49; refine (implOk _ _ _).mono ?_; rintro e w' ⟨rfl, rfl⟩) | (go_at_call 38; refine (specIn _ _ _ _).mono ?_; rintro e w' ⟨rfl, rfl⟩) | (go_at_call 50; refine (implIn _ _ _ _).mono ?_; rintro e w' ⟨rfl, rfl⟩) | (go_at_call 48; refine (A1.out _).mono ?_; rintro e w1 ⟨rfl, hb1⟩) | (go_at_call 47; refine (specTurn _ _ _).mono ?_; rintro e w' ⟨rfl, rfl⟩))
      go_ret
      exact ⟨ret_bool HF.out.symm, (by repeat (first | with_reducible exact Below.refl _ _ | with_reducible assumption | (with_reducible refine Below.drew ?_) | (with_reducible refine below_drewN ?_ _) | ((with_reducible refine Below.alloc ?_ ?_ _); rotate_left; (focus first | exact Nat.le_refl _ | omega | (simp; done) | (simp; omega))) | ((with_reducible refine Below.setCell ?_ ?_ _); rotate_left; (focus first | exact Nat.le_refl _ | omega | (simp; done) | (simp; omega))) | ((with_reducible refine below_via (W := ?_) ?_ ?_ ?_); rotate_left; (with_reducible assumption); rotate_left; (focus first | exact Nat.le_refl _ | omega | (simp; done) | (simp; omega)))))⟩
  all_goals have HF := Lib.hid (wedge_out (az := az) (show ¬ (okP x y = true ∧ okP u v = true ∧ inB wd 0 360 = true) by rw [h1, h2, h3]; simp))
  all_goals clear EQ EG
  all_goals go_enter Tryd.func26, Tryd.ntmps26
  all_goals go_wp2_with (first | (go_at_call 27; refine (toPoint _ _ _).mono ?_; rintro e w' ⟨rfl, rfl⟩) | (go_at_call 46; refine (specOk _ _ _).mono ?_; rintro e w' ⟨rfl, rfl⟩) | (go_at_call 49; refine (implOk _ _ _).mono ?_; rintro e w' ⟨rfl, rfl⟩) | (go_at_call 38; refine (specIn _ _ _ _).mono ?_; rintro e w' ⟨rfl, rfl⟩) | (go_at_call 50; refine (implIn _ _ _ _).mono ?_; rintro e w' ⟨rfl, rfl⟩))
  all_goals (go_ret; exact ⟨ret_bool HF.out.symm, (by repeat (first | with_reducible exact Below.refl _ _ | with_reducible assumption | (with_reducible refine Below.drew ?_) | (with_reducible refine below_drewN ?_ _) | ((with_reducible refine Below.alloc ?_ ?_ _); rotate_left; (focus first | exact Nat.le_refl _ | omega | (simp; done) | (simp; omega))) | ((with_reducible refine Below.setCell ?_ ?_ _); rotate_left; (focus first | exact Nat.le_refl _ | omega | (simp; done) | (simp; omega))) | ((with_reducible refine below_via (W := ?_) ?_ ?_ ?_); rotate_left; (with_reducible assumption); rotate_left; (focus first | exact Nat.le_refl _ | omega | (simp; done) | (simp; omega)))))⟩)

set_option maxHeartbeats 2000000 in
theorem implWedge (x y az wd u v : Int) (w : World) (ht : Tab w) (EQ : ∀ (x y u v : Int) (w : World), (binOp .eql 31 (.agg #[.int .i64 x, .int .i64 y]) (.agg #[.int .i64 u, .int .i64 v])).run Tryd.prog w = .ok (.bool ((x == u) && (y == v))) w) (EG : ∀ (x y u v : Int) (a b : Operand) (w : World), (eqGuard .eql 31 a b (.agg #[.int .i64 x, .int .i64 y]) (.agg #[.int .i64 u, .int .i64 v])).run Tryd.prog w = .ok () w) :
    Calls Tryd.prog 28 #[.agg #[.int .i64 x, .int .i64 y], .int .i64 az, .int .i64 wd, .agg #[.int .i64 u, .int .i64 v]] w fun e w' => e = .returned (.bool (wedgeF x y az wd u v)) ∧ Below w.heap.size w w' := by
  have HT := Lib.hid ht
  clear ht
  cases h1 : okP x y <;> cases h2 : okP u v <;> cases h3 : inB wd 0 360
  case true.true.true =>
    by_cases hs : x = u ∧ y = v
    · obtain ⟨rfl, rfl⟩ := hs
      have HF := Lib.hid (wedge_same (az := az) h1 h3)
      go_enter Tryd.func28, Tryd.ntmps28
      go_wp2_with (first | (go_at_call 27; refine (toPoint _ _ _).mono ?_; rintro e w' ⟨rfl, rfl⟩) | (go_at_call 46; refine (specOk _ _ _).mono ?_; rintro e w' ⟨rfl, rfl⟩) | (go_at_call 49; refine (implOk _ _ _).mono ?_; rintro e w' ⟨rfl, rfl⟩) | (go_at_call 38; refine (specIn _ _ _ _).mono ?_; rintro e w' ⟨rfl, rfl⟩) | (go_at_call 50; refine (implIn _ _ _ _).mono ?_; rintro e w' ⟨rfl, rfl⟩))
      go_ret
      exact ⟨ret_bool HF.out.symm, (by repeat (first | with_reducible exact Below.refl _ _ | with_reducible assumption | (with_reducible refine Below.drew ?_) | (with_reducible refine below_drewN ?_ _) | ((with_reducible refine Below.alloc ?_ ?_ _); rotate_left; (focus first | exact Nat.le_refl _ | omega | (simp; done) | (simp; omega))) | ((with_reducible refine Below.setCell ?_ ?_ _); rotate_left; (focus first | exact Nat.le_refl _ | omega | (simp; done) | (simp; omega))) | ((with_reducible refine below_via (W := ?_) ?_ ?_ ?_); rotate_left; (with_reducible assumption); rotate_left; (focus first | exact Nat.le_refl _ | omega | (simp; done) | (simp; omega)))))⟩
    · have HF := Lib.hid (wedge_far (az := az) h1 h2 h3 hs)
      have A1 := Lib.hid (fun W (hb : Below w.heap.size w W) => implBearing x y u v W (HT.out.below hb) h1 h2)
      have tb := turnP_bd (bestF (u - x) (v - y) 360) az
      have he : ((u == x) && (v == y)) = false := by
        rw [Bool.eq_false_iff]
        intro h
        simp at h
        exact hs ⟨h.1.symm, h.2.symm⟩
      clear hs
      have EQ2 := EQ u v x y
      have EG2 := EG u v x y
      rw [he] at EQ2
      clear EQ EG he
      go_enter Tryd.func28, Tryd.ntmps28
      go_wp2_with (first | (go_at_call 27; refine (toPoint _ _ _).mono ?_; rintro e w' ⟨rfl, rfl⟩) | (go_at_call 46; refine (specOk _ _ _).mono ?_; rintro e w' ⟨rfl, rfl⟩) | (go_at_call 49; refine (implOk _ _ _).mono ?_; rintro e w' ⟨rfl, rfl⟩) | (go_at_call 38; refine (specIn _ _ _ _).mono ?_; rintro e w' ⟨rfl, rfl⟩) | (go_at_call 50; refine (implIn _ _ _ _).mono ?_; rintro e w' ⟨rfl, rfl⟩) | (go_at_call 52; refine (A1.out _ (by repeat (first | with_reducible exact Below.refl _ _ | with_reducible assumption | (with_reducible refine Below.drew ?_) | (with_reducible refine below_drewN ?_ _) | ((with_reducible refine Below.alloc ?_ ?_ _); rotate_left; (focus first | exact Nat.le_refl _ | omega | (simp; done) | (simp; omega))) | ((with_reducible refine Below.setCell ?_ ?_ _); rotate_left; (focus first | exact Nat.le_refl _ | omega | (simp; done) | (simp; omega))) | ((with_reducible refine below_via (W := ?_) ?_ ?_ ?_); rotate_left; (with_reducible assumption); rotate_left; (focus first | exact Nat.le_refl _ | omega | (simp; done) | (simp; omega)))))).mono ?_; rintro e w1 ⟨rfl, hb1⟩) | (go_at_call 51; refine (implTurn _ _ _).mono ?_; rintro e w' ⟨rfl, rfl⟩))
      go_ret
      exact ⟨ret_bool HF.out.symm, (by repeat (first | with_reducible exact Below.refl _ _ | with_reducible assumption | (with_reducible refine Below.drew ?_) | (with_reducible refine below_drewN ?_ _) | ((with_reducible refine Below.alloc ?_ ?_ _); rotate_left; (focus first | exact Nat.le_refl _ | omega | (simp; done) | (simp; omega))) | ((with_reducible refine Below.setCell ?_ ?_ _); rotate_left; (focus first | exact Nat.le_refl _ | omega | (simp; done) | (simp; omega))) | ((with_reducible refine below_via (W := ?_) ?_ ?_ ?_); rotate_left; (with_reducible assumption); rotate_left; (focus first | exact Nat.le_refl _ | omega | (simp; done) | (simp; omega)))))⟩
  all_goals have HF := Lib.hid (wedge_out (az := az) (show ¬ (okP x y = true ∧ okP u v = true ∧ inB wd 0 360 = true) by rw [h1, h2, h3]; simp))
  all_goals clear EQ EG
  all_goals go_enter Tryd.func28, Tryd.ntmps28
  all_goals go_wp2_with (first | (go_at_call 27; refine (toPoint _ _ _).mono ?_; rintro e w' ⟨rfl, rfl⟩) | (go_at_call 46; refine (specOk _ _ _).mono ?_; rintro e w' ⟨rfl, rfl⟩) | (go_at_call 49; refine (implOk _ _ _).mono ?_; rintro e w' ⟨rfl, rfl⟩) | (go_at_call 38; refine (specIn _ _ _ _).mono ?_; rintro e w' ⟨rfl, rfl⟩) | (go_at_call 50; refine (implIn _ _ _ _).mono ?_; rintro e w' ⟨rfl, rfl⟩))
  all_goals (go_ret; exact ⟨ret_bool HF.out.symm, (by repeat (first | with_reducible exact Below.refl _ _ | with_reducible assumption | (with_reducible refine Below.drew ?_) | (with_reducible refine below_drewN ?_ _) | ((with_reducible refine Below.alloc ?_ ?_ _); rotate_left; (focus first | exact Nat.le_refl _ | omega | (simp; done) | (simp; omega))) | ((with_reducible refine Below.setCell ?_ ?_ _); rotate_left; (focus first | exact Nat.le_refl _ | omega | (simp; done) | (simp; omega))) | ((with_reducible refine below_via (W := ?_) ?_ ?_ ?_); rotate_left; (with_reducible assumption); rotate_left; (focus first | exact Nat.le_refl _ | omega | (simp; done) | (simp; omega)))))⟩)

end Go.Proofs.YtbggickeomeidaaDoor.WalkF
