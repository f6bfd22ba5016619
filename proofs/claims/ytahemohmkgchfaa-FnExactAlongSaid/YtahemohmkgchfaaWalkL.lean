/- A point between two points: the walks. -/
import Derived.Test.YtahemohmkgchfaaWalkP
namespace Go.Proofs.Ytahemohmkgchfaa.WalkL
open Go.RowKit Go.Proofs.Ytahemohmkgchfaa.Base Go.Proofs.Ytahemohmkgchfaa.Plain Go.Proofs.Ytahemohmkgchfaa.WalkN Go.Proofs.Ytahemohmkgchfaa.WalkR Go.Proofs.Ytahemohmkgchfaa.WalkP
set_option linter.unusedVariables false
set_option linter.unusedSimpArgs false

def alongX (x u i n : Int) : Int := x + divR ((u - x) * i) n
theorem along_bd {x u i n : Int} (hx : 0 ≤ x ∧ x ≤ 200000) (hu : 0 ≤ u ∧ u ≤ 200000) (hn : 1 ≤ n ∧ n ≤ 1000) (hi : 0 ≤ i ∧ i ≤ n) :
    (-200000000 ≤ (u - x) * i ∧ (u - x) * i ≤ 200000000) ∧ (-200000000 ≤ divR ((u - x) * i) n ∧ divR ((u - x) * i) n ≤ 200000000) := by
  have m := mul_bound (a := u - x) (b := i) (A := 200000) (B := 1000) (by omega) (by omega) (by omega) (by omega) (by omega) (by omega)
  exact ⟨by omega, divR_bound (by omega) 200000000 (by omega) (by omega)⟩

theorem specAlong (x y u v i n : Int) (w : World) (h1 : okP x y = true) (h2 : okP u v = true) (hn : 1 ≤ n ∧ n ≤ 1000) (hi : 0 ≤ i ∧ i ≤ n) :
    Calls Try.prog 69 #[.agg #[.int .i64 x, .int .i64 y], .agg #[.int .i64 u, .int .i64 v], .int .i64 i, .int .i64 n] w fun e w' =>
      e = .returned (.agg #[.int .i64 (alongX x u i n), .int .i64 (alongX y v i n)]) ∧ Below w.heap.size w w' := by
  have a := okP_yes h1
  have b := okP_yes h2
  have d1 := along_bd a.1 b.1 hn hi
  have d2 := along_bd a.2 b.2 hn hi
  have e1 : IntKind.i64.wrap (u - x) = u - x := IntWalk.i64_in _ (by omega)
  have e2 : IntKind.i64.wrap ((u - x) * i) = (u - x) * i := IntWalk.i64_in _ (by omega)
  have e3 : IntKind.i64.wrap (x + divR ((u - x) * i) n) = x + divR ((u - x) * i) n := IntWalk.i64_in _ (by omega)
  have e4 : IntKind.i64.wrap (v - y) = v - y := IntWalk.i64_in _ (by omega)
  have e5 : IntKind.i64.wrap ((v - y) * i) = (v - y) * i := IntWalk.i64_in _ (by omega)
  have e6 : IntKind.i64.wrap (y + divR ((v - y) * i) n) = y + divR ((v - y) * i) n := IntWalk.i64_in _ (by omega)
  go_enter Try.func69, Try.ntmps69
  go_wp2_with fail
  go_region_held3 (fun w' => w'.cell? ⟨w.heap.size, 0, none⟩ = some (.int .i64 x) ∧ w'.cell? ⟨w.heap.size, 1, none⟩ = some (.int .i64 y) ∧ w'.cell? ⟨w.heap.size + 1, 0, none⟩ = some (.int .i64 u) ∧ w'.cell? ⟨w.heap.size + 1, 1, none⟩ = some (.int .i64 v)) ((((try dsimp only); (repeat' apply And.intro) <;> (repeat (first | with_reducible assumption | (with_reducible refine keep_drew ?_) | (with_reducible refine keep_drewN ?_) | ((with_reducible refine keep_new _ _ _ _ _ _ ?_ ?_) <;> (first | rfl | (simp; done) | omega)) | (with_reducible refine keep_alloc _ ?_) | ((with_reducible refine keep_set _ ?_ ?_); (focus first | omega | (simp; done) | (simp; omega))) | ((with_reducible refine keep_set' _ ?_ ?_); (focus first | omega | (simp; done))) | (with_reducible refine keep_same _ ?_) | ((with_reducible refine keep_below (w := ?_) ?_ ?_); rotate_left; (with_reducible assumption)))))))
    (first | (go_at_call 60; refine (specDiv _ _ _ (by omega) (by omega) (by omega)).mono ?_; rintro e w' ⟨rfl, rfl⟩))
  clear e1 e2 e3 e4 e5 e6
  go_wp2
  exact bodyPost_ret (v := .agg #[.int .i64 (alongX x u i n), .int .i64 (alongX y v i n)]) (by simp [results, Try.results69, go_sem, alongX]) rfl ⟨rfl, (by repeat (first | with_reducible exact Below.refl _ _ | with_reducible assumption | (with_reducible refine Below.drew ?_) | (with_reducible refine below_drewN ?_ _) | ((with_reducible refine Below.alloc ?_ ?_ _); rotate_left; (focus first | exact Nat.le_refl _ | omega | (simp; done) | (simp; omega))) | ((with_reducible refine Below.setCell ?_ ?_ _); rotate_left; (focus first | exact Nat.le_refl _ | omega | (simp; done) | (simp; omega))) | ((with_reducible refine below_via (W := ?_) ?_ ?_ ?_); rotate_left; (with_reducible assumption); rotate_left; (focus first | exact Nat.le_refl _ | omega | (simp; done) | (simp; omega)))))⟩

/-- what Along gives: the point and the code -/
def alongR (x y u v i n : Int) : Int × Int × Int :=
  bif okP x y && okP u v then (bif inB n 1 1000 && inB i 0 n then (alongX x u i n, alongX y v i n, 0) else (0, 0, 2)) else (0, 0, 1)
def alongV (x y u v i n : Int) : Value := .tuple #[.agg #[.int .i64 (alongR x y u v i n).1, .int .i64 (alongR x y u v i n).2.1], .int .i64 (alongR x y u v i n).2.2]
theorem alongV_eq {x y u v i n a b c : Int} (h : alongR x y u v i n = (a, b, c)) : alongV x y u v i n = .tuple #[.agg #[.int .i64 a, .int .i64 b], .int .i64 c] := by unfold alongV; rw [h]

set_option maxHeartbeats 2000000 in
theorem specAlongAll (x y u v i n : Int) (w : World) :
    Calls Try.prog 43 #[.agg #[.int .i64 x, .int .i64 y], .agg #[.int .i64 u, .int .i64 v], .int .i64 i, .int .i64 n] w fun e w' =>
      e = .returned (alongV x y u v i n) ∧ Below w.heap.size w w' := by
  cases h1 : okP x y <;> cases h2 : okP u v <;> cases hn : inB n 1 1000 <;> cases hi : inB i 0 n
  all_goals have HF := Lib.hid (alongV_eq (show alongR x y u v i n = _ by unfold alongR; rw [h1, h2, hn, hi]))
  case true.true.true.true =>
    have A1 := Lib.hid (fun w => specAlong x y u v i n w h1 h2 (inB_yes hn) (inB_yes hi))
    go_enter Try.func43, Try.ntmps43
    go_wp2_with (first | (go_at_call 21; refine (toPoint _ _ _).mono ?_; rintro e w' ⟨rfl, rfl⟩) | (go_at_call 50; refine (specOk _ _ _).mono ?_; rintro e w' ⟨rfl, rfl⟩) | (go_at_call 22; refine (implOk _ _ _).mono ?_; rintro e w' ⟨rfl, rfl⟩) | (go_at_call 51; refine (specIn _ _ _ _).mono ?_; rintro e w' ⟨rfl, rfl⟩) | (go_at_call 49; refine (implIn _ _ _ _).mono ?_; rintro e w' ⟨rfl, rfl⟩) | (go_at_call 69; refine (A1.out _).mono ?_; rintro e w1 ⟨rfl, hb1⟩; obtain ⟨hc1, hf1⟩ := bcell hb1) | go_in)
    exact bodyPost_ret (v := alongV x y u v i n) (by rw [HF.out]; simp [results, Try.results43, go_sem, hc1]) rfl ⟨rfl, Below.setCell (Below.setCell (Below.trans (by repeat (first | with_reducible exact Below.refl _ _ | with_reducible assumption | (with_reducible refine Below.drew ?_) | (with_reducible refine below_drewN ?_ _) | ((with_reducible refine Below.alloc ?_ ?_ _); rotate_left; (focus first | exact Nat.le_refl _ | omega | (simp; done) | (simp; omega))) | ((with_reducible refine Below.setCell ?_ ?_ _); rotate_left; (focus first | exact Nat.le_refl _ | omega | (simp; done) | (simp; omega))) | ((with_reducible refine below_via (W := ?_) ?_ ?_ ?_); rotate_left; (with_reducible assumption); rotate_left; (focus first | exact Nat.le_refl _ | omega | (simp; done) | (simp; omega))))) (hb1.mono (by simp; omega))) (by simp; omega) _) (by simp; omega) _⟩
  all_goals go_enter Try.func43, Try.ntmps43
  all_goals go_wp2_with (first | (go_at_call 21; refine (toPoint _ _ _).mono ?_; rintro e w' ⟨rfl, rfl⟩) | (go_at_call 50; refine (specOk _ _ _).mono ?_; rintro e w' ⟨rfl, rfl⟩) | (go_at_call 22; refine (implOk _ _ _).mono ?_; rintro e w' ⟨rfl, rfl⟩) | (go_at_call 51; refine (specIn _ _ _ _).mono ?_; rintro e w' ⟨rfl, rfl⟩) | (go_at_call 49; refine (implIn _ _ _ _).mono ?_; rintro e w' ⟨rfl, rfl⟩) | go_in)
  all_goals exact bodyPost_ret (v := alongV x y u v i n) (by rw [HF.out]; simp [results, Try.results43, go_sem]) rfl ⟨rfl, (by repeat (first | with_reducible exact Below.refl _ _ | with_reducible assumption | (with_reducible refine Below.drew ?_) | (with_reducible refine below_drewN ?_ _) | ((with_reducible refine Below.alloc ?_ ?_ _); rotate_left; (focus first | exact Nat.le_refl _ | omega | (simp; done) | (simp; omega))) | ((with_reducible refine Below.setCell ?_ ?_ _); rotate_left; (focus first | exact Nat.le_refl _ | omega | (simp; done) | (simp; omega))) | ((with_reducible refine below_via (W := ?_) ?_ ?_ ?_); rotate_left; (with_reducible assumption); rotate_left; (focus first | exact Nat.le_refl _ | omega | (simp; done) | (simp; omega)))))⟩

set_option maxHeartbeats 2000000 in
theorem implAlongAll (x y u v i n : Int) (w : World) :
    Calls Try.prog 44 #[.agg #[.int .i64 x, .int .i64 y], .agg #[.int .i64 u, .int .i64 v], .int .i64 i, .int .i64 n] w fun e w' =>
      e = .returned (alongV x y u v i n) ∧ Below w.heap.size w w' := by
  cases h1 : okP x y <;> cases h2 : okP u v <;> cases hn : inB n 1 1000 <;> cases hi : inB i 0 n
  all_goals have HF := Lib.hid (alongV_eq (show alongR x y u v i n = _ by unfold alongR; rw [h1, h2, hn, hi]))
  case true.true.true.true =>
    have a := okP_yes h1
    have b := okP_yes h2
    have n1 := inB_yes hn
    have n2 := inB_yes hi
    have d1 := along_bd a.1 b.1 n1 n2
    have d2 := along_bd a.2 b.2 n1 n2
    have e1 : IntKind.i64.wrap (u - x) = u - x := IntWalk.i64_in _ (by omega)
    have e2 : IntKind.i64.wrap ((u - x) * i) = (u - x) * i := IntWalk.i64_in _ (by omega)
    have e3 : IntKind.i64.wrap (x + divR ((u - x) * i) n) = x + divR ((u - x) * i) n := IntWalk.i64_in _ (by omega)
    have e4 : IntKind.i64.wrap (v - y) = v - y := IntWalk.i64_in _ (by omega)
    have e5 : IntKind.i64.wrap ((v - y) * i) = (v - y) * i := IntWalk.i64_in _ (by omega)
    have e6 : IntKind.i64.wrap (y + divR ((v - y) * i) n) = y + divR ((v - y) * i) n := IntWalk.i64_in _ (by omega)
    go_enter Try.func44, Try.ntmps44
    go_wp2_with (first | (go_at_call 21; refine (toPoint _ _ _).mono ?_; rintro e w' ⟨rfl, rfl⟩) | (go_at_call 50; refine (specOk _ _ _).mono ?_; rintro e w' ⟨rfl, rfl⟩) | (go_at_call 22; refine (implOk _ _ _).mono ?_; rintro e w' ⟨rfl, rfl⟩) | (go_at_call 51; refine (specIn _ _ _ _).mono ?_; rintro e w' ⟨rfl, rfl⟩) | (go_at_call 49; refine (implIn _ _ _ _).mono ?_; rintro e w' ⟨rfl, rfl⟩))
    go_region_held3 (fun w' => w'.cell? ⟨w.heap.size, 0, none⟩ = some (.int .i64 x) ∧ w'.cell? ⟨w.heap.size, 1, none⟩ = some (.int .i64 y) ∧ w'.cell? ⟨w.heap.size + 1, 0, none⟩ = some (.int .i64 u) ∧ w'.cell? ⟨w.heap.size + 1, 1, none⟩ = some (.int .i64 v)) ((((try dsimp only); (repeat' apply And.intro) <;> (repeat (first | with_reducible assumption | (with_reducible refine keep_drew ?_) | (with_reducible refine keep_drewN ?_) | ((with_reducible refine keep_new _ _ _ _ _ _ ?_ ?_) <;> (first | rfl | (simp; done) | omega)) | (with_reducible refine keep_alloc _ ?_) | ((with_reducible refine keep_set _ ?_ ?_); (focus first | omega | (simp; done) | (simp; omega))) | ((with_reducible refine keep_set' _ ?_ ?_); (focus first | omega | (simp; done))) | (with_reducible refine keep_same _ ?_) | ((with_reducible refine keep_below (w := ?_) ?_ ?_); rotate_left; (with_reducible assumption)))))))
      (first | (go_at_call 61; refine (implDiv _ _ _ (by omega) (by omega) (by omega)).mono ?_; rintro e w' ⟨rfl, nq, rfl⟩))
    clear e1 e2 e3 e4 e5 e6
    go_wp2
    exact bodyPost_ret (v := alongV x y u v i n) (by rw [HF.out]; simp [results, Try.results44, go_sem, alongX]) rfl ⟨rfl, (by repeat (first | with_reducible exact Below.refl _ _ | with_reducible assumption | (with_reducible refine Below.drew ?_) | (with_reducible refine below_drewN ?_ _) | ((with_reducible refine Below.alloc ?_ ?_ _); rotate_left; (focus first | exact Nat.le_refl _ | omega | (simp; done) | (simp; omega))) | ((with_reducible refine Below.setCell ?_ ?_ _); rotate_left; (focus first | exact Nat.le_refl _ | omega | (simp; done) | (simp; omega))) | ((with_reducible refine below_via (W := ?_) ?_ ?_ ?_); rotate_left; (with_reducible assumption); rotate_left; (focus first | exact Nat.le_refl _ | omega | (simp; done) | (simp; omega)))))⟩
  all_goals go_enter Try.func44, Try.ntmps44
  all_goals go_wp2_with (first | (go_at_call 21; refine (toPoint _ _ _).mono ?_; rintro e w' ⟨rfl, rfl⟩) | (go_at_call 50; refine (specOk _ _ _).mono ?_; rintro e w' ⟨rfl, rfl⟩) | (go_at_call 22; refine (implOk _ _ _).mono ?_; rintro e w' ⟨rfl, rfl⟩) | (go_at_call 51; refine (specIn _ _ _ _).mono ?_; rintro e w' ⟨rfl, rfl⟩) | (go_at_call 49; refine (implIn _ _ _ _).mono ?_; rintro e w' ⟨rfl, rfl⟩) | go_in)
  all_goals exact bodyPost_ret (v := alongV x y u v i n) (by rw [HF.out]; simp [results, Try.results44, go_sem]) rfl ⟨rfl, (by repeat (first | with_reducible exact Below.refl _ _ | with_reducible assumption | (with_reducible refine Below.drew ?_) | (with_reducible refine below_drewN ?_ _) | ((with_reducible refine Below.alloc ?_ ?_ _); rotate_left; (focus first | exact Nat.le_refl _ | omega | (simp; done) | (simp; omega))) | ((with_reducible refine Below.setCell ?_ ?_ _); rotate_left; (focus first | exact Nat.le_refl _ | omega | (simp; done) | (simp; omega))) | ((with_reducible refine below_via (W := ?_) ?_ ?_ ?_); rotate_left; (with_reducible assumption); rotate_left; (focus first | exact Nat.le_refl _ | omega | (simp; done) | (simp; omega)))))⟩

end Go.Proofs.Ytahemohmkgchfaa.WalkL
