/- Bearing: the walks. -/
import Derived.Test.YtbggickeomeidaaDoorWalkD
import Derived.Test.YtbggickeomeidaaDoorWalkP
namespace Go.Proofs.YtbggickeomeidaaDoor.WalkE
open Go.RowKit Go.Proofs.YtbggickeomeidaaDoor.Base Go.Proofs.YtbggickeomeidaaDoor.Plain Go.Proofs.YtbggickeomeidaaDoor.PlainD Go.Proofs.YtbggickeomeidaaDoor.WalkN Go.Proofs.YtbggickeomeidaaDoor.WalkP Go.Proofs.YtbggickeomeidaaDoor.WalkD
set_option linter.unusedVariables false
set_option linter.unusedSimpArgs false

theorem toward (x y u v d : Int) (A B : Nat) (w : World) (ht : Tab w) (h1 : okP x y = true) (h2 : okP u v = true)
    (a0 : w.cell? ⟨A, 0, none⟩ = some (.int .i64 x)) (a1 : w.cell? ⟨A, 1, none⟩ = some (.int .i64 y)) (b0 : w.cell? ⟨B, 0, none⟩ = some (.int .i64 u)) (b1 : w.cell? ⟨B, 1, none⟩ = some (.int .i64 v)) :
    Calls Tryd.prog 69 #[.int .i64 d, .pointer (some ⟨B, 0, none⟩), .pointer (some ⟨A, 0, none⟩)] w fun e w' => e = .returned (.int .i64 (dotF (u - x) (v - y) d)) ∧ ∃ n, w' = w.drewN n := by
  have p := okP_yes h1
  have q := okP_yes h2
  have hp := dotF_parts (u := u - x) (v := v - y) (by omega) (by omega) d
  have e1 : IntKind.i64.wrap (u - x) = u - x := IntWalk.i64_in _ (by omega)
  have e2 : IntKind.i64.wrap (v - y) = v - y := IntWalk.i64_in _ (by omega)
  have e3 : IntKind.i64.wrap ((u - x) * sinF d) = (u - x) * sinF d := IntWalk.i64_in _ (by omega)
  have e4 : IntKind.i64.wrap ((v - y) * cosF d) = (v - y) * cosF d := IntWalk.i64_in _ (by omega)
  have e5 : IntKind.i64.wrap ((u - x) * sinF d + (v - y) * cosF d) = (u - x) * sinF d + (v - y) * cosF d := IntWalk.i64_in _ (by omega)
  have HT := Lib.hid ht
  clear ht
  go_enter Tryd.func69, Tryd.ntmps69
  go_wp2_with fail
  go_quiet ((first | (go_at_call 70; exact quietL (implSine _ _ HT.out)) | (go_at_call 71; exact quietL (implCosine _ _ HT.out))))
  clear e1 e2 e3 e4 e5
  go_wp2
  go_ret
  exact ⟨rfl, _, rfl⟩

set_option maxRecDepth 100000 in
theorem implBearing (x y u v : Int) (w : World) (ht : Tab w) (h1 : okP x y = true) (h2 : okP u v = true) :
    Calls Tryd.prog 52 #[.agg #[.int .i64 x, .int .i64 y], .agg #[.int .i64 u, .int .i64 v]] w fun e w' => e = .returned (.int .i64 (bestF (u - x) (v - y) 360)) ∧ Below w.heap.size w w' := by
  obtain ⟨W0, hW0⟩ : ∃ W0, W0 = (w.alloc (.cells #[.int .i64 x, .int .i64 y] 31)).alloc (.cells #[.int .i64 u, .int .i64 v] 31) := ⟨_, rfl⟩
  have hB : Below w.heap.size w W0 := by rw [hW0]; exact (by repeat (first | with_reducible exact Below.refl _ _ | with_reducible assumption | (with_reducible refine Below.drew ?_) | (with_reducible refine below_drewN ?_ _) | ((with_reducible refine Below.alloc ?_ ?_ _); rotate_left; (focus first | exact Nat.le_refl _ | omega | (simp; done) | (simp; omega))) | ((with_reducible refine Below.setCell ?_ ?_ _); rotate_left; (focus first | exact Nat.le_refl _ | omega | (simp; done) | (simp; omega))) | ((with_reducible refine below_via (W := ?_) ?_ ?_ ?_); rotate_left; (with_reducible assumption); rotate_left; (focus first | exact Nat.le_refl _ | omega | (simp; done) | (simp; omega)))))
  have hT : Tab W0 := ht.below hB
  have a0 : W0.cell? ⟨w.heap.size, 0, none⟩ = some (.int .i64 x) := by rw [hW0]; (((try dsimp only); (repeat' apply And.intro) <;> (repeat (first | with_reducible assumption | (with_reducible refine keep_drew ?_) | (with_reducible refine keep_drewN ?_) | ((with_reducible refine keep_new _ _ _ _ _ _ ?_ ?_) <;> (first | rfl | (simp; done) | omega)) | (with_reducible refine keep_alloc _ ?_) | ((with_reducible refine keep_set _ ?_ ?_); (focus first | omega | (simp; done) | (simp; omega))) | ((with_reducible refine keep_set' _ ?_ ?_); (focus first | omega | (simp; done))) | ((with_reducible refine keep_same (u := ?_) _ ?_); rotate_left) | ((with_reducible refine keep_setA _ ?_ ?_); (focus first | omega | (simp; done) | (simp; omega))) | ((with_reducible refine keep_below (w := ?_) ?_ ?_); rotate_left; (with_reducible assumption))))))
  have a1 : W0.cell? ⟨w.heap.size, 1, none⟩ = some (.int .i64 y) := by rw [hW0]; (((try dsimp only); (repeat' apply And.intro) <;> (repeat (first | with_reducible assumption | (with_reducible refine keep_drew ?_) | (with_reducible refine keep_drewN ?_) | ((with_reducible refine keep_new _ _ _ _ _ _ ?_ ?_) <;> (first | rfl | (simp; done) | omega)) | (with_reducible refine keep_alloc _ ?_) | ((with_reducible refine keep_set _ ?_ ?_); (focus first | omega | (simp; done) | (simp; omega))) | ((with_reducible refine keep_set' _ ?_ ?_); (focus first | omega | (simp; done))) | ((with_reducible refine keep_same (u := ?_) _ ?_); rotate_left) | ((with_reducible refine keep_setA _ ?_ ?_); (focus first | omega | (simp; done) | (simp; omega))) | ((with_reducible refine keep_below (w := ?_) ?_ ?_); rotate_left; (with_reducible assumption))))))
  have b0 : W0.cell? ⟨w.heap.size + 1, 0, none⟩ = some (.int .i64 u) := by rw [hW0]; (((try dsimp only); (repeat' apply And.intro) <;> (repeat (first | with_reducible assumption | (with_reducible refine keep_drew ?_) | (with_reducible refine keep_drewN ?_) | ((with_reducible refine keep_new _ _ _ _ _ _ ?_ ?_) <;> (first | rfl | (simp; done) | omega)) | (with_reducible refine keep_alloc _ ?_) | ((with_reducible refine keep_set _ ?_ ?_); (focus first | omega | (simp; done) | (simp; omega))) | ((with_reducible refine keep_set' _ ?_ ?_); (focus first | omega | (simp; done))) | ((with_reducible refine keep_same (u := ?_) _ ?_); rotate_left) | ((with_reducible refine keep_setA _ ?_ ?_); (focus first | omega | (simp; done) | (simp; omega))) | ((with_reducible refine keep_below (w := ?_) ?_ ?_); rotate_left; (with_reducible assumption))))))
  have b1 : W0.cell? ⟨w.heap.size + 1, 1, none⟩ = some (.int .i64 v) := by rw [hW0]; (((try dsimp only); (repeat' apply And.intro) <;> (repeat (first | with_reducible assumption | (with_reducible refine keep_drew ?_) | (with_reducible refine keep_drewN ?_) | ((with_reducible refine keep_new _ _ _ _ _ _ ?_ ?_) <;> (first | rfl | (simp; done) | omega)) | (with_reducible refine keep_alloc _ ?_) | ((with_reducible refine keep_set _ ?_ ?_); (focus first | omega | (simp; done) | (simp; omega))) | ((with_reducible refine keep_set' _ ?_ ?_); (focus first | omega | (simp; done))) | ((with_reducible refine keep_same (u := ?_) _ ?_); rotate_left) | ((with_reducible refine keep_setA _ ?_ ?_); (focus first | omega | (simp; done) | (simp; omega))) | ((with_reducible refine keep_below (w := ?_) ?_ ?_); rotate_left; (with_reducible assumption))))))
  have L : Hid (∀ (d : Int) (q : Nat), Calls Tryd.prog 69 #[.int .i64 d, .pointer (some ⟨w.heap.size + 1, 0, none⟩), .pointer (some ⟨w.heap.size, 0, none⟩)] (W0.drewN q) fun e w' => e = .returned (.int .i64 (dotF (u - x) (v - y) d)) ∧ ∃ n, w' = W0.drewN n) :=
    Lib.hid fun d q => (toward x y u v d _ _ (W0.drewN q) hT h1 h2 a0 a1 b0 b1).mono fun e w' ⟨he, n, hn⟩ => ⟨he, q + n, by rw [hn, World.drewN_drewN]⟩
  have HB := Lib.hid hB
  have HW := Lib.hid hW0
  clear a0 a1 b0 b1 hT ht hB hW0
  go_enter Tryd.func52, Tryd.ntmps52
  go_wp2
  rw [← HW.out]
  go_loopw [6, 7] (fun b d wr => ∃ k q : Nat, 1 ≤ k ∧ k ≤ 360 ∧ d = .int .i64 k ∧ b = .int .i64 (bestF (u - x) (v - y) k) ∧ wr = W0.drewN q) (fun _ d _ => (360 - intOf d).toNat)
  case atStart => exact ⟨1, 0, by omega, by omega, rfl, by rw [bestF_one]; rfl, rfl⟩
  case round =>
    obtain ⟨k, q, hk1, hk2, rfl, rfl, rfl⟩ := hrel
    by_cases hlt : k < 360
    · by_cases hc : dotF (u - x) (v - y) (bestF (u - x) (v - y) k) < dotF (u - x) (v - y) k
      · have HN : Hid (bestF (u - x) (v - y) (k + 1) = k) := Lib.hid (by rw [bestF, if_pos hc])
        go_wp2_with (go_at_call 69; refine (L.out _ _).mono ?_; rintro e w' ⟨rfl, n, rfl⟩)
        go_roundw
        case rel => exact ⟨k + 1, _, by omega, by omega, by go_num, by rw [HN.out], rfl⟩
        case measure => simp [intOf]; omega
      · have HN : Hid (bestF (u - x) (v - y) (k + 1) = bestF (u - x) (v - y) k) := Lib.hid (by rw [bestF, if_neg hc])
        go_wp2_with (go_at_call 69; refine (L.out _ _).mono ?_; rintro e w' ⟨rfl, n, rfl⟩)
        go_roundw
        case rel => exact ⟨k + 1, _, by omega, by omega, by go_num, by rw [HN.out], rfl⟩
        case measure => simp [intOf]; omega
    · obtain rfl : k = 360 := by omega
      go_wp2
      go_ret
      exact ⟨rfl, below_drewN HB.out _⟩

end Go.Proofs.YtbggickeomeidaaDoor.WalkE
