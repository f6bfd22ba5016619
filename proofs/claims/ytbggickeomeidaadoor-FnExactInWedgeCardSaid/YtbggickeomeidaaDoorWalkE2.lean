/- Bearing: the reference's walk and the law. -/
import Derived.Test.YtbggickeomeidaaDoorWalkE
namespace Go.Proofs.YtbggickeomeidaaDoor.WalkE2
open Go.RowKit Go.Proofs.YtbggickeomeidaaDoor.Base Go.Proofs.YtbggickeomeidaaDoor.Plain Go.Proofs.YtbggickeomeidaaDoor.PlainD Go.Proofs.YtbggickeomeidaaDoor.WalkN Go.Proofs.YtbggickeomeidaaDoor.WalkP Go.Proofs.YtbggickeomeidaaDoor.WalkD Go.Proofs.YtbggickeomeidaaDoor.WalkE
set_option linter.unusedVariables false
set_option linter.unusedSimpArgs false


/-- one round of the reference's search, in the case 0 -/
theorem val0 (k : Nat) (hk : k < 360) (s1 e1 s2 : Int) (h1 : (k : Int) % 180 = s1) (h2 : ((k : Int) + 90) % 360 = e1) (h3 : e1 % 180 = s2) (p1 : ¬ (90 < s1)) (p2 : ¬ (180 ≤ (k : Int))) (p3 : ¬ (90 < s2)) (p4 : ¬ (180 ≤ e1)) :
    sinF k = sinI (s1).toNat ∧ cosF k = sinI (s2).toNat := by
  constructor
  · rw [sinF_low (by omega) (by omega), sin_at (by omega) (by omega) h1, if_neg p2, if_neg p1]
  · show sin3 (((k : Int) + 90) % 360) = _
    rw [h2, sin_at (by omega) (by omega) h3, if_neg p4, if_neg p3]

/-- one round of the reference's search, in the case 1 -/
theorem val1 (k : Nat) (hk : k < 360) (s1 e1 s2 : Int) (h1 : (k : Int) % 180 = s1) (h2 : ((k : Int) + 90) % 360 = e1) (h3 : e1 % 180 = s2) (p1 : ¬ (90 < s1)) (p2 : ¬ (180 ≤ (k : Int))) (p3 : (90 < s2)) (p4 : ¬ (180 ≤ e1)) :
    sinF k = sinI (s1).toNat ∧ cosF k = sinI (180 - s2).toNat := by
  constructor
  · rw [sinF_low (by omega) (by omega), sin_at (by omega) (by omega) h1, if_neg p2, if_neg p1]
  · show sin3 (((k : Int) + 90) % 360) = _
    rw [h2, sin_at (by omega) (by omega) h3, if_neg p4, if_pos p3]

/-- one round of the reference's search, in the case 2 -/
theorem val2 (k : Nat) (hk : k < 360) (s1 e1 s2 : Int) (h1 : (k : Int) % 180 = s1) (h2 : ((k : Int) + 90) % 360 = e1) (h3 : e1 % 180 = s2) (p1 : ¬ (90 < s1)) (p2 : ¬ (180 ≤ (k : Int))) (p3 : ¬ (90 < s2)) (p4 : (180 ≤ e1)) :
    sinF k = sinI (s1).toNat ∧ cosF k = -(sinI (s2).toNat) := by
  constructor
  · rw [sinF_low (by omega) (by omega), sin_at (by omega) (by omega) h1, if_neg p2, if_neg p1]
  · show sin3 (((k : Int) + 90) % 360) = _
    rw [h2, sin_at (by omega) (by omega) h3, if_pos p4, if_neg p3]

/-- one round of the reference's search, in the case 3 -/
theorem val3 (k : Nat) (hk : k < 360) (s1 e1 s2 : Int) (h1 : (k : Int) % 180 = s1) (h2 : ((k : Int) + 90) % 360 = e1) (h3 : e1 % 180 = s2) (p1 : (90 < s1)) (p2 : ¬ (180 ≤ (k : Int))) (p3 : ¬ (90 < s2)) (p4 : (180 ≤ e1)) :
    sinF k = sinI (180 - s1).toNat ∧ cosF k = -(sinI (s2).toNat) := by
  constructor
  · rw [sinF_low (by omega) (by omega), sin_at (by omega) (by omega) h1, if_neg p2, if_pos p1]
  · show sin3 (((k : Int) + 90) % 360) = _
    rw [h2, sin_at (by omega) (by omega) h3, if_pos p4, if_neg p3]

/-- one round of the reference's search, in the case 4 -/
theorem val4 (k : Nat) (hk : k < 360) (s1 e1 s2 : Int) (h1 : (k : Int) % 180 = s1) (h2 : ((k : Int) + 90) % 360 = e1) (h3 : e1 % 180 = s2) (p1 : ¬ (90 < s1)) (p2 : (180 ≤ (k : Int))) (p3 : ¬ (90 < s2)) (p4 : (180 ≤ e1)) :
    sinF k = -(sinI (s1).toNat) ∧ cosF k = -(sinI (s2).toNat) := by
  constructor
  · rw [sinF_low (by omega) (by omega), sin_at (by omega) (by omega) h1, if_pos p2, if_neg p1]
  · show sin3 (((k : Int) + 90) % 360) = _
    rw [h2, sin_at (by omega) (by omega) h3, if_pos p4, if_neg p3]

/-- one round of the reference's search, in the case 5 -/
theorem val5 (k : Nat) (hk : k < 360) (s1 e1 s2 : Int) (h1 : (k : Int) % 180 = s1) (h2 : ((k : Int) + 90) % 360 = e1) (h3 : e1 % 180 = s2) (p1 : ¬ (90 < s1)) (p2 : (180 ≤ (k : Int))) (p3 : (90 < s2)) (p4 : (180 ≤ e1)) :
    sinF k = -(sinI (s1).toNat) ∧ cosF k = -(sinI (180 - s2).toNat) := by
  constructor
  · rw [sinF_low (by omega) (by omega), sin_at (by omega) (by omega) h1, if_pos p2, if_neg p1]
  · show sin3 (((k : Int) + 90) % 360) = _
    rw [h2, sin_at (by omega) (by omega) h3, if_pos p4, if_pos p3]

/-- one round of the reference's search, in the case 6 -/
theorem val6 (k : Nat) (hk : k < 360) (s1 e1 s2 : Int) (h1 : (k : Int) % 180 = s1) (h2 : ((k : Int) + 90) % 360 = e1) (h3 : e1 % 180 = s2) (p1 : ¬ (90 < s1)) (p2 : (180 ≤ (k : Int))) (p3 : ¬ (90 < s2)) (p4 : ¬ (180 ≤ e1)) :
    sinF k = -(sinI (s1).toNat) ∧ cosF k = sinI (s2).toNat := by
  constructor
  · rw [sinF_low (by omega) (by omega), sin_at (by omega) (by omega) h1, if_pos p2, if_neg p1]
  · show sin3 (((k : Int) + 90) % 360) = _
    rw [h2, sin_at (by omega) (by omega) h3, if_neg p4, if_neg p3]

/-- one round of the reference's search, in the case 7 -/
theorem val7 (k : Nat) (hk : k < 360) (s1 e1 s2 : Int) (h1 : (k : Int) % 180 = s1) (h2 : ((k : Int) + 90) % 360 = e1) (h3 : e1 % 180 = s2) (p1 : (90 < s1)) (p2 : (180 ≤ (k : Int))) (p3 : ¬ (90 < s2)) (p4 : ¬ (180 ≤ e1)) :
    sinF k = -(sinI (180 - s1).toNat) ∧ cosF k = sinI (s2).toNat := by
  constructor
  · rw [sinF_low (by omega) (by omega), sin_at (by omega) (by omega) h1, if_pos p2, if_pos p1]
  · show sin3 (((k : Int) + 90) % 360) = _
    rw [h2, sin_at (by omega) (by omega) h3, if_neg p4, if_neg p3]

theorem step_yes {u v M : Int} {k : Nat} (hM : (k = 0 → M = -4611686018427387904) ∧ (0 < k → M = dotF u v (bestF u v k))) (h : M < dotF u v k) : bestF u v (k + 1) = k := by
  rcases Nat.eq_zero_or_pos k with h0 | h0
  · subst h0
    exact bestF_one u v
  · rw [bestF, if_pos (by rw [← hM.2 h0]; exact h)]
theorem step_no {u v M : Int} {k : Nat} (hu : -200000 ≤ u ∧ u ≤ 200000) (hv : -200000 ≤ v ∧ v ≤ 200000) (hM : (k = 0 → M = -4611686018427387904) ∧ (0 < k → M = dotF u v (bestF u v k))) (h : dotF u v k ≤ M) :
    bestF u v (k + 1) = bestF u v k ∧ M = dotF u v (bestF u v k) := by
  rcases Nat.eq_zero_or_pos k with h0 | h0
  · have := dotF_bd hu hv (k : Int)
    have := hM.1 h0
    omega
  · have e := hM.2 h0
    exact ⟨by rw [bestF, if_neg (by rw [← e]; omega)], e⟩

set_option maxHeartbeats 4000000 in
set_option maxRecDepth 100000 in
theorem specBearing (x y u v : Int) (w : World) (h1 : okP x y = true) (h2 : okP u v = true) :
    Calls Tryd.prog 48 #[.agg #[.int .i64 x, .int .i64 y], .agg #[.int .i64 u, .int .i64 v]] w fun e w' => e = .returned (.int .i64 (bestF (u - x) (v - y) 360)) ∧ Below w.heap.size w w' := by
  have p := okP_yes h1
  have q := okP_yes h2
  go_enter Tryd.func48, Tryd.ntmps48
  go_wp2_with (go_at_call 68; refine (table_any _).mono ?_; rintro e w1 ⟨rfl, hb1, hz1, ht1⟩)
  have a0 : w1.cell? ⟨w.heap.size, 0, none⟩ = some (.int .i64 x) := by (((try dsimp only); (repeat' apply And.intro) <;> (repeat (first | with_reducible assumption | (with_reducible refine keep_drew ?_) | (with_reducible refine keep_drewN ?_) | ((with_reducible refine keep_new _ _ _ _ _ _ ?_ ?_) <;> (first | rfl | (simp; done) | omega)) | (with_reducible refine keep_alloc _ ?_) | ((with_reducible refine keep_set _ ?_ ?_); (focus first | omega | (simp; done) | (simp; omega))) | ((with_reducible refine keep_set' _ ?_ ?_); (focus first | omega | (simp; done))) | ((with_reducible refine keep_same (u := ?_) _ ?_); rotate_left) | ((with_reducible refine keep_setA _ ?_ ?_); (focus first | omega | (simp; done) | (simp; omega))) | ((with_reducible refine keep_below (w := ?_) ?_ ?_); rotate_left; (with_reducible assumption))))))
  have a1 : w1.cell? ⟨w.heap.size, 1, none⟩ = some (.int .i64 y) := by (((try dsimp only); (repeat' apply And.intro) <;> (repeat (first | with_reducible assumption | (with_reducible refine keep_drew ?_) | (with_reducible refine keep_drewN ?_) | ((with_reducible refine keep_new _ _ _ _ _ _ ?_ ?_) <;> (first | rfl | (simp; done) | omega)) | (with_reducible refine keep_alloc _ ?_) | ((with_reducible refine keep_set _ ?_ ?_); (focus first | omega | (simp; done) | (simp; omega))) | ((with_reducible refine keep_set' _ ?_ ?_); (focus first | omega | (simp; done))) | ((with_reducible refine keep_same (u := ?_) _ ?_); rotate_left) | ((with_reducible refine keep_setA _ ?_ ?_); (focus first | omega | (simp; done) | (simp; omega))) | ((with_reducible refine keep_below (w := ?_) ?_ ?_); rotate_left; (with_reducible assumption))))))
  have b0 : w1.cell? ⟨w.heap.size + 1, 0, none⟩ = some (.int .i64 u) := by (((try dsimp only); (repeat' apply And.intro) <;> (repeat (first | with_reducible assumption | (with_reducible refine keep_drew ?_) | (with_reducible refine keep_drewN ?_) | ((with_reducible refine keep_new _ _ _ _ _ _ ?_ ?_) <;> (first | rfl | (simp; done) | omega)) | (with_reducible refine keep_alloc _ ?_) | ((with_reducible refine keep_set _ ?_ ?_); (focus first | omega | (simp; done) | (simp; omega))) | ((with_reducible refine keep_set' _ ?_ ?_); (focus first | omega | (simp; done))) | ((with_reducible refine keep_same (u := ?_) _ ?_); rotate_left) | ((with_reducible refine keep_setA _ ?_ ?_); (focus first | omega | (simp; done) | (simp; omega))) | ((with_reducible refine keep_below (w := ?_) ?_ ?_); rotate_left; (with_reducible assumption))))))
  have b1 : w1.cell? ⟨w.heap.size + 1, 1, none⟩ = some (.int .i64 v) := by (((try dsimp only); (repeat' apply And.intro) <;> (repeat (first | with_reducible assumption | (with_reducible refine keep_drew ?_) | (with_reducible refine keep_drewN ?_) | ((with_reducible refine keep_new _ _ _ _ _ _ ?_ ?_) <;> (first | rfl | (simp; done) | omega)) | (with_reducible refine keep_alloc _ ?_) | ((with_reducible refine keep_set _ ?_ ?_); (focus first | omega | (simp; done) | (simp; omega))) | ((with_reducible refine keep_set' _ ?_ ?_); (focus first | omega | (simp; done))) | ((with_reducible refine keep_same (u := ?_) _ ?_); rotate_left) | ((with_reducible refine keep_setA _ ?_ ?_); (focus first | omega | (simp; done) | (simp; omega))) | ((with_reducible refine keep_below (w := ?_) ?_ ?_); rotate_left; (with_reducible assumption))))))
  have HB : Hid (Below w.heap.size w w1) := Lib.hid (by repeat (first | with_reducible exact Below.refl _ _ | with_reducible assumption | (with_reducible refine Below.drew ?_) | (with_reducible refine below_drewN ?_ _) | ((with_reducible refine Below.alloc ?_ ?_ _); rotate_left; (focus first | exact Nat.le_refl _ | omega | (simp; done) | (simp; omega))) | ((with_reducible refine Below.setCell ?_ ?_ _); rotate_left; (focus first | exact Nat.le_refl _ | omega | (simp; done) | (simp; omega))) | ((with_reducible refine below_via (W := ?_) ?_ ?_ ?_); rotate_left; (with_reducible assumption); rotate_left; (focus first | exact Nat.le_refl _ | omega | (simp; done) | (simp; omega)))))
  have HT : Hid (∀ j : Nat, j < 91 → w1.cell? ⟨w.heap.size + 1 + 1, j, none⟩ = some (.int .i64 (sinI j))) := Lib.hid (fun j hj => by have := ht1 j hj; simp only [World.size_alloc] at this; exact this)
  clear ht1 hb1 hz1
  go_wp2
  go_loop [5, 6, 8] (fun b m d => ∃ k : Nat, ∃ M : Int, k ≤ 360 ∧ d = .int .i64 k ∧ b = .int .i64 (bestF (u - x) (v - y) k) ∧ m = .int .i64 M ∧ Hid ((k = 0 → M = -4611686018427387904) ∧ (0 < k → M = dotF (u - x) (v - y) (bestF (u - x) (v - y) k)))) (fun _ _ d => (360 - intOf d).toNat)
  case atStart => exact ⟨0, _, by omega, rfl, rfl, rfl, Lib.hid ⟨fun _ => rfl, fun h => by omega⟩⟩
  case round =>
    obtain ⟨k, M, hk, rfl, rfl, rfl, HM⟩ := hrel
    by_cases hlt : k < 360
    · obtain ⟨s1, hs1⟩ : ∃ s : Int, (k : Int) % 180 = s := ⟨_, rfl⟩
      obtain ⟨e1, he1⟩ : ∃ e : Int, ((k : Int) + 90) % 360 = e := ⟨_, rfl⟩
      obtain ⟨s2, hs2⟩ : ∃ s : Int, e1 % 180 = s := ⟨_, rfl⟩
      rcases (show (¬ (90 < s1) ∧ ¬ (180 ≤ (k : Int)) ∧ ¬ (90 < s2) ∧ ¬ (180 ≤ e1)) ∨ (¬ (90 < s1) ∧ ¬ (180 ≤ (k : Int)) ∧ (90 < s2) ∧ ¬ (180 ≤ e1)) ∨ (¬ (90 < s1) ∧ ¬ (180 ≤ (k : Int)) ∧ ¬ (90 < s2) ∧ (180 ≤ e1)) ∨ ((90 < s1) ∧ ¬ (180 ≤ (k : Int)) ∧ ¬ (90 < s2) ∧ (180 ≤ e1)) ∨ (¬ (90 < s1) ∧ (180 ≤ (k : Int)) ∧ ¬ (90 < s2) ∧ (180 ≤ e1)) ∨ (¬ (90 < s1) ∧ (180 ≤ (k : Int)) ∧ (90 < s2) ∧ (180 ≤ e1)) ∨ (¬ (90 < s1) ∧ (180 ≤ (k : Int)) ∧ ¬ (90 < s2) ∧ ¬ (180 ≤ e1)) ∨ ((90 < s1) ∧ (180 ≤ (k : Int)) ∧ ¬ (90 < s2) ∧ ¬ (180 ≤ e1)) by omega) with h | h | h | h | h | h | h | h
      · obtain ⟨p1, p2, p3, p4⟩ := h
        have V := val0 k hlt s1 e1 s2 hs1 he1 hs2 p1 p2 p3 p4
        have c1 := HT.out (s1).toNat (by omega)
        have c2 := HT.out (s2).toNat (by omega)
        have r1 := sinI_bd (s1).toNat
        have r2 := sinI_bd (s2).toNat
        generalize sinI (s1).toNat = S at V c1 r1
        generalize sinI (s2).toNat = C at V c2 r2
        have m1 := mul_bound (a := u - x) (b := S) (A := 200000) (B := 1000000) (by omega) (by omega) (by omega) (by omega) (by omega) (by omega)
        have m2 := mul_bound (a := v - y) (b := C) (A := 200000) (B := 1000000) (by omega) (by omega) (by omega) (by omega) (by omega) (by omega)
        have HD : Hid (dotF (u - x) (v - y) k = (u - x) * S + (v - y) * C) := Lib.hid (by unfold dotF; rw [V.1, V.2])
        clear V
        go_wp2
        · have h : M < dotF (u - x) (v - y) k := by rw [HD.out]; first | assumption | (simp only [Int.mul_neg]; assumption)
          have HS := Lib.hid (step_yes HM.out h)
          clear h
          go_round
          case rel => exact ⟨k + 1, _, by omega, by go_num, by rw [HS.out], rfl, Lib.hid ⟨fun h => by omega, fun _ => by first | (rw [HS.out, HD.out]; done) | (rw [HS.out, HD.out]; simp only [Int.mul_neg])⟩⟩
          case measure => simp [intOf]; omega
        · have h : dotF (u - x) (v - y) k ≤ M := by rw [HD.out]; first | assumption | (simp only [Int.mul_neg]; assumption)
          have HS := Lib.hid (step_no (by omega) (by omega) HM.out h)
          clear h
          go_round
          case rel => exact ⟨k + 1, _, by omega, by go_num, by rw [HS.out.1], rfl, Lib.hid ⟨fun h => by omega, fun _ => by rw [HS.out.1]; exact HS.out.2⟩⟩
          case measure => simp [intOf]; omega
      · obtain ⟨p1, p2, p3, p4⟩ := h
        have V := val1 k hlt s1 e1 s2 hs1 he1 hs2 p1 p2 p3 p4
        have c1 := HT.out (s1).toNat (by omega)
        have c2 := HT.out (180 - s2).toNat (by omega)
        have r1 := sinI_bd (s1).toNat
        have r2 := sinI_bd (180 - s2).toNat
        generalize sinI (s1).toNat = S at V c1 r1
        generalize sinI (180 - s2).toNat = C at V c2 r2
        have m1 := mul_bound (a := u - x) (b := S) (A := 200000) (B := 1000000) (by omega) (by omega) (by omega) (by omega) (by omega) (by omega)
        have m2 := mul_bound (a := v - y) (b := C) (A := 200000) (B := 1000000) (by omega) (by omega) (by omega) (by omega) (by omega) (by omega)
        have HD : Hid (dotF (u - x) (v - y) k = (u - x) * S + (v - y) * C) := Lib.hid (by unfold dotF; rw [V.1, V.2])
        clear V
        go_wp2
        · have h : M < dotF (u - x) (v - y) k := by rw [HD.out]; first | assumption | (simp only [Int.mul_neg]; assumption)
          have HS := Lib.hid (step_yes HM.out h)
          clear h
          go_round
          case rel => exact ⟨k + 1, _, by omega, by go_num, by rw [HS.out], rfl, Lib.hid ⟨fun h => by omega, fun _ => by first | (rw [HS.out, HD.out]; done) | (rw [HS.out, HD.out]; simp only [Int.mul_neg])⟩⟩
          case measure => simp [intOf]; omega
        · have h : dotF (u - x) (v - y) k ≤ M := by rw [HD.out]; first | assumption | (simp only [Int.mul_neg]; assumption)
          have HS := Lib.hid (step_no (by omega) (by omega) HM.out h)
          clear h
          go_round
          case rel => exact ⟨k + 1, _, by omega, by go_num, by rw [HS.out.1], rfl, Lib.hid ⟨fun h => by omega, fun _ => by rw [HS.out.1]; exact HS.out.2⟩⟩
          case measure => simp [intOf]; omega
      · obtain ⟨p1, p2, p3, p4⟩ := h
        have V := val2 k hlt s1 e1 s2 hs1 he1 hs2 p1 p2 p3 p4
        have c1 := HT.out (s1).toNat (by omega)
        have c2 := HT.out (s2).toNat (by omega)
        have r1 := sinI_bd (s1).toNat
        have r2 := sinI_bd (s2).toNat
        generalize sinI (s1).toNat = S at V c1 r1
        generalize sinI (s2).toNat = C at V c2 r2
        have m1 := mul_bound (a := u - x) (b := S) (A := 200000) (B := 1000000) (by omega) (by omega) (by omega) (by omega) (by omega) (by omega)
        have m2 := mul_bound (a := v - y) (b := -C) (A := 200000) (B := 1000000) (by omega) (by omega) (by omega) (by omega) (by omega) (by omega)
        have HD : Hid (dotF (u - x) (v - y) k = (u - x) * S + (v - y) * -C) := Lib.hid (by unfold dotF; rw [V.1, V.2])
        clear V
        go_wp2
        · have h : M < dotF (u - x) (v - y) k := by rw [HD.out]; first | assumption | (simp only [Int.mul_neg]; assumption)
          have HS := Lib.hid (step_yes HM.out h)
          clear h
          go_round
          case rel => exact ⟨k + 1, _, by omega, by go_num, by rw [HS.out], rfl, Lib.hid ⟨fun h => by omega, fun _ => by first | (rw [HS.out, HD.out]; done) | (rw [HS.out, HD.out]; simp only [Int.mul_neg])⟩⟩
          case measure => simp [intOf]; omega
        · have h : dotF (u - x) (v - y) k ≤ M := by rw [HD.out]; first | assumption | (simp only [Int.mul_neg]; assumption)
          have HS := Lib.hid (step_no (by omega) (by omega) HM.out h)
          clear h
          go_round
          case rel => exact ⟨k + 1, _, by omega, by go_num, by rw [HS.out.1], rfl, Lib.hid ⟨fun h => by omega, fun _ => by rw [HS.out.1]; exact HS.out.2⟩⟩
          case measure => simp [intOf]; omega
      · obtain ⟨p1, p2, p3, p4⟩ := h
        have V := val3 k hlt s1 e1 s2 hs1 he1 hs2 p1 p2 p3 p4
        have c1 := HT.out (180 - s1).toNat (by omega)
        have c2 := HT.out (s2).toNat (by omega)
        have r1 := sinI_bd (180 - s1).toNat
        have r2 := sinI_bd (s2).toNat
        generalize sinI (180 - s1).toNat = S at V c1 r1
        generalize sinI (s2).toNat = C at V c2 r2
        have m1 := mul_bound (a := u - x) (b := S) (A := 200000) (B := 1000000) (by omega) (by omega) (by omega) (by omega) (by omega) (by omega)
        have m2 := mul_bound (a := v - y) (b := -C) (A := 200000) (B := 1000000) (by omega) (by omega) (by omega) (by omega) (by omega) (by omega)
        have HD : Hid (dotF (u - x) (v - y) k = (u - x) * S + (v - y) * -C) := Lib.hid (by unfold dotF; rw [V.1, V.2])
        clear V
        go_wp2
        · have h : M < dotF (u - x) (v - y) k := by rw [HD.out]; first | assumption | (simp only [Int.mul_neg]; assumption)
          have HS := Lib.hid (step_yes HM.out h)
          clear h
          go_round
          case rel => exact ⟨k + 1, _, by omega, by go_num, by rw [HS.out], rfl, Lib.hid ⟨fun h => by omega, fun _ => by first | (rw [HS.out, HD.out]; done) | (rw [HS.out, HD.out]; simp only [Int.mul_neg])⟩⟩
          case measure => simp [intOf]; omega
        · have h : dotF (u - x) (v - y) k ≤ M := by rw [HD.out]; first | assumption | (simp only [Int.mul_neg]; assumption)
          have HS := Lib.hid (step_no (by omega) (by omega) HM.out h)
          clear h
          go_round
          case rel => exact ⟨k + 1, _, by omega, by go_num, by rw [HS.out.1], rfl, Lib.hid ⟨fun h => by omega, fun _ => by rw [HS.out.1]; exact HS.out.2⟩⟩
          case measure => simp [intOf]; omega
      · obtain ⟨p1, p2, p3, p4⟩ := h
        have V := val4 k hlt s1 e1 s2 hs1 he1 hs2 p1 p2 p3 p4
        have c1 := HT.out (s1).toNat (by omega)
        have c2 := HT.out (s2).toNat (by omega)
        have r1 := sinI_bd (s1).toNat
        have r2 := sinI_bd (s2).toNat
        generalize sinI (s1).toNat = S at V c1 r1
        generalize sinI (s2).toNat = C at V c2 r2
        have m1 := mul_bound (a := u - x) (b := -S) (A := 200000) (B := 1000000) (by omega) (by omega) (by omega) (by omega) (by omega) (by omega)
        have m2 := mul_bound (a := v - y) (b := -C) (A := 200000) (B := 1000000) (by omega) (by omega) (by omega) (by omega) (by omega) (by omega)
        have HD : Hid (dotF (u - x) (v - y) k = (u - x) * -S + (v - y) * -C) := Lib.hid (by unfold dotF; rw [V.1, V.2])
        clear V
        go_wp2
        · have h : M < dotF (u - x) (v - y) k := by rw [HD.out]; first | assumption | (simp only [Int.mul_neg]; assumption)
          have HS := Lib.hid (step_yes HM.out h)
          clear h
          go_round
          case rel => exact ⟨k + 1, _, by omega, by go_num, by rw [HS.out], rfl, Lib.hid ⟨fun h => by omega, fun _ => by first | (rw [HS.out, HD.out]; done) | (rw [HS.out, HD.out]; simp only [Int.mul_neg])⟩⟩
          case measure => simp [intOf]; omega
        · have h : dotF (u - x) (v - y) k ≤ M := by rw [HD.out]; first | assumption | (simp only [Int.mul_neg]; assumption)
          have HS := Lib.hid (step_no (by omega) (by omega) HM.out h)
          clear h
          go_round
          case rel => exact ⟨k + 1, _, by omega, by go_num, by rw [HS.out.1], rfl, Lib.hid ⟨fun h => by omega, fun _ => by rw [HS.out.1]; exact HS.out.2⟩⟩
          case measure => simp [intOf]; omega
      · obtain ⟨p1, p2, p3, p4⟩ := h
        have V := val5 k hlt s1 e1 s2 hs1 he1 hs2 p1 p2 p3 p4
        have c1 := HT.out (s1).toNat (by omega)
        have c2 := HT.out (180 - s2).toNat (by omega)
        have r1 := sinI_bd (s1).toNat
        have r2 := sinI_bd (180 - s2).toNat
        generalize sinI (s1).toNat = S at V c1 r1
        generalize sinI (180 - s2).toNat = C at V c2 r2
        have m1 := mul_bound (a := u - x) (b := -S) (A := 200000) (B := 1000000) (by omega) (by omega) (by omega) (by omega) (by omega) (by omega)
        have m2 := mul_bound (a := v - y) (b := -C) (A := 200000) (B := 1000000) (by omega) (by omega) (by omega) (by omega) (by omega) (by omega)
        have HD : Hid (dotF (u - x) (v - y) k = (u - x) * -S + (v - y) * -C) := Lib.hid (by unfold dotF; rw [V.1, V.2])
        clear V
        go_wp2
        · have h : M < dotF (u - x) (v - y) k := by rw [HD.out]; first | assumption | (simp only [Int.mul_neg]; assumption)
          have HS := Lib.hid (step_yes HM.out h)
          clear h
          go_round
          case rel => exact ⟨k + 1, _, by omega, by go_num, by rw [HS.out], rfl, Lib.hid ⟨fun h => by omega, fun _ => by first | (rw [HS.out, HD.out]; done) | (rw [HS.out, HD.out]; simp only [Int.mul_neg])⟩⟩
          case measure => simp [intOf]; omega
        · have h : dotF (u - x) (v - y) k ≤ M := by rw [HD.out]; first | assumption | (simp only [Int.mul_neg]; assumption)
          have HS := Lib.hid (step_no (by omega) (by omega) HM.out h)
          clear h
          go_round
          case rel => exact ⟨k + 1, _, by omega, by go_num, by rw [HS.out.1], rfl, Lib.hid ⟨fun h => by omega, fun _ => by rw [HS.out.1]; exact HS.out.2⟩⟩
          case measure => simp [intOf]; omega
      · obtain ⟨p1, p2, p3, p4⟩ := h
        have V := val6 k hlt s1 e1 s2 hs1 he1 hs2 p1 p2 p3 p4
        have c1 := HT.out (s1).toNat (by omega)
        have c2 := HT.out (s2).toNat (by omega)
        have r1 := sinI_bd (s1).toNat
        have r2 := sinI_bd (s2).toNat
        generalize sinI (s1).toNat = S at V c1 r1
        generalize sinI (s2).toNat = C at V c2 r2
        have m1 := mul_bound (a := u - x) (b := -S) (A := 200000) (B := 1000000) (by omega) (by omega) (by omega) (by omega) (by omega) (by omega)
        have m2 := mul_bound (a := v - y) (b := C) (A := 200000) (B := 1000000) (by omega) (by omega) (by omega) (by omega) (by omega) (by omega)
        have HD : Hid (dotF (u - x) (v - y) k = (u - x) * -S + (v - y) * C) := Lib.hid (by unfold dotF; rw [V.1, V.2])
        clear V
        go_wp2
        · have h : M < dotF (u - x) (v - y) k := by rw [HD.out]; first | assumption | (simp only [Int.mul_neg]; assumption)
          have HS := Lib.hid (step_yes HM.out h)
          clear h
          go_round
          case rel => exact ⟨k + 1, _, by omega, by go_num, by rw [HS.out], rfl, Lib.hid ⟨fun h => by omega, fun _ => by first | (rw [HS.out, HD.out]; done) | (rw [HS.out, HD.out]; simp only [Int.mul_neg])⟩⟩
          case measure => simp [intOf]; omega
        · have h : dotF (u - x) (v - y) k ≤ M := by rw [HD.out]; first | assumption | (simp only [Int.mul_neg]; assumption)
          have HS := Lib.hid (step_no (by omega) (by omega) HM.out h)
          clear h
          go_round
          case rel => exact ⟨k + 1, _, by omega, by go_num, by rw [HS.out.1], rfl, Lib.hid ⟨fun h => by omega, fun _ => by rw [HS.out.1]; exact HS.out.2⟩⟩
          case measure => simp [intOf]; omega
      · obtain ⟨p1, p2, p3, p4⟩ := h
        have V := val7 k hlt s1 e1 s2 hs1 he1 hs2 p1 p2 p3 p4
        have c1 := HT.out (180 - s1).toNat (by omega)
        have c2 := HT.out (s2).toNat (by omega)
        have r1 := sinI_bd (180 - s1).toNat
        have r2 := sinI_bd (s2).toNat
        generalize sinI (180 - s1).toNat = S at V c1 r1
        generalize sinI (s2).toNat = C at V c2 r2
        have m1 := mul_bound (a := u - x) (b := -S) (A := 200000) (B := 1000000) (by omega) (by omega) (by omega) (by omega) (by omega) (by omega)
        have m2 := mul_bound (a := v - y) (b := C) (A := 200000) (B := 1000000) (by omega) (by omega) (by omega) (by omega) (by omega) (by omega)
        have HD : Hid (dotF (u - x) (v - y) k = (u - x) * -S + (v - y) * C) := Lib.hid (by unfold dotF; rw [V.1, V.2])
        clear V
        go_wp2
        · have h : M < dotF (u - x) (v - y) k := by rw [HD.out]; first | assumption | (simp only [Int.mul_neg]; assumption)
          have HS := Lib.hid (step_yes HM.out h)
          clear h
          go_round
          case rel => exact ⟨k + 1, _, by omega, by go_num, by rw [HS.out], rfl, Lib.hid ⟨fun h => by omega, fun _ => by first | (rw [HS.out, HD.out]; done) | (rw [HS.out, HD.out]; simp only [Int.mul_neg])⟩⟩
          case measure => simp [intOf]; omega
        · have h : dotF (u - x) (v - y) k ≤ M := by rw [HD.out]; first | assumption | (simp only [Int.mul_neg]; assumption)
          have HS := Lib.hid (step_no (by omega) (by omega) HM.out h)
          clear h
          go_round
          case rel => exact ⟨k + 1, _, by omega, by go_num, by rw [HS.out.1], rfl, Lib.hid ⟨fun h => by omega, fun _ => by rw [HS.out.1]; exact HS.out.2⟩⟩
          case measure => simp [intOf]; omega
    · obtain rfl : k = 360 := by omega
      go_wp2
      go_ret
      exact ⟨rfl, HB.out⟩

end Go.Proofs.YtbggickeomeidaaDoor.WalkE2
