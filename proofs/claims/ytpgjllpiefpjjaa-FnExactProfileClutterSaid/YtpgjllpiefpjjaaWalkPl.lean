/- Places of a profile: the reference's. -/
import Derived.Test.YtpgjllpiefpjjaaWalkRvp
import Derived.Test.YtpgjllpiefpjjaaWalkAp
import Derived.Test.YtpgjllpiefpjjaaWalkNr
import Derived.Deep.RegionHeld3
import Derived.Deep.DeepCutAuto
namespace Go.Proofs.Ytpgjllpiefpjjaa.WalkPl
open Go Go.RowKit Go.Proofs.Ytpgjllpiefpjjaa.Base Go.Proofs.Ytpgjllpiefpjjaa.Plain Go.Proofs.Ytpgjllpiefpjjaa.Words Go.Proofs.Ytpgjllpiefpjjaa.Ints Go.Proofs.Ytpgjllpiefpjjaa.WalkN Go.Proofs.Ytpgjllpiefpjjaa.WalkP Go.Proofs.Ytpgjllpiefpjjaa.WalkI Go.Proofs.Ytpgjllpiefpjjaa.Cells Go.Proofs.Ytpgjllpiefpjjaa.Pts Go.Proofs.Ytpgjllpiefpjjaa.WalkPI Go.Proofs.Ytpgjllpiefpjjaa.WalkAp
set_option linter.unusedVariables false
set_option linter.unusedSimpArgs false

/-- does a point lie ahead of another one -/
def ordB (ax ay bx cy : Int) : Bool := decide (ax < bx) || (decide (ax = bx) && decide (ay ≤ cy))
/-- the j-th place -/
def plP (px py qx qy : Int) (n : Nat) (j : Nat) : PT := (px + divR ((j : Int) * (qx - px)) ((n : Int) - 1), py + divR ((j : Int) * (qy - py)) ((n : Int) - 1))
def plF (f : Nat → PT) (k : Nat) : List PT := (List.range k).map f
theorem plF_next (f : Nat → PT) (k : Nat) : plF f (k + 1) = plF f k ++ [f k] := by simp [plF, List.range_succ]
theorem plF_len (f : Nat → PT) (k : Nat) : (plF f k).length = k := by simp [plF]
theorem plF_rev (f : Nat → PT) (n : Nat) : (plF f n).reverse = plF (fun k => f (n - 1 - k)) n := by
  apply List.ext_getElem?
  intro j
  by_cases hj : j < n
  · rw [List.getElem?_reverse (by rw [plF_len]; exact hj), plF_len]
    simp [plF, hj, show n - 1 - j < n by omega]
  · rw [List.getElem?_eq_none (by rw [List.length_reverse, plF_len]; omega), List.getElem?_eq_none (by rw [plF_len]; omega)]
/-- the places -/
def places (ax ay bx cy : Int) (n : Nat) : List PT := bif ordB ax ay bx cy then plF (plP ax ay bx cy n) n else (plF (plP bx cy ax ay n) n).reverse
theorem places_len (ax ay bx cy : Int) (n : Nat) : (places ax ay bx cy n).length = n := by
  unfold places
  cases ordB ax ay bx cy <;> simp [plF_len]
/-- bounds of what a place is reckoned from -/
theorem pl_bound {px qx : Int} {j n : Nat} (h1 : 0 ≤ px ∧ px ≤ 200000) (h2 : 0 ≤ qx ∧ qx ≤ 200000) (hj : j < n) (hn : 2 ≤ n ∧ n ≤ 65) :
    (-12800000 ≤ (j : Int) * (qx - px) ∧ (j : Int) * (qx - px) ≤ 12800000) ∧ (-12800000 ≤ divR ((j : Int) * (qx - px)) ((n : Int) - 1) ∧ divR ((j : Int) * (qx - px)) ((n : Int) - 1) ≤ 12800000) := by
  have m := mul_bound (a := (j : Int)) (b := qx - px) (A := 64) (B := 200000) (by omega) (by omega) (by omega) (by omega) (by omega) (by omega)
  exact ⟨by omega, divR_bound (by omega) 12800000 (by omega) (by omega)⟩
theorem two_news (W : World) (a b : Value) (t : TypeId) : ∀ j u, [a, b][j]? = some u → (W.alloc (.cells #[a, b] t)).cell? ((⟨W.heap.size, 0, none⟩ : Addr).add j) = some u := by
  intro j u hu
  rw [Addr.add_lit, Nat.zero_add]
  rcases j with _ | _ | j
  · simp at hu
    subst hu
    exact (Blk.new W t #[a, b] rfl).cell 0
  · simp at hu
    subst hu
    exact (Blk.new W t #[a, b] rfl).cell 1
  · simp at hu

set_option maxHeartbeats 8000000 in
theorem specPl (ax ay bx cy : Int) (n : Nat) (w : World) (h1 : okP ax ay = true) (h2 : okP bx cy = true) (hn : 2 ≤ n ∧ n ≤ 65) :
    Calls Try.prog 44 #[.agg #[.int .i64 ax, .int .i64 ay], .agg #[.int .i64 bx, .int .i64 cy], .int .i64 (n : Int)] w fun e w' => ∃ (B : Option Addr) (q : Nat), e = .returned (.slice B n q) ∧ OwP w' w.heap.size B n q (places ax ay bx cy n) ∧ Below w.heap.size w w' := by
  have b1 := okP_yes h1
  have b2 := okP_yes h2
  clear h1 h2
  obtain ⟨i9, hI, hz0, hz1, hz2⟩ := info_parts infoP
  by_cases c1 : ax < bx
  case pos =>
    have HPL := Lib.hid (show places ax ay bx cy n = plF (plP ax ay bx cy n) n by unfold places ordB; rw [decide_eq_true c1]; rfl)
    have t1 : ¬ bx < ax := by omega
    have t2 : (ax == bx) = false := by simp; omega
    have t3 : decide (bx < ax) = false := decide_eq_false t1
    go_enter Try.func44, Try.ntmps44
    go_wp2_with fail
    go_loopw [9, 10] (fun l i wr => ∃ (k : Nat) (B : Option Addr) (q : Nat), k ≤ n ∧ i = .int .i64 (k : Int) ∧ l = .slice B k q ∧ Hid (Below w.heap.size w wr) ∧ Hid (OwP wr (w.heap.size + 2) B k q (plF (plP ax ay bx cy n) k)) ∧ Hid (Blk wr w.heap.size 30 #[.int .i64 ax, .int .i64 ay]) ∧ Hid (Blk wr (w.heap.size + 1) 30 #[.int .i64 bx, .int .i64 cy])) (fun _ i _ => n - (intOf i).toNat)
    case atStart =>
      exact ⟨0, _, 0, by omega, rfl, rfl, Lib.hid (by repeat (first | with_reducible exact Below.refl _ _ | with_reducible assumption | (with_reducible refine Below.drew ?_) | (with_reducible refine below_drewN ?_ _) | ((with_reducible refine Below.alloc ?_ ?_ _); rotate_left; (focus first | exact Nat.le_refl _ | omega | (simp; done) | (simp; omega))) | ((with_reducible refine Below.setCell ?_ ?_ _); rotate_left; (focus first | exact Nat.le_refl _ | omega | (simp; done) | (simp; omega))) | ((with_reducible refine below_via (W := ?_) ?_ ?_ ?_); rotate_left; (with_reducible assumption); rotate_left; (focus first | exact Nat.le_refl _ | omega | (simp; done) | (simp; omega))))), Lib.hid ⟨rfl, Orw.mk (by simp) (Blk.new _ _ _ (by simp)) (Nat.le_refl _) (by unfold maxLen; omega) (by simp) (by simp [plF, ptc]) (by simp [plF, ptc])⟩, Lib.hid (by (repeat (first | with_reducible assumption | (with_reducible refine Blk.drew ?_) | (with_reducible refine Blk.drewN ?_ _) | ((with_reducible refine Blk.new _ _ _ ?_); (focus first | rfl | (simp; done) | omega)) | (with_reducible refine Blk.alloc ?_ _) | ((with_reducible refine Blk.far ?_ _ ?_); rotate_left; (focus first | omega | (simp; done) | (simp; omega))) | ((with_reducible refine Blk.below (w := ?_) ?_ ?_); rotate_left; (with_reducible assumption))))), Lib.hid (by (repeat (first | with_reducible assumption | (with_reducible refine Blk.drew ?_) | (with_reducible refine Blk.drewN ?_ _) | ((with_reducible refine Blk.new _ _ _ ?_); (focus first | rfl | (simp; done) | omega)) | (with_reducible refine Blk.alloc ?_ _) | ((with_reducible refine Blk.far ?_ _ ?_); rotate_left; (focus first | omega | (simp; done) | (simp; omega))) | ((with_reducible refine Blk.below (w := ?_) ?_ ?_); rotate_left; (with_reducible assumption)))))⟩
    case round =>
      obtain ⟨k, B, q, hk, rfl, rfl, HB, HO, HKP, HKQ⟩ := hrel
      by_cases hlt : k < n
      · skip
        have m1 := pl_bound (px := ax) (qx := bx) (j := k) (n := n) (by omega) (by omega) (by omega) hn
        have m2 := pl_bound (px := ay) (qx := cy) (j := k) (n := n) (by omega) (by omega) (by omega) hn
        have C1 := Lib.hid (fun W => specDiv ((k : Int) * (bx - ax)) ((n : Int) - 1) W (by omega) (by omega) (by omega))
        have C2 := Lib.hid (fun W => specDiv ((k : Int) * (cy - ay)) ((n : Int) - 1) W (by omega) (by omega) (by omega))
        have HXY : Hid (plP ax ay bx cy n k = (ax + divR ((k : Int) * (bx - ax)) ((n : Int) - 1), ay + divR ((k : Int) * (cy - ay)) ((n : Int) - 1))) := Lib.hid rfl
        obtain ⟨M1, hM1⟩ : ∃ M, (k : Int) * (bx - ax) = M := ⟨_, rfl⟩
        obtain ⟨M2, hM2⟩ : ∃ M, (k : Int) * (cy - ay) = M := ⟨_, rfl⟩
        rw [hM1] at C1 HXY m1
        rw [hM2] at C2 HXY m2
        obtain ⟨N1, hN1⟩ : ∃ M, (n : Int) - 1 = M := ⟨_, rfl⟩
        rw [hN1] at C1 C2 HXY m1 m2
        obtain ⟨D1, hD1⟩ : ∃ M, divR M1 N1 = M := ⟨_, rfl⟩
        obtain ⟨D2, hD2⟩ : ∃ M, divR M2 N1 = M := ⟨_, rfl⟩
        rw [hD1] at C1 HXY m1
        rw [hD2] at C2 HXY m2
        obtain ⟨X, hX⟩ : ∃ M, ax + D1 = M := ⟨_, rfl⟩
        obtain ⟨Y, hY⟩ : ∃ M, ay + D2 = M := ⟨_, rfl⟩
        rw [hX, hY] at HXY
        have HRT : Hid (ptc (plF (plP ax ay bx cy n) k) ++ [.int .i64 X, .int .i64 Y] = ptc (plF (plP ax ay bx cy n) (k + 1))) := Lib.hid (by rw [plF_next, ptc_app]; rw [HXY.out]; rfl)
        have e1 : IntKind.i64.wrap (bx - ax) = bx - ax := IntWalk.i64_in _ (by omega)
        have e2 : IntKind.i64.wrap (cy - ay) = cy - ay := IntWalk.i64_in _ (by omega)
        have e3 : IntKind.i64.wrap M1 = M1 := IntWalk.i64_in _ (by omega)
        have e4 : IntKind.i64.wrap M2 = M2 := IntWalk.i64_in _ (by omega)
        have e5 : IntKind.i64.wrap N1 = N1 := IntWalk.i64_in _ (by omega)
        have e6 : IntKind.i64.wrap X = X := IntWalk.i64_in _ (by omega)
        have e7 : IntKind.i64.wrap Y = Y := IntWalk.i64_in _ (by omega)
        have e8 : IntKind.i64.wrap (k : Int) = (k : Int) := IntWalk.i64_in _ (by omega)
        have p0 := HKP.out.cell 0
        have p1 := HKP.out.cell 1
        have p2 := HKQ.out.cell 0
        have p3 := HKQ.out.cell 1
        simp at p0 p1 p2 p3
        have lq := HKQ.out.lt
        clear hD1 hD2 m1 m2 HXY
        go_upto_region 13 with fail
        go_region_held3 (fun w' => w'.cell? ⟨w.heap.size, 0, none⟩ = some (.int .i64 ax) ∧ w'.cell? ⟨w.heap.size, 1, none⟩ = some (.int .i64 ay) ∧ w'.cell? ⟨w.heap.size + 1, 0, none⟩ = some (.int .i64 bx) ∧ w'.cell? ⟨w.heap.size + 1, 1, none⟩ = some (.int .i64 cy)) ((((try dsimp only); (repeat' apply And.intro) <;> (repeat (first | with_reducible assumption | (with_reducible refine keep_drew ?_) | (with_reducible refine keep_drewN ?_) | ((with_reducible refine keep_new _ _ _ _ _ _ ?_ ?_) <;> (first | rfl | (simp; done) | omega)) | (with_reducible refine keep_alloc _ ?_) | ((with_reducible refine keep_set _ ?_ ?_); (focus first | omega | (simp; done) | (simp; omega))) | ((with_reducible refine keep_set' _ ?_ ?_); (focus first | omega | (simp; done))) | ((with_reducible refine keep_same (u := ?_) _ ?_); rotate_left) | ((with_reducible refine keep_setA _ ?_ ?_); (focus first | omega | (simp; done) | (simp; omega))) | ((with_reducible refine keep_below (w := ?_) ?_ ?_); rotate_left; (with_reducible assumption)))))))
          (first | (refine step_append_own rfl (.tmp 47) (.tmp 75) 28 rfl (w.heap.size + 2) 30 i9 (.agg #[.int .i64 0, .int .i64 0]) 2 16 Try.underlying28 hI hz0 hz1 hz2 rfl (by decide) (.slice B k q) k (ptc (plF (plP ax ay bx cy n) k)) ?_ ?_ ⟨wr.heap.size, 0, none⟩ 1 1 [.int .i64 X, .int .i64 Y] ?_ rfl ?_ ?_ ?_ ?_ ?_ ?_; (focus simp [Act.eval, Act.put]); (focus exact Orw.alloc HO.out.2 _); (focus simp [Act.eval, Act.put]); (focus exact two_news _ _ _ _); (focus intro u hu; simp at hu; rcases hu with hu | hu <;> (subst hu; rfl)); (focus unfold maxLen; omega); (focus omega); (focus simp; omega); intro v' w1 hown1 hgrow hwh; rw [HRT.out] at hown1; obtain ⟨B', q', rfl, ho1⟩ := orw_form hown1 (by omega); have g1 := gr_own hgrow; have KP1 := blk_gr g1 (fun a e => by have h := HO.out.block e; omega) (Blk.alloc HKP.out _); have KQ1 := blk_gr g1 (fun a e => by have h := HO.out.block e; omega) (Blk.alloc HKQ.out _); have c0 : w1.cell? ⟨w.heap.size, 0, none⟩ = some (.int .i64 ax) := KP1.cell 0; have c1 : w1.cell? ⟨w.heap.size, 1, none⟩ = some (.int .i64 ay) := KP1.cell 1; have c2 : w1.cell? ⟨w.heap.size + 1, 0, none⟩ = some (.int .i64 bx) := KQ1.cell 0; have c3 : w1.cell? ⟨w.heap.size + 1, 1, none⟩ = some (.int .i64 cy) := KQ1.cell 1; have HG : Hid (Gr wr w1 B) := Lib.hid (Gr.trans (Gr.drew (Gr.alloc (Gr.refl wr B) (.cells #[.int .i64 X, .int .i64 Y] 30))) g1); have HO1 := Lib.hid ho1; have HKP1 := Lib.hid KP1; have HKQ1 := Lib.hid KQ1; clear hown1 hgrow g1 ho1 KP1 KQ1 hwh) | (go_at_call 64; first | ((with_reducible refine (C1.out _).mono ?_); rintro e w' ⟨rfl, rfl⟩) | ((with_reducible refine (C2.out _).mono ?_); rintro e w' ⟨rfl, rfl⟩)))
        all_goals (go_wp2_with fail; go_roundw)
        all_goals first
          | (refine ⟨k + 1, B', q', ?_, ?_, rfl, Lib.hid (Below.trans HB.out (Gr.below HG.out (fun a e => by have h := HO.out.block e; omega) HB.out.size)), Lib.hid ⟨plF_len _ _, HO1.out⟩, HKP1, HKQ1⟩; (focus omega); (focus go_num))
          | (simp [intOf]; done)
          | (simp [intOf]; omega)
      · obtain rfl : k = n := by omega
        have hb := HB.out
        go_wp2_with fail
        go_ret
        exact ⟨B, q, rfl, by rw [HPL.out]; exact OwP.lower HO.out (by omega), hb⟩
  case neg =>
    by_cases c2 : bx < ax
    case pos =>
      have HPL := Lib.hid (show places ax ay bx cy n = plF (fun k => plP bx cy ax ay n (n - 1 - k)) n by unfold places ordB; rw [decide_eq_false c1, decide_eq_false (show ¬ ax = bx by omega), ← plF_rev]; rfl)
      go_enter Try.func44, Try.ntmps44
      go_wp2_with fail
      go_loopw [9, 10] (fun l i wr => ∃ (k : Nat) (B : Option Addr) (q : Nat), k ≤ n ∧ i = .int .i64 (k : Int) ∧ l = .slice B k q ∧ Hid (Below w.heap.size w wr) ∧ Hid (OwP wr (w.heap.size + 2) B k q (plF (fun k => plP bx cy ax ay n (n - 1 - k)) k)) ∧ Hid (Blk wr w.heap.size 30 #[.int .i64 bx, .int .i64 cy]) ∧ Hid (Blk wr (w.heap.size + 1) 30 #[.int .i64 ax, .int .i64 ay])) (fun _ i _ => n - (intOf i).toNat)
      case atStart =>
        exact ⟨0, _, 0, by omega, rfl, rfl, Lib.hid (by repeat (first | with_reducible exact Below.refl _ _ | with_reducible assumption | (with_reducible refine Below.drew ?_) | (with_reducible refine below_drewN ?_ _) | ((with_reducible refine Below.alloc ?_ ?_ _); rotate_left; (focus first | exact Nat.le_refl _ | omega | (simp; done) | (simp; omega))) | ((with_reducible refine Below.setCell ?_ ?_ _); rotate_left; (focus first | exact Nat.le_refl _ | omega | (simp; done) | (simp; omega))) | ((with_reducible refine below_via (W := ?_) ?_ ?_ ?_); rotate_left; (with_reducible assumption); rotate_left; (focus first | exact Nat.le_refl _ | omega | (simp; done) | (simp; omega))))), Lib.hid ⟨rfl, Orw.mk (by simp) (Blk.new _ _ _ (by simp)) (Nat.le_refl _) (by unfold maxLen; omega) (by simp) (by simp [plF, ptc]) (by simp [plF, ptc])⟩, Lib.hid (by (repeat (first | with_reducible assumption | (with_reducible refine Blk.drew ?_) | (with_reducible refine Blk.drewN ?_ _) | ((with_reducible refine Blk.new _ _ _ ?_); (focus first | rfl | (simp; done) | omega)) | (with_reducible refine Blk.alloc ?_ _) | ((with_reducible refine Blk.far ?_ _ ?_); rotate_left; (focus first | omega | (simp; done) | (simp; omega))) | ((with_reducible refine Blk.below (w := ?_) ?_ ?_); rotate_left; (with_reducible assumption))))), Lib.hid (by (repeat (first | with_reducible assumption | (with_reducible refine Blk.drew ?_) | (with_reducible refine Blk.drewN ?_ _) | ((with_reducible refine Blk.new _ _ _ ?_); (focus first | rfl | (simp; done) | omega)) | (with_reducible refine Blk.alloc ?_ _) | ((with_reducible refine Blk.far ?_ _ ?_); rotate_left; (focus first | omega | (simp; done) | (simp; omega))) | ((with_reducible refine Blk.below (w := ?_) ?_ ?_); rotate_left; (with_reducible assumption)))))⟩
      case round =>
        obtain ⟨k, B, q, hk, rfl, rfl, HB, HO, HKP, HKQ⟩ := hrel
        by_cases hlt : k < n
        · obtain ⟨j, hj⟩ : ∃ j : Nat, k + j + 1 = n := ⟨n - 1 - k, by omega⟩
          have m1 := pl_bound (px := bx) (qx := ax) (j := j) (n := n) (by omega) (by omega) (by omega) hn
          have m2 := pl_bound (px := cy) (qx := ay) (j := j) (n := n) (by omega) (by omega) (by omega) hn
          have C1 := Lib.hid (fun W => specDiv ((j : Int) * (ax - bx)) ((n : Int) - 1) W (by omega) (by omega) (by omega))
          have C2 := Lib.hid (fun W => specDiv ((j : Int) * (ay - cy)) ((n : Int) - 1) W (by omega) (by omega) (by omega))
          have HXY : Hid (plP bx cy ax ay n j = (bx + divR ((j : Int) * (ax - bx)) ((n : Int) - 1), cy + divR ((j : Int) * (ay - cy)) ((n : Int) - 1))) := Lib.hid rfl
          obtain ⟨M1, hM1⟩ : ∃ M, (j : Int) * (ax - bx) = M := ⟨_, rfl⟩
          obtain ⟨M2, hM2⟩ : ∃ M, (j : Int) * (ay - cy) = M := ⟨_, rfl⟩
          rw [hM1] at C1 HXY m1
          rw [hM2] at C2 HXY m2
          obtain ⟨N1, hN1⟩ : ∃ M, (n : Int) - 1 = M := ⟨_, rfl⟩
          rw [hN1] at C1 C2 HXY m1 m2
          obtain ⟨D1, hD1⟩ : ∃ M, divR M1 N1 = M := ⟨_, rfl⟩
          obtain ⟨D2, hD2⟩ : ∃ M, divR M2 N1 = M := ⟨_, rfl⟩
          rw [hD1] at C1 HXY m1
          rw [hD2] at C2 HXY m2
          obtain ⟨X, hX⟩ : ∃ M, bx + D1 = M := ⟨_, rfl⟩
          obtain ⟨Y, hY⟩ : ∃ M, cy + D2 = M := ⟨_, rfl⟩
          rw [hX, hY] at HXY
          have HRT : Hid (ptc (plF (fun k => plP bx cy ax ay n (n - 1 - k)) k) ++ [.int .i64 X, .int .i64 Y] = ptc (plF (fun k => plP bx cy ax ay n (n - 1 - k)) (k + 1))) := Lib.hid (by rw [plF_next, ptc_app]; rw [show n - 1 - k = j by omega, HXY.out]; rfl)
          have ej : N1 - (k : Int) = (j : Int) := by omega
          have e1 : IntKind.i64.wrap (ax - bx) = ax - bx := IntWalk.i64_in _ (by omega)
          have e2 : IntKind.i64.wrap (ay - cy) = ay - cy := IntWalk.i64_in _ (by omega)
          have e3 : IntKind.i64.wrap M1 = M1 := IntWalk.i64_in _ (by omega)
          have e4 : IntKind.i64.wrap M2 = M2 := IntWalk.i64_in _ (by omega)
          have e5 : IntKind.i64.wrap N1 = N1 := IntWalk.i64_in _ (by omega)
          have e6 : IntKind.i64.wrap X = X := IntWalk.i64_in _ (by omega)
          have e7 : IntKind.i64.wrap Y = Y := IntWalk.i64_in _ (by omega)
          have e8 : IntKind.i64.wrap (j : Int) = (j : Int) := IntWalk.i64_in _ (by omega)
          have p0 := HKP.out.cell 0
          have p1 := HKP.out.cell 1
          have p2 := HKQ.out.cell 0
          have p3 := HKQ.out.cell 1
          simp at p0 p1 p2 p3
          have lq := HKQ.out.lt
          clear hD1 hD2 m1 m2 HXY
          go_upto_region 13 with fail
          go_region_held3 (fun w' => w'.cell? ⟨w.heap.size, 0, none⟩ = some (.int .i64 bx) ∧ w'.cell? ⟨w.heap.size, 1, none⟩ = some (.int .i64 cy) ∧ w'.cell? ⟨w.heap.size + 1, 0, none⟩ = some (.int .i64 ax) ∧ w'.cell? ⟨w.heap.size + 1, 1, none⟩ = some (.int .i64 ay)) ((((try dsimp only); (repeat' apply And.intro) <;> (repeat (first | with_reducible assumption | (with_reducible refine keep_drew ?_) | (with_reducible refine keep_drewN ?_) | ((with_reducible refine keep_new _ _ _ _ _ _ ?_ ?_) <;> (first | rfl | (simp; done) | omega)) | (with_reducible refine keep_alloc _ ?_) | ((with_reducible refine keep_set _ ?_ ?_); (focus first | omega | (simp; done) | (simp; omega))) | ((with_reducible refine keep_set' _ ?_ ?_); (focus first | omega | (simp; done))) | ((with_reducible refine keep_same (u := ?_) _ ?_); rotate_left) | ((with_reducible refine keep_setA _ ?_ ?_); (focus first | omega | (simp; done) | (simp; omega))) | ((with_reducible refine keep_below (w := ?_) ?_ ?_); rotate_left; (with_reducible assumption)))))))
            (first | (refine step_append_own rfl (.tmp 47) (.tmp 75) 28 rfl (w.heap.size + 2) 30 i9 (.agg #[.int .i64 0, .int .i64 0]) 2 16 Try.underlying28 hI hz0 hz1 hz2 rfl (by decide) (.slice B k q) k (ptc (plF (fun k => plP bx cy ax ay n (n - 1 - k)) k)) ?_ ?_ ⟨wr.heap.size, 0, none⟩ 1 1 [.int .i64 X, .int .i64 Y] ?_ rfl ?_ ?_ ?_ ?_ ?_ ?_; (focus simp [Act.eval, Act.put]); (focus exact Orw.alloc HO.out.2 _); (focus simp [Act.eval, Act.put]); (focus exact two_news _ _ _ _); (focus intro u hu; simp at hu; rcases hu with hu | hu <;> (subst hu; rfl)); (focus unfold maxLen; omega); (focus omega); (focus simp; omega); intro v' w1 hown1 hgrow hwh; rw [HRT.out] at hown1; obtain ⟨B', q', rfl, ho1⟩ := orw_form hown1 (by omega); have g1 := gr_own hgrow; have KP1 := blk_gr g1 (fun a e => by have h := HO.out.block e; omega) (Blk.alloc HKP.out _); have KQ1 := blk_gr g1 (fun a e => by have h := HO.out.block e; omega) (Blk.alloc HKQ.out _); have c0 : w1.cell? ⟨w.heap.size, 0, none⟩ = some (.int .i64 bx) := KP1.cell 0; have c1 : w1.cell? ⟨w.heap.size, 1, none⟩ = some (.int .i64 cy) := KP1.cell 1; have c2 : w1.cell? ⟨w.heap.size + 1, 0, none⟩ = some (.int .i64 ax) := KQ1.cell 0; have c3 : w1.cell? ⟨w.heap.size + 1, 1, none⟩ = some (.int .i64 ay) := KQ1.cell 1; have HG : Hid (Gr wr w1 B) := Lib.hid (Gr.trans (Gr.drew (Gr.alloc (Gr.refl wr B) (.cells #[.int .i64 X, .int .i64 Y] 30))) g1); have HO1 := Lib.hid ho1; have HKP1 := Lib.hid KP1; have HKQ1 := Lib.hid KQ1; clear hown1 hgrow g1 ho1 KP1 KQ1 hwh) | (go_at_call 64; first | ((with_reducible refine (C1.out _).mono ?_); rintro e w' ⟨rfl, rfl⟩) | ((with_reducible refine (C2.out _).mono ?_); rintro e w' ⟨rfl, rfl⟩)))
          all_goals (go_wp2_with fail; go_roundw)
          all_goals first
            | (refine ⟨k + 1, B', q', ?_, ?_, rfl, Lib.hid (Below.trans HB.out (Gr.below HG.out (fun a e => by have h := HO.out.block e; omega) HB.out.size)), Lib.hid ⟨plF_len _ _, HO1.out⟩, HKP1, HKQ1⟩; (focus omega); (focus go_num))
            | (simp [intOf]; done)
            | (simp [intOf]; omega)
        · obtain rfl : k = n := by omega
          have hb := HB.out
          go_wp2_with fail
          go_ret
          exact ⟨B, q, rfl, by rw [HPL.out]; exact OwP.lower HO.out (by omega), hb⟩
    case neg =>
      have hab : ax = bx := by omega
      have t0 : (ax == bx) = true := by simp [hab]
      have t1 : decide (ax < bx) = false := decide_eq_false c1
      have t2 : decide (bx < ax) = false := decide_eq_false c2
      by_cases c3 : cy < ay
      case pos =>
        have HPL := Lib.hid (show places ax ay bx cy n = plF (fun k => plP bx cy ax ay n (n - 1 - k)) n by unfold places ordB; rw [decide_eq_false c1, decide_eq_false (show ¬ ay ≤ cy by omega), Bool.and_false, ← plF_rev]; rfl)
        clear hab
        go_enter Try.func44, Try.ntmps44
        go_wp2_with fail
        go_loopw [9, 10] (fun l i wr => ∃ (k : Nat) (B : Option Addr) (q : Nat), k ≤ n ∧ i = .int .i64 (k : Int) ∧ l = .slice B k q ∧ Hid (Below w.heap.size w wr) ∧ Hid (OwP wr (w.heap.size + 2) B k q (plF (fun k => plP bx cy ax ay n (n - 1 - k)) k)) ∧ Hid (Blk wr w.heap.size 30 #[.int .i64 bx, .int .i64 cy]) ∧ Hid (Blk wr (w.heap.size + 1) 30 #[.int .i64 ax, .int .i64 ay])) (fun _ i _ => n - (intOf i).toNat)
        case atStart =>
          exact ⟨0, _, 0, by omega, rfl, rfl, Lib.hid (by repeat (first | with_reducible exact Below.refl _ _ | with_reducible assumption | (with_reducible refine Below.drew ?_) | (with_reducible refine below_drewN ?_ _) | ((with_reducible refine Below.alloc ?_ ?_ _); rotate_left; (focus first | exact Nat.le_refl _ | omega | (simp; done) | (simp; omega))) | ((with_reducible refine Below.setCell ?_ ?_ _); rotate_left; (focus first | exact Nat.le_refl _ | omega | (simp; done) | (simp; omega))) | ((with_reducible refine below_via (W := ?_) ?_ ?_ ?_); rotate_left; (with_reducible assumption); rotate_left; (focus first | exact Nat.le_refl _ | omega | (simp; done) | (simp; omega))))), Lib.hid ⟨rfl, Orw.mk (by simp) (Blk.new _ _ _ (by simp)) (Nat.le_refl _) (by unfold maxLen; omega) (by simp) (by simp [plF, ptc]) (by simp [plF, ptc])⟩, Lib.hid (by (repeat (first | with_reducible assumption | (with_reducible refine Blk.drew ?_) | (with_reducible refine Blk.drewN ?_ _) | ((with_reducible refine Blk.new _ _ _ ?_); (focus first | rfl | (simp; done) | omega)) | (with_reducible refine Blk.alloc ?_ _) | ((with_reducible refine Blk.far ?_ _ ?_); rotate_left; (focus first | omega | (simp; done) | (simp; omega))) | ((with_reducible refine Blk.below (w := ?_) ?_ ?_); rotate_left; (with_reducible assumption))))), Lib.hid (by (repeat (first | with_reducible assumption | (with_reducible refine Blk.drew ?_) | (with_reducible refine Blk.drewN ?_ _) | ((with_reducible refine Blk.new _ _ _ ?_); (focus first | rfl | (simp; done) | omega)) | (with_reducible refine Blk.alloc ?_ _) | ((with_reducible refine Blk.far ?_ _ ?_); rotate_left; (focus first | omega | (simp; done) | (simp; omega))) | ((with_reducible refine Blk.below (w := ?_) ?_ ?_); rotate_left; (with_reducible assumption)))))⟩
        case round =>
          obtain ⟨k, B, q, hk, rfl, rfl, HB, HO, HKP, HKQ⟩ := hrel
          by_cases hlt : k < n
          · obtain ⟨j, hj⟩ : ∃ j : Nat, k + j + 1 = n := ⟨n - 1 - k, by omega⟩
            have m1 := pl_bound (px := bx) (qx := ax) (j := j) (n := n) (by omega) (by omega) (by omega) hn
            have m2 := pl_bound (px := cy) (qx := ay) (j := j) (n := n) (by omega) (by omega) (by omega) hn
            have C1 := Lib.hid (fun W => specDiv ((j : Int) * (ax - bx)) ((n : Int) - 1) W (by omega) (by omega) (by omega))
            have C2 := Lib.hid (fun W => specDiv ((j : Int) * (ay - cy)) ((n : Int) - 1) W (by omega) (by omega) (by omega))
            have HXY : Hid (plP bx cy ax ay n j = (bx + divR ((j : Int) * (ax - bx)) ((n : Int) - 1), cy + divR ((j : Int) * (ay - cy)) ((n : Int) - 1))) := Lib.hid rfl
            obtain ⟨M1, hM1⟩ : ∃ M, (j : Int) * (ax - bx) = M := ⟨_, rfl⟩
            obtain ⟨M2, hM2⟩ : ∃ M, (j : Int) * (ay - cy) = M := ⟨_, rfl⟩
            rw [hM1] at C1 HXY m1
            rw [hM2] at C2 HXY m2
            obtain ⟨N1, hN1⟩ : ∃ M, (n : Int) - 1 = M := ⟨_, rfl⟩
            rw [hN1] at C1 C2 HXY m1 m2
            obtain ⟨D1, hD1⟩ : ∃ M, divR M1 N1 = M := ⟨_, rfl⟩
            obtain ⟨D2, hD2⟩ : ∃ M, divR M2 N1 = M := ⟨_, rfl⟩
            rw [hD1] at C1 HXY m1
            rw [hD2] at C2 HXY m2
            obtain ⟨X, hX⟩ : ∃ M, bx + D1 = M := ⟨_, rfl⟩
            obtain ⟨Y, hY⟩ : ∃ M, cy + D2 = M := ⟨_, rfl⟩
            rw [hX, hY] at HXY
            have HRT : Hid (ptc (plF (fun k => plP bx cy ax ay n (n - 1 - k)) k) ++ [.int .i64 X, .int .i64 Y] = ptc (plF (fun k => plP bx cy ax ay n (n - 1 - k)) (k + 1))) := Lib.hid (by rw [plF_next, ptc_app]; rw [show n - 1 - k = j by omega, HXY.out]; rfl)
            have ej : N1 - (k : Int) = (j : Int) := by omega
            have e1 : IntKind.i64.wrap (ax - bx) = ax - bx := IntWalk.i64_in _ (by omega)
            have e2 : IntKind.i64.wrap (ay - cy) = ay - cy := IntWalk.i64_in _ (by omega)
            have e3 : IntKind.i64.wrap M1 = M1 := IntWalk.i64_in _ (by omega)
            have e4 : IntKind.i64.wrap M2 = M2 := IntWalk.i64_in _ (by omega)
            have e5 : IntKind.i64.wrap N1 = N1 := IntWalk.i64_in _ (by omega)
            have e6 : IntKind.i64.wrap X = X := IntWalk.i64_in _ (by omega)
            have e7 : IntKind.i64.wrap Y = Y := IntWalk.i64_in _ (by omega)
            have e8 : IntKind.i64.wrap (j : Int) = (j : Int) := IntWalk.i64_in _ (by omega)
            have p0 := HKP.out.cell 0
            have p1 := HKP.out.cell 1
            have p2 := HKQ.out.cell 0
            have p3 := HKQ.out.cell 1
            simp at p0 p1 p2 p3
            have lq := HKQ.out.lt
            clear hD1 hD2 m1 m2 HXY
            go_upto_region 13 with fail
            go_region_held3 (fun w' => w'.cell? ⟨w.heap.size, 0, none⟩ = some (.int .i64 bx) ∧ w'.cell? ⟨w.heap.size, 1, none⟩ = some (.int .i64 cy) ∧ w'.cell? ⟨w.heap.size + 1, 0, none⟩ = some (.int .i64 ax) ∧ w'.cell? ⟨w.heap.size + 1, 1, none⟩ = some (.int .i64 ay)) ((((try dsimp only); (repeat' apply And.intro) <;> (repeat (first | with_reducible assumption | (with_reducible refine keep_drew ?_) | (with_reducible refine keep_drewN ?_) | ((with_reducible refine keep_new _ _ _ _ _ _ ?_ ?_) <;> (first | rfl | (simp; done) | omega)) | (with_reducible refine keep_alloc _ ?_) | ((with_reducible refine keep_set _ ?_ ?_); (focus first | omega | (simp; done) | (simp; omega))) | ((with_reducible refine keep_set' _ ?_ ?_); (focus first | omega | (simp; done))) | ((with_reducible refine keep_same (u := ?_) _ ?_); rotate_left) | ((with_reducible refine keep_setA _ ?_ ?_); (focus first | omega | (simp; done) | (simp; omega))) | ((with_reducible refine keep_below (w := ?_) ?_ ?_); rotate_left; (with_reducible assumption)))))))
              (first | (refine step_append_own rfl (.tmp 47) (.tmp 75) 28 rfl (w.heap.size + 2) 30 i9 (.agg #[.int .i64 0, .int .i64 0]) 2 16 Try.underlying28 hI hz0 hz1 hz2 rfl (by decide) (.slice B k q) k (ptc (plF (fun k => plP bx cy ax ay n (n - 1 - k)) k)) ?_ ?_ ⟨wr.heap.size, 0, none⟩ 1 1 [.int .i64 X, .int .i64 Y] ?_ rfl ?_ ?_ ?_ ?_ ?_ ?_; (focus simp [Act.eval, Act.put]); (focus exact Orw.alloc HO.out.2 _); (focus simp [Act.eval, Act.put]); (focus exact two_news _ _ _ _); (focus intro u hu; simp at hu; rcases hu with hu | hu <;> (subst hu; rfl)); (focus unfold maxLen; omega); (focus omega); (focus simp; omega); intro v' w1 hown1 hgrow hwh; rw [HRT.out] at hown1; obtain ⟨B', q', rfl, ho1⟩ := orw_form hown1 (by omega); have g1 := gr_own hgrow; have KP1 := blk_gr g1 (fun a e => by have h := HO.out.block e; omega) (Blk.alloc HKP.out _); have KQ1 := blk_gr g1 (fun a e => by have h := HO.out.block e; omega) (Blk.alloc HKQ.out _); have c0 : w1.cell? ⟨w.heap.size, 0, none⟩ = some (.int .i64 bx) := KP1.cell 0; have c1 : w1.cell? ⟨w.heap.size, 1, none⟩ = some (.int .i64 cy) := KP1.cell 1; have c2 : w1.cell? ⟨w.heap.size + 1, 0, none⟩ = some (.int .i64 ax) := KQ1.cell 0; have c3 : w1.cell? ⟨w.heap.size + 1, 1, none⟩ = some (.int .i64 ay) := KQ1.cell 1; have HG : Hid (Gr wr w1 B) := Lib.hid (Gr.trans (Gr.drew (Gr.alloc (Gr.refl wr B) (.cells #[.int .i64 X, .int .i64 Y] 30))) g1); have HO1 := Lib.hid ho1; have HKP1 := Lib.hid KP1; have HKQ1 := Lib.hid KQ1; clear hown1 hgrow g1 ho1 KP1 KQ1 hwh) | (go_at_call 64; first | ((with_reducible refine (C1.out _).mono ?_); rintro e w' ⟨rfl, rfl⟩) | ((with_reducible refine (C2.out _).mono ?_); rintro e w' ⟨rfl, rfl⟩)))
            all_goals (go_wp2_with fail; go_roundw)
            all_goals first
              | (refine ⟨k + 1, B', q', ?_, ?_, rfl, Lib.hid (Below.trans HB.out (Gr.below HG.out (fun a e => by have h := HO.out.block e; omega) HB.out.size)), Lib.hid ⟨plF_len _ _, HO1.out⟩, HKP1, HKQ1⟩; (focus omega); (focus go_num))
              | (simp [intOf]; done)
              | (simp [intOf]; omega)
          · obtain rfl : k = n := by omega
            have hb := HB.out
            go_wp2_with fail
            go_ret
            exact ⟨B, q, rfl, by rw [HPL.out]; exact OwP.lower HO.out (by omega), hb⟩
      case neg =>
        have HPL := Lib.hid (show places ax ay bx cy n = plF (plP ax ay bx cy n) n by unfold places ordB; rw [decide_eq_true (show ay ≤ cy by omega), decide_eq_true hab, decide_eq_false c1]; rfl)
        have t4 : decide (cy < ay) = false := decide_eq_false c3
        clear hab
        go_enter Try.func44, Try.ntmps44
        go_wp2_with fail
        go_loopw [9, 10] (fun l i wr => ∃ (k : Nat) (B : Option Addr) (q : Nat), k ≤ n ∧ i = .int .i64 (k : Int) ∧ l = .slice B k q ∧ Hid (Below w.heap.size w wr) ∧ Hid (OwP wr (w.heap.size + 2) B k q (plF (plP ax ay bx cy n) k)) ∧ Hid (Blk wr w.heap.size 30 #[.int .i64 ax, .int .i64 ay]) ∧ Hid (Blk wr (w.heap.size + 1) 30 #[.int .i64 bx, .int .i64 cy])) (fun _ i _ => n - (intOf i).toNat)
        case atStart =>
          exact ⟨0, _, 0, by omega, rfl, rfl, Lib.hid (by repeat (first | with_reducible exact Below.refl _ _ | with_reducible assumption | (with_reducible refine Below.drew ?_) | (with_reducible refine below_drewN ?_ _) | ((with_reducible refine Below.alloc ?_ ?_ _); rotate_left; (focus first | exact Nat.le_refl _ | omega | (simp; done) | (simp; omega))) | ((with_reducible refine Below.setCell ?_ ?_ _); rotate_left; (focus first | exact Nat.le_refl _ | omega | (simp; done) | (simp; omega))) | ((with_reducible refine below_via (W := ?_) ?_ ?_ ?_); rotate_left; (with_reducible assumption); rotate_left; (focus first | exact Nat.le_refl _ | omega | (simp; done) | (simp; omega))))), Lib.hid ⟨rfl, Orw.mk (by simp) (Blk.new _ _ _ (by simp)) (Nat.le_refl _) (by unfold maxLen; omega) (by simp) (by simp [plF, ptc]) (by simp [plF, ptc])⟩, Lib.hid (by (repeat (first | with_reducible assumption | (with_reducible refine Blk.drew ?_) | (with_reducible refine Blk.drewN ?_ _) | ((with_reducible refine Blk.new _ _ _ ?_); (focus first | rfl | (simp; done) | omega)) | (with_reducible refine Blk.alloc ?_ _) | ((with_reducible refine Blk.far ?_ _ ?_); rotate_left; (focus first | omega | (simp; done) | (simp; omega))) | ((with_reducible refine Blk.below (w := ?_) ?_ ?_); rotate_left; (with_reducible assumption))))), Lib.hid (by (repeat (first | with_reducible assumption | (with_reducible refine Blk.drew ?_) | (with_reducible refine Blk.drewN ?_ _) | ((with_reducible refine Blk.new _ _ _ ?_); (focus first | rfl | (simp; done) | omega)) | (with_reducible refine Blk.alloc ?_ _) | ((with_reducible refine Blk.far ?_ _ ?_); rotate_left; (focus first | omega | (simp; done) | (simp; omega))) | ((with_reducible refine Blk.below (w := ?_) ?_ ?_); rotate_left; (with_reducible assumption)))))⟩
        case round =>
          obtain ⟨k, B, q, hk, rfl, rfl, HB, HO, HKP, HKQ⟩ := hrel
          by_cases hlt : k < n
          · skip
            have m1 := pl_bound (px := ax) (qx := bx) (j := k) (n := n) (by omega) (by omega) (by omega) hn
            have m2 := pl_bound (px := ay) (qx := cy) (j := k) (n := n) (by omega) (by omega) (by omega) hn
            have C1 := Lib.hid (fun W => specDiv ((k : Int) * (bx - ax)) ((n : Int) - 1) W (by omega) (by omega) (by omega))
            have C2 := Lib.hid (fun W => specDiv ((k : Int) * (cy - ay)) ((n : Int) - 1) W (by omega) (by omega) (by omega))
            have HXY : Hid (plP ax ay bx cy n k = (ax + divR ((k : Int) * (bx - ax)) ((n : Int) - 1), ay + divR ((k : Int) * (cy - ay)) ((n : Int) - 1))) := Lib.hid rfl
            obtain ⟨M1, hM1⟩ : ∃ M, (k : Int) * (bx - ax) = M := ⟨_, rfl⟩
            obtain ⟨M2, hM2⟩ : ∃ M, (k : Int) * (cy - ay) = M := ⟨_, rfl⟩
            rw [hM1] at C1 HXY m1
            rw [hM2] at C2 HXY m2
            obtain ⟨N1, hN1⟩ : ∃ M, (n : Int) - 1 = M := ⟨_, rfl⟩
            rw [hN1] at C1 C2 HXY m1 m2
            obtain ⟨D1, hD1⟩ : ∃ M, divR M1 N1 = M := ⟨_, rfl⟩
            obtain ⟨D2, hD2⟩ : ∃ M, divR M2 N1 = M := ⟨_, rfl⟩
            rw [hD1] at C1 HXY m1
            rw [hD2] at C2 HXY m2
            obtain ⟨X, hX⟩ : ∃ M, ax + D1 = M := ⟨_, rfl⟩
            obtain ⟨Y, hY⟩ : ∃ M, ay + D2 = M := ⟨_, rfl⟩
            rw [hX, hY] at HXY
            have HRT : Hid (ptc (plF (plP ax ay bx cy n) k) ++ [.int .i64 X, .int .i64 Y] = ptc (plF (plP ax ay bx cy n) (k + 1))) := Lib.hid (by rw [plF_next, ptc_app]; rw [HXY.out]; rfl)
            have e1 : IntKind.i64.wrap (bx - ax) = bx - ax := IntWalk.i64_in _ (by omega)
            have e2 : IntKind.i64.wrap (cy - ay) = cy - ay := IntWalk.i64_in _ (by omega)
            have e3 : IntKind.i64.wrap M1 = M1 := IntWalk.i64_in _ (by omega)
            have e4 : IntKind.i64.wrap M2 = M2 := IntWalk.i64_in _ (by omega)
            have e5 : IntKind.i64.wrap N1 = N1 := IntWalk.i64_in _ (by omega)
            have e6 : IntKind.i64.wrap X = X := IntWalk.i64_in _ (by omega)
            have e7 : IntKind.i64.wrap Y = Y := IntWalk.i64_in _ (by omega)
            have e8 : IntKind.i64.wrap (k : Int) = (k : Int) := IntWalk.i64_in _ (by omega)
            have p0 := HKP.out.cell 0
            have p1 := HKP.out.cell 1
            have p2 := HKQ.out.cell 0
            have p3 := HKQ.out.cell 1
            simp at p0 p1 p2 p3
            have lq := HKQ.out.lt
            clear hD1 hD2 m1 m2 HXY
            go_upto_region 13 with fail
            go_region_held3 (fun w' => w'.cell? ⟨w.heap.size, 0, none⟩ = some (.int .i64 ax) ∧ w'.cell? ⟨w.heap.size, 1, none⟩ = some (.int .i64 ay) ∧ w'.cell? ⟨w.heap.size + 1, 0, none⟩ = some (.int .i64 bx) ∧ w'.cell? ⟨w.heap.size + 1, 1, none⟩ = some (.int .i64 cy)) ((((try dsimp only); (repeat' apply And.intro) <;> (repeat (first | with_reducible assumption | (with_reducible refine keep_drew ?_) | (with_reducible refine keep_drewN ?_) | ((with_reducible refine keep_new _ _ _ _ _ _ ?_ ?_) <;> (first | rfl | (simp; done) | omega)) | (with_reducible refine keep_alloc _ ?_) | ((with_reducible refine keep_set _ ?_ ?_); (focus first | omega | (simp; done) | (simp; omega))) | ((with_reducible refine keep_set' _ ?_ ?_); (focus first | omega | (simp; done))) | ((with_reducible refine keep_same (u := ?_) _ ?_); rotate_left) | ((with_reducible refine keep_setA _ ?_ ?_); (focus first | omega | (simp; done) | (simp; omega))) | ((with_reducible refine keep_below (w := ?_) ?_ ?_); rotate_left; (with_reducible assumption)))))))
              (first | (refine step_append_own rfl (.tmp 47) (.tmp 75) 28 rfl (w.heap.size + 2) 30 i9 (.agg #[.int .i64 0, .int .i64 0]) 2 16 Try.underlying28 hI hz0 hz1 hz2 rfl (by decide) (.slice B k q) k (ptc (plF (plP ax ay bx cy n) k)) ?_ ?_ ⟨wr.heap.size, 0, none⟩ 1 1 [.int .i64 X, .int .i64 Y] ?_ rfl ?_ ?_ ?_ ?_ ?_ ?_; (focus simp [Act.eval, Act.put]); (focus exact Orw.alloc HO.out.2 _); (focus simp [Act.eval, Act.put]); (focus exact two_news _ _ _ _); (focus intro u hu; simp at hu; rcases hu with hu | hu <;> (subst hu; rfl)); (focus unfold maxLen; omega); (focus omega); (focus simp; omega); intro v' w1 hown1 hgrow hwh; rw [HRT.out] at hown1; obtain ⟨B', q', rfl, ho1⟩ := orw_form hown1 (by omega); have g1 := gr_own hgrow; have KP1 := blk_gr g1 (fun a e => by have h := HO.out.block e; omega) (Blk.alloc HKP.out _); have KQ1 := blk_gr g1 (fun a e => by have h := HO.out.block e; omega) (Blk.alloc HKQ.out _); have c0 : w1.cell? ⟨w.heap.size, 0, none⟩ = some (.int .i64 ax) := KP1.cell 0; have c1 : w1.cell? ⟨w.heap.size, 1, none⟩ = some (.int .i64 ay) := KP1.cell 1; have c2 : w1.cell? ⟨w.heap.size + 1, 0, none⟩ = some (.int .i64 bx) := KQ1.cell 0; have c3 : w1.cell? ⟨w.heap.size + 1, 1, none⟩ = some (.int .i64 cy) := KQ1.cell 1; have HG : Hid (Gr wr w1 B) := Lib.hid (Gr.trans (Gr.drew (Gr.alloc (Gr.refl wr B) (.cells #[.int .i64 X, .int .i64 Y] 30))) g1); have HO1 := Lib.hid ho1; have HKP1 := Lib.hid KP1; have HKQ1 := Lib.hid KQ1; clear hown1 hgrow g1 ho1 KP1 KQ1 hwh) | (go_at_call 64; first | ((with_reducible refine (C1.out _).mono ?_); rintro e w' ⟨rfl, rfl⟩) | ((with_reducible refine (C2.out _).mono ?_); rintro e w' ⟨rfl, rfl⟩)))
            all_goals (go_wp2_with fail; go_roundw)
            all_goals first
              | (refine ⟨k + 1, B', q', ?_, ?_, rfl, Lib.hid (Below.trans HB.out (Gr.below HG.out (fun a e => by have h := HO.out.block e; omega) HB.out.size)), Lib.hid ⟨plF_len _ _, HO1.out⟩, HKP1, HKQ1⟩; (focus omega); (focus go_num))
              | (simp [intOf]; done)
              | (simp [intOf]; omega)
          · obtain rfl : k = n := by omega
            have hb := HB.out
            go_wp2_with fail
            go_ret
            exact ⟨B, q, rfl, by rw [HPL.out]; exact OwP.lower HO.out (by omega), hb⟩

end Go.Proofs.Ytpgjllpiefpjjaa.WalkPl
