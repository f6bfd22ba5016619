/- The height and the clutter at a point of a terrain: the reference's and the program's. -/
import Derived.Test.YtgondkjephojjabWalkY
import Derived.Test.YtgondkjephojjabPlainH
namespace Go.Proofs.Ytgondkjephojjab.WalkH
open Go Go.RowKit Go.Proofs.Ytgondkjephojjab.Base Go.Proofs.Ytgondkjephojjab.Plain Go.Proofs.Ytgondkjephojjab.Words Go.Proofs.Ytgondkjephojjab.Ints Go.Proofs.Ytgondkjephojjab.WalkN Go.Proofs.Ytgondkjephojjab.WalkP Go.Proofs.Ytgondkjephojjab.WalkI Go.Proofs.Ytgondkjephojjab.WalkU Go.Proofs.Ytgondkjephojjab.WalkV Go.Proofs.Ytgondkjephojjab.PlainT Go.Proofs.Ytgondkjephojjab.WalkW Go.Proofs.Ytgondkjephojjab.WalkY Go.Proofs.Ytgondkjephojjab.PlainH
set_option linter.unusedVariables false
set_option linter.unusedSimpArgs false

theorem specMin (a b : Int) (w : World) : Calls Try.prog 76 #[.int .i64 a, .int .i64 b] w fun e w' => e = .returned (.int .i64 (minI a b)) ∧ w = w' := by
  by_cases h : a < b
  · have H : Hid (minI a b = a) := Lib.hid (by unfold minI; rw [if_pos h])
    go_enter Try.func76, Try.ntmps76
    go_wp2
    go_ret
    exact ⟨ret_int H.out.symm, rfl⟩
  · have H : Hid (minI a b = b) := Lib.hid (by unfold minI; rw [if_neg h])
    go_enter Try.func76, Try.ntmps76
    go_wp2
    go_ret
    exact ⟨ret_int H.out.symm, rfl⟩
theorem has_yes {s wd ht x y : Int} (h : hasB s wd ht x y = true) : (0 ≤ x ∧ x ≤ (wd - 1) * s) ∧ (0 ≤ y ∧ y ≤ (ht - 1) * s) := by
  unfold hasB at h
  rw [Bool.and_eq_true] at h
  exact ⟨inB_yes h.1, inB_yes h.2⟩
theorem quo_eq {a b : Int} (ha : 0 ≤ a) (hb : 1 ≤ b) (hm : a ≤ 1000000000000000000) : IntKind.i64.wrap (a.tdiv b) = a / b := by
  rw [Int.tdiv_eq_ediv_of_nonneg ha]
  have h1 : 0 ≤ a / b := Int.ediv_nonneg ha (by omega)
  have h2 : a / b ≤ a := Int.ediv_le_self _ ha
  exact IntWalk.i64_in _ (by omega)

set_option maxHeartbeats 2000000 in
theorem specClu (s wd ht : Int) (B : Option Addr) (m d : Nat) (cs : List Int) (v3 : Value) (x y : Int) (g : Nat) (w : World) (rb : Rd w B m cs) (hz : sizeB s wd ht = true) (hp : hasB s wd ht x y = true) (hm : (m : Int) = wd * ht)
    (t0 : w.cell? ⟨g, 0, none⟩ = some (.int .i64 s)) (t1 : w.cell? ⟨g, 1, none⟩ = some (.int .i64 wd)) (t4 : w.cell? ⟨g, 4, none⟩ = some (.slice B m d)) :
    Calls Try.prog 56 #[.pointer (some ⟨g, 0, none⟩), .agg #[.int .i64 x, .int .i64 y]] w fun e w' => e = .returned (.int .i64 (cluF s wd cs x y)) ∧ Below w.heap.size w w' := by
  have b := sizeB_yes hz
  have p := has_yes hp
  have q := size_mul hz
  have bx := near_bd b.1.1 p.1.1 p.1.2
  have by_ := near_bd b.1.1 p.2.1 p.2.2
  have pl := place_bd b.2.1 b.2.2.1 bx by_
  have g0 := World.block_lt_of_cell? _ _ t0
  have e1 : IntKind.i64.wrap (2 * x) = 2 * x := IntWalk.i64_in _ (by omega)
  have e2 : IntKind.i64.wrap (2 * x + s) = 2 * x + s := IntWalk.i64_in _ (by omega)
  have e3 : IntKind.i64.wrap (2 * s) = 2 * s := IntWalk.i64_in _ (by omega)
  have e4 : IntKind.i64.wrap (2 * y) = 2 * y := IntWalk.i64_in _ (by omega)
  have e5 : IntKind.i64.wrap (2 * y + s) = 2 * y + s := IntWalk.i64_in _ (by omega)
  have e6 := quo_eq (a := 2 * x + s) (b := 2 * s) (by omega) (by omega) (by omega)
  have e7 := quo_eq (a := 2 * y + s) (b := 2 * s) (by omega) (by omega) (by omega)
  have HF : Hid (cluF s wd cs x y = cs.getD ((2 * y + s) / (2 * s) * wd + (2 * x + s) / (2 * s)).toNat 0) := Lib.hid rfl
  generalize (2 * x + s) / (2 * s) = X at bx pl e6 HF
  generalize (2 * y + s) / (2 * s) = Y at by_ pl e7 HF
  have e8 : IntKind.i64.wrap (Y * wd) = Y * wd := IntWalk.i64_in _ (by omega)
  have e9 : IntKind.i64.wrap (Y * wd + X) = Y * wd + X := IntWalk.i64_in _ (by omega)
  have n0 : 2 * s ≠ 0 := by omega
  have n1 : (2 * s == 0) = false := by simpa using n0
  have hlt : (Y * wd + X).toNat < m := by omega
  have i1 : Y * wd + X < (m : Int) := by omega
  have i0 : 0 ≤ Y * wd + X := by omega
  obtain ⟨ad, rfl, hc⟩ := rb.at_ hlt
  have hcb := World.block_lt_of_cell? _ _ hc
  clear rb hz hp hlt
  go_enter Try.func56, Try.ntmps56
  go_wp2_with fail
  go_quiet (fail)
  go_wp2_with fail
  go_quiet (fail)
  go_wp2_with fail
  go_quiet (fail)
  clear e1 e2 e3 e4 e5 e6 e7 e8 e9
  go_wp2_with fail
  go_ret
  exact ⟨ret_int HF.out.symm, (by repeat (first | with_reducible exact Below.refl _ _ | with_reducible assumption | (with_reducible refine Below.drew ?_) | (with_reducible refine below_drewN ?_ _) | ((with_reducible refine Below.alloc ?_ ?_ _); rotate_left; (focus first | exact Nat.le_refl _ | omega | (simp; done) | (simp; omega))) | ((with_reducible refine Below.setCell ?_ ?_ _); rotate_left; (focus first | exact Nat.le_refl _ | omega | (simp; done) | (simp; omega))) | ((with_reducible refine below_via (W := ?_) ?_ ?_ ?_); rotate_left; (with_reducible assumption); rotate_left; (focus first | exact Nat.le_refl _ | omega | (simp; done) | (simp; omega)))))⟩

set_option maxHeartbeats 2000000 in
theorem implClu (s wd ht x y : Int) (A B : Option Addr) (n c m d : Nat) (cs : List Int) (w : World) (rb : Rd w B m cs) (hz : sizeB s wd ht = true) (hp : hasB s wd ht x y = true) (hm : (m : Int) = wd * ht) :
    Calls Try.prog 60 #[.agg #[.int .i64 s, .int .i64 wd, .int .i64 ht, .slice A n c, .slice B m d], .agg #[.int .i64 x, .int .i64 y]] w fun e w' => e = .returned (.int .i64 (cluF s wd cs x y)) ∧ Below w.heap.size w w' := by
  have b := sizeB_yes hz
  have p := has_yes hp
  have q := size_mul hz
  have bx := near_bd b.1.1 p.1.1 p.1.2
  have by_ := near_bd b.1.1 p.2.1 p.2.2
  have pl := place_bd b.2.1 b.2.2.1 bx by_
  have e1 : IntKind.i64.wrap (2 * x) = 2 * x := IntWalk.i64_in _ (by omega)
  have e2 : IntKind.i64.wrap (2 * x + s) = 2 * x + s := IntWalk.i64_in _ (by omega)
  have e3 : IntKind.i64.wrap (2 * s) = 2 * s := IntWalk.i64_in _ (by omega)
  have e4 : IntKind.i64.wrap (2 * y) = 2 * y := IntWalk.i64_in _ (by omega)
  have e5 : IntKind.i64.wrap (2 * y + s) = 2 * y + s := IntWalk.i64_in _ (by omega)
  have e6 := quo_eq (a := 2 * x + s) (b := 2 * s) (by omega) (by omega) (by omega)
  have e7 := quo_eq (a := 2 * y + s) (b := 2 * s) (by omega) (by omega) (by omega)
  have HF : Hid (cluF s wd cs x y = cs.getD ((2 * y + s) / (2 * s) * wd + (2 * x + s) / (2 * s)).toNat 0) := Lib.hid rfl
  generalize (2 * x + s) / (2 * s) = X at bx pl e6 HF
  generalize (2 * y + s) / (2 * s) = Y at by_ pl e7 HF
  have e8 : IntKind.i64.wrap (Y * wd) = Y * wd := IntWalk.i64_in _ (by omega)
  have e9 : IntKind.i64.wrap (Y * wd + X) = Y * wd + X := IntWalk.i64_in _ (by omega)
  have n1 : (2 * s == 0) = false := by simp; omega
  have hlt : (Y * wd + X).toNat < m := by omega
  have i1 : Y * wd + X < (m : Int) := by omega
  have i0 : 0 ≤ Y * wd + X := by omega
  obtain ⟨ad, rfl, hc⟩ := rb.at_ hlt
  have hcb := World.block_lt_of_cell? _ _ hc
  have hcb' : (ad.add (Y * wd + X).toNat).block < w.heap.size + 1 := by omega
  clear rb hz hp hlt
  go_enter Try.func60, Try.ntmps60
  go_wp2_with fail
  go_quiet (fail)
  clear e1 e2 e3 e4 e5 e6 e7
  go_wp2_with fail
  go_ret
  exact ⟨ret_int HF.out.symm, (by repeat (first | with_reducible exact Below.refl _ _ | with_reducible assumption | (with_reducible refine Below.drew ?_) | (with_reducible refine below_drewN ?_ _) | ((with_reducible refine Below.alloc ?_ ?_ _); rotate_left; (focus first | exact Nat.le_refl _ | omega | (simp; done) | (simp; omega))) | ((with_reducible refine Below.setCell ?_ ?_ _); rotate_left; (focus first | exact Nat.le_refl _ | omega | (simp; done) | (simp; omega))) | ((with_reducible refine below_via (W := ?_) ?_ ?_ ?_); rotate_left; (with_reducible assumption); rotate_left; (focus first | exact Nat.le_refl _ | omega | (simp; done) | (simp; omega)))))⟩

/-- what ClutterAt gives -/
def cluR (s wd ht : Int) (n m : Nat) (hs cs : List Int) (x y : Int) : Int × Int :=
  bif terB s wd ht n m hs cs then (bif hasB s wd ht x y then (cluF s wd cs x y, 0) else (0, 2)) else (0, 1)
def cluV (s wd ht : Int) (n m : Nat) (hs cs : List Int) (x y : Int) : Value := .tuple #[.int .i64 (cluR s wd ht n m hs cs x y).1, .int .i64 (cluR s wd ht n m hs cs x y).2]
theorem cluV_eq {s wd ht : Int} {n m : Nat} {hs cs : List Int} {x y a c : Int} (h : cluR s wd ht n m hs cs x y = (a, c)) : cluV s wd ht n m hs cs x y = .tuple #[.int .i64 a, .int .i64 c] := by unfold cluV; rw [h]

theorem specCluAll (s wd ht : Int) (A B : Option Addr) (n c m d : Nat) (hs cs : List Int) (x y : Int) (w : World) (ra : Rd w A n hs) (rb : Rd w B m cs) (hn : n ≤ maxLen) (hm : m ≤ maxLen) :
    Calls Try.prog 24 #[.agg #[.int .i64 s, .int .i64 wd, .int .i64 ht, .slice A n c, .slice B m d], .agg #[.int .i64 x, .int .i64 y]] w fun e w' => e = .returned (cluV s wd ht n m hs cs x y) ∧ Below w.heap.size w w' := by
  have A1 := Lib.hid (specTer s wd ht A B n c m d hs cs w.heap.size ((w.alloc (.cells #[.int .i64 s, .int .i64 wd, .int .i64 ht, .slice A n c, .slice B m d] 34)).alloc (.cells #[.int .i64 x, .int .i64 y] 27)) ((ra.alloc _).alloc _) ((rb.alloc _).alloc _) hn hm (by (((try dsimp only); (repeat' apply And.intro) <;> (repeat (first | with_reducible assumption | (with_reducible refine keep_drew ?_) | (with_reducible refine keep_drewN ?_) | ((with_reducible refine keep_new _ _ _ _ _ _ ?_ ?_) <;> (first | rfl | (simp; done) | omega)) | (with_reducible refine keep_alloc _ ?_) | ((with_reducible refine keep_set _ ?_ ?_); (focus first | omega | (simp; done) | (simp; omega))) | ((with_reducible refine keep_set' _ ?_ ?_); (focus first | omega | (simp; done))) | ((with_reducible refine keep_same (u := ?_) _ ?_); rotate_left) | ((with_reducible refine keep_below (w := ?_) ?_ ?_); rotate_left; (with_reducible assumption))))))) (by (((try dsimp only); (repeat' apply And.intro) <;> (repeat (first | with_reducible assumption | (with_reducible refine keep_drew ?_) | (with_reducible refine keep_drewN ?_) | ((with_reducible refine keep_new _ _ _ _ _ _ ?_ ?_) <;> (first | rfl | (simp; done) | omega)) | (with_reducible refine keep_alloc _ ?_) | ((with_reducible refine keep_set _ ?_ ?_); (focus first | omega | (simp; done) | (simp; omega))) | ((with_reducible refine keep_set' _ ?_ ?_); (focus first | omega | (simp; done))) | ((with_reducible refine keep_same (u := ?_) _ ?_); rotate_left) | ((with_reducible refine keep_below (w := ?_) ?_ ?_); rotate_left; (with_reducible assumption))))))) (by (((try dsimp only); (repeat' apply And.intro) <;> (repeat (first | with_reducible assumption | (with_reducible refine keep_drew ?_) | (with_reducible refine keep_drewN ?_) | ((with_reducible refine keep_new _ _ _ _ _ _ ?_ ?_) <;> (first | rfl | (simp; done) | omega)) | (with_reducible refine keep_alloc _ ?_) | ((with_reducible refine keep_set _ ?_ ?_); (focus first | omega | (simp; done) | (simp; omega))) | ((with_reducible refine keep_set' _ ?_ ?_); (focus first | omega | (simp; done))) | ((with_reducible refine keep_same (u := ?_) _ ?_); rotate_left) | ((with_reducible refine keep_below (w := ?_) ?_ ?_); rotate_left; (with_reducible assumption))))))) (by (((try dsimp only); (repeat' apply And.intro) <;> (repeat (first | with_reducible assumption | (with_reducible refine keep_drew ?_) | (with_reducible refine keep_drewN ?_) | ((with_reducible refine keep_new _ _ _ _ _ _ ?_ ?_) <;> (first | rfl | (simp; done) | omega)) | (with_reducible refine keep_alloc _ ?_) | ((with_reducible refine keep_set _ ?_ ?_); (focus first | omega | (simp; done) | (simp; omega))) | ((with_reducible refine keep_set' _ ?_ ?_); (focus first | omega | (simp; done))) | ((with_reducible refine keep_same (u := ?_) _ ?_); rotate_left) | ((with_reducible refine keep_below (w := ?_) ?_ ?_); rotate_left; (with_reducible assumption))))))) (by (((try dsimp only); (repeat' apply And.intro) <;> (repeat (first | with_reducible assumption | (with_reducible refine keep_drew ?_) | (with_reducible refine keep_drewN ?_) | ((with_reducible refine keep_new _ _ _ _ _ _ ?_ ?_) <;> (first | rfl | (simp; done) | omega)) | (with_reducible refine keep_alloc _ ?_) | ((with_reducible refine keep_set _ ?_ ?_); (focus first | omega | (simp; done) | (simp; omega))) | ((with_reducible refine keep_set' _ ?_ ?_); (focus first | omega | (simp; done))) | ((with_reducible refine keep_same (u := ?_) _ ?_); rotate_left) | ((with_reducible refine keep_below (w := ?_) ?_ ?_); rotate_left; (with_reducible assumption))))))))
  cases hT : terB s wd ht n m hs cs
  · have HF := Lib.hid (cluV_eq (show cluR s wd ht n m hs cs x y = (0, 1) by unfold cluR; rw [hT]; rfl))
    rw [hT] at A1
    clear hT ra rb
    go_enter Try.func24, Try.ntmps24
    go_wp2_with (go_at_call 54; refine A1.out.mono ?_; rintro e w' ⟨rfl, k, rfl⟩)
    go_ret2
    exact ⟨by rw [HF.out]; rfl, (by repeat (first | with_reducible exact Below.refl _ _ | with_reducible assumption | (with_reducible refine Below.drew ?_) | (with_reducible refine below_drewN ?_ _) | ((with_reducible refine Below.alloc ?_ ?_ _); rotate_left; (focus first | exact Nat.le_refl _ | omega | (simp; done) | (simp; omega))) | ((with_reducible refine Below.setCell ?_ ?_ _); rotate_left; (focus first | exact Nat.le_refl _ | omega | (simp; done) | (simp; omega))) | ((with_reducible refine below_via (W := ?_) ?_ ?_ ?_); rotate_left; (with_reducible assumption); rotate_left; (focus first | exact Nat.le_refl _ | omega | (simp; done) | (simp; omega)))))⟩
  · have ty := ter_yes hT
    have H1 := Lib.hid (fun W => specHas s wd ht x y undef undef w.heap.size W ty.1)
    cases hP : hasB s wd ht x y
    · have HF := Lib.hid (cluV_eq (show cluR s wd ht n m hs cs x y = (0, 2) by unfold cluR; rw [hT, hP]; rfl))
      rw [hT] at A1
      rw [hP] at H1
      clear hT hP ra rb ty
      go_enter Try.func24, Try.ntmps24
      go_wp2_with (first | (go_at_call 54; refine A1.out.mono ?_; rintro e w' ⟨rfl, k, rfl⟩) | (go_at_call 55; refine (H1.out _ (by (((try dsimp only); (repeat' apply And.intro) <;> (repeat (first | with_reducible assumption | (with_reducible refine keep_drew ?_) | (with_reducible refine keep_drewN ?_) | ((with_reducible refine keep_new _ _ _ _ _ _ ?_ ?_) <;> (first | rfl | (simp; done) | omega)) | (with_reducible refine keep_alloc _ ?_) | ((with_reducible refine keep_set _ ?_ ?_); (focus first | omega | (simp; done) | (simp; omega))) | ((with_reducible refine keep_set' _ ?_ ?_); (focus first | omega | (simp; done))) | ((with_reducible refine keep_same (u := ?_) _ ?_); rotate_left) | ((with_reducible refine keep_below (w := ?_) ?_ ?_); rotate_left; (with_reducible assumption))))))) (by (((try dsimp only); (repeat' apply And.intro) <;> (repeat (first | with_reducible assumption | (with_reducible refine keep_drew ?_) | (with_reducible refine keep_drewN ?_) | ((with_reducible refine keep_new _ _ _ _ _ _ ?_ ?_) <;> (first | rfl | (simp; done) | omega)) | (with_reducible refine keep_alloc _ ?_) | ((with_reducible refine keep_set _ ?_ ?_); (focus first | omega | (simp; done) | (simp; omega))) | ((with_reducible refine keep_set' _ ?_ ?_); (focus first | omega | (simp; done))) | ((with_reducible refine keep_same (u := ?_) _ ?_); rotate_left) | ((with_reducible refine keep_below (w := ?_) ?_ ?_); rotate_left; (with_reducible assumption))))))) (by (((try dsimp only); (repeat' apply And.intro) <;> (repeat (first | with_reducible assumption | (with_reducible refine keep_drew ?_) | (with_reducible refine keep_drewN ?_) | ((with_reducible refine keep_new _ _ _ _ _ _ ?_ ?_) <;> (first | rfl | (simp; done) | omega)) | (with_reducible refine keep_alloc _ ?_) | ((with_reducible refine keep_set _ ?_ ?_); (focus first | omega | (simp; done) | (simp; omega))) | ((with_reducible refine keep_set' _ ?_ ?_); (focus first | omega | (simp; done))) | ((with_reducible refine keep_same (u := ?_) _ ?_); rotate_left) | ((with_reducible refine keep_below (w := ?_) ?_ ?_); rotate_left; (with_reducible assumption)))))))).mono ?_; rintro e w1 ⟨rfl, hb1⟩))
      go_ret2
      exact ⟨by rw [HF.out]; rfl, (by repeat (first | with_reducible exact Below.refl _ _ | with_reducible assumption | (with_reducible refine Below.drew ?_) | (with_reducible refine below_drewN ?_ _) | ((with_reducible refine Below.alloc ?_ ?_ _); rotate_left; (focus first | exact Nat.le_refl _ | omega | (simp; done) | (simp; omega))) | ((with_reducible refine Below.setCell ?_ ?_ _); rotate_left; (focus first | exact Nat.le_refl _ | omega | (simp; done) | (simp; omega))) | ((with_reducible refine below_via (W := ?_) ?_ ?_ ?_); rotate_left; (with_reducible assumption); rotate_left; (focus first | exact Nat.le_refl _ | omega | (simp; done) | (simp; omega)))))⟩
    · have HF := Lib.hid (cluV_eq (show cluR s wd ht n m hs cs x y = (cluF s wd cs x y, 0) by unfold cluR; rw [hT, hP]; rfl))
      have C1 := Lib.hid (fun W (hb : Below w.heap.size w W) => specClu s wd ht B m d cs undef x y w.heap.size W (Rd.below hb rb) ty.1 hP (by rw [ty.2.2.1]; exact ty.2.1))
      rw [hT] at A1
      rw [hP] at H1
      clear hT hP ra rb ty
      go_enter Try.func24, Try.ntmps24
      go_wp2_with (go_at_call 54; refine A1.out.mono ?_; rintro e w' ⟨rfl, k, rfl⟩)
      refine (H1.out _ (by (((try dsimp only); (repeat' apply And.intro) <;> (repeat (first | with_reducible assumption | (with_reducible refine keep_drew ?_) | (with_reducible refine keep_drewN ?_) | ((with_reducible refine keep_new _ _ _ _ _ _ ?_ ?_) <;> (first | rfl | (simp; done) | omega)) | (with_reducible refine keep_alloc _ ?_) | ((with_reducible refine keep_set _ ?_ ?_); (focus first | omega | (simp; done) | (simp; omega))) | ((with_reducible refine keep_set' _ ?_ ?_); (focus first | omega | (simp; done))) | ((with_reducible refine keep_same (u := ?_) _ ?_); rotate_left) | ((with_reducible refine keep_below (w := ?_) ?_ ?_); rotate_left; (with_reducible assumption))))))) (by (((try dsimp only); (repeat' apply And.intro) <;> (repeat (first | with_reducible assumption | (with_reducible refine keep_drew ?_) | (with_reducible refine keep_drewN ?_) | ((with_reducible refine keep_new _ _ _ _ _ _ ?_ ?_) <;> (first | rfl | (simp; done) | omega)) | (with_reducible refine keep_alloc _ ?_) | ((with_reducible refine keep_set _ ?_ ?_); (focus first | omega | (simp; done) | (simp; omega))) | ((with_reducible refine keep_set' _ ?_ ?_); (focus first | omega | (simp; done))) | ((with_reducible refine keep_same (u := ?_) _ ?_); rotate_left) | ((with_reducible refine keep_below (w := ?_) ?_ ?_); rotate_left; (with_reducible assumption))))))) (by (((try dsimp only); (repeat' apply And.intro) <;> (repeat (first | with_reducible assumption | (with_reducible refine keep_drew ?_) | (with_reducible refine keep_drewN ?_) | ((with_reducible refine keep_new _ _ _ _ _ _ ?_ ?_) <;> (first | rfl | (simp; done) | omega)) | (with_reducible refine keep_alloc _ ?_) | ((with_reducible refine keep_set _ ?_ ?_); (focus first | omega | (simp; done) | (simp; omega))) | ((with_reducible refine keep_set' _ ?_ ?_); (focus first | omega | (simp; done))) | ((with_reducible refine keep_same (u := ?_) _ ?_); rotate_left) | ((with_reducible refine keep_below (w := ?_) ?_ ?_); rotate_left; (with_reducible assumption)))))))).mono ?_
      rintro e w1 ⟨rfl, hb1⟩
      obtain ⟨hc1, hf1⟩ := bcell hb1
      have s1 := hb1.size
      simp at s1
      have z0 : w.heap.size < w1.heap.size := by omega
      have z1 : w.heap.size + 1 < w1.heap.size := by omega
      go_wp2_with fail
      refine (C1.out _ (by repeat (first | with_reducible exact Below.refl _ _ | with_reducible assumption | (with_reducible refine Below.drew ?_) | (with_reducible refine below_drewN ?_ _) | ((with_reducible refine Below.alloc ?_ ?_ _); rotate_left; (focus first | exact Nat.le_refl _ | omega | (simp; done) | (simp; omega))) | ((with_reducible refine Below.setCell ?_ ?_ _); rotate_left; (focus first | exact Nat.le_refl _ | omega | (simp; done) | (simp; omega))) | ((with_reducible refine below_via (W := ?_) ?_ ?_ ?_); rotate_left; (with_reducible assumption); rotate_left; (focus first | exact Nat.le_refl _ | omega | (simp; done) | (simp; omega))))) (by (((try dsimp only); (repeat' apply And.intro) <;> (repeat (first | with_reducible assumption | (with_reducible refine keep_drew ?_) | (with_reducible refine keep_drewN ?_) | ((with_reducible refine keep_new _ _ _ _ _ _ ?_ ?_) <;> (first | rfl | (simp; done) | omega)) | (with_reducible refine keep_alloc _ ?_) | ((with_reducible refine keep_set _ ?_ ?_); (focus first | omega | (simp; done) | (simp; omega))) | ((with_reducible refine keep_set' _ ?_ ?_); (focus first | omega | (simp; done))) | ((with_reducible refine keep_same (u := ?_) _ ?_); rotate_left) | ((with_reducible refine keep_below (w := ?_) ?_ ?_); rotate_left; (with_reducible assumption))))))) (by (((try dsimp only); (repeat' apply And.intro) <;> (repeat (first | with_reducible assumption | (with_reducible refine keep_drew ?_) | (with_reducible refine keep_drewN ?_) | ((with_reducible refine keep_new _ _ _ _ _ _ ?_ ?_) <;> (first | rfl | (simp; done) | omega)) | (with_reducible refine keep_alloc _ ?_) | ((with_reducible refine keep_set _ ?_ ?_); (focus first | omega | (simp; done) | (simp; omega))) | ((with_reducible refine keep_set' _ ?_ ?_); (focus first | omega | (simp; done))) | ((with_reducible refine keep_same (u := ?_) _ ?_); rotate_left) | ((with_reducible refine keep_below (w := ?_) ?_ ?_); rotate_left; (with_reducible assumption))))))) (by (((try dsimp only); (repeat' apply And.intro) <;> (repeat (first | with_reducible assumption | (with_reducible refine keep_drew ?_) | (with_reducible refine keep_drewN ?_) | ((with_reducible refine keep_new _ _ _ _ _ _ ?_ ?_) <;> (first | rfl | (simp; done) | omega)) | (with_reducible refine keep_alloc _ ?_) | ((with_reducible refine keep_set _ ?_ ?_); (focus first | omega | (simp; done) | (simp; omega))) | ((with_reducible refine keep_set' _ ?_ ?_); (focus first | omega | (simp; done))) | ((with_reducible refine keep_same (u := ?_) _ ?_); rotate_left) | ((with_reducible refine keep_below (w := ?_) ?_ ?_); rotate_left; (with_reducible assumption)))))))).mono ?_
      rintro e w2 ⟨rfl, hb2⟩
      go_wp2_with fail
      go_ret2
      exact ⟨by rw [HF.out]; rfl, (by repeat (first | with_reducible exact Below.refl _ _ | with_reducible assumption | (with_reducible refine Below.drew ?_) | (with_reducible refine below_drewN ?_ _) | ((with_reducible refine Below.alloc ?_ ?_ _); rotate_left; (focus first | exact Nat.le_refl _ | omega | (simp; done) | (simp; omega))) | ((with_reducible refine Below.setCell ?_ ?_ _); rotate_left; (focus first | exact Nat.le_refl _ | omega | (simp; done) | (simp; omega))) | ((with_reducible refine below_via (W := ?_) ?_ ?_ ?_); rotate_left; (with_reducible assumption); rotate_left; (focus first | exact Nat.le_refl _ | omega | (simp; done) | (simp; omega)))))⟩

theorem implCluAll (s wd ht : Int) (A B : Option Addr) (n c m d : Nat) (hs cs : List Int) (x y : Int) (w : World) (ra : Rd w A n hs) (rb : Rd w B m cs) (hn : n ≤ maxLen) (hm : m ≤ maxLen) :
    Calls Try.prog 26 #[.agg #[.int .i64 s, .int .i64 wd, .int .i64 ht, .slice A n c, .slice B m d], .agg #[.int .i64 x, .int .i64 y]] w fun e w' => e = .returned (cluV s wd ht n m hs cs x y) ∧ Below w.heap.size w w' := by
  have A1 := Lib.hid (fun W (hb : Below w.heap.size w W) => implTer s wd ht A B n c m d hs cs W (Rd.below hb ra) (Rd.below hb rb) hn hm)
  cases hT : terB s wd ht n m hs cs
  · have HF := Lib.hid (cluV_eq (show cluR s wd ht n m hs cs x y = (0, 1) by unfold cluR; rw [hT]; rfl))
    rw [hT] at A1
    clear hT ra rb
    go_enter Try.func26, Try.ntmps26
    go_wp2_with (go_at_call 58; refine (A1.out _ (by repeat (first | with_reducible exact Below.refl _ _ | with_reducible assumption | (with_reducible refine Below.drew ?_) | (with_reducible refine below_drewN ?_ _) | ((with_reducible refine Below.alloc ?_ ?_ _); rotate_left; (focus first | exact Nat.le_refl _ | omega | (simp; done) | (simp; omega))) | ((with_reducible refine Below.setCell ?_ ?_ _); rotate_left; (focus first | exact Nat.le_refl _ | omega | (simp; done) | (simp; omega))) | ((with_reducible refine below_via (W := ?_) ?_ ?_ ?_); rotate_left; (with_reducible assumption); rotate_left; (focus first | exact Nat.le_refl _ | omega | (simp; done) | (simp; omega)))))).mono ?_; rintro e w1 ⟨rfl, hb1⟩)
    go_ret2
    exact ⟨by rw [HF.out]; rfl, (by repeat (first | with_reducible exact Below.refl _ _ | with_reducible assumption | (with_reducible refine Below.drew ?_) | (with_reducible refine below_drewN ?_ _) | ((with_reducible refine Below.alloc ?_ ?_ _); rotate_left; (focus first | exact Nat.le_refl _ | omega | (simp; done) | (simp; omega))) | ((with_reducible refine Below.setCell ?_ ?_ _); rotate_left; (focus first | exact Nat.le_refl _ | omega | (simp; done) | (simp; omega))) | ((with_reducible refine below_via (W := ?_) ?_ ?_ ?_); rotate_left; (with_reducible assumption); rotate_left; (focus first | exact Nat.le_refl _ | omega | (simp; done) | (simp; omega)))))⟩
  · have ty := ter_yes hT
    have H1 := Lib.hid (fun A B n c m d W => implHas s wd ht x y A B n c m d W ty.1)
    cases hP : hasB s wd ht x y
    · have HF := Lib.hid (cluV_eq (show cluR s wd ht n m hs cs x y = (0, 2) by unfold cluR; rw [hT, hP]; rfl))
      rw [hT] at A1
      rw [hP] at H1
      clear hT hP ra rb ty
      go_enter Try.func26, Try.ntmps26
      go_wp2_with fail
      refine (A1.out _ (by repeat (first | with_reducible exact Below.refl _ _ | with_reducible assumption | (with_reducible refine Below.drew ?_) | (with_reducible refine below_drewN ?_ _) | ((with_reducible refine Below.alloc ?_ ?_ _); rotate_left; (focus first | exact Nat.le_refl _ | omega | (simp; done) | (simp; omega))) | ((with_reducible refine Below.setCell ?_ ?_ _); rotate_left; (focus first | exact Nat.le_refl _ | omega | (simp; done) | (simp; omega))) | ((with_reducible refine below_via (W := ?_) ?_ ?_ ?_); rotate_left; (with_reducible assumption); rotate_left; (focus first | exact Nat.le_refl _ | omega | (simp; done) | (simp; omega)))))).mono ?_
      rintro e w1 ⟨rfl, hb1⟩
      obtain ⟨hc1, hf1⟩ := bcell hb1
      have s1 := hb1.size
      simp at s1
      have z0 : w.heap.size < w1.heap.size := by omega
      have z1 : w.heap.size + 1 < w1.heap.size := by omega
      go_wp2_with fail
      refine (H1.out _ _ _ _ _ _ _).mono ?_
      rintro e w2 ⟨rfl, hb2⟩
      go_wp2_with fail
      go_ret2
      exact ⟨by rw [HF.out]; rfl, (by repeat (first | with_reducible exact Below.refl _ _ | with_reducible assumption | (with_reducible refine Below.drew ?_) | (with_reducible refine below_drewN ?_ _) | ((with_reducible refine Below.alloc ?_ ?_ _); rotate_left; (focus first | exact Nat.le_refl _ | omega | (simp; done) | (simp; omega))) | ((with_reducible refine Below.setCell ?_ ?_ _); rotate_left; (focus first | exact Nat.le_refl _ | omega | (simp; done) | (simp; omega))) | ((with_reducible refine below_via (W := ?_) ?_ ?_ ?_); rotate_left; (with_reducible assumption); rotate_left; (focus first | exact Nat.le_refl _ | omega | (simp; done) | (simp; omega)))))⟩
    · have HF := Lib.hid (cluV_eq (show cluR s wd ht n m hs cs x y = (cluF s wd cs x y, 0) by unfold cluR; rw [hT, hP]; rfl))
      have C1 := Lib.hid (fun W (hb : Below w.heap.size w W) => implClu s wd ht x y A B n c m d cs W (Rd.below hb rb) ty.1 hP (by rw [ty.2.2.1]; exact ty.2.1))
      rw [hT] at A1
      rw [hP] at H1
      clear hT hP ra rb ty
      go_enter Try.func26, Try.ntmps26
      go_wp2_with fail
      refine (A1.out _ (by repeat (first | with_reducible exact Below.refl _ _ | with_reducible assumption | (with_reducible refine Below.drew ?_) | (with_reducible refine below_drewN ?_ _) | ((with_reducible refine Below.alloc ?_ ?_ _); rotate_left; (focus first | exact Nat.le_refl _ | omega | (simp; done) | (simp; omega))) | ((with_reducible refine Below.setCell ?_ ?_ _); rotate_left; (focus first | exact Nat.le_refl _ | omega | (simp; done) | (simp; omega))) | ((with_reducible refine below_via (W := ?_) ?_ ?_ ?_); rotate_left; (with_reducible assumption); rotate_left; (focus first | exact Nat.le_refl _ | omega | (simp; done) | (simp; omega)))))).mono ?_
      rintro e w1 ⟨rfl, hb1⟩
      have s1 := hb1.size
      simp at s1
      have t : (w1.cell? ⟨w.heap.size, 0, none⟩ = some (.int .i64 s) ∧ w1.cell? ⟨w.heap.size, 1, none⟩ = some (.int .i64 wd) ∧ w1.cell? ⟨w.heap.size, 2, none⟩ = some (.int .i64 ht) ∧ w1.cell? ⟨w.heap.size, 3, none⟩ = some (.slice A n c) ∧ w1.cell? ⟨w.heap.size, 4, none⟩ = some (.slice B m d) ∧ w1.cell? ⟨w.heap.size + 1, 0, none⟩ = some (.int .i64 x) ∧ w1.cell? ⟨w.heap.size + 1, 1, none⟩ = some (.int .i64 y)) := by (((try dsimp only); (repeat' apply And.intro) <;> (repeat (first | with_reducible assumption | (with_reducible refine keep_drew ?_) | (with_reducible refine keep_drewN ?_) | ((with_reducible refine keep_new _ _ _ _ _ _ ?_ ?_) <;> (first | rfl | (simp; done) | omega)) | (with_reducible refine keep_alloc _ ?_) | ((with_reducible refine keep_set _ ?_ ?_); (focus first | omega | (simp; done) | (simp; omega))) | ((with_reducible refine keep_set' _ ?_ ?_); (focus first | omega | (simp; done))) | ((with_reducible refine keep_same (u := ?_) _ ?_); rotate_left) | ((with_reducible refine keep_below (w := ?_) ?_ ?_); rotate_left; (with_reducible assumption))))))
      have B1 : Below w.heap.size w w1 := (by repeat (first | with_reducible exact Below.refl _ _ | with_reducible assumption | (with_reducible refine Below.drew ?_) | (with_reducible refine below_drewN ?_ _) | ((with_reducible refine Below.alloc ?_ ?_ _); rotate_left; (focus first | exact Nat.le_refl _ | omega | (simp; done) | (simp; omega))) | ((with_reducible refine Below.setCell ?_ ?_ _); rotate_left; (focus first | exact Nat.le_refl _ | omega | (simp; done) | (simp; omega))) | ((with_reducible refine below_via (W := ?_) ?_ ?_ ?_); rotate_left; (with_reducible assumption); rotate_left; (focus first | exact Nat.le_refl _ | omega | (simp; done) | (simp; omega)))))
      clear hb1
      obtain ⟨t0, t1, t2, t3, t4, t5, t6⟩ := t
      go_wp2_with fail
      refine (H1.out _ _ _ _ _ _ _).mono ?_
      rintro e w2 ⟨rfl, hb2⟩
      have s2 := hb2.size
      have t : (w2.cell? ⟨w.heap.size, 0, none⟩ = some (.int .i64 s) ∧ w2.cell? ⟨w.heap.size, 1, none⟩ = some (.int .i64 wd) ∧ w2.cell? ⟨w.heap.size, 2, none⟩ = some (.int .i64 ht) ∧ w2.cell? ⟨w.heap.size, 3, none⟩ = some (.slice A n c) ∧ w2.cell? ⟨w.heap.size, 4, none⟩ = some (.slice B m d) ∧ w2.cell? ⟨w.heap.size + 1, 0, none⟩ = some (.int .i64 x) ∧ w2.cell? ⟨w.heap.size + 1, 1, none⟩ = some (.int .i64 y)) := by (((try dsimp only); (repeat' apply And.intro) <;> (repeat (first | with_reducible assumption | (with_reducible refine keep_drew ?_) | (with_reducible refine keep_drewN ?_) | ((with_reducible refine keep_new _ _ _ _ _ _ ?_ ?_) <;> (first | rfl | (simp; done) | omega)) | (with_reducible refine keep_alloc _ ?_) | ((with_reducible refine keep_set _ ?_ ?_); (focus first | omega | (simp; done) | (simp; omega))) | ((with_reducible refine keep_set' _ ?_ ?_); (focus first | omega | (simp; done))) | ((with_reducible refine keep_same (u := ?_) _ ?_); rotate_left) | ((with_reducible refine keep_below (w := ?_) ?_ ?_); rotate_left; (with_reducible assumption))))))
      have B2 : Below w.heap.size w w2 := (by repeat (first | with_reducible exact Below.refl _ _ | with_reducible assumption | (with_reducible refine Below.drew ?_) | (with_reducible refine below_drewN ?_ _) | ((with_reducible refine Below.alloc ?_ ?_ _); rotate_left; (focus first | exact Nat.le_refl _ | omega | (simp; done) | (simp; omega))) | ((with_reducible refine Below.setCell ?_ ?_ _); rotate_left; (focus first | exact Nat.le_refl _ | omega | (simp; done) | (simp; omega))) | ((with_reducible refine below_via (W := ?_) ?_ ?_ ?_); rotate_left; (with_reducible assumption); rotate_left; (focus first | exact Nat.le_refl _ | omega | (simp; done) | (simp; omega)))))
      clear hb2 t0 t1 t2 t3 t4 t5 t6
      obtain ⟨t0, t1, t2, t3, t4, t5, t6⟩ := t
      go_wp2_with fail
      refine (C1.out _ B2).mono ?_
      rintro e w3 ⟨rfl, hb3⟩
      go_wp2_with fail
      go_ret2
      exact ⟨by rw [HF.out]; rfl, (by repeat (first | with_reducible exact Below.refl _ _ | with_reducible assumption | (with_reducible refine Below.drew ?_) | (with_reducible refine below_drewN ?_ _) | ((with_reducible refine Below.alloc ?_ ?_ _); rotate_left; (focus first | exact Nat.le_refl _ | omega | (simp; done) | (simp; omega))) | ((with_reducible refine Below.setCell ?_ ?_ _); rotate_left; (focus first | exact Nat.le_refl _ | omega | (simp; done) | (simp; omega))) | ((with_reducible refine below_via (W := ?_) ?_ ?_ ?_); rotate_left; (with_reducible assumption); rotate_left; (focus first | exact Nat.le_refl _ | omega | (simp; done) | (simp; omega)))))⟩

end Go.Proofs.Ytgondkjephojjab.WalkH
