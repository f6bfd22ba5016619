/- Profiles of a terrain: plainly; the reference's question. -/
import Derived.Test.YtpgjllpiefpjjaaWalkPn
import Derived.Test.YtpgjllpiefpjjaaWalkH
import Derived.Test.YtpgjllpiefpjjaaWalkHH
import Derived.Test.YtpgjllpiefpjjaaWalkSI0
namespace Go.Proofs.Ytpgjllpiefpjjaa.WalkPo
open Go Go.RowKit Go.Proofs.Ytpgjllpiefpjjaa.Base Go.Proofs.Ytpgjllpiefpjjaa.Plain Go.Proofs.Ytpgjllpiefpjjaa.PlainT Go.Proofs.Ytpgjllpiefpjjaa.PlainH Go.Proofs.Ytpgjllpiefpjjaa.Words Go.Proofs.Ytpgjllpiefpjjaa.Ints Go.Proofs.Ytpgjllpiefpjjaa.WalkN Go.Proofs.Ytpgjllpiefpjjaa.WalkP Go.Proofs.Ytpgjllpiefpjjaa.WalkI Go.Proofs.Ytpgjllpiefpjjaa.WalkU Go.Proofs.Ytpgjllpiefpjjaa.WalkW Go.Proofs.Ytpgjllpiefpjjaa.WalkY Go.Proofs.Ytpgjllpiefpjjaa.WalkH Go.Proofs.Ytpgjllpiefpjjaa.WalkHH Go.Proofs.Ytpgjllpiefpjjaa.Cells Go.Proofs.Ytpgjllpiefpjjaa.Pts Go.Proofs.Ytpgjllpiefpjjaa.WalkPI Go.Proofs.Ytpgjllpiefpjjaa.WalkNr Go.Proofs.Ytpgjllpiefpjjaa.WalkPl Go.Proofs.Ytpgjllpiefpjjaa.WalkPm Go.Proofs.Ytpgjllpiefpjjaa.WalkPn
set_option linter.unusedVariables false
set_option linter.unusedSimpArgs false

/-- a nearest quotient of a part lies between 0 and the whole -/
theorem div_between {N j d : Int} (hN : 0 < N) (h0 : 0 ≤ j) (hj : j ≤ N) : (0 ≤ d → 0 ≤ divR (j * d) N ∧ divR (j * d) N ≤ d) ∧ (d ≤ 0 → d ≤ divR (j * d) N ∧ divR (j * d) N ≤ 0) := by
  have hr : ∀ a, divR a N = divP a N := fun a => by unfold divR; rw [if_neg (by omega)]
  rw [hr]
  have up : ∀ d : Int, 0 ≤ d → 0 ≤ j * d ∧ (2 * (j * d) + N) / (2 * N) ≤ d ∧ 0 ≤ (2 * (j * d) + N) / (2 * N) := fun d hd => by
    have a0 : 0 ≤ j * d := Int.mul_nonneg h0 hd
    have a1 : j * d ≤ N * d := Int.mul_le_mul_of_nonneg_right hj hd
    have u : (2 * (j * d) + N) / (2 * N) < d + 1 := (Int.ediv_lt_iff_lt_mul (by omega)).2 (by
      have e : (d + 1) * (2 * N) = 2 * (N * d) + 2 * N := by rw [Int.add_mul, Int.one_mul, Int.mul_left_comm, Int.mul_comm d N]
      omega)
    exact ⟨a0, by omega, Int.ediv_nonneg (by omega) (by omega)⟩
  constructor
  · intro hd
    obtain ⟨a0, u, l⟩ := up d hd
    unfold divP
    rw [if_neg (by omega)]
    exact ⟨l, u⟩
  · intro hd
    obtain ⟨a0, u, l⟩ := up (-d) (by omega)
    rw [Int.mul_neg] at a0 u l
    unfold divP
    by_cases ha : j * d < 0
    · rw [if_pos ha]
      have e : N - 2 * (j * d) = 2 * -(j * d) + N := by omega
      rw [e]
      omega
    · rw [if_neg ha]
      have e : j * d = 0 := by omega
      rw [e]
      have z : (2 * 0 + N) / (2 * N) = 0 := Int.ediv_eq_zero_of_lt (by omega) (by omega)
      rw [z]
      omega
theorem between {p q N j lo hi : Int} (hN : 0 < N) (h0 : 0 ≤ j) (hj : j ≤ N) (hp : lo ≤ p ∧ p ≤ hi) (hq : lo ≤ q ∧ q ≤ hi) : lo ≤ p + divR (j * (q - p)) N ∧ p + divR (j * (q - p)) N ≤ hi := by
  have h := div_between (d := q - p) hN h0 hj
  rcases Int.le_total 0 (q - p) with c | c
  · have := h.1 c; omega
  · have := h.2 c; omega
theorem has_mk {s wd ht x y : Int} (h : (0 ≤ x ∧ x ≤ (wd - 1) * s) ∧ (0 ≤ y ∧ y ≤ (ht - 1) * s)) : hasB s wd ht x y = true := by
  unfold hasB
  rw [inB_mk h.1, inB_mk h.2]
  rfl
theorem plF_at {f : Nat → PT} {n k : Nat} (h : k < n) : at0 (plF f n) k = (f k).1 ∧ at1 (plF f n) k = (f k).2 := by simp [at0, at1, plF, h]
/-- the places between two points of a terrain lie in it -/
theorem places_in {s wd ht ax ay bx cy : Int} {n k : Nat} (ha : hasB s wd ht ax ay = true) (hb : hasB s wd ht bx cy = true) (hn : 2 ≤ n) (hk : k < n) : hasB s wd ht (at0 (places ax ay bx cy n) k) (at1 (places ax ay bx cy n) k) = true := by
  have a := has_yes ha
  have b := has_yes hb
  have fw : ∀ (px py qx qy : Int) (j : Nat), ((0 ≤ px ∧ px ≤ (wd - 1) * s) ∧ (0 ≤ py ∧ py ≤ (ht - 1) * s)) → ((0 ≤ qx ∧ qx ≤ (wd - 1) * s) ∧ (0 ≤ qy ∧ qy ≤ (ht - 1) * s)) → j < n → hasB s wd ht (plP px py qx qy n j).1 (plP px py qx qy n j).2 = true := fun px py qx qy j hp hq hj =>
    has_mk ⟨between (by omega) (by omega) (by omega) hp.1 hq.1, between (by omega) (by omega) (by omega) hp.2 hq.2⟩
  unfold places
  cases ordB ax ay bx cy
  · rw [cond_false, plF_rev, (plF_at hk).1, (plF_at hk).2]
    exact fw bx cy ax ay (n - 1 - k) b a (by omega)
  · rw [cond_true, (plF_at hk).1, (plF_at hk).2]
    exact fw ax ay bx cy k a b hk

/-- the code of the question for a profile -/
def askC (s wd ht : Int) (n m : Nat) (hs cs : List Int) (ax ay bx cy nn : Int) : Int :=
  bif terB s wd ht n m hs cs && (okP ax ay && okP bx cy) then (bif inB nn 2 65 && (hasB s wd ht ax ay && hasB s wd ht bx cy) then 0 else 2) else 1
/-- what a profile gives -/
def proR (s wd ht : Int) (n m : Nat) (hs cs : List Int) (ax ay bx cy nn : Int) (f : Int → Int → Int) : List Int × Int :=
  bif askC s wd ht n m hs cs ax ay bx cy nn == 0 then ((places ax ay bx cy nn.toNat).map (fun p => f p.1 p.2), 0) else ([], askC s wd ht n m hs cs ax ay bx cy nn)
theorem ask_yes {s wd ht : Int} {n m : Nat} {hs cs : List Int} {ax ay bx cy nn : Int} (h : (askC s wd ht n m hs cs ax ay bx cy nn == 0) = true) :
    terB s wd ht n m hs cs = true ∧ okP ax ay = true ∧ okP bx cy = true ∧ inB nn 2 65 = true ∧ hasB s wd ht ax ay = true ∧ hasB s wd ht bx cy = true := by
  unfold askC at h
  cases h1 : terB s wd ht n m hs cs <;> cases h2 : okP ax ay <;> cases h3 : okP bx cy <;> cases h4 : inB nn 2 65 <;> cases h5 : hasB s wd ht ax ay <;> cases h6 : hasB s wd ht bx cy <;> rw [h1, h2, h3, h4, h5, h6] at h <;> first | exact ⟨rfl, rfl, rfl, rfl, rfl, rfl⟩ | exact absurd h (by decide)
theorem proR_len (s wd ht : Int) (n m : Nat) (hs cs : List Int) (ax ay bx cy nn : Int) (f : Int → Int → Int) : (proR s wd ht n m hs cs ax ay bx cy nn f).1.length ≤ 65 := by
  unfold proR
  cases h : askC s wd ht n m hs cs ax ay bx cy nn == 0
  · simp
  · have := inB_yes (ask_yes h).2.2.2.1
    simp [places_len]
    omega
theorem pmap_next {ps : List PT} {n k : Nat} {f : Int → Int → Int} (hl : ps.length = n) (hk : k < n) : vals ((ps.map fun p => f p.1 p.2).take k) ++ [.int .i64 (f (at0 ps k) (at1 ps k))] = vals ((ps.map fun p => f p.1 p.2).take (k + 1)) := by
  have h := at_get (ps := ps) (k := k) (by omega)
  rw [h.1, h.2, List.take_succ_eq_append_getElem (by simp; omega)]
  simp [vals]
/-- numbers in memory of their own, and a code -/
def PoRes (zs : List Int) (N : Nat) (C : Int) (W : World) (e : Ending) (w' : World) : Prop := ∃ (B : Option Addr) (q : Nat), e = .returned (.tuple #[.slice B N q, .int .i64 C]) ∧ Ow w' W.heap.size B N q zs ∧ Below W.heap.size W w'

set_option maxHeartbeats 8000000 in
theorem specAsk (s wd ht : Int) (A B : Option Addr) (n c m d : Nat) (hs cs : List Int) (ax ay bx cy nn : Int) (pb : Nat) (w : World) (ra : Rd w A n hs) (rb : Rd w B m cs) (hn : n ≤ maxLen) (hm : m ≤ maxLen)
    (c0 : w.cell? ⟨pb, 0, none⟩ = some (.int .i64 s)) (c1 : w.cell? ⟨pb, 1, none⟩ = some (.int .i64 wd)) (c2 : w.cell? ⟨pb, 2, none⟩ = some (.int .i64 ht)) (c3 : w.cell? ⟨pb, 3, none⟩ = some (.slice A n c)) (c4 : w.cell? ⟨pb, 4, none⟩ = some (.slice B m d)) :
    Calls Try.prog 55 #[.pointer (some ⟨pb, 0, none⟩), .agg #[.int .i64 ax, .int .i64 ay], .agg #[.int .i64 bx, .int .i64 cy], .int .i64 nn] w fun e w' => e = .returned (.int .i64 (askC s wd ht n m hs cs ax ay bx cy nn)) ∧ Below w.heap.size w w' := by
  have A1 := Lib.hid (specTer s wd ht A B n c m d hs cs pb ((w.alloc (.cells #[.int .i64 ax, .int .i64 ay] 30)).alloc (.cells #[.int .i64 bx, .int .i64 cy] 30)) ((ra.alloc _).alloc _) ((rb.alloc _).alloc _) hn hm (keep_alloc _ (keep_alloc _ c0)) (keep_alloc _ (keep_alloc _ c1)) (keep_alloc _ (keep_alloc _ c2)) (keep_alloc _ (keep_alloc _ c3)) (keep_alloc _ (keep_alloc _ c4)))
  have V1 := Lib.hid (fun W => specVp ax ay W)
  have V2 := Lib.hid (fun W => specVp bx cy W)
  have HC := Lib.hid (And.intro c0 (And.intro c1 c2))
  clear c0 c1 c2 c3 c4 ra rb
  cases h0 : terB s wd ht n m hs cs
  · rw [show askC s wd ht n m hs cs ax ay bx cy nn = 1 by unfold askC; rw [h0]; simp]
    rw [h0] at A1
    clear h0
    go_enter Try.func55, Try.ntmps55
    go_wp2_with fail
    refine A1.out.mono ?_
    rintro e w' ⟨rfl, kd, rfl⟩
    go_wp2_with fail
    go_ret
    exact ⟨rfl, (by repeat (first | with_reducible exact Below.refl _ _ | with_reducible assumption | (with_reducible refine Below.drew ?_) | (with_reducible refine below_drewN ?_ _) | ((with_reducible refine Below.alloc ?_ ?_ _); rotate_left; (focus first | exact Nat.le_refl _ | omega | (simp; done) | (simp; omega))) | ((with_reducible refine Below.setCell ?_ ?_ _); rotate_left; (focus first | exact Nat.le_refl _ | omega | (simp; done) | (simp; omega))) | ((with_reducible refine below_via (W := ?_) ?_ ?_ ?_); rotate_left; (with_reducible assumption); rotate_left; (focus first | exact Nat.le_refl _ | omega | (simp; done) | (simp; omega)))))⟩
  rw [h0] at A1
  cases h1 : okP ax ay
  · rw [show askC s wd ht n m hs cs ax ay bx cy nn = 1 by unfold askC; rw [h0, h1]; simp]
    rw [h1] at V1
    clear h0 h1
    go_enter Try.func55, Try.ntmps55
    go_wp2_with fail
    refine A1.out.mono ?_
    rintro e w' ⟨rfl, kd, rfl⟩
    go_wp2_with fail
    refine (V1.out _).mono ?_
    rintro e w1 ⟨rfl, hb⟩
    have lb : w.heap.size + 1 < w1.heap.size := by have h := hb.size; simp at h; omega
    have q10 : w1.cell? ⟨w.heap.size, 0, none⟩ = some (.int .i64 ax) := by (((try dsimp only); (repeat' apply And.intro) <;> (repeat (first | with_reducible assumption | (with_reducible refine keep_drew ?_) | (with_reducible refine keep_drewN ?_) | ((with_reducible refine keep_new _ _ _ _ _ _ ?_ ?_) <;> (first | rfl | (simp; done) | omega)) | (with_reducible refine keep_alloc _ ?_) | ((with_reducible refine keep_set _ ?_ ?_); (focus first | omega | (simp; done) | (simp; omega))) | ((with_reducible refine keep_set' _ ?_ ?_); (focus first | omega | (simp; done))) | ((with_reducible refine keep_same (u := ?_) _ ?_); rotate_left) | ((with_reducible refine keep_setA _ ?_ ?_); (focus first | omega | (simp; done) | (simp; omega))) | ((with_reducible refine keep_below (w := ?_) ?_ ?_); rotate_left; (with_reducible assumption))))))
    have q11 : w1.cell? ⟨w.heap.size, 1, none⟩ = some (.int .i64 ay) := by (((try dsimp only); (repeat' apply And.intro) <;> (repeat (first | with_reducible assumption | (with_reducible refine keep_drew ?_) | (with_reducible refine keep_drewN ?_) | ((with_reducible refine keep_new _ _ _ _ _ _ ?_ ?_) <;> (first | rfl | (simp; done) | omega)) | (with_reducible refine keep_alloc _ ?_) | ((with_reducible refine keep_set _ ?_ ?_); (focus first | omega | (simp; done) | (simp; omega))) | ((with_reducible refine keep_set' _ ?_ ?_); (focus first | omega | (simp; done))) | ((with_reducible refine keep_same (u := ?_) _ ?_); rotate_left) | ((with_reducible refine keep_setA _ ?_ ?_); (focus first | omega | (simp; done) | (simp; omega))) | ((with_reducible refine keep_below (w := ?_) ?_ ?_); rotate_left; (with_reducible assumption))))))
    have q12 : w1.cell? ⟨w.heap.size + 1, 0, none⟩ = some (.int .i64 bx) := by (((try dsimp only); (repeat' apply And.intro) <;> (repeat (first | with_reducible assumption | (with_reducible refine keep_drew ?_) | (with_reducible refine keep_drewN ?_) | ((with_reducible refine keep_new _ _ _ _ _ _ ?_ ?_) <;> (first | rfl | (simp; done) | omega)) | (with_reducible refine keep_alloc _ ?_) | ((with_reducible refine keep_set _ ?_ ?_); (focus first | omega | (simp; done) | (simp; omega))) | ((with_reducible refine keep_set' _ ?_ ?_); (focus first | omega | (simp; done))) | ((with_reducible refine keep_same (u := ?_) _ ?_); rotate_left) | ((with_reducible refine keep_setA _ ?_ ?_); (focus first | omega | (simp; done) | (simp; omega))) | ((with_reducible refine keep_below (w := ?_) ?_ ?_); rotate_left; (with_reducible assumption))))))
    have q13 : w1.cell? ⟨w.heap.size + 1, 1, none⟩ = some (.int .i64 cy) := by (((try dsimp only); (repeat' apply And.intro) <;> (repeat (first | with_reducible assumption | (with_reducible refine keep_drew ?_) | (with_reducible refine keep_drewN ?_) | ((with_reducible refine keep_new _ _ _ _ _ _ ?_ ?_) <;> (first | rfl | (simp; done) | omega)) | (with_reducible refine keep_alloc _ ?_) | ((with_reducible refine keep_set _ ?_ ?_); (focus first | omega | (simp; done) | (simp; omega))) | ((with_reducible refine keep_set' _ ?_ ?_); (focus first | omega | (simp; done))) | ((with_reducible refine keep_same (u := ?_) _ ?_); rotate_left) | ((with_reducible refine keep_setA _ ?_ ?_); (focus first | omega | (simp; done) | (simp; omega))) | ((with_reducible refine keep_below (w := ?_) ?_ ?_); rotate_left; (with_reducible assumption))))))
    have g10 := keep_below hb (keep_drewN (n := kd) (keep_alloc (.cells #[.int .i64 bx, .int .i64 cy] 30) (keep_alloc (.cells #[.int .i64 ax, .int .i64 ay] 30) HC.out.1)))
    have g11 := keep_below hb (keep_drewN (n := kd) (keep_alloc (.cells #[.int .i64 bx, .int .i64 cy] 30) (keep_alloc (.cells #[.int .i64 ax, .int .i64 ay] 30) HC.out.2.1)))
    have g12 := keep_below hb (keep_drewN (n := kd) (keep_alloc (.cells #[.int .i64 bx, .int .i64 cy] 30) (keep_alloc (.cells #[.int .i64 ax, .int .i64 ay] 30) HC.out.2.2)))
    have B1 : Below w.heap.size w w1 := (by repeat (first | with_reducible exact Below.refl _ _ | with_reducible assumption | (with_reducible refine Below.drew ?_) | (with_reducible refine below_drewN ?_ _) | ((with_reducible refine Below.alloc ?_ ?_ _); rotate_left; (focus first | exact Nat.le_refl _ | omega | (simp; done) | (simp; omega))) | ((with_reducible refine Below.setCell ?_ ?_ _); rotate_left; (focus first | exact Nat.le_refl _ | omega | (simp; done) | (simp; omega))) | ((with_reducible refine below_via (W := ?_) ?_ ?_ ?_); rotate_left; (with_reducible assumption); rotate_left; (focus first | exact Nat.le_refl _ | omega | (simp; done) | (simp; omega)))))
    clear hb
    go_wp2_with fail
    go_ret
    exact ⟨rfl, B1⟩
  rw [h1] at V1
  cases h2 : okP bx cy
  · rw [show askC s wd ht n m hs cs ax ay bx cy nn = 1 by unfold askC; rw [h0, h1, h2]; simp]
    rw [h2] at V2
    clear h0 h1 h2
    go_enter Try.func55, Try.ntmps55
    go_wp2_with fail
    refine A1.out.mono ?_
    rintro e w' ⟨rfl, kd, rfl⟩
    go_wp2_with fail
    refine (V1.out _).mono ?_
    rintro e w1 ⟨rfl, hb⟩
    have lb : w.heap.size + 1 < w1.heap.size := by have h := hb.size; simp at h; omega
    have q10 : w1.cell? ⟨w.heap.size, 0, none⟩ = some (.int .i64 ax) := by (((try dsimp only); (repeat' apply And.intro) <;> (repeat (first | with_reducible assumption | (with_reducible refine keep_drew ?_) | (with_reducible refine keep_drewN ?_) | ((with_reducible refine keep_new _ _ _ _ _ _ ?_ ?_) <;> (first | rfl | (simp; done) | omega)) | (with_reducible refine keep_alloc _ ?_) | ((with_reducible refine keep_set _ ?_ ?_); (focus first | omega | (simp; done) | (simp; omega))) | ((with_reducible refine keep_set' _ ?_ ?_); (focus first | omega | (simp; done))) | ((with_reducible refine keep_same (u := ?_) _ ?_); rotate_left) | ((with_reducible refine keep_setA _ ?_ ?_); (focus first | omega | (simp; done) | (simp; omega))) | ((with_reducible refine keep_below (w := ?_) ?_ ?_); rotate_left; (with_reducible assumption))))))
    have q11 : w1.cell? ⟨w.heap.size, 1, none⟩ = some (.int .i64 ay) := by (((try dsimp only); (repeat' apply And.intro) <;> (repeat (first | with_reducible assumption | (with_reducible refine keep_drew ?_) | (with_reducible refine keep_drewN ?_) | ((with_reducible refine keep_new _ _ _ _ _ _ ?_ ?_) <;> (first | rfl | (simp; done) | omega)) | (with_reducible refine keep_alloc _ ?_) | ((with_reducible refine keep_set _ ?_ ?_); (focus first | omega | (simp; done) | (simp; omega))) | ((with_reducible refine keep_set' _ ?_ ?_); (focus first | omega | (simp; done))) | ((with_reducible refine keep_same (u := ?_) _ ?_); rotate_left) | ((with_reducible refine keep_setA _ ?_ ?_); (focus first | omega | (simp; done) | (simp; omega))) | ((with_reducible refine keep_below (w := ?_) ?_ ?_); rotate_left; (with_reducible assumption))))))
    have q12 : w1.cell? ⟨w.heap.size + 1, 0, none⟩ = some (.int .i64 bx) := by (((try dsimp only); (repeat' apply And.intro) <;> (repeat (first | with_reducible assumption | (with_reducible refine keep_drew ?_) | (with_reducible refine keep_drewN ?_) | ((with_reducible refine keep_new _ _ _ _ _ _ ?_ ?_) <;> (first | rfl | (simp; done) | omega)) | (with_reducible refine keep_alloc _ ?_) | ((with_reducible refine keep_set _ ?_ ?_); (focus first | omega | (simp; done) | (simp; omega))) | ((with_reducible refine keep_set' _ ?_ ?_); (focus first | omega | (simp; done))) | ((with_reducible refine keep_same (u := ?_) _ ?_); rotate_left) | ((with_reducible refine keep_setA _ ?_ ?_); (focus first | omega | (simp; done) | (simp; omega))) | ((with_reducible refine keep_below (w := ?_) ?_ ?_); rotate_left; (with_reducible assumption))))))
    have q13 : w1.cell? ⟨w.heap.size + 1, 1, none⟩ = some (.int .i64 cy) := by (((try dsimp only); (repeat' apply And.intro) <;> (repeat (first | with_reducible assumption | (with_reducible refine keep_drew ?_) | (with_reducible refine keep_drewN ?_) | ((with_reducible refine keep_new _ _ _ _ _ _ ?_ ?_) <;> (first | rfl | (simp; done) | omega)) | (with_reducible refine keep_alloc _ ?_) | ((with_reducible refine keep_set _ ?_ ?_); (focus first | omega | (simp; done) | (simp; omega))) | ((with_reducible refine keep_set' _ ?_ ?_); (focus first | omega | (simp; done))) | ((with_reducible refine keep_same (u := ?_) _ ?_); rotate_left) | ((with_reducible refine keep_setA _ ?_ ?_); (focus first | omega | (simp; done) | (simp; omega))) | ((with_reducible refine keep_below (w := ?_) ?_ ?_); rotate_left; (with_reducible assumption))))))
    have g10 := keep_below hb (keep_drewN (n := kd) (keep_alloc (.cells #[.int .i64 bx, .int .i64 cy] 30) (keep_alloc (.cells #[.int .i64 ax, .int .i64 ay] 30) HC.out.1)))
    have g11 := keep_below hb (keep_drewN (n := kd) (keep_alloc (.cells #[.int .i64 bx, .int .i64 cy] 30) (keep_alloc (.cells #[.int .i64 ax, .int .i64 ay] 30) HC.out.2.1)))
    have g12 := keep_below hb (keep_drewN (n := kd) (keep_alloc (.cells #[.int .i64 bx, .int .i64 cy] 30) (keep_alloc (.cells #[.int .i64 ax, .int .i64 ay] 30) HC.out.2.2)))
    have B1 : Below w.heap.size w w1 := (by repeat (first | with_reducible exact Below.refl _ _ | with_reducible assumption | (with_reducible refine Below.drew ?_) | (with_reducible refine below_drewN ?_ _) | ((with_reducible refine Below.alloc ?_ ?_ _); rotate_left; (focus first | exact Nat.le_refl _ | omega | (simp; done) | (simp; omega))) | ((with_reducible refine Below.setCell ?_ ?_ _); rotate_left; (focus first | exact Nat.le_refl _ | omega | (simp; done) | (simp; omega))) | ((with_reducible refine below_via (W := ?_) ?_ ?_ ?_); rotate_left; (with_reducible assumption); rotate_left; (focus first | exact Nat.le_refl _ | omega | (simp; done) | (simp; omega)))))
    clear hb
    go_wp2_with fail
    refine (V2.out _).mono ?_
    rintro e w2 ⟨rfl, hb⟩
    have q20 := keep_below hb q10
    have q21 := keep_below hb q11
    have q22 := keep_below hb q12
    have q23 := keep_below hb q13
    have g20 := keep_below hb g10
    have g21 := keep_below hb g11
    have g22 := keep_below hb g12
    have B2 := below_via hb B1 B1.size
    clear hb B1 q10 q11 q12 q13 g10 g11 g12
    go_wp2_with fail
    go_ret
    exact ⟨rfl, B2⟩
  rw [h2] at V2
  cases h3 : inB nn 2 65
  · rw [show askC s wd ht n m hs cs ax ay bx cy nn = 2 by unfold askC; rw [h0, h1, h2, h3]; simp]
    clear h0 h1 h2
    go_enter Try.func55, Try.ntmps55
    go_wp2_with fail
    refine A1.out.mono ?_
    rintro e w' ⟨rfl, kd, rfl⟩
    go_wp2_with fail
    refine (V1.out _).mono ?_
    rintro e w1 ⟨rfl, hb⟩
    have lb : w.heap.size + 1 < w1.heap.size := by have h := hb.size; simp at h; omega
    have q10 : w1.cell? ⟨w.heap.size, 0, none⟩ = some (.int .i64 ax) := by (((try dsimp only); (repeat' apply And.intro) <;> (repeat (first | with_reducible assumption | (with_reducible refine keep_drew ?_) | (with_reducible refine keep_drewN ?_) | ((with_reducible refine keep_new _ _ _ _ _ _ ?_ ?_) <;> (first | rfl | (simp; done) | omega)) | (with_reducible refine keep_alloc _ ?_) | ((with_reducible refine keep_set _ ?_ ?_); (focus first | omega | (simp; done) | (simp; omega))) | ((with_reducible refine keep_set' _ ?_ ?_); (focus first | omega | (simp; done))) | ((with_reducible refine keep_same (u := ?_) _ ?_); rotate_left) | ((with_reducible refine keep_setA _ ?_ ?_); (focus first | omega | (simp; done) | (simp; omega))) | ((with_reducible refine keep_below (w := ?_) ?_ ?_); rotate_left; (with_reducible assumption))))))
    have q11 : w1.cell? ⟨w.heap.size, 1, none⟩ = some (.int .i64 ay) := by (((try dsimp only); (repeat' apply And.intro) <;> (repeat (first | with_reducible assumption | (with_reducible refine keep_drew ?_) | (with_reducible refine keep_drewN ?_) | ((with_reducible refine keep_new _ _ _ _ _ _ ?_ ?_) <;> (first | rfl | (simp; done) | omega)) | (with_reducible refine keep_alloc _ ?_) | ((with_reducible refine keep_set _ ?_ ?_); (focus first | omega | (simp; done) | (simp; omega))) | ((with_reducible refine keep_set' _ ?_ ?_); (focus first | omega | (simp; done))) | ((with_reducible refine keep_same (u := ?_) _ ?_); rotate_left) | ((with_reducible refine keep_setA _ ?_ ?_); (focus first | omega | (simp; done) | (simp; omega))) | ((with_reducible refine keep_below (w := ?_) ?_ ?_); rotate_left; (with_reducible assumption))))))
    have q12 : w1.cell? ⟨w.heap.size + 1, 0, none⟩ = some (.int .i64 bx) := by (((try dsimp only); (repeat' apply And.intro) <;> (repeat (first | with_reducible assumption | (with_reducible refine keep_drew ?_) | (with_reducible refine keep_drewN ?_) | ((with_reducible refine keep_new _ _ _ _ _ _ ?_ ?_) <;> (first | rfl | (simp; done) | omega)) | (with_reducible refine keep_alloc _ ?_) | ((with_reducible refine keep_set _ ?_ ?_); (focus first | omega | (simp; done) | (simp; omega))) | ((with_reducible refine keep_set' _ ?_ ?_); (focus first | omega | (simp; done))) | ((with_reducible refine keep_same (u := ?_) _ ?_); rotate_left) | ((with_reducible refine keep_setA _ ?_ ?_); (focus first | omega | (simp; done) | (simp; omega))) | ((with_reducible refine keep_below (w := ?_) ?_ ?_); rotate_left; (with_reducible assumption))))))
    have q13 : w1.cell? ⟨w.heap.size + 1, 1, none⟩ = some (.int .i64 cy) := by (((try dsimp only); (repeat' apply And.intro) <;> (repeat (first | with_reducible assumption | (with_reducible refine keep_drew ?_) | (with_reducible refine keep_drewN ?_) | ((with_reducible refine keep_new _ _ _ _ _ _ ?_ ?_) <;> (first | rfl | (simp; done) | omega)) | (with_reducible refine keep_alloc _ ?_) | ((with_reducible refine keep_set _ ?_ ?_); (focus first | omega | (simp; done) | (simp; omega))) | ((with_reducible refine keep_set' _ ?_ ?_); (focus first | omega | (simp; done))) | ((with_reducible refine keep_same (u := ?_) _ ?_); rotate_left) | ((with_reducible refine keep_setA _ ?_ ?_); (focus first | omega | (simp; done) | (simp; omega))) | ((with_reducible refine keep_below (w := ?_) ?_ ?_); rotate_left; (with_reducible assumption))))))
    have g10 := keep_below hb (keep_drewN (n := kd) (keep_alloc (.cells #[.int .i64 bx, .int .i64 cy] 30) (keep_alloc (.cells #[.int .i64 ax, .int .i64 ay] 30) HC.out.1)))
    have g11 := keep_below hb (keep_drewN (n := kd) (keep_alloc (.cells #[.int .i64 bx, .int .i64 cy] 30) (keep_alloc (.cells #[.int .i64 ax, .int .i64 ay] 30) HC.out.2.1)))
    have g12 := keep_below hb (keep_drewN (n := kd) (keep_alloc (.cells #[.int .i64 bx, .int .i64 cy] 30) (keep_alloc (.cells #[.int .i64 ax, .int .i64 ay] 30) HC.out.2.2)))
    have B1 : Below w.heap.size w w1 := (by repeat (first | with_reducible exact Below.refl _ _ | with_reducible assumption | (with_reducible refine Below.drew ?_) | (with_reducible refine below_drewN ?_ _) | ((with_reducible refine Below.alloc ?_ ?_ _); rotate_left; (focus first | exact Nat.le_refl _ | omega | (simp; done) | (simp; omega))) | ((with_reducible refine Below.setCell ?_ ?_ _); rotate_left; (focus first | exact Nat.le_refl _ | omega | (simp; done) | (simp; omega))) | ((with_reducible refine below_via (W := ?_) ?_ ?_ ?_); rotate_left; (with_reducible assumption); rotate_left; (focus first | exact Nat.le_refl _ | omega | (simp; done) | (simp; omega)))))
    clear hb
    go_wp2_with fail
    refine (V2.out _).mono ?_
    rintro e w2 ⟨rfl, hb⟩
    have q20 := keep_below hb q10
    have q21 := keep_below hb q11
    have q22 := keep_below hb q12
    have q23 := keep_below hb q13
    have g20 := keep_below hb g10
    have g21 := keep_below hb g11
    have g22 := keep_below hb g12
    have B2 := below_via hb B1 B1.size
    clear hb B1 q10 q11 q12 q13 g10 g11 g12
    go_wp2_with (first | (go_at_call 43; refine (specIn _ _ _ _).mono ?_; rintro e w' ⟨rfl, rfl⟩) | (go_at_call 45; refine (implIn _ _ _ _).mono ?_; rintro e w' ⟨rfl, rfl⟩))
    go_ret
    exact ⟨rfl, B2⟩
  cases h4 : hasB s wd ht ax ay
  · rw [show askC s wd ht n m hs cs ax ay bx cy nn = 2 by unfold askC; rw [h0, h1, h2, h3, h4]; simp]
    have hz := (ter_yes h0).1
    have H1 := Lib.hid (fun W t0 t1 t2 => specHas s wd ht ax ay (.bool true) (.bool true) pb W hz t0 t1 t2)
    have H2 := Lib.hid (fun W t0 t1 t2 => specHas s wd ht bx cy (.bool true) (.bool true) pb W hz t0 t1 t2)
    rw [h4] at H1
    clear h0 h1 h2
    go_enter Try.func55, Try.ntmps55
    go_wp2_with fail
    refine A1.out.mono ?_
    rintro e w' ⟨rfl, kd, rfl⟩
    go_wp2_with fail
    refine (V1.out _).mono ?_
    rintro e w1 ⟨rfl, hb⟩
    have lb : w.heap.size + 1 < w1.heap.size := by have h := hb.size; simp at h; omega
    have q10 : w1.cell? ⟨w.heap.size, 0, none⟩ = some (.int .i64 ax) := by (((try dsimp only); (repeat' apply And.intro) <;> (repeat (first | with_reducible assumption | (with_reducible refine keep_drew ?_) | (with_reducible refine keep_drewN ?_) | ((with_reducible refine keep_new _ _ _ _ _ _ ?_ ?_) <;> (first | rfl | (simp; done) | omega)) | (with_reducible refine keep_alloc _ ?_) | ((with_reducible refine keep_set _ ?_ ?_); (focus first | omega | (simp; done) | (simp; omega))) | ((with_reducible refine keep_set' _ ?_ ?_); (focus first | omega | (simp; done))) | ((with_reducible refine keep_same (u := ?_) _ ?_); rotate_left) | ((with_reducible refine keep_setA _ ?_ ?_); (focus first | omega | (simp; done) | (simp; omega))) | ((with_reducible refine keep_below (w := ?_) ?_ ?_); rotate_left; (with_reducible assumption))))))
    have q11 : w1.cell? ⟨w.heap.size, 1, none⟩ = some (.int .i64 ay) := by (((try dsimp only); (repeat' apply And.intro) <;> (repeat (first | with_reducible assumption | (with_reducible refine keep_drew ?_) | (with_reducible refine keep_drewN ?_) | ((with_reducible refine keep_new _ _ _ _ _ _ ?_ ?_) <;> (first | rfl | (simp; done) | omega)) | (with_reducible refine keep_alloc _ ?_) | ((with_reducible refine keep_set _ ?_ ?_); (focus first | omega | (simp; done) | (simp; omega))) | ((with_reducible refine keep_set' _ ?_ ?_); (focus first | omega | (simp; done))) | ((with_reducible refine keep_same (u := ?_) _ ?_); rotate_left) | ((with_reducible refine keep_setA _ ?_ ?_); (focus first | omega | (simp; done) | (simp; omega))) | ((with_reducible refine keep_below (w := ?_) ?_ ?_); rotate_left; (with_reducible assumption))))))
    have q12 : w1.cell? ⟨w.heap.size + 1, 0, none⟩ = some (.int .i64 bx) := by (((try dsimp only); (repeat' apply And.intro) <;> (repeat (first | with_reducible assumption | (with_reducible refine keep_drew ?_) | (with_reducible refine keep_drewN ?_) | ((with_reducible refine keep_new _ _ _ _ _ _ ?_ ?_) <;> (first | rfl | (simp; done) | omega)) | (with_reducible refine keep_alloc _ ?_) | ((with_reducible refine keep_set _ ?_ ?_); (focus first | omega | (simp; done) | (simp; omega))) | ((with_reducible refine keep_set' _ ?_ ?_); (focus first | omega | (simp; done))) | ((with_reducible refine keep_same (u := ?_) _ ?_); rotate_left) | ((with_reducible refine keep_setA _ ?_ ?_); (focus first | omega | (simp; done) | (simp; omega))) | ((with_reducible refine keep_below (w := ?_) ?_ ?_); rotate_left; (with_reducible assumption))))))
    have q13 : w1.cell? ⟨w.heap.size + 1, 1, none⟩ = some (.int .i64 cy) := by (((try dsimp only); (repeat' apply And.intro) <;> (repeat (first | with_reducible assumption | (with_reducible refine keep_drew ?_) | (with_reducible refine keep_drewN ?_) | ((with_reducible refine keep_new _ _ _ _ _ _ ?_ ?_) <;> (first | rfl | (simp; done) | omega)) | (with_reducible refine keep_alloc _ ?_) | ((with_reducible refine keep_set _ ?_ ?_); (focus first | omega | (simp; done) | (simp; omega))) | ((with_reducible refine keep_set' _ ?_ ?_); (focus first | omega | (simp; done))) | ((with_reducible refine keep_same (u := ?_) _ ?_); rotate_left) | ((with_reducible refine keep_setA _ ?_ ?_); (focus first | omega | (simp; done) | (simp; omega))) | ((with_reducible refine keep_below (w := ?_) ?_ ?_); rotate_left; (with_reducible assumption))))))
    have g10 := keep_below hb (keep_drewN (n := kd) (keep_alloc (.cells #[.int .i64 bx, .int .i64 cy] 30) (keep_alloc (.cells #[.int .i64 ax, .int .i64 ay] 30) HC.out.1)))
    have g11 := keep_below hb (keep_drewN (n := kd) (keep_alloc (.cells #[.int .i64 bx, .int .i64 cy] 30) (keep_alloc (.cells #[.int .i64 ax, .int .i64 ay] 30) HC.out.2.1)))
    have g12 := keep_below hb (keep_drewN (n := kd) (keep_alloc (.cells #[.int .i64 bx, .int .i64 cy] 30) (keep_alloc (.cells #[.int .i64 ax, .int .i64 ay] 30) HC.out.2.2)))
    have B1 : Below w.heap.size w w1 := (by repeat (first | with_reducible exact Below.refl _ _ | with_reducible assumption | (with_reducible refine Below.drew ?_) | (with_reducible refine below_drewN ?_ _) | ((with_reducible refine Below.alloc ?_ ?_ _); rotate_left; (focus first | exact Nat.le_refl _ | omega | (simp; done) | (simp; omega))) | ((with_reducible refine Below.setCell ?_ ?_ _); rotate_left; (focus first | exact Nat.le_refl _ | omega | (simp; done) | (simp; omega))) | ((with_reducible refine below_via (W := ?_) ?_ ?_ ?_); rotate_left; (with_reducible assumption); rotate_left; (focus first | exact Nat.le_refl _ | omega | (simp; done) | (simp; omega)))))
    clear hb
    go_wp2_with fail
    refine (V2.out _).mono ?_
    rintro e w2 ⟨rfl, hb⟩
    have q20 := keep_below hb q10
    have q21 := keep_below hb q11
    have q22 := keep_below hb q12
    have q23 := keep_below hb q13
    have g20 := keep_below hb g10
    have g21 := keep_below hb g11
    have g22 := keep_below hb g12
    have B2 := below_via hb B1 B1.size
    clear hb B1 q10 q11 q12 q13 g10 g11 g12
    go_wp2_with (first | (go_at_call 43; refine (specIn _ _ _ _).mono ?_; rintro e w' ⟨rfl, rfl⟩) | (go_at_call 45; refine (implIn _ _ _ _).mono ?_; rintro e w' ⟨rfl, rfl⟩))
    refine (H1.out _ g20 g21 g22).mono ?_
    rintro e w3 ⟨rfl, hb⟩
    have q30 := keep_below hb q20
    have q31 := keep_below hb q21
    have q32 := keep_below hb q22
    have q33 := keep_below hb q23
    have g30 := keep_below hb g20
    have g31 := keep_below hb g21
    have g32 := keep_below hb g22
    have B3 := below_via hb B2 B2.size
    clear hb B2 q20 q21 q22 q23 g20 g21 g22
    go_wp2_with fail
    go_ret
    exact ⟨rfl, B3⟩
  cases h5 : hasB s wd ht bx cy
  · rw [show askC s wd ht n m hs cs ax ay bx cy nn = 2 by unfold askC; rw [h0, h1, h2, h3, h4, h5]; simp]
    have hz := (ter_yes h0).1
    have H1 := Lib.hid (fun W t0 t1 t2 => specHas s wd ht ax ay (.bool true) (.bool true) pb W hz t0 t1 t2)
    have H2 := Lib.hid (fun W t0 t1 t2 => specHas s wd ht bx cy (.bool true) (.bool true) pb W hz t0 t1 t2)
    rw [h4] at H1
    rw [h5] at H2
    clear h0 h1 h2
    go_enter Try.func55, Try.ntmps55
    go_wp2_with fail
    refine A1.out.mono ?_
    rintro e w' ⟨rfl, kd, rfl⟩
    go_wp2_with fail
    refine (V1.out _).mono ?_
    rintro e w1 ⟨rfl, hb⟩
    have lb : w.heap.size + 1 < w1.heap.size := by have h := hb.size; simp at h; omega
    have q10 : w1.cell? ⟨w.heap.size, 0, none⟩ = some (.int .i64 ax) := by (((try dsimp only); (repeat' apply And.intro) <;> (repeat (first | with_reducible assumption | (with_reducible refine keep_drew ?_) | (with_reducible refine keep_drewN ?_) | ((with_reducible refine keep_new _ _ _ _ _ _ ?_ ?_) <;> (first | rfl | (simp; done) | omega)) | (with_reducible refine keep_alloc _ ?_) | ((with_reducible refine keep_set _ ?_ ?_); (focus first | omega | (simp; done) | (simp; omega))) | ((with_reducible refine keep_set' _ ?_ ?_); (focus first | omega | (simp; done))) | ((with_reducible refine keep_same (u := ?_) _ ?_); rotate_left) | ((with_reducible refine keep_setA _ ?_ ?_); (focus first | omega | (simp; done) | (simp; omega))) | ((with_reducible refine keep_below (w := ?_) ?_ ?_); rotate_left; (with_reducible assumption))))))
    have q11 : w1.cell? ⟨w.heap.size, 1, none⟩ = some (.int .i64 ay) := by (((try dsimp only); (repeat' apply And.intro) <;> (repeat (first | with_reducible assumption | (with_reducible refine keep_drew ?_) | (with_reducible refine keep_drewN ?_) | ((with_reducible refine keep_new _ _ _ _ _ _ ?_ ?_) <;> (first | rfl | (simp; done) | omega)) | (with_reducible refine keep_alloc _ ?_) | ((with_reducible refine keep_set _ ?_ ?_); (focus first | omega | (simp; done) | (simp; omega))) | ((with_reducible refine keep_set' _ ?_ ?_); (focus first | omega | (simp; done))) | ((with_reducible refine keep_same (u := ?_) _ ?_); rotate_left) | ((with_reducible refine keep_setA _ ?_ ?_); (focus first | omega | (simp; done) | (simp; omega))) | ((with_reducible refine keep_below (w := ?_) ?_ ?_); rotate_left; (with_reducible assumption))))))
    have q12 : w1.cell? ⟨w.heap.size + 1, 0, none⟩ = some (.int .i64 bx) := by (((try dsimp only); (repeat' apply And.intro) <;> (repeat (first | with_reducible assumption | (with_reducible refine keep_drew ?_) | (with_reducible refine keep_drewN ?_) | ((with_reducible refine keep_new _ _ _ _ _ _ ?_ ?_) <;> (first | rfl | (simp; done) | omega)) | (with_reducible refine keep_alloc _ ?_) | ((with_reducible refine keep_set _ ?_ ?_); (focus first | omega | (simp; done) | (simp; omega))) | ((with_reducible refine keep_set' _ ?_ ?_); (focus first | omega | (simp; done))) | ((with_reducible refine keep_same (u := ?_) _ ?_); rotate_left) | ((with_reducible refine keep_setA _ ?_ ?_); (focus first | omega | (simp; done) | (simp; omega))) | ((with_reducible refine keep_below (w := ?_) ?_ ?_); rotate_left; (with_reducible assumption))))))
    have q13 : w1.cell? ⟨w.heap.size + 1, 1, none⟩ = some (.int .i64 cy) := by (((try dsimp only); (repeat' apply And.intro) <;> (repeat (first | with_reducible assumption | (with_reducible refine keep_drew ?_) | (with_reducible refine keep_drewN ?_) | ((with_reducible refine keep_new _ _ _ _ _ _ ?_ ?_) <;> (first | rfl | (simp; done) | omega)) | (with_reducible refine keep_alloc _ ?_) | ((with_reducible refine keep_set _ ?_ ?_); (focus first | omega | (simp; done) | (simp; omega))) | ((with_reducible refine keep_set' _ ?_ ?_); (focus first | omega | (simp; done))) | ((with_reducible refine keep_same (u := ?_) _ ?_); rotate_left) | ((with_reducible refine keep_setA _ ?_ ?_); (focus first | omega | (simp; done) | (simp; omega))) | ((with_reducible refine keep_below (w := ?_) ?_ ?_); rotate_left; (with_reducible assumption))))))
    have g10 := keep_below hb (keep_drewN (n := kd) (keep_alloc (.cells #[.int .i64 bx, .int .i64 cy] 30) (keep_alloc (.cells #[.int .i64 ax, .int .i64 ay] 30) HC.out.1)))
    have g11 := keep_below hb (keep_drewN (n := kd) (keep_alloc (.cells #[.int .i64 bx, .int .i64 cy] 30) (keep_alloc (.cells #[.int .i64 ax, .int .i64 ay] 30) HC.out.2.1)))
    have g12 := keep_below hb (keep_drewN (n := kd) (keep_alloc (.cells #[.int .i64 bx, .int .i64 cy] 30) (keep_alloc (.cells #[.int .i64 ax, .int .i64 ay] 30) HC.out.2.2)))
    have B1 : Below w.heap.size w w1 := (by repeat (first | with_reducible exact Below.refl _ _ | with_reducible assumption | (with_reducible refine Below.drew ?_) | (with_reducible refine below_drewN ?_ _) | ((with_reducible refine Below.alloc ?_ ?_ _); rotate_left; (focus first | exact Nat.le_refl _ | omega | (simp; done) | (simp; omega))) | ((with_reducible refine Below.setCell ?_ ?_ _); rotate_left; (focus first | exact Nat.le_refl _ | omega | (simp; done) | (simp; omega))) | ((with_reducible refine below_via (W := ?_) ?_ ?_ ?_); rotate_left; (with_reducible assumption); rotate_left; (focus first | exact Nat.le_refl _ | omega | (simp; done) | (simp; omega)))))
    clear hb
    go_wp2_with fail
    refine (V2.out _).mono ?_
    rintro e w2 ⟨rfl, hb⟩
    have q20 := keep_below hb q10
    have q21 := keep_below hb q11
    have q22 := keep_below hb q12
    have q23 := keep_below hb q13
    have g20 := keep_below hb g10
    have g21 := keep_below hb g11
    have g22 := keep_below hb g12
    have B2 := below_via hb B1 B1.size
    clear hb B1 q10 q11 q12 q13 g10 g11 g12
    go_wp2_with (first | (go_at_call 43; refine (specIn _ _ _ _).mono ?_; rintro e w' ⟨rfl, rfl⟩) | (go_at_call 45; refine (implIn _ _ _ _).mono ?_; rintro e w' ⟨rfl, rfl⟩))
    refine (H1.out _ g20 g21 g22).mono ?_
    rintro e w3 ⟨rfl, hb⟩
    have q30 := keep_below hb q20
    have q31 := keep_below hb q21
    have q32 := keep_below hb q22
    have q33 := keep_below hb q23
    have g30 := keep_below hb g20
    have g31 := keep_below hb g21
    have g32 := keep_below hb g22
    have B3 := below_via hb B2 B2.size
    clear hb B2 q20 q21 q22 q23 g20 g21 g22
    go_wp2_with fail
    refine (H2.out _ g30 g31 g32).mono ?_
    rintro e w4 ⟨rfl, hb⟩
    have q40 := keep_below hb q30
    have q41 := keep_below hb q31
    have q42 := keep_below hb q32
    have q43 := keep_below hb q33
    have g40 := keep_below hb g30
    have g41 := keep_below hb g31
    have g42 := keep_below hb g32
    have B4 := below_via hb B3 B3.size
    clear hb B3 q30 q31 q32 q33 g30 g31 g32
    go_wp2_with fail
    go_ret
    exact ⟨rfl, B4⟩
  rw [show askC s wd ht n m hs cs ax ay bx cy nn = 0 by unfold askC; rw [h0, h1, h2, h3, h4, h5]; rfl]
  have hz := (ter_yes h0).1
  have H1 := Lib.hid (fun W t0 t1 t2 => specHas s wd ht ax ay (.bool true) (.bool true) pb W hz t0 t1 t2)
  have H2 := Lib.hid (fun W t0 t1 t2 => specHas s wd ht bx cy (.bool true) (.bool true) pb W hz t0 t1 t2)
  rw [h4] at H1
  rw [h5] at H2
  clear h0 h1 h2
  go_enter Try.func55, Try.ntmps55
  go_wp2_with fail
  refine A1.out.mono ?_
  rintro e w' ⟨rfl, kd, rfl⟩
  go_wp2_with fail
  refine (V1.out _).mono ?_
  rintro e w1 ⟨rfl, hb⟩
  have lb : w.heap.size + 1 < w1.heap.size := by have h := hb.size; simp at h; omega
  have q10 : w1.cell? ⟨w.heap.size, 0, none⟩ = some (.int .i64 ax) := by (((try dsimp only); (repeat' apply And.intro) <;> (repeat (first | with_reducible assumption | (with_reducible refine keep_drew ?_) | (with_reducible refine keep_drewN ?_) | ((with_reducible refine keep_new _ _ _ _ _ _ ?_ ?_) <;> (first | rfl | (simp; done) | omega)) | (with_reducible refine keep_alloc _ ?_) | ((with_reducible refine keep_set _ ?_ ?_); (focus first | omega | (simp; done) | (simp; omega))) | ((with_reducible refine keep_set' _ ?_ ?_); (focus first | omega | (simp; done))) | ((with_reducible refine keep_same (u := ?_) _ ?_); rotate_left) | ((with_reducible refine keep_setA _ ?_ ?_); (focus first | omega | (simp; done) | (simp; omega))) | ((with_reducible refine keep_below (w := ?_) ?_ ?_); rotate_left; (with_reducible assumption))))))
  have q11 : w1.cell? ⟨w.heap.size, 1, none⟩ = some (.int .i64 ay) := by (((try dsimp only); (repeat' apply And.intro) <;> (repeat (first | with_reducible assumption | (with_reducible refine keep_drew ?_) | (with_reducible refine keep_drewN ?_) | ((with_reducible refine keep_new _ _ _ _ _ _ ?_ ?_) <;> (first | rfl | (simp; done) | omega)) | (with_reducible refine keep_alloc _ ?_) | ((with_reducible refine keep_set _ ?_ ?_); (focus first | omega | (simp; done) | (simp; omega))) | ((with_reducible refine keep_set' _ ?_ ?_); (focus first | omega | (simp; done))) | ((with_reducible refine keep_same (u := ?_) _ ?_); rotate_left) | ((with_reducible refine keep_setA _ ?_ ?_); (focus first | omega | (simp; done) | (simp; omega))) | ((with_reducible refine keep_below (w := ?_) ?_ ?_); rotate_left; (with_reducible assumption))))))
  have q12 : w1.cell? ⟨w.heap.size + 1, 0, none⟩ = some (.int .i64 bx) := by (((try dsimp only); (repeat' apply And.intro) <;> (repeat (first | with_reducible assumption | (with_reducible refine keep_drew ?_) | (with_reducible refine keep_drewN ?_) | ((with_reducible refine keep_new _ _ _ _ _ _ ?_ ?_) <;> (first | rfl | (simp; done) | omega)) | (with_reducible refine keep_alloc _ ?_) | ((with_reducible refine keep_set _ ?_ ?_); (focus first | omega | (simp; done) | (simp; omega))) | ((with_reducible refine keep_set' _ ?_ ?_); (focus first | omega | (simp; done))) | ((with_reducible refine keep_same (u := ?_) _ ?_); rotate_left) | ((with_reducible refine keep_setA _ ?_ ?_); (focus first | omega | (simp; done) | (simp; omega))) | ((with_reducible refine keep_below (w := ?_) ?_ ?_); rotate_left; (with_reducible assumption))))))
  have q13 : w1.cell? ⟨w.heap.size + 1, 1, none⟩ = some (.int .i64 cy) := by (((try dsimp only); (repeat' apply And.intro) <;> (repeat (first | with_reducible assumption | (with_reducible refine keep_drew ?_) | (with_reducible refine keep_drewN ?_) | ((with_reducible refine keep_new _ _ _ _ _ _ ?_ ?_) <;> (first | rfl | (simp; done) | omega)) | (with_reducible refine keep_alloc _ ?_) | ((with_reducible refine keep_set _ ?_ ?_); (focus first | omega | (simp; done) | (simp; omega))) | ((with_reducible refine keep_set' _ ?_ ?_); (focus first | omega | (simp; done))) | ((with_reducible refine keep_same (u := ?_) _ ?_); rotate_left) | ((with_reducible refine keep_setA _ ?_ ?_); (focus first | omega | (simp; done) | (simp; omega))) | ((with_reducible refine keep_below (w := ?_) ?_ ?_); rotate_left; (with_reducible assumption))))))
  have g10 := keep_below hb (keep_drewN (n := kd) (keep_alloc (.cells #[.int .i64 bx, .int .i64 cy] 30) (keep_alloc (.cells #[.int .i64 ax, .int .i64 ay] 30) HC.out.1)))
  have g11 := keep_below hb (keep_drewN (n := kd) (keep_alloc (.cells #[.int .i64 bx, .int .i64 cy] 30) (keep_alloc (.cells #[.int .i64 ax, .int .i64 ay] 30) HC.out.2.1)))
  have g12 := keep_below hb (keep_drewN (n := kd) (keep_alloc (.cells #[.int .i64 bx, .int .i64 cy] 30) (keep_alloc (.cells #[.int .i64 ax, .int .i64 ay] 30) HC.out.2.2)))
  have B1 : Below w.heap.size w w1 := (by repeat (first | with_reducible exact Below.refl _ _ | with_reducible assumption | (with_reducible refine Below.drew ?_) | (with_reducible refine below_drewN ?_ _) | ((with_reducible refine Below.alloc ?_ ?_ _); rotate_left; (focus first | exact Nat.le_refl _ | omega | (simp; done) | (simp; omega))) | ((with_reducible refine Below.setCell ?_ ?_ _); rotate_left; (focus first | exact Nat.le_refl _ | omega | (simp; done) | (simp; omega))) | ((with_reducible refine below_via (W := ?_) ?_ ?_ ?_); rotate_left; (with_reducible assumption); rotate_left; (focus first | exact Nat.le_refl _ | omega | (simp; done) | (simp; omega)))))
  clear hb
  go_wp2_with fail
  refine (V2.out _).mono ?_
  rintro e w2 ⟨rfl, hb⟩
  have q20 := keep_below hb q10
  have q21 := keep_below hb q11
  have q22 := keep_below hb q12
  have q23 := keep_below hb q13
  have g20 := keep_below hb g10
  have g21 := keep_below hb g11
  have g22 := keep_below hb g12
  have B2 := below_via hb B1 B1.size
  clear hb B1 q10 q11 q12 q13 g10 g11 g12
  go_wp2_with (first | (go_at_call 43; refine (specIn _ _ _ _).mono ?_; rintro e w' ⟨rfl, rfl⟩) | (go_at_call 45; refine (implIn _ _ _ _).mono ?_; rintro e w' ⟨rfl, rfl⟩))
  refine (H1.out _ g20 g21 g22).mono ?_
  rintro e w3 ⟨rfl, hb⟩
  have q30 := keep_below hb q20
  have q31 := keep_below hb q21
  have q32 := keep_below hb q22
  have q33 := keep_below hb q23
  have g30 := keep_below hb g20
  have g31 := keep_below hb g21
  have g32 := keep_below hb g22
  have B3 := below_via hb B2 B2.size
  clear hb B2 q20 q21 q22 q23 g20 g21 g22
  go_wp2_with fail
  refine (H2.out _ g30 g31 g32).mono ?_
  rintro e w4 ⟨rfl, hb⟩
  have q40 := keep_below hb q30
  have q41 := keep_below hb q31
  have q42 := keep_below hb q32
  have q43 := keep_below hb q33
  have g40 := keep_below hb g30
  have g41 := keep_below hb g31
  have g42 := keep_below hb g32
  have B4 := below_via hb B3 B3.size
  clear hb B3 q30 q31 q32 q33 g30 g31 g32
  go_wp2_with fail
  go_ret
  exact ⟨rfl, B4⟩

end Go.Proofs.Ytpgjllpiefpjjaa.WalkPo
