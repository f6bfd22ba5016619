/- The first highest grid point: the reference's and the program's. -/
import Derived.Test.YtgondkjephojjabWalkW
import Derived.Deep.RegionHeld3
import Derived.WalkLawsBesides
namespace Go.Proofs.Ytgondkjephojjab.WalkO
open Go Go.RowKit Go.Proofs.Ytgondkjephojjab.Base Go.Proofs.Ytgondkjephojjab.Plain Go.Proofs.Ytgondkjephojjab.Words Go.Proofs.Ytgondkjephojjab.Ints Go.Proofs.Ytgondkjephojjab.WalkN Go.Proofs.Ytgondkjephojjab.WalkP Go.Proofs.Ytgondkjephojjab.WalkI Go.Proofs.Ytgondkjephojjab.WalkU Go.Proofs.Ytgondkjephojjab.WalkV Go.Proofs.Ytgondkjephojjab.PlainT Go.Proofs.Ytgondkjephojjab.WalkW
set_option linter.unusedVariables false
set_option linter.unusedSimpArgs false

/-- where the first greatest one of the first k numbers stands -/
def topN (zs : List Int) : Nat → Nat
  | 0 => 0
  | k + 1 => if zs.getD (topN zs k) 0 < zs.getD k 0 then k else topN zs k
theorem topN_one (zs : List Int) : topN zs 1 = 0 := by
  unfold topN
  split <;> rfl
theorem topN_lt (zs : List Int) : ∀ k, 0 < k → topN zs k < k
  | 0, h => absurd h (by omega)
  | k + 1, _ => by
    unfold topN
    split
    · omega
    · rcases Nat.eq_zero_or_pos k with h | h
      · subst h; show 0 < 1; omega
      · have := topN_lt zs k h; omega
theorem topN_max (zs : List Int) : ∀ k j, j < k → zs.getD j 0 ≤ zs.getD (topN zs k) 0
  | 0, j, h => absurd h (by omega)
  | k + 1, j, h => by
    unfold topN
    split
    · rename_i hl
      by_cases e : j = k
      · rw [e]; omega
      · have := topN_max zs k j (by omega); omega
    · rename_i hl
      by_cases e : j = k
      · rw [e]; omega
      · exact topN_max zs k j (by omega)
theorem topN_first (zs : List Int) : ∀ k j, j < topN zs k → zs.getD j 0 < zs.getD (topN zs k) 0
  | 0, j, h => absurd h (by show ¬ j < 0; omega)
  | k + 1, j, h => by
    unfold topN at h ⊢
    split at h
    · rename_i hl
      rw [if_pos hl]
      have := topN_max zs k j h
      omega
    · rename_i hl
      rw [if_neg hl]
      exact topN_first zs k j h
theorem topN_up {zs : List Int} {k : Nat} (h : zs.getD (topN zs k) 0 < zs.getD k 0) : topN zs (k + 1) = k := by rw [topN, if_pos h]
theorem topN_stay {zs : List Int} {k : Nat} (h : ¬ zs.getD (topN zs k) 0 < zs.getD k 0) : topN zs (k + 1) = topN zs k := by rw [topN, if_neg h]

theorem implMax (A : Option Addr) (n c : Nat) (zs : List Int) (w : World) (ra : Rd w A n zs) (hn : n ≤ maxLen) (h0 : 0 < n) :
    Calls Try.prog 61 #[.slice A n c] w fun e w' => e = .returned (.int .i64 (zs.getD (topN zs n) 0)) ∧ w = w' := by
  unfold maxLen at hn
  have RA := Lib.hid ra
  clear ra
  obtain ⟨ad, rfl, hc⟩ := RA.out.at_ h0
  have hc0 : w.cell? ad = some (.int .i64 (zs.getD 0 0)) := hc
  generalize hx : zs.getD 0 0 = x at hc0
  have HX := Lib.hid hx
  clear hc hx
  go_enter Try.func61, Try.ntmps61
  go_wp2
  clear hc0
  go_loop [3, 4] (fun m i => ∃ k : Nat, ∃ M : Int, 1 ≤ k ∧ k ≤ n ∧ i = .int .i64 k ∧ m = .int .i64 M ∧ Hid (M = zs.getD (topN zs k) 0)) (fun _ i => n - (intOf i).toNat)
  case atStart => exact ⟨1, _, by omega, by omega, rfl, rfl, Lib.hid (by rw [topN_one, HX.out])⟩
  case round =>
    obtain ⟨k, M, h1, hk, rfl, rfl, HM⟩ := hrel
    by_cases hlt : k < n
    · obtain ⟨ad', hA, hd⟩ := RA.out.at_ hlt
      injection hA with hA
      subst hA
      generalize hy : zs.getD k 0 = y at hd
      have HY := Lib.hid hy
      clear hy
      by_cases hm : M < y
      · have HT : Hid (y = zs.getD (topN zs (k + 1)) 0) := Lib.hid (by rw [topN_up (by rw [← HM.out, HY.out]; exact hm), HY.out])
        go_wp2
        go_round
        case rel => exact ⟨k + 1, _, by omega, by omega, by go_num, by first | rfl | (congr 1; omega), HT⟩
        case measure => simp [intOf]; omega
      · have HT : Hid (M = zs.getD (topN zs (k + 1)) 0) := Lib.hid (by rw [topN_stay (by rw [← HM.out, HY.out]; exact hm), HM.out])
        go_wp2
        all_goals
          go_round
          case rel => exact ⟨k + 1, _, by omega, by omega, by go_num, by first | rfl | (congr 1; omega), HT⟩
          case measure => simp [intOf]; omega
    · go_wp2
      go_ret
      obtain rfl : k = n := by omega
      exact ⟨ret_int HM.out, rfl⟩

theorem implIdx (A : Option Addr) (n c : Nat) (zs : List Int) (v : Int) (w : World) (ra : Rd w A n zs) (hn : n ≤ maxLen) (h0 : 0 < n) (hv : v = zs.getD (topN zs n) 0) :
    Calls Try.prog 62 #[.slice A n c, .int .i64 v] w fun e w' => e = .returned (.int .i64 (topN zs n : Int)) ∧ w = w' := by
  unfold maxLen at hn
  have RA := Lib.hid ra
  have HV := Lib.hid hv
  clear ra hv
  have ht := topN_lt zs n h0
  have HT := Lib.hid (topN_first zs n)
  generalize topN zs n = t at ht HT HV
  go_enter Try.func62, Try.ntmps62
  go_wp2
  go_loop [5, 8] (fun _ i => ∃ k : Nat, k ≤ t ∧ i = .int .i64 k) (fun _ i => n - (intOf i).toNat)
  case atStart => exact ⟨0, Nat.zero_le _, rfl⟩
  case round =>
    obtain ⟨k, hk, rfl⟩ := hrel
    have hlt : k < n := by omega
    obtain ⟨ad, rfl, hd⟩ := RA.out.at_ hlt
    by_cases he : k = t
    · subst he
      rw [← HV.out] at hd
      go_wp2
      go_ret
      exact ⟨rfl, rfl⟩
    · have hl := HT.out k (by omega)
      rw [← HV.out] at hl
      generalize zs.getD k 0 = y at hd hl
      have hb : (v == y) = false := by simp; omega
      go_wp2
      go_round
      case rel => exact ⟨k + 1, by omega, by go_num⟩
      case measure => simp [intOf]; omega

/-- what HighestPoint gives -/
def topR (s wd ht : Int) (n m : Nat) (hs cs : List Int) : Int × Int × Int × Int :=
  bif terB s wd ht n m hs cs then ((topN hs n : Int) % wd * s, (topN hs n : Int) / wd * s, hs.getD (topN hs n) 0, 0) else (0, 0, 0, 1)
def topV (s wd ht : Int) (n m : Nat) (hs cs : List Int) : Value := .tuple #[.agg #[.int .i64 (topR s wd ht n m hs cs).1, .int .i64 (topR s wd ht n m hs cs).2.1], .int .i64 (topR s wd ht n m hs cs).2.2.1, .int .i64 (topR s wd ht n m hs cs).2.2.2]
theorem topV_eq {s wd ht : Int} {n m : Nat} {hs cs : List Int} {a b c d : Int} (h : topR s wd ht n m hs cs = (a, b, c, d)) : topV s wd ht n m hs cs = .tuple #[.agg #[.int .i64 a, .int .i64 b], .int .i64 c, .int .i64 d] := by unfold topV; rw [h]
theorem top_facts {s wd ht : Int} {n t : Nat} (hz : sizeB s wd ht = true) (hn : (n : Int) = wd * ht) (ht' : t < n) :
    IntKind.i64.wrap ((t : Int).tmod wd) = (t : Int) % wd ∧ IntKind.i64.wrap ((t : Int).tdiv wd) = (t : Int) / wd ∧ IntKind.i64.wrap ((t : Int) % wd * s) = (t : Int) % wd * s ∧ IntKind.i64.wrap ((t : Int) / wd * s) = (t : Int) / wd * s ∧ (t : Int).tmod wd = (t : Int) % wd ∧ n ≤ 576 := by
  have b := sizeB_yes hz
  have mm := mul_bound (a := wd) (b := ht) (A := 24) (B := 24) (by omega) (by omega) (by omega) (by omega) (by omega) (by omega)
  have r0 := Int.emod_nonneg (t : Int) (show wd ≠ 0 by omega)
  have r1 := Int.emod_lt_of_pos (t : Int) (show 0 < wd by omega)
  have q0 : 0 ≤ (t : Int) / wd := Int.ediv_nonneg (by omega) (by omega)
  have q1 : (t : Int) / wd ≤ t := Int.ediv_le_self _ (by omega)
  have m1 := mul_bound (a := (t : Int) % wd) (b := s) (A := 24) (B := 10000) (by omega) (by omega) (by omega) (by omega) (by omega) (by omega)
  have m2 := mul_bound (a := (t : Int) / wd) (b := s) (A := 576) (B := 10000) (by omega) (by omega) (by omega) (by omega) (by omega) (by omega)
  have e1 : (t : Int).tmod wd = (t : Int) % wd := Int.tmod_eq_emod_of_nonneg (by omega)
  have e2 : (t : Int).tdiv wd = (t : Int) / wd := Int.tdiv_eq_ediv_of_nonneg (by omega)
  refine ⟨by rw [e1]; exact IntWalk.i64_in _ (by omega), by rw [e2]; exact IntWalk.i64_in _ (by omega), IntWalk.i64_in _ (by omega), IntWalk.i64_in _ (by omega), e1, by omega⟩

set_option maxHeartbeats 4000000 in
theorem specTop (s wd ht : Int) (A B : Option Addr) (n c m d : Nat) (hs cs : List Int) (w : World) (ra : Rd w A n hs) (rb : Rd w B m cs) (hn : n ≤ maxLen) (hm : m ≤ maxLen) :
    Calls Try.prog 27 #[.agg #[.int .i64 s, .int .i64 wd, .int .i64 ht, .slice A n c, .slice B m d]] w fun e w' => e = .returned (topV s wd ht n m hs cs) ∧ Below w.heap.size w w' := by
  have A1 := Lib.hid (specTer s wd ht A B n c m d hs cs w.heap.size ((w.alloc (.cells #[.int .i64 s, .int .i64 wd, .int .i64 ht, .slice A n c, .slice B m d] 34)).alloc (.cells #[.int .i64 0, .int .i64 0] 27)) ((ra.alloc _).alloc _) ((rb.alloc _).alloc _) hn hm (by (((try dsimp only); (repeat' apply And.intro) <;> (repeat (first | with_reducible assumption | (with_reducible refine keep_drew ?_) | (with_reducible refine keep_drewN ?_) | ((with_reducible refine keep_new _ _ _ _ _ _ ?_ ?_) <;> (first | rfl | (simp; done) | omega)) | (with_reducible refine keep_alloc _ ?_) | ((with_reducible refine keep_set _ ?_ ?_); (focus first | omega | (simp; done) | (simp; omega))) | ((with_reducible refine keep_set' _ ?_ ?_); (focus first | omega | (simp; done))) | ((with_reducible refine keep_same (u := ?_) _ ?_); rotate_left) | ((with_reducible refine keep_setA _ ?_ ?_); (focus first | omega | (simp; done) | (simp; omega))) | ((with_reducible refine keep_below (w := ?_) ?_ ?_); rotate_left; (with_reducible assumption))))))) (by (((try dsimp only); (repeat' apply And.intro) <;> (repeat (first | with_reducible assumption | (with_reducible refine keep_drew ?_) | (with_reducible refine keep_drewN ?_) | ((with_reducible refine keep_new _ _ _ _ _ _ ?_ ?_) <;> (first | rfl | (simp; done) | omega)) | (with_reducible refine keep_alloc _ ?_) | ((with_reducible refine keep_set _ ?_ ?_); (focus first | omega | (simp; done) | (simp; omega))) | ((with_reducible refine keep_set' _ ?_ ?_); (focus first | omega | (simp; done))) | ((with_reducible refine keep_same (u := ?_) _ ?_); rotate_left) | ((with_reducible refine keep_setA _ ?_ ?_); (focus first | omega | (simp; done) | (simp; omega))) | ((with_reducible refine keep_below (w := ?_) ?_ ?_); rotate_left; (with_reducible assumption))))))) (by (((try dsimp only); (repeat' apply And.intro) <;> (repeat (first | with_reducible assumption | (with_reducible refine keep_drew ?_) | (with_reducible refine keep_drewN ?_) | ((with_reducible refine keep_new _ _ _ _ _ _ ?_ ?_) <;> (first | rfl | (simp; done) | omega)) | (with_reducible refine keep_alloc _ ?_) | ((with_reducible refine keep_set _ ?_ ?_); (focus first | omega | (simp; done) | (simp; omega))) | ((with_reducible refine keep_set' _ ?_ ?_); (focus first | omega | (simp; done))) | ((with_reducible refine keep_same (u := ?_) _ ?_); rotate_left) | ((with_reducible refine keep_setA _ ?_ ?_); (focus first | omega | (simp; done) | (simp; omega))) | ((with_reducible refine keep_below (w := ?_) ?_ ?_); rotate_left; (with_reducible assumption))))))) (by (((try dsimp only); (repeat' apply And.intro) <;> (repeat (first | with_reducible assumption | (with_reducible refine keep_drew ?_) | (with_reducible refine keep_drewN ?_) | ((with_reducible refine keep_new _ _ _ _ _ _ ?_ ?_) <;> (first | rfl | (simp; done) | omega)) | (with_reducible refine keep_alloc _ ?_) | ((with_reducible refine keep_set _ ?_ ?_); (focus first | omega | (simp; done) | (simp; omega))) | ((with_reducible refine keep_set' _ ?_ ?_); (focus first | omega | (simp; done))) | ((with_reducible refine keep_same (u := ?_) _ ?_); rotate_left) | ((with_reducible refine keep_setA _ ?_ ?_); (focus first | omega | (simp; done) | (simp; omega))) | ((with_reducible refine keep_below (w := ?_) ?_ ?_); rotate_left; (with_reducible assumption))))))) (by (((try dsimp only); (repeat' apply And.intro) <;> (repeat (first | with_reducible assumption | (with_reducible refine keep_drew ?_) | (with_reducible refine keep_drewN ?_) | ((with_reducible refine keep_new _ _ _ _ _ _ ?_ ?_) <;> (first | rfl | (simp; done) | omega)) | (with_reducible refine keep_alloc _ ?_) | ((with_reducible refine keep_set _ ?_ ?_); (focus first | omega | (simp; done) | (simp; omega))) | ((with_reducible refine keep_set' _ ?_ ?_); (focus first | omega | (simp; done))) | ((with_reducible refine keep_same (u := ?_) _ ?_); rotate_left) | ((with_reducible refine keep_setA _ ?_ ?_); (focus first | omega | (simp; done) | (simp; omega))) | ((with_reducible refine keep_below (w := ?_) ?_ ?_); rotate_left; (with_reducible assumption))))))))
  cases hT : terB s wd ht n m hs cs
  · have HF := Lib.hid (topV_eq (show topR s wd ht n m hs cs = (0, 0, 0, 1) by unfold topR; rw [hT]; rfl))
    rw [hT] at A1
    clear hT ra rb
    go_enter Try.func27, Try.ntmps27
    go_wp2_with (go_at_call 54; refine A1.out.mono ?_; rintro e w' ⟨rfl, k, rfl⟩)
    exact bodyPost_ret (v := topV s wd ht n m hs cs) (by rw [HF.out]; simp [results, Try.results27, go_sem]) rfl ⟨rfl, (by repeat (first | with_reducible exact Below.refl _ _ | with_reducible assumption | (with_reducible refine Below.drew ?_) | (with_reducible refine below_drewN ?_ _) | ((with_reducible refine Below.alloc ?_ ?_ _); rotate_left; (focus first | exact Nat.le_refl _ | omega | (simp; done) | (simp; omega))) | ((with_reducible refine Below.setCell ?_ ?_ _); rotate_left; (focus first | exact Nat.le_refl _ | omega | (simp; done) | (simp; omega))) | ((with_reducible refine below_via (W := ?_) ?_ ?_ ?_); rotate_left; (with_reducible assumption); rotate_left; (focus first | exact Nat.le_refl _ | omega | (simp; done) | (simp; omega)))))⟩
  · have ty := ter_yes hT
    have b := sizeB_yes ty.1
    have np : 0 < n := by have h1 := Int.mul_pos (a := wd) (b := ht) (by omega) (by omega); have h2 := ty.2.1; omega
    have tf := top_facts ty.1 ty.2.1 (topN_lt hs n np)
    have n6 : n ≤ 576 := tf.2.2.2.2.2
    have HF := Lib.hid (topV_eq (show topR s wd ht n m hs cs = _ by unfold topR; rw [hT]))
    have RA := Lib.hid ((ra.alloc (.cells #[.int .i64 s, .int .i64 wd, .int .i64 ht, .slice A n c, .slice B m d] 34)).alloc (.cells #[.int .i64 0, .int .i64 0] 27))
    rw [hT] at A1
    have RW := Lib.hid ra
    clear hT ra rb ty
    go_enter Try.func27, Try.ntmps27
    go_wp2_with (go_at_call 54; refine A1.out.mono ?_; rintro e w' ⟨rfl, k, rfl⟩)
    go_loopw [5, 6] (fun bt i wr => ∃ k q : Nat, 1 ≤ k ∧ k ≤ n ∧ i = .int .i64 k ∧ bt = .int .i64 (topN hs k : Int) ∧ wr = ((w.alloc (.cells #[.int .i64 s, .int .i64 wd, .int .i64 ht, .slice A n c, .slice B m d] 34)).alloc (.cells #[.int .i64 0, .int .i64 0] 27)).drewN q) (fun _ i _ => n - (intOf i).toNat)
    case atStart => exact ⟨1, _, by omega, by omega, rfl, by rw [topN_one]; rfl, rfl⟩
    case round =>
      obtain ⟨k, q, h1, hk, rfl, rfl, rfl⟩ := hrel
      by_cases hlt : k < n
      · have tl := topN_lt hs k (by omega)
        obtain ⟨ad, rfl, hd⟩ := RA.out.at_ hlt
        obtain ⟨ad', hA, he⟩ := RA.out.at_ (show topN hs k < n by omega)
        injection hA with hA
        subst hA
        have i0 : (0 : Int) ≤ (k : Int) := by omega
        have i1 : (k : Int) < (n : Int) := by omega
        by_cases hc : hs.getD (topN hs k) 0 < hs.getD k 0
        · have HU := Lib.hid (topN_up hc)
          generalize hs.getD k 0 = y at hd hc
          generalize topN hs k = t at tl he hc HU
          generalize hs.getD t 0 = x at he hc
          have i2 : (t : Int) < (n : Int) := by omega
          have i3 : (0 : Int) ≤ (t : Int) := by omega
          clear tf
          go_wp2_with fail
          go_quiet (fail)
          go_wp2_with fail
          go_roundw
          case rel => exact ⟨k + 1, _, by omega, by omega, by go_num, by rw [HU.out], rfl⟩
          case measure => simp [intOf]; omega
        · have HU := Lib.hid (topN_stay hc)
          generalize hs.getD k 0 = y at hd hc
          generalize topN hs k = t at tl he hc HU
          generalize hs.getD t 0 = x at he hc
          have i2 : (t : Int) < (n : Int) := by omega
          have i3 : (0 : Int) ≤ (t : Int) := by omega
          clear tf
          go_wp2_with fail
          go_quiet (fail)
          go_wp2_with fail
          go_roundw
          case rel => exact ⟨k + 1, _, by omega, by omega, by go_num, by rw [HU.out], rfl⟩
          case measure => simp [intOf]; omega
      · obtain rfl : k = n := by omega
        have tl := topN_lt hs k np
        have tl2 := tl
        obtain ⟨ad, rfl, he⟩ := RA.out.at_ tl
        generalize topN hs k = t at tl tl2 he tf HF
        generalize hs.getD t 0 = x at he HF
        obtain ⟨e1, e2, e3, e4, e5, e6⟩ := tf
        obtain ⟨ad2, hA2, he2⟩ := RW.out.at_ tl2
        injection hA2 with hA2
        subst hA2
        have hb := World.block_lt_of_cell? _ _ he2
        clear he2
        have i2 : (t : Int) < (k : Int) := by omega
        have i3 : (0 : Int) ≤ (t : Int) := by omega
        have hw0 : ¬ wd = 0 := by omega
        generalize (t : Int) % wd = r at e1 e3 e5 HF
        have e7 : IntKind.i64.wrap ((t : Int) / wd) = (t : Int) / wd := by have q0 : 0 ≤ (t : Int) / wd := Int.ediv_nonneg (by omega) (by omega); have q1 : (t : Int) / wd ≤ t := Int.ediv_le_self _ (by omega); exact IntWalk.i64_in _ (by omega)
        clear hlt
        go_wp2_with fail
        go_region_held3 (fun w' => w'.cell? ⟨w.heap.size, 0, none⟩ = some (.int .i64 s) ∧ w'.cell? ⟨w.heap.size, 1, none⟩ = some (.int .i64 wd) ∧ w'.cell? ⟨w.heap.size, 3, none⟩ = some (.slice (some ad) k c) ∧ w'.cell? (ad.add t) = some (.int .i64 x)) ((((try dsimp only); (repeat' apply And.intro) <;> (repeat (first | with_reducible assumption | (with_reducible refine keep_drew ?_) | (with_reducible refine keep_drewN ?_) | ((with_reducible refine keep_new _ _ _ _ _ _ ?_ ?_) <;> (first | rfl | (simp; done) | omega)) | (with_reducible refine keep_alloc _ ?_) | ((with_reducible refine keep_set _ ?_ ?_); (focus first | omega | (simp; done) | (simp; omega))) | ((with_reducible refine keep_set' _ ?_ ?_); (focus first | omega | (simp; done))) | ((with_reducible refine keep_same (u := ?_) _ ?_); rotate_left) | ((with_reducible refine keep_setA _ ?_ ?_); (focus first | omega | (simp; done) | (simp; omega))) | ((with_reducible refine keep_below (w := ?_) ?_ ?_); rotate_left; (with_reducible assumption))))))) (fail)
        all_goals (clear e1 e2 e3 e4 e5 e7; go_wp2_with fail; exact bodyPost_ret (v := topV s wd ht k m hs cs) (by rw [HF.out]; simp [results, Try.results27, go_sem]) rfl ⟨rfl, (by repeat (first | with_reducible exact Below.refl _ _ | with_reducible assumption | (with_reducible refine Below.drew ?_) | (with_reducible refine below_drewN ?_ _) | ((with_reducible refine Below.alloc ?_ ?_ _); rotate_left; (focus first | exact Nat.le_refl _ | omega | (simp; done) | (simp; omega))) | ((with_reducible refine Below.setCell ?_ ?_ _); rotate_left; (focus first | exact Nat.le_refl _ | omega | (simp; done) | (simp; omega))) | ((with_reducible refine below_via (W := ?_) ?_ ?_ ?_); rotate_left; (with_reducible assumption); rotate_left; (focus first | exact Nat.le_refl _ | omega | (simp; done) | (simp; omega)))))⟩)

set_option maxHeartbeats 4000000 in
theorem implTop (s wd ht : Int) (A B : Option Addr) (n c m d : Nat) (hs cs : List Int) (w : World) (ra : Rd w A n hs) (rb : Rd w B m cs) (hn : n ≤ maxLen) (hm : m ≤ maxLen) :
    Calls Try.prog 28 #[.agg #[.int .i64 s, .int .i64 wd, .int .i64 ht, .slice A n c, .slice B m d]] w fun e w' => e = .returned (topV s wd ht n m hs cs) ∧ Below w.heap.size w w' := by
  have A1 := Lib.hid (fun W (hb : Below w.heap.size w W) => implTer s wd ht A B n c m d hs cs W (Rd.below hb ra) (Rd.below hb rb) hn hm)
  cases hT : terB s wd ht n m hs cs
  · have HF := Lib.hid (topV_eq (show topR s wd ht n m hs cs = (0, 0, 0, 1) by unfold topR; rw [hT]; rfl))
    rw [hT] at A1
    clear hT ra rb
    go_enter Try.func28, Try.ntmps28
    go_wp2_with fail
    refine (A1.out _ (by repeat (first | with_reducible exact Below.refl _ _ | with_reducible assumption | (with_reducible refine Below.drew ?_) | (with_reducible refine below_drewN ?_ _) | ((with_reducible refine Below.alloc ?_ ?_ _); rotate_left; (focus first | exact Nat.le_refl _ | omega | (simp; done) | (simp; omega))) | ((with_reducible refine Below.setCell ?_ ?_ _); rotate_left; (focus first | exact Nat.le_refl _ | omega | (simp; done) | (simp; omega))) | ((with_reducible refine below_via (W := ?_) ?_ ?_ ?_); rotate_left; (with_reducible assumption); rotate_left; (focus first | exact Nat.le_refl _ | omega | (simp; done) | (simp; omega)))))).mono ?_
    rintro e w1 ⟨rfl, hb1⟩
    have s1 := hb1.size
    simp at s1
    have t : w1.cell? ⟨w.heap.size + 1, 0, none⟩ = some (.int .i64 0) ∧ w1.cell? ⟨w.heap.size + 1, 1, none⟩ = some (.int .i64 0) := by (((try dsimp only); (repeat' apply And.intro) <;> (repeat (first | with_reducible assumption | (with_reducible refine keep_drew ?_) | (with_reducible refine keep_drewN ?_) | ((with_reducible refine keep_new _ _ _ _ _ _ ?_ ?_) <;> (first | rfl | (simp; done) | omega)) | (with_reducible refine keep_alloc _ ?_) | ((with_reducible refine keep_set _ ?_ ?_); (focus first | omega | (simp; done) | (simp; omega))) | ((with_reducible refine keep_set' _ ?_ ?_); (focus first | omega | (simp; done))) | ((with_reducible refine keep_same (u := ?_) _ ?_); rotate_left) | ((with_reducible refine keep_setA _ ?_ ?_); (focus first | omega | (simp; done) | (simp; omega))) | ((with_reducible refine keep_below (w := ?_) ?_ ?_); rotate_left; (with_reducible assumption))))))
    obtain ⟨hc1, hf1⟩ := bcell hb1
    have z1 : w.heap.size + 1 < w1.heap.size := by omega
    obtain ⟨t0, t1⟩ := t
    go_wp2_with fail
    refine ret_world fun W hW => ?_
    have c0 : W.cell? ⟨w.heap.size + 1, 0, none⟩ = some (.int .i64 0) := by rw [hW]; (((try dsimp only); (repeat' apply And.intro) <;> (repeat (first | with_reducible assumption | (with_reducible refine keep_drew ?_) | (with_reducible refine keep_drewN ?_) | ((with_reducible refine keep_new _ _ _ _ _ _ ?_ ?_) <;> (first | rfl | (simp; done) | omega)) | (with_reducible refine keep_alloc _ ?_) | ((with_reducible refine keep_set _ ?_ ?_); (focus first | omega | (simp; done) | (simp; omega))) | ((with_reducible refine keep_set' _ ?_ ?_); (focus first | omega | (simp; done))) | ((with_reducible refine keep_same (u := ?_) _ ?_); rotate_left) | ((with_reducible refine keep_setA _ ?_ ?_); (focus first | omega | (simp; done) | (simp; omega))) | ((with_reducible refine keep_below (w := ?_) ?_ ?_); rotate_left; (with_reducible assumption))))))
    have c1 : W.cell? ⟨w.heap.size + 1, 1, none⟩ = some (.int .i64 0) := by rw [hW]; (((try dsimp only); (repeat' apply And.intro) <;> (repeat (first | with_reducible assumption | (with_reducible refine keep_drew ?_) | (with_reducible refine keep_drewN ?_) | ((with_reducible refine keep_new _ _ _ _ _ _ ?_ ?_) <;> (first | rfl | (simp; done) | omega)) | (with_reducible refine keep_alloc _ ?_) | ((with_reducible refine keep_set _ ?_ ?_); (focus first | omega | (simp; done) | (simp; omega))) | ((with_reducible refine keep_set' _ ?_ ?_); (focus first | omega | (simp; done))) | ((with_reducible refine keep_same (u := ?_) _ ?_); rotate_left) | ((with_reducible refine keep_setA _ ?_ ?_); (focus first | omega | (simp; done) | (simp; omega))) | ((with_reducible refine keep_below (w := ?_) ?_ ?_); rotate_left; (with_reducible assumption))))))
    exact bodyPost_ret (v := topV s wd ht n m hs cs) (by rw [HF.out]; simp [results, Try.results28, go_sem, c0, c1]) rfl ⟨rfl, by rw [hW]; exact (by repeat (first | with_reducible exact Below.refl _ _ | with_reducible assumption | (with_reducible refine Below.drew ?_) | (with_reducible refine below_drewN ?_ _) | ((with_reducible refine Below.alloc ?_ ?_ _); rotate_left; (focus first | exact Nat.le_refl _ | omega | (simp; done) | (simp; omega))) | ((with_reducible refine Below.setCell ?_ ?_ _); rotate_left; (focus first | exact Nat.le_refl _ | omega | (simp; done) | (simp; omega))) | ((with_reducible refine below_via (W := ?_) ?_ ?_ ?_); rotate_left; (with_reducible assumption); rotate_left; (focus first | exact Nat.le_refl _ | omega | (simp; done) | (simp; omega)))))⟩
  · have ty := ter_yes hT
    have b := sizeB_yes ty.1
    have np : 0 < n := by have h1 := Int.mul_pos (a := wd) (b := ht) (by omega) (by omega); have h2 := ty.2.1; omega
    have tf := top_facts ty.1 ty.2.1 (topN_lt hs n np)
    have HF := Lib.hid (topV_eq (show topR s wd ht n m hs cs = _ by unfold topR; rw [hT]))
    have M1 := Lib.hid (fun W (hb : Below w.heap.size w W) => implMax A n c hs W (Rd.below hb ra) hn np)
    have X1 := Lib.hid (fun W (hb : Below w.heap.size w W) => implIdx A n c hs _ W (Rd.below hb ra) hn np rfl)
    rw [hT] at A1
    have tl := topN_lt hs n np
    generalize topN hs n = t at tf HF M1 X1 tl
    generalize hs.getD t 0 = x at HF M1 X1
    obtain ⟨e1, e2, e3, e4, e5, e6⟩ := tf
    have i3 : (0 : Int) ≤ (t : Int) := by omega
    have hw0 : ¬ wd = 0 := by omega
    generalize (t : Int) % wd = r at e1 e3 e5 HF
    have e7 : IntKind.i64.wrap ((t : Int) / wd) = (t : Int) / wd := by have q0 : 0 ≤ (t : Int) / wd := Int.ediv_nonneg (by omega) (by omega); have q1 : (t : Int) / wd ≤ t := Int.ediv_le_self _ (by omega); exact IntWalk.i64_in _ (by omega)
    clear hT ra rb ty
    go_enter Try.func28, Try.ntmps28
    go_wp2_with fail
    refine (A1.out _ (by repeat (first | with_reducible exact Below.refl _ _ | with_reducible assumption | (with_reducible refine Below.drew ?_) | (with_reducible refine below_drewN ?_ _) | ((with_reducible refine Below.alloc ?_ ?_ _); rotate_left; (focus first | exact Nat.le_refl _ | omega | (simp; done) | (simp; omega))) | ((with_reducible refine Below.setCell ?_ ?_ _); rotate_left; (focus first | exact Nat.le_refl _ | omega | (simp; done) | (simp; omega))) | ((with_reducible refine below_via (W := ?_) ?_ ?_ ?_); rotate_left; (with_reducible assumption); rotate_left; (focus first | exact Nat.le_refl _ | omega | (simp; done) | (simp; omega)))))).mono ?_
    rintro e w1 ⟨rfl, hb1⟩
    have s1 := hb1.size
    simp at s1
    have t : w1.cell? ⟨w.heap.size, 0, none⟩ = some (.int .i64 s) ∧ w1.cell? ⟨w.heap.size, 1, none⟩ = some (.int .i64 wd) ∧ w1.cell? ⟨w.heap.size, 3, none⟩ = some (.slice A n c) ∧ w1.cell? ⟨w.heap.size + 1, 0, none⟩ = some (.int .i64 0) ∧ w1.cell? ⟨w.heap.size + 1, 1, none⟩ = some (.int .i64 0) := by (((try dsimp only); (repeat' apply And.intro) <;> (repeat (first | with_reducible assumption | (with_reducible refine keep_drew ?_) | (with_reducible refine keep_drewN ?_) | ((with_reducible refine keep_new _ _ _ _ _ _ ?_ ?_) <;> (first | rfl | (simp; done) | omega)) | (with_reducible refine keep_alloc _ ?_) | ((with_reducible refine keep_set _ ?_ ?_); (focus first | omega | (simp; done) | (simp; omega))) | ((with_reducible refine keep_set' _ ?_ ?_); (focus first | omega | (simp; done))) | ((with_reducible refine keep_same (u := ?_) _ ?_); rotate_left) | ((with_reducible refine keep_setA _ ?_ ?_); (focus first | omega | (simp; done) | (simp; omega))) | ((with_reducible refine keep_below (w := ?_) ?_ ?_); rotate_left; (with_reducible assumption))))))
    have B1 : Below w.heap.size w w1 := (by repeat (first | with_reducible exact Below.refl _ _ | with_reducible assumption | (with_reducible refine Below.drew ?_) | (with_reducible refine below_drewN ?_ _) | ((with_reducible refine Below.alloc ?_ ?_ _); rotate_left; (focus first | exact Nat.le_refl _ | omega | (simp; done) | (simp; omega))) | ((with_reducible refine Below.setCell ?_ ?_ _); rotate_left; (focus first | exact Nat.le_refl _ | omega | (simp; done) | (simp; omega))) | ((with_reducible refine below_via (W := ?_) ?_ ?_ ?_); rotate_left; (with_reducible assumption); rotate_left; (focus first | exact Nat.le_refl _ | omega | (simp; done) | (simp; omega)))))
    obtain ⟨hc1, hf1⟩ := bcell hb1
    have f0 := hf1 (w.heap.size + 1) 0 (by simp)
    have f1 := hf1 (w.heap.size + 1) 1 (by simp)
    simp at f0 f1
    clear hb1 hc1 hf1
    obtain ⟨t0, t1, t2, t3, t4⟩ := t
    go_wp2_with (first | (go_at_call 61; refine (M1.out _ B1).mono ?_; rintro e w' ⟨rfl, rfl⟩) | (go_at_call 62; refine (X1.out _ B1).mono ?_; rintro e w' ⟨rfl, rfl⟩))
    go_region_held3 (fun w' => w'.cell? ⟨w.heap.size, 0, none⟩ = some (.int .i64 s) ∧ w'.cell? ⟨w.heap.size, 1, none⟩ = some (.int .i64 wd)) ((((try dsimp only); (repeat' apply And.intro) <;> (repeat (first | with_reducible assumption | (with_reducible refine keep_drew ?_) | (with_reducible refine keep_drewN ?_) | ((with_reducible refine keep_new _ _ _ _ _ _ ?_ ?_) <;> (first | rfl | (simp; done) | omega)) | (with_reducible refine keep_alloc _ ?_) | ((with_reducible refine keep_set _ ?_ ?_); (focus first | omega | (simp; done) | (simp; omega))) | ((with_reducible refine keep_set' _ ?_ ?_); (focus first | omega | (simp; done))) | ((with_reducible refine keep_same (u := ?_) _ ?_); rotate_left) | ((with_reducible refine keep_setA _ ?_ ?_); (focus first | omega | (simp; done) | (simp; omega))) | ((with_reducible refine keep_below (w := ?_) ?_ ?_); rotate_left; (with_reducible assumption))))))) (fail)
    all_goals clear e1 e2 e3 e4 e5 e7
    all_goals go_wp2_with fail
    all_goals
      refine ret_world fun W hW => ?_
      have c0 : W.cell? ⟨w.heap.size + 1, 0, none⟩ = some (.int .i64 (r * s)) := by rw [hW]; (((try dsimp only); (repeat' apply And.intro) <;> (repeat (first | with_reducible assumption | (with_reducible refine keep_drew ?_) | (with_reducible refine keep_drewN ?_) | ((with_reducible refine keep_new _ _ _ _ _ _ ?_ ?_) <;> (first | rfl | (simp; done) | omega)) | (with_reducible refine keep_alloc _ ?_) | ((with_reducible refine keep_set _ ?_ ?_); (focus first | omega | (simp; done) | (simp; omega))) | ((with_reducible refine keep_set' _ ?_ ?_); (focus first | omega | (simp; done))) | ((with_reducible refine keep_same (u := ?_) _ ?_); rotate_left) | ((with_reducible refine keep_setA _ ?_ ?_); (focus first | omega | (simp; done) | (simp; omega))) | ((with_reducible refine keep_below (w := ?_) ?_ ?_); rotate_left; (with_reducible assumption))))))
      have c1 : W.cell? ⟨w.heap.size + 1, 1, none⟩ = some (.int .i64 ((t : Int) / wd * s)) := by rw [hW]; (((try dsimp only); (repeat' apply And.intro) <;> (repeat (first | with_reducible assumption | (with_reducible refine keep_drew ?_) | (with_reducible refine keep_drewN ?_) | ((with_reducible refine keep_new _ _ _ _ _ _ ?_ ?_) <;> (first | rfl | (simp; done) | omega)) | (with_reducible refine keep_alloc _ ?_) | ((with_reducible refine keep_set _ ?_ ?_); (focus first | omega | (simp; done) | (simp; omega))) | ((with_reducible refine keep_set' _ ?_ ?_); (focus first | omega | (simp; done))) | ((with_reducible refine keep_same (u := ?_) _ ?_); rotate_left) | ((with_reducible refine keep_setA _ ?_ ?_); (focus first | omega | (simp; done) | (simp; omega))) | ((with_reducible refine keep_below (w := ?_) ?_ ?_); rotate_left; (with_reducible assumption))))))
      exact bodyPost_ret (v := topV s wd ht n m hs cs) (by rw [HF.out]; simp [results, Try.results28, go_sem, c0, c1]) rfl ⟨rfl, by rw [hW]; exact (by repeat (first | with_reducible exact Below.refl _ _ | with_reducible assumption | (with_reducible refine Below.drew ?_) | (with_reducible refine below_drewN ?_ _) | ((with_reducible refine Below.alloc ?_ ?_ _); rotate_left; (focus first | exact Nat.le_refl _ | omega | (simp; done) | (simp; omega))) | ((with_reducible refine Below.setCell ?_ ?_ _); rotate_left; (focus first | exact Nat.le_refl _ | omega | (simp; done) | (simp; omega))) | ((with_reducible refine below_via (W := ?_) ?_ ?_ ?_); rotate_left; (with_reducible assumption); rotate_left; (focus first | exact Nat.le_refl _ | omega | (simp; done) | (simp; omega)))))⟩

end Go.Proofs.Ytgondkjephojjab.WalkO
