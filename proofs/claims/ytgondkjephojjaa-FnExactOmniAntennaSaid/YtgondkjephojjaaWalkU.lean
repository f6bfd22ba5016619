/- Walks over slices of numbers: the reference's and the program's helpers, and those of package slices. -/
import Derived.Test.YtgondkjephojjaaWalkI
import Derived.Test.YtgondkjephojjaaPlainT
import Derived.WalkSpells
namespace Go.Proofs.Ytgondkjephojjaa.WalkU
open Go Go.RowKit Go.Proofs.Ytgondkjephojjaa.Base Go.Proofs.Ytgondkjephojjaa.Words Go.Proofs.Ytgondkjephojjaa.Ints Go.Proofs.Ytgondkjephojjaa.WalkN Go.Proofs.Ytgondkjephojjaa.WalkP Go.Proofs.Ytgondkjephojjaa.WalkI Go.Proofs.Ytgondkjephojjaa.PlainT
set_option linter.unusedVariables false
set_option linter.unusedSimpArgs false

theorem specSame (A B : Option Addr) (n m c d : Nat) (zs ys : List Int) (w : World) (ha : Rd w A n zs) (hb : Rd w B m ys) (hn : n ≤ maxLen) (hm : m ≤ maxLen) :
    Calls Try.prog 57 #[.slice A n c, .slice B m d] w fun e w' => e = .returned (.bool (decide (zs = ys))) ∧ ∃ k, w' = w.drewN k := by
  unfold maxLen at hn hm
  have HA := Lib.hid ha
  have HB := Lib.hid hb
  clear ha hb
  by_cases hnm : n = m
  · subst hnm
    go_enter Try.func57, Try.ntmps57
    go_wp2
    go_loopw [5] (fun i wr => ∃ k q : Nat, k ≤ n ∧ i = .int .i64 k ∧ wr = w.drewN q ∧ Hid (zs.take k = ys.take k)) (fun i _ => n - (intOf i).toNat)
    case atStart => exact ⟨0, 0, Nat.zero_le _, rfl, rfl, Lib.hid rfl⟩
    case round =>
      obtain ⟨k, q, hk, rfl, rfl, HE⟩ := hrel
      by_cases hlt : k < n
      · obtain ⟨ad, rfl, hc⟩ := HA.out.at_ hlt
        obtain ⟨bd, rfl, hd⟩ := HB.out.at_ hlt
        have i0 : (0 : Int) ≤ (k : Int) := by omega
        have i1 : (k : Int) < (n : Int) := by omega
        generalize hx : zs.getD k 0 = x at hc
        generalize hy : ys.getD k 0 = y at hd
        have HX := Lib.hid hx
        have HY := Lib.hid hy
        clear hx hy
        by_cases he : x = y
        · subst he
          go_wp2_with fail
          go_quiet (fail)
          go_wp2
          go_roundw
          case rel => exact ⟨k + 1, _, by omega, by go_num, rfl, Lib.hid (same_step (by rw [HA.out.len]; exact hlt) (by rw [HB.out.len]; exact hlt) HE.out (HX.out.trans HY.out.symm))⟩
          case measure => simp [intOf]; omega
        · have he1 : (x == y) = false := by simpa using he
          have he2 : (x != y) = true := by simpa using he
          have HN : Hid (decide (zs = ys) = false) := Lib.hid (decide_eq_false (same_not (k := k) (by rw [HX.out, HY.out]; exact he)))
          clear he
          go_wp2_with fail
          go_quiet (fail)
          go_wp2
          go_ret
          exact ⟨ret_bool HN.out.symm, _, World.drewN_drewN _ _ _⟩
      · go_wp2
        go_ret
        obtain rfl : k = n := by omega
        exact ⟨ret_bool (decide_eq_true (same_end HA.out.len HB.out.len HE.out)).symm, _, rfl⟩
  · have hne : ¬ ((n : Int) = (m : Int)) := by omega
    have HN : Hid (decide (zs = ys) = false) := Lib.hid (decide_eq_false (fun h => hnm (by rw [← HA.out.len, ← HB.out.len, h])))
    have he2 : ((n : Int) != (m : Int)) = true := by simp; omega
    go_enter Try.func57, Try.ntmps57
    go_wp2
    go_ret
    exact ⟨ret_bool HN.out.symm, 0, rfl⟩

theorem implSame (A B : Option Addr) (n m c d : Nat) (zs ys : List Int) (w : World) (ha : Rd w A n zs) (hb : Rd w B m ys) (hn : n ≤ maxLen) (hm : m ≤ maxLen) :
    Calls Try.prog 59 #[.slice A n c, .slice B m d] w fun e w' => e = .returned (.bool (decide (zs = ys))) ∧ ∃ k, w' = w.drewN k := by
  unfold maxLen at hn hm
  have HA := Lib.hid ha
  have HB := Lib.hid hb
  clear ha hb
  by_cases hnm : n = m
  · subst hnm
    go_enter Try.func59, Try.ntmps59
    go_wp2
    go_loopw [5, 13] (fun _ i wr => ∃ k q : Nat, k ≤ n ∧ i = .int .i64 k ∧ wr = w.drewN q ∧ Hid (zs.take k = ys.take k)) (fun _ i _ => n - (intOf i).toNat)
    case atStart => exact ⟨0, 0, Nat.zero_le _, rfl, rfl, Lib.hid rfl⟩
    case round =>
      obtain ⟨k, q, hk, rfl, rfl, HE⟩ := hrel
      by_cases hlt : k < n
      · obtain ⟨ad, rfl, hc⟩ := HA.out.at_ hlt
        obtain ⟨bd, rfl, hd⟩ := HB.out.at_ hlt
        have i0 : (0 : Int) ≤ (k : Int) := by omega
        have i1 : (k : Int) < (n : Int) := by omega
        generalize hx : zs.getD k 0 = x at hc
        generalize hy : ys.getD k 0 = y at hd
        have HX := Lib.hid hx
        have HY := Lib.hid hy
        clear hx hy
        by_cases he : x = y
        · subst he
          go_wp2_with fail
          go_quiet (fail)
          go_wp2
          go_roundw
          case rel => exact ⟨k + 1, _, by omega, by go_num, rfl, Lib.hid (same_step (by rw [HA.out.len]; exact hlt) (by rw [HB.out.len]; exact hlt) HE.out (HX.out.trans HY.out.symm))⟩
          case measure => simp [intOf]; omega
        · have he1 : (x == y) = false := by simpa using he
          have he2 : (x != y) = true := by simpa using he
          have HN : Hid (decide (zs = ys) = false) := Lib.hid (decide_eq_false (same_not (k := k) (by rw [HX.out, HY.out]; exact he)))
          clear he
          go_wp2_with fail
          go_quiet (fail)
          go_wp2
          go_ret
          exact ⟨ret_bool HN.out.symm, _, World.drewN_drewN _ _ _⟩
      · go_wp2
        go_ret
        obtain rfl : k = n := by omega
        exact ⟨ret_bool (decide_eq_true (same_end HA.out.len HB.out.len HE.out)).symm, _, rfl⟩
  · have hne : ¬ ((n : Int) = (m : Int)) := by omega
    have HN : Hid (decide (zs = ys) = false) := Lib.hid (decide_eq_false (fun h => hnm (by rw [← HA.out.len, ← HB.out.len, h])))
    have he2 : ((n : Int) != (m : Int)) = true := by simp; omega
    go_enter Try.func59, Try.ntmps59
    go_wp2
    go_ret
    exact ⟨ret_bool HN.out.symm, 0, rfl⟩

/-- the closure of allWithin -/
theorem outClosure (z lo hi : Int) (g h : Nat) (w : World) (h0 : w.cell? ⟨g, 0, none⟩ = some (.int .i64 lo)) (h1 : w.cell? ⟨h, 0, none⟩ = some (.int .i64 hi)) :
    Calls Try.prog 89 #[.int .i64 z, .pointer (some ⟨g, 0, none⟩), .pointer (some ⟨h, 0, none⟩)] w fun e w' => e = .returned (.bool (!inB z lo hi)) ∧ w = w' := by
  go_enter Try.func89, Try.ntmps89
  go_wp2_with (first | (go_at_call 87; refine (specIn _ _ _ _).mono ?_; rintro e w' ⟨rfl, rfl⟩) | (go_at_call 62; refine (implIn _ _ _ _).mono ?_; rintro e w' ⟨rfl, rfl⟩))
  go_ret
  exact ⟨rfl, rfl⟩

theorem outAt (A : Option Addr) (n c : Nat) (zs : List Int) (lo hi : Int) (g h : Nat) (w : World) (ha : Rd w A n zs) (hn : n ≤ maxLen) (h0 : w.cell? ⟨g, 0, none⟩ = some (.int .i64 lo)) (h1 : w.cell? ⟨h, 0, none⟩ = some (.int .i64 hi)) :
    Calls Try.prog 99 #[.slice A n c, .func (.func 89) #[] #[.pointer (some ⟨g, 0, none⟩), .pointer (some ⟨h, 0, none⟩)]] w fun e w' => ∃ r : Int, e = .returned (.int .i64 r) ∧ decide (0 ≤ r) = (!allB zs lo hi) ∧ w = w' := by
  unfold maxLen at hn
  have HA := Lib.hid ha
  have HC := Lib.hid (fun z => outClosure z lo hi g h w h0 h1)
  clear ha h0 h1
  go_enter Try.func99, Try.ntmps99
  go_wp2
  go_loop [5, 8] (fun _ i => ∃ k : Nat, k ≤ n ∧ i = .int .i64 k ∧ Hid (∀ j, j < k → inB (zs.getD j 0) lo hi = true)) (fun _ i => n - (intOf i).toNat)
  case atStart => exact ⟨0, Nat.zero_le _, rfl, Lib.hid (fun j hj => absurd hj (by omega))⟩
  case round =>
    obtain ⟨k, hk, rfl, HK⟩ := hrel
    by_cases hlt : k < n
    · obtain ⟨ad, rfl, hc⟩ := HA.out.at_ hlt
      generalize hx : zs.getD k 0 = x at hc
      have HX := Lib.hid hx
      clear hx
      have CL := HC.out x
      cases hin : inB x lo hi
      · rw [hin] at CL
        have CH := Lib.hid CL
        clear CL
        have HIN := Lib.hid hin
        clear hin
        go_wp2_with (go_at_call 89; refine CH.out.mono ?_; rintro e w' ⟨rfl, rfl⟩)
        go_ret
        exact ⟨_, rfl, by rw [allB_stop (k := k) (by rw [HA.out.len]; exact hlt) (by rw [HX.out]; exact HIN.out)]; simp, rfl⟩
      · rw [hin] at CL
        have CH := Lib.hid CL
        clear CL
        have HIN := Lib.hid hin
        clear hin
        go_wp2_with (go_at_call 89; refine CH.out.mono ?_; rintro e w' ⟨rfl, rfl⟩)
        go_round
        case rel =>
          refine ⟨k + 1, by omega, by go_num, Lib.hid fun j hj => ?_⟩
          by_cases e : j = k
          · rw [e, HX.out]
            exact HIN.out
          · exact HK.out j (by omega)
        case measure => simp [intOf]; omega
    · go_wp2
      go_ret
      obtain rfl : k = n := by omega
      exact ⟨_, rfl, by rw [allB_end HA.out.len HK.out]; simp, rfl⟩

theorem outHas (A : Option Addr) (n c : Nat) (zs : List Int) (lo hi : Int) (g h : Nat) (w : World) (ha : Rd w A n zs) (hn : n ≤ maxLen) (h0 : w.cell? ⟨g, 0, none⟩ = some (.int .i64 lo)) (h1 : w.cell? ⟨h, 0, none⟩ = some (.int .i64 hi)) :
    Calls Try.prog 88 #[.slice A n c, .func (.func 89) #[] #[.pointer (some ⟨g, 0, none⟩), .pointer (some ⟨h, 0, none⟩)]] w fun e w' => e = .returned (.bool (!allB zs lo hi)) ∧ w = w' := by
  have HC := Lib.hid (outAt A n c zs lo hi g h w ha hn h0 h1)
  clear ha h0 h1
  go_enter Try.func88, Try.ntmps88
  go_wp2_with (go_at_call 99; refine HC.out.mono ?_; rintro e w' ⟨r, rfl, hr, rfl⟩; have HR := Lib.hid hr; clear hr)
  go_ret
  exact ⟨ret_bool HR.out, rfl⟩

theorem implAll (A : Option Addr) (n c : Nat) (zs : List Int) (lo hi : Int) (w : World) (ha : Rd w A n zs) (hn : n ≤ maxLen) :
    Calls Try.prog 63 #[.slice A n c, .int .i64 lo, .int .i64 hi] w fun e w' => e = .returned (.bool (allB zs lo hi)) ∧ Below w.heap.size w w' := by
  have HA := Lib.hid ha
  clear ha
  go_enter Try.func63, Try.ntmps63
  go_wp2_with (go_at_call 88; refine (outHas _ _ _ zs lo hi _ _ _ ((HA.out.alloc _).alloc _) hn (by simp) (by simp)).mono ?_; rintro e w' ⟨rfl, rfl⟩)
  go_ret
  exact ⟨ret_bool (by simp), (by repeat (first | with_reducible exact Below.refl _ _ | with_reducible assumption | (with_reducible refine Below.drew ?_) | (with_reducible refine below_drewN ?_ _) | ((with_reducible refine Below.alloc ?_ ?_ _); rotate_left; (focus first | exact Nat.le_refl _ | omega | (simp; done) | (simp; omega))) | ((with_reducible refine Below.setCell ?_ ?_ _); rotate_left; (focus first | exact Nat.le_refl _ | omega | (simp; done) | (simp; omega))) | ((with_reducible refine below_via (W := ?_) ?_ ?_ ?_); rotate_left; (with_reducible assumption); rotate_left; (focus first | exact Nat.le_refl _ | omega | (simp; done) | (simp; omega)))))⟩

end Go.Proofs.Ytgondkjephojjaa.WalkU
