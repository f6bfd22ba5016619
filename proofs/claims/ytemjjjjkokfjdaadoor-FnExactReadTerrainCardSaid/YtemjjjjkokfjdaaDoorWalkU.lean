/- Walks over slices of numbers: the reference's and the program's helpers, and those of package slices. -/
import Derived.Test.YtemjjjjkokfjdaaDoorWalkI
import Derived.Test.YtemjjjjkokfjdaaDoorPlainT
import Derived.WalkSpells
namespace Go.Proofs.YtemjjjjkokfjdaaDoor.WalkU
open Go Go.RowKit Go.Proofs.YtemjjjjkokfjdaaDoor.Base Go.Proofs.YtemjjjjkokfjdaaDoor.Words Go.Proofs.YtemjjjjkokfjdaaDoor.Ints Go.Proofs.YtemjjjjkokfjdaaDoor.WalkN Go.Proofs.YtemjjjjkokfjdaaDoor.WalkP Go.Proofs.YtemjjjjkokfjdaaDoor.WalkI Go.Proofs.YtemjjjjkokfjdaaDoor.PlainT
set_option linter.unusedVariables false
set_option linter.unusedSimpArgs false

/-- the closure of allWithin -/
theorem outClosure (z lo hi : Int) (g h : Nat) (w : World) (h0 : w.cell? ⟨g, 0, none⟩ = some (.int .i64 lo)) (h1 : w.cell? ⟨h, 0, none⟩ = some (.int .i64 hi)) :
    Calls Tryd.prog 53 #[.int .i64 z, .pointer (some ⟨g, 0, none⟩), .pointer (some ⟨h, 0, none⟩)] w fun e w' => e = .returned (.bool (!inB z lo hi)) ∧ w = w' := by
  go_enter Tryd.func53, Tryd.ntmps53
  go_wp2_with (first | (go_at_call 35; refine (specIn _ _ _ _).mono ?_; rintro e w' ⟨rfl, rfl⟩) | (go_at_call 43; refine (implIn _ _ _ _).mono ?_; rintro e w' ⟨rfl, rfl⟩))
  go_ret
  exact ⟨rfl, rfl⟩

theorem outAt (A : Option Addr) (n c : Nat) (zs : List Int) (lo hi : Int) (g h : Nat) (w : World) (ha : Rd w A n zs) (hn : n ≤ maxLen) (h0 : w.cell? ⟨g, 0, none⟩ = some (.int .i64 lo)) (h1 : w.cell? ⟨h, 0, none⟩ = some (.int .i64 hi)) :
    Calls Tryd.prog 71 #[.slice A n c, .func (.func 53) #[] #[.pointer (some ⟨g, 0, none⟩), .pointer (some ⟨h, 0, none⟩)]] w fun e w' => ∃ r : Int, e = .returned (.int .i64 r) ∧ decide (0 ≤ r) = (!allB zs lo hi) ∧ w = w' := by
  unfold maxLen at hn
  have HA := Lib.hid ha
  have HC := Lib.hid (fun z => outClosure z lo hi g h w h0 h1)
  clear ha h0 h1
  go_enter Tryd.func71, Tryd.ntmps71
  go_wp2
  go_loop [5, 8] (fun _ i => ∃ k : Nat, k ≤ n ∧ i = .int .i64 k ∧ Hid (∀ j, j < k → inB (zs.getD j 0) lo hi = true)) (fun _ i => n - (intOf i).toNat)
  case atStart => exact ⟨0, Nat.zero_le _, rfl, Lib.hid (fun j hj => absurd hj (by omega))⟩
  case round =>
    obtain ⟨k, hk, rfl, HK⟩ := hrel
    by_cases hlt : k < n
    · obtain ⟨ad, rfl, hc⟩ := HA.out.at_ hlt
      generalize hx : zs.getD k 0 = x at hc
      have HX := Lib.hid hx
      clear hx
      have CL := HC.out x
      cases hin : inB x lo hi
      · rw [hin] at CL
        have CH := Lib.hid CL
        clear CL
        have HIN := Lib.hid hin
        clear hin
        go_wp2_with (go_at_call 53; refine CH.out.mono ?_; rintro e w' ⟨rfl, rfl⟩)
        go_ret
        exact ⟨_, rfl, by rw [allB_stop (k := k) (by rw [HA.out.len]; exact hlt) (by rw [HX.out]; exact HIN.out)]; simp, rfl⟩
      · rw [hin] at CL
        have CH := Lib.hid CL
        clear CL
        have HIN := Lib.hid hin
        clear hin
        go_wp2_with (go_at_call 53; refine CH.out.mono ?_; rintro e w' ⟨rfl, rfl⟩)
        go_round
        case rel =>
          refine ⟨k + 1, by omega, by go_num, Lib.hid fun j hj => ?_⟩
          by_cases e : j = k
          · rw [e, HX.out]
            exact HIN.out
          · exact HK.out j (by omega)
        case measure => simp [intOf]; omega
    · go_wp2
      go_ret
      obtain rfl : k = n := by omega
      exact ⟨_, rfl, by rw [allB_end HA.out.len HK.out]; simp, rfl⟩

theorem outHas (A : Option Addr) (n c : Nat) (zs : List Int) (lo hi : Int) (g h : Nat) (w : World) (ha : Rd w A n zs) (hn : n ≤ maxLen) (h0 : w.cell? ⟨g, 0, none⟩ = some (.int .i64 lo)) (h1 : w.cell? ⟨h, 0, none⟩ = some (.int .i64 hi)) :
    Calls Tryd.prog 52 #[.slice A n c, .func (.func 53) #[] #[.pointer (some ⟨g, 0, none⟩), .pointer (some ⟨h, 0, none⟩)]] w fun e w' => e = .returned (.bool (!allB zs lo hi)) ∧ w = w' := by
  have HC := Lib.hid (outAt A n c zs lo hi g h w ha hn h0 h1)
  clear ha h0 h1
  go_enter Tryd.func52, Tryd.ntmps52
  go_wp2_with (go_at_call 71; refine HC.out.mono ?_; rintro e w' ⟨r, rfl, hr, rfl⟩; have HR := Lib.hid hr; clear hr)
  go_ret
  exact ⟨ret_bool HR.out, rfl⟩

theorem implAll (A : Option Addr) (n c : Nat) (zs : List Int) (lo hi : Int) (w : World) (ha : Rd w A n zs) (hn : n ≤ maxLen) :
    Calls Tryd.prog 41 #[.slice A n c, .int .i64 lo, .int .i64 hi] w fun e w' => e = .returned (.bool (allB zs lo hi)) ∧ Below w.heap.size w w' := by
  have HA := Lib.hid ha
  clear ha
  go_enter Tryd.func41, Tryd.ntmps41
  go_wp2_with (go_at_call 52; refine (outHas _ _ _ zs lo hi _ _ _ ((HA.out.alloc _).alloc _) hn (by simp) (by simp)).mono ?_; rintro e w' ⟨rfl, rfl⟩)
  go_ret
  exact ⟨ret_bool (by simp), (by repeat (first | with_reducible exact Below.refl _ _ | with_reducible assumption | (with_reducible refine Below.drew ?_) | (with_reducible refine below_drewN ?_ _) | ((with_reducible refine Below.alloc ?_ ?_ _); rotate_left; (focus first | exact Nat.le_refl _ | omega | (simp; done) | (simp; omega))) | ((with_reducible refine Below.setCell ?_ ?_ _); rotate_left; (focus first | exact Nat.le_refl _ | omega | (simp; done) | (simp; omega))) | ((with_reducible refine below_via (W := ?_) ?_ ?_ ?_); rotate_left; (with_reducible assumption); rotate_left; (focus first | exact Nat.le_refl _ | omega | (simp; done) | (simp; omega)))))⟩

end Go.Proofs.YtemjjjjkokfjdaaDoor.WalkU
