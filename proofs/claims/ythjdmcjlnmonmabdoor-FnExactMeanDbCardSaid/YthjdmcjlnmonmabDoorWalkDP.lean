/- Decibels: powers, ratios, differences. -/
import Derived.Test.YthjdmcjlnmonmabDoorWalkLI
namespace Go.Proofs.YthjdmcjlnmonmabDoor.WalkDP
open Go Go.RowKit Go.Proofs.YthjdmcjlnmonmabDoor.Base Go.Proofs.YthjdmcjlnmonmabDoor.Plain Go.Proofs.YthjdmcjlnmonmabDoor.PlainDb Go.Proofs.YthjdmcjlnmonmabDoor.WalkN Go.Proofs.YthjdmcjlnmonmabDoor.WalkP Go.Proofs.YthjdmcjlnmonmabDoor.Words Go.Proofs.YthjdmcjlnmonmabDoor.WalkLS Go.Proofs.YthjdmcjlnmonmabDoor.Text Go.Proofs.YthjdmcjlnmonmabDoor.WalkLI
set_option linter.unusedVariables false
set_option linter.unusedSimpArgs false

set_option maxHeartbeats 1000000 in
theorem implPow (v : Int) (w : World) (hv : inB v 0 180000 = true) (hT : Tab w) :
    Calls Tryd.prog 11 #[.int .i64 v] w fun e w' => e = .returned (.int .i64 (powF v)) ∧ Below w.heap.size w w' := by
  have I := Lib.hid (fun W => implIn v 0 180000 W)
  have hb := inB_yes hv
  rw [hv] at I
  have L := Lib.hid (fun (m : Nat) (W : World) (h1 : 1 ≤ m) (h2 : m ≤ 9223372036854775807) (hb : Below w.heap.size w W) => implLog m W h1 h2 (Tab.below hb hT))
  clear hv hT
  go_enter Tryd.func11, Tryd.ntmps11
  go_wp2_with (go_at_call 24; refine (I.out _).mono ?_; rintro e w' ⟨rfl, rfl⟩)
  go_loopw [3, 4, 5] (fun low high mid wr => ∃ lo hi : Nat, low = .int .i64 lo ∧ high = .int .i64 hi ∧ lo ≤ hi ∧ 1 ≤ lo ∧ hi ≤ 1000000000000000000 ∧ Hid (powG v lo hi = powG v 1 1000000000000000000) ∧ Hid (Below w.heap.size w wr)) (fun low high _ _ => (intOf high - intOf low).toNat)
  case atStart => exact ⟨1, 1000000000000000000, rfl, rfl, by omega, by omega, by omega, Lib.hid rfl, Lib.hid (Below.refl _ _)⟩
  case round =>
    obtain ⟨lo, hi, rfl, rfl, h1, h2, h3, HP, HB⟩ := hrel
    by_cases hlt : lo < hi
    · obtain ⟨m, hm⟩ : ∃ m : Nat, (lo + hi) / 2 = m := ⟨_, rfl⟩
      have em : (lo : Int) + ((hi : Int) - lo) / 2 = (m : Int) := by omega
      have C := Lib.hid (L.out m wr (by omega) (by omega) HB.out)
      by_cases hc : v ≤ logF m
      · have HP2 := Lib.hid ((powG_lo hlt (by rw [hm]; exact hc)).symm.trans HP.out)
        rw [hm] at HP2
        have m1 : lo ≤ m := by omega
        have m2 : m < hi := by omega
        clear hm
        go_wp2_with (go_at_call 21; refine C.out.mono ?_; rintro e w2 ⟨rfl, hb2⟩)
        go_roundw
        case rel => exact ⟨lo, m, rfl, rfl, by omega, by omega, by omega, HP2, Lib.hid (HB.out.trans (hb2.mono HB.out.size))⟩
        case measure => simp [intOf]; omega
      · have HP2 := Lib.hid ((powG_hi hlt (by rw [hm]; exact hc)).symm.trans HP.out)
        rw [hm] at HP2
        have m1 : lo ≤ m := by omega
        have m2 : m < hi := by omega
        clear hm
        go_wp2_with (go_at_call 21; refine C.out.mono ?_; rintro e w2 ⟨rfl, hb2⟩)
        go_roundw
        case rel => exact ⟨m + 1, hi, by go_num, rfl, by omega, by omega, by omega, HP2, Lib.hid (HB.out.trans (hb2.mono HB.out.size))⟩
        case measure => simp [intOf]; omega
    · have hb' := HB.out
      go_wp2
      go_ret
      exact ⟨ret_int (by unfold powF; rw [← HP.out, powG_end hlt]), hb'⟩

/-- what PowDb gives -/
def powR (v : Int) : Int := bif inB v 0 180000 then powF v else 0
theorem specPowR (v : Int) (w : World) : Calls Tryd.prog 10 #[.int .i64 v] w fun e w' => e = .returned (.int .i64 (powR v)) ∧ w = w' := by
  have I := Lib.hid (fun W => specIn v 0 180000 W)
  cases hv : inB v 0 180000
  · have H : Hid (powR v = 0) := Lib.hid (by unfold powR; rw [hv]; rfl)
    rw [hv] at I
    clear hv
    go_enter Tryd.func10, Tryd.ntmps10
    go_wp2_with (go_at_call 22; refine (I.out _).mono ?_; rintro e w' ⟨rfl, rfl⟩)
    go_ret
    exact ⟨ret_int H.out.symm, rfl⟩
  · have H : Hid (powR v = powF v) := Lib.hid (by unfold powR; rw [hv]; rfl)
    have hb := inB_yes hv
    rw [hv] at I
    have P := Lib.hid (fun W => specPow v W (by omega))
    clear hv
    go_enter Tryd.func10, Tryd.ntmps10
    go_wp2_with (first | (go_at_call 22; refine (I.out _).mono ?_; rintro e w' ⟨rfl, rfl⟩) | (go_at_call 23; refine (P.out _).mono ?_; rintro e w' ⟨rfl, rfl⟩))
    go_ret
    exact ⟨ret_int H.out.symm, rfl⟩
theorem implPowR (v : Int) (w : World) (hT : Tab w) : Calls Tryd.prog 11 #[.int .i64 v] w fun e w' => e = .returned (.int .i64 (powR v)) ∧ Below w.heap.size w w' := by
  cases hv : inB v 0 180000
  · have H : Hid (powR v = 0) := Lib.hid (by unfold powR; rw [hv]; rfl)
    have I := Lib.hid (fun W => implIn v 0 180000 W)
    rw [hv] at I
    clear hv hT
    go_enter Tryd.func11, Tryd.ntmps11
    go_wp2_with (go_at_call 24; refine (I.out _).mono ?_; rintro e w' ⟨rfl, rfl⟩)
    go_ret
    exact ⟨ret_int H.out.symm, Below.refl _ _⟩
  · rw [show powR v = powF v by unfold powR; rw [hv]; rfl]
    exact implPow v w hv hT
theorem powDb (v : Int) (wv : (Lit.int .i64 v).wf = true) (w : World) (hT : Tab w) :
    Calls Tryd.prog 4 #[.int .i64 v] w fun e w' => e = .returned (.bool true) ∧ Below w.heap.size w w' := by
  have C := Lib.hid (implPowR v w hT)
  clear hT
  go_enter Tryd.func4, Tryd.ntmps4
  go_wp2_with (first | (go_at_call 10; refine (specPowR _ _).mono ?_; rintro e w' ⟨rfl, rfl⟩) | (go_at_call 11; refine C.out.mono ?_; rintro e w' ⟨rfl, hb⟩))
  go_ret
  exact ⟨rfl, hb⟩

/-- what RatioDb gives -/
def ratR (a b : Int) : Int := if a < 1 ∨ b < 1 then 0 else logZ a - logZ b
theorem specRat (a b : Int) (w : World) (ha : -9223372036854775808 ≤ a ∧ a ≤ 9223372036854775807) (hb : -9223372036854775808 ≤ b ∧ b ≤ 9223372036854775807) :
    Calls Tryd.prog 8 #[.int .i64 a, .int .i64 b] w fun e w' => e = .returned (.int .i64 (ratR a b)) ∧ w = w' := by
  by_cases h1 : a < 1
  · go_enter Tryd.func8, Tryd.ntmps8
    go_wp2
    go_ret
    exact ⟨ret_int (by unfold ratR; rw [if_pos (.inl h1)]), rfl⟩
  · by_cases h2 : b < 1
    · go_enter Tryd.func8, Tryd.ntmps8
      go_wp2
      go_ret
      exact ⟨ret_int (by unfold ratR; rw [if_pos (.inr h2)]), rfl⟩
    · have H : Hid (ratR a b = logZ a - logZ b) := Lib.hid (by unfold ratR; rw [if_neg (by omega)])
      obtain ⟨m, rfl⟩ : ∃ m : Nat, a = (m : Int) := ⟨a.toNat, by omega⟩
      obtain ⟨n, rfl⟩ : ∃ n : Nat, b = (n : Int) := ⟨b.toNat, by omega⟩
      rw [logZ_nat (by omega), logZ_nat (by omega)] at H
      have l1 := logF_range (n := m) (by omega) (by omega)
      have l2 := logF_range (n := n) (by omega) (by omega)
      have A := Lib.hid (fun W => specLog m W (by omega) (by omega))
      have B := Lib.hid (fun W => specLog n W (by omega) (by omega))
      go_enter Tryd.func8, Tryd.ntmps8
      go_wp2_with (go_at_call 20; first | ((with_reducible refine (A.out _).mono ?_); rintro e w' ⟨rfl, rfl⟩) | ((with_reducible refine (B.out _).mono ?_); rintro e w' ⟨rfl, rfl⟩))
      go_ret
      exact ⟨ret_int H.out.symm, rfl⟩
theorem implRat (a b : Int) (w : World) (ha : -9223372036854775808 ≤ a ∧ a ≤ 9223372036854775807) (hb : -9223372036854775808 ≤ b ∧ b ≤ 9223372036854775807) (hT : Tab w) :
    Calls Tryd.prog 9 #[.int .i64 a, .int .i64 b] w fun e w' => e = .returned (.int .i64 (ratR a b)) ∧ Below w.heap.size w w' := by
  by_cases h1 : a < 1
  · go_enter Tryd.func9, Tryd.ntmps9
    go_wp2
    go_ret
    exact ⟨ret_int (by unfold ratR; rw [if_pos (.inl h1)]), Below.refl _ _⟩
  · by_cases h2 : b < 1
    · go_enter Tryd.func9, Tryd.ntmps9
      go_wp2
      go_ret
      exact ⟨ret_int (by unfold ratR; rw [if_pos (.inr h2)]), Below.refl _ _⟩
    · have H : Hid (ratR a b = logZ a - logZ b) := Lib.hid (by unfold ratR; rw [if_neg (by omega)])
      have l1 := logZ_range (n := a) (by omega)
      have l2 := logZ_range (n := b) (by omega)
      have A := Lib.hid (fun W (hb : Below w.heap.size w W) => implLogZ a W (by omega) (Tab.below hb hT))
      have B := Lib.hid (fun W (hb : Below w.heap.size w W) => implLogZ b W (by omega) (Tab.below hb hT))
      clear hT
      go_enter Tryd.func9, Tryd.ntmps9
      go_wp2_with (go_at_call 21; first | ((with_reducible refine (A.out _ (by repeat (first | with_reducible exact Below.refl _ _ | with_reducible assumption | (with_reducible refine Below.drew ?_) | (with_reducible refine below_drewN ?_ _) | ((with_reducible refine Below.alloc ?_ ?_ _); rotate_left; (focus first | exact Nat.le_refl _ | omega | (simp; done) | (simp; omega))) | ((with_reducible refine Below.setCell ?_ ?_ _); rotate_left; (focus first | exact Nat.le_refl _ | omega | (simp; done) | (simp; omega))) | ((with_reducible refine below_via (W := ?_) ?_ ?_ ?_); rotate_left; (with_reducible assumption); rotate_left; (focus first | exact Nat.le_refl _ | omega | (simp; done) | (simp; omega)))))).mono ?_); rintro e w1 ⟨rfl, hb1⟩; have z1 := hb1.size) | ((with_reducible refine (B.out _ (by repeat (first | with_reducible exact Below.refl _ _ | with_reducible assumption | (with_reducible refine Below.drew ?_) | (with_reducible refine below_drewN ?_ _) | ((with_reducible refine Below.alloc ?_ ?_ _); rotate_left; (focus first | exact Nat.le_refl _ | omega | (simp; done) | (simp; omega))) | ((with_reducible refine Below.setCell ?_ ?_ _); rotate_left; (focus first | exact Nat.le_refl _ | omega | (simp; done) | (simp; omega))) | ((with_reducible refine below_via (W := ?_) ?_ ?_ ?_); rotate_left; (with_reducible assumption); rotate_left; (focus first | exact Nat.le_refl _ | omega | (simp; done) | (simp; omega)))))).mono ?_); rintro e w2 ⟨rfl, hb2⟩; have z2 := hb2.size))
      go_ret
      exact ⟨ret_int H.out.symm, (by repeat (first | with_reducible exact Below.refl _ _ | with_reducible assumption | (with_reducible refine Below.drew ?_) | (with_reducible refine below_drewN ?_ _) | ((with_reducible refine Below.alloc ?_ ?_ _); rotate_left; (focus first | exact Nat.le_refl _ | omega | (simp; done) | (simp; omega))) | ((with_reducible refine Below.setCell ?_ ?_ _); rotate_left; (focus first | exact Nat.le_refl _ | omega | (simp; done) | (simp; omega))) | ((with_reducible refine below_via (W := ?_) ?_ ?_ ?_); rotate_left; (with_reducible assumption); rotate_left; (focus first | exact Nat.le_refl _ | omega | (simp; done) | (simp; omega)))))⟩
theorem ratioDb (a b : Int) (wa : (Lit.int .i64 a).wf = true) (wb : (Lit.int .i64 b).wf = true) (w : World) (hT : Tab w) :
    Calls Tryd.prog 3 #[.int .i64 a, .int .i64 b] w fun e w' => e = .returned (.bool true) ∧ Below w.heap.size w w' := by
  have ba := bd wa
  have bb := bd wb
  have C := Lib.hid (implRat a b w ba bb hT)
  clear hT
  go_enter Tryd.func3, Tryd.ntmps3
  go_wp2_with (first | (go_at_call 8; refine (specRat _ _ _ ba bb).mono ?_; rintro e w' ⟨rfl, rfl⟩) | (go_at_call 9; refine C.out.mono ?_; rintro e w' ⟨rfl, hb⟩))
  go_ret
  exact ⟨rfl, hb⟩

theorem specPart (v : Int) (w : World) (hv : -1000000 ≤ v ∧ v ≤ 0) : Calls Tryd.prog 26 #[.int .i64 v] w fun e w' => e = .returned (.int .i64 (partF v)) ∧ w = w' := by
  by_cases h : v < -90000
  · go_enter Tryd.func26, Tryd.ntmps26
    go_wp2
    go_ret
    exact ⟨ret_int (by unfold partF; rw [if_pos h]), rfl⟩
  · have H : Hid (partF v = powF (90000 + v)) := Lib.hid (by unfold partF; rw [if_neg h])
    have P := Lib.hid (fun W => specPow (90000 + v) W (by omega))
    go_enter Tryd.func26, Tryd.ntmps26
    go_wp2_with (go_at_call 23; refine (P.out _).mono ?_; rintro e w' ⟨rfl, rfl⟩)
    go_ret
    exact ⟨ret_int H.out.symm, rfl⟩
theorem implPart (v : Int) (w : World) (hv : -1000000 ≤ v ∧ v ≤ 0) (hT : Tab w) : Calls Tryd.prog 28 #[.int .i64 v] w fun e w' => e = .returned (.int .i64 (partF v)) ∧ Below w.heap.size w w' := by
  by_cases h : v < -90000
  · go_enter Tryd.func28, Tryd.ntmps28
    go_wp2
    go_ret
    exact ⟨ret_int (by unfold partF; rw [if_pos h]), Below.refl _ _⟩
  · have H : Hid (partF v = powF (90000 + v)) := Lib.hid (by unfold partF; rw [if_neg h])
    have P := Lib.hid (implPow (90000 + v) w (inB_mk (by omega)) hT)
    clear hT
    go_enter Tryd.func28, Tryd.ntmps28
    go_wp2_with (go_at_call 11; refine P.out.mono ?_; rintro e w1 ⟨rfl, hb1⟩)
    go_ret
    exact ⟨ret_int H.out.symm, hb1⟩

end Go.Proofs.YthjdmcjlnmonmabDoor.WalkDP
