/- Equality of structs that hold lists: the reference's and the program's. Printed by a program (mksame.py). -/
import Derived.Test.YtgondkjephojjaaWalkU
import Derived.Test.YtgondkjephojjaaWalkX
import Derived.Lib.Strings
namespace Go.Proofs.Ytgondkjephojjaa.WalkZ
open Go Go.RowKit Go.Proofs.Ytgondkjephojjaa.Base Go.Proofs.Ytgondkjephojjaa.Words Go.Proofs.Ytgondkjephojjaa.Ints Go.Proofs.Ytgondkjephojjaa.WalkN Go.Proofs.Ytgondkjephojjaa.WalkP Go.Proofs.Ytgondkjephojjaa.WalkI Go.Proofs.Ytgondkjephojjaa.WalkU
set_option linter.unusedVariables false
set_option linter.unusedSimpArgs false
theorem str_ne {a b : ByteArray} (h : ¬ a = b) : (a.toList == b.toList) = false := by
  rw [beq_eq_false_iff_ne]
  intro e
  apply h
  rw [Go.Lib.toList_data, Go.Lib.toList_data] at e
  exact ByteArray.ext (Array.toList_inj.1 e)

/-- are two values equal, field by field -/
def sameTerrain (s s' : Int) (wd wd' : Int) (ht ht' : Int) (hs hs' : List Int) (cs cs' : List Int) : Bool := decide (s = s') && (decide (wd = wd') && (decide (ht = ht') && (decide (hs = hs') && (decide (cs = cs')))))
theorem specSameTerrain (s s' : Int) (wd wd' : Int) (ht ht' : Int) (A A' : Option Addr) (n c n' c' : Nat) (hs hs' : List Int) (B B' : Option Addr) (m d m' d' : Nat) (cs cs' : List Int) (w : World) (r0 : Rd w A n hs) (q0 : Rd w A' n' hs') (k0 : n ≤ maxLen) (j0 : n' ≤ maxLen) (r1 : Rd w B m cs) (q1 : Rd w B' m' cs') (k1 : m ≤ maxLen) (j1 : m' ≤ maxLen) :
    Calls Try.prog 26 #[.agg #[.int .i64 s, .int .i64 wd, .int .i64 ht, .slice A n c, .slice B m d], .agg #[.int .i64 s', .int .i64 wd', .int .i64 ht', .slice A' n' c', .slice B' m' d']] w fun e w' => e = .returned (.bool (sameTerrain s s' wd wd' ht ht' hs hs' cs cs')) ∧ Below w.heap.size w w' := by
  have C0 := Lib.hid (fun W (hb : Below w.heap.size w W) => specSame A A' n n' c c' hs hs' W (Rd.below hb r0) (Rd.below hb q0) k0 j0)
  have C1 := Lib.hid (fun W (hb : Below w.heap.size w W) => specSame B B' m m' d d' cs cs' W (Rd.below hb r1) (Rd.below hb q1) k1 j1)
  clear r0 q0 r1 q1
  by_cases e_s : s = s'
  · subst e_s
    by_cases e_wd : wd = wd'
    · subst e_wd
      by_cases e_ht : ht = ht'
      · subst e_ht
        by_cases e_z : hs = hs'
        · have HF : Hid (sameTerrain s s wd wd ht ht hs hs' cs cs' = decide (cs = cs')) := Lib.hid (by unfold sameTerrain; simp [e_z])
          rw [decide_eq_true e_z] at C0
          clear e_z
          go_enter Try.func26, Try.ntmps26
          go_wp2_with fail
          refine (C0.out _ (by repeat (first | with_reducible exact Below.refl _ _ | with_reducible assumption | (with_reducible refine Below.drew ?_) | (with_reducible refine below_drewN ?_ _) | ((with_reducible refine Below.alloc ?_ ?_ _); rotate_left; (focus first | exact Nat.le_refl _ | omega | (simp; done) | (simp; omega))) | ((with_reducible refine Below.setCell ?_ ?_ _); rotate_left; (focus first | exact Nat.le_refl _ | omega | (simp; done) | (simp; omega))) | ((with_reducible refine below_via (W := ?_) ?_ ?_ ?_); rotate_left; (with_reducible assumption); rotate_left; (focus first | exact Nat.le_refl _ | omega | (simp; done) | (simp; omega)))))).mono ?_
          rintro e w0 ⟨rfl, u0, rfl⟩
          go_wp2_with fail
          refine (C1.out _ (by repeat (first | with_reducible exact Below.refl _ _ | with_reducible assumption | (with_reducible refine Below.drew ?_) | (with_reducible refine below_drewN ?_ _) | ((with_reducible refine Below.alloc ?_ ?_ _); rotate_left; (focus first | exact Nat.le_refl _ | omega | (simp; done) | (simp; omega))) | ((with_reducible refine Below.setCell ?_ ?_ _); rotate_left; (focus first | exact Nat.le_refl _ | omega | (simp; done) | (simp; omega))) | ((with_reducible refine below_via (W := ?_) ?_ ?_ ?_); rotate_left; (with_reducible assumption); rotate_left; (focus first | exact Nat.le_refl _ | omega | (simp; done) | (simp; omega)))))).mono ?_
          rintro e w1 ⟨rfl, u1, rfl⟩
          go_wp2_with fail
          go_ret
          exact ⟨ret_bool HF.out.symm, (by repeat (first | with_reducible exact Below.refl _ _ | with_reducible assumption | (with_reducible refine Below.drew ?_) | (with_reducible refine below_drewN ?_ _) | ((with_reducible refine Below.alloc ?_ ?_ _); rotate_left; (focus first | exact Nat.le_refl _ | omega | (simp; done) | (simp; omega))) | ((with_reducible refine Below.setCell ?_ ?_ _); rotate_left; (focus first | exact Nat.le_refl _ | omega | (simp; done) | (simp; omega))) | ((with_reducible refine below_via (W := ?_) ?_ ?_ ?_); rotate_left; (with_reducible assumption); rotate_left; (focus first | exact Nat.le_refl _ | omega | (simp; done) | (simp; omega)))))⟩
        · have HF : Hid (sameTerrain s s wd wd ht ht hs hs' cs cs' = false) := Lib.hid (by unfold sameTerrain; simp [e_z])
          rw [decide_eq_false e_z] at C0
          clear e_z
          go_enter Try.func26, Try.ntmps26
          go_wp2_with fail
          refine (C0.out _ (by repeat (first | with_reducible exact Below.refl _ _ | with_reducible assumption | (with_reducible refine Below.drew ?_) | (with_reducible refine below_drewN ?_ _) | ((with_reducible refine Below.alloc ?_ ?_ _); rotate_left; (focus first | exact Nat.le_refl _ | omega | (simp; done) | (simp; omega))) | ((with_reducible refine Below.setCell ?_ ?_ _); rotate_left; (focus first | exact Nat.le_refl _ | omega | (simp; done) | (simp; omega))) | ((with_reducible refine below_via (W := ?_) ?_ ?_ ?_); rotate_left; (with_reducible assumption); rotate_left; (focus first | exact Nat.le_refl _ | omega | (simp; done) | (simp; omega)))))).mono ?_
          rintro e w0 ⟨rfl, u0, rfl⟩
          go_wp2_with fail
          go_ret
          exact ⟨ret_bool HF.out.symm, (by repeat (first | with_reducible exact Below.refl _ _ | with_reducible assumption | (with_reducible refine Below.drew ?_) | (with_reducible refine below_drewN ?_ _) | ((with_reducible refine Below.alloc ?_ ?_ _); rotate_left; (focus first | exact Nat.le_refl _ | omega | (simp; done) | (simp; omega))) | ((with_reducible refine Below.setCell ?_ ?_ _); rotate_left; (focus first | exact Nat.le_refl _ | omega | (simp; done) | (simp; omega))) | ((with_reducible refine below_via (W := ?_) ?_ ?_ ?_); rotate_left; (with_reducible assumption); rotate_left; (focus first | exact Nat.le_refl _ | omega | (simp; done) | (simp; omega)))))⟩
      · have HF : Hid (sameTerrain s s wd wd ht ht' hs hs' cs cs' = false) := Lib.hid (by unfold sameTerrain; simp [e_ht])
        have e1 : (ht == ht') = false := by simpa using e_ht
        clear e_ht
        go_enter Try.func26, Try.ntmps26
        go_wp2_with fail
        go_ret
        exact ⟨ret_bool HF.out.symm, (by repeat (first | with_reducible exact Below.refl _ _ | with_reducible assumption | (with_reducible refine Below.drew ?_) | (with_reducible refine below_drewN ?_ _) | ((with_reducible refine Below.alloc ?_ ?_ _); rotate_left; (focus first | exact Nat.le_refl _ | omega | (simp; done) | (simp; omega))) | ((with_reducible refine Below.setCell ?_ ?_ _); rotate_left; (focus first | exact Nat.le_refl _ | omega | (simp; done) | (simp; omega))) | ((with_reducible refine below_via (W := ?_) ?_ ?_ ?_); rotate_left; (with_reducible assumption); rotate_left; (focus first | exact Nat.le_refl _ | omega | (simp; done) | (simp; omega)))))⟩
    · have HF : Hid (sameTerrain s s wd wd' ht ht' hs hs' cs cs' = false) := Lib.hid (by unfold sameTerrain; simp [e_wd])
      have e1 : (wd == wd') = false := by simpa using e_wd
      clear e_wd
      go_enter Try.func26, Try.ntmps26
      go_wp2_with fail
      go_ret
      exact ⟨ret_bool HF.out.symm, (by repeat (first | with_reducible exact Below.refl _ _ | with_reducible assumption | (with_reducible refine Below.drew ?_) | (with_reducible refine below_drewN ?_ _) | ((with_reducible refine Below.alloc ?_ ?_ _); rotate_left; (focus first | exact Nat.le_refl _ | omega | (simp; done) | (simp; omega))) | ((with_reducible refine Below.setCell ?_ ?_ _); rotate_left; (focus first | exact Nat.le_refl _ | omega | (simp; done) | (simp; omega))) | ((with_reducible refine below_via (W := ?_) ?_ ?_ ?_); rotate_left; (with_reducible assumption); rotate_left; (focus first | exact Nat.le_refl _ | omega | (simp; done) | (simp; omega)))))⟩
  · have HF : Hid (sameTerrain s s' wd wd' ht ht' hs hs' cs cs' = false) := Lib.hid (by unfold sameTerrain; simp [e_s])
    have e1 : (s == s') = false := by simpa using e_s
    clear e_s
    go_enter Try.func26, Try.ntmps26
    go_wp2_with fail
    go_ret
    exact ⟨ret_bool HF.out.symm, (by repeat (first | with_reducible exact Below.refl _ _ | with_reducible assumption | (with_reducible refine Below.drew ?_) | (with_reducible refine below_drewN ?_ _) | ((with_reducible refine Below.alloc ?_ ?_ _); rotate_left; (focus first | exact Nat.le_refl _ | omega | (simp; done) | (simp; omega))) | ((with_reducible refine Below.setCell ?_ ?_ _); rotate_left; (focus first | exact Nat.le_refl _ | omega | (simp; done) | (simp; omega))) | ((with_reducible refine below_via (W := ?_) ?_ ?_ ?_); rotate_left; (with_reducible assumption); rotate_left; (focus first | exact Nat.le_refl _ | omega | (simp; done) | (simp; omega)))))⟩

theorem implSameTerrain (s s' : Int) (wd wd' : Int) (ht ht' : Int) (A A' : Option Addr) (n c n' c' : Nat) (hs hs' : List Int) (B B' : Option Addr) (m d m' d' : Nat) (cs cs' : List Int) (w : World) (r0 : Rd w A n hs) (q0 : Rd w A' n' hs') (k0 : n ≤ maxLen) (j0 : n' ≤ maxLen) (r1 : Rd w B m cs) (q1 : Rd w B' m' cs') (k1 : m ≤ maxLen) (j1 : m' ≤ maxLen) :
    Calls Try.prog 28 #[.agg #[.int .i64 s, .int .i64 wd, .int .i64 ht, .slice A n c, .slice B m d], .agg #[.int .i64 s', .int .i64 wd', .int .i64 ht', .slice A' n' c', .slice B' m' d']] w fun e w' => e = .returned (.bool (sameTerrain s s' wd wd' ht ht' hs hs' cs cs')) ∧ Below w.heap.size w w' := by
  have C0 := Lib.hid (fun W (hb : Below w.heap.size w W) => implSame A A' n n' c c' hs hs' W (Rd.below hb r0) (Rd.below hb q0) k0 j0)
  have C1 := Lib.hid (fun W (hb : Below w.heap.size w W) => implSame B B' m m' d d' cs cs' W (Rd.below hb r1) (Rd.below hb q1) k1 j1)
  clear r0 q0 r1 q1
  by_cases e_s : s = s'
  · subst e_s
    by_cases e_wd : wd = wd'
    · subst e_wd
      by_cases e_ht : ht = ht'
      · subst e_ht
        by_cases e_z : hs = hs'
        · have HF : Hid (sameTerrain s s wd wd ht ht hs hs' cs cs' = decide (cs = cs')) := Lib.hid (by unfold sameTerrain; simp [e_z])
          rw [decide_eq_true e_z] at C0
          clear e_z
          go_enter Try.func28, Try.ntmps28
          go_wp2_with fail
          refine (C0.out _ (by repeat (first | with_reducible exact Below.refl _ _ | with_reducible assumption | (with_reducible refine Below.drew ?_) | (with_reducible refine below_drewN ?_ _) | ((with_reducible refine Below.alloc ?_ ?_ _); rotate_left; (focus first | exact Nat.le_refl _ | omega | (simp; done) | (simp; omega))) | ((with_reducible refine Below.setCell ?_ ?_ _); rotate_left; (focus first | exact Nat.le_refl _ | omega | (simp; done) | (simp; omega))) | ((with_reducible refine below_via (W := ?_) ?_ ?_ ?_); rotate_left; (with_reducible assumption); rotate_left; (focus first | exact Nat.le_refl _ | omega | (simp; done) | (simp; omega)))))).mono ?_
          rintro e w0 ⟨rfl, u0, rfl⟩
          go_wp2_with fail
          refine (C1.out _ (by repeat (first | with_reducible exact Below.refl _ _ | with_reducible assumption | (with_reducible refine Below.drew ?_) | (with_reducible refine below_drewN ?_ _) | ((with_reducible refine Below.alloc ?_ ?_ _); rotate_left; (focus first | exact Nat.le_refl _ | omega | (simp; done) | (simp; omega))) | ((with_reducible refine Below.setCell ?_ ?_ _); rotate_left; (focus first | exact Nat.le_refl _ | omega | (simp; done) | (simp; omega))) | ((with_reducible refine below_via (W := ?_) ?_ ?_ ?_); rotate_left; (with_reducible assumption); rotate_left; (focus first | exact Nat.le_refl _ | omega | (simp; done) | (simp; omega)))))).mono ?_
          rintro e w1 ⟨rfl, u1, rfl⟩
          go_wp2_with fail
          go_ret
          exact ⟨ret_bool HF.out.symm, (by repeat (first | with_reducible exact Below.refl _ _ | with_reducible assumption | (with_reducible refine Below.drew ?_) | (with_reducible refine below_drewN ?_ _) | ((with_reducible refine Below.alloc ?_ ?_ _); rotate_left; (focus first | exact Nat.le_refl _ | omega | (simp; done) | (simp; omega))) | ((with_reducible refine Below.setCell ?_ ?_ _); rotate_left; (focus first | exact Nat.le_refl _ | omega | (simp; done) | (simp; omega))) | ((with_reducible refine below_via (W := ?_) ?_ ?_ ?_); rotate_left; (with_reducible assumption); rotate_left; (focus first | exact Nat.le_refl _ | omega | (simp; done) | (simp; omega)))))⟩
        · have HF : Hid (sameTerrain s s wd wd ht ht hs hs' cs cs' = false) := Lib.hid (by unfold sameTerrain; simp [e_z])
          rw [decide_eq_false e_z] at C0
          clear e_z
          go_enter Try.func28, Try.ntmps28
          go_wp2_with fail
          refine (C0.out _ (by repeat (first | with_reducible exact Below.refl _ _ | with_reducible assumption | (with_reducible refine Below.drew ?_) | (with_reducible refine below_drewN ?_ _) | ((with_reducible refine Below.alloc ?_ ?_ _); rotate_left; (focus first | exact Nat.le_refl _ | omega | (simp; done) | (simp; omega))) | ((with_reducible refine Below.setCell ?_ ?_ _); rotate_left; (focus first | exact Nat.le_refl _ | omega | (simp; done) | (simp; omega))) | ((with_reducible refine below_via (W := ?_) ?_ ?_ ?_); rotate_left; (with_reducible assumption); rotate_left; (focus first | exact Nat.le_refl _ | omega | (simp; done) | (simp; omega)))))).mono ?_
          rintro e w0 ⟨rfl, u0, rfl⟩
          go_wp2_with fail
          go_ret
          exact ⟨ret_bool HF.out.symm, (by repeat (first | with_reducible exact Below.refl _ _ | with_reducible assumption | (with_reducible refine Below.drew ?_) | (with_reducible refine below_drewN ?_ _) | ((with_reducible refine Below.alloc ?_ ?_ _); rotate_left; (focus first | exact Nat.le_refl _ | omega | (simp; done) | (simp; omega))) | ((with_reducible refine Below.setCell ?_ ?_ _); rotate_left; (focus first | exact Nat.le_refl _ | omega | (simp; done) | (simp; omega))) | ((with_reducible refine below_via (W := ?_) ?_ ?_ ?_); rotate_left; (with_reducible assumption); rotate_left; (focus first | exact Nat.le_refl _ | omega | (simp; done) | (simp; omega)))))⟩
      · have HF : Hid (sameTerrain s s wd wd ht ht' hs hs' cs cs' = false) := Lib.hid (by unfold sameTerrain; simp [e_ht])
        have e1 : (ht == ht') = false := by simpa using e_ht
        clear e_ht
        go_enter Try.func28, Try.ntmps28
        go_wp2_with fail
        go_ret
        exact ⟨ret_bool HF.out.symm, (by repeat (first | with_reducible exact Below.refl _ _ | with_reducible assumption | (with_reducible refine Below.drew ?_) | (with_reducible refine below_drewN ?_ _) | ((with_reducible refine Below.alloc ?_ ?_ _); rotate_left; (focus first | exact Nat.le_refl _ | omega | (simp; done) | (simp; omega))) | ((with_reducible refine Below.setCell ?_ ?_ _); rotate_left; (focus first | exact Nat.le_refl _ | omega | (simp; done) | (simp; omega))) | ((with_reducible refine below_via (W := ?_) ?_ ?_ ?_); rotate_left; (with_reducible assumption); rotate_left; (focus first | exact Nat.le_refl _ | omega | (simp; done) | (simp; omega)))))⟩
    · have HF : Hid (sameTerrain s s wd wd' ht ht' hs hs' cs cs' = false) := Lib.hid (by unfold sameTerrain; simp [e_wd])
      have e1 : (wd == wd') = false := by simpa using e_wd
      clear e_wd
      go_enter Try.func28, Try.ntmps28
      go_wp2_with fail
      go_ret
      exact ⟨ret_bool HF.out.symm, (by repeat (first | with_reducible exact Below.refl _ _ | with_reducible assumption | (with_reducible refine Below.drew ?_) | (with_reducible refine below_drewN ?_ _) | ((with_reducible refine Below.alloc ?_ ?_ _); rotate_left; (focus first | exact Nat.le_refl _ | omega | (simp; done) | (simp; omega))) | ((with_reducible refine Below.setCell ?_ ?_ _); rotate_left; (focus first | exact Nat.le_refl _ | omega | (simp; done) | (simp; omega))) | ((with_reducible refine below_via (W := ?_) ?_ ?_ ?_); rotate_left; (with_reducible assumption); rotate_left; (focus first | exact Nat.le_refl _ | omega | (simp; done) | (simp; omega)))))⟩
  · have HF : Hid (sameTerrain s s' wd wd' ht ht' hs hs' cs cs' = false) := Lib.hid (by unfold sameTerrain; simp [e_s])
    have e1 : (s == s') = false := by simpa using e_s
    clear e_s
    go_enter Try.func28, Try.ntmps28
    go_wp2_with fail
    go_ret
    exact ⟨ret_bool HF.out.symm, (by repeat (first | with_reducible exact Below.refl _ _ | with_reducible assumption | (with_reducible refine Below.drew ?_) | (with_reducible refine below_drewN ?_ _) | ((with_reducible refine Below.alloc ?_ ?_ _); rotate_left; (focus first | exact Nat.le_refl _ | omega | (simp; done) | (simp; omega))) | ((with_reducible refine Below.setCell ?_ ?_ _); rotate_left; (focus first | exact Nat.le_refl _ | omega | (simp; done) | (simp; omega))) | ((with_reducible refine below_via (W := ?_) ?_ ?_ ?_); rotate_left; (with_reducible assumption); rotate_left; (focus first | exact Nat.le_refl _ | omega | (simp; done) | (simp; omega)))))⟩

/-- are two values equal, field by field -/
def sameProfile (d0 d0' : Int) (f0 f0' : Int) (l0 l0' : Int) (hs hs' : List Int) : Bool := decide (d0 = d0') && (decide (f0 = f0') && (decide (l0 = l0') && (decide (hs = hs'))))
theorem specSameProfile (d0 d0' : Int) (f0 f0' : Int) (l0 l0' : Int) (A A' : Option Addr) (n c n' c' : Nat) (hs hs' : List Int) (w : World) (r0 : Rd w A n hs) (q0 : Rd w A' n' hs') (k0 : n ≤ maxLen) (j0 : n' ≤ maxLen) :
    Calls Try.prog 16 #[.agg #[.int .i64 d0, .int .i64 f0, .int .i64 l0, .slice A n c], .agg #[.int .i64 d0', .int .i64 f0', .int .i64 l0', .slice A' n' c']] w fun e w' => e = .returned (.bool (sameProfile d0 d0' f0 f0' l0 l0' hs hs')) ∧ Below w.heap.size w w' := by
  have C0 := Lib.hid (fun W (hb : Below w.heap.size w W) => specSame A A' n n' c c' hs hs' W (Rd.below hb r0) (Rd.below hb q0) k0 j0)
  clear r0 q0
  by_cases e_d0 : d0 = d0'
  · subst e_d0
    by_cases e_f0 : f0 = f0'
    · subst e_f0
      by_cases e_l0 : l0 = l0'
      · subst e_l0
        have HF : Hid (sameProfile d0 d0 f0 f0 l0 l0 hs hs' = decide (hs = hs')) := Lib.hid (by unfold sameProfile; simp)
        go_enter Try.func16, Try.ntmps16
        go_wp2_with fail
        refine (C0.out _ (by repeat (first | with_reducible exact Below.refl _ _ | with_reducible assumption | (with_reducible refine Below.drew ?_) | (with_reducible refine below_drewN ?_ _) | ((with_reducible refine Below.alloc ?_ ?_ _); rotate_left; (focus first | exact Nat.le_refl _ | omega | (simp; done) | (simp; omega))) | ((with_reducible refine Below.setCell ?_ ?_ _); rotate_left; (focus first | exact Nat.le_refl _ | omega | (simp; done) | (simp; omega))) | ((with_reducible refine below_via (W := ?_) ?_ ?_ ?_); rotate_left; (with_reducible assumption); rotate_left; (focus first | exact Nat.le_refl _ | omega | (simp; done) | (simp; omega)))))).mono ?_
        rintro e w0 ⟨rfl, u0, rfl⟩
        go_wp2_with fail
        go_ret
        exact ⟨ret_bool HF.out.symm, (by repeat (first | with_reducible exact Below.refl _ _ | with_reducible assumption | (with_reducible refine Below.drew ?_) | (with_reducible refine below_drewN ?_ _) | ((with_reducible refine Below.alloc ?_ ?_ _); rotate_left; (focus first | exact Nat.le_refl _ | omega | (simp; done) | (simp; omega))) | ((with_reducible refine Below.setCell ?_ ?_ _); rotate_left; (focus first | exact Nat.le_refl _ | omega | (simp; done) | (simp; omega))) | ((with_reducible refine below_via (W := ?_) ?_ ?_ ?_); rotate_left; (with_reducible assumption); rotate_left; (focus first | exact Nat.le_refl _ | omega | (simp; done) | (simp; omega)))))⟩
      · have HF : Hid (sameProfile d0 d0 f0 f0 l0 l0' hs hs' = false) := Lib.hid (by unfold sameProfile; simp [e_l0])
        have e1 : (l0 == l0') = false := by simpa using e_l0
        clear e_l0
        go_enter Try.func16, Try.ntmps16
        go_wp2_with fail
        go_ret
        exact ⟨ret_bool HF.out.symm, (by repeat (first | with_reducible exact Below.refl _ _ | with_reducible assumption | (with_reducible refine Below.drew ?_) | (with_reducible refine below_drewN ?_ _) | ((with_reducible refine Below.alloc ?_ ?_ _); rotate_left; (focus first | exact Nat.le_refl _ | omega | (simp; done) | (simp; omega))) | ((with_reducible refine Below.setCell ?_ ?_ _); rotate_left; (focus first | exact Nat.le_refl _ | omega | (simp; done) | (simp; omega))) | ((with_reducible refine below_via (W := ?_) ?_ ?_ ?_); rotate_left; (with_reducible assumption); rotate_left; (focus first | exact Nat.le_refl _ | omega | (simp; done) | (simp; omega)))))⟩
    · have HF : Hid (sameProfile d0 d0 f0 f0' l0 l0' hs hs' = false) := Lib.hid (by unfold sameProfile; simp [e_f0])
      have e1 : (f0 == f0') = false := by simpa using e_f0
      clear e_f0
      go_enter Try.func16, Try.ntmps16
      go_wp2_with fail
      go_ret
      exact ⟨ret_bool HF.out.symm, (by repeat (first | with_reducible exact Below.refl _ _ | with_reducible assumption | (with_reducible refine Below.drew ?_) | (with_reducible refine below_drewN ?_ _) | ((with_reducible refine Below.alloc ?_ ?_ _); rotate_left; (focus first | exact Nat.le_refl _ | omega | (simp; done) | (simp; omega))) | ((with_reducible refine Below.setCell ?_ ?_ _); rotate_left; (focus first | exact Nat.le_refl _ | omega | (simp; done) | (simp; omega))) | ((with_reducible refine below_via (W := ?_) ?_ ?_ ?_); rotate_left; (with_reducible assumption); rotate_left; (focus first | exact Nat.le_refl _ | omega | (simp; done) | (simp; omega)))))⟩
  · have HF : Hid (sameProfile d0 d0' f0 f0' l0 l0' hs hs' = false) := Lib.hid (by unfold sameProfile; simp [e_d0])
    have e1 : (d0 == d0') = false := by simpa using e_d0
    clear e_d0
    go_enter Try.func16, Try.ntmps16
    go_wp2_with fail
    go_ret
    exact ⟨ret_bool HF.out.symm, (by repeat (first | with_reducible exact Below.refl _ _ | with_reducible assumption | (with_reducible refine Below.drew ?_) | (with_reducible refine below_drewN ?_ _) | ((with_reducible refine Below.alloc ?_ ?_ _); rotate_left; (focus first | exact Nat.le_refl _ | omega | (simp; done) | (simp; omega))) | ((with_reducible refine Below.setCell ?_ ?_ _); rotate_left; (focus first | exact Nat.le_refl _ | omega | (simp; done) | (simp; omega))) | ((with_reducible refine below_via (W := ?_) ?_ ?_ ?_); rotate_left; (with_reducible assumption); rotate_left; (focus first | exact Nat.le_refl _ | omega | (simp; done) | (simp; omega)))))⟩

theorem implSameProfile (d0 d0' : Int) (f0 f0' : Int) (l0 l0' : Int) (A A' : Option Addr) (n c n' c' : Nat) (hs hs' : List Int) (w : World) (r0 : Rd w A n hs) (q0 : Rd w A' n' hs') (k0 : n ≤ maxLen) (j0 : n' ≤ maxLen) :
    Calls Try.prog 18 #[.agg #[.int .i64 d0, .int .i64 f0, .int .i64 l0, .slice A n c], .agg #[.int .i64 d0', .int .i64 f0', .int .i64 l0', .slice A' n' c']] w fun e w' => e = .returned (.bool (sameProfile d0 d0' f0 f0' l0 l0' hs hs')) ∧ Below w.heap.size w w' := by
  have C0 := Lib.hid (fun W (hb : Below w.heap.size w W) => implSame A A' n n' c c' hs hs' W (Rd.below hb r0) (Rd.below hb q0) k0 j0)
  clear r0 q0
  by_cases e_d0 : d0 = d0'
  · subst e_d0
    by_cases e_f0 : f0 = f0'
    · subst e_f0
      by_cases e_l0 : l0 = l0'
      · subst e_l0
        have HF : Hid (sameProfile d0 d0 f0 f0 l0 l0 hs hs' = decide (hs = hs')) := Lib.hid (by unfold sameProfile; simp)
        go_enter Try.func18, Try.ntmps18
        go_wp2_with fail
        refine (C0.out _ (by repeat (first | with_reducible exact Below.refl _ _ | with_reducible assumption | (with_reducible refine Below.drew ?_) | (with_reducible refine below_drewN ?_ _) | ((with_reducible refine Below.alloc ?_ ?_ _); rotate_left; (focus first | exact Nat.le_refl _ | omega | (simp; done) | (simp; omega))) | ((with_reducible refine Below.setCell ?_ ?_ _); rotate_left; (focus first | exact Nat.le_refl _ | omega | (simp; done) | (simp; omega))) | ((with_reducible refine below_via (W := ?_) ?_ ?_ ?_); rotate_left; (with_reducible assumption); rotate_left; (focus first | exact Nat.le_refl _ | omega | (simp; done) | (simp; omega)))))).mono ?_
        rintro e w0 ⟨rfl, u0, rfl⟩
        go_wp2_with fail
        go_ret
        exact ⟨ret_bool HF.out.symm, (by repeat (first | with_reducible exact Below.refl _ _ | with_reducible assumption | (with_reducible refine Below.drew ?_) | (with_reducible refine below_drewN ?_ _) | ((with_reducible refine Below.alloc ?_ ?_ _); rotate_left; (focus first | exact Nat.le_refl _ | omega | (simp; done) | (simp; omega))) | ((with_reducible refine Below.setCell ?_ ?_ _); rotate_left; (focus first | exact Nat.le_refl _ | omega | (simp; done) | (simp; omega))) | ((with_reducible refine below_via (W := ?_) ?_ ?_ ?_); rotate_left; (with_reducible assumption); rotate_left; (focus first | exact Nat.le_refl _ | omega | (simp; done) | (simp; omega)))))⟩
      · have HF : Hid (sameProfile d0 d0 f0 f0 l0 l0' hs hs' = false) := Lib.hid (by unfold sameProfile; simp [e_l0])
        have e1 : (l0 == l0') = false := by simpa using e_l0
        clear e_l0
        go_enter Try.func18, Try.ntmps18
        go_wp2_with fail
        go_ret
        exact ⟨ret_bool HF.out.symm, (by repeat (first | with_reducible exact Below.refl _ _ | with_reducible assumption | (with_reducible refine Below.drew ?_) | (with_reducible refine below_drewN ?_ _) | ((with_reducible refine Below.alloc ?_ ?_ _); rotate_left; (focus first | exact Nat.le_refl _ | omega | (simp; done) | (simp; omega))) | ((with_reducible refine Below.setCell ?_ ?_ _); rotate_left; (focus first | exact Nat.le_refl _ | omega | (simp; done) | (simp; omega))) | ((with_reducible refine below_via (W := ?_) ?_ ?_ ?_); rotate_left; (with_reducible assumption); rotate_left; (focus first | exact Nat.le_refl _ | omega | (simp; done) | (simp; omega)))))⟩
    · have HF : Hid (sameProfile d0 d0 f0 f0' l0 l0' hs hs' = false) := Lib.hid (by unfold sameProfile; simp [e_f0])
      have e1 : (f0 == f0') = false := by simpa using e_f0
      clear e_f0
      go_enter Try.func18, Try.ntmps18
      go_wp2_with fail
      go_ret
      exact ⟨ret_bool HF.out.symm, (by repeat (first | with_reducible exact Below.refl _ _ | with_reducible assumption | (with_reducible refine Below.drew ?_) | (with_reducible refine below_drewN ?_ _) | ((with_reducible refine Below.alloc ?_ ?_ _); rotate_left; (focus first | exact Nat.le_refl _ | omega | (simp; done) | (simp; omega))) | ((with_reducible refine Below.setCell ?_ ?_ _); rotate_left; (focus first | exact Nat.le_refl _ | omega | (simp; done) | (simp; omega))) | ((with_reducible refine below_via (W := ?_) ?_ ?_ ?_); rotate_left; (with_reducible assumption); rotate_left; (focus first | exact Nat.le_refl _ | omega | (simp; done) | (simp; omega)))))⟩
  · have HF : Hid (sameProfile d0 d0' f0 f0' l0 l0' hs hs' = false) := Lib.hid (by unfold sameProfile; simp [e_d0])
    have e1 : (d0 == d0') = false := by simpa using e_d0
    clear e_d0
    go_enter Try.func18, Try.ntmps18
    go_wp2_with fail
    go_ret
    exact ⟨ret_bool HF.out.symm, (by repeat (first | with_reducible exact Below.refl _ _ | with_reducible assumption | (with_reducible refine Below.drew ?_) | (with_reducible refine below_drewN ?_ _) | ((with_reducible refine Below.alloc ?_ ?_ _); rotate_left; (focus first | exact Nat.le_refl _ | omega | (simp; done) | (simp; omega))) | ((with_reducible refine Below.setCell ?_ ?_ _); rotate_left; (focus first | exact Nat.le_refl _ | omega | (simp; done) | (simp; omega))) | ((with_reducible refine below_via (W := ?_) ?_ ?_ ?_); rotate_left; (with_reducible assumption); rotate_left; (focus first | exact Nat.le_refl _ | omega | (simp; done) | (simp; omega)))))⟩

/-- are two values equal, field by field -/
def sameAntenna (nm nm' : ByteArray) (gn gn' : Int) (hs hs' : List Int) (cs cs' : List Int) : Bool := decide (nm = nm') && (decide (gn = gn') && (decide (hs = hs') && (decide (cs = cs'))))
theorem specSameAntenna (nm nm' : ByteArray) (gn gn' : Int) (A A' : Option Addr) (n c n' c' : Nat) (hs hs' : List Int) (B B' : Option Addr) (m d m' d' : Nat) (cs cs' : List Int) (w : World) (r0 : Rd w A n hs) (q0 : Rd w A' n' hs') (k0 : n ≤ maxLen) (j0 : n' ≤ maxLen) (r1 : Rd w B m cs) (q1 : Rd w B' m' cs') (k1 : m ≤ maxLen) (j1 : m' ≤ maxLen) :
    Calls Try.prog 21 #[.agg #[.string nm, .int .i64 gn, .slice A n c, .slice B m d], .agg #[.string nm', .int .i64 gn', .slice A' n' c', .slice B' m' d']] w fun e w' => e = .returned (.bool (sameAntenna nm nm' gn gn' hs hs' cs cs')) ∧ Below w.heap.size w w' := by
  have C0 := Lib.hid (fun W (hb : Below w.heap.size w W) => specSame A A' n n' c c' hs hs' W (Rd.below hb r0) (Rd.below hb q0) k0 j0)
  have C1 := Lib.hid (fun W (hb : Below w.heap.size w W) => specSame B B' m m' d d' cs cs' W (Rd.below hb r1) (Rd.below hb q1) k1 j1)
  clear r0 q0 r1 q1
  by_cases e_nm : nm = nm'
  · subst e_nm
    by_cases e_gn : gn = gn'
    · subst e_gn
      by_cases e_z : hs = hs'
      · have HF : Hid (sameAntenna nm nm gn gn hs hs' cs cs' = decide (cs = cs')) := Lib.hid (by unfold sameAntenna; simp [e_z])
        rw [decide_eq_true e_z] at C0
        clear e_z
        go_enter Try.func21, Try.ntmps21
        go_wp2_with fail
        refine (C0.out _ (by repeat (first | with_reducible exact Below.refl _ _ | with_reducible assumption | (with_reducible refine Below.drew ?_) | (with_reducible refine below_drewN ?_ _) | ((with_reducible refine Below.alloc ?_ ?_ _); rotate_left; (focus first | exact Nat.le_refl _ | omega | (simp; done) | (simp; omega))) | ((with_reducible refine Below.setCell ?_ ?_ _); rotate_left; (focus first | exact Nat.le_refl _ | omega | (simp; done) | (simp; omega))) | ((with_reducible refine below_via (W := ?_) ?_ ?_ ?_); rotate_left; (with_reducible assumption); rotate_left; (focus first | exact Nat.le_refl _ | omega | (simp; done) | (simp; omega)))))).mono ?_
        rintro e w0 ⟨rfl, u0, rfl⟩
        go_wp2_with fail
        refine (C1.out _ (by repeat (first | with_reducible exact Below.refl _ _ | with_reducible assumption | (with_reducible refine Below.drew ?_) | (with_reducible refine below_drewN ?_ _) | ((with_reducible refine Below.alloc ?_ ?_ _); rotate_left; (focus first | exact Nat.le_refl _ | omega | (simp; done) | (simp; omega))) | ((with_reducible refine Below.setCell ?_ ?_ _); rotate_left; (focus first | exact Nat.le_refl _ | omega | (simp; done) | (simp; omega))) | ((with_reducible refine below_via (W := ?_) ?_ ?_ ?_); rotate_left; (with_reducible assumption); rotate_left; (focus first | exact Nat.le_refl _ | omega | (simp; done) | (simp; omega)))))).mono ?_
        rintro e w1 ⟨rfl, u1, rfl⟩
        go_wp2_with fail
        go_ret
        exact ⟨ret_bool HF.out.symm, (by repeat (first | with_reducible exact Below.refl _ _ | with_reducible assumption | (with_reducible refine Below.drew ?_) | (with_reducible refine below_drewN ?_ _) | ((with_reducible refine Below.alloc ?_ ?_ _); rotate_left; (focus first | exact Nat.le_refl _ | omega | (simp; done) | (simp; omega))) | ((with_reducible refine Below.setCell ?_ ?_ _); rotate_left; (focus first | exact Nat.le_refl _ | omega | (simp; done) | (simp; omega))) | ((with_reducible refine below_via (W := ?_) ?_ ?_ ?_); rotate_left; (with_reducible assumption); rotate_left; (focus first | exact Nat.le_refl _ | omega | (simp; done) | (simp; omega)))))⟩
      · have HF : Hid (sameAntenna nm nm gn gn hs hs' cs cs' = false) := Lib.hid (by unfold sameAntenna; simp [e_z])
        rw [decide_eq_false e_z] at C0
        clear e_z
        go_enter Try.func21, Try.ntmps21
        go_wp2_with fail
        refine (C0.out _ (by repeat (first | with_reducible exact Below.refl _ _ | with_reducible assumption | (with_reducible refine Below.drew ?_) | (with_reducible refine below_drewN ?_ _) | ((with_reducible refine Below.alloc ?_ ?_ _); rotate_left; (focus first | exact Nat.le_refl _ | omega | (simp; done) | (simp; omega))) | ((with_reducible refine Below.setCell ?_ ?_ _); rotate_left; (focus first | exact Nat.le_refl _ | omega | (simp; done) | (simp; omega))) | ((with_reducible refine below_via (W := ?_) ?_ ?_ ?_); rotate_left; (with_reducible assumption); rotate_left; (focus first | exact Nat.le_refl _ | omega | (simp; done) | (simp; omega)))))).mono ?_
        rintro e w0 ⟨rfl, u0, rfl⟩
        go_wp2_with fail
        go_ret
        exact ⟨ret_bool HF.out.symm, (by repeat (first | with_reducible exact Below.refl _ _ | with_reducible assumption | (with_reducible refine Below.drew ?_) | (with_reducible refine below_drewN ?_ _) | ((with_reducible refine Below.alloc ?_ ?_ _); rotate_left; (focus first | exact Nat.le_refl _ | omega | (simp; done) | (simp; omega))) | ((with_reducible refine Below.setCell ?_ ?_ _); rotate_left; (focus first | exact Nat.le_refl _ | omega | (simp; done) | (simp; omega))) | ((with_reducible refine below_via (W := ?_) ?_ ?_ ?_); rotate_left; (with_reducible assumption); rotate_left; (focus first | exact Nat.le_refl _ | omega | (simp; done) | (simp; omega)))))⟩
    · have HF : Hid (sameAntenna nm nm gn gn' hs hs' cs cs' = false) := Lib.hid (by unfold sameAntenna; simp [e_gn])
      have e1 : (gn == gn') = false := by simpa using e_gn
      clear e_gn
      go_enter Try.func21, Try.ntmps21
      go_wp2_with fail
      go_ret
      exact ⟨ret_bool HF.out.symm, (by repeat (first | with_reducible exact Below.refl _ _ | with_reducible assumption | (with_reducible refine Below.drew ?_) | (with_reducible refine below_drewN ?_ _) | ((with_reducible refine Below.alloc ?_ ?_ _); rotate_left; (focus first | exact Nat.le_refl _ | omega | (simp; done) | (simp; omega))) | ((with_reducible refine Below.setCell ?_ ?_ _); rotate_left; (focus first | exact Nat.le_refl _ | omega | (simp; done) | (simp; omega))) | ((with_reducible refine below_via (W := ?_) ?_ ?_ ?_); rotate_left; (with_reducible assumption); rotate_left; (focus first | exact Nat.le_refl _ | omega | (simp; done) | (simp; omega)))))⟩
  · have HF : Hid (sameAntenna nm nm' gn gn' hs hs' cs cs' = false) := Lib.hid (by unfold sameAntenna; simp [e_nm])
    have e1 := str_ne e_nm
    clear e_nm
    go_enter Try.func21, Try.ntmps21
    go_wp2_with fail
    go_ret
    exact ⟨ret_bool HF.out.symm, (by repeat (first | with_reducible exact Below.refl _ _ | with_reducible assumption | (with_reducible refine Below.drew ?_) | (with_reducible refine below_drewN ?_ _) | ((with_reducible refine Below.alloc ?_ ?_ _); rotate_left; (focus first | exact Nat.le_refl _ | omega | (simp; done) | (simp; omega))) | ((with_reducible refine Below.setCell ?_ ?_ _); rotate_left; (focus first | exact Nat.le_refl _ | omega | (simp; done) | (simp; omega))) | ((with_reducible refine below_via (W := ?_) ?_ ?_ ?_); rotate_left; (with_reducible assumption); rotate_left; (focus first | exact Nat.le_refl _ | omega | (simp; done) | (simp; omega)))))⟩

theorem implSameAntenna (nm nm' : ByteArray) (gn gn' : Int) (A A' : Option Addr) (n c n' c' : Nat) (hs hs' : List Int) (B B' : Option Addr) (m d m' d' : Nat) (cs cs' : List Int) (w : World) (r0 : Rd w A n hs) (q0 : Rd w A' n' hs') (k0 : n ≤ maxLen) (j0 : n' ≤ maxLen) (r1 : Rd w B m cs) (q1 : Rd w B' m' cs') (k1 : m ≤ maxLen) (j1 : m' ≤ maxLen) :
    Calls Try.prog 23 #[.agg #[.string nm, .int .i64 gn, .slice A n c, .slice B m d], .agg #[.string nm', .int .i64 gn', .slice A' n' c', .slice B' m' d']] w fun e w' => e = .returned (.bool (sameAntenna nm nm' gn gn' hs hs' cs cs')) ∧ Below w.heap.size w w' := by
  have C0 := Lib.hid (fun W (hb : Below w.heap.size w W) => implSame A A' n n' c c' hs hs' W (Rd.below hb r0) (Rd.below hb q0) k0 j0)
  have C1 := Lib.hid (fun W (hb : Below w.heap.size w W) => implSame B B' m m' d d' cs cs' W (Rd.below hb r1) (Rd.below hb q1) k1 j1)
  clear r0 q0 r1 q1
  by_cases e_nm : nm = nm'
  · subst e_nm
    by_cases e_gn : gn = gn'
    · subst e_gn
      by_cases e_z : hs = hs'
      · have HF : Hid (sameAntenna nm nm gn gn hs hs' cs cs' = decide (cs = cs')) := Lib.hid (by unfold sameAntenna; simp [e_z])
        rw [decide_eq_true e_z] at C0
        clear e_z
        go_enter Try.func23, Try.ntmps23
        go_wp2_with fail
        refine (C0.out _ (by repeat (first | with_reducible exact Below.refl _ _ | with_reducible assumption | (with_reducible refine Below.drew ?_) | (with_reducible refine below_drewN ?_ _) | ((with_reducible refine Below.alloc ?_ ?_ _); rotate_left; (focus first | exact Nat.le_refl _ | omega | (simp; done) | (simp; omega))) | ((with_reducible refine Below.setCell ?_ ?_ _); rotate_left; (focus first | exact Nat.le_refl _ | omega | (simp; done) | (simp; omega))) | ((with_reducible refine below_via (W := ?_) ?_ ?_ ?_); rotate_left; (with_reducible assumption); rotate_left; (focus first | exact Nat.le_refl _ | omega | (simp; done) | (simp; omega)))))).mono ?_
        rintro e w0 ⟨rfl, u0, rfl⟩
        go_wp2_with fail
        refine (C1.out _ (by repeat (first | with_reducible exact Below.refl _ _ | with_reducible assumption | (with_reducible refine Below.drew ?_) | (with_reducible refine below_drewN ?_ _) | ((with_reducible refine Below.alloc ?_ ?_ _); rotate_left; (focus first | exact Nat.le_refl _ | omega | (simp; done) | (simp; omega))) | ((with_reducible refine Below.setCell ?_ ?_ _); rotate_left; (focus first | exact Nat.le_refl _ | omega | (simp; done) | (simp; omega))) | ((with_reducible refine below_via (W := ?_) ?_ ?_ ?_); rotate_left; (with_reducible assumption); rotate_left; (focus first | exact Nat.le_refl _ | omega | (simp; done) | (simp; omega)))))).mono ?_
        rintro e w1 ⟨rfl, u1, rfl⟩
        go_wp2_with fail
        go_ret
        exact ⟨ret_bool HF.out.symm, (by repeat (first | with_reducible exact Below.refl _ _ | with_reducible assumption | (with_reducible refine Below.drew ?_) | (with_reducible refine below_drewN ?_ _) | ((with_reducible refine Below.alloc ?_ ?_ _); rotate_left; (focus first | exact Nat.le_refl _ | omega | (simp; done) | (simp; omega))) | ((with_reducible refine Below.setCell ?_ ?_ _); rotate_left; (focus first | exact Nat.le_refl _ | omega | (simp; done) | (simp; omega))) | ((with_reducible refine below_via (W := ?_) ?_ ?_ ?_); rotate_left; (with_reducible assumption); rotate_left; (focus first | exact Nat.le_refl _ | omega | (simp; done) | (simp; omega)))))⟩
      · have HF : Hid (sameAntenna nm nm gn gn hs hs' cs cs' = false) := Lib.hid (by unfold sameAntenna; simp [e_z])
        rw [decide_eq_false e_z] at C0
        clear e_z
        go_enter Try.func23, Try.ntmps23
        go_wp2_with fail
        refine (C0.out _ (by repeat (first | with_reducible exact Below.refl _ _ | with_reducible assumption | (with_reducible refine Below.drew ?_) | (with_reducible refine below_drewN ?_ _) | ((with_reducible refine Below.alloc ?_ ?_ _); rotate_left; (focus first | exact Nat.le_refl _ | omega | (simp; done) | (simp; omega))) | ((with_reducible refine Below.setCell ?_ ?_ _); rotate_left; (focus first | exact Nat.le_refl _ | omega | (simp; done) | (simp; omega))) | ((with_reducible refine below_via (W := ?_) ?_ ?_ ?_); rotate_left; (with_reducible assumption); rotate_left; (focus first | exact Nat.le_refl _ | omega | (simp; done) | (simp; omega)))))).mono ?_
        rintro e w0 ⟨rfl, u0, rfl⟩
        go_wp2_with fail
        go_ret
        exact ⟨ret_bool HF.out.symm, (by repeat (first | with_reducible exact Below.refl _ _ | with_reducible assumption | (with_reducible refine Below.drew ?_) | (with_reducible refine below_drewN ?_ _) | ((with_reducible refine Below.alloc ?_ ?_ _); rotate_left; (focus first | exact Nat.le_refl _ | omega | (simp; done) | (simp; omega))) | ((with_reducible refine Below.setCell ?_ ?_ _); rotate_left; (focus first | exact Nat.le_refl _ | omega | (simp; done) | (simp; omega))) | ((with_reducible refine below_via (W := ?_) ?_ ?_ ?_); rotate_left; (with_reducible assumption); rotate_left; (focus first | exact Nat.le_refl _ | omega | (simp; done) | (simp; omega)))))⟩
    · have HF : Hid (sameAntenna nm nm gn gn' hs hs' cs cs' = false) := Lib.hid (by unfold sameAntenna; simp [e_gn])
      have e1 : (gn == gn') = false := by simpa using e_gn
      clear e_gn
      go_enter Try.func23, Try.ntmps23
      go_wp2_with fail
      go_ret
      exact ⟨ret_bool HF.out.symm, (by repeat (first | with_reducible exact Below.refl _ _ | with_reducible assumption | (with_reducible refine Below.drew ?_) | (with_reducible refine below_drewN ?_ _) | ((with_reducible refine Below.alloc ?_ ?_ _); rotate_left; (focus first | exact Nat.le_refl _ | omega | (simp; done) | (simp; omega))) | ((with_reducible refine Below.setCell ?_ ?_ _); rotate_left; (focus first | exact Nat.le_refl _ | omega | (simp; done) | (simp; omega))) | ((with_reducible refine below_via (W := ?_) ?_ ?_ ?_); rotate_left; (with_reducible assumption); rotate_left; (focus first | exact Nat.le_refl _ | omega | (simp; done) | (simp; omega)))))⟩
  · have HF : Hid (sameAntenna nm nm' gn gn' hs hs' cs cs' = false) := Lib.hid (by unfold sameAntenna; simp [e_nm])
    have e1 := str_ne e_nm
    clear e_nm
    go_enter Try.func23, Try.ntmps23
    go_wp2_with fail
    go_ret
    exact ⟨ret_bool HF.out.symm, (by repeat (first | with_reducible exact Below.refl _ _ | with_reducible assumption | (with_reducible refine Below.drew ?_) | (with_reducible refine below_drewN ?_ _) | ((with_reducible refine Below.alloc ?_ ?_ _); rotate_left; (focus first | exact Nat.le_refl _ | omega | (simp; done) | (simp; omega))) | ((with_reducible refine Below.setCell ?_ ?_ _); rotate_left; (focus first | exact Nat.le_refl _ | omega | (simp; done) | (simp; omega))) | ((with_reducible refine below_via (W := ?_) ?_ ?_ ?_); rotate_left; (with_reducible assumption); rotate_left; (focus first | exact Nat.le_refl _ | omega | (simp; done) | (simp; omega)))))⟩

end Go.Proofs.Ytgondkjephojjaa.WalkZ
