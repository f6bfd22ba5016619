/- The laws' helpers at structs that hold lists. Printed by a program (mkstruct.py). -/
import Derived.Test.YtemjjjjkokfjdaaDoorWalkI
namespace Go.Proofs.YtemjjjjkokfjdaaDoor.WalkX
open Go Go.RowKit Go.Proofs.YtemjjjjkokfjdaaDoor.Base Go.Proofs.YtemjjjjkokfjdaaDoor.Words Go.Proofs.YtemjjjjkokfjdaaDoor.Ints Go.Proofs.YtemjjjjkokfjdaaDoor.WalkN Go.Proofs.YtemjjjjkokfjdaaDoor.WalkP Go.Proofs.YtemjjjjkokfjdaaDoor.WalkI
set_option linter.unusedVariables false
set_option linter.unusedSimpArgs false

theorem toTerrain (s : Int) (wd : Int) (ht : Int) (A : Option Addr) (n c : Nat) (hs : List Int) (B : Option Addr) (m d : Nat) (cs : List Int) (w : World) (r0 : Rd w A n hs) (k0 : n ≤ 1048576) (r1 : Rd w B m cs) (k1 : m ≤ 1048576) :
    Calls Tryd.prog 12 #[.agg #[.int .i64 s, .int .i64 wd, .int .i64 ht, .slice A n c, .slice B m d]] w fun e w' => ∃ g h : Nat, e = .returned (.agg #[.int .i64 s, .int .i64 wd, .int .i64 ht, .slice (some ⟨g, 0, none⟩) n n, .slice (some ⟨h, 0, none⟩) m m]) ∧ Ow w' w.heap.size (some ⟨g, 0, none⟩) n n hs ∧ Ow w' w.heap.size (some ⟨h, 0, none⟩) m m cs ∧ g ≠ h ∧ Below w.heap.size w w' := by
  have hz := w.heap.size
  have R0 := Lib.hid r0
  have R1 := Lib.hid r1
  clear hz r0 r1
  go_enter Tryd.func12, Tryd.ntmps12
  go_wp2_with fail
  refine (toInts A n c hs _ (Rd.below (by repeat (first | with_reducible exact Below.refl _ _ | with_reducible assumption | (with_reducible refine Below.drew ?_) | (with_reducible refine below_drewN ?_ _) | ((with_reducible refine Below.alloc ?_ ?_ _); rotate_left; (focus first | exact Nat.le_refl _ | omega | (simp; done) | (simp; omega))) | ((with_reducible refine Below.setCell ?_ ?_ _); rotate_left; (focus first | exact Nat.le_refl _ | omega | (simp; done) | (simp; omega))) | ((with_reducible refine below_via (W := ?_) ?_ ?_ ?_); rotate_left; (with_reducible assumption); rotate_left; (focus first | exact Nat.le_refl _ | omega | (simp; done) | (simp; omega))))) R0.out) k0).mono ?_
  rintro e w1 ⟨g, rfl, ho, hb⟩
  obtain ⟨hc, hf⟩ := bcell hb
  have sz1 := hb.size
  simp at sz1
  have z0 : w.heap.size < w1.heap.size := by omega
  have z1 : w.heap.size + 1 < w1.heap.size := by omega
  have z2 : w.heap.size + 1 + 1 < w1.heap.size := by omega
  have O0 := Lib.hid ho
  clear ho
  go_wp2_with fail
  refine (toInts B m d cs _ (Rd.below (by repeat (first | with_reducible exact Below.refl _ _ | with_reducible assumption | (with_reducible refine Below.drew ?_) | (with_reducible refine below_drewN ?_ _) | ((with_reducible refine Below.alloc ?_ ?_ _); rotate_left; (focus first | exact Nat.le_refl _ | omega | (simp; done) | (simp; omega))) | ((with_reducible refine Below.setCell ?_ ?_ _); rotate_left; (focus first | exact Nat.le_refl _ | omega | (simp; done) | (simp; omega))) | ((with_reducible refine below_via (W := ?_) ?_ ?_ ?_); rotate_left; (with_reducible assumption); rotate_left; (focus first | exact Nat.le_refl _ | omega | (simp; done) | (simp; omega))))) R1.out) k1).mono ?_
  rintro e w2 ⟨h, rfl, ho, hb2⟩
  obtain ⟨hc2, hf2⟩ := bcell hb2
  have sz2 := hb2.size
  simp at sz2
  have y2 : w.heap.size + 1 + 1 < w2.heap.size := by omega
  have O1 := Lib.hid ho
  clear ho
  have hg := O0.out.lt
  have hh := O1.out.lt
  simp at hg hh
  go_wp2_with fail
  have o0 : Ow w1 w.heap.size _ _ _ _ := Ow.lower O0.out (by simp; omega)
  have o1 : Ow w2 w.heap.size _ _ _ _ := Ow.lower O1.out (by simp; omega)
  refine ret_world fun W hW => ?_
  have c0 : W.cell? ⟨w.heap.size + 1, 0, none⟩ = some (.int .i64 s) := by rw [hW]; (((try dsimp only); (repeat' apply And.intro) <;> (repeat (first | with_reducible assumption | (with_reducible refine keep_drew ?_) | (with_reducible refine keep_drewN ?_) | ((with_reducible refine keep_new _ _ _ _ _ _ ?_ ?_) <;> (first | rfl | (simp; done) | omega)) | (with_reducible refine keep_alloc _ ?_) | ((with_reducible refine keep_set _ ?_ ?_); (focus first | omega | (simp; done) | (simp; omega))) | ((with_reducible refine keep_set' _ ?_ ?_); (focus first | omega | (simp; done))) | ((with_reducible refine keep_same (u := ?_) _ ?_); rotate_left) | ((with_reducible refine keep_setA _ ?_ ?_); (focus first | omega | (simp; done) | (simp; omega))) | ((with_reducible refine keep_below (w := ?_) ?_ ?_); rotate_left; (with_reducible assumption))))))
  have c1 : W.cell? ⟨w.heap.size + 1, 1, none⟩ = some (.int .i64 wd) := by rw [hW]; (((try dsimp only); (repeat' apply And.intro) <;> (repeat (first | with_reducible assumption | (with_reducible refine keep_drew ?_) | (with_reducible refine keep_drewN ?_) | ((with_reducible refine keep_new _ _ _ _ _ _ ?_ ?_) <;> (first | rfl | (simp; done) | omega)) | (with_reducible refine keep_alloc _ ?_) | ((with_reducible refine keep_set _ ?_ ?_); (focus first | omega | (simp; done) | (simp; omega))) | ((with_reducible refine keep_set' _ ?_ ?_); (focus first | omega | (simp; done))) | ((with_reducible refine keep_same (u := ?_) _ ?_); rotate_left) | ((with_reducible refine keep_setA _ ?_ ?_); (focus first | omega | (simp; done) | (simp; omega))) | ((with_reducible refine keep_below (w := ?_) ?_ ?_); rotate_left; (with_reducible assumption))))))
  have c2 : W.cell? ⟨w.heap.size + 1, 2, none⟩ = some (.int .i64 ht) := by rw [hW]; (((try dsimp only); (repeat' apply And.intro) <;> (repeat (first | with_reducible assumption | (with_reducible refine keep_drew ?_) | (with_reducible refine keep_drewN ?_) | ((with_reducible refine keep_new _ _ _ _ _ _ ?_ ?_) <;> (first | rfl | (simp; done) | omega)) | (with_reducible refine keep_alloc _ ?_) | ((with_reducible refine keep_set _ ?_ ?_); (focus first | omega | (simp; done) | (simp; omega))) | ((with_reducible refine keep_set' _ ?_ ?_); (focus first | omega | (simp; done))) | ((with_reducible refine keep_same (u := ?_) _ ?_); rotate_left) | ((with_reducible refine keep_setA _ ?_ ?_); (focus first | omega | (simp; done) | (simp; omega))) | ((with_reducible refine keep_below (w := ?_) ?_ ?_); rotate_left; (with_reducible assumption))))))
  have c3 : W.cell? ⟨w.heap.size + 1, 3, none⟩ = some (.slice (some ⟨g, 0, none⟩) n n) := by rw [hW]; (((try dsimp only); (repeat' apply And.intro) <;> (repeat (first | with_reducible assumption | (with_reducible refine keep_drew ?_) | (with_reducible refine keep_drewN ?_) | ((with_reducible refine keep_new _ _ _ _ _ _ ?_ ?_) <;> (first | rfl | (simp; done) | omega)) | (with_reducible refine keep_alloc _ ?_) | ((with_reducible refine keep_set _ ?_ ?_); (focus first | omega | (simp; done) | (simp; omega))) | ((with_reducible refine keep_set' _ ?_ ?_); (focus first | omega | (simp; done))) | ((with_reducible refine keep_same (u := ?_) _ ?_); rotate_left) | ((with_reducible refine keep_setA _ ?_ ?_); (focus first | omega | (simp; done) | (simp; omega))) | ((with_reducible refine keep_below (w := ?_) ?_ ?_); rotate_left; (with_reducible assumption))))))
  have c4 : W.cell? ⟨w.heap.size + 1, 4, none⟩ = some (.slice (some ⟨h, 0, none⟩) m m) := by rw [hW]; (((try dsimp only); (repeat' apply And.intro) <;> (repeat (first | with_reducible assumption | (with_reducible refine keep_drew ?_) | (with_reducible refine keep_drewN ?_) | ((with_reducible refine keep_new _ _ _ _ _ _ ?_ ?_) <;> (first | rfl | (simp; done) | omega)) | (with_reducible refine keep_alloc _ ?_) | ((with_reducible refine keep_set _ ?_ ?_); (focus first | omega | (simp; done) | (simp; omega))) | ((with_reducible refine keep_set' _ ?_ ?_); (focus first | omega | (simp; done))) | ((with_reducible refine keep_same (u := ?_) _ ?_); rotate_left) | ((with_reducible refine keep_setA _ ?_ ?_); (focus first | omega | (simp; done) | (simp; omega))) | ((with_reducible refine keep_below (w := ?_) ?_ ?_); rotate_left; (with_reducible assumption))))))
  exact bodyPost_ret (v := .agg #[.int .i64 s, .int .i64 wd, .int .i64 ht, .slice (some ⟨g, 0, none⟩) n n, .slice (some ⟨h, 0, none⟩) m m]) (by simp [results, Tryd.results12, go_sem, c0, c1, c2, c3, c4]) rfl ⟨g, h, rfl, by rw [hW]; exact (by repeat (first | with_reducible assumption | (with_reducible refine Ow.drew ?_) | (with_reducible refine Ow.drewN ?_ _) | (with_reducible refine Ow.alloc ?_ _) | ((with_reducible refine Ow.far' _ ?_ ?_); (focus first | omega | (simp; done) | (simp; omega))) | ((with_reducible refine Ow.low _ ?_ ?_); (focus first | omega | (simp; done) | (simp; omega))) | ((with_reducible refine Ow.farx _ ?_ ?_); (focus (intro g e; have hh := hx g e; omega))) | ((with_reducible refine Ow.below (w := ?_) ?_ ?_); rotate_left; (with_reducible assumption)))), by rw [hW]; exact (by repeat (first | with_reducible assumption | (with_reducible refine Ow.drew ?_) | (with_reducible refine Ow.drewN ?_ _) | (with_reducible refine Ow.alloc ?_ _) | ((with_reducible refine Ow.far' _ ?_ ?_); (focus first | omega | (simp; done) | (simp; omega))) | ((with_reducible refine Ow.low _ ?_ ?_); (focus first | omega | (simp; done) | (simp; omega))) | ((with_reducible refine Ow.farx _ ?_ ?_); (focus (intro g e; have hh := hx g e; omega))) | ((with_reducible refine Ow.below (w := ?_) ?_ ?_); rotate_left; (with_reducible assumption)))), by omega, by rw [hW]; exact (by repeat (first | with_reducible exact Below.refl _ _ | with_reducible assumption | (with_reducible refine Below.drew ?_) | (with_reducible refine below_drewN ?_ _) | ((with_reducible refine Below.alloc ?_ ?_ _); rotate_left; (focus first | exact Nat.le_refl _ | omega | (simp; done) | (simp; omega))) | ((with_reducible refine Below.setCell ?_ ?_ _); rotate_left; (focus first | exact Nat.le_refl _ | omega | (simp; done) | (simp; omega))) | ((with_reducible refine below_via (W := ?_) ?_ ?_ ?_); rotate_left; (with_reducible assumption); rotate_left; (focus first | exact Nat.le_refl _ | omega | (simp; done) | (simp; omega)))))⟩

theorem eqTerrain (s : Int) (wd : Int) (ht : Int) (A A' : Option Addr) (n c c' : Nat) (hs : List Int) (B B' : Option Addr) (m d d' : Nat) (cs : List Int) (w : World) (r0 : Rd w A n hs) (q0 : Rd w A' n hs) (k0 : n ≤ maxLen) (r1 : Rd w B m cs) (q1 : Rd w B' m cs) (k1 : m ≤ maxLen) :
    Calls Tryd.prog 7 #[.agg #[.int .i64 s, .int .i64 wd, .int .i64 ht, .slice A n c, .slice B m d], .agg #[.int .i64 s, .int .i64 wd, .int .i64 ht, .slice A' n c', .slice B' m d']] w fun e w' => e = .returned (.bool true) ∧ Below w.heap.size w w' := by
  have R0 := Lib.hid r0
  have Q0 := Lib.hid q0
  have R1 := Lib.hid r1
  have Q1 := Lib.hid q1
  clear r0 q0 r1 q1
  go_enter Tryd.func7, Tryd.ntmps7
  go_wp2_with fail
  refine (eqInts A A' n c c' hs _ (Rd.below (by repeat (first | with_reducible exact Below.refl _ _ | with_reducible assumption | (with_reducible refine Below.drew ?_) | (with_reducible refine below_drewN ?_ _) | ((with_reducible refine Below.alloc ?_ ?_ _); rotate_left; (focus first | exact Nat.le_refl _ | omega | (simp; done) | (simp; omega))) | ((with_reducible refine Below.setCell ?_ ?_ _); rotate_left; (focus first | exact Nat.le_refl _ | omega | (simp; done) | (simp; omega))) | ((with_reducible refine below_via (W := ?_) ?_ ?_ ?_); rotate_left; (with_reducible assumption); rotate_left; (focus first | exact Nat.le_refl _ | omega | (simp; done) | (simp; omega))))) R0.out) (Rd.below (by repeat (first | with_reducible exact Below.refl _ _ | with_reducible assumption | (with_reducible refine Below.drew ?_) | (with_reducible refine below_drewN ?_ _) | ((with_reducible refine Below.alloc ?_ ?_ _); rotate_left; (focus first | exact Nat.le_refl _ | omega | (simp; done) | (simp; omega))) | ((with_reducible refine Below.setCell ?_ ?_ _); rotate_left; (focus first | exact Nat.le_refl _ | omega | (simp; done) | (simp; omega))) | ((with_reducible refine below_via (W := ?_) ?_ ?_ ?_); rotate_left; (with_reducible assumption); rotate_left; (focus first | exact Nat.le_refl _ | omega | (simp; done) | (simp; omega))))) Q0.out) k0).mono ?_
  rintro e w0 ⟨rfl, t0, rfl⟩
  go_wp2_with fail
  refine (eqInts B B' m d d' cs _ (Rd.below (by repeat (first | with_reducible exact Below.refl _ _ | with_reducible assumption | (with_reducible refine Below.drew ?_) | (with_reducible refine below_drewN ?_ _) | ((with_reducible refine Below.alloc ?_ ?_ _); rotate_left; (focus first | exact Nat.le_refl _ | omega | (simp; done) | (simp; omega))) | ((with_reducible refine Below.setCell ?_ ?_ _); rotate_left; (focus first | exact Nat.le_refl _ | omega | (simp; done) | (simp; omega))) | ((with_reducible refine below_via (W := ?_) ?_ ?_ ?_); rotate_left; (with_reducible assumption); rotate_left; (focus first | exact Nat.le_refl _ | omega | (simp; done) | (simp; omega))))) R1.out) (Rd.below (by repeat (first | with_reducible exact Below.refl _ _ | with_reducible assumption | (with_reducible refine Below.drew ?_) | (with_reducible refine below_drewN ?_ _) | ((with_reducible refine Below.alloc ?_ ?_ _); rotate_left; (focus first | exact Nat.le_refl _ | omega | (simp; done) | (simp; omega))) | ((with_reducible refine Below.setCell ?_ ?_ _); rotate_left; (focus first | exact Nat.le_refl _ | omega | (simp; done) | (simp; omega))) | ((with_reducible refine below_via (W := ?_) ?_ ?_ ?_); rotate_left; (with_reducible assumption); rotate_left; (focus first | exact Nat.le_refl _ | omega | (simp; done) | (simp; omega))))) Q1.out) k1).mono ?_
  rintro e w1 ⟨rfl, t1, rfl⟩
  go_wp2_with fail
  go_ret
  exact ⟨rfl, (by repeat (first | with_reducible exact Below.refl _ _ | with_reducible assumption | (with_reducible refine Below.drew ?_) | (with_reducible refine below_drewN ?_ _) | ((with_reducible refine Below.alloc ?_ ?_ _); rotate_left; (focus first | exact Nat.le_refl _ | omega | (simp; done) | (simp; omega))) | ((with_reducible refine Below.setCell ?_ ?_ _); rotate_left; (focus first | exact Nat.le_refl _ | omega | (simp; done) | (simp; omega))) | ((with_reducible refine below_via (W := ?_) ?_ ?_ ?_); rotate_left; (with_reducible assumption); rotate_left; (focus first | exact Nat.le_refl _ | omega | (simp; done) | (simp; omega)))))⟩

theorem markTerrain (s : Int) (wd : Int) (ht : Int) (A : Option Addr) (n c la : Nat) (hs : List Int) (B : Option Addr) (m d lb : Nat) (cs : List Int) (m0 : Int) (w : World) (r0 : Ow w la A n c hs) (k0 : n ≤ 4194304) (r1 : Ow w lb B m d cs) (k1 : m ≤ 4194304) (ap : Ap A B) (hm : 0 ≤ m0 ∧ m0 ≤ 50000000) :
    Calls Tryd.prog 8 #[.agg #[.int .i64 s, .int .i64 wd, .int .i64 ht, .slice A n c, .slice B m d], .int .i64 m0] w fun e w' => e = .returned (.int .i64 (m0 + n + m)) ∧ Ow w' la A n c (upF m0 n) ∧ Ow w' lb B m d (upF (m0 + n) m) ∧ Gr2 w w' A B := by
  have R0 := Lib.hid r0
  have R1 := Lib.hid r1
  clear r0 r1
  go_enter Tryd.func8, Tryd.ntmps8
  go_wp2_with fail
  refine (markInts A n c la hs m0 _ (R0.out.alloc _) k0 (by omega)).mono ?_
  rintro e w1 ⟨rfl, o0, g0⟩
  have G0 := Lib.hid ((Gr2.refl w A B).alloc (.cells #[.int .i64 s, .int .i64 wd, .int .i64 ht, .slice A n c, .slice B m d] 24) |>.left g0)
  have O0 := Lib.hid o0
  have O1 := Lib.hid ((R1.out.alloc _).gr g0 ap.symm)
  have hc : w1.cell? ⟨w.heap.size, 4, none⟩ = some (.slice B m d) := keep_gr g0 (fun b hb => by have := R0.out.block hb; show b.block ≠ w.heap.size; omega) (by (((try dsimp only); (repeat' apply And.intro) <;> (repeat (first | with_reducible assumption | (with_reducible refine keep_drew ?_) | (with_reducible refine keep_drewN ?_) | ((with_reducible refine keep_new _ _ _ _ _ _ ?_ ?_) <;> (first | rfl | (simp; done) | omega)) | (with_reducible refine keep_alloc _ ?_) | ((with_reducible refine keep_set _ ?_ ?_); (focus first | omega | (simp; done) | (simp; omega))) | ((with_reducible refine keep_set' _ ?_ ?_); (focus first | omega | (simp; done))) | ((with_reducible refine keep_same (u := ?_) _ ?_); rotate_left) | ((with_reducible refine keep_setA _ ?_ ?_); (focus first | omega | (simp; done) | (simp; omega))) | ((with_reducible refine keep_below (w := ?_) ?_ ?_); rotate_left; (with_reducible assumption)))))))
  clear o0 g0
  go_wp2_with fail
  refine (markInts B m d lb cs (m0 + n) _ O1.out k1 (by omega)).mono ?_
  rintro e w2 ⟨rfl, o1, g1⟩
  have G1 := Lib.hid (G0.out.right g1)
  have O2 := Lib.hid (O0.out.gr g1 ap)
  have O3 := Lib.hid o1
  clear o1 g1
  go_wp2_with fail
  go_ret
  exact ⟨rfl, O2.out, O3.out, G1.out⟩

theorem heldTerrain (s : Int) (wd : Int) (ht : Int) (A : Option Addr) (n c : Nat) (B : Option Addr) (m d : Nat) (m0 : Int) (w : World) (r0 : Rd w A n (upF m0 n)) (k0 : n ≤ 4194304) (r1 : Rd w B m (upF (m0 + n) m)) (k1 : m ≤ 4194304) (hm : 0 ≤ m0 ∧ m0 ≤ 50000000) :
    Calls Tryd.prog 9 #[.agg #[.int .i64 s, .int .i64 wd, .int .i64 ht, .slice A n c, .slice B m d], .int .i64 m0] w fun e w' => e = .returned (.int .i64 (m0 + n + m)) ∧ Below w.heap.size w w' := by
  have R0 := Lib.hid r0
  have R1 := Lib.hid r1
  clear r0 r1
  go_enter Tryd.func9, Tryd.ntmps9
  go_wp2_with fail
  refine (heldInts A n c m0 _ (Rd.below (by repeat (first | with_reducible exact Below.refl _ _ | with_reducible assumption | (with_reducible refine Below.drew ?_) | (with_reducible refine below_drewN ?_ _) | ((with_reducible refine Below.alloc ?_ ?_ _); rotate_left; (focus first | exact Nat.le_refl _ | omega | (simp; done) | (simp; omega))) | ((with_reducible refine Below.setCell ?_ ?_ _); rotate_left; (focus first | exact Nat.le_refl _ | omega | (simp; done) | (simp; omega))) | ((with_reducible refine below_via (W := ?_) ?_ ?_ ?_); rotate_left; (with_reducible assumption); rotate_left; (focus first | exact Nat.le_refl _ | omega | (simp; done) | (simp; omega))))) R0.out) k0 (by omega)).mono ?_
  rintro e w0 ⟨rfl, rfl⟩
  go_wp2_with fail
  refine (heldInts B m d (m0 + n) _ (Rd.below (by repeat (first | with_reducible exact Below.refl _ _ | with_reducible assumption | (with_reducible refine Below.drew ?_) | (with_reducible refine below_drewN ?_ _) | ((with_reducible refine Below.alloc ?_ ?_ _); rotate_left; (focus first | exact Nat.le_refl _ | omega | (simp; done) | (simp; omega))) | ((with_reducible refine Below.setCell ?_ ?_ _); rotate_left; (focus first | exact Nat.le_refl _ | omega | (simp; done) | (simp; omega))) | ((with_reducible refine below_via (W := ?_) ?_ ?_ ?_); rotate_left; (with_reducible assumption); rotate_left; (focus first | exact Nat.le_refl _ | omega | (simp; done) | (simp; omega))))) R1.out) k1 (by omega)).mono ?_
  rintro e w1 ⟨rfl, rfl⟩
  go_wp2_with fail
  go_ret
  exact ⟨rfl, (by repeat (first | with_reducible exact Below.refl _ _ | with_reducible assumption | (with_reducible refine Below.drew ?_) | (with_reducible refine below_drewN ?_ _) | ((with_reducible refine Below.alloc ?_ ?_ _); rotate_left; (focus first | exact Nat.le_refl _ | omega | (simp; done) | (simp; omega))) | ((with_reducible refine Below.setCell ?_ ?_ _); rotate_left; (focus first | exact Nat.le_refl _ | omega | (simp; done) | (simp; omega))) | ((with_reducible refine below_via (W := ?_) ?_ ?_ ?_); rotate_left; (with_reducible assumption); rotate_left; (focus first | exact Nat.le_refl _ | omega | (simp; done) | (simp; omega)))))⟩

/-- what is left of a size behind k letters and values -/
def szG (k : Nat) (L : Int) : Int := if (k : Int) ≤ L then L - k else -1
theorem szG_yes {k : Nat} {L : Int} (h : (k : Int) ≤ L) : szG k L = L - k := by unfold szG; rw [if_pos h]
theorem szG_no {k : Nat} {L : Int} (h : ¬ (k : Int) ≤ L) : szG k L = -1 := by unfold szG; rw [if_neg h]
theorem szF_yes {n : Nat} {L : Int} (h : L - n < 0) : szF n L = -1 := by unfold szF; rw [if_pos h]
theorem szF_no {n : Nat} {L : Int} (h : ¬ L - n < 0) : szF n L = L - n := by unfold szF; rw [if_neg h]

theorem szTerrain (s wd ht : Int) (A : Option Addr) (n c : Nat) (B : Option Addr) (m d : Nat) (L : Int) (w : World) (hn : n ≤ maxLen) (hm : m ≤ maxLen) (hL : 0 ≤ L ∧ L ≤ 1048576) :
    Calls Tryd.prog 10 #[.agg #[.int .i64 s, .int .i64 wd, .int .i64 ht, .slice A n c, .slice B m d], .int .i64 L] w fun e w' => e = .returned (.int .i64 (szG (n + m) L)) ∧ w' = w.alloc (.cells #[.int .i64 s, .int .i64 wd, .int .i64 ht, .slice A n c, .slice B m d] 30) := by
  by_cases h1 : (n : Int) ≤ L
  · have e1 := szF_no (n := n) (L := L) (by omega)
    obtain ⟨M, hM⟩ : ∃ M, szF n L = M := ⟨_, rfl⟩
    have HM := Lib.hid hM
    have l1 : M ≤ L - n ∧ L - n ≤ M := by omega
    by_cases h2 : (n : Int) + m ≤ L
    · have e2 := szF_no (n := m) (L := M) (by omega)
      have HE : Hid (szG (n + m) L = szF m M) := Lib.hid (by rw [szG_yes (by omega), e2]; omega)
      have l2 : 0 ≤ szF m M := by omega
      clear e1 e2 hM
      go_enter Tryd.func10, Tryd.ntmps10
      go_wp2_with (go_at_call 27; (with_reducible refine (szInts _ _ _ _ _ (by omega) (by omega)).mono ?_); rintro e w' ⟨rfl, rfl⟩; try rw [HM.out])
      go_ret
      exact ⟨ret_int HE.out.symm, rfl⟩
    · have e2 := szF_yes (n := m) (L := M) (by omega)
      have HE : Hid (szG (n + m) L = -1) := Lib.hid (szG_no (by omega))
      have l2 : szF m M < 0 := by omega
      clear e1 e2 hM
      go_enter Tryd.func10, Tryd.ntmps10
      go_wp2_with (go_at_call 27; (with_reducible refine (szInts _ _ _ _ _ (by omega) (by omega)).mono ?_); rintro e w' ⟨rfl, rfl⟩; try rw [HM.out])
      go_ret
      exact ⟨ret_int HE.out.symm, rfl⟩
  · have e1 := szF_yes (n := n) (L := L) (by omega)
    have HE : Hid (szG (n + m) L = -1) := Lib.hid (szG_no (by omega))
    have l1 : szF n L < 0 := by omega
    clear e1
    go_enter Tryd.func10, Tryd.ntmps10
    go_wp2_with (go_at_call 27; (with_reducible refine (szInts _ _ _ _ _ (by omega) (by omega)).mono ?_); rintro e w' ⟨rfl, rfl⟩)
    go_ret
    exact ⟨ret_int HE.out.symm, rfl⟩

end Go.Proofs.YtemjjjjkokfjdaaDoor.WalkX
