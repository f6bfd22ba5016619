/- The laws' functions on slices of points. -/
import Derived.Test.YtbggickeomeidaaPts
import Derived.Test.YtbggickeomeidaaWalkI
import Derived.Test.YtbggickeomeidaaOver
import Derived.Deep.DeepCutAuto
namespace Go.Proofs.Ytbggickeomeidaa.WalkPI
open Go Go.RowKit Go.Proofs.Ytbggickeomeidaa.Base Go.Proofs.Ytbggickeomeidaa.Plain Go.Proofs.Ytbggickeomeidaa.Words Go.Proofs.Ytbggickeomeidaa.Ints Go.Proofs.Ytbggickeomeidaa.WalkN Go.Proofs.Ytbggickeomeidaa.WalkP Go.Proofs.Ytbggickeomeidaa.WalkI Go.Proofs.Ytbggickeomeidaa.Cells Go.Proofs.Ytbggickeomeidaa.Pts Go.Proofs.Ytbggickeomeidaa.Over
set_option linter.unusedVariables false
set_option linter.unusedSimpArgs false

theorem szPts (A : Option Addr) (n c : Nat) (L : Int) (w : World) (hn : n ≤ maxLen) (hL : 0 ≤ L ∧ L ≤ 1048576) :
    Calls Try.prog 4 #[.slice A n c, .int .i64 L] w fun e w' => e = .returned (.int .i64 (szF n L)) ∧ w = w' := by
  unfold maxLen at hn
  by_cases h : L - n < 0
  · have H : Hid (szF n L = -1) := Lib.hid (by unfold szF; rw [if_pos h])
    go_enter Try.func4, Try.ntmps4
    go_wp2
    go_ret
    exact ⟨ret_int H.out.symm, rfl⟩
  · have H : Hid (szF n L = L - n) := Lib.hid (by unfold szF; rw [if_neg h])
    go_enter Try.func4, Try.ntmps4
    go_wp2
    go_ret
    exact ⟨ret_int H.out.symm, rfl⟩

theorem infoP : (Try.prog.info? 30).map (fun i => (i.zero, i.size, i.bytes)) = some (some (.agg #[.int .i64 0, .int .i64 0]), 2, 16) := by kernel_rfl
theorem madeP (n c : Nat) (hnc : n ≤ c) (hn : c ≤ 1048576) : ∀ w : World, (Instr.makeSlice 28 (.int .i64 (n : Int)) (.int .i64 (c : Int))).run Try.prog w = .ok (.slice (some ⟨w.heap.size, 0, none⟩) n c) (w.alloc (.cells (madeCells #[.int .i64 0, .int .i64 0] (c * 2)) 30)) := fun w => by
  obtain ⟨i0, hi, hz0, hz1, hz2⟩ := info_parts infoP
  have h := run_make_rowN (P := Try.prog) 28 30 i0 (.agg #[.int .i64 0, .int .i64 0]) Try.underlying28 hi hz0 .i64 .i64 n c hnc (by rw [hz2]; omega) (by omega) w
  rw [hz1] at h
  exact h
theorem madeP_get {n k : Nat} (h : k < n) : ∃ v, (madeCells #[Value.int .i64 0, .int .i64 0] n)[k]? = some v := by
  have : k < (madeCells #[Value.int .i64 0, .int .i64 0] n).size := by rw [size_madeCells]; exact h
  exact ⟨_, Array.getElem?_eq_getElem this⟩

theorem toPointB (x y : Int) (w : World) : Calls Try.prog 7 #[.agg #[.int .i64 x, .int .i64 y]] w fun e w' => e = .returned (.agg #[.int .i64 x, .int .i64 y]) ∧ Below w.heap.size w w' :=
  (toPoint x y w).mono fun e w' h => ⟨h.1, by rw [h.2]; exact (by repeat (first | with_reducible exact Below.refl _ _ | with_reducible assumption | (with_reducible refine Below.drew ?_) | (with_reducible refine below_drewN ?_ _) | ((with_reducible refine Below.alloc ?_ ?_ _); rotate_left; (focus first | exact Nat.le_refl _ | omega | (simp; done) | (simp; omega))) | ((with_reducible refine Below.setCell ?_ ?_ _); rotate_left; (focus first | exact Nat.le_refl _ | omega | (simp; done) | (simp; omega))) | ((with_reducible refine below_via (W := ?_) ?_ ?_ ?_); rotate_left; (with_reducible assumption); rotate_left; (focus first | exact Nat.le_refl _ | omega | (simp; done) | (simp; omega)))))⟩
set_option maxHeartbeats 2000000 in
theorem toPts (A : Option Addr) (n c : Nat) (ps : List PT) (w : World) (hr : Rp w A n ps) (hn : n ≤ 1048576) :
    Calls Try.prog 6 #[.slice A n c] w fun e w' => ∃ g, e = .returned (.slice (some ⟨g, 0, none⟩) n n) ∧ OwP w' w.heap.size (some ⟨g, 0, none⟩) n n ps ∧ Below w.heap.size w w' := by
  have HR := Lib.hid hr
  clear hr
  have hmk := madeP n n (Nat.le_refl _) hn
  go_enter Try.func6, Try.ntmps6
  go_wp2
  clear hmk
  go_loopw [4] (fun i wr => ∃ k : Nat, k ≤ n ∧ i = .int .i64 k ∧ Hid (Below w.heap.size w wr) ∧ ∃ cs : Array Value, Hid (Blk wr w.heap.size 30 cs) ∧ Hid (cs.size = n * 2) ∧ Hid (∀ j, j < k → cs[j * 2]? = some (.int .i64 (at0 ps j)) ∧ cs[j * 2 + 1]? = some (.int .i64 (at1 ps j)))) (fun i _ => n - (intOf i).toNat)
  case atStart => exact ⟨0, Nat.zero_le _, rfl, Lib.hid (by repeat (first | with_reducible exact Below.refl _ _ | with_reducible assumption | (with_reducible refine Below.drew ?_) | (with_reducible refine below_drewN ?_ _) | ((with_reducible refine Below.alloc ?_ ?_ _); rotate_left; (focus first | exact Nat.le_refl _ | omega | (simp; done) | (simp; omega))) | ((with_reducible refine Below.setCell ?_ ?_ _); rotate_left; (focus first | exact Nat.le_refl _ | omega | (simp; done) | (simp; omega))) | ((with_reducible refine below_via (W := ?_) ?_ ?_ ?_); rotate_left; (with_reducible assumption); rotate_left; (focus first | exact Nat.le_refl _ | omega | (simp; done) | (simp; omega))))), _, Lib.hid (Blk.new _ _ _ rfl), Lib.hid (size_madeCells _ _), Lib.hid (fun j hj => absurd hj (by omega))⟩
  case round =>
    obtain ⟨k, hk, rfl, HB, cs, HC, HS, HV⟩ := hrel
    by_cases hlt : k < n
    · obtain ⟨ad, rfl, hc0, hc1⟩ := (Rp.below HB.out HR.out).at_ hlt
      have la := World.block_lt_of_cell? _ _ hc0
      have hs0 := HS.out
      have f0 := HC.out.free (k * 2)
      have f1 := HC.out.free (k * 2 + 1)
      have d0 : wr.cell? ⟨w.heap.size, k * 2, none⟩ = some cs[k * 2]! := by
        rw [HC.out.cell, Array.getElem?_eq_getElem (by omega)]
        simp [show k * 2 < cs.size by omega]
      have d1 : wr.cell? ⟨w.heap.size, k * 2 + 1, none⟩ = some cs[k * 2 + 1]! := by
        rw [HC.out.cell, Array.getElem?_eq_getElem (by omega)]
        simp [show k * 2 + 1 < cs.size by omega]
      have lw := HC.out.lt
      clear hs0
      go_wp2_with (go_at_call 7; refine (toPointB _ _ _).mono ?_; rintro e w1 ⟨rfl, hbT⟩; have d0' := keep_below hbT d0; have d1' := keep_below hbT d1; have f0' := (hbT.frozen (p := ⟨w.heap.size, k * 2, none⟩) lw).trans f0; have f1' := (hbT.frozen (p := ⟨w.heap.size, k * 2 + 1, none⟩) lw).trans f1)
      go_roundw
      case rel =>
        have hb := below_via hbT HB.out HB.out.size
        refine ⟨k + 1, by omega, by go_num, Lib.hid ((hb.setCell (by exact Nat.le_refl _) _).setCell (by exact Nat.le_refl _) _), _, Lib.hid (((Blk.below hbT HC.out).set_ (k * 2) _).set_ (k * 2 + 1) _), Lib.hid (by rw [Array.size_setIfInBounds, Array.size_setIfInBounds]; exact HS.out), Lib.hid fun j hj => ?_⟩
        have hs := HS.out
        rw [Array.getElem?_setIfInBounds, Array.getElem?_setIfInBounds, Array.getElem?_setIfInBounds, Array.getElem?_setIfInBounds, Array.size_setIfInBounds]
        by_cases e : k = j
        · subst e
          rw [if_neg (by omega), if_pos rfl, if_pos (by omega), if_pos rfl, if_pos (by omega)]
          exact ⟨rfl, rfl⟩
        · rw [if_neg (by omega), if_neg (by omega), if_neg (by omega), if_neg (by omega)]
          exact HV.out j (by omega)
      case measure => simp [intOf]; omega
    · go_wp2
      go_ret
      obtain rfl : k = n := by omega
      exact ⟨_, rfl, OwP.of_cells (Nat.le_refl _) HC.out HS.out (Nat.le_refl _) HV.out HR.out.len (by unfold maxLen; omega), HB.out⟩

theorem eqPoint_same (x y : Int) (w : World) :
    Calls Try.prog 16 #[.agg #[.int .i64 x, .int .i64 y], .agg #[.int .i64 x, .int .i64 y]] w fun e w' => e = .returned (.bool true) ∧ Below w.heap.size w w' := by
  go_enter Try.func16, Try.ntmps16
  go_wp2
  go_ret
  exact ⟨rfl, (by repeat (first | with_reducible exact Below.refl _ _ | with_reducible assumption | (with_reducible refine Below.drew ?_) | (with_reducible refine below_drewN ?_ _) | ((with_reducible refine Below.alloc ?_ ?_ _); rotate_left; (focus first | exact Nat.le_refl _ | omega | (simp; done) | (simp; omega))) | ((with_reducible refine Below.setCell ?_ ?_ _); rotate_left; (focus first | exact Nat.le_refl _ | omega | (simp; done) | (simp; omega))) | ((with_reducible refine below_via (W := ?_) ?_ ?_ ?_); rotate_left; (with_reducible assumption); rotate_left; (focus first | exact Nat.le_refl _ | omega | (simp; done) | (simp; omega)))))⟩

set_option maxHeartbeats 2000000 in
theorem eqPts (A B : Option Addr) (n c d : Nat) (ps : List PT) (w : World) (ha : Rp w A n ps) (hb : Rp w B n ps) (hn : n ≤ maxLen) :
    Calls Try.prog 9 #[.slice A n c, .slice B n d] w fun e w' => e = .returned (.bool true) ∧ Below w.heap.size w w' := by
  unfold maxLen at hn
  have HA := Lib.hid ha
  have HB := Lib.hid hb
  clear ha hb
  go_enter Try.func9, Try.ntmps9
  go_wp2
  go_loopw [5] (fun i wr => ∃ k : Nat, k ≤ n ∧ i = .int .i64 k ∧ Hid (Below w.heap.size w wr)) (fun i _ => n - (intOf i).toNat)
  case atStart => exact ⟨0, Nat.zero_le _, rfl, Lib.hid (Below.refl _ _)⟩
  case round =>
    obtain ⟨k, hk, rfl, HW⟩ := hrel
    by_cases hlt : k < n
    · obtain ⟨ad, rfl, hc0, hc1⟩ := (Rp.below HW.out HA.out).at_ hlt
      obtain ⟨bd, rfl, hd0, hd1⟩ := (Rp.below HW.out HB.out).at_ hlt
      have la : (ad.add (k * 2)).block < wr.heap.size := World.block_lt_of_cell? _ _ hc0
      have lb : (bd.add (k * 2)).block < wr.heap.size := World.block_lt_of_cell? _ _ hd0
      have i0 : (0 : Int) ≤ (k : Int) := by omega
      have i1 : (k : Int) < (n : Int) := by omega
      obtain ⟨x, hx⟩ : ∃ x, at0 ps k = x := ⟨_, rfl⟩
      obtain ⟨y, hy⟩ : ∃ y, at1 ps k = y := ⟨_, rfl⟩
      rw [hx] at hc0 hd0
      rw [hy] at hc1 hd1
      clear hx hy
      go_wp2_with fail
      have hu := Up.cells wr
      refine region_up (by kernel_rfl) (by kernel_rfl) ?_
      repeat (go_big_quiet_step ((go_at_call 16; exact call_up _ (eqPoint_same _ _ _))))
      refine wpQuiet_nil ?_
      rintro wz ⟨⟨wy, hbz⟩, (e : wz = wy)⟩
      subst e
      clear hu
      go_wp2_with fail
      go_roundw
      case rel => exact ⟨k + 1, by omega, by go_num, Lib.hid (below_via hbz HW.out HW.out.size)⟩
      case measure => simp [intOf]; omega
    · have hb := HW.out
      go_wp2
      go_ret
      exact ⟨rfl, hb⟩

end Go.Proofs.Ytbggickeomeidaa.WalkPI
