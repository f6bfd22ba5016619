/- Sine and cosine: the walks. -/
import Derived.Test.YtbggickeomeidaaDoorWalkN
import Derived.Test.YtbggickeomeidaaDoorPlainD
import Derived.Great.BuildSlice
namespace Go.Proofs.YtbggickeomeidaaDoor.WalkD
open Go.RowKit Go.Proofs.YtbggickeomeidaaDoor.Base Go.Proofs.YtbggickeomeidaaDoor.Plain Go.Proofs.YtbggickeomeidaaDoor.PlainD Go.Proofs.YtbggickeomeidaaDoor.WalkN
set_option linter.unusedVariables false
set_option linter.unusedSimpArgs false

/-- the variable's table lies in its block -/
def Tab (w : World) : Prop := ∀ j : Nat, j < 91 → w.cell? ⟨0, j, none⟩ = some (.int .i64 (sinI j))

theorem arr_get (j : Nat) (h : j < 91) : (sinL.map (Value.int .i64)).toArray[j]? = some (.int .i64 (sinI j)) := by
  have h' : j < sinL.length := by rw [sinL_len]; exact h
  unfold sinI
  rw [List.getElem?_toArray, List.getElem?_map, List.getD_eq_getElem?_getD, List.getElem?_eq_getElem h']
  rfl

theorem table (w : World) :
    Calls Tryd.prog 68 #[] w fun e w' => e = .returned (.slice (some ⟨w.heap.size, 0, none⟩) 91 91) ∧ w' = w.alloc (.cells (sinL.map (Value.int .i64)).toArray 2) := by
  go_enter Tryd.func68, Tryd.ntmps68
  go_wp2_with (refine wpList_buildFlat rfl 25 2 91 _ rfl .i64 sinL Tryd.underlying25 (by kernel_rfl) (by kernel_rfl) rfl (by decide) (by decide) (by kernel_rfl) ?_)
  go_ret
  exact ⟨rfl, rfl⟩

theorem table_any (w : World) :
    Calls Tryd.prog 68 #[] w fun e w' => e = .returned (.slice (some ⟨w.heap.size, 0, none⟩) 91 91) ∧ Below w.heap.size w w' ∧ w.heap.size + 1 ≤ w'.heap.size ∧ ∀ j : Nat, j < 91 → w'.cell? ⟨w.heap.size, j, none⟩ = some (.int .i64 (sinI j)) :=
  (table w).mono fun e w' ⟨he, hw⟩ => by
    subst hw
    exact ⟨he, (Below.refl _ _).alloc (Nat.le_refl _) _, by simp, fun j hj => by rw [World.cell?_alloc_new]; exact arr_get j hj⟩

theorem implSine2 (x : Int) (w : World) (ht : Tab w) (h0 : 0 ≤ x) (h1 : x < 180) :
    Calls Tryd.prog 70 #[.int .i64 x] w fun e w' => e = .returned (.int .i64 (sin2 x)) ∧ w = w' := by
  by_cases h : 90 < x
  · have H := Lib.hid (sin2_hi h)
    obtain ⟨j, hj⟩ : ∃ j : Nat, 180 - x = j := ⟨(180 - x).toNat, by omega⟩
    have hj1 : j < 91 := by omega
    have c1 := ht j hj1
    clear ht
    rw [hj, Int.toNat_natCast] at H
    have m1 : x % 360 = x := by omega
    go_enter Tryd.func70, Tryd.ntmps70
    go_wp2_with fail
    go_ret
    exact ⟨ret_int H.out.symm, rfl⟩
  · have H := Lib.hid (sin2_lo h)
    have c1 := ht x.toNat (by omega)
    clear ht
    have m1 : x % 360 = x := by omega
    go_enter Tryd.func70, Tryd.ntmps70
    go_wp2_with fail
    go_ret
    exact ⟨ret_int H.out.symm, rfl⟩

theorem implSine (x : Int) (w : World) (ht : Tab w) :
    Calls Tryd.prog 70 #[.int .i64 x] w fun e w' => e = .returned (.int .i64 (sinF x)) ∧ w = w' := by
  obtain ⟨q, r, e2, s1, r1, r2, _⟩ := tm360 x
  have hd : (r + 360) % 360 = x % 360 := by omega
  have hb : 0 ≤ x % 360 ∧ x % 360 < 360 := by omega
  have HF : Hid (sinF x = sin3 (x % 360)) := Lib.hid rfl
  clear s1
  by_cases h : 180 ≤ x % 360
  · have H := Lib.hid (sin3_hi h)
    have hs := sin2_bd (x % 360 - 180)
    have L := Lib.hid (implSine2 (x % 360 - 180) w ht (by omega) (by omega))
    clear ht
    go_enter Tryd.func70, Tryd.ntmps70
    go_wp2_with (go_at_call 70; refine L.out.mono ?_; rintro e w' ⟨rfl, rfl⟩)
    go_ret
    exact ⟨ret_int (by rw [HF.out, H.out]), rfl⟩
  · have H := Lib.hid (sin3_lo h)
    by_cases h9 : 90 < x % 360
    · have H2 := Lib.hid (sin2_hi h9)
      have c1 := ht (180 - x % 360).toNat (by omega)
      clear ht
      go_enter Tryd.func70, Tryd.ntmps70
      go_wp2_with fail
      go_ret
      exact ⟨ret_int (by rw [HF.out, H.out, H2.out]), rfl⟩
    · have H2 := Lib.hid (sin2_lo h9)
      have c1 := ht (x % 360).toNat (by omega)
      clear ht
      go_enter Tryd.func70, Tryd.ntmps70
      go_wp2_with fail
      go_ret
      exact ⟨ret_int (by rw [HF.out, H.out, H2.out]), rfl⟩

theorem implCosine (x : Int) (w : World) (ht : Tab w) :
    Calls Tryd.prog 71 #[.int .i64 x] w fun e w' => e = .returned (.int .i64 (cosF x)) ∧ w = w' := by
  obtain ⟨q, r, e2, s1, r1, r2, _⟩ := tm360 x
  have HF : Hid (cosF x = sinF (r + 90)) := Lib.hid (by unfold cosF sinF; congr 1; omega)
  have L := Lib.hid (implSine (r + 90) w ht)
  clear ht s1
  go_enter Tryd.func71, Tryd.ntmps71
  go_wp2_with (go_at_call 70; refine L.out.mono ?_; rintro e w' ⟨rfl, rfl⟩)
  go_ret
  exact ⟨ret_int (by rw [HF.out]), rfl⟩

theorem Tab.below {w w1 : World} (h : Tab w) (hb : Below w.heap.size w w1) : Tab w1 := fun j hj => by
  have hc := h j hj
  rw [hb.cell (World.block_lt_of_cell? _ _ hc)]
  exact hc

end Go.Proofs.YtbggickeomeidaaDoor.WalkD
