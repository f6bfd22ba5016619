/- Walks over slices of numbers: the laws' own helpers. -/
import Derived.Test.YtbggickeomeidaaDoorInts
import Derived.Test.YtbggickeomeidaaDoorWalkN
import Derived.LoopTactic
import Derived.RegionTactic
namespace Go.Proofs.YtbggickeomeidaaDoor.WalkI
open Go Go.RowKit Go.Proofs.YtbggickeomeidaaDoor.Base Go.Proofs.YtbggickeomeidaaDoor.Words Go.Proofs.YtbggickeomeidaaDoor.Ints Go.Proofs.YtbggickeomeidaaDoor.WalkP
set_option linter.unusedVariables false
set_option linter.unusedSimpArgs false

theorem made (n : Nat) (hn : n ≤ 1048576) : ∀ w : World, (Instr.makeSlice 25 (.int .i64 (n : Int)) (.int .i64 (n : Int))).run Tryd.prog w = .ok (.slice (some ⟨w.heap.size, 0, none⟩) n n) (w.alloc (.cells (madeCells #[.int .i64 0] n) 2)) :=
  run_make_row' (P := Tryd.prog) 25 2 (.int .i64 0) 8 Tryd.underlying25 (by kernel_rfl) rfl .i64 .i64 n (by omega) (by omega)
theorem made_get {n k : Nat} (h : k < n) : (madeCells #[Value.int .i64 0] n)[k]? = some (.int .i64 0) := by
  simp [madeCells, h, Nat.mod_one]

/-- what is left of a size -/
def szF (n : Nat) (L : Int) : Int := if L - n < 0 then -1 else L - n
theorem eqInts (A B : Option Addr) (n c d : Nat) (zs : List Int) (w : World) (ha : Rd w A n zs) (hb : Rd w B n zs) (hn : n ≤ maxLen) :
    Calls Tryd.prog 15 #[.slice A n c, .slice B n d] w fun e w' => e = .returned (.bool true) ∧ ∃ k, w' = w.drewN k := by
  unfold maxLen at hn
  have HA := Lib.hid ha
  have HB := Lib.hid hb
  clear ha hb
  go_enter Tryd.func15, Tryd.ntmps15
  go_wp2
  go_loopw [5] (fun i wr => ∃ k q : Nat, k ≤ n ∧ i = .int .i64 k ∧ wr = w.drewN q) (fun i _ => n - (intOf i).toNat)
  case atStart => exact ⟨0, 0, Nat.zero_le _, rfl, rfl⟩
  case round =>
    obtain ⟨k, q, hk, rfl, rfl⟩ := hrel
    by_cases hlt : k < n
    · obtain ⟨ad, rfl, hc⟩ := HA.out.at_ hlt
      obtain ⟨bd, rfl, hd⟩ := HB.out.at_ hlt
      have i0 : (0 : Int) ≤ (k : Int) := by omega
      have i1 : (k : Int) < (n : Int) := by omega
      go_wp2_with fail
      go_quiet (fail)
      go_wp2
      go_roundw
      case rel => exact ⟨k + 1, _, by omega, by go_num, rfl⟩
      case measure => simp [intOf]; omega
    · go_wp2
      go_ret
      exact ⟨rfl, _, rfl⟩

/-- n numbers from k on -/
def upF (k : Int) (n : Nat) : List Int := (List.range n).map fun j : Nat => k + (j : Int)
theorem upF_len (k : Int) (n : Nat) : (upF k n).length = n := by simp [upF]
theorem upF_get {k : Int} {n j : Nat} (h : j < n) : (upF k n).getD j 0 = k + j := by simp [upF, h]

theorem markInts (A : Option Addr) (n c lo : Nat) (zs : List Int) (m : Int) (w : World) (hr : Ow w lo A n c zs) (hn : n ≤ 4194304) (hm : 0 ≤ m ∧ m ≤ 100000000) :
    Calls Tryd.prog 16 #[.slice A n c, .int .i64 m] w fun e w' => e = .returned (.int .i64 (m + n)) ∧ Ow w' lo A n c (upF m n) ∧ Gr w w' A := by
  rcases hr.form with ⟨rfl, rfl, rfl, rfl⟩ | ⟨g, cs0, rfl, hlo, hb0, hnc, hcm, hs0, ht⟩
  · go_enter Tryd.func16, Tryd.ntmps16
    go_wp2
    go_loop [1, 5] (fun s i => s = .int .i64 m ∧ i = .int .i64 0) (fun _ _ => 0)
    case atStart => exact ⟨rfl, rfl⟩
    case round =>
      obtain ⟨rfl, rfl⟩ := hrel
      go_wp2
      go_ret
      exact ⟨ret_int (by simp), (show Ow w lo none 0 0 [] from Ow.nil _ _), Gr.refl _ _⟩
  · unfold maxLen at hcm
    have HB0 := Lib.hid hb0
    have HS0 := Lib.hid hs0
    have HT := Lib.hid ht
    clear hr hb0 hs0 ht
    go_enter Tryd.func16, Tryd.ntmps16
    go_wp2
    go_loopw [1, 5] (fun s i wr => ∃ k : Nat, k ≤ n ∧ i = .int .i64 k ∧ s = .int .i64 (m + k) ∧ Hid (Gr w wr (some ⟨g, 0, none⟩)) ∧ ∃ cs : Array Value, Hid (Blk wr g 2 cs) ∧ Hid (cs.size = c) ∧ Hid (∀ j, j < k → cs[j]? = some (.int .i64 (m + (j : Int))))) (fun _ i _ => n - (intOf i).toNat)
    case atStart => exact ⟨0, Nat.zero_le _, rfl, by simp, Lib.hid (Gr.refl _ _), _, Lib.hid HB0.out, Lib.hid HS0.out, Lib.hid (fun j hj => absurd hj (by omega))⟩
    case round =>
      obtain ⟨k, hk, rfl, rfl, HG, cs, HC, HS, HV⟩ := hrel
      by_cases hlt : k < n
      · have hf := HC.out.free k
        have hd : wr.cell? ⟨g, k, none⟩ = some cs[k]! := by
          rw [HC.out.cell]
          have := HS.out
          have h2 : k < c := by omega
          simp [h2, this]
        go_wp2
        go_roundw
        case rel =>
          refine ⟨k + 1, by omega, by go_num, by go_num, Lib.hid (HG.out.set _), _, Lib.hid (HC.out.set_ k _), Lib.hid (by rw [Array.size_setIfInBounds]; exact HS.out), Lib.hid fun j hj => ?_⟩
          have hs := HS.out
          rw [Array.getElem?_setIfInBounds]
          by_cases e : k = j
          · subst e
            rw [if_pos rfl, if_pos (by omega)]
          · rw [if_neg e]
            exact HV.out j (by omega)
        case measure => simp [intOf]; omega
      · go_wp2
        go_ret
        obtain rfl : k = n := by omega
        refine ⟨rfl, Ow.mk hlo HC.out hnc (by unfold maxLen; omega) HS.out ?_ (upF_len _ _), HG.out⟩
        apply List.ext_getElem?
        intro j
        by_cases hj : j < k
        · rw [vals_get (by rw [upF_len]; exact hj), List.getElem?_take, if_pos hj, upF_get hj]
          simpa using HV.out j hj
        · rw [List.getElem?_eq_none (by simp; omega), List.getElem?_eq_none (by rw [vals_len, upF_len]; omega)]

theorem heldInts (A : Option Addr) (n c : Nat) (m : Int) (w : World) (hr : Rd w A n (upF m n)) (hn : n ≤ 4194304) (hm : 0 ≤ m ∧ m ≤ 100000000) :
    Calls Tryd.prog 17 #[.slice A n c, .int .i64 m] w fun e w' => e = .returned (.int .i64 (m + n)) ∧ w = w' := by
  have HR := Lib.hid hr
  clear hr
  go_enter Tryd.func17, Tryd.ntmps17
  go_wp2
  go_loop [1, 5] (fun s i => ∃ k : Nat, k ≤ n ∧ i = .int .i64 k ∧ s = .int .i64 (m + k)) (fun _ i => n - (intOf i).toNat)
  case atStart => exact ⟨0, Nat.zero_le _, rfl, by simp⟩
  case round =>
    obtain ⟨k, hk, rfl, rfl⟩ := hrel
    by_cases hlt : k < n
    · obtain ⟨ad, rfl, hc⟩ := HR.out.at_ hlt
      rw [upF_get hlt] at hc
      go_wp2
      go_round
      case rel => exact ⟨k + 1, by omega, by go_num, by go_num⟩
      case measure => simp [intOf]; omega
    · go_wp2
      go_ret
      obtain rfl : k = n := by omega
      exact ⟨rfl, rfl⟩

end Go.Proofs.YtbggickeomeidaaDoor.WalkI
