/- Lists of numbers as texts: the reference's and the program's. -/
import Derived.Test.YtemjjjjkokfjdaaDoorWalkTx
import Derived.Test.YtemjjjjkokfjdaaDoorPlainSp
import Derived.Test.YtemjjjjkokfjdaaDoorPlainT
import Derived.Test.YtemjjjjkokfjdaaDoorWalkI
import Derived.Test.YtemjjjjkokfjdaaDoorShelfJ
namespace Go.Proofs.YtemjjjjkokfjdaaDoor.WalkLT
open Go Go.RowKit Go.Proofs.YtemjjjjkokfjdaaDoor.Base Go.Proofs.YtemjjjjkokfjdaaDoor.Plain Go.Proofs.YtemjjjjkokfjdaaDoor.PlainT Go.Proofs.YtemjjjjkokfjdaaDoor.PlainTx Go.Proofs.YtemjjjjkokfjdaaDoor.PlainSp Go.Proofs.YtemjjjjkokfjdaaDoor.WalkN Go.Proofs.YtemjjjjkokfjdaaDoor.WalkP Go.Proofs.YtemjjjjkokfjdaaDoor.Words Go.Proofs.YtemjjjjkokfjdaaDoor.Ints Go.Proofs.YtemjjjjkokfjdaaDoor.WalkI Go.Proofs.YtemjjjjkokfjdaaDoor.Cells Go.Proofs.YtemjjjjkokfjdaaDoor.Text Go.Proofs.YtemjjjjkokfjdaaDoor.Dec Go.Proofs.YtemjjjjkokfjdaaDoor.WalkTx
set_option linter.unusedVariables false
set_option linter.unusedSimpArgs false

theorem fit_eq (zs : List Int) : fitB zs = (allB zs (-1000000000000) 1000000000000 && decide (zs.length ≤ 64)) := rfl
/-- numbers put together -/
def jn (zs : List Int) : List UInt8 := Lib.join (zs.map Lib.itoa) [44]
theorem jn_one (z : Int) : jn [z] = Lib.itoa z := by
  unfold jn
  rw [List.map_cons, List.map_nil, Lib.join_one]
theorem jn_snoc {zs : List Int} (z : Int) (h : zs ≠ []) : jn (zs ++ [z]) = jn zs ++ [44] ++ Lib.itoa z := by
  unfold jn
  cases zs with
  | nil => exact absurd rfl h
  | cons a r =>
    rw [List.cons_append, List.map_cons, List.map_cons, Lib.join_cons, Lib.join_cons]
    simp [Lib.joinTail]
def jt (zs : List Int) : ByteArray := ⟨(jn zs).toArray⟩
theorem jt_size (zs : List Int) : (jt zs).size = (jn zs).length := by simp [jt, ByteArray.size]
theorem itoa_small {n : Int} (h : -1000000000000 ≤ n ∧ n ≤ 1000000000000) : (Lib.itoa n).length ≤ 20 := by
  have := txt_small (n := n) (by omega)
  rwa [txt_size] at this
theorem take_snocI {zs : List Int} {k : Nat} (h : k < zs.length) : zs.take (k + 1) = zs.take k ++ [zs.getD k 0] := by
  rw [List.take_succ_eq_append_getElem h]
  simp [h]
theorem jn_len {zs : List Int} (h : allB zs (-1000000000000) 1000000000000 = true) : ∀ k, k ≤ zs.length → (jn (zs.take k)).length ≤ 21 * k
  | 0, _ => by simp [jn, Lib.join_nil]
  | k + 1, hk => by
    have ih := jn_len h k (by omega)
    have hz := itoa_small (allB_get (k := k) h (by omega))
    rw [take_snocI (by omega)]
    by_cases h0 : zs.take k = []
    · rw [h0, List.nil_append, jn_one]
      omega
    · rw [jn_snoc _ h0, List.length_append, List.length_append, List.length_singleton]
      omega
theorem jt_next {zs : List Int} {k : Nat} (hk : k < zs.length) (h0 : 1 ≤ k) : jt (zs.take k) ++ ⟨#[44]⟩ ++ txt (zs.getD k 0) = jt (zs.take (k + 1)) := by
  have hne : zs.take k ≠ [] := by
    intro e
    have := congrArg List.length e
    rw [List.length_take, List.length_nil] at this
    omega
  unfold jt txt
  rw [take_snocI hk, jn_snoc _ hne]
  apply ByteArray.ext
  simp
theorem jt_first {zs : List Int} (hk : 0 < zs.length) : txt (zs.getD 0 0) = jt (zs.take 1) := by
  unfold jt txt
  rw [take_snocI hk, List.take_zero, List.nil_append, jn_one]

/-- a list as text -/
def listR (zs : List Int) : ByteArray := ⟨(listF zs).toArray⟩
theorem listR_no {zs : List Int} (h : fitB zs = false) : listR zs = ⟨#[]⟩ := by unfold listR listF; rw [h]; rfl
theorem listR_nil : listR [] = ⟨#[45]⟩ := rfl
theorem listR_yes {zs : List Int} (h : fitB zs = true) (h0 : zs ≠ []) : listR zs = jt zs := by
  unfold listR listF lstF
  rw [h, if_neg h0]
  rfl

set_option maxHeartbeats 1000000 in
theorem specList (A : Option Addr) (n c : Nat) (zs : List Int) (w : World) (ra : Rd w A n zs) (hf : fitB zs = true) :
    Calls Tryd.prog 29 #[.slice A n c] w fun e w' => e = .returned (.string (listR zs)) ∧ Below w.heap.size w w' := by
  have hl := ra.len
  have ha : allB zs (-1000000000000) 1000000000000 = true ∧ n ≤ 64 := by rw [fit_eq, hl] at hf; simpa using hf
  by_cases h0 : n = 0
  · subst h0
    obtain rfl : zs = [] := List.eq_nil_of_length_eq_zero hl
    have H := Lib.hid listR_nil
    go_enter Tryd.func29, Tryd.ntmps29
    go_wp2
    go_ret
    exact ⟨ret_str H.out.symm, Below.refl _ _⟩
  · have HR := Lib.hid (listR_yes hf (fun e => by subst e; simp at hl; omega))
    have HA := Lib.hid ha.1
    have h64 := ha.2
    have RA := Lib.hid ra
    have he : ((n : Int) == 0) = false := by simp; omega
    clear hf ha ra hl
    go_enter Tryd.func29, Tryd.ntmps29
    go_wp2
    go_loopw [3, 4] (fun o i wr => ∃ (k : Nat) (s : ByteArray), k ≤ n ∧ o = .string s ∧ i = .int .i64 k ∧ Hid (s = jt (zs.take k)) ∧ Hid (Below w.heap.size w wr)) (fun _ i _ => n - (intOf i).toNat)
    case atStart => exact ⟨0, ⟨#[]⟩, Nat.zero_le _, rfl, rfl, Lib.hid rfl, Lib.hid (Below.refl _ _)⟩
    case round =>
      obtain ⟨k, s, hk, rfl, rfl, HS, HB⟩ := hrel
      by_cases hlt : k < n
      · obtain ⟨ad, rfl, hc⟩ := (Rd.below HB.out RA.out).at_ hlt
        have hz := allB_get (k := k) HA.out (by rw [RA.out.len]; exact hlt)
        have hsz := jn_len HA.out k (by rw [RA.out.len]; omega)
        rw [← jt_size, ← HS.out] at hsz
        have D := specDec (zs.getD k 0) wr (by omega)
        have st := txt_small (n := zs.getD k 0) (by omega)
        by_cases h1 : 1 ≤ k
        · have HN := jt_next (zs := zs) (k := k) (by rw [RA.out.len]; exact hlt) h1
          rw [← HS.out] at HN
          generalize zs.getD k 0 = z at hc hz D st HN
          obtain ⟨t, ht⟩ : ∃ t, txt z = t := ⟨_, rfl⟩
          rw [ht] at D st HN
          have C := Lib.hid D
          have s44 : (⟨#[44]⟩ : ByteArray).size = 1 := rfl
          have K1 := cat_run s ⟨#[44]⟩ _ (by rw [s44]; omega) rfl
          have K2 := cat_run (s ++ ⟨#[44]⟩) t _ (by rw [cat_size, s44]; omega) rfl
          have HN2 := Lib.hid HN
          clear ht D HN s44 hsz st
          go_wp2_with (go_at_call 28; refine C.out.mono ?_; rintro e w2 ⟨rfl, hb2⟩)
          go_roundw
          case rel => exact ⟨k + 1, _, by omega, rfl, by go_num, HN2, Lib.hid (HB.out.trans (hb2.mono HB.out.size))⟩
          case measure => simp [intOf]; omega
        · obtain rfl : k = 0 := by omega
          have HN := jt_first (zs := zs) (by rw [RA.out.len]; exact hlt)
          have hs0 : s = ⟨#[]⟩ := HS.out
          subst hs0
          generalize zs.getD 0 0 = z at hc hz D st HN
          obtain ⟨t, ht⟩ : ∃ t, txt z = t := ⟨_, rfl⟩
          rw [ht] at D st HN
          have C := Lib.hid D
          have K2 := cat_run ⟨#[]⟩ t t (by rw [show (⟨#[]⟩ : ByteArray).size = 0 from rfl]; omega) (empty_cat t)
          have HN2 := Lib.hid HN
          clear ht D HN hsz st
          have hc' : wr.cell? ad = some (.int .i64 z) := hc
          rw [show ((0 : Nat) : Int) = 0 from rfl]
          have n1 : (0 : Int) < (n : Int) := by omega
          go_wp2_with (go_at_call 28; refine C.out.mono ?_; rintro e w2 ⟨rfl, hb2⟩)
          go_roundw
          case rel => exact ⟨1, _, by omega, rfl, by go_num, HN2, Lib.hid (HB.out.trans (hb2.mono HB.out.size))⟩
          case measure => simp [intOf]; omega
      · obtain rfl : k = n := by omega
        have hb := HB.out
        have HF : Hid (listR zs = s) := Lib.hid (by rw [HR.out, HS.out, List.take_of_length_le (by rw [RA.out.len]; exact Nat.le_refl _)])
        go_wp2
        go_ret
        exact ⟨ret_str HF.out.symm, hb⟩

end Go.Proofs.YtemjjjjkokfjdaaDoor.WalkLT
