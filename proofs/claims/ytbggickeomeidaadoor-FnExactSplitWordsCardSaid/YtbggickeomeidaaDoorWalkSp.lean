/- Texts divided at a byte: the reference's way. -/
import Derived.Test.YtbggickeomeidaaDoorWalkLU
import Derived.Test.YtbggickeomeidaaDoorWalkRD
namespace Go.Proofs.YtbggickeomeidaaDoor.WalkSp
open Go Go.RowKit Go.Proofs.YtbggickeomeidaaDoor.Base Go.Proofs.YtbggickeomeidaaDoor.Plain Go.Proofs.YtbggickeomeidaaDoor.PlainT Go.Proofs.YtbggickeomeidaaDoor.PlainTx Go.Proofs.YtbggickeomeidaaDoor.PlainSp Go.Proofs.YtbggickeomeidaaDoor.WalkN Go.Proofs.YtbggickeomeidaaDoor.WalkP Go.Proofs.YtbggickeomeidaaDoor.Words Go.Proofs.YtbggickeomeidaaDoor.Ints Go.Proofs.YtbggickeomeidaaDoor.WalkI Go.Proofs.YtbggickeomeidaaDoor.Cells Go.Proofs.YtbggickeomeidaaDoor.Text Go.Proofs.YtbggickeomeidaaDoor.Dec Go.Proofs.YtbggickeomeidaaDoor.WalkTx Go.Proofs.YtbggickeomeidaaDoor.WalkLT Go.Proofs.YtbggickeomeidaaDoor.WalkLU Go.Proofs.YtbggickeomeidaaDoor.WalkRD
set_option linter.unusedVariables false
set_option linter.unusedSimpArgs false

/-- bytes as a text -/
def bs (l : List UInt8) : ByteArray := ⟨l.toArray⟩
theorem bs_size (l : List UInt8) : (bs l).size = l.length := by simp [bs, ByteArray.size]
theorem bs_list (l : List UInt8) : (bs l).data.toList = l := rfl
theorem ext_bs (s : ByteArray) (a b : Nat) : s.extract a b = bs ((s.data.toList.drop a).take (b - a)) := by
  apply ByteArray.ext
  apply Array.toList_inj.1
  rw [ByteArray.data_extract, Array.toList_extract]
  simp [List.extract, bs]
theorem sts_bs (ps : List (List UInt8)) (q : List UInt8) : sts (ps.map bs) ++ [.string (bs q)] = sts ((ps ++ [q]).map bs) := by simp [sts]
theorem sts_len (l : List ByteArray) : (sts l).length = l.length := by simp [sts]
theorem at_byte (s : ByteArray) {k : Nat} (h : k < s.size) : s.data.toList.drop k = s[k] :: s.data.toList.drop (k + 1) := by
  have hk : k < s.data.toList.length := by rw [← Lib.size_eq]; exact h
  rw [List.drop_eq_getElem_cons hk]
  congr 1
theorem cut_at (s : ByteArray) {f p : Nat} (hf : f ≤ p) (h : p < s.size) : s.data.toList.drop f = (s.data.toList.drop f).take (p - f) ++ s[p] :: s.data.toList.drop (p + 1) := by
  have := List.take_append_drop (p - f) (s.data.toList.drop f)
  rw [List.drop_drop, show f + (p - f) = p by omega, at_byte s h] at this
  exact this.symm
theorem take_more (s : ByteArray) {f p : Nat} (hf : f ≤ p) (h : p < s.size) : (s.data.toList.drop f).take (p + 1 - f) = (s.data.toList.drop f).take (p - f) ++ [s[p]] := drop_take hf h

/-- where the division stands: the pieces so far, and the one that is under way -/
def Cut (s : ByteArray) (c : UInt8) (ps : List (List UInt8)) (f p : Nat) : Prop := splF c s.data.toList = ps ++ splF c (s.data.toList.drop f) ∧ ∀ x ∈ (s.data.toList.drop f).take (p - f), x ≠ c
theorem cut_start (s : ByteArray) (c : UInt8) : Cut s c [] 0 0 := ⟨rfl, by simp⟩
theorem cut_hit {s : ByteArray} {c : UInt8} {ps : List (List UInt8)} {f p : Nat} (h : Cut s c ps f p) (hf : f ≤ p) (hp : p < s.size) (e : s[p] = c) : Cut s c (ps ++ [(s.data.toList.drop f).take (p - f)]) (p + 1) (p + 1) := by
  refine ⟨?_, by simp⟩
  have hc := cut_at s hf hp
  rw [e] at hc
  rw [h.1, List.append_assoc]
  congr 1
  calc splF c (s.data.toList.drop f) = splF c ((s.data.toList.drop f).take (p - f) ++ c :: s.data.toList.drop (p + 1)) := by rw [← hc]
    _ = _ := splF_hit c _ _ h.2
theorem cut_miss {s : ByteArray} {c : UInt8} {ps : List (List UInt8)} {f p : Nat} (h : Cut s c ps f p) (hf : f ≤ p) (hp : p < s.size) (e : s[p] ≠ c) : Cut s c ps f (p + 1) := by
  refine ⟨h.1, ?_⟩
  rw [take_more s hf hp]
  intro x hx
  rcases List.mem_append.1 hx with hx | hx
  · exact h.2 x hx
  · rw [List.mem_singleton.1 hx]
    exact e
theorem cut_end {s : ByteArray} {c : UInt8} {ps : List (List UInt8)} {f : Nat} (h : Cut s c ps f s.size) (hf : f ≤ s.size) : splF c s.data.toList = ps ++ [(s.data.toList.drop f).take (s.size - f)] := by
  have et : (s.data.toList.drop f).take (s.size - f) = s.data.toList.drop f := List.take_of_length_le (by rw [List.length_drop, ← Lib.size_eq]; exact Nat.le_refl _)
  have h2 := h.2
  rw [et] at h2 ⊢
  rw [h.1, splF_none c _ h2]
theorem cut_len {s : ByteArray} {c : UInt8} {ps : List (List UInt8)} {f p : Nat} (h : Cut s c ps f p) (hs : s.size ≤ 1048576) : ps.length ≤ 1048576 := by
  have h1 := splF_le c s.data.toList
  rw [h.1, List.length_append] at h1
  have h2 := splF_len_pos c (s.data.toList.drop f)
  rw [← Lib.size_eq] at h1
  omega
/-- a row of texts of its own, in a block from lo on -/
def Txs (w : World) (lo : Nat) (A : Option Addr) (n c : Nat) (ps : List (List UInt8)) : Prop := Orw w 9 1 lo A n c (sts (ps.map bs))

set_option maxHeartbeats 1000000 in
theorem specSplit (s : ByteArray) (c : UInt8) (cz : Int) (hcz : (c.toNat : Int) = cz) (w : World) (hs : s.size ≤ 1048576) :
    Calls Tryd.prog 37 #[.string s, .int .u8 cz] w fun e w' => ∃ (A : Option Addr) (n q : Nat), e = .returned (.slice A n q) ∧ n = (splF c s.data.toList).length ∧ Txs w' w.heap.size A n q (splF c s.data.toList) ∧ Below w.heap.size w w' := by
  obtain ⟨i0, hi, hz0, hz1, hz2⟩ := info_parts infoS
  have hown : Orw (w.alloc (.cells #[] 9)) 9 1 w.heap.size (some ⟨w.heap.size, 0, none⟩) 0 0 (sts (([] : List (List UInt8)).map bs)) := World.ownsRow_made (base := w.heap.size) (e := 9) (size := 1) w #[] 0 (Nat.le_refl _) (by omega) (by simp)
  have HO0 := Lib.hid hown
  have HI := Lib.hid (show Tryd.prog.info? 9 = some i0 ∧ i0.zero = some (.string ByteArray.empty) ∧ i0.size = 1 ∧ i0.bytes = 16 from ⟨hi, hz0, hz1, hz2⟩)
  have bc : 0 ≤ cz ∧ cz ≤ 255 := by have := c.toNat_lt; omega
  have HC := Lib.hid hcz
  clear hown hi hz0 hz1 hz2 hcz
  go_enter Tryd.func37, Tryd.ntmps37
  go_wp2
  go_loopw [5, 6, 7] (fun o fv iv wr => ∃ (k q : Nat) (B : Option Addr) (f p : Nat) (ps : List (List UInt8)), o = .slice B k q ∧ fv = .int .i64 (f : Int) ∧ iv = .int .i64 (p : Int) ∧ f ≤ p ∧ p ≤ s.size ∧ k ≤ 1048576 ∧ Hid (k = ps.length) ∧ Hid (Orw wr 9 1 w.heap.size B k q (sts (ps.map bs))) ∧ Hid (Below w.heap.size w wr) ∧ Hid (Cut s c ps f p)) (fun _ _ i _ => s.size - (intOf i).toNat)
  case atStart => exact ⟨0, 0, _, 0, 0, [], rfl, rfl, rfl, by omega, by omega, by omega, Lib.hid rfl, HO0, Lib.hid (by repeat (first | with_reducible exact Below.refl _ _ | with_reducible assumption | (with_reducible refine Below.drew ?_) | (with_reducible refine below_drewN ?_ _) | ((with_reducible refine Below.alloc ?_ ?_ _); rotate_left; (focus first | exact Nat.le_refl _ | omega | (simp; done) | (simp; omega))) | ((with_reducible refine Below.setCell ?_ ?_ _); rotate_left; (focus first | exact Nat.le_refl _ | omega | (simp; done) | (simp; omega))) | ((with_reducible refine below_via (W := ?_) ?_ ?_ ?_); rotate_left; (with_reducible assumption); rotate_left; (focus first | exact Nat.le_refl _ | omega | (simp; done) | (simp; omega))))), Lib.hid (cut_start s c)⟩
  case round =>
    obtain ⟨k, q, B, f, p, ps, rfl, rfl, rfl, hf, hp, hk, HK, HO, HB, HT⟩ := hrel
    by_cases hlt : p < s.size
    · have hbb : 0 ≤ (s[p].toNat : Int) ∧ (s[p].toNat : Int) ≤ 255 := by have := s[p].toNat_lt; omega
      by_cases he : s[p] = c
      · have g : ((s[p].toNat : Int) == cz) = true := by rw [he, HC.out]; simp
        obtain ⟨t, ht⟩ : ∃ t, s.extract f p = t := ⟨_, rfl⟩
        have HV := Lib.hid (show sts (ps.map bs) ++ [.string t] = sts ((ps ++ [(s.data.toList.drop f).take (p - f)]).map bs) by rw [← ht, ext_bs, sts_bs])
        have HT2 := Lib.hid (cut_hit HT.out hf hlt he)
        have HK2 : Hid (k + 1 = (ps ++ [(s.data.toList.drop f).take (p - f)]).length) := Lib.hid (by rw [List.length_append, ← HK.out]; rfl)
        have hk2 := cut_len HT2.out hs
        rw [← HK2.out] at hk2
        have hz9 := HB.out.size
        clear he
        go_wp2_with (at_builtin; refine wpList_append_own _ rfl _ _ 35 rfl w.heap.size 9 i0 (.string ByteArray.empty) 1 16 Tryd.underlying35 HI.out.1 HI.out.2.1 HI.out.2.2.1 HI.out.2.2.2 rfl (by decide) _ _ _ rfl (HO.out.alloc _) ⟨wr.heap.size, 0, none⟩ 1 1 [.string t] rfl rfl (news_one wr _ _) (one_cell rfl) (by unfold maxLen; omega) (by omega) (by simp; omega) ?_; intro v' w3 hown3 hgrow3 _; rw [HV.out] at hown3; obtain ⟨B', q', rfl, ho3⟩ := orw_form hown3 (by omega); have HR3 := Lib.hid ho3; have HG3 := Lib.hid (gr_of hgrow3); clear hown3 hgrow3 ho3)
        all_goals go_roundw
        all_goals first
          | (simp [intOf]; omega)
          | exact ⟨k + 1, q', B', p + 1, p + 1, _, rfl, by go_num, by go_num, by omega, by omega, hk2, HK2, HR3, Lib.hid (Below.trans (HB.out.alloc (by omega) _) (Gr.below HG3.out (fun a e => (HO.out.block e).1) (by simp; omega))), HT2⟩
      · have g : ((s[p].toNat : Int) == cz) = false := by
          rw [beq_eq_false_iff_ne, ← HC.out]
          intro e
          exact he (UInt8.toNat_inj.1 (by omega))
        have HT2 := Lib.hid (cut_miss HT.out hf hlt he)
        clear he
        go_wp2
        go_roundw
        all_goals first
          | (simp [intOf]; omega)
          | exact ⟨k, q, B, f, p + 1, ps, rfl, rfl, by go_num, by omega, by omega, hk, HK, HO, HB, HT2⟩
    · obtain rfl : p = s.size := by omega
      obtain ⟨t, ht⟩ : ∃ t, s.extract f s.size = t := ⟨_, rfl⟩
      have HV := Lib.hid (show sts (ps.map bs) ++ [.string t] = sts ((splF c s.data.toList).map bs) by rw [← ht, ext_bs, sts_bs, cut_end HT.out hf])
      have HK2 : Hid (k + 1 = (splF c s.data.toList).length) := Lib.hid (by rw [cut_end HT.out hf, List.length_append, ← HK.out]; rfl)
      have hz9 := HB.out.size
      go_wp2_with (at_builtin; refine wpList_append_own _ rfl _ _ 35 rfl w.heap.size 9 i0 (.string ByteArray.empty) 1 16 Tryd.underlying35 HI.out.1 HI.out.2.1 HI.out.2.2.1 HI.out.2.2.2 rfl (by decide) _ _ _ rfl (HO.out.alloc _) ⟨wr.heap.size, 0, none⟩ 1 1 [.string t] rfl rfl (news_one wr _ _) (one_cell rfl) (by unfold maxLen; omega) (by omega) (by simp; omega) ?_; intro v' w3 hown3 hgrow3 _; rw [HV.out] at hown3; obtain ⟨B', q', rfl, ho3⟩ := orw_form hown3 (by omega); have HR3 := Lib.hid ho3; have HG3 := Lib.hid (gr_of hgrow3); clear hown3 hgrow3 ho3)
      go_ret
      exact ⟨B', k + 1, q', rfl, HK2.out, HR3.out, Below.trans (HB.out.alloc (by omega) _) (Gr.below HG3.out (fun a e => (HO.out.block e).1) (by simp; omega))⟩

end Go.Proofs.YtbggickeomeidaaDoor.WalkSp
