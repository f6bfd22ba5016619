/- Levels read: plain laws. -/
import Derived.Test.YtbggickeomeidaaDoorWalkTx
import Derived.Test.YtbggickeomeidaaDoorWalkRD
import Derived.Lib.IndexLaws
import Derived.Lib.IndexMore
namespace Go.Proofs.YtbggickeomeidaaDoor.PlainRb
open Go Go.RowKit Go.Proofs.YtbggickeomeidaaDoor.Base Go.Proofs.YtbggickeomeidaaDoor.Plain Go.Proofs.YtbggickeomeidaaDoor.PlainTx Go.Proofs.YtbggickeomeidaaDoor.WalkN Go.Proofs.YtbggickeomeidaaDoor.WalkP Go.Proofs.YtbggickeomeidaaDoor.Text Go.Proofs.YtbggickeomeidaaDoor.WalkTx Go.Proofs.YtbggickeomeidaaDoor.WalkRD
set_option linter.unusedVariables false
set_option linter.unusedSimpArgs false

theorem index_dot : ∀ (a b : List UInt8), a.all isD = true → Lib.index (a ++ 46 :: b) [46] = (a.length : Int)
  | [], b, _ => by simp [Lib.index, List.isPrefixOf]
  | c :: a, b, h => by
    have hc : isD c = true := by simp only [List.all_cons, Bool.and_eq_true] at h; exact h.1
    have hr : a.all isD = true := by simp only [List.all_cons, Bool.and_eq_true] at h; exact h.2
    have hne : ((46 : UInt8) == c) = false := by
      rw [beq_eq_false_iff_ne]
      intro e
      subst e
      exact absurd hc (by decide)
    rw [List.cons_append]
    unfold Lib.index
    rw [index_dot a b hr]
    have e1 : ([46].isPrefixOf (c :: (a ++ 46 :: b))) = false := by simp [List.isPrefixOf, hne]
    rw [e1]
    have e2 : (((a.length : Int)) == -1) = false := by rw [beq_eq_false_iff_ne]; omega
    rw [e2]
    simp
theorem cut_dot {a b : List UInt8} (ha : a.all isD = true) : Lib.cut (a ++ 46 :: b) [46] = (a, b, true) := by
  unfold Lib.cut
  rw [index_dot a b ha, if_pos (by omega)]
  simp
theorem cut_len (l sep : List UInt8) : (Lib.cut l sep).1.length ≤ l.length ∧ (Lib.cut l sep).2.1.length ≤ l.length := by
  unfold Lib.cut
  split <;> simp <;> omega
theorem val_three {x y z : UInt8} (a : Nat) : valA a [x, y, z] = 1000 * a + valA 0 [x, y, z] := by
  simp [valA]
  omega
theorem val_lt3 {D : List UInt8} (hl : D.length = 3) (h : D.all isD = true) : valA 0 D < 1000 := by
  have := valA_lt D 0 h
  rw [hl] at this
  simpa using this
theorem three {D : List UInt8} (h : D.length = 3) : ∃ x y z, D = [x, y, z] := by
  match D, h with
  | [x, y, z], _ => exact ⟨x, y, z, rfl⟩
theorem txt_list (N : Nat) : (txt (N : Int)).data.toList = Lib.decDigits N := by
  unfold txt
  rw [Lib.itoa_nonneg]
theorem dec_no45 (q : Nat) (r : List UInt8) : ¬ (Lib.decDigits q ++ r).head? = some 45 := by
  rw [head_app (dec_ne q)]
  have h := dec_all q
  cases hq : Lib.decDigits q with
  | nil => simp
  | cons c t =>
    rw [hq] at h
    simp only [List.all_cons, Bool.and_eq_true] at h
    intro e
    simp only [List.head?_cons, Option.some.injEq] at e
    subst e
    exact absurd h.1 (by decide)
theorem lvP_parts {u : Int} (h1 : 0 ≤ u) (h2 : u ≤ 300000) : ∃ (q : Nat) (D : List UInt8), (lvP u).data.toList = Lib.decDigits q ++ 46 :: D ∧ D.length = 3 ∧ D.all isD = true ∧ q ≤ 300 ∧ u = 1000 * (q : Int) + (valA 0 D : Int) := by
  obtain ⟨q, hq⟩ : ∃ q : Nat, u / 1000 = (q : Int) := ⟨(u / 1000).toNat, by omega⟩
  obtain ⟨k, hk⟩ : ∃ k : Nat, 1000 + u % 1000 = (k : Int) := ⟨(1000 + u % 1000).toNat, by omega⟩
  have hl : (Lib.decDigits k).length = 4 := by rw [Lib.decDigits_length]; exact nd_four (by omega) (by omega)
  have ha := dec_all k
  have hv := dec_val k
  have ht := txt_list k
  obtain ⟨c, D, hD⟩ : ∃ c D, Lib.decDigits k = c :: D := by
    cases h : Lib.decDigits k with
    | nil => rw [h] at hl; cases hl
    | cons c D => exact ⟨c, D, rfl⟩
  rw [hD] at hl ha hv ht
  have hl3 : D.length = 3 := by simpa using hl
  simp only [List.all_cons, Bool.and_eq_true] at ha
  obtain ⟨x, y, z, rfl⟩ := three hl3
  rw [valA_cons, val_three] at hv
  have hlt := val_lt3 hl3 ha.2
  refine ⟨q, [x, y, z], ?_, rfl, ha.2, by omega, by omega⟩
  unfold lvP
  rw [hq, hk]
  have e1 := txt_list q
  simp only [ByteArray.data_append, Array.toList_append, ByteArray.data_extract, e1, Array.toList_extract, ht]
  simp [List.extract]
  rw [ht]
  rfl
theorem lv_parts {v : Int} {s : ByteArray} (hv : inB v (-300000) 300000 = true) (h : lvT v = s) : ∃ (q : Nat) (D : List UInt8), digF s.data.toList = Lib.decDigits q ++ 46 :: D ∧ D.length = 3 ∧ D.all isD = true ∧ q ≤ 300 ∧
    ((v < 0 ∧ v = -(1000 * (q : Int) + (valA 0 D : Int)) ∧ s.data.toList = 45 :: (Lib.decDigits q ++ 46 :: D)) ∨ (0 ≤ v ∧ v = 1000 * (q : Int) + (valA 0 D : Int) ∧ s.data.toList = Lib.decDigits q ++ 46 :: D)) := by
  have b := inB_yes hv
  subst h
  unfold lvT
  by_cases hn : v < 0
  · rw [if_pos hn]
    obtain ⟨q, D, e, hl, ha, hq, hu⟩ := lvP_parts (u := -v) (by omega) (by omega)
    have e2 : (⟨#[45]⟩ ++ lvP (-v) : ByteArray).data.toList = 45 :: (Lib.decDigits q ++ 46 :: D) := by
      rw [ByteArray.data_append, Array.toList_append, e]
      rfl
    refine ⟨q, D, ?_, hl, ha, hq, .inl ⟨hn, by omega, e2⟩⟩
    rw [e2]
    rfl
  · rw [if_neg hn]
    obtain ⟨q, D, e, hl, ha, hq, hu⟩ := lvP_parts (u := v) (by omega) (by omega)
    refine ⟨q, D, ?_, hl, ha, hq, .inr ⟨by omega, by omega, e⟩⟩
    rw [e]
    exact pos_form (dec_no45 q _)
theorem lv_inj {v v' : Int} {s : ByteArray} (hv : inB v (-300000) 300000 = true) (h : lvT v = s) (hv' : inB v' (-300000) 300000 = true) (h' : lvT v' = s) : v = v' := by
  obtain ⟨q, D, e, hl, ha, hq, c⟩ := lv_parts hv h
  obtain ⟨q', D', e', hl', ha', hq', c'⟩ := lv_parts hv' h'
  have hc := cut_dot (b := D) (dec_all q)
  rw [← e, e', cut_dot (dec_all q')] at hc
  simp only [Prod.mk.injEq] at hc
  obtain ⟨h1, h2, _⟩ := hc
  have hqq : q' = q := by
    have := congrArg (valA 0) h1
    rwa [dec_val, dec_val] at this
  subst hqq h2
  rcases c with ⟨a1, a2, a3⟩ | ⟨a1, a2, a3⟩ <;> rcases c' with ⟨b1, b2, b3⟩ | ⟨b1, b2, b3⟩
  · omega
  · rw [a3] at b3
    exact absurd (congrArg List.head? b3).symm (dec_no45 _ _)
  · rw [b3] at a3
    exact absurd (congrArg List.head? a3).symm (dec_no45 _ _)
  · omega
/-- is it the text of a level -/
def IsLv (s : ByteArray) : Prop := ∃ v, inB v (-300000) 300000 = true ∧ lvT v = s
open Classical in
/-- what the reading of a level gives -/
noncomputable def dbV (s : ByteArray) : Value := if h : IsLv s then .tuple #[.int .i64 h.choose, .bool true] else .tuple #[.int .i64 0, .bool false]
theorem dbV_no {s : ByteArray} (h : ¬ IsLv s) : dbV s = .tuple #[.int .i64 0, .bool false] := by
  unfold dbV
  rw [dif_neg h]
theorem dbV_yes {s : ByteArray} {v : Int} (hv : inB v (-300000) 300000 = true) (h : lvT v = s) : dbV s = .tuple #[.int .i64 v, .bool true] := by
  have hs : IsLv s := ⟨v, hv, h⟩
  unfold dbV
  rw [dif_pos hs, lv_inj hv h hs.choose_spec.1 hs.choose_spec.2]
theorem dbR_yes {v : Int} (hv : inB v (-300000) 300000 = true) : dbR v = lvT v := by unfold dbR; rw [hv]; rfl
/-- a text that DbText gives for some number is a level's, unless it is empty -/
theorem dbV_of {s : ByteArray} {v : Int} (h : dbR v = s) (h0 : s.size ≠ 0) : dbV s = .tuple #[.int .i64 v, .bool true] := by
  cases hv : inB v (-300000) 300000
  · rw [dbR_no hv] at h
    subst h
    exact absurd rfl h0
  · exact dbV_yes hv (by rw [← dbR_yes hv]; exact h)
theorem lv_ne {s : ByteArray} (h : IsLv s) : 5 ≤ s.size := by
  obtain ⟨v, hv, e⟩ := h
  obtain ⟨q, D, _, hl, _, _, c⟩ := lv_parts hv e
  have hs : s.size = s.data.toList.length := Lib.size_eq s
  have hd : 1 ≤ (Lib.decDigits q).length := by
    have := dec_ne q
    cases h : Lib.decDigits q with
    | nil => exact absurd h this
    | cons _ _ => simp
  rcases c with ⟨_, _, h⟩ | ⟨_, _, h⟩ <;> (rw [hs, h]; simp only [List.length_cons, List.length_append, hl]; omega)
theorem num_dec {q : Nat} (h : q ≤ 300) : numF (Lib.decDigits q) = some (q : Int) := by
  refine itoa_numF (Lib.itoa_nonneg q) ?_
  rw [pos_form (by have := dec_no45 q []; rwa [List.append_nil] at this), Lib.decDigits_length, ]
  have := Lib.nDigits_pos q
  rcases Nat.lt_or_ge q 10 with c | c
  · rw [Lib.nDigits_small c]; omega
  · rw [Lib.nDigits_big (by omega)]
    rcases Nat.lt_or_ge (q / 10) 10 with c | c
    · rw [Lib.nDigits_small c]; omega
    · rw [Lib.nDigits_big (by omega), Lib.nDigits_small (by omega)]; omega
theorem num_neg {q : Nat} (h1 : 1 ≤ q) (h : q ≤ 300) : numF (45 :: Lib.decDigits q) = some (-(q : Int)) := by
  refine itoa_numF (Lib.itoa_neg q h1) ?_
  have e : digF (45 :: Lib.decDigits q) = Lib.decDigits q := rfl
  rw [e, Lib.decDigits_length]
  rcases Nat.lt_or_ge q 10 with c | c
  · rw [Lib.nDigits_small c]; omega
  · rw [Lib.nDigits_big (by omega)]
    rcases Nat.lt_or_ge (q / 10) 10 with c | c
    · rw [Lib.nDigits_small c]; omega
    · rw [Lib.nDigits_big (by omega), Lib.nDigits_small (by omega)]; omega
theorem num_one {D : List UInt8} (hl : D.length = 3) (ha : D.all isD = true) : numF (49 :: D) = some (1000 + (valA 0 D : Int)) := by
  have e : digF (49 :: D) = 49 :: D := pos_form (by simp)
  have h := numF_mk (l := 49 :: D) (by rw [e]; simp) (by rw [e]; simp; omega) (by rw [e]; exact .inl (by simp)) (by rw [e, List.all_cons, ha]; rfl)
  rw [e, if_neg (by simp), valA_cons] at h
  obtain ⟨x, y, z, rfl⟩ := three hl
  rw [val_three] at h
  rw [h]
  congr 1
/-- one digit more, as the machine's word reckons it -/
def stp (n : Int) (c : UInt8) : Int := IntKind.i64.wrap (IntKind.i64.wrap (IntKind.i64.wrap (10 * n) + (c.toNat : Int)) - 48)
def stF (n : Int) (l : List UInt8) : Int := l.foldl stp n
theorem stp_small {n : Int} {c : UInt8} (h0 : 0 ≤ n) (h : n ≤ 1000000) (hc : isD c = true) : stp n c = 10 * n + ((c.toNat : Int) - 48) ∧ 0 ≤ ((c.toNat : Int) - 48) ∧ ((c.toNat : Int) - 48) ≤ 9 := by
  have d := isD_yes hc
  unfold stp
  rw [IntWalk.i64_in (10 * n) (by omega), IntWalk.i64_in (10 * n + (c.toNat : Int)) (by omega), IntWalk.i64_in (10 * n + (c.toNat : Int) - 48) (by omega)]
  omega
theorem stF_dec {q : Nat} {D : List UInt8} (hq : q ≤ 300) (hl : D.length = 3) (ha : D.all isD = true) : stF (q : Int) D = 1000 * (q : Int) + (valA 0 D : Int) := by
  obtain ⟨x, y, z, rfl⟩ := three hl
  simp only [List.all_cons, Bool.and_eq_true] at ha
  have b1 := isD_yes ha.1
  have b2 := isD_yes ha.2.1
  have b3 := isD_yes ha.2.2.1
  obtain ⟨s1, _, _⟩ := stp_small (n := (q : Int)) (by omega) (by omega) ha.1
  obtain ⟨s2, _, _⟩ := stp_small (n := 10 * (q : Int) + ((x.toNat : Int) - 48)) (by omega) (by omega) ha.2.1
  obtain ⟨s3, _, _⟩ := stp_small (n := 10 * (10 * (q : Int) + ((x.toNat : Int) - 48)) + ((y.toNat : Int) - 48)) (by omega) (by omega) ha.2.2.1
  unfold stF
  rw [List.foldl_cons, List.foldl_cons, List.foldl_cons, List.foldl_nil, s1, s2, s3]
  simp [valA]
  omega

end Go.Proofs.YtbggickeomeidaaDoor.PlainRb
