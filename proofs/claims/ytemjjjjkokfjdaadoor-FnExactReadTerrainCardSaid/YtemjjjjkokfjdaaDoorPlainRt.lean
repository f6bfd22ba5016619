/- Terrains read: plain laws. -/
import Derived.Test.YtemjjjjkokfjdaaDoorPlainSq
import Derived.Test.YtemjjjjkokfjdaaDoorWalkTv
import Derived.Lib.IndexMore
namespace Go.Proofs.YtemjjjjkokfjdaaDoor.PlainRt
open Go Go.RowKit Go.Proofs.YtemjjjjkokfjdaaDoor.Plain Go.Proofs.YtemjjjjkokfjdaaDoor.PlainT Go.Proofs.YtemjjjjkokfjdaaDoor.PlainTx Go.Proofs.YtemjjjjkokfjdaaDoor.PlainSp Go.Proofs.YtemjjjjkokfjdaaDoor.PlainSq Go.Proofs.YtemjjjjkokfjdaaDoor.Text Go.Proofs.YtemjjjjkokfjdaaDoor.WalkN Go.Proofs.YtemjjjjkokfjdaaDoor.WalkW Go.Proofs.YtemjjjjkokfjdaaDoor.WalkTx Go.Proofs.YtemjjjjkokfjdaaDoor.WalkLT Go.Proofs.YtemjjjjkokfjdaaDoor.WalkTt Go.Proofs.YtemjjjjkokfjdaaDoor.WalkTv
set_option linter.unusedVariables false
set_option linter.unusedSimpArgs false

abbrev TX := List UInt8
theorem splF_app (c : UInt8) (r : TX) : ∀ ps : List TX, (∀ p ∈ ps, ∀ x ∈ p, x ≠ c) → splF c (ps.flatMap (· ++ [c]) ++ r) = ps ++ splF c r
  | [], _ => rfl
  | p :: ps, h => by
    rw [List.flatMap_cons, List.append_assoc, List.append_assoc]
    show splF c (p ++ c :: (ps.flatMap (· ++ [c]) ++ r)) = _
    rw [splF_hit c p _ (h p (by simp)), splF_app c r ps (fun q hq => h q (by simp [hq]))]
    rfl
theorem splF_of_join (c : UInt8) : ∀ (p : TX) (ps : List TX), (∀ q ∈ p :: ps, ∀ x ∈ q, x ≠ c) → splF c (Lib.join (p :: ps) [c]) = p :: ps
  | p, [], h => by
    rw [Lib.join_one]
    exact splF_none c p (h p (by simp))
  | p, q :: ps, h => by
    have ih := splF_of_join c q ps (fun r hr => h r (by simp at hr ⊢; exact .inr hr))
    rw [Lib.join_cons] at ih ⊢
    show splF c (p ++ (([c] ++ q) ++ Lib.joinTail [c] ps)) = _
    rw [List.append_assoc]
    show splF c (p ++ c :: (q ++ Lib.joinTail [c] ps)) = _
    rw [splF_hit c p _ (h p (by simp)), ih]
/-- a text is its pieces, each but the last with c behind it -/
theorem join_flat (c : UInt8) : ∀ (ps : List TX) (l : TX), Lib.join (ps ++ [l]) [c] = ps.flatMap (· ++ [c]) ++ l
  | [], l => by simp [Lib.join_one]
  | [p], l => by
    show Lib.join (p :: [l]) [c] = _
    rw [Lib.join_cons]
    simp [Lib.joinTail]
  | p :: q :: ps, l => by
    have ih := join_flat c (q :: ps) l
    rw [List.cons_append, Lib.join_cons] at ih ⊢
    rw [List.flatMap_cons, List.append_assoc, ← ih]
    simp [Lib.joinTail]
theorem nd_pow : ∀ (k u : Nat), u < 10 ^ (k + 1) → Lib.nDigits u ≤ k + 1
  | 0, u, h => by
    rw [Lib.nDigits, dif_pos (by omega)]
    exact Nat.le_refl _
  | k + 1, u, h => by
    rw [Lib.nDigits]
    by_cases h1 : u < 10
    · rw [dif_pos h1]; omega
    · rw [dif_neg h1]
      have := nd_pow k (u / 10) (by rw [Nat.pow_succ] at h; omega)
      omega
theorem dig_by (u : Nat) : ∀ x ∈ Lib.decDigits u, isD x = true := List.all_eq_true.1 (dec_all u)
/-- the bytes of a list as text -/
def lb (x : UInt8) : Prop := x = 45 ∨ x = 44 ∨ isD x = true
theorem lb_no {x : UInt8} (h : lb x) : x ≠ 10 ∧ x ≠ 32 := by
  constructor <;> (rintro rfl; rcases h with h | h | h <;> revert h <;> decide)
theorem itoa_by (n : Int) : ∀ x ∈ Lib.itoa n, x = 45 ∨ isD x = true := by
  intro x hx
  unfold Lib.itoa at hx
  split at hx
  · rcases List.mem_cons.1 hx with h | h
    · exact .inl h
    · exact .inr (dig_by _ x h)
  · exact .inr (dig_by _ x hx)
theorem itoa_lb (n : Int) : ∀ x ∈ Lib.itoa n, lb x := fun x hx => (itoa_by n x hx).imp id .inr
theorem itoa_no (n : Int) (c : UInt8) (h1 : c ≠ 45) (h2 : isD c = false) : ∀ x ∈ Lib.itoa n, x ≠ c := by
  intro x hx e
  subst e
  rcases itoa_by n x hx with h | h
  · exact h1 h
  · rw [h2] at h; cases h
theorem itoa_num {n : Int} (h : -1000000000000 ≤ n ∧ n ≤ 1000000000000) : numF (Lib.itoa n) = some n := by
  refine itoa_numF rfl ?_
  unfold Lib.itoa
  have hh : ∀ u : Nat, u ≤ 1000000000000 → (Lib.decDigits u).length ≤ 18 := fun u hu => by
    rw [Lib.decDigits_length]
    have := nd_pow 12 u (by omega)
    omega
  split
  · show (digF (45 :: _)).length ≤ 18
    have : digF (45 :: Lib.decDigits n.natAbs) = Lib.decDigits n.natAbs := by simp [digF]
    rw [this]
    exact hh _ (by omega)
  · have : (digF (Lib.decDigits n.toNat)).length ≤ (Lib.decDigits n.toNat).length := by
      unfold digF
      split
      · simp
      · exact Nat.le_refl _
    have := hh n.toNat (by omega)
    omega
theorem nums_itoa : ∀ (l : List Int), l.all big = true → numsF (l.map Lib.itoa) = some l
  | [], _ => rfl
  | n :: l, h => by
    rw [List.all_cons, Bool.and_eq_true] at h
    have hn : -1000000000000 ≤ n ∧ n ≤ 1000000000000 := by simpa [big] using h.1
    rw [List.map_cons]
    unfold numsF
    rw [itoa_num hn, nums_itoa l h.2]
    rfl
theorem fit_yes {l : List Int} (h : fitB l = true) : l.all big = true ∧ l.length ≤ 64 := by
  unfold fitB at h
  rw [Bool.and_eq_true] at h
  exact ⟨h.1, by simpa using h.2⟩
/-- what is written is read -/
theorem read_list {l : List Int} (h : fitB l = true) : readF (listF l) = some l := by
  have hy := fit_yes h
  unfold listF lstF
  rw [h, cond_true]
  cases l with
  | nil => rw [if_pos rfl]; rfl
  | cons n l =>
    rw [if_neg (by simp)]
    have hs : splF 44 (Lib.join ((n :: l).map Lib.itoa) [44]) = (n :: l).map Lib.itoa := by
      rw [List.map_cons]
      refine splF_of_join 44 _ _ ?_
      intro q hq
      rw [← List.map_cons] at hq
      obtain ⟨m, _, rfl⟩ := List.mem_map.1 hq
      exact itoa_no m 44 (by decide) (by decide)
    refine readF_some ?_ (by rw [hs, List.length_map]; exact hy.2) (by rw [hs]; exact nums_itoa _ hy.1) hy.1
    intro e
    rw [e] at hs
    have h1 : splF 44 [45] = [[45]] := by decide
    rw [h1] at hs
    have h2 := nums_itoa _ hy.1
    rw [← hs] at h2
    have h3 : numsF [[45]] = none := by rfl
    rw [h3] at h2
    cases h2
/-- what is read was written -/
theorem list_read {s : TX} {l : List Int} (h : readF s = some l) : listF l = s ∧ fitB l = true := by
  have h2 := h
  rw [← readG_eq] at h
  unfold readG at h
  by_cases h0 : s = [45]
  · rw [if_pos h0] at h
    injection h with h
    subst h h0
    exact ⟨rfl, rfl⟩
  · rw [if_neg h0] at h
    unfold readF at h2
    rw [if_neg h0] at h2
    cases hn : numsF (Lib.splitN s [44] 65) with
    | none => rw [hn] at h; cases h
    | some l' =>
      rw [hn] at h
      simp only at h
      split at h
      next e =>
        injection h with h
        subst h
        refine ⟨e, ?_⟩
        cases hf : fitB l'
        · unfold listF at e
          rw [hf, cond_false] at e
          subst e
          rw [show numsF (splF 44 []) = none by rfl] at h2
          split at h2 <;> cases h2
        · rfl
      next => cases h
theorem list_lb {l : List Int} : ∀ x ∈ listF l, lb x := by
  intro x hx
  unfold listF at hx
  cases hf : fitB l
  · rw [hf, cond_false] at hx; cases hx
  · rw [hf, cond_true] at hx
    unfold lstF at hx
    split at hx
    · simp at hx; exact .inl hx
    · cases l with
      | nil => simp [Lib.join, List.intercalate] at hx
      | cons n l =>
        rw [List.map_cons, Lib.join_cons, List.mem_append] at hx
        rcases hx with hx | hx
        · exact itoa_lb n x hx
        · unfold Lib.joinTail at hx
          obtain ⟨p, hp, hx⟩ := List.mem_flatten.1 hx
          obtain ⟨q, hq, rfl⟩ := List.mem_map.1 hp
          rw [List.mem_append] at hx
          rcases hx with hx | hx
          · simp at hx; exact .inr (.inl hx)
          · obtain ⟨m, _, rfl⟩ := List.mem_map.1 hq
            exact itoa_lb m x hx

/-- a line of a terrain, read -/
def rowF (wd : Int) (l : TX) : Option (List Int × List Int) :=
  if (splF 32 l).length ≠ 2 then none else
    match readF ((splF 32 l).getD 0 []), readF ((splF 32 l).getD 1 []) with
    | some x, some y => if (x.length : Int) = wd ∧ (y.length : Int) = wd then some (x, y) else none
    | _, _ => none
def rowsF (wd : Int) : List TX → Option (List Int × List Int)
  | [] => some ([], [])
  | l :: ls => match rowF wd l with | none => none | some r => (rowsF wd ls).map fun q => (r.1 ++ q.1, r.2 ++ q.2)
theorem two_of {α : Type} {l : List α} (d : α) (h : l.length = 2) : l = [l.getD 0 d, l.getD 1 d] := by
  match l, h with
  | [a, b], _ => rfl
theorem four_of {α : Type} {l : List α} (d : α) (h : l.length = 4) : l = [l.getD 0 d, l.getD 1 d, l.getD 2 d, l.getD 3 d] := by
  match l, h with
  | [a, b, c, e], _ => rfl
theorem rowF_yes {wd : Int} {l : TX} {x y : List Int} (h : rowF wd l = some (x, y)) :
    splF 32 l = [(splF 32 l).getD 0 [], (splF 32 l).getD 1 []] ∧ readF ((splF 32 l).getD 0 []) = some x ∧ readF ((splF 32 l).getD 1 []) = some y ∧ (x.length : Int) = wd ∧ (y.length : Int) = wd := by
  unfold rowF at h
  by_cases h2 : (splF 32 l).length ≠ 2
  · rw [if_pos h2] at h; cases h
  · rw [if_neg h2] at h
    have h3 : (splF 32 l).length = 2 := by omega
    cases ha : readF ((splF 32 l).getD 0 []) with
    | none => rw [ha] at h; cases h
    | some a =>
      cases hb : readF ((splF 32 l).getD 1 []) with
      | none => rw [ha, hb] at h; cases h
      | some b =>
        rw [ha, hb] at h
        simp only at h
        split at h
        next e =>
          injection h with h
          injection h with e1 e2
          subst e1 e2
          exact ⟨two_of [] h3, rfl, rfl, e.1, e.2⟩
        next => cases h
theorem rowF_mk {wd : Int} {l a b : TX} {x y : List Int} (h : splF 32 l = [a, b]) (ha : readF a = some x) (hb : readF b = some y) (h1 : (x.length : Int) = wd) (h2 : (y.length : Int) = wd) : rowF wd l = some (x, y) := by
  unfold rowF
  rw [h]
  simp [ha, hb, h1, h2]

end Go.Proofs.YtemjjjjkokfjdaaDoor.PlainRt
