/- Plain laws on texts: division at a byte, lists of numbers, and their reading; no program in sight. -/
import Derived.Test.YtbggickeomeidaaDoorPlainTx
import Derived.Lib.SplitLaws
import Derived.Lib.Join
namespace Go.Proofs.YtbggickeomeidaaDoor.PlainSp
open Go Go.Proofs.YtbggickeomeidaaDoor.Plain Go.Proofs.YtbggickeomeidaaDoor.PlainTx

/-- a text divided at each byte c -/
def splF (c : UInt8) : List UInt8 → List (List UInt8)
  | [] => [[]]
  | b :: l => if b = c then [] :: splF c l else (b :: (splF c l).headD []) :: (splF c l).tail
theorem splF_ne (c : UInt8) (l : List UInt8) : splF c l ≠ [] := by
  cases l with
  | nil => simp [splF]
  | cons b l => unfold splF; split <;> simp
theorem splF_len_pos (c : UInt8) (l : List UInt8) : 0 < (splF c l).length := by
  have := splF_ne c l
  cases h : splF c l with
  | nil => exact absurd h this
  | cons a b => simp
theorem splF_hit (c : UInt8) : ∀ (p r : List UInt8), (∀ x ∈ p, x ≠ c) → splF c (p ++ c :: r) = p :: splF c r
  | [], r, _ => by
    show splF c (c :: r) = _
    rw [splF, if_pos rfl]
  | b :: p, r, h => by
    show splF c (b :: (p ++ c :: r)) = _
    rw [splF, if_neg (h b (by simp)), splF_hit c p r (fun x hx => h x (by simp [hx]))]
    rfl
theorem splF_none (c : UInt8) : ∀ (p : List UInt8), (∀ x ∈ p, x ≠ c) → splF c p = [p]
  | [], _ => rfl
  | b :: p, h => by
    rw [splF, if_neg (h b (by simp)), splF_none c p (fun x hx => h x (by simp [hx]))]
    rfl
theorem splF_cases (c : UInt8) (l : List UInt8) : (∀ x ∈ l, x ≠ c) ∨ ∃ p r, l = p ++ c :: r ∧ ∀ x ∈ p, x ≠ c := by
  induction l with
  | nil => exact .inl (by simp)
  | cons b l ih =>
    by_cases hb : b = c
    · subst hb
      exact .inr ⟨[], l, rfl, by simp⟩
    · rcases ih with h | ⟨p, r, rfl, h⟩
      · exact .inl (by intro x hx; simp at hx; rcases hx with rfl | hx; exact hb; exact h x hx)
      · exact .inr ⟨b :: p, r, rfl, by intro x hx; simp at hx; rcases hx with rfl | hx; exact hb; exact h x hx⟩
theorem splF_count (c : UInt8) : ∀ l : List UInt8, (splF c l).length = l.count c + 1
  | [] => rfl
  | b :: l => by
    have ih := splF_count c l
    have hp := splF_len_pos c l
    unfold splF
    by_cases hb : b = c
    · subst hb
      rw [if_pos rfl, List.length_cons, ih, List.count_cons_self]
    · rw [if_neg hb, List.length_cons, List.length_tail, List.count_cons_of_ne (by simpa using hb)]
      omega
theorem splF_le (c : UInt8) (l : List UInt8) : (splF c l).length ≤ l.length + 1 := by
  rw [splF_count]
  have := List.count_le_length (a := c) (l := l)
  omega
/-- the pieces put together again -/
theorem splF_join (c : UInt8) : ∀ l : List UInt8, Lib.join (splF c l) [c] = l
  | [] => by rw [splF, Lib.join_one]
  | b :: l => by
    have ih := splF_join c l
    have hne := splF_ne c l
    unfold splF
    cases hs : splF c l with
    | nil => exact absurd hs hne
    | cons p ps =>
      rw [hs, Lib.join_cons] at ih
      by_cases hb : b = c
      · subst hb
        rw [if_pos rfl, Lib.join_cons, ← ih]
        simp [Lib.joinTail]
      · rw [if_neg hb, Lib.join_cons, ← ih]
        simp

/-- the library's index of one byte -/
theorem index_none (c : UInt8) : ∀ l : List UInt8, (∀ x ∈ l, x ≠ c) → Lib.index l [c] = -1
  | [], _ => by simp [Lib.index]
  | b :: l, h => by
    have hb : ¬ c = b := fun e => h b (by simp) e.symm
    rw [Lib.index, index_none c l (fun x hx => h x (by simp [hx]))]
    simp [List.isPrefixOf, hb]
theorem index_hit (c : UInt8) : ∀ (p r : List UInt8), (∀ x ∈ p, x ≠ c) → Lib.index (p ++ c :: r) [c] = (p.length : Int)
  | [], r, _ => by
    show Lib.index (c :: r) [c] = _
    rw [Lib.index]
    simp [List.isPrefixOf]
  | b :: p, r, h => by
    have hb : ¬ c = b := fun e => h b (by simp) e.symm
    show Lib.index (b :: (p ++ c :: r)) [c] = _
    rw [Lib.index, index_hit c p r (fun x hx => h x (by simp [hx]))]
    have h1 : ¬ ((p.length : Int) == -1) = true := by simp <;> omega
    simp [List.isPrefixOf, hb] <;> omega
theorem drop_aux (p r : List UInt8) (c : UInt8) : (p ++ c :: r).drop (p.length + [c].length) = r := by
  simp
/-- the library's pieces are these -/
theorem splitK_all (c : UInt8) : ∀ (k : Nat) (l : List UInt8), l.count c ≤ k → Lib.splitK [c] 0 k l = splF c l
  | 0, l, h => by
    rw [splF_none c l (fun x hx e => by subst e; have := List.count_pos_iff.2 hx; omega)]
    rfl
  | k + 1, l, h => by
    rcases splF_cases c l with hn | ⟨p, r, rfl, hp⟩
    · rw [splF_none c l hn, Lib.splitK, if_pos (by rw [index_none c l hn]; rfl)]
    · have hi := index_hit c p r hp
      have hc : r.count c ≤ k := by
        have h0 : p.count c = 0 := List.count_eq_zero.2 (fun hx => hp c hx rfl)
        rw [List.count_append, List.count_cons_self] at h
        omega
      rw [splF_hit c p r hp, Lib.splitK, if_neg (by rw [hi]; simp <;> omega), hi]
      have e1 : ((p.length : Int)).toNat = p.length := by omega
      rw [e1, Nat.add_zero, List.take_left', drop_aux p r c, splitK_all c k r hc]
      rfl
theorem splitK_len (c : UInt8) : ∀ (k : Nat) (l : List UInt8), k ≤ l.count c → (Lib.splitK [c] 0 k l).length = k + 1
  | 0, l, h => rfl
  | k + 1, l, h => by
    rcases splF_cases c l with hn | ⟨p, r, rfl, hp⟩
    · rw [List.count_eq_zero.2 (fun hx => hn c hx rfl)] at h
      omega
    · have hi := index_hit c p r hp
      have hc : k ≤ r.count c := by
        have h0 : p.count c = 0 := List.count_eq_zero.2 (fun hx => hp c hx rfl)
        rw [List.count_append, List.count_cons_self] at h
        omega
      rw [Lib.splitK, if_neg (by rw [hi]; simp <;> omega), hi, List.length_cons]
      have e1 : ((p.length : Int)).toNat = p.length := by omega
      rw [e1, drop_aux p r c, splitK_len c k r hc]

/-- a list of numbers as text -/
def lstF (l : List Int) : List UInt8 := if l = [] then [45] else Lib.join (l.map Lib.itoa) [44]
/-- are all numbers in bounds -/
def fitB (l : List Int) : Bool := l.all (fun n => decide (-1000000000000 ≤ n ∧ n ≤ 1000000000000)) && decide (l.length ≤ 64)
def listF (l : List Int) : List UInt8 := bif fitB l then lstF l else []

/-- all texts read as numbers -/
def numsF : List (List UInt8) → Option (List Int)
  | [] => some []
  | p :: ps => match numF p with | none => none | some n => (numsF ps).map (n :: ·)
theorem numsF_len : ∀ {ps : List (List UInt8)} {l : List Int}, numsF ps = some l → l.length = ps.length
  | [], l, h => by simp [numsF] at h; subst h; rfl
  | p :: ps, l, h => by
    unfold numsF at h
    cases hp : numF p with
    | none => rw [hp] at h; cases h
    | some n =>
      rw [hp] at h
      cases hq : numsF ps with
      | none => rw [hq] at h; cases h
      | some r =>
        rw [hq] at h
        simp at h
        subst h
        simp [numsF_len hq]
theorem numsF_itoa : ∀ {ps : List (List UInt8)} {l : List Int}, numsF ps = some l → l.map Lib.itoa = ps
  | [], l, h => by simp [numsF] at h; subst h; rfl
  | p :: ps, l, h => by
    unfold numsF at h
    cases hp : numF p with
    | none => rw [hp] at h; cases h
    | some n =>
      rw [hp] at h
      cases hq : numsF ps with
      | none => rw [hq] at h; cases h
      | some r =>
        rw [hq] at h
        simp at h
        subst h
        rw [List.map_cons, numF_itoa hp, numsF_itoa hq]
/-- the list with a text: the reference's way -/
def readF (s : List UInt8) : Option (List Int) :=
  if s = [45] then some [] else if 64 < (splF 44 s).length then none else
    match numsF (splF 44 s) with | none => none | some l => if l.all (fun n => decide (-1000000000000 ≤ n ∧ n ≤ 1000000000000)) = true then some l else none
/-- the program's way -/
def readG (s : List UInt8) : Option (List Int) :=
  if s = [45] then some [] else
    match numsF (Lib.splitN s [44] 65) with | none => none | some l => if listF l = s then some l else none
theorem nil_not (h : numF [] = none := by rfl) : numF [] = none := h
theorem readG_eq (s : List UInt8) : readG s = readF s := by
  unfold readG readF
  by_cases h0 : s = [45]
  · rw [if_pos h0, if_pos h0]
  · rw [if_neg h0, if_neg h0]
    by_cases hl : 64 < (splF 44 s).length
    · rw [if_pos hl]
      have hc := splF_count 44 s
      have hle := splF_le 44 s
      have hlen : (Lib.splitN s [44] 65).length = 65 := by
        unfold Lib.splitN
        rw [splitK_len 44 _ _ (by omega)]
        omega
      cases hn : numsF (Lib.splitN s [44] 65) with
      | none => rfl
      | some l =>
        have h65 := numsF_len hn
        have hf : fitB l = false := by
          unfold fitB
          rw [decide_eq_false (by omega), Bool.and_false]
        have hlf : listF l = [] := by unfold listF; rw [hf]; rfl
        simp only
        rw [hlf, if_neg]
        intro e
        subst e
        simp [splF] at hl
    · rw [if_neg hl]
      have hc := splF_count 44 s
      have hs : Lib.splitN s [44] 65 = splF 44 s := by
        unfold Lib.splitN
        have hcl := List.count_le_length (a := (44 : UInt8)) (l := s)
        exact splitK_all 44 _ _ (by omega)
      rw [hs]
      cases hn : numsF (splF 44 s) with
      | none => rfl
      | some l =>
        simp only
        have hlen := numsF_len hn
        have hit := numsF_itoa hn
        have hne : l ≠ [] := by
          intro e
          subst e
          have := splF_len_pos 44 s
          simp at hlen
          omega
        have hj : lstF l = s := by
          unfold lstF
          rw [if_neg hne, hit, splF_join]
        by_cases ha : l.all (fun n => decide (-1000000000000 ≤ n ∧ n ≤ 1000000000000)) = true
        · have hf : fitB l = true := by
            unfold fitB
            rw [ha, decide_eq_true (by omega)]
            rfl
          have : listF l = s := by unfold listF; rw [hf]; exact hj
          rw [if_pos this, if_pos ha]
        · have hf : fitB l = false := by
            unfold fitB
            cases hb : l.all (fun n => decide (-1000000000000 ≤ n ∧ n ≤ 1000000000000))
            · rfl
            · exact absurd hb ha
          have hlf : listF l = [] := by unfold listF; rw [hf]; rfl
          rw [hlf, if_neg ha, if_neg]
          intro e
          subst e
          have : numsF (splF 44 []) = none := by rfl
          rw [this] at hn
          cases hn

end Go.Proofs.YtbggickeomeidaaDoor.PlainSp
