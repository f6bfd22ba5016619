/- Lists read: plain laws. -/
import Derived.Test.YtbggickeomeidaaDoorPlainSp
import Derived.Test.YtbggickeomeidaaDoorPlainT
namespace Go.Proofs.YtbggickeomeidaaDoor.PlainSq
open Go Go.RowKit Go.Proofs.YtbggickeomeidaaDoor.Plain Go.Proofs.YtbggickeomeidaaDoor.PlainT Go.Proofs.YtbggickeomeidaaDoor.PlainTx Go.Proofs.YtbggickeomeidaaDoor.PlainSp
set_option linter.unusedVariables false
set_option linter.unusedSimpArgs false

theorem numsF_snoc : ∀ (a : List (List UInt8)) (p : List UInt8) (l : List Int) (n : Int), numsF a = some l → numF p = some n → numsF (a ++ [p]) = some (l ++ [n])
  | [], p, l, n, h, hp => by
    simp [numsF] at h
    subst h
    simp [numsF, hp]
  | q :: a, p, l, n, h, hp => by
    rw [List.cons_append]
    unfold numsF at h ⊢
    cases hq : numF q with
    | none => rw [hq] at h; cases h
    | some m =>
      rw [hq] at h
      simp only at h ⊢
      cases ha : numsF a with
      | none => rw [ha] at h; cases h
      | some l' =>
        rw [ha] at h
        simp only [Option.map_some, Option.some.injEq] at h
        subst h
        rw [numsF_snoc a p l' n ha hp]
        rfl
theorem numsF_stop : ∀ (ps : List (List UInt8)) (k : Nat), k < ps.length → numF (ps.getD k []) = none → numsF ps = none
  | [], k, h, _ => absurd h (by simp)
  | q :: a, 0, h, hp => by
    unfold numsF
    rw [show (q :: a).getD 0 [] = q from rfl] at hp
    rw [hp]
  | q :: a, k + 1, h, hp => by
    unfold numsF
    cases hq : numF q with
    | none => rfl
    | some m =>
      simp only
      rw [numsF_stop a k (by simpa using h) (by simpa using hp)]
      rfl
theorem numsF_at : ∀ (ps : List (List UInt8)) (k : Nat) (l : List Int) (n : Int), k < ps.length → numsF ps = some l → numF (ps.getD k []) = some n → n ∈ l
  | [], k, _, _, h, _, _ => absurd h (by simp)
  | q :: a, k, l, n, h, hl, hp => by
    unfold numsF at hl
    cases hq : numF q with
    | none => rw [hq] at hl; cases hl
    | some m =>
      rw [hq] at hl
      simp only at hl
      cases ha : numsF a with
      | none => rw [ha] at hl; cases hl
      | some l' =>
        rw [ha] at hl
        simp only [Option.map_some, Option.some.injEq] at hl
        subst hl
        cases k with
        | zero =>
          rw [show (q :: a).getD 0 [] = q from rfl, hq] at hp
          injection hp with hp
          simp [hp]
        | succ k => exact List.mem_cons_of_mem _ (numsF_at a k l' n (by simpa using h) ha (by simpa using hp))
theorem take_snocL {ps : List (List UInt8)} {k : Nat} (h : k < ps.length) : ps.take (k + 1) = ps.take k ++ [ps.getD k []] := by
  rw [List.take_succ_eq_append_getElem h]
  simp [List.getD, List.getElem?_eq_getElem h]
/-- a number within the bounds of a list -/
def big (n : Int) : Bool := decide (-1000000000000 ≤ n ∧ n ≤ 1000000000000)
theorem readF_long {s : List UInt8} (h0 : s ≠ [45]) (h : 64 < (splF 44 s).length) : readF s = none := by
  unfold readF
  rw [if_neg h0, if_pos h]
theorem readF_not {s : List UInt8} (h0 : s ≠ [45]) (h : ∀ l, numsF (splF 44 s) = some l → l.all big = false) : readF s = none := by
  unfold readF
  rw [if_neg h0]
  split
  · rfl
  · cases hn : numsF (splF 44 s) with
    | none => rfl
    | some l =>
      simp only
      rw [if_neg]
      have := h l hn
      intro e
      rw [show l.all big = true from e] at this
      cases this
theorem readF_some {s : List UInt8} {l : List Int} (h0 : s ≠ [45]) (hl : (splF 44 s).length ≤ 64) (h : numsF (splF 44 s) = some l) (hb : l.all big = true) : readF s = some l := by
  unfold readF
  rw [if_neg h0, if_neg (by omega), h]
  simp only
  exact if_pos hb
theorem readF_dash : readF [45] = some [] := rfl
theorem all_big_not {l : List Int} {n : Int} (h : n ∈ l) (hb : big n = false) : l.all big = false := by
  cases e : l.all big
  · rfl
  · rw [List.all_eq_true.1 e n h] at hb
    cases hb
theorem readG_not {s : List UInt8} (h0 : s ≠ [45]) (h : numsF (Lib.splitN s [44] 65) = none) : readF s = none := by
  rw [← readG_eq]
  unfold readG
  rw [if_neg h0, h]
theorem readG_some {s : List UInt8} {l : List Int} (h0 : s ≠ [45]) (h : numsF (Lib.splitN s [44] 65) = some l) : readF s = if listF l = s then some l else none := by
  rw [← readG_eq]
  unfold readG
  rw [if_neg h0, h]

end Go.Proofs.YtbggickeomeidaaDoor.PlainSq
