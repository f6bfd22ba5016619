/- Plain laws on strings of bytes: no program in sight. -/
import Derived.IntWalk
import Derived.WalkArith
import Derived.Test.YtgondkjephojjaaBase
namespace Go.Proofs.Ytgondkjephojjaa.PlainS
open Go Go.Proofs.Ytgondkjephojjaa.Base

/-- a small letter or a digit -/
def nb (c : UInt8) : Bool := inB c.toNat 97 122 || inB c.toNat 48 57
/-- a name: 1 to 10 small letters or digits, a letter first -/
def nameB (l : List UInt8) : Bool := !l.isEmpty && decide (l.length ≤ 10) && inB (l.headD 0).toNat 97 122 && l.all nb
theorem take_snoc (s : ByteArray) (k : Nat) (h : k < s.size) : s.data.toList.take (k + 1) = s.data.toList.take k ++ [s[k]] := by
  rw [List.take_succ_eq_append_getElem (by simpa using h)]; rfl
theorem take_all (s : ByteArray) : s.data.toList.take s.size = s.data.toList := List.take_of_length_le (by simp)
theorem all_next (s : ByteArray) (k : Nat) (h : k < s.size) (p : UInt8 → Bool) (h1 : (s.data.toList.take k).all p = true) (h2 : p s[k] = true) : (s.data.toList.take (k + 1)).all p = true := by
  rw [take_snoc s k h, List.all_append, h1]; simp [h2]
theorem all_stop (s : ByteArray) (k : Nat) (h : k < s.size) (p : UInt8 → Bool) (h2 : p s[k] = false) : s.data.toList.all p = false := by
  apply Bool.eq_false_iff.2
  intro hall
  have := List.all_eq_true.1 hall s[k] (by
    show s.data[k] ∈ s.data.toList
    exact Array.getElem_mem_toList _)
  rw [h2] at this
  cases this
theorem nameB_empty (s : ByteArray) (h : s.size = 0) : nameB s.data.toList = false := by
  have : s.data.toList = [] := List.eq_nil_of_length_eq_zero (by simpa using h)
  rw [this]; rfl
theorem nameB_long (s : ByteArray) (h : 10 < s.size) : nameB s.data.toList = false := by
  have : ¬ s.data.toList.length ≤ 10 := by simp; exact h
  unfold nameB
  simp only [decide_eq_false this, Bool.and_false, Bool.false_and]
theorem head_eq (s : ByteArray) (h : 0 < s.size) : s.data.toList.headD 0 = s[0] := by
  rcases s with ⟨⟨l⟩⟩
  cases l with
  | nil => simp [ByteArray.size] at h
  | cons a l => rfl
theorem nameB_first (s : ByteArray) (h : 0 < s.size) (h1 : inB s[0].toNat 97 122 = false) : nameB s.data.toList = false := by
  unfold nameB
  rw [head_eq s h, h1]
  simp
theorem nameB_all (s : ByteArray) (h : 0 < s.size) (h2 : s.size ≤ 10) (h1 : inB s[0].toNat 97 122 = true) : nameB s.data.toList = s.data.toList.all nb := by
  unfold nameB
  rw [head_eq s h, h1]
  have e1 : s.data.toList.length ≤ 10 := by simpa using h2
  have e2 : s.data.toList.isEmpty = false := by
    rw [List.isEmpty_eq_false_iff]
    intro e
    have := congrArg List.length e
    simp at this
    have h' : s.data.size = 0 := by rw [this]; rfl
    have : s.size = s.data.size := rfl
    omega
  rw [e2, decide_eq_true e1]
  rfl

/-- all bytes of a text are small letters or digits -/
def bytesB (s : ByteArray) : Bool := s.data.toList.all nb
theorem bytesB_stop (s : ByteArray) (k : Nat) (h : k < s.size) (h2 : nb s[k] = false) : bytesB s = false := all_stop s k h nb h2
theorem bytesB_end (s : ByteArray) (h : (s.data.toList.take s.size).all nb = true) : bytesB s = true := by
  unfold bytesB
  rw [take_all] at h
  exact h

end Go.Proofs.Ytgondkjephojjaa.PlainS
