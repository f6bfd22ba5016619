/- Levels read: the program's way. -/
import Derived.Test.YtemjjjjkokfjdaaDoorPlainRb
import Derived.Test.YtemjjjjkokfjdaaDoorWalkRI
import Derived.Test.YtemjjjjkokfjdaaDoorShelfC
namespace Go.Proofs.YtemjjjjkokfjdaaDoor.WalkRb
open Go Go.RowKit Go.Proofs.YtemjjjjkokfjdaaDoor.Base Go.Proofs.YtemjjjjkokfjdaaDoor.Plain Go.Proofs.YtemjjjjkokfjdaaDoor.PlainTx Go.Proofs.YtemjjjjkokfjdaaDoor.WalkN Go.Proofs.YtemjjjjkokfjdaaDoor.WalkP Go.Proofs.YtemjjjjkokfjdaaDoor.Text Go.Proofs.YtemjjjjkokfjdaaDoor.WalkRD Go.Proofs.YtemjjjjkokfjdaaDoor.WalkRI Go.Proofs.YtemjjjjkokfjdaaDoor.WalkTx Go.Proofs.YtemjjjjkokfjdaaDoor.PlainRb
set_option linter.unusedVariables false
set_option linter.unusedSimpArgs false

/-- what the search for a text asks of the world besides -/
structure Env2 (w : World) : Prop where
  env : Env w
  mx : ∃ m, w.cell? ⟨0, 0, none⟩ = some (.int .i64 m)
theorem Env2.below {w w1 : World} (hb : Below w.heap.size w w1) (h : Env2 w) : Env2 w1 :=
  ⟨h.env.below hb, h.mx.imp fun m hm => (hb.cell (World.block_lt_of_cell? w _ hm)).trans hm⟩

/-- the two parts of a text at its first point -/
def cA (s : ByteArray) : ByteArray := ⟨(Lib.cut s.data.toList [46]).1.toArray⟩
def cB (s : ByteArray) : ByteArray := ⟨(Lib.cut s.data.toList [46]).2.1.toArray⟩
theorem cA_size (s : ByteArray) : (cA s).size ≤ s.size := by
  have := (cut_len s.data.toList [46]).1
  rw [Lib.size_eq, Lib.size_eq]
  exact this
theorem cB_size (s : ByteArray) : (cB s).size ≤ s.size := by
  have := (cut_len s.data.toList [46]).2
  rw [Lib.size_eq, Lib.size_eq]
  exact this
theorem dS_le (s : ByteArray) : (dS s).size ≤ s.size := by
  rw [Lib.size_eq, Lib.size_eq]
  show (digF s.data.toList).length ≤ _
  unfold digF
  split
  · simp
  · exact Nat.le_refl _
theorem cutDot (s : ByteArray) (w : World) (hs : s.size ≤ 1048576) (hE : Env2 w) :
    Calls Tryd.prog 22 #[.string s, .string ⟨#[46]⟩] w fun e w' => ∃ b, e = .returned (.tuple #[.string (cA s), .string (cB s), .bool b]) ∧ Below w.heap.size w w' := by
  obtain ⟨m, hm⟩ := hE.mx
  exact (Tryd.strings_Cut s ⟨#[46]⟩ m w (by omega) hm).mono fun e w' ⟨h, n, hw⟩ => ⟨_, h, by subst hw; exact below_drewN (Below.refl _ _) n⟩
/-- does the text begin with a minus -/
def mns (s : ByteArray) : Bool := Lib.hasPrefix s.data.toList [45]
theorem mns_yes {s : ByteArray} {r : List UInt8} (h : s.data.toList = 45 :: r) : mns s = true := by
  unfold mns Lib.hasPrefix
  rw [h]
  rfl
theorem mns_no {s : ByteArray} (h : ¬ s.data.toList.head? = some 45) : mns s = false := by
  unfold mns Lib.hasPrefix
  cases hl : s.data.toList with
  | nil => rfl
  | cons c r =>
    rw [hl] at h
    have h' : ¬ (45 : UInt8) = c := fun e => h (by rw [e]; rfl)
    simp [List.isPrefixOf, h']
theorem byte_at (s : ByteArray) {k : Nat} (h : k < s.size) : s.data.toList[k]? = some s[k] := by
  rw [Array.getElem?_toList]
  exact Array.getElem?_eq_getElem h
theorem stF_next (n : Int) (s : ByteArray) {k : Nat} (h : k < s.size) : stF n (s.data.toList.take (k + 1)) = stp (stF n (s.data.toList.take k)) s[k] := by
  have hk : k < s.data.toList.length := by rw [← Lib.size_eq]; exact h
  have hg : s.data.toList[k] = s[k] := by
    have := byte_at s h
    rw [List.getElem?_eq_getElem hk] at this
    injection this
  rw [List.take_succ_eq_append_getElem hk, hg]
  unfold stF
  rw [List.foldl_append, List.foldl_cons, List.foldl_nil]
theorem whole_num {s : ByteArray} (h : IsLv s) : ∃ q D, cA (dS s) = ⟨(Lib.decDigits q).toArray⟩ ∧ cB (dS s) = ⟨(D : List UInt8).toArray⟩ ∧ D.length = 3 ∧ D.all isD = true ∧ q ≤ 300 ∧
    dbR (if mns s then -(1000 * (q : Int) + (valA 0 D : Int)) else 1000 * (q : Int) + (valA 0 D : Int)) = s := by
  obtain ⟨v, hv, e⟩ := h
  obtain ⟨q, D, hd, hl, ha, hq, c⟩ := lv_parts hv e
  have hc : Lib.cut (dS s).data.toList [46] = (Lib.decDigits q, D, true) := by
    show Lib.cut (digF s.data.toList) [46] = _
    rw [hd]
    exact cut_dot (dec_all q)
  refine ⟨q, D, by unfold cA; rw [hc], by unfold cB; rw [hc], hl, ha, hq, ?_⟩
  rw [← e]
  rcases c with ⟨_, hv2, hs⟩ | ⟨_, hv2, hs⟩
  · rw [e, mns_yes hs, if_pos rfl, ← hv2, dbR_yes hv, e]
  · have hm : mns s = false := mns_no (by rw [hs]; exact dec_no45 q _)
    rw [e, hm, if_neg (by simp), ← hv2, dbR_yes hv, e]

end Go.Proofs.YtemjjjjkokfjdaaDoor.WalkRb
