/- Slices of points: what may be read of one, what one owns. No program in sight (but for the number of the element's type). -/
import Derived.Test.YtbggickeomeidaaCells
namespace Go.Proofs.Ytbggickeomeidaa.Pts
open Go Go.RowKit Go.Proofs.Ytbggickeomeidaa.Base Go.Proofs.Ytbggickeomeidaa.Words Go.Proofs.Ytbggickeomeidaa.Ints Go.Proofs.Ytbggickeomeidaa.WalkP Go.Proofs.Ytbggickeomeidaa.Cells
set_option linter.unusedVariables false

abbrev PT := Int × Int
/-- points as cells -/
def ptc : List PT → List Value
  | [] => []
  | p :: ps => .int .i64 p.1 :: .int .i64 p.2 :: ptc ps
def at0 (ps : List PT) (k : Nat) : Int := (ps.getD k (0, 0)).1
def at1 (ps : List PT) (k : Nat) : Int := (ps.getD k (0, 0)).2
theorem ptc_len : ∀ ps : List PT, (ptc ps).length = ps.length * 2
  | [] => rfl
  | p :: ps => by simp [ptc, ptc_len ps, Nat.add_mul]
theorem ptc_app : ∀ a b : List PT, ptc (a ++ b) = ptc a ++ ptc b
  | [], b => rfl
  | p :: a, b => by simp [ptc, ptc_app a b]
theorem ptc_0 : ∀ (ps : List PT) (k : Nat), k < ps.length → (ptc ps)[k * 2]? = some (.int .i64 (at0 ps k))
  | [], k, h => absurd h (by simp)
  | p :: ps, 0, _ => rfl
  | p :: ps, k + 1, h => by
    rw [Nat.add_mul, Nat.one_mul]
    show (ptc ps)[k * 2]? = _
    rw [ptc_0 ps k (by simpa using h)]
    rfl
theorem ptc_1 : ∀ (ps : List PT) (k : Nat), k < ps.length → (ptc ps)[k * 2 + 1]? = some (.int .i64 (at1 ps k))
  | [], k, h => absurd h (by simp)
  | p :: ps, 0, _ => rfl
  | p :: ps, k + 1, h => by
    rw [Nat.add_mul, Nat.one_mul]
    show (ptc ps)[k * 2 + 1]? = _
    rw [ptc_1 ps k (by simpa using h)]
    rfl
theorem ptc_one (ps : List PT) : ∀ u ∈ ptc ps, u.oneCell' = true := by
  induction ps with
  | nil => intro u hu; cases hu
  | cons p ps ih =>
    intro u hu
    simp only [ptc, List.mem_cons] at hu
    rcases hu with rfl | rfl | hu
    · rfl
    · rfl
    · exact ih u hu

/-- the slice value .slice A n c reads as the points ps -/
def Rp (w : World) (A : Option Addr) (n : Nat) (ps : List PT) : Prop :=
  ps.length = n ∧ (0 < n → ∃ ad, A = some ad ∧ ∀ k, k < n → w.cell? (ad.add (k * 2)) = some (.int .i64 (at0 ps k)) ∧ w.cell? (ad.add (k * 2 + 1)) = some (.int .i64 (at1 ps k)))
section
variable {w w1 : World} {A : Option Addr} {n c lo : Nat} {ps : List PT}
theorem Rp.len (h : Rp w A n ps) : ps.length = n := h.1
theorem add_add (ad : Addr) (i j : Nat) : (ad.add i).add j = ad.add (i + j) := by
  unfold Addr.add
  by_cases h1 : i = 0 <;> by_cases h2 : j = 0 <;> simp [h1, h2, Nat.add_assoc]
theorem Rp.at_ {k : Nat} (h : Rp w A n ps) (hk : k < n) : ∃ ad, A = some ad ∧ w.cell? (ad.add (k * 2)) = some (.int .i64 (at0 ps k)) ∧ w.cell? ⟨(ad.add (k * 2)).block, (ad.add (k * 2)).off + 1, none⟩ = some (.int .i64 (at1 ps k)) := by
  obtain ⟨ad, hA, hc⟩ := h.2 (by omega)
  refine ⟨ad, hA, (hc k hk).1, ?_⟩
  have e : (⟨(ad.add (k * 2)).block, (ad.add (k * 2)).off + 1, none⟩ : Addr) = (ad.add (k * 2)).add 1 := by simp [Addr.add]
  rw [e, add_add]
  exact (hc k hk).2
theorem Rp.keep (h : Rp w A n ps) (hk : ∀ (a : Addr) (v : Value), w.cell? a = some v → w1.cell? a = some v) : Rp w1 A n ps :=
  ⟨h.1, fun hn => by
    obtain ⟨ad, hA, hc⟩ := h.2 hn
    exact ⟨ad, hA, fun k hkn => ⟨hk _ _ (hc k hkn).1, hk _ _ (hc k hkn).2⟩⟩⟩
theorem Rp.below (hb : Below w.heap.size w w1) (h : Rp w A n ps) : Rp w1 A n ps := h.keep fun _ _ hc => keep_below hb hc
theorem Rp.drew (h : Rp w A n ps) : Rp w.drew A n ps := h
theorem Rp.drewN (h : Rp w A n ps) (k : Nat) : Rp (w.drewN k) A n ps := h
theorem Rp.alloc (h : Rp w A n ps) (o : Obj) : Rp (w.alloc o) A n ps := h.keep fun _ _ hc => keep_alloc o hc
theorem Rp.nil (w : World) (A : Option Addr) : Rp w A 0 [] := ⟨rfl, fun h => absurd h (by omega)⟩

/-- .slice A n c is a row of points of its own, in a block from lo on -/
def OwP (w : World) (lo : Nat) (A : Option Addr) (n c : Nat) (ps : List PT) : Prop := ps.length = n ∧ Orw w 30 2 lo A n c (ptc ps)
theorem OwP.rd (h : OwP w lo A n c ps) : Rp w A n ps := by
  refine ⟨h.1, fun hn => ?_⟩
  obtain ⟨g, hA, _⟩ := h.2.at_ (j := 0) (by omega)
  subst hA
  refine ⟨_, rfl, fun k hk => ?_⟩
  rw [Addr.add_lit, Addr.add_lit, Nat.zero_add, Nat.zero_add, h.2.cell (by omega), h.2.cell (by omega)]
  exact ⟨ptc_0 ps k (by rw [h.1]; exact hk), ptc_1 ps k (by rw [h.1]; exact hk)⟩
theorem OwP.below (hb : Below w.heap.size w w1) (h : OwP w lo A n c ps) : OwP w1 lo A n c ps := ⟨h.1, Orw.below hb h.2⟩
theorem OwP.nil (w : World) (lo : Nat) : OwP w lo none 0 0 [] := ⟨rfl, Orw.nil _ _ _ _⟩
theorem OwP.lower {lo' : Nat} (h : OwP w lo A n c ps) (hl : lo' ≤ lo) : OwP w lo' A n c ps := ⟨h.1, h.2.lower hl⟩
theorem OwP.block (h : OwP w lo A n c ps) {a : Addr} (ha : A = some a) : lo ≤ a.block ∧ a.block < w.heap.size := h.2.block ha
theorem OwP.gr {B : Option Addr} (h : OwP w lo A n c ps) (hg : Gr w w1 B) (ha : Ap A B) : OwP w1 lo A n c ps := ⟨h.1, h.2.gr hg ha⟩
theorem OwP.drew (h : OwP w lo A n c ps) : OwP w.drew lo A n c ps := h
theorem OwP.alloc (h : OwP w lo A n c ps) (o : Obj) : OwP (w.alloc o) lo A n c ps := ⟨h.1, h.2.alloc o⟩
theorem OwP.far {b i : Nat} (h : OwP w lo A n c ps) (u : Value) (hb : ∀ a, A = some a → a.block ≠ b) : OwP (w.setCell ⟨b, i, none⟩ u) lo A n c ps := ⟨h.1, h.2.far u hb⟩
/-- a block whose cells are the points ps -/
theorem OwP.of_cells {g : Nat} {cs : Array Value} (hlo : lo ≤ g) (hb : Blk w g 30 cs) (hs : cs.size = c * 2) (hnc : n ≤ c) (hc : ∀ j, j < n → cs[j * 2]? = some (.int .i64 (at0 ps j)) ∧ cs[j * 2 + 1]? = some (.int .i64 (at1 ps j))) (hl : ps.length = n) (hm : c ≤ maxLen) : OwP w lo (some ⟨g, 0, none⟩) n c ps := by
  refine ⟨hl, Orw.mk hlo hb hnc hm hs ?_ (by rw [ptc_len, hl])⟩
  apply List.ext_getElem?
  intro j
  by_cases hj : j < n * 2
  · rw [List.getElem?_take, if_pos hj, Array.getElem?_toList]
    rcases Nat.mod_two_eq_zero_or_one j with h0 | h1
    · obtain ⟨k, rfl⟩ : ∃ k, j = k * 2 := ⟨j / 2, by omega⟩
      rw [(hc k (by omega)).1, ptc_0 ps k (by omega)]
    · obtain ⟨k, rfl⟩ : ∃ k, j = k * 2 + 1 := ⟨j / 2, by omega⟩
      rw [(hc k (by omega)).2, ptc_1 ps k (by omega)]
  · rw [List.getElem?_eq_none (by simp; omega), List.getElem?_eq_none (by rw [ptc_len, hl]; omega)]
theorem OwP.form (h : OwP w lo A n c ps) : (A = none ∧ n = 0 ∧ c = 0 ∧ ps = []) ∨ ∃ g cs, A = some ⟨g, 0, none⟩ ∧ lo ≤ g ∧ Blk w g 30 cs ∧ n ≤ c ∧ c ≤ maxLen ∧ cs.size = c * 2 ∧ ∀ j, j < n → cs[j * 2]? = some (.int .i64 (at0 ps j)) ∧ cs[j * 2 + 1]? = some (.int .i64 (at1 ps j)) := by
  have hl := h.1
  rcases h.2.form with ⟨h1, h2, h3, h4⟩ | ⟨g, cs, h1, h2, h3, h4, h5, h6, h7⟩
  · refine .inl ⟨h1, h2, h3, List.eq_nil_of_length_eq_zero (by omega)⟩
  · refine .inr ⟨g, cs, h1, h2, h3, h4, h5, h6, fun j hj => ⟨?_, ?_⟩⟩
    · have e := ptc_0 ps j (by omega)
      rw [← h7, List.getElem?_take, if_pos (by omega), Array.getElem?_toList] at e
      exact e
    · have e := ptc_1 ps j (by omega)
      rw [← h7, List.getElem?_take, if_pos (by omega), Array.getElem?_toList] at e
      exact e
end

/-- numbers m, m + 1, .. as points -/
def upP (m : Int) (n : Nat) : List PT := (List.range n).map fun j : Nat => (m + 2 * (j : Int), m + 2 * (j : Int) + 1)
theorem upP_len (m : Int) (n : Nat) : (upP m n).length = n := by simp [upP]
theorem upP_0 {m : Int} {n j : Nat} (h : j < n) : at0 (upP m n) j = m + 2 * (j : Int) := by simp [upP, at0, h]
theorem upP_1 {m : Int} {n j : Nat} (h : j < n) : at1 (upP m n) j = m + 2 * (j : Int) + 1 := by simp [upP, at1, h]

end Go.Proofs.Ytbggickeomeidaa.Pts
