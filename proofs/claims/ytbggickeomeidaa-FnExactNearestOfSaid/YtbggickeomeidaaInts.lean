/- Slices of numbers: what may be read of one, what one owns, and how both are kept. No program in sight (but for the number of the element's type). -/
import Derived.Test.YtbggickeomeidaaWords
import Derived.Test.YtbggickeomeidaaWalkP
import Derived.Laws.AppendOwn
import Derived.Laws.MakeOwn
import Derived.Deep.OwnRows
namespace Go.Proofs.Ytbggickeomeidaa.Ints
open Go Go.RowKit Go.Proofs.Ytbggickeomeidaa.Base Go.Proofs.Ytbggickeomeidaa.Words Go.Proofs.Ytbggickeomeidaa.WalkP

def vals (zs : List Int) : List Value := zs.map (Value.int .i64)
theorem vals_len (zs : List Int) : (vals zs).length = zs.length := by simp [vals]
theorem vals_get {zs : List Int} {k : Nat} (h : k < zs.length) : (vals zs)[k]? = some (.int .i64 (zs.getD k 0)) := by
  simp [vals, h]

/-- the slice value .slice A n c reads as the numbers zs -/
def Rd (w : World) (A : Option Addr) (n : Nat) (zs : List Int) : Prop :=
  zs.length = n ∧ (0 < n → ∃ ad, A = some ad ∧ ∀ k, k < n → w.cell? (ad.add k) = some (.int .i64 (zs.getD k 0)))

section
variable {w w1 : World} {A : Option Addr} {n c lo : Nat} {zs : List Int}
theorem Rd.len (h : Rd w A n zs) : zs.length = n := h.1
theorem Rd.at_ {k : Nat} (h : Rd w A n zs) (hk : k < n) : ∃ ad, A = some ad ∧ w.cell? (ad.add k) = some (.int .i64 (zs.getD k 0)) := by
  obtain ⟨ad, hA, hc⟩ := h.2 (by omega)
  exact ⟨ad, hA, hc k hk⟩
theorem Rd.keep (h : Rd w A n zs) (hk : ∀ (a : Addr) (v : Value), w.cell? a = some v → w1.cell? a = some v) : Rd w1 A n zs :=
  ⟨h.1, fun hn => by
    obtain ⟨ad, hA, hc⟩ := h.2 hn
    exact ⟨ad, hA, fun k hkn => hk _ _ (hc k hkn)⟩⟩
theorem Rd.below (hb : Below w.heap.size w w1) (h : Rd w A n zs) : Rd w1 A n zs := h.keep fun _ _ hc => keep_below hb hc
theorem Rd.drew (h : Rd w A n zs) : Rd w.drew A n zs := h
theorem Rd.drewN (h : Rd w A n zs) (k : Nat) : Rd (w.drewN k) A n zs := h
theorem Rd.alloc (h : Rd w A n zs) (o : Obj) : Rd (w.alloc o) A n zs := h.keep fun _ _ hc => keep_alloc o hc
theorem Rd.nil (w : World) (A : Option Addr) : Rd w A 0 [] := ⟨rfl, fun h => absurd h (by omega)⟩

/-- the slice value .slice A n c is a row of its own, in a block from lo on, and reads as zs -/
def Ow (w : World) (lo : Nat) (A : Option Addr) (n c : Nat) (zs : List Int) : Prop := w.ownsRow lo 2 1 (.slice A n c) n (vals zs)

theorem Ow.len (h : Ow w lo A n c zs) : zs.length = n := by have := h.1; rw [vals_len] at this; omega
theorem Ow.nil (w : World) (lo : Nat) : Ow w lo none 0 0 [] := World.ownsRow_nil w lo _ 1
theorem Ow.form (h : Ow w lo A n c zs) : (A = none ∧ n = 0 ∧ c = 0 ∧ zs = []) ∨ ∃ g cs, A = some ⟨g, 0, none⟩ ∧ lo ≤ g ∧ Blk w g 2 cs ∧ n ≤ c ∧ c ≤ maxLen ∧ cs.size = c ∧ cs.toList.take n = vals zs := by
  have hl := h.len
  rcases h.2 with ⟨hv, hn⟩ | ⟨g, cap, cur, hv, hb, hg, h1, h2, h3, h4⟩
  · injection hv with e1 e2 e3
    exact .inl ⟨e1, e2, e3, List.eq_nil_of_length_eq_zero (by omega)⟩
  · injection hv with e1 e2 e3
    subst e3
    exact .inr ⟨g, cur, e1, hb, hg, h1, h2, by omega, by simpa using h4⟩
theorem Ow.mk {g : Nat} {cs : Array Value} (hlo : lo ≤ g) (hb : Blk w g 2 cs) (hn : n ≤ c) (hc : c ≤ maxLen) (hs : cs.size = c) (ht : cs.toList.take n = vals zs) (hl : zs.length = n) : Ow w lo (some ⟨g, 0, none⟩) n c zs :=
  ⟨by rw [vals_len]; omega, .inr ⟨g, c, cs, rfl, hlo, hb, hn, hc, by omega, by simpa using ht⟩⟩
theorem Ow.kept (h : Ow w lo A n c zs) (hk : ∀ g, A = some ⟨g, 0, none⟩ → w1.heap[g]? = w.heap[g]?) : Ow w1 lo A n c zs := by
  rcases h.form with ⟨rfl, rfl, rfl, rfl⟩ | ⟨g, cs, rfl, h1, h2, h3, h4, h5, h6⟩
  · exact Ow.nil _ _
  · exact Ow.mk h1 ((hk g rfl).trans h2) h3 h4 h5 h6 h.len
theorem Ow.lt {g o : Nat} (h : Ow w lo (some ⟨g, o, none⟩) n c zs) : lo ≤ g ∧ g < w.heap.size := by
  rcases h.form with ⟨h, _⟩ | ⟨g', cs, e, h1, h2, _⟩
  · cases h
  · injection e with e
    injection e with e1 e2
    subst e1
    exact ⟨h1, h2.lt⟩
theorem Ow.below (hb : Below w.heap.size w w1) (h : Ow w lo A n c zs) : Ow w1 lo A n c zs :=
  h.kept fun g hg => by subst hg; exact hb.block g h.lt.2
theorem Ow.drew (h : Ow w lo A n c zs) : Ow w.drew lo A n c zs := h
theorem Ow.drewN (h : Ow w lo A n c zs) (k : Nat) : Ow (w.drewN k) lo A n c zs := h
theorem Ow.alloc (h : Ow w lo A n c zs) (o : Obj) : Ow (w.alloc o) lo A n c zs :=
  h.kept fun g hg => by subst hg; exact Below.heap_alloc w o g h.lt.2
theorem Ow.far {b i : Nat} (h : Ow w lo A n c zs) (u : Value) (hb : ∀ g, A = some ⟨g, 0, none⟩ → g ≠ b) : Ow (w.setCell ⟨b, i, none⟩ u) lo A n c zs :=
  h.kept fun g hg => Below.heap_setCell w ⟨b, i, none⟩ u g (hb g hg)
theorem Ow.far' {g b i : Nat} (u : Value) (hb : g ≠ b) (h : Ow w lo (some ⟨g, 0, none⟩) n c zs) : Ow (w.setCell ⟨b, i, none⟩ u) lo (some ⟨g, 0, none⟩) n c zs :=
  h.far u fun g' e => by
    injection e with e
    injection e with e1 e2
    omega
theorem Ow.lower {lo' : Nat} (h : Ow w lo A n c zs) (hl : lo' ≤ lo) : Ow w lo' A n c zs := by
  rcases h.form with ⟨rfl, rfl, rfl, rfl⟩ | ⟨g, cs, rfl, h1, h2, h3, h4, h5, h6⟩
  · exact Ow.nil _ _
  · exact Ow.mk (by omega) h2 h3 h4 h5 h6 h.len
theorem take_get {cs : Array Value} {zs : List Int} {n k : Nat} (h : cs.toList.take n = vals zs) (hl : zs.length = n) (hk : k < n) : cs[k]? = some (.int .i64 (zs.getD k 0)) := by
  have h1 := vals_get (zs := zs) (k := k) (by omega)
  rw [← h, List.getElem?_take, if_pos hk] at h1
  simpa using h1
theorem Ow.rd (h : Ow w lo A n c zs) : Rd w A n zs := by
  rcases h.form with ⟨rfl, rfl, rfl, rfl⟩ | ⟨g, cs, rfl, h1, h2, h3, h4, h5, h6⟩
  · exact Rd.nil _ _
  · refine ⟨h.len, fun hn => ⟨_, rfl, fun k hk => ?_⟩⟩
    rw [Addr.add_lit, Nat.zero_add, h2.cell]
    exact take_get h6 h.len hk
/-- a block whose cells are the numbers zs -/
theorem Ow.of_blk {g : Nat} (hlo : lo ≤ g) (hb : Blk w g 2 (vals zs).toArray) (hl : zs.length = n) (hm : n ≤ maxLen) : Ow w lo (some ⟨g, 0, none⟩) n n zs :=
  Ow.mk hlo hb (Nat.le_refl _) hm (by simp [vals, hl]) (List.take_of_length_le (by simp [vals, hl])) hl
theorem Ow.of_cells {g : Nat} {cs : Array Value} (hlo : lo ≤ g) (hb : Blk w g 2 cs) (hs : cs.size = n) (hc : ∀ j, j < n → cs[j]? = some (.int .i64 (zs.getD j 0))) (hl : zs.length = n) (hm : n ≤ maxLen) : Ow w lo (some ⟨g, 0, none⟩) n n zs := by
  refine Ow.mk hlo hb (Nat.le_refl _) hm hs ?_ hl
  apply List.ext_getElem?
  intro j
  by_cases hj : j < n
  · rw [vals_get (by omega), List.getElem?_take, if_pos hj]
    simpa using hc j hj
  · rw [List.getElem?_eq_none (by simp; omega), List.getElem?_eq_none (by rw [vals_len]; omega)]
theorem Ow.blk_full {g : Nat} (h : Ow w lo (some ⟨g, 0, none⟩) n n zs) : Blk w g 2 (vals zs).toArray := by
  rcases h.form with ⟨h, _⟩ | ⟨g', cs, e, h1, h2, h3, h4, h5, h6⟩
  · cases h
  · injection e with e
    injection e with e1 e2
    subst e1
    rw [List.take_of_length_le (by simp [h5])] at h6
    rw [← h6]
    exact h2
end

theorem Ow.farx {w : World} {A : Option Addr} {n c lo b i : Nat} {zs : List Int} (u : Value) (hb : ∀ g, A = some ⟨g, 0, none⟩ → g ≠ b) (h : Ow w lo A n c zs) : Ow (w.setCell ⟨b, i, none⟩ u) lo A n c zs := h.far u hb
theorem Ow.low {w : World} {A : Option Addr} {n c lo b i : Nat} {zs : List Int} (u : Value) (hb : b < lo) (h : Ow w lo A n c zs) : Ow (w.setCell ⟨b, i, none⟩ u) lo A n c zs :=
  h.far u fun g e => by
    subst e
    have := h.lt
    omega
theorem ret_world {P : Program} {fn : Func} {R : Ending → World → Prop} {a : Act} {w : World} (h : ∀ W, W = w → bodyPost P fn R .ret a W) : bodyPost P fn R .ret a w := h w rfl

/-- no block in common -/
def Ap (A B : Option Addr) : Prop := ∀ a b, A = some a → B = some b → a.block ≠ b.block
theorem Ap.none_l (B : Option Addr) : Ap none B := fun _ _ h => by cases h
theorem Ap.symm {A B : Option Addr} (h : Ap A B) : Ap B A := fun a b h1 h2 e => h b a h2 h1 e.symm
theorem Ow.block {w : World} {A : Option Addr} {n c lo : Nat} {zs : List Int} (h : Ow w lo A n c zs) {a : Addr} (ha : A = some a) : lo ≤ a.block ∧ a.block < w.heap.size := by
  rcases h.form with ⟨h, _⟩ | ⟨g', cs, e, h1, h2, _⟩
  · rw [h] at ha
    cases ha
  · rw [e] at ha
    injection ha with ha
    subst ha
    exact ⟨h1, h2.lt⟩
theorem Ap.of_lt {w w1 : World} {A B : Option Addr} {lo lo1 n c n1 c1 : Nat} {zs zs1 : List Int} (h : Ow w lo A n c zs) (h1 : Ow w1 lo1 B n1 c1 zs1) (hl : w.heap.size ≤ lo1) : Ap A B := by
  intro a b ha hb
  have := h.block ha
  have := h1.block hb
  omega

/-- w1 is w but for A's block, and for what is new -/
def Gr (w w1 : World) (A : Option Addr) : Prop := w.grownBy w1 (A.map (·.block))
section
variable {w w1 w2 : World} {A B : Option Addr} {n c lo : Nat} {zs : List Int}
theorem Gr.refl (w : World) (A : Option Addr) : Gr w w A := ⟨rfl, rfl, rfl, Nat.le_refl _, fun _ _ _ => rfl⟩
theorem Gr.trans (h : Gr w w1 A) (k : Gr w1 w2 A) : Gr w w2 A :=
  ⟨k.os.trans h.os, k.tape.trans h.tape, k.output.trans h.output, Nat.le_trans h.size k.size, fun i hi hne => (k.block i (Nat.lt_of_lt_of_le hi h.size) hne).trans (h.block i hi hne)⟩
theorem Gr.drew (h : Gr w w1 A) : Gr w w1.drew A := ⟨h.os, h.tape, h.output, h.size, h.block⟩
theorem Gr.drewN (h : Gr w w1 A) (n : Nat) : Gr w (w1.drewN n) A := ⟨h.os, h.tape, h.output, h.size, h.block⟩
theorem Gr.alloc (h : Gr w w1 A) (o : Obj) : Gr w (w1.alloc o) A :=
  ⟨h.os, h.tape, h.output, Nat.le_trans h.size (by simp), fun i hi hne => (Below.heap_alloc w1 o i (Nat.lt_of_lt_of_le hi h.size)).trans (h.block i hi hne)⟩
theorem Gr.set {g o i : Nat} (h : Gr w w1 (some ⟨g, o, none⟩)) (u : Value) : Gr w (w1.setCell ⟨g, i, none⟩ u) (some ⟨g, o, none⟩) :=
  ⟨h.os, h.tape, h.output, by simpa [World.setCell] using h.size, fun k hk hne => (Below.heap_setCell w1 ⟨g, i, none⟩ u k (by rintro rfl; exact hne rfl)).trans (h.block k hk hne)⟩
theorem Gr.below {b : Nat} (h : Gr w w1 A) (hb : ∀ a, A = some a → b ≤ a.block) (hw : b ≤ w.heap.size) : Below b w w1 :=
  ⟨h.os, h.tape, h.output, h.size, fun k hk => h.block k (by omega) (by
    intro e
    rcases A with _ | a
    · cases e
    · injection e with e
      have h1 := hb a rfl
      have h2 : k = a.block := e
      omega)⟩
theorem Gr.of_below (hb : Below w.heap.size w w1) (A : Option Addr) : Gr w w1 A := ⟨hb.os, hb.tape, hb.output, hb.size, fun k hk _ => hb.block k hk⟩
theorem Ow.gr (h : Ow w lo A n c zs) (hg : Gr w w1 B) (ha : Ap A B) : Ow w1 lo A n c zs :=
  h.kept fun g e => hg.block g (h.block e).2 (by
    intro e2
    rcases B with _ | b
    · cases e2
    · injection e2 with e2
      exact ha _ b e rfl e2)
theorem keep_gr {a : Addr} {v : Value} (hg : Gr w w1 A) (hne : ∀ b, A = some b → b.block ≠ a.block) (h : w.cell? a = some v) : w1.cell? a = some v := by
  rw [World.cell?_of_block (hg.block a.block (World.block_lt_of_cell? _ _ h) (by
    intro e
    rcases A with _ | b
    · cases e
    · injection e with e
      exact hne b rfl e.symm))]
  exact h
end


/-- w1 is w but for the blocks of A and B, and for what is new -/
structure Gr2 (w w1 : World) (A B : Option Addr) : Prop where
  os : w1.os = w.os
  tape : w1.tape = w.tape
  output : w1.output = w.output
  size : w.heap.size ≤ w1.heap.size
  block : ∀ k, k < w.heap.size → (∀ a, A = some a → a.block ≠ k) → (∀ b, B = some b → b.block ≠ k) → w1.heap[k]? = w.heap[k]?
section
variable {w w1 w2 : World} {A B C : Option Addr} {n c lo : Nat} {zs : List Int}
theorem Gr2.refl (w : World) (A B : Option Addr) : Gr2 w w A B := ⟨rfl, rfl, rfl, Nat.le_refl _, fun _ _ _ _ => rfl⟩
theorem Gr2.alloc (h : Gr2 w w1 A B) (o : Obj) : Gr2 w (w1.alloc o) A B :=
  ⟨h.os, h.tape, h.output, Nat.le_trans h.size (by simp), fun i hi h1 h2 => (Below.heap_alloc w1 o i (Nat.lt_of_lt_of_le hi h.size)).trans (h.block i hi h1 h2)⟩
theorem Gr.block' {k : Nat} (g : Gr w w1 A) (hk : k < w.heap.size) (h1 : ∀ a, A = some a → a.block ≠ k) : w1.heap[k]? = w.heap[k]? :=
  g.block k hk (by
    intro e
    rcases A with _ | a
    · cases e
    · injection e with e
      exact h1 a rfl e.symm)
theorem Gr2.left (h : Gr2 w w1 A B) (g : Gr w1 w2 A) : Gr2 w w2 A B :=
  ⟨g.os.trans h.os, g.tape.trans h.tape, g.output.trans h.output, Nat.le_trans h.size g.size, fun i hi h1 h2 => (g.block' (Nat.lt_of_lt_of_le hi h.size) h1).trans (h.block i hi h1 h2)⟩
theorem Gr2.right (h : Gr2 w w1 A B) (g : Gr w1 w2 B) : Gr2 w w2 A B :=
  ⟨g.os.trans h.os, g.tape.trans h.tape, g.output.trans h.output, Nat.le_trans h.size g.size, fun i hi h1 h2 => (g.block' (Nat.lt_of_lt_of_le hi h.size) h2).trans (h.block i hi h1 h2)⟩
theorem Gr2.below {b : Nat} (h : Gr2 w w1 A B) (h1 : ∀ a, A = some a → b ≤ a.block) (h2 : ∀ a, B = some a → b ≤ a.block) (hw : b ≤ w.heap.size) : Below b w w1 :=
  ⟨h.os, h.tape, h.output, h.size, fun k hk => h.block k (by omega) (fun a e => by have := h1 a e; omega) (fun a e => by have := h2 a e; omega)⟩
theorem Ow.gr2 (h : Ow w lo C n c zs) (hg : Gr2 w w1 A B) (ha : Ap C A) (hb : Ap C B) : Ow w1 lo C n c zs :=
  h.kept fun g e => hg.block g (h.block e).2 (fun a ea => (ha _ a e ea).symm) (fun b eb => (hb _ b e eb).symm)
theorem keep_gr2 {a : Addr} {v : Value} (hg : Gr2 w w1 A B) (h1 : ∀ b, A = some b → b.block ≠ a.block) (h2 : ∀ b, B = some b → b.block ≠ a.block) (h : w.cell? a = some v) : w1.cell? a = some v := by
  rw [World.cell?_of_block (hg.block a.block (World.block_lt_of_cell? _ _ h) h1 h2)]
  exact h
end

end Go.Proofs.Ytbggickeomeidaa.Ints
