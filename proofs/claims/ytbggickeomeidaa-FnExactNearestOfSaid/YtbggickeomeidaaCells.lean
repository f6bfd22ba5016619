/- Rows of whatever elements that one owns: how they read, how they are kept. No program in sight. -/
import Derived.Test.YtbggickeomeidaaInts
import Derived.OwnWalk
import Derived.Laws.OwnMore
import Derived.Laws.MakeOwn
import Derived.Laws.Entries
namespace Go.Proofs.Ytbggickeomeidaa.Cells
open Go Go.RowKit Go.Proofs.Ytbggickeomeidaa.Base Go.Proofs.Ytbggickeomeidaa.Words Go.Proofs.Ytbggickeomeidaa.Ints Go.Proofs.Ytbggickeomeidaa.WalkP

/-- the slice value .slice A n c is a row of its own, of elements of type T with sz cells each, in a block from lo on, and its cells are xs -/
def Orw (w : World) (T : TypeId) (sz lo : Nat) (A : Option Addr) (n c : Nat) (xs : List Value) : Prop := w.ownsRow lo T sz (.slice A n c) n xs

section
variable {w w1 : World} {T : TypeId} {sz lo n c : Nat} {A B : Option Addr} {xs : List Value}
theorem Orw.len (h : Orw w T sz lo A n c xs) : xs.length = n * sz := h.1
theorem Orw.nil (w : World) (T : TypeId) (sz lo : Nat) : Orw w T sz lo none 0 0 [] := World.ownsRow_nil w lo T sz
theorem Orw.form (h : Orw w T sz lo A n c xs) : (A = none ∧ n = 0 ∧ c = 0 ∧ xs = []) ∨ ∃ g cs, A = some ⟨g, 0, none⟩ ∧ lo ≤ g ∧ Blk w g T cs ∧ n ≤ c ∧ c ≤ maxLen ∧ cs.size = c * sz ∧ cs.toList.take (n * sz) = xs := by
  have hl := h.len
  rcases h.2 with ⟨hv, hn⟩ | ⟨g, cap, cur, hv, hb, hg, h1, h2, h3, h4⟩
  · injection hv with e1 e2 e3
    exact .inl ⟨e1, e2, e3, List.eq_nil_of_length_eq_zero (by rw [hl, hn]; simp)⟩
  · injection hv with e1 e2 e3
    subst e3
    exact .inr ⟨g, cur, e1, hb, hg, h1, h2, h3, h4⟩
theorem Orw.mk {g : Nat} {cs : Array Value} (hlo : lo ≤ g) (hb : Blk w g T cs) (hn : n ≤ c) (hc : c ≤ maxLen) (hs : cs.size = c * sz) (ht : cs.toList.take (n * sz) = xs) (hl : xs.length = n * sz) : Orw w T sz lo (some ⟨g, 0, none⟩) n c xs :=
  ⟨hl, .inr ⟨g, c, cs, rfl, hlo, hb, hn, hc, hs, ht⟩⟩
theorem Orw.block (h : Orw w T sz lo A n c xs) {a : Addr} (ha : A = some a) : lo ≤ a.block ∧ a.block < w.heap.size := by
  rcases h.form with ⟨h, _⟩ | ⟨g', cs, e, h1, h2, _⟩
  · rw [h] at ha
    cases ha
  · rw [e] at ha
    injection ha with ha
    subst ha
    exact ⟨h1, h2.lt⟩
theorem Orw.kept (h : Orw w T sz lo A n c xs) (hk : ∀ g, A = some ⟨g, 0, none⟩ → w1.heap[g]? = w.heap[g]?) : Orw w1 T sz lo A n c xs := by
  rcases h.form with ⟨rfl, rfl, rfl, rfl⟩ | ⟨g, cs, rfl, h1, h2, h3, h4, h5, h6⟩
  · exact Orw.nil _ _ _ _
  · exact Orw.mk h1 ((hk g rfl).trans h2) h3 h4 h5 h6 h.len
theorem Orw.below (hb : Below w.heap.size w w1) (h : Orw w T sz lo A n c xs) : Orw w1 T sz lo A n c xs :=
  h.kept fun g hg => hb.block g (h.block hg).2
theorem Orw.drew (h : Orw w T sz lo A n c xs) : Orw w.drew T sz lo A n c xs := h
theorem Orw.drewN (h : Orw w T sz lo A n c xs) (k : Nat) : Orw (w.drewN k) T sz lo A n c xs := h
theorem Orw.alloc (h : Orw w T sz lo A n c xs) (o : Obj) : Orw (w.alloc o) T sz lo A n c xs :=
  h.kept fun g hg => Below.heap_alloc w o g (h.block hg).2
theorem Orw.far {b i : Nat} (h : Orw w T sz lo A n c xs) (u : Value) (hb : ∀ a, A = some a → a.block ≠ b) : Orw (w.setCell ⟨b, i, none⟩ u) T sz lo A n c xs :=
  h.kept fun g hg => Below.heap_setCell w ⟨b, i, none⟩ u g (hb _ hg)
theorem Orw.lower {lo' : Nat} (h : Orw w T sz lo A n c xs) (hl : lo' ≤ lo) : Orw w T sz lo' A n c xs := by
  rcases h.form with ⟨rfl, rfl, rfl, rfl⟩ | ⟨g, cs, rfl, h1, h2, h3, h4, h5, h6⟩
  · exact Orw.nil _ _ _ _
  · exact Orw.mk (by omega) h2 h3 h4 h5 h6 h.len
theorem Orw.gr (h : Orw w T sz lo A n c xs) (hg : Gr w w1 B) (ha : ∀ a b, A = some a → B = some b → a.block ≠ b.block) : Orw w1 T sz lo A n c xs :=
  h.kept fun g e => hg.block g (h.block e).2 (by
    intro e2
    rcases B with _ | b
    · cases e2
    · injection e2 with e2
      exact ha _ b e rfl e2)
theorem Orw.cell {g : Nat} (h : Orw w T sz lo (some ⟨g, 0, none⟩) n c xs) {j : Nat} (hj : j < n * sz) : w.cell? ⟨g, j, none⟩ = xs[j]? := World.ownsRow.cellAt h j hj
theorem Orw.free {g : Nat} (h : Orw w T sz lo (some ⟨g, 0, none⟩) n c xs) (j : Nat) : w.frozen? ⟨g, j, none⟩ = false := World.ownsRow.frozenAt h j
theorem Orw.cells {g : Nat} (h : Orw w T sz lo (some ⟨g, 0, none⟩) n c xs) : ∀ j u, xs[j]? = some u → w.cell? ((⟨g, 0, none⟩ : Addr).add j) = some u := World.ownsRow.cells h rfl
/-- an element of a row is there -/
theorem Orw.at_ (h : Orw w T sz lo A n c xs) {j : Nat} (hj : j < n * sz) : ∃ g, A = some ⟨g, 0, none⟩ ∧ lo ≤ g ∧ g < w.heap.size ∧ w.cell? ⟨g, j, none⟩ = xs[j]? ∧ w.frozen? ⟨g, j, none⟩ = false := by
  rcases h.form with ⟨rfl, rfl, rfl, rfl⟩ | ⟨g, cs, rfl, h1, h2, h3, h4, h5, h6⟩
  · simp at hj
  · exact ⟨g, rfl, h1, h2.lt, h.cell hj, h.free j⟩
theorem orw_form {v : Value} (h : w.ownsRow lo T sz v n xs) (h0 : 0 < n) : ∃ (B : Option Addr) (d : Nat), v = .slice B n d ∧ Orw w T sz lo B n d xs := by
  have h2 := h
  rcases h2.2 with ⟨_, hn⟩ | ⟨g, cap, cur, rfl, _⟩
  · omega
  · exact ⟨_, _, rfl, h⟩
theorem gr_of {q k : Nat} (h : w.grownBy w1 (Value.slice B k q).ownBlock) : Gr w w1 B := by
  cases B <;> exact h
theorem news_one (W : World) (v : Value) (t : TypeId) : ∀ j u, [v][j]? = some u → (W.alloc (.cells #[v] t)).cell? ((⟨W.heap.size, 0, none⟩ : Addr).add j) = some u := by
  intro j u hu
  rcases j with _ | j
  · simp at hu
    subst hu
    exact (Blk.new W t #[v] rfl).cell 0
  · simp at hu
end

theorem one_cell {v : Value} (h : v.oneCell' = true) : ∀ u ∈ [v], u.oneCell' = true := by
  intro u hu
  rw [List.mem_singleton.1 hu]
  exact h

theorem run_make_rowN {P : Program} (t e : TypeId) (i : TypeInfo) (z : Value) (ht : P.underlying t = some (.slice e)) (hi : P.info? e = some i) (hz : i.zero = some z)
    (kl kc : IntKind) (n c : Nat) (hnc : n ≤ c) (hbytes : i.bytes * c ≤ 281474976710656) (h63 : c ≤ 9223372036854775807) (w : World) :
    (Instr.makeSlice t (.int kl (n : Int)) (.int kc (c : Int))).run P w = .ok (.slice (some ⟨w.heap.size, 0, none⟩) n c) (w.alloc (.cells (madeCells z.cells (c * i.size)) e)) := by
  have hb : (i.bytes : Int) * (c : Int) ≤ 281474976710656 := by
    have h : ((i.bytes * c : Nat) : Int) ≤ 281474976710656 := by omega
    rwa [Int.natCast_mul] at h
  have hr := run_make (P := P) w t e i z ht hi hz kl kc n c (by omega) (by omega) hb (by omega)
  simp only [Int.toNat_natCast] at hr
  exact hr

/-- bytes as cells -/
def bts (l : List UInt8) : List Value := l.map fun c => .int .u8 (c.toNat : Int)
theorem bts_len (l : List UInt8) : (bts l).length = l.length := by simp [bts]
theorem bts_app (l m : List UInt8) : bts (l ++ m) = bts l ++ bts m := by simp [bts]
theorem bts_get {l : List UInt8} {j : Nat} (h : j < l.length) : (bts l)[j]? = some (.int .u8 (l[j].toNat : Int)) := by simp [bts, h]
theorem bts_one {l : List UInt8} : ∀ u ∈ bts l, u.oneCell' = true := by
  intro u hu
  obtain ⟨z, _, rfl⟩ := List.mem_map.1 hu
  rfl
/-- the cells of a row of bytes, as string(..) asks them -/
theorem bts_cells {w : World} {T : TypeId} {lo n c : Nat} {g : Nat} {l : List UInt8} (h : Orw w T 1 lo (some ⟨g, 0, none⟩) n c (bts l)) : ∀ j (hj : j < l.length), w.cell? ((⟨g, 0, none⟩ : Addr).add j) = some (.int .u8 (l[j].toNat : Int)) :=
  fun j hj => h.cells j _ (bts_get hj)
/-- texts as cells -/
def sts (l : List ByteArray) : List Value := l.map Value.string
theorem sts_len (l : List ByteArray) : (sts l).length = l.length := by simp [sts]
theorem sts_app (l m : List ByteArray) : sts (l ++ m) = sts l ++ sts m := by simp [sts]
theorem sts_get {l : List ByteArray} {j : Nat} (h : j < l.length) : (sts l)[j]? = some (.string l[j]) := by simp [sts, h]
theorem sts_one {l : List ByteArray} : ∀ u ∈ sts l, u.oneCell' = true := by
  intro u hu
  obtain ⟨z, _, rfl⟩ := List.mem_map.1 hu
  rfl

end Go.Proofs.Ytbggickeomeidaa.Cells
