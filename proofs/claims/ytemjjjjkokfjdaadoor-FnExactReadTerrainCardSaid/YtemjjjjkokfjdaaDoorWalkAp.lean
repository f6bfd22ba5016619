/- Appending to a row of one's own: where the new row lies; a box with two lists of one's own. -/
import Derived.Test.YtemjjjjkokfjdaaDoorWalkQ
import Derived.Test.YtemjjjjkokfjdaaDoorWalkSH
import Derived.Deep.RegionLaw
namespace Go.Proofs.YtemjjjjkokfjdaaDoor.WalkAp
open Go Go.RowKit Go.Proofs.YtemjjjjkokfjdaaDoor.Base Go.Proofs.YtemjjjjkokfjdaaDoor.Plain Go.Proofs.YtemjjjjkokfjdaaDoor.Words Go.Proofs.YtemjjjjkokfjdaaDoor.Ints Go.Proofs.YtemjjjjkokfjdaaDoor.WalkN Go.Proofs.YtemjjjjkokfjdaaDoor.WalkP Go.Proofs.YtemjjjjkokfjdaaDoor.WalkI Go.Proofs.YtemjjjjkokfjdaaDoor.WalkU Go.Proofs.YtemjjjjkokfjdaaDoor.PlainT Go.Proofs.YtemjjjjkokfjdaaDoor.WalkQ Go.Proofs.YtemjjjjkokfjdaaDoor.WalkSH
set_option linter.unusedVariables false
set_option linter.unusedSimpArgs false

/-- the row behind an append lies where it lay, or in a new block -/
theorem append_where {P : Program} {w : World} {base : Nat} (t ty e : TypeId) (i : TypeInfo) (z : Value) (size bytes : Nat) (ht : P.underlying t = some (.slice e)) (hi : P.info? e = some i) (hz : i.zero = some z)
    (hsize : i.size = size) (hby : i.bytes = bytes) (hsz : 0 < size)
    (v : Value) (n : Nat) (xs : List Value) (hown : w.ownsRow base e size v n xs)
    (a : Addr) (m c : Nat) (news : List Value) (hl : news.length = m * size) (hnews : ∀ j u, news[j]? = some u → w.cell? (a.add j) = some u) (h1 : ∀ u ∈ news, u.oneCell' = true)
    (h63 : n + m ≤ maxLen) (hbytes : (n + m) * bytes ≤ 140737488355328)
    {v' : Value} {w' : World} (hr : (Builtin.append_ #[t, t] ty #[v, .slice (some a) m c]).run P w = .ok v' w') :
    ∀ k, v'.ownBlock = some k → v.ownBlock = some k ∨ w.heap.size ≤ k := by
  subst hsize
  subst hby
  have hsmall : n + m ≤ 9223372036854775807 := by simp only [maxLen] at h63; omega
  rcases hown.2 with ⟨rfl, rfl⟩ | ⟨g, cap, cur, rfl, hbg, hg, hnc, hcm, hcs, htake⟩
  · have hx : xs = [] := List.eq_nil_of_length_eq_zero (by simpa using hown.1)
    subst hx
    by_cases hm : m = 0
    · subst hm
      have hn : news = [] := List.eq_nil_of_length_eq_zero (by simpa using hl)
      subst hn
      have h2 : (Builtin.append_ #[t, t] ty #[.slice none 0 0, .slice (some a) 0 c]).run P w = .ok (.slice none 0 0) w := by
        simp [Builtin.append_, run_underlying ht, sizeOf, typeInfo, hi, Builtin.lenOf, Builtin.firstCells, loadCells, loadCellsFrom]
      rw [h2] at hr
      injection hr with hv _
      subst hv
      intro k hk
      cases hk
    · have h2 := run_append_nil (P := P) w t ty e i z ht hi hz a m c news hl hnews (by omega) (by omega) (by have hb := hbytes; simp only [Nat.zero_add] at hb; omega)
      rw [h2] at hr
      injection hr with hv _
      subst hv
      intro k hk
      injection hk with hk
      exact .inr (Nat.le_of_eq hk)
  · by_cases hroom : n + m ≤ cap
    · have hfit : n * i.size + news.length ≤ cur.size := by rw [hl, hcs, ← Nat.add_mul]; exact Nat.mul_le_mul_right _ hroom
      have h2 := run_append_room (P := P) w t ty e i ht hi g n cap cur hg a m c news hl hnews h1 hroom hfit
      rw [h2] at hr
      injection hr with hv _
      subst hv
      exact fun k hk => .inl hk
    · have holds : ∀ j u, xs[j]? = some u → w.cell? ((⟨g, 0, none⟩ : Addr).add j) = some u := hown.cells (g := g) rfl
      have h2 := run_append_grow (P := P) w t ty e i z ht hi hz ⟨g, 0, none⟩ n cap xs hown.1 holds a m c news hl hnews (by omega) (by omega) (growslice_fits (by omega) hbytes)
      rw [h2] at hr
      injection hr with hv _
      subst hv
      intro k hk
      injection hk with hk
      exact .inr (Nat.le_of_eq hk)

/-- appending to a row of one's own, as one step of a region that draws -/
theorem step_append_own {P : Program} {ops : Array Oper} {o : Oper} {a : Act} {w : World} {K : Act → World → Prop} {Q : Exit → Act → World → Prop} {E : Prop}
    (hg : o.guard = none) (s x : Operand) (t : TypeId) (hop : o.op = Op.call { callee := Callee.builtin Builtin.append, args := #[s, x], argTypes := #[t, t] })
    (base : Nat) (e : TypeId) (i : TypeInfo) (z : Value) (size bytes : Nat) (h1 : P.underlying t = some (.slice e)) (h2 : P.info? e = some i) (h3 : i.zero = some z) (h4 : i.size = size) (h5 : i.bytes = bytes) (h6 : z.cells.size = size) (h7 : 0 < size)
    (v : Value) (n : Nat) (xs : List Value) (hs : a.eval s = v) (hown : w.ownsRow base e size v n xs)
    (ad : Addr) (m c : Nat) (news : List Value) (hx : a.eval x = .slice (some ad) m c) (hn : news.length = m * size) (hc : ∀ j u, news[j]? = some u → w.cell? (ad.add j) = some u) (h1c : ∀ u ∈ news, u.oneCell' = true)
    (b1 : n + m ≤ maxLen) (b2 : (n + m) * bytes ≤ 140737488355328) (hbase : base ≤ w.heap.size)
    (hK : ∀ v' w', w'.ownsRow base e size v' (n + m) (xs ++ news) → w.grownBy w' v.ownBlock → (∀ k, v'.ownBlock = some k → v.ownBlock = some k ∨ w.heap.size ≤ k) → K (a.put o.dst v') w') :
    if Region.wanted o (yielded ops a.tmps) = true then Oper.wp P o a w K Q else E := by
  have hw : Region.wanted o (yielded ops a.tmps) = true := by simp [Region.wanted, hg]
  rw [if_pos hw]
  obtain ⟨v', w', hrun, r1, r2, _⟩ := run_append_own (P := P) w base t o.type e i z size bytes h1 h2 h3 h4 h5 h6 h7 v n xs hown ad m c news hn hc h1c b1 b2 hbase
  have r3 := append_where t o.type e i z size bytes h1 h2 h3 h4 h5 h7 v n xs hown ad m c news hn hc h1c b1 b2 hrun
  unfold Oper.wp
  simp [execOp, hop, resolve, invoke, builtin, hs, hx, hrun, Result.andThen]
  exact hK v' w' r1 r2 r3

theorem gr_own {w w1 : World} {B : Option Addr} {k q : Nat} (h : w.grownBy w1 (Value.slice B k q).ownBlock) : Gr w w1 B := by
  cases B <;> exact h
theorem blk_gr {w w1 : World} {B : Option Addr} {g : Nat} {t : TypeId} {cs : Array Value} (hg : Gr w w1 B) (hne : ∀ a, B = some a → a.block ≠ g) (h : Blk w g t cs) : Blk w1 g t cs :=
  (hg.block g h.lt (by
    intro e
    rcases B with _ | b
    · cases e
    · injection e with e
      exact hne b rfl e.symm)).trans h
theorem one_news (W : World) (z : Int) (t : TypeId) : ∀ j u, [Value.int .i64 z][j]? = some u → (W.alloc (.cells #[.int .i64 z] t)).cell? ((⟨W.heap.size, 0, none⟩ : Addr).add j) = some u := by
  intro j u hu
  rcases j with _ | j
  · simp at hu
    subst hu
    exact (Blk.new W t #[.int .i64 z] rfl).cell 0
  · simp at hu
theorem own_some {B : Option Addr} {n c k : Nat} : (Value.slice B n c).ownBlock = some k ↔ ∃ a, B = some a ∧ a.block = k := by
  cases B with
  | none => constructor
            · intro h; cases h
            · rintro ⟨a, h, _⟩; cases h
  | some a => constructor
              · intro h; exact ⟨a, rfl, Option.some.inj h⟩
              · rintro ⟨b, h, e⟩; injection h with h; subst h; show some _ = _; rw [← e]
/-- a list that lies where the elder one lay, or in a new block, lies apart from a third one -/
theorem ap_next {w : World} {B B' Q : Option Addr} {n c n' c' lo k q : Nat} {zs : List Int} (hq : Ow w lo Q k q zs) (ap : Ap B Q) (h : ∀ k, (Value.slice B' n' c').ownBlock = some k → (Value.slice B n c).ownBlock = some k ∨ w.heap.size ≤ k) : Ap B' Q := by
  intro a b ha hb
  rcases h a.block (own_some.2 ⟨a, ha, rfl⟩) with h1 | h1
  · obtain ⟨a', e1, e2⟩ := own_some.1 h1
    rw [← e2]
    exact ap a' b e1 hb
  · have := hq.block hb
    omega

end Go.Proofs.YtemjjjjkokfjdaaDoor.WalkAp
