/- Rows of one's own: copies, reversal, appending. -/
import Derived.Test.YtjbnmjifejlepaaWalkU
import Derived.OwnWalk
import Derived.Laws.AppendOwn
import Derived.RegionTactic
import Derived.Lib.SliceRun
namespace Go.Proofs.Ytjbnmjifejlepaa.WalkQ
open Go Go.RowKit Go.Proofs.Ytjbnmjifejlepaa.Base Go.Proofs.Ytjbnmjifejlepaa.Plain Go.Proofs.Ytjbnmjifejlepaa.Words Go.Proofs.Ytjbnmjifejlepaa.Ints Go.Proofs.Ytjbnmjifejlepaa.WalkN Go.Proofs.Ytjbnmjifejlepaa.WalkP Go.Proofs.Ytjbnmjifejlepaa.WalkI Go.Proofs.Ytjbnmjifejlepaa.WalkU Go.Proofs.Ytjbnmjifejlepaa.PlainT
set_option linter.unusedVariables false
set_option linter.unusedSimpArgs false

theorem row_form {w : World} {lo n : Nat} {v : Value} {zs : List Int} (h : w.ownsRow lo 2 1 v n (vals zs)) (h0 : 0 < n) : ∃ (B : Option Addr) (d : Nat), v = .slice B n d ∧ Ow w lo B n d zs := by
  have h2 := h
  rcases h2.2 with ⟨_, hn⟩ | ⟨g, cap, cur, rfl, _⟩
  · omega
  · exact ⟨_, _, rfl, h⟩
theorem infoI : (Try.prog.info? 2).map (fun i => (i.zero, i.size, i.bytes)) = some (some (.int .i64 0), 1, 8) := by kernel_rfl
theorem vals_one (zs : List Int) : ∀ u ∈ vals zs, u.oneCell' = true := by
  intro u hu
  obtain ⟨z, _, rfl⟩ := List.mem_map.1 hu
  rfl
theorem rd_news {w : World} {ad : Addr} {n : Nat} {zs : List Int} (h : Rd w (some ad) n zs) : ∀ j u, (vals zs)[j]? = some u → w.cell? (ad.add j) = some u := by
  intro j u hu
  have hj : j < zs.length := by
    have := (List.getElem?_eq_some_iff.1 hu).1
    rwa [vals_len] at this
  rw [vals_get hj] at hu
  injection hu with hu
  subst hu
  obtain ⟨ad', e, hc⟩ := h.at_ (k := j) (by rw [← h.len]; exact hj)
  injection e with e
  subst e
  exact hc

/-- what a copy of one's own is -/
def Copy (w : World) (n : Nat) (zs : List Int) (e : Ending) (w' : World) : Prop := ∃ (B : Option Addr) (d : Nat), e = .returned (.slice B n d) ∧ Ow w' w.heap.size B n d zs ∧ Below w.heap.size w w'

theorem specOwn (A : Option Addr) (n c : Nat) (zs : List Int) (w : World) (hr : Rd w A n zs) (h0 : 0 < n) (hn : n ≤ 1048576) :
    Calls Try.prog 74 #[.slice A n c] w (Copy w n zs) := by
  obtain ⟨i0, hi, hz0, hz1, hz2⟩ := info_parts infoI
  obtain ⟨ad, rfl, _⟩ := hr.at_ h0
  have RA := Lib.hid (hr.alloc (.cells #[] 2))
  have hown := World.ownsRow_made (base := w.heap.size) (e := 2) (size := 1) w #[] 0 (Nat.le_refl _) (by omega) (by simp)
  have HO := Lib.hid hown
  clear hr hown
  go_enter Try.func74, Try.ntmps74
  go_wp2_with (at_builtin; refine wpList_append_own _ rfl _ _ 38 rfl w.heap.size 2 i0 (.int .i64 0) 1 8 Try.underlying38 hi hz0 hz1 hz2 rfl (by decide) _ 0 [] rfl HO.out ad n c (vals zs) rfl (by rw [vals_len, RA.out.len]; omega) (rd_news RA.out) (vals_one zs) (by unfold maxLen; omega) (by omega) (by simp) ?_; intro v' w1 hown1 hgrow _)
  rw [Nat.zero_add, List.nil_append] at hown1
  obtain ⟨B, d, rfl, ho⟩ := row_form hown1 h0
  go_wp2_with fail
  go_ret
  exact ⟨B, d, rfl, ho, ((Below.refl _ _).alloc (Nat.le_refl _) _).grown hgrow (by simp) (fun k hk => Nat.le_of_eq (Option.some.inj hk))⟩

set_option maxRecDepth 100000 in
theorem implClone (A : Option Addr) (n c : Nat) (zs : List Int) (w : World) (hr : Rd w A n zs) (h0 : 0 < n) (hn : n ≤ 1048576) :
    Calls Try.prog 59 #[.slice A n c] w (Copy w n zs) := by
  obtain ⟨i0, hi, hz0, hz1, hz2⟩ := info_parts infoI
  obtain ⟨ad, rfl, _⟩ := hr.at_ h0
  have RA := Lib.hid (hr.alloc (.cells #[] 2))
  have hown := World.ownsRow_made (base := w.heap.size) (e := 2) (size := 1) w #[] 0 (Nat.le_refl _) (by omega) (by simp)
  have HO := Lib.hid hown
  have hnil : ∀ W : World, (binOp .eql 38 (.slice (some ad) n c) (.slice none 0 0)).run Try.prog W = .ok (.bool false) W := fun W => Go.Lib.run_eql_slice_nil W 38 2 (some ad) n c 0 0 Try.underlying38
  clear hr hown
  go_enter Try.func59, Try.ntmps59
  go_wp2_with (at_builtin; refine wpList_append_own _ rfl _ _ 38 rfl w.heap.size 2 i0 (.int .i64 0) 1 8 Try.underlying38 hi hz0 hz1 hz2 rfl (by decide) _ 0 [] rfl HO.out ad n c (vals zs) rfl (by rw [vals_len, RA.out.len]; omega) (rd_news RA.out) (vals_one zs) (by unfold maxLen; omega) (by omega) (by simp) ?_; intro v' w1 hown1 hgrow _)
  rw [Nat.zero_add, List.nil_append] at hown1
  obtain ⟨B, d, rfl, ho⟩ := row_form hown1 h0
  go_wp2_with fail
  go_ret
  exact ⟨B, d, rfl, ho, ((Below.refl _ _).alloc (Nat.le_refl _) _).grown hgrow (by simp) (fun k hk => Nat.le_of_eq (Option.some.inj hk))⟩

end Go.Proofs.Ytjbnmjifejlepaa.WalkQ
