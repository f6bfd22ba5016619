/- Points read: the program's way, and the law's walk. -/
import Derived.Test.YtbggickeomeidaaDoorWalkPt
import Derived.Deep.RegionHeld3
namespace Go.Proofs.YtbggickeomeidaaDoor.WalkPu
open Go Go.RowKit Go.Proofs.YtbggickeomeidaaDoor.Base Go.Proofs.YtbggickeomeidaaDoor.Plain Go.Proofs.YtbggickeomeidaaDoor.PlainT Go.Proofs.YtbggickeomeidaaDoor.PlainTx Go.Proofs.YtbggickeomeidaaDoor.PlainSp Go.Proofs.YtbggickeomeidaaDoor.PlainSq Go.Proofs.YtbggickeomeidaaDoor.WalkN Go.Proofs.YtbggickeomeidaaDoor.WalkP Go.Proofs.YtbggickeomeidaaDoor.Words Go.Proofs.YtbggickeomeidaaDoor.Ints Go.Proofs.YtbggickeomeidaaDoor.WalkI Go.Proofs.YtbggickeomeidaaDoor.Cells Go.Proofs.YtbggickeomeidaaDoor.Text Go.Proofs.YtbggickeomeidaaDoor.WalkTx Go.Proofs.YtbggickeomeidaaDoor.WalkLT Go.Proofs.YtbggickeomeidaaDoor.WalkLU Go.Proofs.YtbggickeomeidaaDoor.WalkRD Go.Proofs.YtbggickeomeidaaDoor.WalkRI Go.Proofs.YtbggickeomeidaaDoor.WalkSp Go.Proofs.YtbggickeomeidaaDoor.WalkSq Go.Proofs.YtbggickeomeidaaDoor.WalkPt
open Go.Proofs.YtbggickeomeidaaDoor.WalkRb (Env2)
set_option linter.unusedVariables false
set_option linter.unusedSimpArgs false

/-- two numbers of a slice, in memory -/
def Two (e : Ending) (w' : World) (b : Bool) (x y : Int) : Prop := ∃ (g q : Nat), e = .returned (.tuple #[.slice (some ⟨g, 0, none⟩) 2 q, .bool b]) ∧ g < w'.heap.size ∧ w'.cell? ⟨g, 0, none⟩ = some (.int .i64 x) ∧ w'.cell? ⟨g, 1, none⟩ = some (.int .i64 y)
theorem made2 : ∀ w : World, (Instr.makeSlice 25 (.int .i64 2) (.int .i64 2)).run Tryd.prog w = .ok (.slice (some ⟨w.heap.size, 0, none⟩) 2 2) (w.alloc (.cells (madeCells #[.int .i64 0] 2) 2)) := made 2 (by omega)
theorem new2 (w : World) : (w.alloc (.cells (madeCells #[.int .i64 0] 2) 2)).cell? ⟨w.heap.size, 0, none⟩ = some (.int .i64 0) ∧ (w.alloc (.cells (madeCells #[.int .i64 0] 2) 2)).cell? ⟨w.heap.size, 1, none⟩ = some (.int .i64 0) :=
  ⟨((Blk.new w 2 (madeCells #[.int .i64 0] 2) rfl).cell 0).trans (made_get (by omega)), ((Blk.new w 2 (madeCells #[.int .i64 0] 2) rfl).cell 1).trans (made_get (by omega))⟩
theorem nums_no (s : ByteArray) (w : World) (hs : s.size ≤ 1048576) (hE : Env2 w) (h : ∀ x y, readF s.data.toList ≠ some [x, y]) :
    Calls Tryd.prog 42 #[.string s, .int .i64 2] w fun e w' => Two e w' false 0 0 ∧ Below w.heap.size w w' := by
  have M := made2
  have R : Hid (Calls Tryd.prog 14 #[.string s] w fun e w' => (∃ (A : Option Addr) (n q : Nat) (b : Bool), e = .returned (.tuple #[.slice A n q, .bool b]) ∧ (b = false ∨ ((n : Int) == 2) = false)) ∧ Below w.heap.size w w') := Lib.hid ((implRl s w hs hE).mono fun e w' hg => ⟨by
    rcases hg.1 with ⟨_, he⟩ | ⟨zs, A, n, q, hr, he, ho⟩
    · exact ⟨_, _, _, _, he, .inl rfl⟩
    · refine ⟨_, _, _, _, he, .inr ?_⟩
      rw [beq_eq_false_iff_ne]
      intro e2
      have hl := ho.len
      obtain ⟨x, y, hxy⟩ := two_of (l := zs) (by omega)
      rw [hxy] at hr
      exact h x y hr, hg.2⟩)
  clear hE h
  go_enter Tryd.func42, Tryd.ntmps42
  go_wp2_with fail
  refine R.out.mono ?_
  rintro e w1 ⟨⟨A, n, q, b, rfl, hb⟩, hb1⟩
  have N2 := Lib.hid (new2 w1)
  cases b
  · clear hb
    go_wp2_with fail
    go_ret2
    exact ⟨⟨_, _, rfl, by simp, N2.out.1, N2.out.2⟩, hb1.alloc (by have := hb1.size; omega) _⟩
  · have hb' : ((n : Int) == 2) = false := by
      rcases hb with h | h
      · cases h
      · exact h
    clear hb
    go_wp2_with fail
    go_ret2
    exact ⟨⟨_, _, rfl, by simp, N2.out.1, N2.out.2⟩, hb1.alloc (by have := hb1.size; omega) _⟩
theorem nums_yes (s : ByteArray) (w : World) (hs : s.size ≤ 1048576) (hE : Env2 w) {x y : Int} (h : readF s.data.toList = some [x, y]) :
    Calls Tryd.prog 42 #[.string s, .int .i64 2] w fun e w' => Two e w' true x y ∧ Below w.heap.size w w' := by
  have R : Hid (Calls Tryd.prog 14 #[.string s] w fun e w' => Two e w' true x y ∧ Below w.heap.size w w') := Lib.hid ((implRl s w hs hE).mono fun e w' hg => ⟨by
    rcases hg.1 with ⟨hr, _⟩ | ⟨zs, A, n, q, hr, he, ho⟩
    · rw [hr] at h; cases h
    · rw [h] at hr
      injection hr with hr
      subst hr
      have hl := ho.len
      obtain rfl : n = 2 := by simpa using hl.symm
      obtain ⟨g, rfl, _, hg2, c0, _⟩ := Orw.at_ (sz := 1) (T := 2) ho (j := 0) (by omega)
      obtain ⟨g', e', _, _, c1, _⟩ := Orw.at_ (sz := 1) (T := 2) ho (j := 1) (by omega)
      injection e' with e'
      injection e' with e' _
      subst e'
      exact ⟨g, q, he, hg2, c0, c1⟩, hg.2⟩)
  clear hE h
  go_enter Tryd.func42, Tryd.ntmps42
  go_wp2_with fail
  refine R.out.mono ?_
  rintro e w1 ⟨⟨g, q, rfl, hg, c0, c1⟩, hb1⟩
  go_wp2_with fail
  go_ret2
  exact ⟨⟨g, q, rfl, hg, c0, c1⟩, hb1⟩

set_option maxHeartbeats 1000000 in
theorem implPr (s : ByteArray) (w : World) (hs : s.size ≤ 1048576) (hE : Env2 w) : Calls Tryd.prog 19 #[.string s] w fun e w' => e = .returned (ptV s.data.toList) ∧ Below w.heap.size w w' := by
  have hE1 : Env2 (w.alloc (.cells #[.int .i64 0, .int .i64 0] 31)) := hE.below ((Below.refl _ _).alloc (Nat.le_refl _) _)
  by_cases h : ∃ x y, readF s.data.toList = some [x, y]
  · obtain ⟨x, y, h⟩ := h
    have R := Lib.hid (nums_yes s _ hs hE1 h)
    have P := Lib.hid (fun W (hb : Below w.heap.size w W) => implPoint x y W (Tab.below hb hE.env.tab))
    by_cases ht : ptR x y = s
    · have HR := Lib.hid (ptV_yes (pt_impl_yes h ht))
      rw [ht] at P
      clear hE hE1 h ht
      go_enter Tryd.func19, Tryd.ntmps19
      go_wp2_with (go_at_call 42; refine R.out.mono ?_; rintro e w1 ⟨⟨g, q, rfl, hg, c0, c1⟩, hb1⟩; have z1 := hb1.size; (try simp at z1); obtain ⟨hc1, hf1⟩ := bcell hb1; have lt1 : w.heap.size < w1.heap.size := (by omega))
      go_region_held3 (fun w' => w'.cell? ⟨g, 0, none⟩ = some (.int .i64 x) ∧ w'.cell? ⟨g, 1, none⟩ = some (.int .i64 y)) ((((try dsimp only); (repeat' apply And.intro) <;> (repeat (first | with_reducible assumption | (with_reducible refine keep_drew ?_) | (with_reducible refine keep_drewN ?_) | ((with_reducible refine keep_new _ _ _ _ _ _ ?_ ?_) <;> (first | rfl | (simp; done) | omega)) | (with_reducible refine keep_alloc _ ?_) | ((with_reducible refine keep_set _ ?_ ?_); (focus first | omega | (simp; done) | (simp; omega))) | ((with_reducible refine keep_set' _ ?_ ?_); (focus first | omega | (simp; done))) | ((with_reducible refine keep_same (u := ?_) _ ?_); rotate_left) | ((with_reducible refine keep_setA _ ?_ ?_); (focus first | omega | (simp; done) | (simp; omega))) | ((with_reducible refine keep_below (w := ?_) ?_ ?_); rotate_left; (with_reducible assumption))))))) (fail)
      all_goals go_wp2_with (go_at_call 43; refine (P.out _ (by repeat (first | with_reducible exact Below.refl _ _ | with_reducible assumption | (with_reducible refine Below.drew ?_) | (with_reducible refine below_drewN ?_ _) | ((with_reducible refine Below.alloc ?_ ?_ _); rotate_left; (focus first | exact Nat.le_refl _ | omega | (simp; done) | (simp; omega))) | ((with_reducible refine Below.setCell ?_ ?_ _); rotate_left; (focus first | exact Nat.le_refl _ | omega | (simp; done) | (simp; omega))) | ((with_reducible refine below_via (W := ?_) ?_ ?_ ?_); rotate_left; (with_reducible assumption); rotate_left; (focus first | exact Nat.le_refl _ | omega | (simp; done) | (simp; omega)))))).mono ?_; rintro e w2 ⟨rfl, hb2⟩; have z2 := hb2.size; (try simp at z2); obtain ⟨hc2, hf2⟩ := bcell hb2)
      refine ret_world fun W hW => ?_
      have d0 : W.cell? ⟨w.heap.size, 0, none⟩ = some (.int .i64 x) := by rw [hW]; (((try dsimp only); (repeat' apply And.intro) <;> (repeat (first | with_reducible assumption | (with_reducible refine keep_drew ?_) | (with_reducible refine keep_drewN ?_) | ((with_reducible refine keep_new _ _ _ _ _ _ ?_ ?_) <;> (first | rfl | (simp; done) | omega)) | (with_reducible refine keep_alloc _ ?_) | ((with_reducible refine keep_set _ ?_ ?_); (focus first | omega | (simp; done) | (simp; omega))) | ((with_reducible refine keep_set' _ ?_ ?_); (focus first | omega | (simp; done))) | ((with_reducible refine keep_same (u := ?_) _ ?_); rotate_left) | ((with_reducible refine keep_setA _ ?_ ?_); (focus first | omega | (simp; done) | (simp; omega))) | ((with_reducible refine keep_below (w := ?_) ?_ ?_); rotate_left; (with_reducible assumption))))))
      have d1 : W.cell? ⟨w.heap.size, 1, none⟩ = some (.int .i64 y) := by rw [hW]; (((try dsimp only); (repeat' apply And.intro) <;> (repeat (first | with_reducible assumption | (with_reducible refine keep_drew ?_) | (with_reducible refine keep_drewN ?_) | ((with_reducible refine keep_new _ _ _ _ _ _ ?_ ?_) <;> (first | rfl | (simp; done) | omega)) | (with_reducible refine keep_alloc _ ?_) | ((with_reducible refine keep_set _ ?_ ?_); (focus first | omega | (simp; done) | (simp; omega))) | ((with_reducible refine keep_set' _ ?_ ?_); (focus first | omega | (simp; done))) | ((with_reducible refine keep_same (u := ?_) _ ?_); rotate_left) | ((with_reducible refine keep_setA _ ?_ ?_); (focus first | omega | (simp; done) | (simp; omega))) | ((with_reducible refine keep_below (w := ?_) ?_ ?_); rotate_left; (with_reducible assumption))))))
      exact bodyPost_ret (v := ptV s.data.toList) (by rw [HR.out]; simp [results, Tryd.results19, go_sem, d0, d1]) rfl ⟨rfl, by rw [hW]; exact (by repeat (first | with_reducible exact Below.refl _ _ | with_reducible assumption | (with_reducible refine Below.drew ?_) | (with_reducible refine below_drewN ?_ _) | ((with_reducible refine Below.alloc ?_ ?_ _); rotate_left; (focus first | exact Nat.le_refl _ | omega | (simp; done) | (simp; omega))) | ((with_reducible refine Below.setCell ?_ ?_ _); rotate_left; (focus first | exact Nat.le_refl _ | omega | (simp; done) | (simp; omega))) | ((with_reducible refine below_via (W := ?_) ?_ ?_ ?_); rotate_left; (with_reducible assumption); rotate_left; (focus first | exact Nat.le_refl _ | omega | (simp; done) | (simp; omega)))))⟩
    · have HR := Lib.hid (ptV_no (pt_impl_no h ht))
      generalize ptR x y = tt at P ht
      have hnt : (tt.toList == s.toList) = false := by
        rw [beq_eq_false_iff_ne, Go.Lib.toList_data, Go.Lib.toList_data]
        exact fun e => ht (by apply ByteArray.ext; exact Array.toList_inj.1 e)
      clear hE hE1 h ht
      go_enter Tryd.func19, Tryd.ntmps19
      go_wp2_with (go_at_call 42; refine R.out.mono ?_; rintro e w1 ⟨⟨g, q, rfl, hg, c0, c1⟩, hb1⟩; have z1 := hb1.size; (try simp at z1); obtain ⟨hc1, hf1⟩ := bcell hb1; have lt1 : w.heap.size < w1.heap.size := (by omega))
      go_region_held3 (fun w' => w'.cell? ⟨g, 0, none⟩ = some (.int .i64 x) ∧ w'.cell? ⟨g, 1, none⟩ = some (.int .i64 y)) ((((try dsimp only); (repeat' apply And.intro) <;> (repeat (first | with_reducible assumption | (with_reducible refine keep_drew ?_) | (with_reducible refine keep_drewN ?_) | ((with_reducible refine keep_new _ _ _ _ _ _ ?_ ?_) <;> (first | rfl | (simp; done) | omega)) | (with_reducible refine keep_alloc _ ?_) | ((with_reducible refine keep_set _ ?_ ?_); (focus first | omega | (simp; done) | (simp; omega))) | ((with_reducible refine keep_set' _ ?_ ?_); (focus first | omega | (simp; done))) | ((with_reducible refine keep_same (u := ?_) _ ?_); rotate_left) | ((with_reducible refine keep_setA _ ?_ ?_); (focus first | omega | (simp; done) | (simp; omega))) | ((with_reducible refine keep_below (w := ?_) ?_ ?_); rotate_left; (with_reducible assumption))))))) (fail)
      all_goals go_wp2_with (go_at_call 43; refine (P.out _ (by repeat (first | with_reducible exact Below.refl _ _ | with_reducible assumption | (with_reducible refine Below.drew ?_) | (with_reducible refine below_drewN ?_ _) | ((with_reducible refine Below.alloc ?_ ?_ _); rotate_left; (focus first | exact Nat.le_refl _ | omega | (simp; done) | (simp; omega))) | ((with_reducible refine Below.setCell ?_ ?_ _); rotate_left; (focus first | exact Nat.le_refl _ | omega | (simp; done) | (simp; omega))) | ((with_reducible refine below_via (W := ?_) ?_ ?_ ?_); rotate_left; (with_reducible assumption); rotate_left; (focus first | exact Nat.le_refl _ | omega | (simp; done) | (simp; omega)))))).mono ?_; rintro e w2 ⟨rfl, hb2⟩; have z2 := hb2.size; (try simp at z2); obtain ⟨hc2, hf2⟩ := bcell hb2)
      refine ret_world fun W hW => ?_
      have d0 : W.cell? ⟨w.heap.size, 0, none⟩ = some (.int .i64 0) := by rw [hW]; (((try dsimp only); (repeat' apply And.intro) <;> (repeat (first | with_reducible assumption | (with_reducible refine keep_drew ?_) | (with_reducible refine keep_drewN ?_) | ((with_reducible refine keep_new _ _ _ _ _ _ ?_ ?_) <;> (first | rfl | (simp; done) | omega)) | (with_reducible refine keep_alloc _ ?_) | ((with_reducible refine keep_set _ ?_ ?_); (focus first | omega | (simp; done) | (simp; omega))) | ((with_reducible refine keep_set' _ ?_ ?_); (focus first | omega | (simp; done))) | ((with_reducible refine keep_same (u := ?_) _ ?_); rotate_left) | ((with_reducible refine keep_setA _ ?_ ?_); (focus first | omega | (simp; done) | (simp; omega))) | ((with_reducible refine keep_below (w := ?_) ?_ ?_); rotate_left; (with_reducible assumption))))))
      have d1 : W.cell? ⟨w.heap.size, 1, none⟩ = some (.int .i64 0) := by rw [hW]; (((try dsimp only); (repeat' apply And.intro) <;> (repeat (first | with_reducible assumption | (with_reducible refine keep_drew ?_) | (with_reducible refine keep_drewN ?_) | ((with_reducible refine keep_new _ _ _ _ _ _ ?_ ?_) <;> (first | rfl | (simp; done) | omega)) | (with_reducible refine keep_alloc _ ?_) | ((with_reducible refine keep_set _ ?_ ?_); (focus first | omega | (simp; done) | (simp; omega))) | ((with_reducible refine keep_set' _ ?_ ?_); (focus first | omega | (simp; done))) | ((with_reducible refine keep_same (u := ?_) _ ?_); rotate_left) | ((with_reducible refine keep_setA _ ?_ ?_); (focus first | omega | (simp; done) | (simp; omega))) | ((with_reducible refine keep_below (w := ?_) ?_ ?_); rotate_left; (with_reducible assumption))))))
      exact bodyPost_ret (v := ptV s.data.toList) (by rw [HR.out]; simp [results, Tryd.results19, go_sem, d0, d1]) rfl ⟨rfl, by rw [hW]; exact (by repeat (first | with_reducible exact Below.refl _ _ | with_reducible assumption | (with_reducible refine Below.drew ?_) | (with_reducible refine below_drewN ?_ _) | ((with_reducible refine Below.alloc ?_ ?_ _); rotate_left; (focus first | exact Nat.le_refl _ | omega | (simp; done) | (simp; omega))) | ((with_reducible refine Below.setCell ?_ ?_ _); rotate_left; (focus first | exact Nat.le_refl _ | omega | (simp; done) | (simp; omega))) | ((with_reducible refine below_via (W := ?_) ?_ ?_ ?_); rotate_left; (with_reducible assumption); rotate_left; (focus first | exact Nat.le_refl _ | omega | (simp; done) | (simp; omega)))))⟩
  · have h' : ∀ x y, readF s.data.toList ≠ some [x, y] := fun x y e => h ⟨x, y, e⟩
    have R := Lib.hid (nums_no s _ hs hE1 h')
    have HR := Lib.hid (ptV_no (pt_impl_none h'))
    clear hE hE1 h h'
    go_enter Tryd.func19, Tryd.ntmps19
    go_wp2_with (go_at_call 42; refine R.out.mono ?_; rintro e w1 ⟨⟨g, q, rfl, hg, c0, c1⟩, hb1⟩; have z1 := hb1.size; (try simp at z1); obtain ⟨hc1, hf1⟩ := bcell hb1; have lt1 : w.heap.size < w1.heap.size := (by omega))
    go_region_held3 (fun w' => w'.cell? ⟨g, 0, none⟩ = some (.int .i64 0) ∧ w'.cell? ⟨g, 1, none⟩ = some (.int .i64 0)) ((((try dsimp only); (repeat' apply And.intro) <;> (repeat (first | with_reducible assumption | (with_reducible refine keep_drew ?_) | (with_reducible refine keep_drewN ?_) | ((with_reducible refine keep_new _ _ _ _ _ _ ?_ ?_) <;> (first | rfl | (simp; done) | omega)) | (with_reducible refine keep_alloc _ ?_) | ((with_reducible refine keep_set _ ?_ ?_); (focus first | omega | (simp; done) | (simp; omega))) | ((with_reducible refine keep_set' _ ?_ ?_); (focus first | omega | (simp; done))) | ((with_reducible refine keep_same (u := ?_) _ ?_); rotate_left) | ((with_reducible refine keep_setA _ ?_ ?_); (focus first | omega | (simp; done) | (simp; omega))) | ((with_reducible refine keep_below (w := ?_) ?_ ?_); rotate_left; (with_reducible assumption))))))) (fail)
    all_goals go_wp2_with fail
    refine ret_world fun W hW => ?_
    have d0 : W.cell? ⟨w.heap.size, 0, none⟩ = some (.int .i64 0) := by rw [hW]; (((try dsimp only); (repeat' apply And.intro) <;> (repeat (first | with_reducible assumption | (with_reducible refine keep_drew ?_) | (with_reducible refine keep_drewN ?_) | ((with_reducible refine keep_new _ _ _ _ _ _ ?_ ?_) <;> (first | rfl | (simp; done) | omega)) | (with_reducible refine keep_alloc _ ?_) | ((with_reducible refine keep_set _ ?_ ?_); (focus first | omega | (simp; done) | (simp; omega))) | ((with_reducible refine keep_set' _ ?_ ?_); (focus first | omega | (simp; done))) | ((with_reducible refine keep_same (u := ?_) _ ?_); rotate_left) | ((with_reducible refine keep_setA _ ?_ ?_); (focus first | omega | (simp; done) | (simp; omega))) | ((with_reducible refine keep_below (w := ?_) ?_ ?_); rotate_left; (with_reducible assumption))))))
    have d1 : W.cell? ⟨w.heap.size, 1, none⟩ = some (.int .i64 0) := by rw [hW]; (((try dsimp only); (repeat' apply And.intro) <;> (repeat (first | with_reducible assumption | (with_reducible refine keep_drew ?_) | (with_reducible refine keep_drewN ?_) | ((with_reducible refine keep_new _ _ _ _ _ _ ?_ ?_) <;> (first | rfl | (simp; done) | omega)) | (with_reducible refine keep_alloc _ ?_) | ((with_reducible refine keep_set _ ?_ ?_); (focus first | omega | (simp; done) | (simp; omega))) | ((with_reducible refine keep_set' _ ?_ ?_); (focus first | omega | (simp; done))) | ((with_reducible refine keep_same (u := ?_) _ ?_); rotate_left) | ((with_reducible refine keep_setA _ ?_ ?_); (focus first | omega | (simp; done) | (simp; omega))) | ((with_reducible refine keep_below (w := ?_) ?_ ?_); rotate_left; (with_reducible assumption))))))
    exact bodyPost_ret (v := ptV s.data.toList) (by rw [HR.out]; simp [results, Tryd.results19, go_sem, d0, d1]) rfl ⟨rfl, by rw [hW]; exact (by repeat (first | with_reducible exact Below.refl _ _ | with_reducible assumption | (with_reducible refine Below.drew ?_) | (with_reducible refine below_drewN ?_ _) | ((with_reducible refine Below.alloc ?_ ?_ _); rotate_left; (focus first | exact Nat.le_refl _ | omega | (simp; done) | (simp; omega))) | ((with_reducible refine Below.setCell ?_ ?_ _); rotate_left; (focus first | exact Nat.le_refl _ | omega | (simp; done) | (simp; omega))) | ((with_reducible refine below_via (W := ?_) ?_ ?_ ?_); rotate_left; (with_reducible assumption); rotate_left; (focus first | exact Nat.le_refl _ | omega | (simp; done) | (simp; omega)))))⟩

end Go.Proofs.YtbggickeomeidaaDoor.WalkPu
