/- Points read: the law's walk. -/
import Derived.Test.YtbggickeomeidaaDoorWalkPu
namespace Go.Proofs.YtbggickeomeidaaDoor.WalkPv
open Go Go.RowKit Go.Proofs.YtbggickeomeidaaDoor.Base Go.Proofs.YtbggickeomeidaaDoor.Plain Go.Proofs.YtbggickeomeidaaDoor.WalkN Go.Proofs.YtbggickeomeidaaDoor.WalkP Go.Proofs.YtbggickeomeidaaDoor.Words Go.Proofs.YtbggickeomeidaaDoor.Ints Go.Proofs.YtbggickeomeidaaDoor.Text Go.Proofs.YtbggickeomeidaaDoor.WalkTx Go.Proofs.YtbggickeomeidaaDoor.WalkRD Go.Proofs.YtbggickeomeidaaDoor.WalkPt Go.Proofs.YtbggickeomeidaaDoor.WalkPu
open Go.Proofs.YtbggickeomeidaaDoor.WalkRb (Env2)
set_option linter.unusedVariables false
set_option linter.unusedSimpArgs false

theorem ptV_form (l : List UInt8) : ∃ (x y : Int) (b : Bool), ptV l = .tuple #[.agg #[.int .i64 x, .int .i64 y], .bool b] := by
  cases h : ptF l with
  | none => exact ⟨_, _, _, ptV_no h⟩
  | some p => exact ⟨_, _, _, ptV_yes (x := p.1) (y := p.2) h⟩
theorem specRp (s : ByteArray) (w : World) (hs : s.size ≤ 1048576) : Calls Tryd.prog 18 #[.string s] w fun e w' => e = .returned (ptV s.data.toList) ∧ Below w.heap.size w w' := by
  obtain ⟨x, y, b, hv⟩ := ptV_form s.data.toList
  have S := Lib.hid (fun W => specPr s W hs)
  rw [hv] at S
  rw [hv]
  clear hv
  go_enter Tryd.func18, Tryd.ntmps18
  go_wp2_with (go_at_call 41; refine (S.out _).mono ?_; rintro e w1 ⟨rfl, hb1⟩; have z1 := hb1.size; (try simp at z1); obtain ⟨hc1, hf1⟩ := bcell hb1; have lt1 : w.heap.size < w1.heap.size := (by omega))
  refine ret_world fun W hW => ?_
  have d0 : W.cell? ⟨w.heap.size, 0, none⟩ = some (.int .i64 x) := by rw [hW]; (((try dsimp only); (repeat' apply And.intro) <;> (repeat (first | with_reducible assumption | (with_reducible refine keep_drew ?_) | (with_reducible refine keep_drewN ?_) | ((with_reducible refine keep_new _ _ _ _ _ _ ?_ ?_) <;> (first | rfl | (simp; done) | omega)) | (with_reducible refine keep_alloc _ ?_) | ((with_reducible refine keep_set _ ?_ ?_); (focus first | omega | (simp; done) | (simp; omega))) | ((with_reducible refine keep_set' _ ?_ ?_); (focus first | omega | (simp; done))) | ((with_reducible refine keep_same (u := ?_) _ ?_); rotate_left) | ((with_reducible refine keep_setA _ ?_ ?_); (focus first | omega | (simp; done) | (simp; omega))) | ((with_reducible refine keep_below (w := ?_) ?_ ?_); rotate_left; (with_reducible assumption))))))
  have d1 : W.cell? ⟨w.heap.size, 1, none⟩ = some (.int .i64 y) := by rw [hW]; (((try dsimp only); (repeat' apply And.intro) <;> (repeat (first | with_reducible assumption | (with_reducible refine keep_drew ?_) | (with_reducible refine keep_drewN ?_) | ((with_reducible refine keep_new _ _ _ _ _ _ ?_ ?_) <;> (first | rfl | (simp; done) | omega)) | (with_reducible refine keep_alloc _ ?_) | ((with_reducible refine keep_set _ ?_ ?_); (focus first | omega | (simp; done) | (simp; omega))) | ((with_reducible refine keep_set' _ ?_ ?_); (focus first | omega | (simp; done))) | ((with_reducible refine keep_same (u := ?_) _ ?_); rotate_left) | ((with_reducible refine keep_setA _ ?_ ?_); (focus first | omega | (simp; done) | (simp; omega))) | ((with_reducible refine keep_below (w := ?_) ?_ ?_); rotate_left; (with_reducible assumption))))))
  exact bodyPost_ret (v := .tuple #[.agg #[.int .i64 x, .int .i64 y], .bool b]) (by simp [results, Tryd.results18, go_sem, d0, d1]) rfl ⟨rfl, by rw [hW]; exact (by repeat (first | with_reducible exact Below.refl _ _ | with_reducible assumption | (with_reducible refine Below.drew ?_) | (with_reducible refine below_drewN ?_ _) | ((with_reducible refine Below.alloc ?_ ?_ _); rotate_left; (focus first | exact Nat.le_refl _ | omega | (simp; done) | (simp; omega))) | ((with_reducible refine Below.setCell ?_ ?_ _); rotate_left; (focus first | exact Nat.le_refl _ | omega | (simp; done) | (simp; omega))) | ((with_reducible refine below_via (W := ?_) ?_ ?_ ?_); rotate_left; (with_reducible assumption); rotate_left; (focus first | exact Nat.le_refl _ | omega | (simp; done) | (simp; omega)))))⟩
theorem readPoint (s : ByteArray) (ws : s.size ≤ maxLen) (w : World) (hE : Env2 w) :
    Calls Tryd.prog 6 #[.string s] w fun e w' => e = .returned (.bool true) ∧ Below w.heap.size w w' := by
  unfold maxLen at ws
  by_cases hs : s.size ≤ 1048576
  · obtain ⟨x, y, b, hv⟩ := ptV_form s.data.toList
    have C := Lib.hid (fun W (hb : Below w.heap.size w W) => implPr s W hs (Env2.below hb hE))
    have S := Lib.hid (fun W => specRp s W hs)
    rw [hv] at C S
    clear hE hv
    go_enter Tryd.func6, Tryd.ntmps6
    go_wp2_with (first | (go_at_call 18; refine (S.out _).mono ?_; rintro e w1 ⟨rfl, hb1⟩; have z1 := hb1.size) | (go_at_call 19; refine (C.out _ (by repeat (first | with_reducible exact Below.refl _ _ | with_reducible assumption | (with_reducible refine Below.drew ?_) | (with_reducible refine below_drewN ?_ _) | ((with_reducible refine Below.alloc ?_ ?_ _); rotate_left; (focus first | exact Nat.le_refl _ | omega | (simp; done) | (simp; omega))) | ((with_reducible refine Below.setCell ?_ ?_ _); rotate_left; (focus first | exact Nat.le_refl _ | omega | (simp; done) | (simp; omega))) | ((with_reducible refine below_via (W := ?_) ?_ ?_ ?_); rotate_left; (with_reducible assumption); rotate_left; (focus first | exact Nat.le_refl _ | omega | (simp; done) | (simp; omega)))))).mono ?_; rintro e w2 ⟨rfl, hb2⟩; have z2 := hb2.size; (try simp at z2); obtain ⟨hc2, hf2⟩ := bcell hb2; have lt2 : w1.heap.size < w2.heap.size := (by omega)) | (go_at_call 20; go_in))
    go_ret
    exact ⟨rfl, (by repeat (first | with_reducible exact Below.refl _ _ | with_reducible assumption | (with_reducible refine Below.drew ?_) | (with_reducible refine below_drewN ?_ _) | ((with_reducible refine Below.alloc ?_ ?_ _); rotate_left; (focus first | exact Nat.le_refl _ | omega | (simp; done) | (simp; omega))) | ((with_reducible refine Below.setCell ?_ ?_ _); rotate_left; (focus first | exact Nat.le_refl _ | omega | (simp; done) | (simp; omega))) | ((with_reducible refine below_via (W := ?_) ?_ ?_ ?_); rotate_left; (with_reducible assumption); rotate_left; (focus first | exact Nat.le_refl _ | omega | (simp; done) | (simp; omega)))))⟩
  · clear hE
    go_enter Tryd.func6, Tryd.ntmps6
    go_wp2
    go_ret
    exact ⟨rfl, Below.refl _ _⟩

end Go.Proofs.YtbggickeomeidaaDoor.WalkPv
