/- Points read: both ways. -/
import Derived.Test.YtbggickeomeidaaDoorWalkSq
import Derived.Test.YtbggickeomeidaaDoorWalkTx
namespace Go.Proofs.YtbggickeomeidaaDoor.WalkPt
open Go Go.RowKit Go.Proofs.YtbggickeomeidaaDoor.Base Go.Proofs.YtbggickeomeidaaDoor.Plain Go.Proofs.YtbggickeomeidaaDoor.PlainT Go.Proofs.YtbggickeomeidaaDoor.PlainTx Go.Proofs.YtbggickeomeidaaDoor.PlainSp Go.Proofs.YtbggickeomeidaaDoor.PlainSq Go.Proofs.YtbggickeomeidaaDoor.WalkN Go.Proofs.YtbggickeomeidaaDoor.WalkP Go.Proofs.YtbggickeomeidaaDoor.Words Go.Proofs.YtbggickeomeidaaDoor.Ints Go.Proofs.YtbggickeomeidaaDoor.WalkI Go.Proofs.YtbggickeomeidaaDoor.Cells Go.Proofs.YtbggickeomeidaaDoor.Text Go.Proofs.YtbggickeomeidaaDoor.WalkTx Go.Proofs.YtbggickeomeidaaDoor.WalkLT Go.Proofs.YtbggickeomeidaaDoor.WalkLU Go.Proofs.YtbggickeomeidaaDoor.WalkRD Go.Proofs.YtbggickeomeidaaDoor.WalkRI Go.Proofs.YtbggickeomeidaaDoor.WalkSp Go.Proofs.YtbggickeomeidaaDoor.WalkSq
open Go.Proofs.YtbggickeomeidaaDoor.WalkRb (Env2)
set_option linter.unusedVariables false
set_option linter.unusedSimpArgs false

/-- the point with a text -/
def ptF (l : List UInt8) : Option (Int × Int) :=
  match splF 44 l with
  | [a, b] => match numF a, numF b with
    | some x, some y => if okP x y = true then some (x, y) else none
    | _, _ => none
  | _ => none
def ptV (l : List UInt8) : Value := match ptF l with | some (x, y) => .tuple #[.agg #[.int .i64 x, .int .i64 y], .bool true] | none => .tuple #[.agg #[.int .i64 0, .int .i64 0], .bool false]
theorem ptV_no {l : List UInt8} (h : ptF l = none) : ptV l = .tuple #[.agg #[.int .i64 0, .int .i64 0], .bool false] := by unfold ptV; rw [h]
theorem ptV_yes {l : List UInt8} {x y : Int} (h : ptF l = some (x, y)) : ptV l = .tuple #[.agg #[.int .i64 x, .int .i64 y], .bool true] := by unfold ptV; rw [h]
theorem ptF_len {l : List UInt8} (h : (splF 44 l).length ≠ 2) : ptF l = none := by
  unfold ptF
  split
  · rename_i a b e
    rw [e] at h
    exact absurd rfl h
  · rfl
theorem ptF_two {l a b : List UInt8} (h : splF 44 l = [a, b]) : ptF l = (match numF a, numF b with
    | some x, some y => if okP x y = true then some (x, y) else none
    | _, _ => none) := by unfold ptF; rw [h]
theorem two_of {α : Type} {l : List α} (h : l.length = 2) : ∃ a b, l = [a, b] := by
  match l, h with
  | [a, b], _ => exact ⟨a, b, rfl⟩
theorem ok_big {x y : Int} (h : okP x y = true) : big x = true ∧ big y = true := by
  have b := okP_yes h
  exact ⟨decide_eq_true (by omega), decide_eq_true (by omega)⟩
/-- a point that the program's way finds is the reference's, and the other way round -/
theorem pt_text {l a b : List UInt8} {x y : Int} (h : splF 44 l = [a, b]) (ha : numF a = some x) (hb : numF b = some y) : (ptxt x y).data.toList = l := by
  have e1 := numF_itoa ha
  have e2 := numF_itoa hb
  have hj := splF_join 44 l
  rw [h] at hj
  unfold ptxt txt
  rw [ByteArray.data_append, ByteArray.data_append, Array.toList_append, Array.toList_append, e1, e2, ← hj]
  simp [Lib.join]
theorem pt_read {l a b : List UInt8} {x y : Int} (h : splF 44 l = [a, b]) (ha : numF a = some x) (hb : numF b = some y) (ho : okP x y = true) : readF l = some [x, y] := by
  have hn : numsF (splF 44 l) = some [x, y] := by
    rw [h]
    simp [numsF, ha, hb]
  have hg := ok_big ho
  refine readF_some (fun e => ?_) (by rw [h]; simp) hn (by simp [hg.1, hg.2])
  rw [e] at h
  simp [splF] at h
theorem pt_back {l : List UInt8} {x y : Int} (h : readF l = some [x, y]) : ∃ a b, splF 44 l = [a, b] ∧ numF a = some x ∧ numF b = some y := by
  have hd : l ≠ [45] := fun e => by rw [e, readF_dash] at h; cases h
  have hn : numsF (splF 44 l) = some [x, y] := by
    unfold readF at h
    rw [if_neg hd] at h
    split at h
    · cases h
    · cases hn : numsF (splF 44 l) with
      | none => rw [hn] at h; cases h
      | some zs =>
        rw [hn] at h
        simp only at h
        split at h
        · rw [h]
        · cases h
  obtain ⟨a, b, hab⟩ := two_of (by have := numsF_len hn; exact this.symm)
  rw [hab] at hn
  unfold numsF at hn
  cases ha : numF a with
  | none => rw [ha] at hn; cases hn
  | some x' =>
    rw [ha] at hn
    simp only at hn
    unfold numsF at hn
    cases hb : numF b with
    | none => rw [hb] at hn; cases hn
    | some y' =>
      rw [hb] at hn
      simp [numsF] at hn
      obtain ⟨rfl, rfl⟩ := hn
      exact ⟨a, b, hab, ha, hb⟩
theorem pt_impl_yes {s : ByteArray} {x y : Int} (h : readF s.data.toList = some [x, y]) (ht : ptR x y = s) : ptF s.data.toList = some (x, y) := by
  obtain ⟨a, b, hab, ha, hb⟩ := pt_back h
  rw [ptF_two hab, ha, hb]
  simp only
  rw [if_pos]
  cases ho : okP x y
  · rw [ptR_no ho] at ht
    subst ht
    rw [show ((⟨#[]⟩ : ByteArray).data.toList) = [] from rfl] at hab
    simp [splF] at hab
  · rfl
theorem pt_impl_no {s : ByteArray} {x y : Int} (h : readF s.data.toList = some [x, y]) (ht : ptR x y ≠ s) : ptF s.data.toList = none := by
  obtain ⟨a, b, hab, ha, hb⟩ := pt_back h
  rw [ptF_two hab, ha, hb]
  simp only
  rw [if_neg]
  intro ho
  apply ht
  rw [ptR_yes ho]
  apply ByteArray.ext
  exact Array.toList_inj.1 (pt_text hab ha hb)
theorem pt_impl_none {s : ByteArray} (h : ∀ x y, readF s.data.toList ≠ some [x, y]) : ptF s.data.toList = none := by
  by_cases hl : (splF 44 s.data.toList).length = 2
  · obtain ⟨a, b, hab⟩ := two_of hl
    rw [ptF_two hab]
    cases ha : numF a with
    | none => rfl
    | some x =>
      cases hb : numF b with
      | none => rfl
      | some y =>
        simp only
        rw [if_neg]
        intro ho
        exact h x y (pt_read hab ha hb ho)
  · exact ptF_len hl

theorem split2 {s : ByteArray} {a b : List UInt8} (h : splF 44 s.data.toList = [a, b]) (w : World) (hs : s.size ≤ 1048576) :
    Calls Tryd.prog 37 #[.string s, .int .u8 44] w fun e w' => ∃ (g q : Nat), e = .returned (.slice (some ⟨g, 0, none⟩) 2 q) ∧ g < w'.heap.size ∧ w'.cell? ⟨g, 0, none⟩ = some (.string (bs a)) ∧ w'.cell? ⟨g, 1, none⟩ = some (.string (bs b)) ∧ Below w.heap.size w w' :=
  (specSplit s 44 44 rfl w hs).mono fun e w' ⟨A, n, q, he, hn, ht, hb⟩ => by
    rw [h] at hn ht
    subst hn
    obtain ⟨g, rfl, h1, h2, hc, _⟩ := ht.at_ (j := 0) (by simp)
    obtain ⟨g', e', _, _, hc', _⟩ := ht.at_ (j := 1) (by simp)
    injection e' with e'
    injection e' with e' _
    subst e'
    exact ⟨g, q, he, h2, hc, hc', hb⟩
theorem splitNot {s : ByteArray} (h : (splF 44 s.data.toList).length ≠ 2) (w : World) (hs : s.size ≤ 1048576) :
    Calls Tryd.prog 37 #[.string s, .int .u8 44] w fun e w' => ∃ (A : Option Addr) (n q : Nat), e = .returned (.slice A n q) ∧ ((n : Int) == 2) = false ∧ Below w.heap.size w w' :=
  (specSplit s 44 44 rfl w hs).mono fun e w' ⟨A, n, q, he, hn, ht, hb⟩ => ⟨A, n, q, he, by rw [beq_eq_false_iff_ne]; omega, hb⟩

set_option maxHeartbeats 1000000 in
theorem specPr (s : ByteArray) (w : World) (hs : s.size ≤ 1048576) : Calls Tryd.prog 41 #[.string s] w fun e w' => e = .returned (ptV s.data.toList) ∧ Below w.heap.size w w' := by
  by_cases h2 : (splF 44 s.data.toList).length = 2
  · obtain ⟨a, b, hab⟩ := two_of h2
    have S := Lib.hid (fun W => split2 hab W hs)
    have hp := ptF_two hab
    have hm := splF_le2 44 s.data.toList
    rw [hab, ← Lib.size_eq] at hm
    have ha9 := hm a (by simp)
    have hb9 := hm b (by simp)
    have N0 := fun W => specNum (bs a) W (by rw [bs_size]; omega)
    have N1 := fun W => specNum (bs b) W (by rw [bs_size]; omega)
    simp only [bs_list] at N0 N1
    clear hm ha9 hb9 h2 hab
    generalize hta : bs a = ta at S N0
    generalize htb : bs b = tb at S N1
    clear hta htb
    have OK := Lib.hid (fun x y W => specOk x y W)
    cases na : numF a with
    | none =>
      rw [na] at hp
      have HR := Lib.hid (ptV_no hp)
      cases nb : numF b with
      | none =>
        simp only [rdV_no na, rdV_no nb] at N0 N1
        have A := Lib.hid N0
        have B := Lib.hid N1
        clear hp na nb N0 N1
        go_enter Tryd.func41, Tryd.ntmps41
        go_wp2_with (first | (go_at_call 37; refine (S.out _).mono ?_; rintro e w1 ⟨g, q, rfl, hg, c0, c1, hb1⟩; have z1 := hb1.size; (try simp at z1); obtain ⟨hc1, hf1⟩ := bcell hb1; have lt1 : w.heap.size < w1.heap.size := (by omega)) | (go_at_call 34; first | ((with_reducible refine (A.out _).mono ?_); rintro e w' ⟨rfl, rfl⟩) | ((with_reducible refine (B.out _).mono ?_); rintro e w' ⟨rfl, rfl⟩)) | (go_at_call 46; refine (OH.out _).mono ?_; rintro e w' ⟨rfl, rfl⟩))
        refine ret_world fun W hW => ?_
        have d0 : W.cell? ⟨w.heap.size, 0, none⟩ = some (.int .i64 0) := by rw [hW]; (((try dsimp only); (repeat' apply And.intro) <;> (repeat (first | with_reducible assumption | (with_reducible refine keep_drew ?_) | (with_reducible refine keep_drewN ?_) | ((with_reducible refine keep_new _ _ _ _ _ _ ?_ ?_) <;> (first | rfl | (simp; done) | omega)) | (with_reducible refine keep_alloc _ ?_) | ((with_reducible refine keep_set _ ?_ ?_); (focus first | omega | (simp; done) | (simp; omega))) | ((with_reducible refine keep_set' _ ?_ ?_); (focus first | omega | (simp; done))) | ((with_reducible refine keep_same (u := ?_) _ ?_); rotate_left) | ((with_reducible refine keep_setA _ ?_ ?_); (focus first | omega | (simp; done) | (simp; omega))) | ((with_reducible refine keep_below (w := ?_) ?_ ?_); rotate_left; (with_reducible assumption))))))
        have d1 : W.cell? ⟨w.heap.size, 1, none⟩ = some (.int .i64 0) := by rw [hW]; (((try dsimp only); (repeat' apply And.intro) <;> (repeat (first | with_reducible assumption | (with_reducible refine keep_drew ?_) | (with_reducible refine keep_drewN ?_) | ((with_reducible refine keep_new _ _ _ _ _ _ ?_ ?_) <;> (first | rfl | (simp; done) | omega)) | (with_reducible refine keep_alloc _ ?_) | ((with_reducible refine keep_set _ ?_ ?_); (focus first | omega | (simp; done) | (simp; omega))) | ((with_reducible refine keep_set' _ ?_ ?_); (focus first | omega | (simp; done))) | ((with_reducible refine keep_same (u := ?_) _ ?_); rotate_left) | ((with_reducible refine keep_setA _ ?_ ?_); (focus first | omega | (simp; done) | (simp; omega))) | ((with_reducible refine keep_below (w := ?_) ?_ ?_); rotate_left; (with_reducible assumption))))))
        exact bodyPost_ret (v := ptV s.data.toList) (by rw [HR.out]; simp [results, Tryd.results41, go_sem, d0, d1]) rfl ⟨rfl, by rw [hW]; exact (by repeat (first | with_reducible exact Below.refl _ _ | with_reducible assumption | (with_reducible refine Below.drew ?_) | (with_reducible refine below_drewN ?_ _) | ((with_reducible refine Below.alloc ?_ ?_ _); rotate_left; (focus first | exact Nat.le_refl _ | omega | (simp; done) | (simp; omega))) | ((with_reducible refine Below.setCell ?_ ?_ _); rotate_left; (focus first | exact Nat.le_refl _ | omega | (simp; done) | (simp; omega))) | ((with_reducible refine below_via (W := ?_) ?_ ?_ ?_); rotate_left; (with_reducible assumption); rotate_left; (focus first | exact Nat.le_refl _ | omega | (simp; done) | (simp; omega)))))⟩
      | some y =>
        simp only [rdV_no na, rdV_yes nb] at N0 N1
        have A := Lib.hid N0
        have B := Lib.hid N1
        clear hp na nb N0 N1
        go_enter Tryd.func41, Tryd.ntmps41
        go_wp2_with (first | (go_at_call 37; refine (S.out _).mono ?_; rintro e w1 ⟨g, q, rfl, hg, c0, c1, hb1⟩; have z1 := hb1.size; (try simp at z1); obtain ⟨hc1, hf1⟩ := bcell hb1; have lt1 : w.heap.size < w1.heap.size := (by omega)) | (go_at_call 34; first | ((with_reducible refine (A.out _).mono ?_); rintro e w' ⟨rfl, rfl⟩) | ((with_reducible refine (B.out _).mono ?_); rintro e w' ⟨rfl, rfl⟩)) | (go_at_call 46; refine (OH.out _).mono ?_; rintro e w' ⟨rfl, rfl⟩))
        refine ret_world fun W hW => ?_
        have d0 : W.cell? ⟨w.heap.size, 0, none⟩ = some (.int .i64 0) := by rw [hW]; (((try dsimp only); (repeat' apply And.intro) <;> (repeat (first | with_reducible assumption | (with_reducible refine keep_drew ?_) | (with_reducible refine keep_drewN ?_) | ((with_reducible refine keep_new _ _ _ _ _ _ ?_ ?_) <;> (first | rfl | (simp; done) | omega)) | (with_reducible refine keep_alloc _ ?_) | ((with_reducible refine keep_set _ ?_ ?_); (focus first | omega | (simp; done) | (simp; omega))) | ((with_reducible refine keep_set' _ ?_ ?_); (focus first | omega | (simp; done))) | ((with_reducible refine keep_same (u := ?_) _ ?_); rotate_left) | ((with_reducible refine keep_setA _ ?_ ?_); (focus first | omega | (simp; done) | (simp; omega))) | ((with_reducible refine keep_below (w := ?_) ?_ ?_); rotate_left; (with_reducible assumption))))))
        have d1 : W.cell? ⟨w.heap.size, 1, none⟩ = some (.int .i64 0) := by rw [hW]; (((try dsimp only); (repeat' apply And.intro) <;> (repeat (first | with_reducible assumption | (with_reducible refine keep_drew ?_) | (with_reducible refine keep_drewN ?_) | ((with_reducible refine keep_new _ _ _ _ _ _ ?_ ?_) <;> (first | rfl | (simp; done) | omega)) | (with_reducible refine keep_alloc _ ?_) | ((with_reducible refine keep_set _ ?_ ?_); (focus first | omega | (simp; done) | (simp; omega))) | ((with_reducible refine keep_set' _ ?_ ?_); (focus first | omega | (simp; done))) | ((with_reducible refine keep_same (u := ?_) _ ?_); rotate_left) | ((with_reducible refine keep_setA _ ?_ ?_); (focus first | omega | (simp; done) | (simp; omega))) | ((with_reducible refine keep_below (w := ?_) ?_ ?_); rotate_left; (with_reducible assumption))))))
        exact bodyPost_ret (v := ptV s.data.toList) (by rw [HR.out]; simp [results, Tryd.results41, go_sem, d0, d1]) rfl ⟨rfl, by rw [hW]; exact (by repeat (first | with_reducible exact Below.refl _ _ | with_reducible assumption | (with_reducible refine Below.drew ?_) | (with_reducible refine below_drewN ?_ _) | ((with_reducible refine Below.alloc ?_ ?_ _); rotate_left; (focus first | exact Nat.le_refl _ | omega | (simp; done) | (simp; omega))) | ((with_reducible refine Below.setCell ?_ ?_ _); rotate_left; (focus first | exact Nat.le_refl _ | omega | (simp; done) | (simp; omega))) | ((with_reducible refine below_via (W := ?_) ?_ ?_ ?_); rotate_left; (with_reducible assumption); rotate_left; (focus first | exact Nat.le_refl _ | omega | (simp; done) | (simp; omega)))))⟩
    | some x =>
      rw [na] at hp
      cases nb : numF b with
      | none =>
        rw [nb] at hp
        have HR := Lib.hid (ptV_no hp)
        simp only [rdV_yes na, rdV_no nb] at N0 N1
        have A := Lib.hid N0
        have B := Lib.hid N1
        clear hp na nb N0 N1
        go_enter Tryd.func41, Tryd.ntmps41
        go_wp2_with (first | (go_at_call 37; refine (S.out _).mono ?_; rintro e w1 ⟨g, q, rfl, hg, c0, c1, hb1⟩; have z1 := hb1.size; (try simp at z1); obtain ⟨hc1, hf1⟩ := bcell hb1; have lt1 : w.heap.size < w1.heap.size := (by omega)) | (go_at_call 34; first | ((with_reducible refine (A.out _).mono ?_); rintro e w' ⟨rfl, rfl⟩) | ((with_reducible refine (B.out _).mono ?_); rintro e w' ⟨rfl, rfl⟩)) | (go_at_call 46; refine (OH.out _).mono ?_; rintro e w' ⟨rfl, rfl⟩))
        refine ret_world fun W hW => ?_
        have d0 : W.cell? ⟨w.heap.size, 0, none⟩ = some (.int .i64 0) := by rw [hW]; (((try dsimp only); (repeat' apply And.intro) <;> (repeat (first | with_reducible assumption | (with_reducible refine keep_drew ?_) | (with_reducible refine keep_drewN ?_) | ((with_reducible refine keep_new _ _ _ _ _ _ ?_ ?_) <;> (first | rfl | (simp; done) | omega)) | (with_reducible refine keep_alloc _ ?_) | ((with_reducible refine keep_set _ ?_ ?_); (focus first | omega | (simp; done) | (simp; omega))) | ((with_reducible refine keep_set' _ ?_ ?_); (focus first | omega | (simp; done))) | ((with_reducible refine keep_same (u := ?_) _ ?_); rotate_left) | ((with_reducible refine keep_setA _ ?_ ?_); (focus first | omega | (simp; done) | (simp; omega))) | ((with_reducible refine keep_below (w := ?_) ?_ ?_); rotate_left; (with_reducible assumption))))))
        have d1 : W.cell? ⟨w.heap.size, 1, none⟩ = some (.int .i64 0) := by rw [hW]; (((try dsimp only); (repeat' apply And.intro) <;> (repeat (first | with_reducible assumption | (with_reducible refine keep_drew ?_) | (with_reducible refine keep_drewN ?_) | ((with_reducible refine keep_new _ _ _ _ _ _ ?_ ?_) <;> (first | rfl | (simp; done) | omega)) | (with_reducible refine keep_alloc _ ?_) | ((with_reducible refine keep_set _ ?_ ?_); (focus first | omega | (simp; done) | (simp; omega))) | ((with_reducible refine keep_set' _ ?_ ?_); (focus first | omega | (simp; done))) | ((with_reducible refine keep_same (u := ?_) _ ?_); rotate_left) | ((with_reducible refine keep_setA _ ?_ ?_); (focus first | omega | (simp; done) | (simp; omega))) | ((with_reducible refine keep_below (w := ?_) ?_ ?_); rotate_left; (with_reducible assumption))))))
        exact bodyPost_ret (v := ptV s.data.toList) (by rw [HR.out]; simp [results, Tryd.results41, go_sem, d0, d1]) rfl ⟨rfl, by rw [hW]; exact (by repeat (first | with_reducible exact Below.refl _ _ | with_reducible assumption | (with_reducible refine Below.drew ?_) | (with_reducible refine below_drewN ?_ _) | ((with_reducible refine Below.alloc ?_ ?_ _); rotate_left; (focus first | exact Nat.le_refl _ | omega | (simp; done) | (simp; omega))) | ((with_reducible refine Below.setCell ?_ ?_ _); rotate_left; (focus first | exact Nat.le_refl _ | omega | (simp; done) | (simp; omega))) | ((with_reducible refine below_via (W := ?_) ?_ ?_ ?_); rotate_left; (with_reducible assumption); rotate_left; (focus first | exact Nat.le_refl _ | omega | (simp; done) | (simp; omega)))))⟩
      | some y =>
        rw [nb] at hp
        simp only at hp
        simp only [rdV_yes na, rdV_yes nb] at N0 N1
        have A := Lib.hid N0
        have B := Lib.hid N1
        have O := fun W => specOk x y W
        cases ho : okP x y
        · rw [if_neg (by rw [ho]; simp)] at hp
          have HR := Lib.hid (ptV_no hp)
          rw [ho] at O
          have OH := Lib.hid O
          clear hp na nb N0 N1 O ho
          go_enter Tryd.func41, Tryd.ntmps41
          go_wp2_with (first | (go_at_call 37; refine (S.out _).mono ?_; rintro e w1 ⟨g, q, rfl, hg, c0, c1, hb1⟩; have z1 := hb1.size; (try simp at z1); obtain ⟨hc1, hf1⟩ := bcell hb1; have lt1 : w.heap.size < w1.heap.size := (by omega)) | (go_at_call 34; first | ((with_reducible refine (A.out _).mono ?_); rintro e w' ⟨rfl, rfl⟩) | ((with_reducible refine (B.out _).mono ?_); rintro e w' ⟨rfl, rfl⟩)) | (go_at_call 46; refine (OH.out _).mono ?_; rintro e w' ⟨rfl, rfl⟩))
          refine ret_world fun W hW => ?_
          have d0 : W.cell? ⟨w.heap.size, 0, none⟩ = some (.int .i64 0) := by rw [hW]; (((try dsimp only); (repeat' apply And.intro) <;> (repeat (first | with_reducible assumption | (with_reducible refine keep_drew ?_) | (with_reducible refine keep_drewN ?_) | ((with_reducible refine keep_new _ _ _ _ _ _ ?_ ?_) <;> (first | rfl | (simp; done) | omega)) | (with_reducible refine keep_alloc _ ?_) | ((with_reducible refine keep_set _ ?_ ?_); (focus first | omega | (simp; done) | (simp; omega))) | ((with_reducible refine keep_set' _ ?_ ?_); (focus first | omega | (simp; done))) | ((with_reducible refine keep_same (u := ?_) _ ?_); rotate_left) | ((with_reducible refine keep_setA _ ?_ ?_); (focus first | omega | (simp; done) | (simp; omega))) | ((with_reducible refine keep_below (w := ?_) ?_ ?_); rotate_left; (with_reducible assumption))))))
          have d1 : W.cell? ⟨w.heap.size, 1, none⟩ = some (.int .i64 0) := by rw [hW]; (((try dsimp only); (repeat' apply And.intro) <;> (repeat (first | with_reducible assumption | (with_reducible refine keep_drew ?_) | (with_reducible refine keep_drewN ?_) | ((with_reducible refine keep_new _ _ _ _ _ _ ?_ ?_) <;> (first | rfl | (simp; done) | omega)) | (with_reducible refine keep_alloc _ ?_) | ((with_reducible refine keep_set _ ?_ ?_); (focus first | omega | (simp; done) | (simp; omega))) | ((with_reducible refine keep_set' _ ?_ ?_); (focus first | omega | (simp; done))) | ((with_reducible refine keep_same (u := ?_) _ ?_); rotate_left) | ((with_reducible refine keep_setA _ ?_ ?_); (focus first | omega | (simp; done) | (simp; omega))) | ((with_reducible refine keep_below (w := ?_) ?_ ?_); rotate_left; (with_reducible assumption))))))
          exact bodyPost_ret (v := ptV s.data.toList) (by rw [HR.out]; simp [results, Tryd.results41, go_sem, d0, d1]) rfl ⟨rfl, by rw [hW]; exact (by repeat (first | with_reducible exact Below.refl _ _ | with_reducible assumption | (with_reducible refine Below.drew ?_) | (with_reducible refine below_drewN ?_ _) | ((with_reducible refine Below.alloc ?_ ?_ _); rotate_left; (focus first | exact Nat.le_refl _ | omega | (simp; done) | (simp; omega))) | ((with_reducible refine Below.setCell ?_ ?_ _); rotate_left; (focus first | exact Nat.le_refl _ | omega | (simp; done) | (simp; omega))) | ((with_reducible refine below_via (W := ?_) ?_ ?_ ?_); rotate_left; (with_reducible assumption); rotate_left; (focus first | exact Nat.le_refl _ | omega | (simp; done) | (simp; omega)))))⟩
        · rw [if_pos ho] at hp
          have HR := Lib.hid (ptV_yes hp)
          rw [ho] at O
          have OH := Lib.hid O
          clear hp na nb N0 N1 O ho
          go_enter Tryd.func41, Tryd.ntmps41
          go_wp2_with (first | (go_at_call 37; refine (S.out _).mono ?_; rintro e w1 ⟨g, q, rfl, hg, c0, c1, hb1⟩; have z1 := hb1.size; (try simp at z1); obtain ⟨hc1, hf1⟩ := bcell hb1; have lt1 : w.heap.size < w1.heap.size := (by omega)) | (go_at_call 34; first | ((with_reducible refine (A.out _).mono ?_); rintro e w' ⟨rfl, rfl⟩) | ((with_reducible refine (B.out _).mono ?_); rintro e w' ⟨rfl, rfl⟩)) | (go_at_call 46; refine (OH.out _).mono ?_; rintro e w' ⟨rfl, rfl⟩))
          refine ret_world fun W hW => ?_
          have d0 : W.cell? ⟨w.heap.size, 0, none⟩ = some (.int .i64 x) := by rw [hW]; (((try dsimp only); (repeat' apply And.intro) <;> (repeat (first | with_reducible assumption | (with_reducible refine keep_drew ?_) | (with_reducible refine keep_drewN ?_) | ((with_reducible refine keep_new _ _ _ _ _ _ ?_ ?_) <;> (first | rfl | (simp; done) | omega)) | (with_reducible refine keep_alloc _ ?_) | ((with_reducible refine keep_set _ ?_ ?_); (focus first | omega | (simp; done) | (simp; omega))) | ((with_reducible refine keep_set' _ ?_ ?_); (focus first | omega | (simp; done))) | ((with_reducible refine keep_same (u := ?_) _ ?_); rotate_left) | ((with_reducible refine keep_setA _ ?_ ?_); (focus first | omega | (simp; done) | (simp; omega))) | ((with_reducible refine keep_below (w := ?_) ?_ ?_); rotate_left; (with_reducible assumption))))))
          have d1 : W.cell? ⟨w.heap.size, 1, none⟩ = some (.int .i64 y) := by rw [hW]; (((try dsimp only); (repeat' apply And.intro) <;> (repeat (first | with_reducible assumption | (with_reducible refine keep_drew ?_) | (with_reducible refine keep_drewN ?_) | ((with_reducible refine keep_new _ _ _ _ _ _ ?_ ?_) <;> (first | rfl | (simp; done) | omega)) | (with_reducible refine keep_alloc _ ?_) | ((with_reducible refine keep_set _ ?_ ?_); (focus first | omega | (simp; done) | (simp; omega))) | ((with_reducible refine keep_set' _ ?_ ?_); (focus first | omega | (simp; done))) | ((with_reducible refine keep_same (u := ?_) _ ?_); rotate_left) | ((with_reducible refine keep_setA _ ?_ ?_); (focus first | omega | (simp; done) | (simp; omega))) | ((with_reducible refine keep_below (w := ?_) ?_ ?_); rotate_left; (with_reducible assumption))))))
          exact bodyPost_ret (v := ptV s.data.toList) (by rw [HR.out]; simp [results, Tryd.results41, go_sem, d0, d1]) rfl ⟨rfl, by rw [hW]; exact (by repeat (first | with_reducible exact Below.refl _ _ | with_reducible assumption | (with_reducible refine Below.drew ?_) | (with_reducible refine below_drewN ?_ _) | ((with_reducible refine Below.alloc ?_ ?_ _); rotate_left; (focus first | exact Nat.le_refl _ | omega | (simp; done) | (simp; omega))) | ((with_reducible refine Below.setCell ?_ ?_ _); rotate_left; (focus first | exact Nat.le_refl _ | omega | (simp; done) | (simp; omega))) | ((with_reducible refine below_via (W := ?_) ?_ ?_ ?_); rotate_left; (with_reducible assumption); rotate_left; (focus first | exact Nat.le_refl _ | omega | (simp; done) | (simp; omega)))))⟩
  · have HR := Lib.hid (ptV_no (ptF_len h2))
    have S := Lib.hid (fun W => splitNot h2 W hs)
    clear h2
    go_enter Tryd.func41, Tryd.ntmps41
    go_wp2_with (go_at_call 37; refine (S.out _).mono ?_; rintro e w1 ⟨A, n, q, rfl, hn2, hb1⟩; have z1 := hb1.size; (try simp at z1); obtain ⟨hc1, hf1⟩ := bcell hb1)
    refine ret_world fun W hW => ?_
    have d0 : W.cell? ⟨w.heap.size, 0, none⟩ = some (.int .i64 0) := by rw [hW]; (((try dsimp only); (repeat' apply And.intro) <;> (repeat (first | with_reducible assumption | (with_reducible refine keep_drew ?_) | (with_reducible refine keep_drewN ?_) | ((with_reducible refine keep_new _ _ _ _ _ _ ?_ ?_) <;> (first | rfl | (simp; done) | omega)) | (with_reducible refine keep_alloc _ ?_) | ((with_reducible refine keep_set _ ?_ ?_); (focus first | omega | (simp; done) | (simp; omega))) | ((with_reducible refine keep_set' _ ?_ ?_); (focus first | omega | (simp; done))) | ((with_reducible refine keep_same (u := ?_) _ ?_); rotate_left) | ((with_reducible refine keep_setA _ ?_ ?_); (focus first | omega | (simp; done) | (simp; omega))) | ((with_reducible refine keep_below (w := ?_) ?_ ?_); rotate_left; (with_reducible assumption))))))
    have d1 : W.cell? ⟨w.heap.size, 1, none⟩ = some (.int .i64 0) := by rw [hW]; (((try dsimp only); (repeat' apply And.intro) <;> (repeat (first | with_reducible assumption | (with_reducible refine keep_drew ?_) | (with_reducible refine keep_drewN ?_) | ((with_reducible refine keep_new _ _ _ _ _ _ ?_ ?_) <;> (first | rfl | (simp; done) | omega)) | (with_reducible refine keep_alloc _ ?_) | ((with_reducible refine keep_set _ ?_ ?_); (focus first | omega | (simp; done) | (simp; omega))) | ((with_reducible refine keep_set' _ ?_ ?_); (focus first | omega | (simp; done))) | ((with_reducible refine keep_same (u := ?_) _ ?_); rotate_left) | ((with_reducible refine keep_setA _ ?_ ?_); (focus first | omega | (simp; done) | (simp; omega))) | ((with_reducible refine keep_below (w := ?_) ?_ ?_); rotate_left; (with_reducible assumption))))))
    exact bodyPost_ret (v := ptV s.data.toList) (by rw [HR.out]; simp [results, Tryd.results41, go_sem, d0, d1]) rfl ⟨rfl, by rw [hW]; exact (by repeat (first | with_reducible exact Below.refl _ _ | with_reducible assumption | (with_reducible refine Below.drew ?_) | (with_reducible refine below_drewN ?_ _) | ((with_reducible refine Below.alloc ?_ ?_ _); rotate_left; (focus first | exact Nat.le_refl _ | omega | (simp; done) | (simp; omega))) | ((with_reducible refine Below.setCell ?_ ?_ _); rotate_left; (focus first | exact Nat.le_refl _ | omega | (simp; done) | (simp; omega))) | ((with_reducible refine below_via (W := ?_) ?_ ?_ ?_); rotate_left; (with_reducible assumption); rotate_left; (focus first | exact Nat.le_refl _ | omega | (simp; done) | (simp; omega)))))⟩

end Go.Proofs.YtbggickeomeidaaDoor.WalkPt
