/- TurnProfile: the reference's and the program's. -/
import Derived.Test.YtgondkjephojjaaWalkK
import Derived.Test.YtgondkjephojjaaWalkRV
import Derived.Deep.RegionHeld3
import Derived.Deep.RegionWith
import Derived.Deep.RegionLaw
import Derived.Deep.DeepCutAuto
namespace Go.Proofs.Ytgondkjephojjaa.WalkTP
open Go Go.RowKit Go.Proofs.Ytgondkjephojjaa.Base Go.Proofs.Ytgondkjephojjaa.Plain Go.Proofs.Ytgondkjephojjaa.Words Go.Proofs.Ytgondkjephojjaa.Ints Go.Proofs.Ytgondkjephojjaa.WalkN Go.Proofs.Ytgondkjephojjaa.WalkP Go.Proofs.Ytgondkjephojjaa.WalkI Go.Proofs.Ytgondkjephojjaa.WalkU Go.Proofs.Ytgondkjephojjaa.PlainT Go.Proofs.Ytgondkjephojjaa.WalkK Go.Proofs.Ytgondkjephojjaa.WalkQ Go.Proofs.Ytgondkjephojjaa.WalkRV
set_option linter.unusedVariables false
set_option linter.unusedSimpArgs false

/-- appending to a row of one's own, as one step of a region that draws -/
theorem step_append_own {P : Program} {ops : Array Oper} {o : Oper} {a : Act} {w : World} {K : Act → World → Prop} {Q : Exit → Act → World → Prop} {E : Prop}
    (hg : o.guard = none) (s x : Operand) (t : TypeId) (hop : o.op = Op.call { callee := Callee.builtin Builtin.append, args := #[s, x], argTypes := #[t, t] })
    (base : Nat) (e : TypeId) (i : TypeInfo) (z : Value) (size bytes : Nat) (h1 : P.underlying t = some (.slice e)) (h2 : P.info? e = some i) (h3 : i.zero = some z) (h4 : i.size = size) (h5 : i.bytes = bytes) (h6 : z.cells.size = size) (h7 : 0 < size)
    (v : Value) (n : Nat) (xs : List Value) (hs : a.eval s = v) (hown : w.ownsRow base e size v n xs)
    (ad : Addr) (m c : Nat) (news : List Value) (hx : a.eval x = .slice (some ad) m c) (hn : news.length = m * size) (hc : ∀ j u, news[j]? = some u → w.cell? (ad.add j) = some u) (h1c : ∀ u ∈ news, u.oneCell' = true)
    (b1 : n + m ≤ maxLen) (b2 : (n + m) * bytes ≤ 140737488355328) (hbase : base ≤ w.heap.size)
    (hK : ∀ v' w', w'.ownsRow base e size v' (n + m) (xs ++ news) → w.grownBy w' v.ownBlock → K (a.put o.dst v') w') :
    if Region.wanted o (yielded ops a.tmps) = true then Oper.wp P o a w K Q else E := by
  have hw : Region.wanted o (yielded ops a.tmps) = true := by simp [Region.wanted, hg]
  rw [if_pos hw]
  obtain ⟨v', w', hrun, r1, r2, _⟩ := run_append_own (P := P) w base t o.type e i z size bytes h1 h2 h3 h4 h5 h6 h7 v n xs hown ad m c news hn hc h1c b1 b2 hbase
  unfold Oper.wp
  simp [execOp, hop, resolve, invoke, builtin, hs, hx, hrun, Result.andThen]
  exact hK v' w' r1 r2

theorem gr_own {w w1 : World} {B : Option Addr} {k q : Nat} (h : w.grownBy w1 (Value.slice B k q).ownBlock) : Gr w w1 B := by
  cases B <;> exact h
theorem blk_gr {w w1 : World} {B : Option Addr} {g : Nat} {t : TypeId} {cs : Array Value} (hg : Gr w w1 B) (hne : ∀ a, B = some a → a.block ≠ g) (h : Blk w g t cs) : Blk w1 g t cs :=
  (hg.block g h.lt (by
    intro e
    rcases B with _ | b
    · cases e
    · injection e with e
      exact hne b rfl e.symm)).trans h
theorem one_news (W : World) (z : Int) (t : TypeId) : ∀ j u, [Value.int .i64 z][j]? = some u → (W.alloc (.cells #[.int .i64 z] t)).cell? ((⟨W.heap.size, 0, none⟩ : Addr).add j) = some u := by
  intro j u hu
  rcases j with _ | j
  · simp at hu
    subst hu
    exact (Blk.new W t #[.int .i64 z] rfl).cell 0
  · simp at hu
theorem rev_take {zs : List Int} {n k m : Nat} (hl : zs.length = n) (h : k + m + 1 = n) : vals (zs.reverse.take k) ++ [.int .i64 (zs.getD m 0)] = vals (zs.reverse.take (k + 1)) := by
  have hk : k < zs.reverse.length := by simp [hl]; omega
  have h1 : zs.reverse[k] = zs.getD m 0 := by
    have h2 := rev_get hl (show k < n by omega)
    rw [List.getD_eq_getElem?_getD, List.getElem?_eq_getElem hk, Option.getD_some] at h2
    rw [h2]
    congr 1
    omega
  rw [List.take_succ_eq_append_getElem hk, h1]
  simp [vals]

def Turned (d f l : Int) (n : Nat) (hs : List Int) (w : World) (e : Ending) (w' : World) : Prop :=
  ∃ (B : Option Addr) (q : Nat), e = .returned (.agg #[.int .i64 d, .int .i64 l, .int .i64 f, .slice B n q]) ∧ Ow w' w.heap.size B n q hs.reverse ∧ Below w.heap.size w w'

set_option maxHeartbeats 4000000 in
theorem specTurned (d f l : Int) (A : Option Addr) (n c : Nat) (hs : List Int) (pb : Nat) (w : World) (ra : Rd w A n hs) (hn : n ≤ 1048576)
    (c0 : w.cell? ⟨pb, 0, none⟩ = some (.int .i64 d)) (c1 : w.cell? ⟨pb, 1, none⟩ = some (.int .i64 f)) (c2 : w.cell? ⟨pb, 2, none⟩ = some (.int .i64 l)) (c3 : w.cell? ⟨pb, 3, none⟩ = some (.slice A n c)) :
    Calls Try.prog 75 #[.pointer (some ⟨pb, 0, none⟩)] w (Turned d f l n hs w) := by
  have hp : pb < w.heap.size := World.block_lt_of_cell? _ _ c0
  have HR := Lib.hid ra
  clear ra
  go_enter Try.func75, Try.ntmps75
  go_upto_region 1 with fail
  go_region_held3 (fun w' => w'.cell? ⟨pb, 0, none⟩ = some (.int .i64 d) ∧ w'.cell? ⟨pb, 1, none⟩ = some (.int .i64 f) ∧ w'.cell? ⟨pb, 2, none⟩ = some (.int .i64 l)) ((((try dsimp only); (repeat' apply And.intro) <;> (repeat (first | with_reducible assumption | (with_reducible refine keep_drew ?_) | (with_reducible refine keep_drewN ?_) | ((with_reducible refine keep_new _ _ _ _ _ _ ?_ ?_) <;> (first | rfl | (simp; done) | omega)) | (with_reducible refine keep_alloc _ ?_) | ((with_reducible refine keep_set _ ?_ ?_); (focus first | omega | (simp; done) | (simp; omega))) | ((with_reducible refine keep_set' _ ?_ ?_); (focus first | omega | (simp; done))) | ((with_reducible refine keep_same (u := ?_) _ ?_); rotate_left) | ((with_reducible refine keep_setA _ ?_ ?_); (focus first | omega | (simp; done) | (simp; omega))) | ((with_reducible refine keep_below (w := ?_) ?_ ?_); rotate_left; (with_reducible assumption))))))) (fail)
  obtain ⟨i0, hi, hz0, hz1, hz2⟩ := info_parts infoI
  have hl := HR.out.len
  have hp0 : pb ≠ w.heap.size := by omega
  have hp1 : pb ≠ w.heap.size + 1 := by omega
  go_wp2_with fail
  go_loopw [4] (fun i wr => ∃ k, k ≤ n ∧ i = .int .i64 ((n : Int) - 1 - k) ∧ ∃ B q, Hid (Below w.heap.size w wr) ∧ Hid (Ow wr (w.heap.size + 2) B k q (hs.reverse.take k)) ∧ Hid (Blk wr (w.heap.size + 1) 27 #[.int .i64 d, .int .i64 l, .int .i64 f, .slice B k q]) ∧ Hid (Blk wr w.heap.size 27 #[.int .i64 0, .int .i64 0, .int .i64 0, .slice none 0 0])) (fun i _ => (intOf i + 1).toNat)
  case atStart => exact ⟨0, Nat.zero_le _, by simp, none, 0, Lib.hid (by repeat (first | with_reducible exact Below.refl _ _ | with_reducible assumption | (with_reducible refine Below.drew ?_) | (with_reducible refine below_drewN ?_ _) | ((with_reducible refine Below.alloc ?_ ?_ _); rotate_left; (focus first | exact Nat.le_refl _ | omega | (simp; done) | (simp; omega))) | ((with_reducible refine Below.setCell ?_ ?_ _); rotate_left; (focus first | exact Nat.le_refl _ | omega | (simp; done) | (simp; omega))) | ((with_reducible refine below_via (W := ?_) ?_ ?_ ?_); rotate_left; (with_reducible assumption); rotate_left; (focus first | exact Nat.le_refl _ | omega | (simp; done) | (simp; omega))))), Lib.hid (Ow.nil _ _), Lib.hid (by (repeat (first | with_reducible assumption | (with_reducible refine Blk.drew ?_) | (with_reducible refine Blk.drewN ?_ _) | ((with_reducible refine Blk.new _ _ _ ?_); (focus first | rfl | (simp; done) | omega)) | (with_reducible refine Blk.alloc ?_ _) | ((with_reducible refine Blk.far ?_ _ ?_); rotate_left; (focus first | omega | (simp; done) | (simp; omega))) | ((with_reducible refine Blk.below (w := ?_) ?_ ?_); rotate_left; (with_reducible assumption))))), Lib.hid (by (repeat (first | with_reducible assumption | (with_reducible refine Blk.drew ?_) | (with_reducible refine Blk.drewN ?_ _) | ((with_reducible refine Blk.new _ _ _ ?_); (focus first | rfl | (simp; done) | omega)) | (with_reducible refine Blk.alloc ?_ _) | ((with_reducible refine Blk.far ?_ _ ?_); rotate_left; (focus first | omega | (simp; done) | (simp; omega))) | ((with_reducible refine Blk.below (w := ?_) ?_ ?_); rotate_left; (with_reducible assumption)))))⟩
  case round =>
    obtain ⟨k, hk, rfl, B, q, HB, HO, HK, HZ⟩ := hrel
    by_cases hlt : k < n
    · obtain ⟨m, hm⟩ : ∃ m, k + m + 1 = n := ⟨n - 1 - k, by omega⟩
      have ei : (n : Int) - 1 - k = (m : Int) := by omega
      rw [ei]
      obtain ⟨ad, rfl, ha⟩ := HR.out.at_ (k := m) (by omega)
      have hrt := rev_take hl hm
      obtain ⟨z, hz⟩ : ∃ z, hs.getD m 0 = z := ⟨_, rfl⟩
      rw [hz] at ha hrt
      clear hz
      have hb := HB.out
      have e3 : wr.cell? ⟨pb, 3, none⟩ = some (.slice (some ad) n c) := by (((try dsimp only); (repeat' apply And.intro) <;> (repeat (first | with_reducible assumption | (with_reducible refine keep_drew ?_) | (with_reducible refine keep_drewN ?_) | ((with_reducible refine keep_new _ _ _ _ _ _ ?_ ?_) <;> (first | rfl | (simp; done) | omega)) | (with_reducible refine keep_alloc _ ?_) | ((with_reducible refine keep_set _ ?_ ?_); (focus first | omega | (simp; done) | (simp; omega))) | ((with_reducible refine keep_set' _ ?_ ?_); (focus first | omega | (simp; done))) | ((with_reducible refine keep_same (u := ?_) _ ?_); rotate_left) | ((with_reducible refine keep_setA _ ?_ ?_); (focus first | omega | (simp; done) | (simp; omega))) | ((with_reducible refine keep_below (w := ?_) ?_ ?_); rotate_left; (with_reducible assumption))))))
      have ea : wr.cell? (ad.add m) = some (.int .i64 z) := keep_below hb ha
      have o3 := HK.out.cell 3
      have u3 := HK.out.free 3
      simp at o3
      have la := World.block_lt_of_cell? _ _ ea
      have l3 := World.block_lt_of_cell? _ _ e3
      have lo := World.block_lt_of_cell? _ _ o3
      have hmn : m < n := by omega
      go_wp2_with fail
      go_region_law (refine step_append_own rfl (.tmp 29) (.tmp 37) 22 rfl (w.heap.size + 2) 2 i0 (.int .i64 0) 1 8 Try.underlying22 hi hz0 hz1 hz2 rfl (by decide) (.slice B k q) k (vals (hs.reverse.take k)) ?_ ?_ ⟨wr.heap.size, 0, none⟩ 1 1 [.int .i64 z] ?_ rfl ?_ ?_ ?_ ?_ ?_ ?_; (focus simp [Act.eval, Act.put]); (focus exact Ow.alloc HO.out _); (focus simp [Act.eval, Act.put]); (focus exact one_news wr _ _); (focus intro u hu; simp at hu; subst hu; rfl); (focus unfold maxLen; omega); (focus omega); (focus simp; omega); intro v' w1 hown1 hgrow; rw [hrt] at hown1; obtain ⟨B', q', rfl, ho1⟩ := row_form hown1 (by omega); have g1 := gr_own hgrow; have HG := Lib.hid g1; have KO1 := blk_gr g1 (fun a e => by have h := HO.out.block e; omega) (Blk.alloc HK.out _); have o31 := KO1.cell 3; have u31 := KO1.free 3; simp at o31; have HO1 := Lib.hid ho1; have HKO := Lib.hid KO1; have HZ1 := Lib.hid (blk_gr g1 (fun a e => by have h := HO.out.block e; omega) (Blk.alloc HZ.out _)); clear hown1 hgrow g1 ho1 KO1)
      all_goals (go_wp2_with fail; go_roundw)
      all_goals first
        | (simp [intOf]; done)
        | (simp [intOf]; omega)
        | (have hb1 : Below w.heap.size _ w1 := Gr.below HG.out (fun a e => by have h := HO.out.block e; omega) (by simp; omega)
           have hb2 : Below w.heap.size w w1 := Below.trans (by clear hb1; exact (by repeat (first | with_reducible exact Below.refl _ _ | with_reducible assumption | (with_reducible refine Below.drew ?_) | (with_reducible refine below_drewN ?_ _) | ((with_reducible refine Below.alloc ?_ ?_ _); rotate_left; (focus first | exact Nat.le_refl _ | omega | (simp; done) | (simp; omega))) | ((with_reducible refine Below.setCell ?_ ?_ _); rotate_left; (focus first | exact Nat.le_refl _ | omega | (simp; done) | (simp; omega))) | ((with_reducible refine below_via (W := ?_) ?_ ?_ ?_); rotate_left; (with_reducible assumption); rotate_left; (focus first | exact Nat.le_refl _ | omega | (simp; done) | (simp; omega)))))) hb1
           clear hb1 hb
           refine ⟨k + 1, by omega, congrArg (Value.int .i64) (by omega), B', q', Lib.hid (by repeat (first | with_reducible exact Below.refl _ _ | with_reducible assumption | (with_reducible refine Below.drew ?_) | (with_reducible refine below_drewN ?_ _) | ((with_reducible refine Below.alloc ?_ ?_ _); rotate_left; (focus first | exact Nat.le_refl _ | omega | (simp; done) | (simp; omega))) | ((with_reducible refine Below.setCell ?_ ?_ _); rotate_left; (focus first | exact Nat.le_refl _ | omega | (simp; done) | (simp; omega))) | ((with_reducible refine below_via (W := ?_) ?_ ?_ ?_); rotate_left; (with_reducible assumption); rotate_left; (focus first | exact Nat.le_refl _ | omega | (simp; done) | (simp; omega))))), Lib.hid (Ow.low _ (by omega) HO1.out), Lib.hid (by have h := HKO.out.set_ 3 (.slice B' (k + 1) q'); exact h), Lib.hid (HZ1.out.far _ (by omega))⟩)
    · obtain rfl : k = n := by omega
      have ei : ((k : Nat) : Int) - 1 - k = -1 := by omega
      rw [ei]
      have et : hs.reverse.take k = hs.reverse := List.take_of_length_le (by simp; omega)
      rw [et] at HO
      have o0 := HK.out.cell 0
      have o1 := HK.out.cell 1
      have o2 := HK.out.cell 2
      have o3 := HK.out.cell 3
      have r0 := HZ.out.cell 0
      have r1 := HZ.out.cell 1
      have r2 := HZ.out.cell 2
      have r3 := HZ.out.cell 3
      have q0 := HZ.out.free 0
      have q1 := HZ.out.free 1
      have q2 := HZ.out.free 2
      have q3 := HZ.out.free 3
      simp at o0 o1 o2 o3 r0 r1 r2 r3
      go_wp2_with fail
      refine ret_world fun W hW => ?_
      have hb := HB.out
      have c0 : W.cell? ⟨w.heap.size, 0, none⟩ = some (.int .i64 d) := by rw [hW]; (((try dsimp only); (repeat' apply And.intro) <;> (repeat (first | with_reducible assumption | (with_reducible refine keep_drew ?_) | (with_reducible refine keep_drewN ?_) | ((with_reducible refine keep_new _ _ _ _ _ _ ?_ ?_) <;> (first | rfl | (simp; done) | omega)) | (with_reducible refine keep_alloc _ ?_) | ((with_reducible refine keep_set _ ?_ ?_); (focus first | omega | (simp; done) | (simp; omega))) | ((with_reducible refine keep_set' _ ?_ ?_); (focus first | omega | (simp; done))) | ((with_reducible refine keep_same (u := ?_) _ ?_); rotate_left) | ((with_reducible refine keep_setA _ ?_ ?_); (focus first | omega | (simp; done) | (simp; omega))) | ((with_reducible refine keep_below (w := ?_) ?_ ?_); rotate_left; (with_reducible assumption))))))
      have c1 : W.cell? ⟨w.heap.size, 1, none⟩ = some (.int .i64 l) := by rw [hW]; (((try dsimp only); (repeat' apply And.intro) <;> (repeat (first | with_reducible assumption | (with_reducible refine keep_drew ?_) | (with_reducible refine keep_drewN ?_) | ((with_reducible refine keep_new _ _ _ _ _ _ ?_ ?_) <;> (first | rfl | (simp; done) | omega)) | (with_reducible refine keep_alloc _ ?_) | ((with_reducible refine keep_set _ ?_ ?_); (focus first | omega | (simp; done) | (simp; omega))) | ((with_reducible refine keep_set' _ ?_ ?_); (focus first | omega | (simp; done))) | ((with_reducible refine keep_same (u := ?_) _ ?_); rotate_left) | ((with_reducible refine keep_setA _ ?_ ?_); (focus first | omega | (simp; done) | (simp; omega))) | ((with_reducible refine keep_below (w := ?_) ?_ ?_); rotate_left; (with_reducible assumption))))))
      have c2 : W.cell? ⟨w.heap.size, 2, none⟩ = some (.int .i64 f) := by rw [hW]; (((try dsimp only); (repeat' apply And.intro) <;> (repeat (first | with_reducible assumption | (with_reducible refine keep_drew ?_) | (with_reducible refine keep_drewN ?_) | ((with_reducible refine keep_new _ _ _ _ _ _ ?_ ?_) <;> (first | rfl | (simp; done) | omega)) | (with_reducible refine keep_alloc _ ?_) | ((with_reducible refine keep_set _ ?_ ?_); (focus first | omega | (simp; done) | (simp; omega))) | ((with_reducible refine keep_set' _ ?_ ?_); (focus first | omega | (simp; done))) | ((with_reducible refine keep_same (u := ?_) _ ?_); rotate_left) | ((with_reducible refine keep_setA _ ?_ ?_); (focus first | omega | (simp; done) | (simp; omega))) | ((with_reducible refine keep_below (w := ?_) ?_ ?_); rotate_left; (with_reducible assumption))))))
      have c3 : W.cell? ⟨w.heap.size, 3, none⟩ = some (.slice B k q) := by rw [hW]; (((try dsimp only); (repeat' apply And.intro) <;> (repeat (first | with_reducible assumption | (with_reducible refine keep_drew ?_) | (with_reducible refine keep_drewN ?_) | ((with_reducible refine keep_new _ _ _ _ _ _ ?_ ?_) <;> (first | rfl | (simp; done) | omega)) | (with_reducible refine keep_alloc _ ?_) | ((with_reducible refine keep_set _ ?_ ?_); (focus first | omega | (simp; done) | (simp; omega))) | ((with_reducible refine keep_set' _ ?_ ?_); (focus first | omega | (simp; done))) | ((with_reducible refine keep_same (u := ?_) _ ?_); rotate_left) | ((with_reducible refine keep_setA _ ?_ ?_); (focus first | omega | (simp; done) | (simp; omega))) | ((with_reducible refine keep_below (w := ?_) ?_ ?_); rotate_left; (with_reducible assumption))))))
      have ho := HO.out
      have HO2 : Hid (Ow W (w.heap.size + 2) B k q hs.reverse) := Lib.hid (by rw [hW]; exact (by repeat (first | with_reducible assumption | (with_reducible refine Ow.drew ?_) | (with_reducible refine Ow.drewN ?_ _) | (with_reducible refine Ow.alloc ?_ _) | ((with_reducible refine Ow.far' _ ?_ ?_); (focus first | omega | (simp; done) | (simp; omega))) | ((with_reducible refine Ow.low _ ?_ ?_); (focus first | omega | (simp; done) | (simp; omega))) | ((with_reducible refine Ow.farx _ ?_ ?_); (focus (intro g e; have hh := hx g e; omega))) | ((with_reducible refine Ow.below (w := ?_) ?_ ?_); rotate_left; (with_reducible assumption)))))
      exact bodyPost_ret (v := .agg #[.int .i64 d, .int .i64 l, .int .i64 f, .slice B k q]) (by simp [results, Try.results75, go_sem, c0, c1, c2, c3]) rfl ⟨B, q, rfl, Ow.lower HO2.out (by omega), by rw [hW]; exact (by repeat (first | with_reducible exact Below.refl _ _ | with_reducible assumption | (with_reducible refine Below.drew ?_) | (with_reducible refine below_drewN ?_ _) | ((with_reducible refine Below.alloc ?_ ?_ _); rotate_left; (focus first | exact Nat.le_refl _ | omega | (simp; done) | (simp; omega))) | ((with_reducible refine Below.setCell ?_ ?_ _); rotate_left; (focus first | exact Nat.le_refl _ | omega | (simp; done) | (simp; omega))) | ((with_reducible refine below_via (W := ?_) ?_ ?_ ?_); rotate_left; (with_reducible assumption); rotate_left; (focus first | exact Nat.le_refl _ | omega | (simp; done) | (simp; omega)))))⟩

end Go.Proofs.Ytgondkjephojjaa.WalkTP
