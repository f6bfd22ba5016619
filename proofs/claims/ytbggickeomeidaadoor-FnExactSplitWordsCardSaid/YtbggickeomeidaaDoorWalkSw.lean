/- Words: both ways, and the law's walk. -/
import Derived.Test.YtbggickeomeidaaDoorWalkSt
import Derived.Test.YtbggickeomeidaaDoorWalkSq
import Derived.Lib.CountLaws
namespace Go.Proofs.YtbggickeomeidaaDoor.WalkSw
open Go Go.RowKit Go.Proofs.YtbggickeomeidaaDoor.Base Go.Proofs.YtbggickeomeidaaDoor.Plain Go.Proofs.YtbggickeomeidaaDoor.PlainT Go.Proofs.YtbggickeomeidaaDoor.PlainTx Go.Proofs.YtbggickeomeidaaDoor.PlainSp Go.Proofs.YtbggickeomeidaaDoor.PlainSq Go.Proofs.YtbggickeomeidaaDoor.WalkN Go.Proofs.YtbggickeomeidaaDoor.WalkP Go.Proofs.YtbggickeomeidaaDoor.Words Go.Proofs.YtbggickeomeidaaDoor.Ints Go.Proofs.YtbggickeomeidaaDoor.WalkI Go.Proofs.YtbggickeomeidaaDoor.Cells Go.Proofs.YtbggickeomeidaaDoor.Text Go.Proofs.YtbggickeomeidaaDoor.WalkTx Go.Proofs.YtbggickeomeidaaDoor.WalkLU Go.Proofs.YtbggickeomeidaaDoor.WalkRD Go.Proofs.YtbggickeomeidaaDoor.WalkSp Go.Proofs.YtbggickeomeidaaDoor.WalkSq Go.Proofs.YtbggickeomeidaaDoor.WalkSt
set_option linter.unusedVariables false
set_option linter.unusedSimpArgs false

theorem count_one (c : UInt8) (l : List UInt8) : Lib.count l [c] = l.count c := by
  rcases splF_cases c l with h | ⟨p, r, e, hp⟩
  · rw [Lib.count_miss (PlainSp.index_none c l h), List.count_eq_zero.2 (fun hm => h c hm rfl)]
  · have hr : r.length < l.length := by rw [e]; simp; omega
    have ih := count_one c r
    rw [Lib.count_hit (i := p.length) (by simp) (by rw [e]; exact PlainSp.index_hit c p r hp), e, drop_aux, ih, List.count_append, List.count_cons_self, List.count_eq_zero.2 (fun hm => hp c hm rfl)]
    omega
termination_by l.length
/-- the words of a line -/
def wordsF (ps : List (List UInt8)) : List (List UInt8) := ps.filter fun p => decide (p ≠ [])
theorem words_yes {ps : List (List UInt8)} {k : Nat} (h : k < ps.length) (hp : ps.getD k [] ≠ []) : wordsF (ps.take (k + 1)) = wordsF (ps.take k) ++ [ps.getD k []] := by
  rw [take_snocL h]
  unfold wordsF
  rw [List.filter_append]
  congr 1
  rw [List.filter_cons, if_pos (decide_eq_true hp), List.filter_nil]
theorem words_no {ps : List (List UInt8)} {k : Nat} (h : k < ps.length) (hp : ps.getD k [] = []) : wordsF (ps.take (k + 1)) = wordsF (ps.take k) := by
  rw [take_snocL h]
  unfold wordsF
  rw [List.filter_append, hp]
  simp
theorem words_le (ps : List (List UInt8)) (k : Nat) : (wordsF (ps.take k)).length ≤ k := by
  unfold wordsF
  have := List.length_filter_le (fun p : List UInt8 => decide (p ≠ [])) (ps.take k)
  rw [List.length_take] at this
  omega

theorem splitAll (s : ByteArray) (m : Int) (w : World) (hs : s.size ≤ 1048576) (hm : w.cell? ⟨1, 0, none⟩ = some (.int .i64 m)) :
    Calls Tryd.prog 44 #[.string s, .string ⟨#[32]⟩] w fun e w' => ∃ (A : Option Addr) (n q : Nat), e = .returned (.slice A n q) ∧ Txs w' w.heap.size A n q (splF 32 s.data.toList) ∧ Below w.heap.size w w' := by
  refine (Tryd.strings_Split s ⟨#[32]⟩ m w (by omega) hm (by decide)).mono fun e w' ⟨he, hw⟩ => ?_
  have hc : Lib.countB s ⟨#[32]⟩ = s.data.toList.count 32 := count_one 32 s.data.toList
  have hL : Lib.splitB ⟨#[32]⟩ 0 (Lib.countB s ⟨#[32]⟩) s = (splF 32 s.data.toList).map bs := by
    rw [← bs_map (Lib.splitB _ _ _ _), Lib.splitB_data, hc]
    congr 1
    exact splitK_all 32 _ _ (Nat.le_refl _)
  have hn : Lib.countB s ⟨#[32]⟩ + 1 = (splF 32 s.data.toList).length := by rw [hc, splF_count]
  rw [hL] at hw
  rw [hn] at he
  have hle := splF_le 32 s.data.toList
  rw [← Lib.size_eq] at hle
  have hl : (sts ((splF 32 s.data.toList).map bs)).length = (splF 32 s.data.toList).length * 1 := by rw [Cells.sts_len]; simp
  refine ⟨_, _, _, he, ?_, ?_⟩
  · subst hw
    refine Orw.mk (Nat.le_refl _) (Blk.new w _ _ rfl) (by omega) (by unfold maxLen; omega) (by simp) ?_ hl
    rw [← hl, List.toList_toArray]
    exact List.take_length
  · subst hw
    exact (Below.refl _ _).alloc (Nat.le_refl _) _

set_option maxHeartbeats 1000000 in
theorem specSw (s : ByteArray) (w : World) (hs : s.size ≤ 1048576) : Calls Tryd.prog 21 #[.string s] w fun e w' => ∃ (A : Option Addr) (n q : Nat), e = .returned (.slice A n q) ∧ Txs w' w.heap.size A n q (wordsF (splF 32 s.data.toList)) ∧ Below w.heap.size w w' := by
  have S := Lib.hid (fun W => specSplit s 32 32 rfl W hs)
  have hpos := splF_len_pos 32 s.data.toList
  have hle := splF_le 32 s.data.toList
  rw [← Lib.size_eq] at hle
  generalize splF 32 s.data.toList = ps at S hpos hle
  obtain ⟨i0, hi, hz0, hz1, hz2⟩ := info_parts infoS
  have HI := Lib.hid (show Tryd.prog.info? 9 = some i0 ∧ i0.zero = some (.string ByteArray.empty) ∧ i0.size = 1 ∧ i0.bytes = 16 from ⟨hi, hz0, hz1, hz2⟩)
  clear hi hz0 hz1 hz2
  go_enter Tryd.func21, Tryd.ntmps21
  go_wp2_with (go_at_call 37; refine (S.out _).mono ?_; rintro e w1 ⟨A, n, q, rfl, hn, ht, hb1⟩; have HT0 := Lib.hid ht; clear ht)
  obtain ⟨gA, rfl, hgA, hgA2, _⟩ := HT0.out.at_ (j := 0) (by omega)
  have hown : Orw (w1.alloc (.cells #[] 9)) 9 1 w1.heap.size (some ⟨w1.heap.size, 0, none⟩) 0 0 (sts ((wordsF (ps.take 0)).map bs)) := World.ownsRow_made (base := w1.heap.size) (e := 9) (size := 1) w1 #[] 0 (Nat.le_refl _) (by omega) (by simp)
  have HO0 := Lib.hid hown
  have hzz := hb1.size
  clear hown S
  go_loopw [4, 5] (fun o iv wr => ∃ (k r q2 : Nat) (B : Option Addr), o = .slice B r q2 ∧ iv = .int .i64 (k : Int) ∧ k ≤ n ∧ r ≤ k ∧ Hid (Orw wr 9 1 w1.heap.size B r q2 (sts ((wordsF (ps.take k)).map bs))) ∧ Hid (Txs wr w.heap.size (some ⟨gA, 0, none⟩) n q ps) ∧ Hid (Below w.heap.size w wr) ∧ w1.heap.size ≤ wr.heap.size) (fun _ i _ => n - (intOf i).toNat)
  case atStart => exact ⟨0, 0, 0, _, rfl, rfl, by omega, by omega, HO0, Lib.hid (Orw.alloc HT0.out _), Lib.hid (hb1.alloc (by omega) _), by simp⟩
  case round =>
    obtain ⟨k, r, q2, B, rfl, rfl, hk, hr, HO, HT, HB, hsz⟩ := hrel
    by_cases hlt : k < n
    · obtain ⟨g', e', _, _, hc, hf⟩ := HT.out.at_ (j := k) (by omega)
      injection e' with e'
      injection e' with e' _
      subst e'
      rw [sts_at (by omega)] at hc
      by_cases hp : ps.getD k [] = []
      · have HV := Lib.hid (words_no (ps := ps) (k := k) (by omega) hp)
        have ht0 : (bs (ps.getD k [])).toList.isEmpty = true := by rw [Go.Lib.toList_data, bs_list, hp]; rfl
        generalize bs (ps.getD k []) = t at hc ht0
        clear hp hf
        go_wp2
        go_roundw
        all_goals first
          | (simp [intOf]; omega)
          | exact ⟨k + 1, r, q2, B, rfl, by go_num, by omega, by omega, Lib.hid (by rw [HV.out]; exact HO.out), HT, HB, hsz⟩
      · have HV := Lib.hid (show sts ((wordsF (ps.take k)).map bs) ++ [.string (bs (ps.getD k []))] = sts ((wordsF (ps.take (k + 1))).map bs) by rw [words_yes (by omega) hp, sts_bs])
        have ht0 : (bs (ps.getD k [])).toList.isEmpty = false := by rw [Go.Lib.toList_data, bs_list]; cases h : ps.getD k [] with | nil => exact absurd h hp | cons _ _ => rfl
        generalize bs (ps.getD k []) = t at hc ht0 HV
        have HR9 := Lib.hid (fun a e => (HO.out.block (a := a) e).1)
        have hz9 := HB.out.size
        clear hp hf
        go_wp2_with (at_builtin; refine wpList_append_own _ rfl _ _ 35 rfl w1.heap.size 9 i0 (.string ByteArray.empty) 1 16 Tryd.underlying35 HI.out.1 HI.out.2.1 HI.out.2.2.1 HI.out.2.2.2 rfl (by decide) _ _ _ rfl (HO.out.alloc _) ⟨wr.heap.size, 0, none⟩ 1 1 [.string t] rfl rfl (news_one wr _ _) (one_cell rfl) (by unfold maxLen; omega) (by omega) (by simp; omega) ?_; intro v' w3 hown3 hgrow3 _; rw [HV.out] at hown3; obtain ⟨B', q', rfl, ho3⟩ := orw_form hown3 (by omega); have HR3 := Lib.hid ho3; have HG3 := Lib.hid (gr_of hgrow3); clear hown3 hgrow3 ho3)
        all_goals go_roundw
        all_goals first
          | (simp [intOf]; omega)
          | exact ⟨k + 1, r + 1, q', B', rfl, by go_num, by omega, by omega, HR3, Lib.hid (Orw.gr (Orw.alloc HT.out _) HG3.out (fun a b ea eb => by have x2 := HR9.out b eb; injection ea with ea; subst ea; simp only; omega)), Lib.hid (Below.trans (HB.out.alloc (by omega) _) (Gr.below HG3.out (fun a e => by have x2 := HR9.out a e; omega) (by simp; omega))), by have := HG3.out.size; simp at this; omega⟩
    · obtain rfl : k = n := by omega
      rw [List.take_of_length_le (by omega)] at HO
      have HO2 := Lib.hid (HO.out.lower (lo' := w.heap.size) hzz)
      have hb := HB.out
      go_wp2_with fail
      go_ret
      exact ⟨B, r, q2, rfl, HO2.out, hb⟩

set_option maxHeartbeats 1000000 in
theorem implSw (s : ByteArray) (w : World) (hs : s.size ≤ 1048576) (hm : ∃ m, w.cell? ⟨1, 0, none⟩ = some (.int .i64 m)) : Calls Tryd.prog 22 #[.string s] w fun e w' => ∃ (A : Option Addr) (n q : Nat), e = .returned (.slice A n q) ∧ Txs w' w.heap.size A n q (wordsF (splF 32 s.data.toList)) ∧ Below w.heap.size w w' := by
  obtain ⟨m, hm⟩ := hm
  have S := Lib.hid (splitAll s m w hs hm)
  have hpos := splF_len_pos 32 s.data.toList
  have hle := splF_le 32 s.data.toList
  rw [← Lib.size_eq] at hle
  generalize splF 32 s.data.toList = ps at S hpos hle
  obtain ⟨i0, hi, hz0, hz1, hz2⟩ := info_parts infoS
  have HI := Lib.hid (show Tryd.prog.info? 9 = some i0 ∧ i0.zero = some (.string ByteArray.empty) ∧ i0.size = 1 ∧ i0.bytes = 16 from ⟨hi, hz0, hz1, hz2⟩)
  clear hi hz0 hz1 hz2 hm
  go_enter Tryd.func22, Tryd.ntmps22
  go_wp2_with (go_at_call 44; refine S.out.mono ?_; rintro e w1 ⟨A, n, q, rfl, ht, hb1⟩; have HT0 := Lib.hid ht; clear ht)
  have hn := txs_len HT0.out
  obtain ⟨gA, rfl, hgA, hgA2, _⟩ := HT0.out.at_ (j := 0) (by omega)
  have hzz := hb1.size
  clear S
  go_loopw [3, 9] (fun o iv wr => ∃ (k r q2 : Nat) (B : Option Addr), o = .slice B r q2 ∧ iv = .int .i64 (k : Int) ∧ k ≤ n ∧ r ≤ k ∧ Hid (Orw wr 9 1 w1.heap.size B r q2 (sts ((wordsF (ps.take k)).map bs))) ∧ Hid (Txs wr w.heap.size (some ⟨gA, 0, none⟩) n q ps) ∧ Hid (Below w.heap.size w wr) ∧ w1.heap.size ≤ wr.heap.size) (fun _ i _ => n - (intOf i).toNat)
  case atStart => exact ⟨0, 0, 0, _, rfl, rfl, by omega, by omega, Lib.hid (Orw.nil _ _ _ _), HT0, Lib.hid hb1, by omega⟩
  case round =>
    obtain ⟨k, r, q2, B, rfl, rfl, hk, hr, HO, HT, HB, hsz⟩ := hrel
    by_cases hlt : k < n
    · obtain ⟨g', e', _, _, hc, hf⟩ := HT.out.at_ (j := k) (by omega)
      injection e' with e'
      injection e' with e' _
      subst e'
      rw [sts_at (by omega)] at hc
      by_cases hp : ps.getD k [] = []
      · have HV := Lib.hid (words_no (ps := ps) (k := k) (by omega) hp)
        have ht0 : (bs (ps.getD k [])).toList.isEmpty = true := by rw [Go.Lib.toList_data, bs_list, hp]; rfl
        generalize bs (ps.getD k []) = t at hc ht0
        clear hp hf
        go_wp2
        go_roundw
        all_goals first
          | (simp [intOf]; omega)
          | exact ⟨k + 1, r, q2, B, rfl, by go_num, by omega, by omega, Lib.hid (by rw [HV.out]; exact HO.out), HT, HB, hsz⟩
      · have HV := Lib.hid (show sts ((wordsF (ps.take k)).map bs) ++ [.string (bs (ps.getD k []))] = sts ((wordsF (ps.take (k + 1))).map bs) by rw [words_yes (by omega) hp, sts_bs])
        have ht0 : (bs (ps.getD k [])).toList.isEmpty = false := by rw [Go.Lib.toList_data, bs_list]; cases h : ps.getD k [] with | nil => exact absurd h hp | cons _ _ => rfl
        generalize bs (ps.getD k []) = t at hc ht0 HV
        have HR9 := Lib.hid (fun a e => (HO.out.block (a := a) e).1)
        have hz9 := HB.out.size
        clear hp hf
        go_wp2_with (at_builtin; refine wpList_append_own _ rfl _ _ 35 rfl w1.heap.size 9 i0 (.string ByteArray.empty) 1 16 Tryd.underlying35 HI.out.1 HI.out.2.1 HI.out.2.2.1 HI.out.2.2.2 rfl (by decide) _ _ _ rfl (HO.out.alloc _) ⟨wr.heap.size, 0, none⟩ 1 1 [.string t] rfl rfl (news_one wr _ _) (one_cell rfl) (by unfold maxLen; omega) (by omega) (by simp; omega) ?_; intro v' w3 hown3 hgrow3 _; rw [HV.out] at hown3; obtain ⟨B', q', rfl, ho3⟩ := orw_form hown3 (by omega); have HR3 := Lib.hid ho3; have HG3 := Lib.hid (gr_of hgrow3); clear hown3 hgrow3 ho3)
        all_goals go_roundw
        all_goals first
          | (simp [intOf]; omega)
          | exact ⟨k + 1, r + 1, q', B', rfl, by go_num, by omega, by omega, HR3, Lib.hid (Orw.gr (Orw.alloc HT.out _) HG3.out (fun a b ea eb => by have x2 := HR9.out b eb; injection ea with ea; subst ea; simp only; omega)), Lib.hid (Below.trans (HB.out.alloc (by omega) _) (Gr.below HG3.out (fun a e => by have x2 := HR9.out a e; omega) (by simp; omega))), by have := HG3.out.size; simp at this; omega⟩
    · obtain rfl : k = n := by omega
      rw [List.take_of_length_le (by omega)] at HO
      have HO2 := Lib.hid (HO.out.lower (lo' := w.heap.size) hzz)
      have hb := HB.out
      go_wp2_with fail
      go_ret
      exact ⟨B, r, q2, rfl, HO2.out, hb⟩

theorem bl_drew {w w1 : World} (h : ∃ k, w1 = w.drewN k) : Below w.heap.size w w1 := by
  obtain ⟨k, rfl⟩ := h
  exact below_drewN (Below.refl _ _) k
theorem form_of {ps : List (List UInt8)} {N lo : Nat} {e : Ending} {w' : World} (hN : ps.length = N) (h : ∃ (A : Option Addr) (n q : Nat), e = .returned (.slice A n q) ∧ Txs w' lo A n q ps) : ∃ (A : Option Addr) (q : Nat), e = .returned (.slice A N q) ∧ Tr w' lo A N q (ps.map bs) := by
  obtain ⟨A, n, q, he, ht⟩ := h
  have := txs_len ht
  obtain rfl : n = N := by omega
  exact ⟨A, q, he, ht⟩

set_option maxHeartbeats 1000000 in
theorem splitWords (s : ByteArray) (ws : s.size ≤ maxLen) (w : World) (hE : ∃ m, w.cell? ⟨1, 0, none⟩ = some (.int .i64 m)) :
    Calls Tryd.prog 7 #[.string s] w fun e w' => e = .returned (.bool true) ∧ Below w.heap.size w w' := by
  unfold maxLen at ws
  by_cases hs : s.size ≤ 1048576
  · have hlen : (wordsF (splF 32 s.data.toList)).length ≤ 1048577 := by
      have h1 := splF_le 32 s.data.toList
      rw [← Lib.size_eq] at h1
      have h2 := List.length_filter_le (fun p : List UInt8 => decide (p ≠ [])) (splF 32 s.data.toList)
      unfold wordsF
      omega
    obtain ⟨ps, hps⟩ : ∃ ps, wordsF (splF 32 s.data.toList) = ps := ⟨_, rfl⟩
    obtain ⟨N, hN⟩ : ∃ N, ps.length = N := ⟨_, rfl⟩
    rw [hps, hN] at hlen
    have SP : Hid (∀ W, Calls Tryd.prog 21 #[.string s] W fun e w' => (∃ (A : Option Addr) (q : Nat), e = .returned (.slice A N q) ∧ Tr w' W.heap.size A N q (ps.map bs)) ∧ Below W.heap.size W w') := Lib.hid (fun W => (specSw s W hs).mono fun e w' ⟨A, n, q, he, ht, hb⟩ => ⟨form_of hN ⟨A, n, q, he, by rw [← hps]; exact ht⟩, hb⟩)
    have IM : Hid (∀ W, Below w.heap.size w W → Calls Tryd.prog 22 #[.string s] W fun e w' => (∃ (A : Option Addr) (q : Nat), e = .returned (.slice A N q) ∧ Tr w' W.heap.size A N q (ps.map bs)) ∧ Below W.heap.size W w') := Lib.hid (fun W hw => (implSw s W hs (hE.imp fun m hm => (hw.cell (World.block_lt_of_cell? w _ hm)).trans hm)).mono fun e w' ⟨A, n, q, he, ht, hb⟩ => ⟨form_of hN ⟨A, n, q, he, by rw [← hps]; exact ht⟩, hb⟩)
    have nm : N ≤ maxLen := by unfold maxLen; omega
    generalize ps.map bs = ts at SP IM
    clear hE hps hN
    go_enter Tryd.func7, Tryd.ntmps7
    go_wp2_with fail
    refine (SP.out _).mono ?_
    rintro e w1 ⟨⟨Aw, qw, rfl, ow⟩, hb1⟩
    have OW := Lib.hid ow
    clear ow
    have B1 := Lib.hid hb1
    have z1 := hb1.size
    clear hb1
    go_wp2_with fail
    refine (IM.out _ B1.out).mono ?_
    rintro e w2 ⟨⟨Ag, qg, rfl, og⟩, hb2⟩
    have OG := Lib.hid og
    have OW2 := Lib.hid (Orw.below hb2 OW.out)
    have AP := Lib.hid (show ∀ a b, Aw = some a → Ag = some b → a.block ≠ b.block from fun a b ha hb' => by have x1 := OW.out.block ha; have x2 := og.block hb'; omega)
    have B2 := Lib.hid (B1.out.trans (hb2.mono z1))
    have z2 := hb2.size
    have GL := Lib.hid (fun a (ha : Ag = some a) => (og.block ha).1)
    clear og hb2 OW
    go_wp2_with fail
    refine (eqStrs Ag Aw N qg qw _ _ ts w2 OG.out OW2.out nm).mono ?_
    rintro e w3 ⟨rfl, hk⟩
    have hb3 := bl_drew hk
    have OG3 := Lib.hid (Orw.below hb3 OG.out)
    have OW3 := Lib.hid (Orw.below hb3 OW2.out)
    have B3 := Lib.hid (B2.out.trans (hb3.mono (by omega)))
    have z3 := hb3.size
    clear hk hb3 OG OW2
    go_wp2_with fail
    refine (markStrs Ag N qg w1.heap.size ts 1 w3 OG3.out (by omega) (by omega)).mono ?_
    rintro e w4 ⟨rfl, og4, hg4⟩
    have OG4 := Lib.hid og4
    have OW4 := Lib.hid (Orw.gr OW3.out hg4 AP.out)
    have B4 := Lib.hid (B3.out.trans (Gr.below hg4 (b := w.heap.size) (fun a ha => by have := GL.out a ha; omega) (by omega)))
    have z4 := hg4.size
    clear og4 hg4 OG3 OW3
    go_wp2_with fail
    refine (heldStrs Ag N qg w1.heap.size 1 w4 OG4.out (by omega) (by omega)).mono ?_
    rintro e w5 ⟨rfl, hb5⟩
    have OG5 := Lib.hid (Orw.below hb5 OG4.out)
    have OW5 := Lib.hid (Orw.below hb5 OW4.out)
    have B5 := Lib.hid (B4.out.trans (hb5.mono (by omega)))
    have z5 := hb5.size
    have d1 := decide_eq_false (show ¬ (1 : Int) + N < 0 by omega)
    clear hb5 OG4 OW4
    go_wp2_with fail
    refine (IM.out _ B5.out).mono ?_
    rintro e w6 ⟨⟨Ah, qh, rfl, oh⟩, hb6⟩
    have OH := Lib.hid oh
    have OW6 := Lib.hid (Orw.below hb6 OW5.out)
    have OG6 := Lib.hid (Orw.below hb6 OG5.out)
    have B6 := Lib.hid (B5.out.trans (hb6.mono (by omega)))
    have z6 := hb6.size
    clear oh hb6 OW5 OG5
    go_wp2_with fail
    refine (eqStrs Ah Aw N qh qw _ _ ts w6 OH.out OW6.out nm).mono ?_
    rintro e w7 ⟨rfl, hk⟩
    have hb7 := bl_drew hk
    have OG7 := Lib.hid (Orw.below hb7 OG6.out)
    have B7 := Lib.hid (B6.out.trans (hb7.mono (by omega)))
    have z7 := hb7.size
    clear hk hb7 OG6
    go_wp2_with fail
    refine (heldStrs Ag N qg w1.heap.size 1 w7 OG7.out (by omega) (by omega)).mono ?_
    rintro e w8 ⟨rfl, hb8⟩
    have B8 := Lib.hid (B7.out.trans (hb8.mono (by omega)))
    clear hb8
    go_wp2_with fail
    go_ret
    exact ⟨rfl, B8.out⟩
  · clear hE
    go_enter Tryd.func7, Tryd.ntmps7
    go_wp2
    go_ret
    exact ⟨rfl, Below.refl _ _⟩

end Go.Proofs.YtbggickeomeidaaDoor.WalkSw
