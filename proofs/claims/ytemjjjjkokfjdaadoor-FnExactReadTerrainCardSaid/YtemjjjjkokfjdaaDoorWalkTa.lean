/- Terrains read: what holds while the lists grow; where the reference stops, plainly, and the library's divisions; forms of the callees' answers; the program's steps. (Four texts in one: a claim has at most 60 files.) -/
import Derived.Test.YtemjjjjkokfjdaaDoorPlainRu
import Derived.Test.YtemjjjjkokfjdaaDoorWalkAp
import Derived.Test.YtemjjjjkokfjdaaDoorWalkSq
import Derived.Maps.AppendAt
import Derived.Laws.AppendOwnNone
import Derived.Test.YtemjjjjkokfjdaaDoorWalkSI0
import Derived.Lib.CountLaws
import Derived.Deep.DeepCutAuto
import Derived.Test.YtemjjjjkokfjdaaDoorWalkCT
import Derived.Deep.RegionLaw
import Derived.Laws.OwnMore
namespace Go.Proofs.YtemjjjjkokfjdaaDoor.WalkTa
open Go Go.RowKit Go.Proofs.YtemjjjjkokfjdaaDoor.Base Go.Proofs.YtemjjjjkokfjdaaDoor.Plain Go.Proofs.YtemjjjjkokfjdaaDoor.PlainT Go.Proofs.YtemjjjjkokfjdaaDoor.PlainTx Go.Proofs.YtemjjjjkokfjdaaDoor.PlainSp Go.Proofs.YtemjjjjkokfjdaaDoor.Words Go.Proofs.YtemjjjjkokfjdaaDoor.Ints Go.Proofs.YtemjjjjkokfjdaaDoor.Cells Go.Proofs.YtemjjjjkokfjdaaDoor.WalkP Go.Proofs.YtemjjjjkokfjdaaDoor.WalkSp Go.Proofs.YtemjjjjkokfjdaaDoor.WalkSq Go.Proofs.YtemjjjjkokfjdaaDoor.WalkSH Go.Proofs.YtemjjjjkokfjdaaDoor.WalkAp Go.Proofs.YtemjjjjkokfjdaaDoor.PlainRt Go.Proofs.YtemjjjjkokfjdaaDoor.PlainRu
set_option linter.unusedVariables false
set_option linter.unusedSimpArgs false

theorem Txs.far {w : World} {lo n c b i : Nat} {A : Option Addr} {ps : List TX} (h : Txs w lo A n c ps) (u : Value) (hb : ∀ a, A = some a → a.block ≠ b) : Txs (w.setCell ⟨b, i, none⟩ u) lo A n c ps := Orw.far h u hb
/-- what holds while a terrain grows: its box, its two lists, the result's box, the lines -/
structure RInv (w wr : World) (ob : Nat) (s a b : Int) (K1 K2 : Nat) (ZP ZQ : List Int) (P Q : Option Addr) (p q : Nat) (LA : Option Addr) (ln lq : Nat) (L : List TX) : Prop where
  below : Below w.heap.size w wr
  hob : w.heap.size + 1 ≤ ob
  oP : Ow wr (ob + 1) P K1 p ZP
  oQ : Ow wr (ob + 1) Q K2 q ZQ
  ap : Ap P Q
  bob : Blk wr ob 24 #[.int .i64 s, .int .i64 a, .int .i64 b, .slice P K1 p, .slice Q K2 q]
  rb : Blk wr w.heap.size 24 #[.int .i64 0, .int .i64 0, .int .i64 0, .slice none 0 0, .slice none 0 0]
  tx : Txs wr 0 LA ln lq L
  tb : ∀ x, LA = some x → x.block < ob ∧ w.heap.size < x.block
section
variable {w wr w1 : World} {ob : Nat} {s a b : Int} {K1 K2 K' : Nat} {ZP ZQ Z' : List Int} {P Q B' : Option Addr} {p q p' : Nat} {LA : Option Addr} {ln lq : Nat} {L : List TX}
theorem RInv.grow (hb : Below wr.heap.size wr w1) (h : RInv w wr ob s a b K1 K2 ZP ZQ P Q p q LA ln lq L) : RInv w w1 ob s a b K1 K2 ZP ZQ P Q p q LA ln lq L :=
  ⟨below_via hb h.below h.below.size, h.hob, Ow.below hb h.oP, Ow.below hb h.oQ, h.ap, Blk.below hb h.bob, Blk.below hb h.rb, Orw.below hb h.tx, h.tb⟩
theorem RInv.left (h : RInv w wr ob s a b K1 K2 ZP ZQ P Q p q LA ln lq L) (g : Gr wr w1 P) (ho : Ow w1 (ob + 1) B' K' p' Z') (hw : ∀ k, (Value.slice B' K' p').ownBlock = some k → (Value.slice P K1 p).ownBlock = some k ∨ wr.heap.size ≤ k) :
    RInv w (w1.setCell ⟨ob, 3, none⟩ (.slice B' K' p')) ob s a b K' K2 Z' ZQ B' Q p' q LA ln lq L := by
  have hb := h.hob
  have hP : ∀ x, P = some x → ob + 1 ≤ x.block := fun x e => (h.oP.block e).1
  refine ⟨(h.below.trans (Gr.below g (fun x e => by have := hP x e; omega) h.below.size)).setCell (show w.heap.size ≤ ob by omega) _, h.hob, Ow.low _ (by omega) ho, Ow.low _ (by omega) (Ow.gr h.oQ g h.ap.symm), ap_next h.oQ h.ap hw, ?_, (blk_gr g (fun x e => by have := hP x e; omega) h.rb).far _ (by omega), Txs.far (Orw.gr h.tx g (fun x y ex ey => by have := h.tb x ex; have := hP y ey; omega)) _ (fun x ex => by have := h.tb x ex; omega), h.tb⟩
  have h2 := (blk_gr g (fun x e => by have := hP x e; omega) h.bob).set_ 3 (.slice B' K' p')
  exact h2
theorem RInv.right (h : RInv w wr ob s a b K1 K2 ZP ZQ P Q p q LA ln lq L) (g : Gr wr w1 Q) (ho : Ow w1 (ob + 1) B' K' p' Z') (hw : ∀ k, (Value.slice B' K' p').ownBlock = some k → (Value.slice Q K2 q).ownBlock = some k ∨ wr.heap.size ≤ k) :
    RInv w (w1.setCell ⟨ob, 4, none⟩ (.slice B' K' p')) ob s a b K1 K' ZP Z' P B' p p' LA ln lq L := by
  have hb := h.hob
  have hQ : ∀ x, Q = some x → ob + 1 ≤ x.block := fun x e => (h.oQ.block e).1
  refine ⟨(h.below.trans (Gr.below g (fun x e => by have := hQ x e; omega) h.below.size)).setCell (show w.heap.size ≤ ob by omega) _, h.hob, Ow.low _ (by omega) (Ow.gr h.oP g h.ap), Ow.low _ (by omega) ho, (ap_next h.oP h.ap.symm hw).symm, ?_, (blk_gr g (fun x e => by have := hQ x e; omega) h.rb).far _ (by omega), Txs.far (Orw.gr h.tx g (fun x y ex ey => by have := h.tb x ex; have := hQ y ey; omega)) _ (fun x ex => by have := h.tb x ex; omega), h.tb⟩
  have h2 := (blk_gr g (fun x e => by have := hQ x e; omega) h.bob).set_ 4 (.slice B' K' p')
  exact h2
end
/-- what the reading of a terrain gives -/
def GotT (s : TX) (w : World) (e : Ending) (w' : World) : Prop :=
  ((refT s = none ∧ e = .returned (.tuple #[.agg #[.int .i64 0, .int .i64 0, .int .i64 0, .slice none 0 0, .slice none 0 0], .bool false])) ∨
   ∃ (t : Tr) (P Q : Option Addr) (n m p q : Nat), refT s = some t ∧ e = .returned (.tuple #[.agg #[.int .i64 t.s, .int .i64 t.wd, .int .i64 t.ht, .slice P n p, .slice Q m q], .bool true]) ∧ Ow w' w.heap.size P n p t.hs ∧ Ow w' w.heap.size Q m q t.cs ∧ Ap P Q) ∧ Below w.heap.size w w'
/-- a piece is not longer than the text -/
theorem piece_le (c : UInt8) (s : ByteArray) (k : Nat) : ((splF c s.data.toList).getD k []).length ≤ s.size := by
  by_cases h : k < (splF c s.data.toList).length
  · rw [Lib.size_eq]
    exact splF_le2 c _ _ (getD_mem h)
  · rw [List.getD_eq_getElem?_getD, List.getElem?_eq_none (by omega)]
    simp
/-- rows read, one more -/
theorem rowsF_snoc (wd : Int) : ∀ (a : List TX) (l : TX) (X Y x y : List Int), rowsF wd a = some (X, Y) → rowF wd l = some (x, y) → rowsF wd (a ++ [l]) = some (X ++ x, Y ++ y)
  | [], l, X, Y, x, y, h, hl => by
    simp [rowsF] at h
    obtain ⟨rfl, rfl⟩ := h
    simp [rowsF, hl]
  | l0 :: a, l, X, Y, x, y, h, hl => by
    rw [List.cons_append]
    unfold rowsF at h ⊢
    cases hr : rowF wd l0 with
    | none => rw [hr] at h; cases h
    | some r =>
      rw [hr] at h
      simp only at h ⊢
      cases hq : rowsF wd a with
      | none => rw [hq] at h; cases h
      | some v =>
        obtain ⟨X', Y'⟩ := v
        rw [hq] at h
        simp only [Option.map_some, Option.some.injEq, Prod.mk.injEq] at h
        obtain ⟨rfl, rfl⟩ := h
        rw [rowsF_snoc wd a l X' Y' x y hq hl]
        simp
theorem rowsF_stop (wd : Int) : ∀ (a : List TX) (k : Nat), k < a.length → rowF wd (a.getD k []) = none → rowsF wd a = none
  | [], k, h, _ => absurd h (by simp)
  | l :: a, 0, h, hp => by
    unfold rowsF
    rw [show (l :: a).getD 0 [] = l from rfl] at hp
    rw [hp]
  | l :: a, k + 1, h, hp => by
    unfold rowsF
    cases hr : rowF wd l with
    | none => rfl
    | some r =>
      simp only
      rw [rowsF_stop wd a k (by simpa using h) (by simpa using hp)]
      rfl

end Go.Proofs.YtemjjjjkokfjdaaDoor.WalkTa

namespace Go.Proofs.YtemjjjjkokfjdaaDoor.WalkTb
open Go Go.RowKit Go.Proofs.YtemjjjjkokfjdaaDoor.Base Go.Proofs.YtemjjjjkokfjdaaDoor.Plain Go.Proofs.YtemjjjjkokfjdaaDoor.PlainT Go.Proofs.YtemjjjjkokfjdaaDoor.PlainTx Go.Proofs.YtemjjjjkokfjdaaDoor.PlainSp Go.Proofs.YtemjjjjkokfjdaaDoor.Words Go.Proofs.YtemjjjjkokfjdaaDoor.Ints Go.Proofs.YtemjjjjkokfjdaaDoor.Cells Go.Proofs.YtemjjjjkokfjdaaDoor.WalkP Go.Proofs.YtemjjjjkokfjdaaDoor.WalkSp Go.Proofs.YtemjjjjkokfjdaaDoor.WalkSq Go.Proofs.YtemjjjjkokfjdaaDoor.WalkSH Go.Proofs.YtemjjjjkokfjdaaDoor.WalkAp Go.Proofs.YtemjjjjkokfjdaaDoor.PlainRt Go.Proofs.YtemjjjjkokfjdaaDoor.PlainRu Go.Proofs.YtemjjjjkokfjdaaDoor.WalkTa
open Go.Proofs.YtemjjjjkokfjdaaDoor.WalkRb (Env2)
set_option linter.unusedVariables false
set_option linter.unusedSimpArgs false

section
variable {s : TX} {L H : List TX} {a wd ht : Int}
theorem ref_1 (hL : splF 10 s = L) (h : L.length < 2 ∨ 26 < L.length) : refT s = none := by
  unfold refT
  rw [hL, if_pos h]
theorem ref_2 (hL : splF 10 s = L) (hH : splF 32 (L.getD 0 []) = H) (h : H.length ≠ 4 ∨ H.getD 0 [] ≠ ter8 ∨ L.getD (L.length - 1) [] ≠ []) : refT s = none := by
  unfold refT
  rw [hL, hH]
  by_cases h1 : L.length < 2 ∨ 26 < L.length
  · rw [if_pos h1]
  · rw [if_neg h1, if_pos h]
theorem ref_3 (hL : splF 10 s = L) (hH : splF 32 (L.getD 0 []) = H) (h : numF (H.getD 1 []) = none ∨ numF (H.getD 2 []) = none ∨ numF (H.getD 3 []) = none) : refT s = none := by
  cases hr : refT s with
  | none => rfl
  | some t =>
    obtain ⟨L', H', hL', _, _, hH', _, _, _, n1, n2, n3, _⟩ := refT_yes hr
    rw [hL] at hL'
    subst hL'
    rw [hH] at hH'
    subst hH'
    rw [n1, n2, n3] at h
    rcases h with h | h | h <;> cases h
theorem ref_4 (hL : splF 10 s = L) (hH : splF 32 (L.getD 0 []) = H) (n1 : numF (H.getD 1 []) = some a) (n2 : numF (H.getD 2 []) = some wd) (n3 : numF (H.getD 3 []) = some ht)
    (h : ¬ (sizeB a wd ht = true ∧ (L.length : Int) = ht + 2) ∨ rowsF wd ((L.drop 1).take ht.toNat) = none ∨ ∃ r, rowsF wd ((L.drop 1).take ht.toNat) = some r ∧ terB a wd ht r.1.length r.2.length r.1 r.2 = false) : refT s = none := by
  cases hr : refT s with
  | none => rfl
  | some t =>
    obtain ⟨L', H', hL', _, _, hH', _, _, _, m1, m2, m3, hz, hl, hw, ho⟩ := refT_yes hr
    rw [hL] at hL'
    subst hL'
    rw [hH] at hH'
    subst hH'
    rw [n1] at m1
    rw [n2] at m2
    rw [n3] at m3
    injection m1 with m1
    injection m2 with m2
    injection m3 with m3
    subst m1 m2 m3
    rcases h with h | h | ⟨r, h, hf⟩
    · exact absurd ⟨hz, hl⟩ h
    · rw [hw] at h; cases h
    · rw [hw] at h
      injection h with h
      subst h
      have ho' : terB t.s t.wd t.ht t.hs.length t.cs.length t.hs t.cs = true := ho
      rw [ho'] at hf
      cases hf
theorem ref_5 (hL : splF 10 s = L) (hH : splF 32 (L.getD 0 []) = H) (h1 : ¬ (L.length < 2 ∨ 26 < L.length)) (h2 : H.length = 4) (h3 : H.getD 0 [] = ter8) (h4 : L.getD (L.length - 1) [] = [])
    (n1 : numF (H.getD 1 []) = some a) (n2 : numF (H.getD 2 []) = some wd) (n3 : numF (H.getD 3 []) = some ht) (hz : sizeB a wd ht = true) (hl : (L.length : Int) = ht + 2) {hs cs : List Int} (hr : rowsF wd ((L.drop 1).take ht.toNat) = some (hs, cs)) (ho : terB a wd ht hs.length cs.length hs cs = true) : refT s = some ⟨a, wd, ht, hs, cs⟩ := by
  unfold refT
  rw [hL, hH, if_neg h1, if_neg (by simp only [ne_eq, not_or, Classical.not_not]; exact ⟨h2, h3, h4⟩), n1, n2, n3]
  simp only
  rw [if_pos ⟨hz, hl⟩, hr]
  simp only
  rw [if_pos ho]
end
/-- SplitN at a newline, 26 pieces at most -/
theorem splitLn (s : ByteArray) (w : World) (hs : s.size ≤ 1048576) (hE : Env2 w) :
    Calls Tryd.prog 19 #[.string s, .string ⟨#[10]⟩, .int .i64 26] w fun e w' => ∃ (A : Option Addr) (n q : Nat), e = .returned (.slice A n q) ∧ Txs w' w.heap.size A n q (Lib.splitN s.data.toList [10] 26) ∧ 0 < n ∧ n ≤ 26 ∧ Below w.heap.size w w' := by
  obtain ⟨m, hm⟩ := hE.mx
  refine (Tryd.strings_SplitN s ⟨#[10]⟩ 26 m w (by omega) hm (by decide) (by omega) (by omega)).mono fun e w' ⟨he, hw⟩ => ?_
  have hL : Lib.splitB ⟨#[10]⟩ 0 (min 26 (s.size + 1) - 1) s = (Lib.splitN s.data.toList [10] 26).map bs := by
    rw [← bs_map (Lib.splitB _ _ _ _), Lib.splitB_data]
    unfold Lib.splitN
    rw [Lib.size_eq]
  have hle := Lib.splitB_length_le ⟨#[10]⟩ 0 (min 26 (s.size + 1) - 1) s
  have hpos : 0 < (Lib.splitB ⟨#[10]⟩ 0 (min 26 (s.size + 1) - 1) s).length := by
    generalize min 26 (s.size + 1) - 1 = k
    cases k with
    | zero => simp [Lib.splitB]
    | succ k => unfold Lib.splitB; split <;> simp
  obtain ⟨N, hN⟩ : ∃ N, min 26 (s.size + 1) = N := ⟨_, rfl⟩
  rw [hN] at he hw hL hle hpos
  generalize hB : Lib.splitB ⟨#[10]⟩ 0 (N - 1) s = L at he hw hL hle hpos
  have hN1 : 1 ≤ N := by omega
  have hN2 : N ≤ 26 := by omega
  refine ⟨_, _, _, he, ?_, hpos, by omega, ?_⟩
  · subst hw
    have hl : (sts ((Lib.splitN s.data.toList [10] 26).map bs)).length = L.length * 1 := by rw [Cells.sts_len, ← hL]; omega
    refine Orw.mk (Nat.le_refl _) (Blk.new w _ _ rfl) (by omega) (by unfold maxLen; omega) (by rw [Lib.cellsOf_size (by omega)]; omega) ?_ hl
    rw [Nat.mul_one, ← hL]
    unfold Lib.cellsOf
    rw [List.toList_toArray]
    have : (L.map Value.string).length = L.length := by simp
    rw [← this, List.take_left]
    rfl
  · subst hw
    exact (Below.refl _ _).alloc (Nat.le_refl _) _
/-- the two parts of a text at its first blank -/
def dA (s : ByteArray) : ByteArray := bs (Lib.cut s.data.toList [32]).1
def dB (s : ByteArray) : ByteArray := bs (Lib.cut s.data.toList [32]).2.1
theorem cutBlank (s : ByteArray) (w : World) (hs : s.size ≤ 1048576) (hE : Env2 w) :
    Calls Tryd.prog 22 #[.string s, .string ⟨#[32]⟩] w fun e w' => ∃ b, e = .returned (.tuple #[.string (dA s), .string (dB s), .bool b]) ∧ Below w.heap.size w w' := by
  obtain ⟨m, hm⟩ := hE.mx
  exact (Tryd.strings_Cut s ⟨#[32]⟩ m w (by omega) hm).mono fun e w' ⟨h, n, hw⟩ => ⟨_, h, by subst hw; exact below_drewN (Below.refl _ _) n⟩

theorem count_one (c : UInt8) (l : List UInt8) : Lib.count l [c] = l.count c := by
  rcases splF_cases c l with h | ⟨p, r, e, hp⟩
  · rw [Lib.count_miss (PlainSp.index_none c l h), List.count_eq_zero.2 (fun hm => h c hm rfl)]
  · have hr : r.length < l.length := by rw [e]; simp; omega
    have ih := count_one c r
    rw [Lib.count_hit (i := p.length) (by simp) (by rw [e]; exact PlainSp.index_hit c p r hp), e, drop_aux, ih, List.count_append, List.count_cons_self, List.count_eq_zero.2 (fun hm => hp c hm rfl)]
    omega
termination_by l.length
theorem splitAll (s : ByteArray) (m : Int) (w : World) (hs : s.size ≤ 1048576) (hm : w.cell? ⟨0, 0, none⟩ = some (.int .i64 m)) :
    Calls Tryd.prog 20 #[.string s, .string ⟨#[32]⟩] w fun e w' => ∃ (A : Option Addr) (n q : Nat), e = .returned (.slice A n q) ∧ Txs w' w.heap.size A n q (splF 32 s.data.toList) ∧ Below w.heap.size w w' := by
  refine (Tryd.strings_Split s ⟨#[32]⟩ m w (by omega) hm (by decide)).mono fun e w' ⟨he, hw⟩ => ?_
  have hc : Lib.countB s ⟨#[32]⟩ = s.data.toList.count 32 := count_one 32 s.data.toList
  have hL : Lib.splitB ⟨#[32]⟩ 0 (Lib.countB s ⟨#[32]⟩) s = (splF 32 s.data.toList).map bs := by
    rw [← bs_map (Lib.splitB _ _ _ _), Lib.splitB_data, hc]
    congr 1
    exact splitK_all 32 _ _ (Nat.le_refl _)
  have hn : Lib.countB s ⟨#[32]⟩ + 1 = (splF 32 s.data.toList).length := by rw [hc, splF_count]
  rw [hL] at hw
  rw [hn] at he
  have hle := splF_le 32 s.data.toList
  rw [← Lib.size_eq] at hle
  have hl : (sts ((splF 32 s.data.toList).map bs)).length = (splF 32 s.data.toList).length * 1 := by rw [Cells.sts_len]; simp
  refine ⟨_, _, _, he, ?_, ?_⟩
  · subst hw
    refine Orw.mk (Nat.le_refl _) (Blk.new w _ _ rfl) (by omega) (by unfold maxLen; omega) (by simp) ?_ hl
    rw [← hl, List.toList_toArray]
    exact List.take_length
  · subst hw
    exact (Below.refl _ _).alloc (Nat.le_refl _) _


end Go.Proofs.YtemjjjjkokfjdaaDoor.WalkTb

namespace Go.Proofs.YtemjjjjkokfjdaaDoor.WalkTc
open Go Go.RowKit Go.Proofs.YtemjjjjkokfjdaaDoor.Base Go.Proofs.YtemjjjjkokfjdaaDoor.Plain Go.Proofs.YtemjjjjkokfjdaaDoor.PlainT Go.Proofs.YtemjjjjkokfjdaaDoor.PlainTx Go.Proofs.YtemjjjjkokfjdaaDoor.PlainSp Go.Proofs.YtemjjjjkokfjdaaDoor.PlainSq Go.Proofs.YtemjjjjkokfjdaaDoor.WalkN Go.Proofs.YtemjjjjkokfjdaaDoor.WalkP Go.Proofs.YtemjjjjkokfjdaaDoor.Words Go.Proofs.YtemjjjjkokfjdaaDoor.Ints Go.Proofs.YtemjjjjkokfjdaaDoor.Cells Go.Proofs.YtemjjjjkokfjdaaDoor.WalkRD Go.Proofs.YtemjjjjkokfjdaaDoor.WalkSp Go.Proofs.YtemjjjjkokfjdaaDoor.WalkSq Go.Proofs.YtemjjjjkokfjdaaDoor.WalkQ Go.Proofs.YtemjjjjkokfjdaaDoor.WalkSH Go.Proofs.YtemjjjjkokfjdaaDoor.WalkAp Go.Proofs.YtemjjjjkokfjdaaDoor.PlainRt Go.Proofs.YtemjjjjkokfjdaaDoor.PlainRu Go.Proofs.YtemjjjjkokfjdaaDoor.WalkTa Go.Proofs.YtemjjjjkokfjdaaDoor.WalkTb
set_option linter.unusedVariables false
set_option linter.unusedSimpArgs false

theorem rdV_form (l : TX) : ∃ (z : Int) (b : Bool), rdV l = .tuple #[.int .i64 z, .bool b] ∧ (b = true → numF l = some z) ∧ (b = false → numF l = none) ∧ z = (numF l).getD 0 := by
  cases h : numF l with
  | none => exact ⟨0, false, rdV_no h, fun e => (by cases e), fun _ => rfl, rfl⟩
  | some n => exact ⟨n, true, rdV_yes h, fun _ => rfl, fun e => (by cases e), rfl⟩
theorem got_form {l : TX} {lo : Nat} {e : Ending} {w : World} (h : Got l lo e w) : ∃ (zs : List Int) (A : Option Addr) (n q : Nat) (b : Bool), e = .returned (.tuple #[.slice A n q, .bool b]) ∧ Ow w lo A n q zs ∧ (b = true → readF l = some zs) ∧ (b = false → readF l = none) ∧ zs = (readF l).getD [] := by
  rcases h with ⟨h, rfl⟩ | ⟨zs, A, n, q, h, rfl, ho⟩
  · exact ⟨[], none, 0, 0, false, rfl, Ow.nil _ _, fun e => (by cases e), fun _ => h, by rw [h]; rfl⟩
  · exact ⟨zs, A, n, q, true, rfl, ho, fun _ => h, fun e => (by cases e), by rw [h]; rfl⟩
theorem row_form0 {w : World} {lo n : Nat} {v : Value} {zs : List Int} (h : w.ownsRow lo 2 1 v n (vals zs)) : ∃ (B : Option Addr) (d : Nat), v = .slice B n d ∧ Ow w lo B n d zs := by
  have h2 := h
  rcases h2.2 with ⟨rfl, rfl⟩ | ⟨g, cap, cur, rfl, _⟩
  · exact ⟨none, 0, rfl, h⟩
  · exact ⟨_, _, rfl, h⟩
theorem rowF_len {wd : Int} {l : TX} (h : (splF 32 l).length ≠ 2) : rowF wd l = none := by
  unfold rowF
  rw [if_pos h]
theorem rowF_a {wd : Int} {l : TX} (h : readF ((splF 32 l).getD 0 []) = none) : rowF wd l = none := by
  cases hr : rowF wd l with
  | none => rfl
  | some r =>
    obtain ⟨x, y⟩ := r
    have := (rowF_yes hr).2.1
    rw [h] at this
    cases this
theorem rowF_b {wd : Int} {l : TX} (h : readF ((splF 32 l).getD 1 []) = none) : rowF wd l = none := by
  cases hr : rowF wd l with
  | none => rfl
  | some r =>
    obtain ⟨x, y⟩ := r
    have := (rowF_yes hr).2.2.1
    rw [h] at this
    cases this
theorem rowF_w {wd : Int} {l : TX} {x y : List Int} (ha : readF ((splF 32 l).getD 0 []) = some x) (hb : readF ((splF 32 l).getD 1 []) = some y) (h : ¬ ((x.length : Int) = wd ∧ (y.length : Int) = wd)) : rowF wd l = none := by
  cases hr : rowF wd l with
  | none => rfl
  | some r =>
    obtain ⟨x', y'⟩ := r
    obtain ⟨_, h1, h2, h3, h4⟩ := rowF_yes hr
    rw [ha] at h1
    rw [hb] at h2
    injection h1 with h1
    injection h2 with h2
    subst h1 h2
    exact absurd ⟨h3, h4⟩ h
theorem line_at {L : List TX} {N y : Nat} (h1 : 1 ≤ y) (h2 : y ≤ N) : ((L.drop 1).take N).getD (y - 1) [] = L.getD y [] := by
  rw [List.getD_eq_getElem?_getD, List.getD_eq_getElem?_getD, List.getElem?_take, if_pos (by omega), List.getElem?_drop, show 1 + (y - 1) = y by omega]
theorem lines_cnt {L : List TX} {N : Nat} (hl : L.length = N + 2) : ((L.drop 1).take N).length = N := by
  rw [List.length_take, List.length_drop]
  omega
/-- a row that is none of the kind ends the reading -/
theorem ref_stop {s : TX} {L H : List TX} {a wd : Int} {N y : Nat} (hL : splF 10 s = L) (hH : splF 32 (L.getD 0 []) = H) (n1 : numF (H.getD 1 []) = some a) (n2 : numF (H.getD 2 []) = some wd) (n3 : numF (H.getD 3 []) = some (N : Int)) (hl : L.length = N + 2) (h1 : 1 ≤ y) (h2 : y ≤ N) (hr : rowF wd (L.getD y []) = none) : refT s = none :=
  ref_4 hL hH n1 n2 n3 (.inr (.inl (by
    rw [Int.toNat_natCast]
    exact rowsF_stop wd _ (y - 1) (by rw [lines_cnt hl]; omega) (by rw [line_at h1 h2]; exact hr))))
/-- what the rows so far are -/
def RowsTo (wd : Int) (L : List TX) (N y : Nat) (P Q : List Int) : Prop := rowsF wd (((L.drop 1).take N).take (y - 1)) = some (P, Q)
theorem rows_start (wd : Int) (L : List TX) (N : Nat) : RowsTo wd L N 1 [] [] := by
  unfold RowsTo
  simp [rowsF]
theorem rows_next {wd : Int} {L : List TX} {N y y' : Nat} {P Q a b : List Int} (hl : L.length = N + 2) (h1 : 1 ≤ y) (h2 : y ≤ N) (hy : y' = y + 1) (h : RowsTo wd L N y P Q) (hr : rowF wd (L.getD y []) = some (a, b)) : RowsTo wd L N y' (P ++ a) (Q ++ b) := by
  unfold RowsTo at h ⊢
  rw [hy, show y + 1 - 1 = (y - 1) + 1 by omega, take_snocL (by rw [lines_cnt hl]; omega), line_at h1 h2]
  exact rowsF_snoc wd _ _ _ _ _ _ h hr
theorem rows_all {wd : Int} {L : List TX} {N y : Nat} {P Q : List Int} (hl : L.length = N + 2) (hy : y = N + 1) (h : RowsTo wd L N y P Q) : rowsF wd ((L.drop 1).take ((N : Int)).toNat) = some (P, Q) := by
  unfold RowsTo at h
  rw [List.take_of_length_le (by rw [lines_cnt hl]; omega)] at h
  rw [Int.toNat_natCast]
  exact h
/-- an append's outcome, in short -/
theorem at_where {v v' : Value} {w : World} (h : v'.ownBlock = v.ownBlock ∨ v'.ownBlock = some w.heap.size) : ∀ k, v'.ownBlock = some k → v.ownBlock = some k ∨ w.heap.size ≤ k := by
  intro k hk
  rcases h with h | h
  · exact .inl (h ▸ hk)
  · rw [h] at hk
    injection hk with hk
    exact .inr (by omega)

end Go.Proofs.YtemjjjjkokfjdaaDoor.WalkTc

namespace Go.Proofs.YtemjjjjkokfjdaaDoor.WalkTe
open Go Go.RowKit Go.Proofs.YtemjjjjkokfjdaaDoor.Base Go.Proofs.YtemjjjjkokfjdaaDoor.Plain Go.Proofs.YtemjjjjkokfjdaaDoor.PlainT Go.Proofs.YtemjjjjkokfjdaaDoor.PlainTx Go.Proofs.YtemjjjjkokfjdaaDoor.PlainSp Go.Proofs.YtemjjjjkokfjdaaDoor.PlainSq Go.Proofs.YtemjjjjkokfjdaaDoor.WalkN Go.Proofs.YtemjjjjkokfjdaaDoor.WalkP Go.Proofs.YtemjjjjkokfjdaaDoor.Words Go.Proofs.YtemjjjjkokfjdaaDoor.Ints Go.Proofs.YtemjjjjkokfjdaaDoor.Cells Go.Proofs.YtemjjjjkokfjdaaDoor.WalkTt Go.Proofs.YtemjjjjkokfjdaaDoor.WalkTv Go.Proofs.YtemjjjjkokfjdaaDoor.WalkRD Go.Proofs.YtemjjjjkokfjdaaDoor.WalkSp Go.Proofs.YtemjjjjkokfjdaaDoor.WalkSq Go.Proofs.YtemjjjjkokfjdaaDoor.WalkQ Go.Proofs.YtemjjjjkokfjdaaDoor.WalkSH Go.Proofs.YtemjjjjkokfjdaaDoor.WalkAp Go.Proofs.YtemjjjjkokfjdaaDoor.WalkCT Go.Proofs.YtemjjjjkokfjdaaDoor.PlainRt Go.Proofs.YtemjjjjkokfjdaaDoor.PlainRu Go.Proofs.YtemjjjjkokfjdaaDoor.WalkTa Go.Proofs.YtemjjjjkokfjdaaDoor.WalkTb Go.Proofs.YtemjjjjkokfjdaaDoor.WalkTc
set_option linter.unusedVariables false
set_option linter.unusedSimpArgs false

theorem ow_cap {w : World} {lo n c : Nat} {A : Option Addr} {zs : List Int} (h : Ow w lo A n c zs) : n ≤ c := by
  rcases h.form with ⟨_, rfl, rfl, _⟩ | ⟨g, cs, _, _, _, h1, _⟩
  · exact Nat.le_refl _
  · exact h1
/-- a list of one's own, another one put behind it -/
theorem run_ints {w : World} {lo lo2 n c m d : Nat} {A B : Option Addr} {zs ys : List Int} (ty : TypeId) (ho : Ow w lo A n c zs) (hr : Ow w lo2 B m d ys) (b1 : n + m ≤ 1000000) (hb : lo ≤ w.heap.size) :
    ∃ (B' : Option Addr) (q' : Nat) (w' : World), (Builtin.append_ #[22, 22] ty #[.slice A n c, .slice B m d]).run Tryd.prog w = .ok (.slice B' (n + m) q') w' ∧ Ow w' lo B' (n + m) q' (zs ++ ys) ∧ Gr w w' A ∧
      (∀ k, (Value.slice B' (n + m) q').ownBlock = some k → (Value.slice A n c).ownBlock = some k ∨ w.heap.size ≤ k) := by
  obtain ⟨i9, hI, hz0, hz1, hz2⟩ := info_parts WalkQ.infoI
  have h63 : n + m ≤ maxLen := by unfold maxLen; omega
  rcases hr.form with ⟨rfl, rfl, rfl, rfl⟩ | ⟨g, cs, rfl, _⟩
  · refine ⟨A, c, w, run_append_owned_none (P := Tryd.prog) (w := w) lo 22 ty 2 i9 1 Tryd.underlying22 hI _ n _ ho, ?_, Gr.refl _ _, fun k h => .inl h⟩
    rw [List.append_nil]
    exact ho
  · obtain ⟨v', w', h1, h2, h3, _, h5⟩ := run_append_own_at (P := Tryd.prog) w lo 22 ty 2 i9 (.int .i64 0) 1 8 Tryd.underlying22 hI hz0 hz1 hz2 rfl (by decide) (.slice A n c) n (vals zs) ho ⟨g, 0, none⟩ m d (vals ys) (by rw [vals_len, hr.len, Nat.mul_one]) (rd_news hr.rd) (vals_one ys) h63 (by omega) hb
    rw [← vals_app] at h2
    obtain ⟨B', q', rfl, ho'⟩ := row_form0 h2
    exact ⟨B', q', w', h1, ho', gr_own h3, at_where h5⟩
/-- the same, as one step of a region that draws -/
theorem step_ints {ops : Array Oper} {o : Oper} {a : Act} {w : World} {K : Act → World → Prop} {Q : Exit → Act → World → Prop} {E : Prop}
    (hg : o.guard = none) (s x : Operand) (hop : o.op = Op.call { callee := Callee.builtin Builtin.append, args := #[s, x], argTypes := #[22, 22] })
    {lo lo2 n c m d : Nat} {A B : Option Addr} {zs ys : List Int} (hs : a.eval s = .slice A n c) (ho : Ow w lo A n c zs) (hx : a.eval x = .slice B m d) (hr : Ow w lo2 B m d ys) (b1 : n + m ≤ 1000000) (hb : lo ≤ w.heap.size)
    (hK : ∀ (B' : Option Addr) (q' : Nat) (w' : World), Ow w' lo B' (n + m) q' (zs ++ ys) → Gr w w' A → (∀ k, (Value.slice B' (n + m) q').ownBlock = some k → (Value.slice A n c).ownBlock = some k ∨ w.heap.size ≤ k) → K (a.put o.dst (.slice B' (n + m) q')) w') :
    if Region.wanted o (yielded ops a.tmps) = true then Oper.wp Tryd.prog o a w K Q else E := by
  have hw : Region.wanted o (yielded ops a.tmps) = true := by simp [Region.wanted, hg]
  rw [if_pos hw]
  obtain ⟨B', q', w', hrun, h1, h2, h3⟩ := run_ints o.type ho hr b1 hb
  unfold Oper.wp
  simp [execOp, hop, resolve, invoke, builtin, hs, hx, hrun, Result.andThen]
  exact hK B' q' w' h1 h2 h3
/-- a row of texts from its second element on -/
theorem cut_one (g n c : Nat) (h : n ≤ c) (h1 : 1 ≤ n) : ∃ A', (2 ≤ n → A' = some ⟨g, 1, none⟩) ∧ ∀ W, (Instr.slice 35 (.slice (some ⟨g, 0, none⟩) n c) (some (.int .i64 1)) none none).run Tryd.prog W = .ok (.slice A' (n - 1) (c - 1)) W := by
  refine ⟨if c = 1 then some ⟨g, 0, none⟩ else some ⟨g, 1, none⟩, fun h2 => if_neg (by omega), fun W => ?_⟩
  have hs : (sizeOf (Tryd.prog.elem 35)).run Tryd.prog W = .ok 1 W := by kernel_rfl
  rw [run_slice_l W 35 (some ⟨g, 0, none⟩) n c (by kernel_rfl) .i64 1 (by omega) (by omega), hs]
  simp [sliced, Addr.add_lit]
/-- both lists put in the box -/
theorem RInv.put {w W : World} {ob : Nat} {s a b : Int} {K1 K2 : Nat} {ZP ZQ : List Int} {P Q : Option Addr} {p q : Nat} {LA : Option Addr} {ln lq : Nat} {L : List TX} {x y : Value}
    (hb : Below w.heap.size w W) (hob : w.heap.size + 1 ≤ ob) (oP : Ow W (ob + 1) P K1 p ZP) (oQ : Ow W (ob + 1) Q K2 q ZQ) (ap : Ap P Q) (bob : Blk W ob 24 #[.int .i64 s, .int .i64 a, .int .i64 b, x, y])
    (rb : Blk W w.heap.size 24 #[.int .i64 0, .int .i64 0, .int .i64 0, .slice none 0 0, .slice none 0 0]) (tx : Txs W 0 LA ln lq L) (tb : ∀ x, LA = some x → x.block < ob ∧ w.heap.size < x.block) :
    RInv w ((W.setCell ⟨ob, 3, none⟩ (.slice P K1 p)).setCell ⟨ob, 4, none⟩ (.slice Q K2 q)) ob s a b K1 K2 ZP ZQ P Q p q LA ln lq L ∧
    RInv w ((W.setCell ⟨ob, 4, none⟩ (.slice Q K2 q)).setCell ⟨ob, 3, none⟩ (.slice P K1 p)) ob s a b K1 K2 ZP ZQ P Q p q LA ln lq L := by
  have h0 : w.heap.size ≤ ob := by omega
  have ht : ∀ a, LA = some a → a.block ≠ ob := fun x e => by have := tb x e; omega
  refine ⟨⟨(hb.setCell h0 _).setCell h0 _, hob, Ow.low _ (by omega) (Ow.low _ (by omega) oP), Ow.low _ (by omega) (Ow.low _ (by omega) oQ), ap, ?_, (rb.far _ (by omega)).far _ (by omega), (Txs.far (Txs.far tx _ ht) _ ht), tb⟩,
    ⟨(hb.setCell h0 _).setCell h0 _, hob, Ow.low _ (by omega) (Ow.low _ (by omega) oP), Ow.low _ (by omega) (Ow.low _ (by omega) oQ), ap, ?_, (rb.far _ (by omega)).far _ (by omega), (Txs.far (Txs.far tx _ ht) _ ht), tb⟩⟩
  · exact (bob.set_ 3 (.slice P K1 p)).set_ 4 (.slice Q K2 q)
  · exact (bob.set_ 4 (.slice Q K2 q)).set_ 3 (.slice P K1 p)
section
variable {w wr w1 w2 : World} {ob : Nat} {s a b : Int} {K1 K2 K1' K2' : Nat} {ZP ZQ Z1 Z2 : List Int} {P Q P' Q' : Option Addr} {p q p' q' : Nat} {LA : Option Addr} {ln lq : Nat} {L : List TX}
/-- the left list grows, then the right one -/
theorem RInv.ab (h : RInv w wr ob s a b K1 K2 ZP ZQ P Q p q LA ln lq L) (g1 : Gr wr w1 P) (o1 : Ow w1 (ob + 1) P' K1' p' Z1) (n1 : ∀ k, (Value.slice P' K1' p').ownBlock = some k → (Value.slice P K1 p).ownBlock = some k ∨ wr.heap.size ≤ k)
    (g2 : Gr w1 w2 Q) (o2 : Ow w2 (ob + 1) Q' K2' q' Z2) (n2 : ∀ k, (Value.slice Q' K2' q').ownBlock = some k → (Value.slice Q K2 q).ownBlock = some k ∨ w1.heap.size ≤ k) :
    RInv w ((w2.setCell ⟨ob, 3, none⟩ (.slice P' K1' p')).setCell ⟨ob, 4, none⟩ (.slice Q' K2' q')) ob s a b K1' K2' Z1 Z2 P' Q' p' q' LA ln lq L ∧
    RInv w ((w2.setCell ⟨ob, 4, none⟩ (.slice Q' K2' q')).setCell ⟨ob, 3, none⟩ (.slice P' K1' p')) ob s a b K1' K2' Z1 Z2 P' Q' p' q' LA ln lq L := by
  have hb := h.hob
  have hP : ∀ x, P = some x → ob + 1 ≤ x.block := fun x e => (h.oP.block e).1
  have hQ : ∀ x, Q = some x → ob + 1 ≤ x.block := fun x e => (h.oQ.block e).1
  have a1 := ap_next h.oQ h.ap n1
  exact RInv.put ((h.below.trans (Gr.below g1 (fun x e => by have := hP x e; omega) h.below.size)).trans (Gr.below g2 (fun x e => by have := hQ x e; omega) (Nat.le_trans h.below.size g1.size))) h.hob (Ow.gr o1 g2 a1) o2 (ap_next o1 a1.symm n2).symm
    (blk_gr g2 (fun x e => by have := hQ x e; omega) (blk_gr g1 (fun x e => by have := hP x e; omega) h.bob)) (blk_gr g2 (fun x e => by have := hQ x e; omega) (blk_gr g1 (fun x e => by have := hP x e; omega) h.rb))
    (Orw.gr (Orw.gr h.tx g1 (fun x y ex ey => by have := h.tb x ex; have := hP y ey; omega)) g2 (fun x y ex ey => by have := h.tb x ex; have := hQ y ey; omega)) h.tb
/-- the right list grows, then the left one -/
theorem RInv.ba (h : RInv w wr ob s a b K1 K2 ZP ZQ P Q p q LA ln lq L) (g2 : Gr wr w1 Q) (o2 : Ow w1 (ob + 1) Q' K2' q' Z2) (n2 : ∀ k, (Value.slice Q' K2' q').ownBlock = some k → (Value.slice Q K2 q).ownBlock = some k ∨ wr.heap.size ≤ k)
    (g1 : Gr w1 w2 P) (o1 : Ow w2 (ob + 1) P' K1' p' Z1) (n1 : ∀ k, (Value.slice P' K1' p').ownBlock = some k → (Value.slice P K1 p).ownBlock = some k ∨ w1.heap.size ≤ k) :
    RInv w ((w2.setCell ⟨ob, 3, none⟩ (.slice P' K1' p')).setCell ⟨ob, 4, none⟩ (.slice Q' K2' q')) ob s a b K1' K2' Z1 Z2 P' Q' p' q' LA ln lq L ∧
    RInv w ((w2.setCell ⟨ob, 4, none⟩ (.slice Q' K2' q')).setCell ⟨ob, 3, none⟩ (.slice P' K1' p')) ob s a b K1' K2' Z1 Z2 P' Q' p' q' LA ln lq L := by
  have hb := h.hob
  have hP : ∀ x, P = some x → ob + 1 ≤ x.block := fun x e => (h.oP.block e).1
  have hQ : ∀ x, Q = some x → ob + 1 ≤ x.block := fun x e => (h.oQ.block e).1
  have a1 := ap_next h.oP h.ap.symm n2
  exact RInv.put ((h.below.trans (Gr.below g2 (fun x e => by have := hQ x e; omega) h.below.size)).trans (Gr.below g1 (fun x e => by have := hP x e; omega) (Nat.le_trans h.below.size g2.size))) h.hob o1 (Ow.gr o2 g1 a1) (ap_next o2 a1.symm n1)
    (blk_gr g1 (fun x e => by have := hP x e; omega) (blk_gr g2 (fun x e => by have := hQ x e; omega) h.bob)) (blk_gr g1 (fun x e => by have := hP x e; omega) (blk_gr g2 (fun x e => by have := hQ x e; omega) h.rb))
    (Orw.gr (Orw.gr h.tx g2 (fun x y ex ey => by have := h.tb x ex; have := hQ y ey; omega)) g1 (fun x y ex ey => by have := h.tb x ex; have := hP y ey; omega)) h.tb
end
/-- the program's reading, step by step -/
theorem hsF_len (l : TX) : (hsF l).length ≤ 64 := by
  unfold hsF
  cases h : readF (Lib.cut l [32]).1 with
  | none => simp
  | some x => exact (fit_yes (list_read h).2).2
theorem csF_len (l : TX) : (csF l).length ≤ 64 := by
  unfold csF
  cases h : readF (Lib.cut l [32]).2.1 with
  | none => simp
  | some x => exact (fit_yes (list_read h).2).2
theorem dA_size (s : ByteArray) : (dA s).size ≤ s.size := by
  have := (PlainRb.cut_len s.data.toList [32]).1
  unfold dA
  rw [bs_size, Lib.size_eq]
  exact this
theorem dB_size (s : ByteArray) : (dB s).size ≤ s.size := by
  have := (PlainRb.cut_len s.data.toList [32]).2
  unfold dB
  rw [bs_size, Lib.size_eq]
  exact this
/-- what k lines give -/
def HsTo (L : List TX) (k : Nat) : List Int := ((L.drop 1).take k).flatMap hsF
def CsTo (L : List TX) (k : Nat) : List Int := ((L.drop 1).take k).flatMap csF
theorem take_line {L : List TX} {k k' : Nat} (h : k + 1 < L.length) (hk : k' = k + 1) : (L.drop 1).take k' = (L.drop 1).take k ++ [L.getD (k + 1) []] := by
  subst hk
  rw [take_snocL (by rw [List.length_drop]; omega)]
  congr 2
  rw [List.getD_eq_getElem?_getD, List.getD_eq_getElem?_getD, List.getElem?_drop, Nat.add_comm]
theorem hs_next {L : List TX} {k k' : Nat} (h : k + 1 < L.length) (hk : k' = k + 1) : HsTo L k' = HsTo L k ++ hsF (L.getD (k + 1) []) := by
  unfold HsTo
  rw [take_line h hk, List.flatMap_append]
  simp
theorem cs_next {L : List TX} {k k' : Nat} (h : k + 1 < L.length) (hk : k' = k + 1) : CsTo L k' = CsTo L k ++ csF (L.getD (k + 1) []) := by
  unfold CsTo
  rw [take_line h hk, List.flatMap_append]
  simp
theorem pro_1 {s : TX} {L : List TX} (hL : Lib.splitN s [10] 26 = L) (h : (splF 32 (L.getD 0 [])).length ≠ 4) : refT s = none := by
  refine pro_none ?_
  unfold proT
  rw [hL, if_pos h]
theorem pro_2 {s : TX} {L H : List TX} {k : Nat} (hL : Lib.splitN s [10] 26 = L) (hH : splF 32 (L.getD 0 []) = H) (h : H.length = 4) (hk : L.length ≤ k + 1) :
    refT s = if ttT ⟨(numF (H.getD 1 [])).getD 0, (numF (H.getD 2 [])).getD 0, (numF (H.getD 3 [])).getD 0, HsTo L k, CsTo L k⟩ = s ∧ s ≠ [] then some ⟨(numF (H.getD 1 [])).getD 0, (numF (H.getD 2 [])).getD 0, (numF (H.getD 3 [])).getD 0, HsTo L k, CsTo L k⟩ else none := by
  refine pro_some ?_
  unfold proT HsTo CsTo
  rw [hL, hH, if_neg (by omega), List.take_of_length_le (by rw [List.length_drop]; omega)]

end Go.Proofs.YtemjjjjkokfjdaaDoor.WalkTe
