/- CropTerrain: what it gives, plainly. -/
import Derived.Test.YtemjjjjkokfjdaaDoorWalkAp
import Derived.Test.YtemjjjjkokfjdaaDoorWalkW
namespace Go.Proofs.YtemjjjjkokfjdaaDoor.WalkCT
open Go Go.RowKit Go.Proofs.YtemjjjjkokfjdaaDoor.Base Go.Proofs.YtemjjjjkokfjdaaDoor.Plain Go.Proofs.YtemjjjjkokfjdaaDoor.Words Go.Proofs.YtemjjjjkokfjdaaDoor.Ints Go.Proofs.YtemjjjjkokfjdaaDoor.WalkN Go.Proofs.YtemjjjjkokfjdaaDoor.WalkP Go.Proofs.YtemjjjjkokfjdaaDoor.WalkI Go.Proofs.YtemjjjjkokfjdaaDoor.WalkU Go.Proofs.YtemjjjjkokfjdaaDoor.PlainT Go.Proofs.YtemjjjjkokfjdaaDoor.WalkQ Go.Proofs.YtemjjjjkokfjdaaDoor.WalkW Go.Proofs.YtemjjjjkokfjdaaDoor.WalkSH Go.Proofs.YtemjjjjkokfjdaaDoor.WalkAp
set_option linter.unusedVariables false
set_option linter.unusedSimpArgs false

/-- is a part of a terrain within it -/
def cropB (wd ht x y a b : Int) : Bool := inB a 2 24 && (inB b 2 24 && (inB x 0 (wd - a) && inB y 0 (ht - b)))
theorem crop_a {wd ht x y a b : Int} (e : inB a 2 24 = false) : cropB wd ht x y a b = false := by unfold cropB; rw [e]; rfl
theorem crop_b {wd ht x y a b : Int} (e : inB b 2 24 = false) : cropB wd ht x y a b = false := by unfold cropB; rw [e]; simp
theorem crop_x {wd ht x y a b : Int} (e : inB x 0 (wd - a) = false) : cropB wd ht x y a b = false := by unfold cropB; rw [e]; simp
theorem crop_y {wd ht x y a b : Int} (e : inB y 0 (ht - b) = false) : cropB wd ht x y a b = false := by unfold cropB; rw [e]; simp
theorem crop_yes {wd ht x y a b : Int} (h : cropB wd ht x y a b = true) : inB a 2 24 = true ∧ inB b 2 24 = true ∧ inB x 0 (wd - a) = true ∧ inB y 0 (ht - b) = true := by
  unfold cropB at h
  simp only [Bool.and_eq_true] at h
  exact ⟨h.1, h.2.1, h.2.2.1, h.2.2.2⟩
theorem crop_no {wd ht x y a b : Int} (h : cropB wd ht x y a b = false) : inB a 2 24 = false ∨ (inB a 2 24 = true ∧ inB b 2 24 = false) ∨ (inB a 2 24 = true ∧ inB b 2 24 = true ∧ inB x 0 (wd - a) = false) ∨ (inB a 2 24 = true ∧ inB b 2 24 = true ∧ inB x 0 (wd - a) = true ∧ inB y 0 (ht - b) = false) := by
  rcases Bool.eq_false_or_eq_true (inB a 2 24) with e1 | e1
  · rcases Bool.eq_false_or_eq_true (inB b 2 24) with e2 | e2
    · rcases Bool.eq_false_or_eq_true (inB x 0 (wd - a)) with e3 | e3
      · rcases Bool.eq_false_or_eq_true (inB y 0 (ht - b)) with e4 | e4
        · unfold cropB at h
          rw [e1, e2, e3, e4] at h
          cases h
        · exact .inr (.inr (.inr ⟨e1, e2, e3, e4⟩))
      · exact .inr (.inr (.inl ⟨e1, e2, e3⟩))
    · exact .inr (.inl ⟨e1, e2⟩)
  · exact .inl e1
/-- a row of the part -/
def cutR (wn xn yn an : Nat) (zs : List Int) (k : Nat) : List Int := (zs.drop ((yn + k) * wn + xn)).take an
/-- k rows of the part -/
def cutL (wn xn yn an : Nat) (zs : List Int) : Nat → List Int
  | 0 => []
  | k + 1 => cutL wn xn yn an zs k ++ cutR wn xn yn an zs k
theorem cutR_len {wn xn yn an n k : Nat} {zs : List Int} (hl : zs.length = n) (h : (yn + k) * wn + xn + an ≤ n) : (cutR wn xn yn an zs k).length = an := by
  unfold cutR
  rw [List.length_take, List.length_drop, hl]
  omega
theorem cutR_get {wn xn yn an n k i : Nat} {zs : List Int} (hi : i < an) : (cutR wn xn yn an zs k).getD i 0 = zs.getD ((yn + k) * wn + xn + i) 0 := by
  unfold cutR
  simp [List.getD, List.getElem?_take, hi]
theorem cutL_len {wn xn yn an n : Nat} {zs : List Int} (hl : zs.length = n) : ∀ k, (∀ j, j < k → (yn + j) * wn + xn + an ≤ n) → (cutL wn xn yn an zs k).length = k * an
  | 0, _ => by simp [cutL]
  | k + 1, h => by
    unfold cutL
    rw [List.length_append, cutL_len hl k (fun j hj => h j (by omega)), cutR_len hl (h k (by omega)), Nat.add_mul, Nat.one_mul]
/-- i numbers of the next row -/
def cutP (wn xn yn an : Nat) (zs : List Int) (k i : Nat) : List Int := cutL wn xn yn an zs k ++ (cutR wn xn yn an zs k).take i
theorem cutP_zero (wn xn yn an : Nat) (zs : List Int) (k : Nat) : cutP wn xn yn an zs k 0 = cutL wn xn yn an zs k := by unfold cutP; simp
theorem cutP_next {wn xn yn an n k i : Nat} {zs : List Int} (hl : zs.length = n) (h : (yn + k) * wn + xn + an ≤ n) (hi : i < an) : cutP wn xn yn an zs k i ++ [zs.getD ((yn + k) * wn + xn + i) 0] = cutP wn xn yn an zs k (i + 1) := by
  have hr := cutR_len hl h
  unfold cutP
  rw [List.take_succ_eq_append_getElem (by omega), List.append_assoc, ← cutR_get (n := n) hi]
  simp [List.getD, List.getElem?_eq_getElem (show i < (cutR wn xn yn an zs k).length by omega)]
theorem cutP_end {wn xn yn an n k : Nat} {zs : List Int} (hl : zs.length = n) (h : (yn + k) * wn + xn + an ≤ n) : cutP wn xn yn an zs k an = cutL wn xn yn an zs (k + 1) := by
  unfold cutP
  rw [List.take_of_length_le (by rw [cutR_len hl h]; exact Nat.le_refl _)]
  rfl
/-- what CropTerrain gives -/
def cropR (s wd ht : Int) (n m : Nat) (hs cs : List Int) (x y a b : Int) : Ter :=
  bif terB s wd ht n m hs cs then (bif cropB wd ht x y a b then ⟨s, a, b, 0, b.toNat * a.toNat, cutL wd.toNat x.toNat y.toNat a.toNat hs b.toNat, b.toNat * a.toNat, cutL wd.toNat x.toNat y.toNat a.toNat cs b.toNat⟩ else Ter.no 2) else Ter.no 1
/-- the rows of a part lie within the terrain -/
theorem crop_in {wn hn xn yn an bn n k : Nat} (hn2 : n = wn * hn) (hx : xn + an ≤ wn) (hy : yn + bn ≤ hn) (hk : k < bn) : (yn + k) * wn + xn + an ≤ n := by
  have h1 : (yn + k + 1) * wn ≤ hn * wn := Nat.mul_le_mul_right _ (by omega)
  rw [Nat.add_mul (yn + k) 1, Nat.one_mul] at h1
  rw [hn2, Nat.mul_comm wn]
  omega

/-- what holds while the part grows: its box, its two lists, the argument's box, the result's box -/
structure CInv (w wr : World) (ob : Nat) (cs : Array Value) (s a b : Int) (K1 K2 : Nat) (ZP ZQ : List Int) (P Q : Option Addr) (p q : Nat) : Prop where
  below : Below w.heap.size w wr
  hob : w.heap.size + 2 ≤ ob
  oP : Ow wr (ob + 1) P K1 p ZP
  oQ : Ow wr (ob + 1) Q K2 q ZQ
  ap : Ap P Q
  bob : Blk wr ob 24 #[.int .i64 s, .int .i64 a, .int .i64 b, .slice P K1 p, .slice Q K2 q]
  rb : Blk wr (w.heap.size + 1) 24 #[.int .i64 0, .int .i64 0, .int .i64 0, .slice none 0 0, .slice none 0 0]
  pb : Blk wr w.heap.size 24 cs

section
variable {w wr w1 : World} {ob : Nat} {cs : Array Value} {s a b : Int} {K1 K2 K' : Nat} {ZP ZQ Z' : List Int} {P Q B' : Option Addr} {p q p' : Nat}
theorem CInv.drew (h : CInv w wr ob cs s a b K1 K2 ZP ZQ P Q p q) : CInv w wr.drew ob cs s a b K1 K2 ZP ZQ P Q p q := ⟨h.below.drew, h.hob, h.oP, h.oQ, h.ap, h.bob, h.rb, h.pb⟩
theorem CInv.left (h : CInv w wr ob cs s a b K1 K2 ZP ZQ P Q p q) (g : Gr wr w1 P) (ho : Ow w1 (ob + 1) B' K' p' Z') (hw : ∀ k, (Value.slice B' K' p').ownBlock = some k → (Value.slice P K1 p).ownBlock = some k ∨ wr.heap.size ≤ k) :
    CInv w (w1.setCell ⟨ob, 3, none⟩ (.slice B' K' p')) ob cs s a b K' K2 Z' ZQ B' Q p' q := by
  have hb := h.hob
  have hP : ∀ x, P = some x → ob + 1 ≤ x.block := fun x e => (h.oP.block e).1
  refine ⟨(h.below.trans (Gr.below g (fun x e => by have := hP x e; omega) h.below.size)).setCell (show w.heap.size ≤ ob by omega) _, h.hob, Ow.low _ (by omega) ho, Ow.low _ (by omega) (Ow.gr h.oQ g h.ap.symm), ap_next h.oQ h.ap hw, ?_, (blk_gr g (fun x e => by have := hP x e; omega) h.rb).far _ (by omega), (blk_gr g (fun x e => by have := hP x e; omega) h.pb).far _ (by omega)⟩
  have h2 := (blk_gr g (fun x e => by have := hP x e; omega) h.bob).set_ 3 (.slice B' K' p')
  exact h2
theorem CInv.right (h : CInv w wr ob cs s a b K1 K2 ZP ZQ P Q p q) (g : Gr wr w1 Q) (ho : Ow w1 (ob + 1) B' K' p' Z') (hw : ∀ k, (Value.slice B' K' p').ownBlock = some k → (Value.slice Q K2 q).ownBlock = some k ∨ wr.heap.size ≤ k) :
    CInv w (w1.setCell ⟨ob, 4, none⟩ (.slice B' K' p')) ob cs s a b K1 K' ZP Z' P B' p p' := by
  have hb := h.hob
  have hQ : ∀ x, Q = some x → ob + 1 ≤ x.block := fun x e => (h.oQ.block e).1
  refine ⟨(h.below.trans (Gr.below g (fun x e => by have := hQ x e; omega) h.below.size)).setCell (show w.heap.size ≤ ob by omega) _, h.hob, Ow.low _ (by omega) (Ow.gr h.oP g h.ap), Ow.low _ (by omega) ho, (ap_next h.oP h.ap.symm hw).symm, ?_, (blk_gr g (fun x e => by have := hQ x e; omega) h.rb).far _ (by omega), (blk_gr g (fun x e => by have := hQ x e; omega) h.pb).far _ (by omega)⟩
  have h2 := (blk_gr g (fun x e => by have := hQ x e; omega) h.bob).set_ 4 (.slice B' K' p')
  exact h2
end

theorem cut_run (ad : Addr) (n c f wn : Nat) (h : f + wn ≤ c) (h0 : 0 < wn) (W : World) : (Instr.slice 22 (.slice (some ad) n c) (some (.int .i64 (f : Int))) (some (.int .i64 ((f : Int) + (wn : Int)))) none).run Tryd.prog W = .ok (.slice (some (ad.add f)) wn (c - f)) W := by
  have hs : (sizeOf (Tryd.prog.elem 22)).run Tryd.prog W = .ok 1 W := by kernel_rfl
  rw [run_slice_lh W 22 (some ad) n c (by kernel_rfl) .i64 .i64 (f : Int) ((f : Int) + (wn : Int)) (by omega) (by omega) (by omega), hs]
  have e : ((f : Int) + (wn : Int)).toNat = f + wn := by omega
  simp [sliced, e]
  omega
theorem rd_cut {w : World} {ad : Addr} {n f an : Nat} {zs : List Int} (h : Rd w (some ad) n zs) (hk : f + an ≤ n) : Rd w (some (ad.add f)) an ((zs.drop f).take an) := by
  refine ⟨by rw [List.length_take, List.length_drop, h.len]; omega, fun hpos => ⟨_, rfl, fun j hj => ?_⟩⟩
  obtain ⟨ad', e, hc⟩ := h.at_ (k := f + j) (by omega)
  injection e with e
  subst e
  have e1 : (ad.add f).add j = ad.add (f + j) := by
    unfold Addr.add
    by_cases h1 : j = 0 <;> by_cases h2 : f = 0 <;> simp [h1, h2, Nat.add_assoc]
  have e2 : ((zs.drop f).take an).getD j 0 = zs.getD (f + j) 0 := by simp [List.getD, List.getElem?_take, hj]
  rw [e1, e2]
  exact hc
theorem vals_app (a b : List Int) : vals (a ++ b) = vals a ++ vals b := by simp [vals]

end Go.Proofs.YtemjjjjkokfjdaaDoor.WalkCT
