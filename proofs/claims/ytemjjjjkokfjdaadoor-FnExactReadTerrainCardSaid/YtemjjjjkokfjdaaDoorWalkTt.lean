/- Terrains as texts: the reference's way. -/
import Derived.Test.YtemjjjjkokfjdaaDoorWalkW
import Derived.Test.YtemjjjjkokfjdaaDoorWalkTx
import Derived.Test.YtemjjjjkokfjdaaDoorWalkLT
import Derived.Test.YtemjjjjkokfjdaaDoorOver
import Derived.Deep.DeepCutAuto
namespace Go.Proofs.YtemjjjjkokfjdaaDoor.WalkTt
open Go Go.RowKit Go.Proofs.YtemjjjjkokfjdaaDoor.Base Go.Proofs.YtemjjjjkokfjdaaDoor.Plain Go.Proofs.YtemjjjjkokfjdaaDoor.PlainT Go.Proofs.YtemjjjjkokfjdaaDoor.PlainTx Go.Proofs.YtemjjjjkokfjdaaDoor.PlainSp Go.Proofs.YtemjjjjkokfjdaaDoor.WalkN Go.Proofs.YtemjjjjkokfjdaaDoor.WalkP Go.Proofs.YtemjjjjkokfjdaaDoor.Words Go.Proofs.YtemjjjjkokfjdaaDoor.Ints Go.Proofs.YtemjjjjkokfjdaaDoor.WalkI Go.Proofs.YtemjjjjkokfjdaaDoor.WalkU Go.Proofs.YtemjjjjkokfjdaaDoor.WalkW Go.Proofs.YtemjjjjkokfjdaaDoor.Cells Go.Proofs.YtemjjjjkokfjdaaDoor.Text Go.Proofs.YtemjjjjkokfjdaaDoor.Dec Go.Proofs.YtemjjjjkokfjdaaDoor.Over Go.Proofs.YtemjjjjkokfjdaaDoor.WalkTx Go.Proofs.YtemjjjjkokfjdaaDoor.WalkLT
set_option linter.unusedVariables false
set_option linter.unusedSimpArgs false

/-- the first line -/
def hdT (s wd ht : Int) : ByteArray := ⟨#[116, 101, 114, 114, 97, 105, 110, 32]⟩ ++ txt s ++ ⟨#[32]⟩ ++ txt wd ++ ⟨#[32]⟩ ++ txt ht ++ ⟨#[10]⟩
/-- the numbers of a row -/
def prt (wd k : Nat) (zs : List Int) : List Int := (zs.drop (k * wd)).take wd
def rowT (wd k : Nat) (hs cs : List Int) : ByteArray := listR (prt wd k hs) ++ ⟨#[32]⟩ ++ listR (prt wd k cs) ++ ⟨#[10]⟩
/-- k rows behind the first line -/
def terT (s w h : Int) (wd : Nat) (hs cs : List Int) : Nat → ByteArray
  | 0 => hdT s w h
  | k + 1 => terT s w h wd hs cs k ++ rowT wd k hs cs
theorem part_len {wd k n : Nat} {zs : List Int} (hl : zs.length = n) (h : (k + 1) * wd ≤ n) : (prt wd k zs).length = wd := by
  unfold prt
  rw [List.length_take, List.length_drop, hl]
  rw [Nat.add_mul, Nat.one_mul] at h
  omega
theorem part_all {wd k : Nat} {zs : List Int} {lo hi : Int} (h : allB zs lo hi = true) : allB (prt wd k zs) lo hi = true := by
  unfold allB prt at *
  rw [List.all_eq_true] at *
  exact fun x hx => h x (List.mem_of_mem_drop (List.mem_of_mem_take hx))
theorem part_fit {wd k n : Nat} {zs : List Int} {lo hi : Int} (hl : zs.length = n) (h : (k + 1) * wd ≤ n) (hw : wd ≤ 24) (hb : allB zs lo hi = true) (h1 : -1000000000000 ≤ lo) (h2 : hi ≤ 1000000000000) : fitB (prt wd k zs) = true := by
  rw [fit_eq, part_len hl h, decide_eq_true (by omega), Bool.and_true]
  have ha := part_all (wd := wd) (k := k) hb
  unfold allB at *
  rw [List.all_eq_true] at *
  intro x hx
  have := inB_yes (ha x hx)
  exact inB_mk (by omega)
/-- a prt of what a slice reads -/
theorem rd_part {w : World} {ad : Addr} {n wd k : Nat} {zs : List Int} (h : Rd w (some ad) n zs) (hk : (k + 1) * wd ≤ n) : Rd w (some (ad.add (k * wd))) wd (prt wd k zs) := by
  refine ⟨part_len h.len hk, fun hpos => ⟨_, rfl, fun j hj => ?_⟩⟩
  have hk2 := hk
  rw [Nat.add_mul, Nat.one_mul] at hk2
  obtain ⟨ad', e, hc⟩ := h.at_ (k := k * wd + j) (by omega)
  injection e with e
  subst e
  have e1 : (ad.add (k * wd)).add j = ad.add (k * wd + j) := by
    unfold Addr.add
    by_cases h1 : j = 0 <;> by_cases h2 : k * wd = 0 <;> simp [h1, h2, Nat.add_assoc]
  have e2 : (prt wd k zs).getD j 0 = zs.getD (k * wd + j) 0 := by
    unfold prt
    simp [List.getD, List.getElem?_take, hj]
  rw [e1, e2]
  exact hc

theorem listR_small {zs : List Int} (h : fitB zs = true) (hl : zs.length ≤ 24) : (listR zs).size ≤ 600 := by
  by_cases h0 : zs = []
  · subst h0
    rw [listR_nil]
    decide
  · rw [listR_yes h h0, jt_size]
    have ha : allB zs (-1000000000000) 1000000000000 = true := by rw [fit_eq] at h; simp only [Bool.and_eq_true] at h; exact h.1
    have := jn_len ha zs.length (Nat.le_refl _)
    rw [List.take_length] at this
    omega
theorem row_size {wd k : Nat} {hs cs : List Int} (h1 : fitB (prt wd k hs) = true) (h2 : fitB (prt wd k cs) = true) (hw : wd ≤ 24) : (rowT wd k hs cs).size ≤ 1300 := by
  have l1 : (prt wd k hs).length ≤ 24 := by unfold prt; rw [List.length_take]; omega
  have l2 : (prt wd k cs).length ≤ 24 := by unfold prt; rw [List.length_take]; omega
  have s1 := listR_small h1 l1
  have s2 := listR_small h2 l2
  have z1 : (⟨#[32]⟩ : ByteArray).size = 1 := rfl
  have z2 : (⟨#[10]⟩ : ByteArray).size = 1 := rfl
  unfold rowT
  rw [cat_size, cat_size, cat_size, z1, z2]
  omega
theorem terT_size {s w h : Int} {wd N : Nat} {hs cs : List Int} (hf : ∀ j, j < N → fitB (prt wd j hs) = true ∧ fitB (prt wd j cs) = true) (hw : wd ≤ 24) (h0 : (hdT s w h).size ≤ 200) : ∀ k, k ≤ N → (terT s w h wd hs cs k).size ≤ 200 + 1300 * k
  | 0, _ => h0
  | k + 1, hk => by
    have ih := terT_size hf hw h0 k (by omega)
    have hr := row_size (hf k (by omega)).1 (hf k (by omega)).2 hw
    show (terT s w h wd hs cs k ++ rowT wd k hs cs).size ≤ _
    rw [cat_size]
    omega

theorem cut_run (ad : Addr) (n c f wn : Nat) (h : f + wn ≤ c) (h0 : 0 < wn) (W : World) : (Instr.slice 22 (.slice (some ad) n c) (some (.int .i64 (f : Int))) (some (.int .i64 ((f : Int) + (wn : Int)))) none).run Tryd.prog W = .ok (.slice (some (ad.add f)) wn (c - f)) W := by
  have hs : (sizeOf (Tryd.prog.elem 22)).run Tryd.prog W = .ok 1 W := by kernel_rfl
  rw [run_slice_lh W 22 (some ad) n c (by kernel_rfl) .i64 .i64 (f : Int) ((f : Int) + (wn : Int)) (by omega) (by omega) (by omega), hs]
  have e : ((f : Int) + (wn : Int)).toNat = f + wn := by omega
  simp [sliced, e]
  omega

set_option maxHeartbeats 2000000 in
theorem specTt (s wd ht : Int) (A B : Option Addr) (n c m d : Nat) (hs cs : List Int) (w : World) (ra : Rd w A n hs) (rb : Rd w B m cs) (hn : n ≤ maxLen) (hm : m ≤ maxLen) (nc : n ≤ c) (md : m ≤ d) (ty : terB s wd ht n m hs cs = true) :
    Calls Tryd.prog 11 #[.agg #[.int .i64 s, .int .i64 wd, .int .i64 ht, .slice A n c, .slice B m d]] w fun e w' => e = .returned (.string (terT s wd ht wd.toNat hs cs ht.toNat)) ∧ Below w.heap.size w w' := by
  have tb0 := sizeB_yes (ter_yes ty).1
  obtain ⟨wn, rfl⟩ : ∃ wn : Nat, wd = (wn : Int) := ⟨wd.toNat, by omega⟩
  obtain ⟨hn2, rfl⟩ : ∃ hn2 : Nat, ht = (hn2 : Int) := ⟨ht.toNat, by omega⟩
  rw [Int.toNat_natCast, Int.toNat_natCast]
  have tn : n = wn * hn2 := by have := (ter_yes ty).2.1; rw [← Int.natCast_mul] at this; omega
  have tm : m = n := (ter_yes ty).2.2.1
  have ths := (ter_yes ty).2.2.2.1
  have tcs := (ter_yes ty).2.2.2.2
  have hle : ∀ j, j < hn2 → (j + 1) * wn ≤ n := fun j hj => by rw [tn, Nat.mul_comm wn]; exact Nat.mul_le_mul_right _ hj
  have FT := Lib.hid (fun j (hj : j < hn2) => show fitB (prt wn j hs) = true ∧ fitB (prt wn j cs) = true from ⟨part_fit ra.len (hle j hj) (by omega) ths (by omega) (by omega), part_fit rb.len (by rw [tm]; exact hle j hj) (by omega) tcs (by omega) (by omega)⟩)
  have n576 : n ≤ 576 := by rw [tn]; exact Nat.mul_le_mul (show wn ≤ 24 by omega) (show hn2 ≤ 24 by omega)
  have TN := Lib.hid (And.intro tn tm)
  have HL := Lib.hid hle
  clear tn tm hle ths tcs
  have A1 := Lib.hid (specTer s (wn : Int) (hn2 : Int) A B n c m d hs cs w.heap.size (w.alloc (.cells #[.int .i64 s, .int .i64 (wn : Int), .int .i64 (hn2 : Int), .slice A n c, .slice B m d] 24)) (ra.alloc _) (rb.alloc _) hn hm (by (((try dsimp only); (repeat' apply And.intro) <;> (repeat (first | with_reducible assumption | (with_reducible refine keep_drew ?_) | (with_reducible refine keep_drewN ?_) | ((with_reducible refine keep_new _ _ _ _ _ _ ?_ ?_) <;> (first | rfl | (simp; done) | omega)) | (with_reducible refine keep_alloc _ ?_) | ((with_reducible refine keep_set _ ?_ ?_); (focus first | omega | (simp; done) | (simp; omega))) | ((with_reducible refine keep_set' _ ?_ ?_); (focus first | omega | (simp; done))) | ((with_reducible refine keep_same (u := ?_) _ ?_); rotate_left) | ((with_reducible refine keep_setA _ ?_ ?_); (focus first | omega | (simp; done) | (simp; omega))) | ((with_reducible refine keep_below (w := ?_) ?_ ?_); rotate_left; (with_reducible assumption))))))) (by (((try dsimp only); (repeat' apply And.intro) <;> (repeat (first | with_reducible assumption | (with_reducible refine keep_drew ?_) | (with_reducible refine keep_drewN ?_) | ((with_reducible refine keep_new _ _ _ _ _ _ ?_ ?_) <;> (first | rfl | (simp; done) | omega)) | (with_reducible refine keep_alloc _ ?_) | ((with_reducible refine keep_set _ ?_ ?_); (focus first | omega | (simp; done) | (simp; omega))) | ((with_reducible refine keep_set' _ ?_ ?_); (focus first | omega | (simp; done))) | ((with_reducible refine keep_same (u := ?_) _ ?_); rotate_left) | ((with_reducible refine keep_setA _ ?_ ?_); (focus first | omega | (simp; done) | (simp; omega))) | ((with_reducible refine keep_below (w := ?_) ?_ ?_); rotate_left; (with_reducible assumption))))))) (by (((try dsimp only); (repeat' apply And.intro) <;> (repeat (first | with_reducible assumption | (with_reducible refine keep_drew ?_) | (with_reducible refine keep_drewN ?_) | ((with_reducible refine keep_new _ _ _ _ _ _ ?_ ?_) <;> (first | rfl | (simp; done) | omega)) | (with_reducible refine keep_alloc _ ?_) | ((with_reducible refine keep_set _ ?_ ?_); (focus first | omega | (simp; done) | (simp; omega))) | ((with_reducible refine keep_set' _ ?_ ?_); (focus first | omega | (simp; done))) | ((with_reducible refine keep_same (u := ?_) _ ?_); rotate_left) | ((with_reducible refine keep_setA _ ?_ ?_); (focus first | omega | (simp; done) | (simp; omega))) | ((with_reducible refine keep_below (w := ?_) ?_ ?_); rotate_left; (with_reducible assumption))))))) (by (((try dsimp only); (repeat' apply And.intro) <;> (repeat (first | with_reducible assumption | (with_reducible refine keep_drew ?_) | (with_reducible refine keep_drewN ?_) | ((with_reducible refine keep_new _ _ _ _ _ _ ?_ ?_) <;> (first | rfl | (simp; done) | omega)) | (with_reducible refine keep_alloc _ ?_) | ((with_reducible refine keep_set _ ?_ ?_); (focus first | omega | (simp; done) | (simp; omega))) | ((with_reducible refine keep_set' _ ?_ ?_); (focus first | omega | (simp; done))) | ((with_reducible refine keep_same (u := ?_) _ ?_); rotate_left) | ((with_reducible refine keep_setA _ ?_ ?_); (focus first | omega | (simp; done) | (simp; omega))) | ((with_reducible refine keep_below (w := ?_) ?_ ?_); rotate_left; (with_reducible assumption))))))) (by (((try dsimp only); (repeat' apply And.intro) <;> (repeat (first | with_reducible assumption | (with_reducible refine keep_drew ?_) | (with_reducible refine keep_drewN ?_) | ((with_reducible refine keep_new _ _ _ _ _ _ ?_ ?_) <;> (first | rfl | (simp; done) | omega)) | (with_reducible refine keep_alloc _ ?_) | ((with_reducible refine keep_set _ ?_ ?_); (focus first | omega | (simp; done) | (simp; omega))) | ((with_reducible refine keep_set' _ ?_ ?_); (focus first | omega | (simp; done))) | ((with_reducible refine keep_same (u := ?_) _ ?_); rotate_left) | ((with_reducible refine keep_setA _ ?_ ?_); (focus first | omega | (simp; done) | (simp; omega))) | ((with_reducible refine keep_below (w := ?_) ?_ ?_); rotate_left; (with_reducible assumption))))))))
  rw [ty] at A1
  have tb := sizeB_yes (ter_yes ty).1
  have s1 := txt_small (n := s) (by omega)
  have s2 := txt_small (n := (wn : Int)) (by omega)
  have s3 := txt_small (n := (hn2 : Int)) (by omega)
  have z8 : (⟨#[116, 101, 114, 114, 97, 105, 110, 32]⟩ : ByteArray).size = 8 := rfl
  have z1 : (⟨#[32]⟩ : ByteArray).size = 1 := rfl
  have z2 : (⟨#[10]⟩ : ByteArray).size = 1 := rfl
  have K1 := cat_run ⟨#[116, 101, 114, 114, 97, 105, 110, 32]⟩ (txt s) _ (by rw [z8]; omega) rfl
  have K2 := cat_run (⟨#[116, 101, 114, 114, 97, 105, 110, 32]⟩ ++ txt s) ⟨#[32]⟩ _ (by rw [cat_size, z8, z1]; omega) rfl
  have K3 := cat_run (⟨#[116, 101, 114, 114, 97, 105, 110, 32]⟩ ++ txt s ++ ⟨#[32]⟩) (txt (wn : Int)) _ (by rw [cat_size, cat_size, z8, z1]; omega) rfl
  have K4 := cat_run (⟨#[116, 101, 114, 114, 97, 105, 110, 32]⟩ ++ txt s ++ ⟨#[32]⟩ ++ txt (wn : Int)) ⟨#[32]⟩ _ (by rw [cat_size, cat_size, cat_size, z8, z1]; omega) rfl
  have K5 := cat_run (⟨#[116, 101, 114, 114, 97, 105, 110, 32]⟩ ++ txt s ++ ⟨#[32]⟩ ++ txt (wn : Int) ++ ⟨#[32]⟩) (txt (hn2 : Int)) _ (by rw [cat_size, cat_size, cat_size, cat_size, z8, z1]; omega) rfl
  have K6 := cat_run (⟨#[116, 101, 114, 114, 97, 105, 110, 32]⟩ ++ txt s ++ ⟨#[32]⟩ ++ txt (wn : Int) ++ ⟨#[32]⟩ ++ txt (hn2 : Int)) ⟨#[10]⟩ (hdT s (wn : Int) (hn2 : Int)) (by rw [cat_size, cat_size, cat_size, cat_size, cat_size, z8, z1, z2]; omega) (by rw [hdT])
  have b1 : -9223372036854775808 ≤ s ∧ s ≤ 9223372036854775807 := by omega
  have HD := Lib.hid (show (hdT s (wn : Int) (hn2 : Int)).size ≤ 200 by unfold hdT; rw [cat_size, cat_size, cat_size, cat_size, cat_size, cat_size, z8, z1, z2]; omega)
  have D1 := Lib.hid (fun W => specDec s W (by omega))
  have D2 := Lib.hid (fun W => specDec (wn : Int) W (by omega))
  have D3 := Lib.hid (fun W => specDec (hn2 : Int) W (by omega))
  clear b1 s1 s2 s3 z8 z1 z2
  go_enter Tryd.func11, Tryd.ntmps11
  go_wp2_with (go_at_call 18; refine A1.out.mono ?_; rintro e w' ⟨rfl, kd, rfl⟩)
  have hu := Up.cells ((w.alloc (.cells #[.int .i64 s, .int .i64 (wn : Int), .int .i64 (hn2 : Int), .slice A n c, .slice B m d] 24)).drewN kd)
  refine region_up (by kernel_rfl) (by kernel_rfl) ?_
  repeat (go_big_quiet_step ((go_at_call 28; exact call_up _ (specDec _ _ (by omega)))))
  refine wpQuiet_nil ?_
  rintro wz ⟨⟨wy, hbz⟩, (e : wz = wy)⟩
  subst e
  clear hu K1 K2 K3 K4 K5 K6 D1 D2 D3
  go_wp2_with fail
  have hn4 : 0 < n := by have := TN.out; have : 0 < wn * hn2 := Nat.mul_pos (by omega) (by omega); omega
  obtain ⟨ad, rfl, _⟩ := ra.at_ (k := 0) hn4
  obtain ⟨bd, rfl, _⟩ := rb.at_ (k := 0) (by have := TN.out; omega)
  have HK0 : Hid (Blk wz w.heap.size 24 #[.int .i64 s, .int .i64 (wn : Int), .int .i64 (hn2 : Int), .slice (some ad) n c, .slice (some bd) m d]) := Lib.hid (Blk.below hbz (Blk.new w _ _ rfl))
  have HB0 := Lib.hid (show Below w.heap.size w wz from (by repeat (first | with_reducible exact Below.refl _ _ | with_reducible assumption | (with_reducible refine Below.drew ?_) | (with_reducible refine below_drewN ?_ _) | ((with_reducible refine Below.alloc ?_ ?_ _); rotate_left; (focus first | exact Nat.le_refl _ | omega | (simp; done) | (simp; omega))) | ((with_reducible refine Below.setCell ?_ ?_ _); rotate_left; (focus first | exact Nat.le_refl _ | omega | (simp; done) | (simp; omega))) | ((with_reducible refine below_via (W := ?_) ?_ ?_ ?_); rotate_left; (with_reducible assumption); rotate_left; (focus first | exact Nat.le_refl _ | omega | (simp; done) | (simp; omega))))))
  have RA := Lib.hid ra
  have RB := Lib.hid rb
  have T0 := Lib.hid (show (hdT s (wn : Int) (hn2 : Int)).size ≤ 200 from HD.out)
  clear ra rb hbz
  go_loopw [3, 4] (fun tv yv wr => ∃ k : Nat, tv = .string (terT s (wn : Int) (hn2 : Int) wn hs cs k) ∧ yv = .int .i64 (k : Int) ∧ k ≤ hn2 ∧ Hid (Below w.heap.size w wr) ∧ Hid (Blk wr w.heap.size 24 #[.int .i64 s, .int .i64 (wn : Int), .int .i64 (hn2 : Int), .slice (some ad) n c, .slice (some bd) m d])) (fun _ y _ => hn2 - (intOf y).toNat)
  case atStart => exact ⟨0, rfl, rfl, by omega, HB0, HK0⟩
  case round =>
    obtain ⟨k, rfl, rfl, hk, HB, HK⟩ := hrel
    have u1 := HK.out.cell 1
    have u2 := HK.out.cell 2
    have u3 := HK.out.cell 3
    have u4 := HK.out.cell 4
    simp at u1 u2 u3 u4
    by_cases hlt : k < hn2
    · have hf := FT.out k hlt
      have hkw := HL.out k hlt
      have hkw2 := hkw
      rw [Nat.add_mul, Nat.one_mul] at hkw2
      obtain ⟨f, hff⟩ : ∃ f, k * wn = f := ⟨_, rfl⟩
      have R1 := Lib.hid (rd_part RA.out hkw)
      have R2 := Lib.hid (rd_part RB.out (by rw [TN.out.2]; exact hkw))
      rw [hff] at R1 R2 hkw2
      have e1 : (k : Int) * (wn : Int) = (f : Int) := by rw [← Int.natCast_mul, hff]
      have e2 : IntKind.i64.wrap (f : Int) = (f : Int) := IntWalk.i64_in _ (by omega)
      have e3 : IntKind.i64.wrap ((f : Int) + (wn : Int)) = (f : Int) + (wn : Int) := IntWalk.i64_in _ (by omega)
      have C1 := fun W => cut_run ad n c f wn (by omega) (by omega) W
      have C2 := fun W => cut_run bd m d f wn (by have := TN.out; omega) (by omega) W
      have LA := Lib.hid (fun y : Up wr => specList (some (ad.add f)) wn (c - f) (prt wn k hs) y.1 (Rd.below y.2 (Rd.below HB.out R1.out)) hf.1)
      have LB := Lib.hid (fun y : Up wr => specList (some (bd.add f)) wn (d - f) (prt wn k cs) y.1 (Rd.below y.2 (Rd.below HB.out R2.out)) hf.2)
      have zk := terT_size (N := hn2) (s := s) (w := (wn : Int)) (h := (hn2 : Int)) FT.out (by omega) HD.out k hk
      have zr := row_size hf.1 hf.2 (by omega)
      have z1 : (⟨#[32]⟩ : ByteArray).size = 1 := rfl
      have z2 : (⟨#[10]⟩ : ByteArray).size = 1 := rfl
      have HN : Hid (terT s (wn : Int) (hn2 : Int) wn hs cs k ++ rowT wn k hs cs = terT s (wn : Int) (hn2 : Int) wn hs cs (k + 1)) := Lib.hid rfl
      unfold rowT at HN zr
      obtain ⟨tk, htk⟩ : ∃ x, terT s (wn : Int) (hn2 : Int) wn hs cs k = x := ⟨_, rfl⟩
      obtain ⟨ta, hta⟩ : ∃ x, listR (prt wn k hs) = x := ⟨_, rfl⟩
      obtain ⟨tb, htb⟩ : ∃ x, listR (prt wn k cs) = x := ⟨_, rfl⟩
      rw [htk, hta, htb] at HN
      rw [htk] at zk
      rw [hta, htb] at zr
      rw [hta] at LA
      rw [htb] at LB
      rw [htk]
      rw [cat_size, cat_size, cat_size, z1, z2] at zr
      have K1 := cat_run ta ⟨#[32]⟩ _ (by rw [z1]; omega) rfl
      have K2 := cat_run (ta ++ ⟨#[32]⟩) tb _ (by rw [cat_size, z1]; omega) rfl
      have K3 := cat_run (ta ++ ⟨#[32]⟩ ++ tb) ⟨#[10]⟩ _ (by rw [cat_size, cat_size, z1, z2]; omega) rfl
      have K4 := cat_run tk (ta ++ ⟨#[32]⟩ ++ tb ++ ⟨#[10]⟩) _ (by rw [cat_size, cat_size, cat_size, z1, z2]; omega) rfl
      have HZ : Hid (w.heap.size < wr.heap.size) := Lib.hid HK.out.lt
      clear htk hta htb zk zr z1 z2 hf hkw hkw2 hff R1 R2
      have hz := HZ.out
      go_upto_region 8 with fail
      have hu := Up.cells wr
      refine region_up (by kernel_rfl) (by kernel_rfl) ?_
      repeat (go_big_quiet_step ((go_at_call 29; first | (with_reducible exact call_up _ (LA.out _)) | (with_reducible exact call_up _ (LB.out _)))))
      refine wpQuiet_nil ?_
      rintro wz ⟨⟨wy, hbz⟩, (e : wz = wy)⟩
      subst e
      clear hu K1 K2 K3 K4 C1 C2 LA LB
      go_wp2_with fail
      go_roundw
      case rel => exact ⟨k + 1, by rw [HN.out], by go_num, by omega, Lib.hid (below_via hbz HB.out (by omega)), Lib.hid (Blk.below hbz HK.out)⟩
      case measure => simp [intOf]; omega
    · obtain rfl : k = hn2 := by omega
      have hb := HB.out
      go_wp2_with fail
      go_ret
      exact ⟨rfl, hb⟩

end Go.Proofs.YtemjjjjkokfjdaaDoor.WalkTt
