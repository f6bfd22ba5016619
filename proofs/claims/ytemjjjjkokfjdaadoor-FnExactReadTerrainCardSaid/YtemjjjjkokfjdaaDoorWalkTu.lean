/- Terrains as texts: the program's way. -/
import Derived.Test.YtemjjjjkokfjdaaDoorWalkTt
import Derived.Test.YtemjjjjkokfjdaaDoorWalkLU
namespace Go.Proofs.YtemjjjjkokfjdaaDoor.WalkTu
open Go Go.RowKit Go.Proofs.YtemjjjjkokfjdaaDoor.Base Go.Proofs.YtemjjjjkokfjdaaDoor.Plain Go.Proofs.YtemjjjjkokfjdaaDoor.PlainT Go.Proofs.YtemjjjjkokfjdaaDoor.PlainTx Go.Proofs.YtemjjjjkokfjdaaDoor.PlainSp Go.Proofs.YtemjjjjkokfjdaaDoor.WalkN Go.Proofs.YtemjjjjkokfjdaaDoor.WalkP Go.Proofs.YtemjjjjkokfjdaaDoor.Words Go.Proofs.YtemjjjjkokfjdaaDoor.Ints Go.Proofs.YtemjjjjkokfjdaaDoor.WalkI Go.Proofs.YtemjjjjkokfjdaaDoor.WalkU Go.Proofs.YtemjjjjkokfjdaaDoor.WalkW Go.Proofs.YtemjjjjkokfjdaaDoor.Cells Go.Proofs.YtemjjjjkokfjdaaDoor.Text Go.Proofs.YtemjjjjkokfjdaaDoor.Dec Go.Proofs.YtemjjjjkokfjdaaDoor.Over Go.Proofs.YtemjjjjkokfjdaaDoor.WalkTx Go.Proofs.YtemjjjjkokfjdaaDoor.WalkLT Go.Proofs.YtemjjjjkokfjdaaDoor.WalkLU Go.Proofs.YtemjjjjkokfjdaaDoor.WalkTt
set_option linter.unusedVariables false
set_option linter.unusedSimpArgs false

set_option maxHeartbeats 2000000 in
theorem implTt (s wd ht : Int) (A B : Option Addr) (n c m d : Nat) (hs cs : List Int) (w : World) (hT : Tab w) (ra : Rd w A n hs) (rb : Rd w B m cs) (hn : n ≤ maxLen) (hm : m ≤ maxLen) (nc : n ≤ c) (md : m ≤ d) (ty : terB s wd ht n m hs cs = true) :
    Calls Tryd.prog 13 #[.agg #[.int .i64 s, .int .i64 wd, .int .i64 ht, .slice A n c, .slice B m d]] w fun e w' => e = .returned (.string (terT s wd ht wd.toNat hs cs ht.toNat)) ∧ Below w.heap.size w w' := by
  have tb0 := sizeB_yes (ter_yes ty).1
  obtain ⟨wn, rfl⟩ : ∃ wn : Nat, wd = (wn : Int) := ⟨wd.toNat, by omega⟩
  obtain ⟨hn2, rfl⟩ : ∃ hn2 : Nat, ht = (hn2 : Int) := ⟨ht.toNat, by omega⟩
  rw [Int.toNat_natCast, Int.toNat_natCast]
  have tn : n = wn * hn2 := by have := (ter_yes ty).2.1; rw [← Int.natCast_mul] at this; omega
  have tm : m = n := (ter_yes ty).2.2.1
  have ths := (ter_yes ty).2.2.2.1
  have tcs := (ter_yes ty).2.2.2.2
  have hle : ∀ j, j < hn2 → (j + 1) * wn ≤ n := fun j hj => by rw [tn, Nat.mul_comm wn]; exact Nat.mul_le_mul_right _ hj
  have FT := Lib.hid (fun j (hj : j < hn2) => show fitB (prt wn j hs) = true ∧ fitB (prt wn j cs) = true from ⟨part_fit ra.len (hle j hj) (by omega) ths (by omega) (by omega), part_fit rb.len (by rw [tm]; exact hle j hj) (by omega) tcs (by omega) (by omega)⟩)
  have n576 : n ≤ 576 := by rw [tn]; exact Nat.mul_le_mul (show wn ≤ 24 by omega) (show hn2 ≤ 24 by omega)
  have TN := Lib.hid (And.intro tn tm)
  have HL := Lib.hid hle
  clear tn tm hle ths tcs
  have A1 := Lib.hid (implTer s (wn : Int) (hn2 : Int) A B n c m d hs cs (w.alloc (.cells #[.int .i64 s, .int .i64 (wn : Int), .int .i64 (hn2 : Int), .slice A n c, .slice B m d] 24)) (ra.alloc _) (rb.alloc _) hn hm)
  rw [ty] at A1
  have tb := sizeB_yes (ter_yes ty).1
  have s1 := txt_small (n := s) (by omega)
  have s2 := txt_small (n := (wn : Int)) (by omega)
  have s3 := txt_small (n := (hn2 : Int)) (by omega)
  have z8 : (⟨#[116, 101, 114, 114, 97, 105, 110, 32]⟩ : ByteArray).size = 8 := rfl
  have z1 : (⟨#[32]⟩ : ByteArray).size = 1 := rfl
  have z2 : (⟨#[10]⟩ : ByteArray).size = 1 := rfl
  have K1 := cat_run ⟨#[116, 101, 114, 114, 97, 105, 110, 32]⟩ (txt s) _ (by rw [z8]; omega) rfl
  have K2 := cat_run (⟨#[116, 101, 114, 114, 97, 105, 110, 32]⟩ ++ txt s) ⟨#[32]⟩ _ (by rw [cat_size, z8, z1]; omega) rfl
  have K3 := cat_run (⟨#[116, 101, 114, 114, 97, 105, 110, 32]⟩ ++ txt s ++ ⟨#[32]⟩) (txt (wn : Int)) _ (by rw [cat_size, cat_size, z8, z1]; omega) rfl
  have K4 := cat_run (⟨#[116, 101, 114, 114, 97, 105, 110, 32]⟩ ++ txt s ++ ⟨#[32]⟩ ++ txt (wn : Int)) ⟨#[32]⟩ _ (by rw [cat_size, cat_size, cat_size, z8, z1]; omega) rfl
  have K5 := cat_run (⟨#[116, 101, 114, 114, 97, 105, 110, 32]⟩ ++ txt s ++ ⟨#[32]⟩ ++ txt (wn : Int) ++ ⟨#[32]⟩) (txt (hn2 : Int)) _ (by rw [cat_size, cat_size, cat_size, cat_size, z8, z1]; omega) rfl
  have K6 := cat_run (⟨#[116, 101, 114, 114, 97, 105, 110, 32]⟩ ++ txt s ++ ⟨#[32]⟩ ++ txt (wn : Int) ++ ⟨#[32]⟩ ++ txt (hn2 : Int)) ⟨#[10]⟩ (hdT s (wn : Int) (hn2 : Int)) (by rw [cat_size, cat_size, cat_size, cat_size, cat_size, z8, z1, z2]; omega) (by rw [hdT])
  have b1 : -9223372036854775808 ≤ s ∧ s ≤ 9223372036854775807 := by omega
  have HD := Lib.hid (show (hdT s (wn : Int) (hn2 : Int)).size ≤ 200 by unfold hdT; rw [cat_size, cat_size, cat_size, cat_size, cat_size, cat_size, z8, z1, z2]; omega)
  have HT := Lib.hid hT
  clear s1 s2 s3 z8 z1 z2 hT
  go_enter Tryd.func13, Tryd.ntmps13
  go_wp2_with (go_at_call 31; refine A1.out.mono ?_; rintro e w1 ⟨rfl, hb1⟩)
  have KB : Blk w1 w.heap.size 24 #[.int .i64 s, .int .i64 (wn : Int), .int .i64 (hn2 : Int), .slice A n c, .slice B m d] := Blk.below hb1 (Blk.new w _ _ rfl)
  have HB1 := Lib.hid (show Below w.heap.size w w1 from (by repeat (first | with_reducible exact Below.refl _ _ | with_reducible assumption | (with_reducible refine Below.drew ?_) | (with_reducible refine below_drewN ?_ _) | ((with_reducible refine Below.alloc ?_ ?_ _); rotate_left; (focus first | exact Nat.le_refl _ | omega | (simp; done) | (simp; omega))) | ((with_reducible refine Below.setCell ?_ ?_ _); rotate_left; (focus first | exact Nat.le_refl _ | omega | (simp; done) | (simp; omega))) | ((with_reducible refine below_via (W := ?_) ?_ ?_ ?_); rotate_left; (with_reducible assumption); rotate_left; (focus first | exact Nat.le_refl _ | omega | (simp; done) | (simp; omega))))))
  have u0 := KB.cell 0
  have u1 := KB.cell 1
  have u2 := KB.cell 2
  simp at u0 u1 u2
  have hz1 := KB.lt
  have HKB := Lib.hid KB
  have HTT := Lib.hid (fun y : Up w1 => Tab.below y.2 (Tab.below HB1.out HT.out))
  clear hb1 KB
  have hu := Up.cells w1
  refine region_up (by kernel_rfl) (by kernel_rfl) ?_
  repeat (go_big_quiet_step ((go_at_call 32; exact call_up _ (implDec _ _ (by omega) (HTT.out _)))))
  refine wpQuiet_nil ?_
  rintro wz ⟨⟨wy, hbz⟩, (e : wz = wy)⟩
  subst e
  clear hu K1 K2 K3 K4 K5 K6 u0 u1 u2
  have v2 := (Blk.below hbz HKB.out).cell 2
  simp at v2
  go_wp2_with fail
  have hn4 : 0 < n := by have := TN.out; have : 0 < wn * hn2 := Nat.mul_pos (by omega) (by omega); omega
  obtain ⟨ad, rfl, _⟩ := ra.at_ (k := 0) hn4
  obtain ⟨bd, rfl, _⟩ := rb.at_ (k := 0) (by have := TN.out; omega)
  have HK0 : Hid (Blk wz w.heap.size 24 #[.int .i64 s, .int .i64 (wn : Int), .int .i64 (hn2 : Int), .slice (some ad) n c, .slice (some bd) m d]) := Lib.hid (Blk.below hbz HKB.out)
  have HB0 := Lib.hid (below_via hbz HB1.out (by omega))
  have RA := Lib.hid ra
  have RB := Lib.hid rb
  have T0 := Lib.hid (show (hdT s (wn : Int) (hn2 : Int)).size ≤ 200 from HD.out)
  clear ra rb hbz
  go_loopw [3, 26] (fun tv yv wr => ∃ k : Nat, tv = .string (terT s (wn : Int) (hn2 : Int) wn hs cs k) ∧ yv = .int .i64 (k : Int) ∧ k ≤ hn2 ∧ Hid (Below w.heap.size w wr) ∧ Hid (Blk wr w.heap.size 24 #[.int .i64 s, .int .i64 (wn : Int), .int .i64 (hn2 : Int), .slice (some ad) n c, .slice (some bd) m d])) (fun _ y _ => hn2 - (intOf y).toNat)
  case atStart => exact ⟨0, rfl, rfl, by omega, HB0, HK0⟩
  case round =>
    obtain ⟨k, rfl, rfl, hk, HB, HK⟩ := hrel
    have u1 := HK.out.cell 1
    have u2 := HK.out.cell 2
    have u3 := HK.out.cell 3
    have u4 := HK.out.cell 4
    simp at u1 u2 u3 u4
    by_cases hlt : k < hn2
    · have hf := FT.out k hlt
      have hkw := HL.out k hlt
      have hkw2 := hkw
      rw [Nat.add_mul, Nat.one_mul] at hkw2
      obtain ⟨f, hff⟩ : ∃ f, k * wn = f := ⟨_, rfl⟩
      have R1 := Lib.hid (rd_part RA.out hkw)
      have R2 := Lib.hid (rd_part RB.out (by rw [TN.out.2]; exact hkw))
      rw [hff] at R1 R2 hkw2
      have e1 : (k : Int) * (wn : Int) = (f : Int) := by rw [← Int.natCast_mul, hff]
      have e2 : IntKind.i64.wrap (f : Int) = (f : Int) := IntWalk.i64_in _ (by omega)
      have e3 : IntKind.i64.wrap ((f : Int) + (wn : Int)) = (f : Int) + (wn : Int) := IntWalk.i64_in _ (by omega)
      have C1 := fun W => cut_run ad n c f wn (by omega) (by omega) W
      have C2 := fun W => cut_run bd m d f wn (by have := TN.out; omega) (by omega) W
      have hzz : w.heap.size ≤ wr.heap.size := HB.out.size
      have LA := Lib.hid (fun y : Up wr => implListText (some (ad.add f)) wn (c - f) (prt wn k hs) y.1 (Rd.below y.2 (Rd.below HB.out R1.out)) (by unfold maxLen; omega) (Tab.below (below_via y.2 HB.out hzz) HT.out))
      have LB := Lib.hid (fun y : Up wr => implListText (some (bd.add f)) wn (d - f) (prt wn k cs) y.1 (Rd.below y.2 (Rd.below HB.out R2.out)) (by unfold maxLen; omega) (Tab.below (below_via y.2 HB.out hzz) HT.out))
      have zk := terT_size (N := hn2) (s := s) (w := (wn : Int)) (h := (hn2 : Int)) FT.out (by omega) HD.out k hk
      have zr := row_size hf.1 hf.2 (by omega)
      have z1 : (⟨#[32]⟩ : ByteArray).size = 1 := rfl
      have z2 : (⟨#[10]⟩ : ByteArray).size = 1 := rfl
      have HN : Hid (terT s (wn : Int) (hn2 : Int) wn hs cs k ++ rowT wn k hs cs = terT s (wn : Int) (hn2 : Int) wn hs cs (k + 1)) := Lib.hid rfl
      unfold rowT at HN zr
      obtain ⟨tk, htk⟩ : ∃ x, terT s (wn : Int) (hn2 : Int) wn hs cs k = x := ⟨_, rfl⟩
      obtain ⟨ta, hta⟩ : ∃ x, listR (prt wn k hs) = x := ⟨_, rfl⟩
      obtain ⟨tb, htb⟩ : ∃ x, listR (prt wn k cs) = x := ⟨_, rfl⟩
      rw [htk, hta, htb] at HN
      rw [htk] at zk
      rw [hta, htb] at zr
      rw [hta] at LA
      rw [htb] at LB
      rw [htk]
      rw [cat_size, cat_size, cat_size, z1, z2] at zr
      have K1 := cat_run ta ⟨#[32]⟩ _ (by rw [z1]; omega) rfl
      have K2 := cat_run (ta ++ ⟨#[32]⟩) tb _ (by rw [cat_size, z1]; omega) rfl
      have K3 := cat_run (ta ++ ⟨#[32]⟩ ++ tb) ⟨#[10]⟩ _ (by rw [cat_size, cat_size, z1, z2]; omega) rfl
      have K4 := cat_run tk (ta ++ ⟨#[32]⟩ ++ tb ++ ⟨#[10]⟩) _ (by rw [cat_size, cat_size, cat_size, z1, z2]; omega) rfl
      have HZ : Hid (w.heap.size < wr.heap.size) := Lib.hid HK.out.lt
      clear htk hta htb zk zr z1 z2 hf hkw hkw2 hff R1 R2
      have hz := HZ.out
      go_upto_region 8 with fail
      have hu := Up.cells wr
      refine region_up (by kernel_rfl) (by kernel_rfl) ?_
      repeat (go_big_quiet_step ((go_at_call 33; first | (with_reducible exact call_up _ (LA.out _)) | (with_reducible exact call_up _ (LB.out _)))))
      refine wpQuiet_nil ?_
      rintro wz ⟨⟨wy, hbz⟩, (e : wz = wy)⟩
      subst e
      clear hu K1 K2 K3 K4 C1 C2 LA LB
      go_wp2_with fail
      go_roundw
      case rel => exact ⟨k + 1, by rw [HN.out], by go_num, by omega, Lib.hid (below_via hbz HB.out (by omega)), Lib.hid (Blk.below hbz HK.out)⟩
      case measure => simp [intOf]; omega
    · obtain rfl : k = hn2 := by omega
      have hb := HB.out
      go_wp2_with fail
      go_ret
      exact ⟨rfl, hb⟩

end Go.Proofs.YtemjjjjkokfjdaaDoor.WalkTu
