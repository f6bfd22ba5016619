/- Lists of texts: the laws' comparison, marks, and what is held. -/
import Derived.Test.YtbggickeomeidaaDoorWalkSp
import Derived.Test.YtbggickeomeidaaDoorDec
import Derived.Deep.RegionHeld3
namespace Go.Proofs.YtbggickeomeidaaDoor.WalkSt
open Go Go.RowKit Go.Proofs.YtbggickeomeidaaDoor.Base Go.Proofs.YtbggickeomeidaaDoor.Plain Go.Proofs.YtbggickeomeidaaDoor.PlainT Go.Proofs.YtbggickeomeidaaDoor.PlainTx Go.Proofs.YtbggickeomeidaaDoor.PlainSp Go.Proofs.YtbggickeomeidaaDoor.WalkN Go.Proofs.YtbggickeomeidaaDoor.WalkP Go.Proofs.YtbggickeomeidaaDoor.Words Go.Proofs.YtbggickeomeidaaDoor.Ints Go.Proofs.YtbggickeomeidaaDoor.WalkI Go.Proofs.YtbggickeomeidaaDoor.Cells Go.Proofs.YtbggickeomeidaaDoor.Text Go.Proofs.YtbggickeomeidaaDoor.Dec Go.Proofs.YtbggickeomeidaaDoor.WalkTx Go.Proofs.YtbggickeomeidaaDoor.WalkSp
set_option linter.unusedVariables false
set_option linter.unusedSimpArgs false

/-- a row of texts of its own -/
abbrev Tr (w : World) (lo : Nat) (A : Option Addr) (n c : Nat) (ts : List ByteArray) : Prop := Orw w 9 1 lo A n c (sts ts)
theorem sts_at' {ts : List ByteArray} {k : Nat} (h : k < ts.length) : (sts ts)[k]? = some (.string ts[k]) := by simp [sts, h]
theorem tr_len {w : World} {lo n c : Nat} {A : Option Addr} {ts : List ByteArray} (h : Tr w lo A n c ts) : ts.length = n := by
  have := Orw.len h
  simp only [sts, List.length_map] at this
  omega
theorem eqStrs (A B : Option Addr) (n c d la lb : Nat) (ts : List ByteArray) (w : World) (ha : Tr w la A n c ts) (hb : Tr w lb B n d ts) (hn : n ≤ maxLen) :
    Calls Tryd.prog 23 #[.slice A n c, .slice B n d] w fun e w' => e = .returned (.bool true) ∧ ∃ k, w' = w.drewN k := by
  unfold maxLen at hn
  have HA := Lib.hid ha
  have HB := Lib.hid hb
  have hl := tr_len ha
  clear ha hb
  go_enter Tryd.func23, Tryd.ntmps23
  go_wp2
  go_loopw [5] (fun i wr => ∃ k q : Nat, k ≤ n ∧ i = .int .i64 k ∧ wr = w.drewN q) (fun i _ => n - (intOf i).toNat)
  case atStart => exact ⟨0, 0, Nat.zero_le _, rfl, rfl⟩
  case round =>
    obtain ⟨k, q, hk, rfl, rfl⟩ := hrel
    by_cases hlt : k < n
    · obtain ⟨g, rfl, _, _, hc, _⟩ := HA.out.at_ (j := k) (by omega)
      obtain ⟨g', rfl, _, _, hd, _⟩ := HB.out.at_ (j := k) (by omega)
      rw [sts_at' (by omega)] at hc hd
      have i0 : (0 : Int) ≤ (k : Int) := by omega
      have i1 : (k : Int) < (n : Int) := by omega
      generalize ts[k] = t at hc hd
      clear hl
      go_wp2_with fail
      go_quiet (fail)
      go_wp2
      go_roundw
      case rel => exact ⟨k + 1, _, by omega, by go_num, rfl⟩
      case measure => simp [intOf]; omega
    · clear hl
      go_wp2
      go_ret
      exact ⟨rfl, _, rfl⟩

/-- the mark of a number -/
def mk (k : Nat) : ByteArray := bs (109 :: Lib.decDigits k)
/-- how far the digits of K are written -/
def Wr (K u : Nat) (ds : List UInt8) : Prop := (u ≠ 0 → Lib.decDigits u ++ ds = Lib.decDigits K) ∧ (u = 0 → ds = Lib.decDigits K)
theorem wr_step {K u : Nat} {ds : List UInt8} (h : Wr K u ds) (hu : 1 ≤ u) : Wr K (u / 10) (UInt8.ofNat (48 + u % 10) :: ds) := by
  have h1 := h.1 (by omega)
  by_cases hs : u < 10
  · refine ⟨fun e => absurd (by omega) e, fun _ => ?_⟩
    rw [← h1, dec_small hs, Nat.mod_eq_of_lt hs]
    rfl
  · refine ⟨fun _ => ?_, fun e => absurd e (by omega)⟩
    rw [← h1, dec_big hs, List.append_assoc]
    rfl
theorem wr_len {K u : Nat} {ds : List UInt8} (h : Wr K u ds) (h2 : K ≤ 9223372036854775807) : ds.length ≤ 19 := by
  have hK : (Lib.decDigits K).length ≤ 19 := by rw [Lib.decDigits_length]; exact nd_le (by omega)
  by_cases hu : u = 0
  · rw [h.2 hu]; exact hK
  · rw [← h.1 hu, List.length_append] at hK
    omega
theorem one_row (W : World) (c : UInt8) : Orw (W.alloc (.cells #[.int .u8 (c.toNat : Int)] 5)) 5 1 W.heap.size (some ⟨W.heap.size, 0, none⟩) 1 1 (bts [c]) :=
  Orw.mk (Nat.le_refl _) (Blk.new W _ _ rfl) (by omega) (by unfold maxLen; omega) (by simp) (by simp [bts]) (by simp [bts])
theorem dig_nat (u : Nat) : ((UInt8.ofNat (48 + u % 10)).toNat : Int) = 48 + (u : Int) % 10 := by
  rw [dig_of _ (by omega)]
  omega
theorem bs_cat (a b : List UInt8) : bs a ++ bs b = bs (a ++ b) := by
  apply ByteArray.ext
  simp [bs]

set_option maxHeartbeats 1000000 in
theorem markTx (K : Nat) (w : World) (h1 : 1 ≤ K) (h2 : K ≤ 1000000000) :
    Calls Tryd.prog 45 #[.int .i64 (K : Int)] w fun e w' => e = .returned (.string (mk K)) ∧ Below w.heap.size w w' := by
  have H1 := Lib.hid h1
  go_enter Tryd.func45, Tryd.ntmps45
  go_wp2
  go_loopw [0, 3] (fun kv ov wr => ∃ (u : Nat) (ds : List UInt8), kv = .int .i64 (u : Int) ∧ ov = .string (bs ds) ∧ u ≤ K ∧ Hid (Wr K u ds) ∧ Hid (Below w.heap.size w wr)) (fun k _ _ => (intOf k).natAbs)
  case atStart => exact ⟨K, [], rfl, rfl, Nat.le_refl _, Lib.hid ⟨fun _ => List.append_nil _, fun e => by have := H1.out; omega⟩, Lib.hid (by repeat (first | with_reducible exact Below.refl _ _ | with_reducible assumption | (with_reducible refine Below.drew ?_) | (with_reducible refine below_drewN ?_ _) | ((with_reducible refine Below.alloc ?_ ?_ _); rotate_left; (focus first | exact Nat.le_refl _ | omega | (simp; done) | (simp; omega))) | ((with_reducible refine Below.setCell ?_ ?_ _); rotate_left; (focus first | exact Nat.le_refl _ | omega | (simp; done) | (simp; omega))) | ((with_reducible refine below_via (W := ?_) ?_ ?_ ?_); rotate_left; (with_reducible assumption); rotate_left; (focus first | exact Nat.le_refl _ | omega | (simp; done) | (simp; omega)))))⟩
  case round =>
    obtain ⟨u, ds, rfl, rfl, hu, HW, HB⟩ := hrel
    have hl := wr_len HW.out (by omega)
    have hz := HB.out.size
    by_cases h0 : 1 ≤ u
    · have HW2 := Lib.hid (wr_step HW.out h0)
      have e0 := decide_eq_true (show (0 : Int) < (u : Int) by omega)
      obtain ⟨z, ez⟩ : ∃ z : Int, 48 + (u : Int) % 10 = z := ⟨_, rfl⟩
      have bz : 0 ≤ z ∧ z ≤ 255 := by omega
      have C1 : ∀ W : World, W.cell? ⟨wr.heap.size, 0, none⟩ = some (.int .u8 z) → (convert 70 9 (.slice (some ⟨wr.heap.size, 0, none⟩) 1 1)).run Tryd.prog W = .ok (.string (bs [UInt8.ofNat (48 + u % 10)])) W := fun W hW => run_convert_bytes_back (P := Tryd.prog) W 70 9 5 ⟨wr.heap.size, 0, none⟩ 1 [UInt8.ofNat (48 + u % 10)] Tryd.underlying70 Tryd.underlying5 Tryd.underlying9 (by
        intro j hj
        have : j = 0 := by simp at hj; omega
        subst this
        simp only [List.getElem_cons_zero]
        rw [dig_nat, ez]
        exact hW)
      have C2 := cat_run (bs [UInt8.ofNat (48 + u % 10)]) (bs ds) (bs (UInt8.ofNat (48 + u % 10) :: ds)) (by rw [bs_size, bs_size]; simp; omega) (by rw [bs_cat]; rfl)
      generalize bs [UInt8.ofNat (48 + u % 10)] = t1 at C1 C2
      obtain ⟨t2, ht2⟩ : ∃ t, bs (UInt8.ofNat (48 + u % 10) :: ds) = t := ⟨_, rfl⟩
      rw [ht2] at C2
      have HT2 := Lib.hid ht2
      clear hl ht2
      go_wp2
      clear C1 C2 e0 ez bz
      go_roundw
      all_goals first
        | (simp [intOf]; omega)
        | exact ⟨u / 10, UInt8.ofNat (48 + u % 10) :: ds, by go_num, congrArg Value.string HT2.out.symm, by omega, HW2, Lib.hid (HB.out.alloc (by omega) _)⟩
    · obtain rfl : u = 0 := by omega
      have hd := HW.out.2 rfl
      have C2 := cat_run ⟨#[109]⟩ (bs ds) (mk K) (by rw [bs_size, show (⟨#[109]⟩ : ByteArray).size = 1 from rfl]; omega) (by rw [hd]; exact bs_cat [109] _)
      have hb := HB.out
      clear hd hl HW
      go_wp2
      go_ret
      exact ⟨rfl, hb⟩

/-- n marks from k on -/
def mkL (k n : Nat) : List ByteArray := (List.range n).map fun j => mk (k + j)
theorem mkL_len (k n : Nat) : (mkL k n).length = n := by simp [mkL]
theorem mkL_get {k n j : Nat} (h : j < n) : (sts (mkL k n))[j]? = some (.string (mk (k + j))) := by simp [sts, mkL, h]

set_option maxHeartbeats 1000000 in
theorem markStrs (A : Option Addr) (n c lo : Nat) (ts : List ByteArray) (m : Nat) (w : World) (hr : Tr w lo A n c ts) (hn : n ≤ 4194304) (hm : 1 ≤ m ∧ m ≤ 100000000) :
    Calls Tryd.prog 24 #[.slice A n c, .int .i64 (m : Int)] w fun e w' => e = .returned (.int .i64 ((m : Int) + n)) ∧ Tr w' lo A n c (mkL m n) ∧ Gr w w' A := by
  rcases hr.form with ⟨rfl, rfl, rfl, _⟩ | ⟨g, cs0, rfl, hlo, hb0, hnc, hcm, hs0, ht⟩
  · go_enter Tryd.func24, Tryd.ntmps24
    go_wp2
    go_loop [1, 5] (fun s i => s = .int .i64 (m : Int) ∧ i = .int .i64 0) (fun _ _ => 0)
    case atStart => exact ⟨rfl, rfl⟩
    case round =>
      obtain ⟨rfl, rfl⟩ := hrel
      go_wp2
      go_ret
      exact ⟨ret_int (by simp), Orw.nil _ _ _ _, Gr.refl _ _⟩
  · unfold maxLen at hcm
    have HB0 := Lib.hid hb0
    have HS0 := Lib.hid hs0
    have HT := Lib.hid ht
    rw [Nat.mul_one] at hs0
    clear hr hb0 ht
    have MT := Lib.hid (fun (k : Nat) (W : World) (h1 : 1 ≤ k) (h2 : k ≤ 1000000000) => markTx k W h1 h2)
    go_enter Tryd.func24, Tryd.ntmps24
    go_wp2
    go_loopw [1, 5] (fun s i wr => ∃ k : Nat, k ≤ n ∧ i = .int .i64 k ∧ s = .int .i64 ((m + k : Nat) : Int) ∧ Hid (Gr w wr (some ⟨g, 0, none⟩)) ∧ ∃ cs : Array Value, Hid (Blk wr g 9 cs) ∧ Hid (cs.size = c) ∧ Hid (∀ j, j < k → cs[j]? = some (.string (mk (m + j))))) (fun _ i _ => n - (intOf i).toNat)
    case atStart => exact ⟨0, Nat.zero_le _, rfl, rfl, Lib.hid (Gr.refl _ _), _, Lib.hid HB0.out, Lib.hid hs0, Lib.hid (fun j hj => absurd hj (by omega))⟩
    case round =>
      obtain ⟨k, hk, rfl, rfl, HG, cs, HC, HS, HV⟩ := hrel
      by_cases hlt : k < n
      · have M := Lib.hid (MT.out (m + k) wr (by omega) (by omega))
        obtain ⟨s1, hs1⟩ : ∃ s : Nat, m + k = s := ⟨_, rfl⟩
        rw [hs1] at M
        rw [hs1]
        obtain ⟨tk, htk⟩ : ∃ t, mk s1 = t := ⟨_, rfl⟩
        rw [htk] at M
        have HK := Lib.hid htk
        have b1 : s1 ≤ 200000000 := by omega
        have HS1 := Lib.hid hs1
        clear htk hs1
        go_wp2_with (go_at_call 45; refine M.out.mono ?_; rintro e w1 ⟨rfl, hb1⟩; have HC1 := Lib.hid ((hb1.block g HC.out.lt).trans HC.out); have hf := Blk.free HC1.out k; have hd : w1.cell? ⟨g, k, none⟩ = some cs[k]! := (by rw [Blk.cell HC1.out]; have := HS.out; have h2 : k < c := (by omega); simp [h2, this]); have HG1 := Lib.hid (HG.out.trans (Gr.of_below hb1 _)))
        all_goals go_roundw
        all_goals first
          | (simp [intOf]; omega)
          | (refine ⟨k + 1, by omega, by go_num, by have := HS1.out; first | go_num | exact congrArg (Value.int .i64) (by omega), Lib.hid (HG1.out.set _), _, Lib.hid (Blk.set_ HC1.out k _), Lib.hid (by rw [Array.size_setIfInBounds]; exact HS.out), Lib.hid fun j hj => ?_⟩
             have hs := HS.out
             rw [Array.getElem?_setIfInBounds]
             by_cases e : k = j
             · subst e
               rw [if_pos rfl, if_pos (by omega), HS1.out, HK.out]
             · rw [if_neg e]
               exact HV.out j (by omega))
      · go_wp2
        go_ret
        obtain rfl : k = n := by omega
        refine ⟨ret_int (by omega), Orw.mk hlo HC.out hnc (by unfold maxLen; omega) (by rw [HS.out]; omega) ?_ (by simp [sts, mkL]), HG.out⟩
        apply List.ext_getElem?
        intro j
        rw [Nat.mul_one]
        by_cases hj : j < k
        · rw [mkL_get hj, List.getElem?_take, if_pos hj]
          simpa using HV.out j hj
        · rw [List.getElem?_eq_none (by simp; omega), List.getElem?_eq_none (by simp [sts, mkL]; omega)]

set_option maxHeartbeats 1000000 in
theorem heldStrs (A : Option Addr) (n c lo : Nat) (m : Nat) (w : World) (hr : Tr w lo A n c (mkL m n)) (hn : n ≤ 4194304) (hm : 1 ≤ m ∧ m ≤ 100000000) :
    Calls Tryd.prog 25 #[.slice A n c, .int .i64 (m : Int)] w fun e w' => e = .returned (.int .i64 ((m : Int) + n)) ∧ Below w.heap.size w w' := by
  have HR := Lib.hid hr
  clear hr
  have MT := Lib.hid (fun (k : Nat) (W : World) (h1 : 1 ≤ k) (h2 : k ≤ 1000000000) => markTx k W h1 h2)
  go_enter Tryd.func25, Tryd.ntmps25
  go_wp2
  go_loopw [1, 5] (fun s i wr => ∃ k : Nat, k ≤ n ∧ i = .int .i64 k ∧ s = .int .i64 ((m + k : Nat) : Int) ∧ Hid (Below w.heap.size w wr)) (fun _ i _ => n - (intOf i).toNat)
  case atStart => exact ⟨0, Nat.zero_le _, rfl, rfl, Lib.hid (Below.refl _ _)⟩
  case round =>
    obtain ⟨k, hk, rfl, rfl, HB⟩ := hrel
    by_cases hlt : k < n
    · obtain ⟨g, rfl, _, hg, hc, _⟩ := (Orw.below HB.out HR.out).at_ (j := k) (by omega)
      rw [mkL_get hlt] at hc
      obtain ⟨s1, hs1⟩ : ∃ s : Nat, m + k = s := ⟨_, rfl⟩
      rw [hs1] at hc
      rw [hs1]
      have M := Lib.hid (fun W => MT.out s1 W (by omega) (by omega))
      have HS1 := Lib.hid hs1
      have b1 : s1 ≤ 200000000 := by omega
      generalize mk s1 = t at M hc
      have i0 : (0 : Int) ≤ (k : Int) := by omega
      have i1 : (k : Int) < (n : Int) := by omega
      have hz := HB.out.size
      clear hs1
      go_wp2_with fail
      go_region_held3 (fun w' => w'.cell? ⟨g, k, none⟩ = some (.string t)) ((((try dsimp only); (repeat' apply And.intro) <;> (repeat (first | with_reducible assumption | (with_reducible refine keep_drew ?_) | (with_reducible refine keep_drewN ?_) | ((with_reducible refine keep_new _ _ _ _ _ _ ?_ ?_) <;> (first | rfl | (simp; done) | omega)) | (with_reducible refine keep_alloc _ ?_) | ((with_reducible refine keep_set _ ?_ ?_); (focus first | omega | (simp; done) | (simp; omega))) | ((with_reducible refine keep_set' _ ?_ ?_); (focus first | omega | (simp; done))) | ((with_reducible refine keep_same (u := ?_) _ ?_); rotate_left) | ((with_reducible refine keep_setA _ ?_ ?_); (focus first | omega | (simp; done) | (simp; omega))) | ((with_reducible refine keep_below (w := ?_) ?_ ?_); rotate_left; (with_reducible assumption))))))) ((go_at_call 45; refine (M.out _).mono ?_; rintro e w1 ⟨rfl, hb1⟩; obtain ⟨hc1, hf1⟩ := bcell hb1; have z1 := hb1.size; (try simp at z1)))
      all_goals go_wp2_with fail
      all_goals go_roundw
      all_goals first
        | (simp [intOf]; omega)
        | exact ⟨k + 1, by omega, by go_num, by have := HS1.out; first | go_num | exact congrArg (Value.int .i64) (by omega), Lib.hid (by have hb := HB.out; exact (by repeat (first | with_reducible exact Below.refl _ _ | with_reducible assumption | (with_reducible refine Below.drew ?_) | (with_reducible refine below_drewN ?_ _) | ((with_reducible refine Below.alloc ?_ ?_ _); rotate_left; (focus first | exact Nat.le_refl _ | omega | (simp; done) | (simp; omega))) | ((with_reducible refine Below.setCell ?_ ?_ _); rotate_left; (focus first | exact Nat.le_refl _ | omega | (simp; done) | (simp; omega))) | ((with_reducible refine below_via (W := ?_) ?_ ?_ ?_); rotate_left; (with_reducible assumption); rotate_left; (focus first | exact Nat.le_refl _ | omega | (simp; done) | (simp; omega))))))⟩
    · have hb := HB.out
      go_wp2
      go_ret
      obtain rfl : k = n := by omega
      exact ⟨ret_int (by omega), hb⟩

end Go.Proofs.YtbggickeomeidaaDoor.WalkSt
