/- Levels read: the program's way. -/
import Derived.Test.YtbggickeomeidaaDoorPlainRb
import Derived.Test.YtbggickeomeidaaDoorWalkRI
import Derived.Test.YtbggickeomeidaaDoorShelfC
namespace Go.Proofs.YtbggickeomeidaaDoor.WalkRb
open Go Go.RowKit Go.Proofs.YtbggickeomeidaaDoor.Base Go.Proofs.YtbggickeomeidaaDoor.Plain Go.Proofs.YtbggickeomeidaaDoor.PlainTx Go.Proofs.YtbggickeomeidaaDoor.WalkN Go.Proofs.YtbggickeomeidaaDoor.WalkP Go.Proofs.YtbggickeomeidaaDoor.Text Go.Proofs.YtbggickeomeidaaDoor.WalkRD Go.Proofs.YtbggickeomeidaaDoor.WalkRI Go.Proofs.YtbggickeomeidaaDoor.WalkTx Go.Proofs.YtbggickeomeidaaDoor.PlainRb
set_option linter.unusedVariables false
set_option linter.unusedSimpArgs false

/-- what the search for a text asks of the world besides -/
structure Env2 (w : World) : Prop where
  env : Env w
  mx : ∃ m, w.cell? ⟨1, 0, none⟩ = some (.int .i64 m)
theorem Env2.below {w w1 : World} (hb : Below w.heap.size w w1) (h : Env2 w) : Env2 w1 :=
  ⟨h.env.below hb, h.mx.imp fun m hm => (hb.cell (World.block_lt_of_cell? w _ hm)).trans hm⟩

/-- the two parts of a text at its first point -/
def cA (s : ByteArray) : ByteArray := ⟨(Lib.cut s.data.toList [46]).1.toArray⟩
def cB (s : ByteArray) : ByteArray := ⟨(Lib.cut s.data.toList [46]).2.1.toArray⟩
theorem cA_size (s : ByteArray) : (cA s).size ≤ s.size := by
  have := (cut_len s.data.toList [46]).1
  rw [Lib.size_eq, Lib.size_eq]
  exact this
theorem cB_size (s : ByteArray) : (cB s).size ≤ s.size := by
  have := (cut_len s.data.toList [46]).2
  rw [Lib.size_eq, Lib.size_eq]
  exact this
theorem dS_le (s : ByteArray) : (dS s).size ≤ s.size := by
  rw [Lib.size_eq, Lib.size_eq]
  show (digF s.data.toList).length ≤ _
  unfold digF
  split
  · simp
  · exact Nat.le_refl _
theorem cutDot (s : ByteArray) (w : World) (hs : s.size ≤ 1048576) (hE : Env2 w) :
    Calls Tryd.prog 30 #[.string s, .string ⟨#[46]⟩] w fun e w' => ∃ b, e = .returned (.tuple #[.string (cA s), .string (cB s), .bool b]) ∧ Below w.heap.size w w' := by
  obtain ⟨m, hm⟩ := hE.mx
  exact (Tryd.strings_Cut s ⟨#[46]⟩ m w (by omega) hm).mono fun e w' ⟨h, n, hw⟩ => ⟨_, h, by subst hw; exact below_drewN (Below.refl _ _) n⟩
/-- does the text begin with a minus -/
def mns (s : ByteArray) : Bool := Lib.hasPrefix s.data.toList [45]
theorem hasMinus (s : ByteArray) (w : World) : Calls Tryd.prog 32 #[.string s, .string ⟨#[45]⟩] w fun e w' => e = .returned (.bool (mns s)) ∧ w = w' :=
  (Tryd.strings_HasPrefix s ⟨#[45]⟩ w).mono fun e w' h => ⟨h.1, h.2.symm⟩
theorem mns_yes {s : ByteArray} {r : List UInt8} (h : s.data.toList = 45 :: r) : mns s = true := by
  unfold mns Lib.hasPrefix
  rw [h]
  rfl
theorem mns_no {s : ByteArray} (h : ¬ s.data.toList.head? = some 45) : mns s = false := by
  unfold mns Lib.hasPrefix
  cases hl : s.data.toList with
  | nil => rfl
  | cons c r =>
    rw [hl] at h
    have h' : ¬ (45 : UInt8) = c := fun e => h (by rw [e]; rfl)
    simp [List.isPrefixOf, h']
theorem byte_at (s : ByteArray) {k : Nat} (h : k < s.size) : s.data.toList[k]? = some s[k] := by
  rw [Array.getElem?_toList]
  exact Array.getElem?_eq_getElem h
theorem stF_next (n : Int) (s : ByteArray) {k : Nat} (h : k < s.size) : stF n (s.data.toList.take (k + 1)) = stp (stF n (s.data.toList.take k)) s[k] := by
  have hk : k < s.data.toList.length := by rw [← Lib.size_eq]; exact h
  have hg : s.data.toList[k] = s[k] := by
    have := byte_at s h
    rw [List.getElem?_eq_getElem hk] at this
    injection this
  rw [List.take_succ_eq_append_getElem hk, hg]
  unfold stF
  rw [List.foldl_append, List.foldl_cons, List.foldl_nil]
theorem whole_num {s : ByteArray} (h : IsLv s) : ∃ q D, cA (dS s) = ⟨(Lib.decDigits q).toArray⟩ ∧ cB (dS s) = ⟨(D : List UInt8).toArray⟩ ∧ D.length = 3 ∧ D.all isD = true ∧ q ≤ 300 ∧
    dbR (if mns s then -(1000 * (q : Int) + (valA 0 D : Int)) else 1000 * (q : Int) + (valA 0 D : Int)) = s := by
  obtain ⟨v, hv, e⟩ := h
  obtain ⟨q, D, hd, hl, ha, hq, c⟩ := lv_parts hv e
  have hc : Lib.cut (dS s).data.toList [46] = (Lib.decDigits q, D, true) := by
    show Lib.cut (digF s.data.toList) [46] = _
    rw [hd]
    exact cut_dot (dec_all q)
  refine ⟨q, D, by unfold cA; rw [hc], by unfold cB; rw [hc], hl, ha, hq, ?_⟩
  rw [← e]
  rcases c with ⟨_, hv2, hs⟩ | ⟨_, hv2, hs⟩
  · rw [e, mns_yes hs, if_pos rfl, ← hv2, dbR_yes hv, e]
  · have hm : mns s = false := mns_no (by rw [hs]; exact dec_no45 q _)
    rw [e, hm, if_neg (by simp), ← hv2, dbR_yes hv, e]

set_option maxHeartbeats 1000000 in
theorem implRb (s : ByteArray) (w : World) (hs : s.size ≤ 1048576) (hE : Env2 w) : Calls Tryd.prog 10 #[.string s] w fun e w' => e = .returned (dbV s) ∧ Below w.heap.size w w' := by
  have sd := dS_le s
  have sA := cA_size (dS s)
  have sB := cB_size (dS s)
  have T := Lib.hid (fun W => trimMinus s W)
  have C := Lib.hid (fun W (hb : Below w.heap.size w W) => cutDot (dS s) W (by omega) (hE.below hb))
  have R := Lib.hid (fun W (hb : Below w.heap.size w W) => implNum (cA (dS s)) W (by omega) (hE.env.below hb))
  have P := Lib.hid (fun W => hasMinus s W)
  have DB := Lib.hid (fun (v : Int) (W : World) (hb : Below w.heap.size w W) => implDb v W (Tab.below hb hE.env.tab))
  have HW : Hid (IsLv s → ∃ q D, cA (dS s) = ⟨(Lib.decDigits q).toArray⟩ ∧ cB (dS s) = ⟨(D : List UInt8).toArray⟩ ∧ D.length = 3 ∧ D.all isD = true ∧ q ≤ 300 ∧
    dbR (if mns s then -(1000 * (q : Int) + (valA 0 D : Int)) else 1000 * (q : Int) + (valA 0 D : Int)) = s) := Lib.hid whole_num
  clear hE
  obtain ⟨a, ha⟩ : ∃ a, cA (dS s) = a := ⟨_, rfl⟩
  obtain ⟨d, hd⟩ : ∃ d, cB (dS s) = d := ⟨_, rfl⟩
  obtain ⟨t, ht⟩ : ∃ t, dS s = t := ⟨_, rfl⟩
  rw [ha, hd] at HW
  have C' : Hid (∀ W, Below w.heap.size w W → Calls Tryd.prog 30 #[.string t, .string ⟨#[46]⟩] W fun e w' => ∃ b, e = .returned (.tuple #[.string a, .string d, .bool b]) ∧ Below W.heap.size W w') := Lib.hid (fun W hb => by have := C.out W hb; rwa [ha, hd, ht] at this)
  rw [ha] at R sA
  rw [hd] at sB
  rw [ht] at T sd sA sB
  clear C ha hd ht
  cases hn : numF a.data.toList with
  | none =>
    have HN := Lib.hid (dbV_no (s := s) (fun h => by
      obtain ⟨q, D, h1, _, _, _, h5, _⟩ := HW.out h
      have := num_dec h5
      rw [h1] at hn
      rw [hn] at this
      cases this))
    have R' : Hid (∀ W, Below w.heap.size w W → Calls Tryd.prog 12 #[.string a] W fun e w' => e = .returned (.tuple #[.int .i64 0, .bool false]) ∧ Below W.heap.size W w') := Lib.hid (fun W hb => by have := R.out W hb; rwa [rdV_no hn] at this)
    clear R hn sd sA sB
    go_enter Tryd.func10, Tryd.ntmps10
    go_wp2_with (first | (go_at_call 31; refine (T.out _).mono ?_; rintro e w' ⟨rfl, rfl⟩) | (go_at_call 30; refine (C'.out _ (Below.refl _ _)).mono ?_; rintro e w1 ⟨b, rfl, hb1⟩) | (go_at_call 12; refine (R'.out _ hb1).mono ?_; rintro e w2 ⟨rfl, hb2⟩))
    go_ret2
    exact ⟨ret_val HN.out.symm, hb1.trans (hb2.mono hb1.size)⟩
  | some n =>
    have R' : Hid (∀ W, Below w.heap.size w W → Calls Tryd.prog 12 #[.string a] W fun e w' => e = .returned (.tuple #[.int .i64 n, .bool true]) ∧ Below W.heap.size W w') := Lib.hid (fun W hb => by have := R.out W hb; rwa [rdV_yes hn] at this)
    by_cases h3 : d.size = 3
    · have g3 : ((d.size : Int) == 3) = true := by rw [beq_iff_eq]; omega
      have HQ : Hid (IsLv s → dbR (if mns s then IntKind.i64.wrap (-(stF n d.data.toList)) else stF n d.data.toList) = s) := Lib.hid (fun h => by
        obtain ⟨q, D, h1, h2, h3, h4, h5, h6⟩ := HW.out h
        rw [h1] at hn
        have e := num_dec h5
        rw [hn] at e
        injection e with e
        subst e
        rw [h2]
        show dbR (if mns s then IntKind.i64.wrap (-(stF (q : Int) D)) else stF (q : Int) D) = s
        rw [stF_dec h5 h3 h4]
        have := val_lt3 h3 h4
        rw [IntWalk.i64_in _ (by omega)]
        exact h6)
      have HNE : Hid (s.size ≠ 0) := Lib.hid (by omega)
      clear R HW hn sd sA sB
      go_enter Tryd.func10, Tryd.ntmps10
      go_wp2_with (first | (go_at_call 31; refine (T.out _).mono ?_; rintro e w' ⟨rfl, rfl⟩) | (go_at_call 30; refine (C'.out _ (Below.refl _ _)).mono ?_; rintro e w1 ⟨b, rfl, hb1⟩) | (go_at_call 12; refine (R'.out _ hb1).mono ?_; rintro e w2 ⟨rfl, hb2⟩))
      have hb : Below w.heap.size w w2 := hb1.trans (hb2.mono hb1.size)
      clear g3 R' T C' hb1 hb2
      go_loop [7, 31] (fun x i => ∃ (p : Nat) (v : Int), x = .int .i64 v ∧ i = .int .i64 p ∧ 0 ≤ p ∧ p ≤ d.size ∧ Hid (v = stF n (d.data.toList.take p))) (fun _ i => d.size - (intOf i).toNat)
      case atStart => exact ⟨0, n, rfl, rfl, by omega, by omega, Lib.hid (by simp [stF])⟩
      case round =>
        obtain ⟨p, v, rfl, rfl, hp1, hp2, HV⟩ := hrel
        by_cases hlt : p < d.size
        · have HS := Lib.hid (stF_next n d hlt)
          obtain ⟨b1, e1⟩ : ∃ z, IntKind.i64.wrap (10 * v) = z := ⟨_, rfl⟩
          obtain ⟨b2, e2⟩ : ∃ z, IntKind.i64.wrap (b1 + (d[p].toNat : Int)) = z := ⟨_, rfl⟩
          obtain ⟨b3, e3⟩ : ∃ z, IntKind.i64.wrap (b2 - 48) = z := ⟨_, rfl⟩
          have HV2 : Hid (b3 = stF n (d.data.toList.take (p + 1))) := Lib.hid (by rw [HS.out, ← HV.out]; unfold stp; rw [e1, e2, e3])
          have hbb : 0 ≤ (d[p].toNat : Int) ∧ (d[p].toNat : Int) ≤ 255 := by have := d[p].toNat_lt; omega
          go_wp2
          clear e1 e2 e3
          go_round
          case rel => exact ⟨p + 1, b3, by first | rfl | go_num, by go_num, by omega, by omega, HV2⟩
          case measure => simp [intOf]; omega
        · obtain rfl : p = d.size := by omega
          have et : d.data.toList.take d.size = d.data.toList := List.take_of_length_le (by rw [Lib.size_eq]; exact Nat.le_refl _)
          rw [et] at HV
          rw [← HV.out] at HQ
          clear HV et
          cases hm : mns s
          · rw [hm] at P HQ
            have D := Lib.hid (fun W hb => DB.out v W hb)
            by_cases he : dbR v = s
            · have HR := Lib.hid (dbV_of he HNE.out)
              rw [he] at D
              clear HQ
              go_wp2_with (first | (go_at_call 32; refine (P.out _).mono ?_; rintro e w' ⟨rfl, rfl⟩) | (go_at_call 33; refine (D.out _ hb).mono ?_; rintro e w3 ⟨rfl, hb3⟩))
              go_ret2
              exact ⟨ret_val HR.out.symm, hb.trans (hb3.mono hb.size)⟩
            · have HR := Lib.hid (dbV_no (fun h => he (HQ.out h)))
              generalize dbR v = tt at D he
              have hnt : (tt.toList == s.toList) = false := by
                rw [beq_eq_false_iff_ne, Go.Lib.toList_data, Go.Lib.toList_data]
                exact fun e => he (by apply ByteArray.ext; exact Array.toList_inj.1 e)
              clear HQ he
              go_wp2_with (first | (go_at_call 32; refine (P.out _).mono ?_; rintro e w' ⟨rfl, rfl⟩) | (go_at_call 33; refine (D.out _ hb).mono ?_; rintro e w3 ⟨rfl, hb3⟩))
              go_ret2
              exact ⟨ret_val HR.out.symm, hb.trans (hb3.mono hb.size)⟩
          · rw [hm] at P HQ
            obtain ⟨u, hu⟩ : ∃ u, IntKind.i64.wrap (-v) = u := ⟨_, rfl⟩
            rw [hu] at HQ
            have D := Lib.hid (fun W hb => DB.out u W hb)
            by_cases he : dbR u = s
            · have HR := Lib.hid (dbV_of he HNE.out)
              rw [he] at D
              clear HQ
              go_wp2_with (first | (go_at_call 32; refine (P.out _).mono ?_; rintro e w' ⟨rfl, rfl⟩) | (go_at_call 33; refine (D.out _ hb).mono ?_; rintro e w3 ⟨rfl, hb3⟩))
              go_ret2
              exact ⟨ret_val HR.out.symm, hb.trans (hb3.mono hb.size)⟩
            · have HR := Lib.hid (dbV_no (fun h => he (HQ.out h)))
              generalize dbR u = tt at D he
              have hnt : (tt.toList == s.toList) = false := by
                rw [beq_eq_false_iff_ne, Go.Lib.toList_data, Go.Lib.toList_data]
                exact fun e => he (by apply ByteArray.ext; exact Array.toList_inj.1 e)
              clear HQ he
              go_wp2_with (first | (go_at_call 32; refine (P.out _).mono ?_; rintro e w' ⟨rfl, rfl⟩) | (go_at_call 33; refine (D.out _ hb).mono ?_; rintro e w3 ⟨rfl, hb3⟩))
              go_ret2
              exact ⟨ret_val HR.out.symm, hb.trans (hb3.mono hb.size)⟩
    · have g3 : ((d.size : Int) == 3) = false := by rw [beq_eq_false_iff_ne]; omega
      have HN := Lib.hid (dbV_no (s := s) (fun h => by
        obtain ⟨q, D, _, h2, h4, _⟩ := HW.out h
        rw [h2, Lib.size_eq] at h3
        exact h3 h4))
      clear R HW hn sd sA sB h3
      go_enter Tryd.func10, Tryd.ntmps10
      go_wp2_with (first | (go_at_call 31; refine (T.out _).mono ?_; rintro e w' ⟨rfl, rfl⟩) | (go_at_call 30; refine (C'.out _ (Below.refl _ _)).mono ?_; rintro e w1 ⟨b, rfl, hb1⟩) | (go_at_call 12; refine (R'.out _ hb1).mono ?_; rintro e w2 ⟨rfl, hb2⟩))
      go_ret2
      exact ⟨ret_val HN.out.symm, hb1.trans (hb2.mono hb1.size)⟩

end Go.Proofs.YtbggickeomeidaaDoor.WalkRb
