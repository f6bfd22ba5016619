/- Numbers read: the program's way, by the library's ParseInt. -/
import Derived.Test.YtbggickeomeidaaDoorWalkRD
import Derived.Stop.LaidErr
import Derived.RowKitTokens
namespace Go.Proofs.YtbggickeomeidaaDoor.WalkRI
open Go Go.RowKit Go.Proofs.YtbggickeomeidaaDoor.Base Go.Proofs.YtbggickeomeidaaDoor.Plain Go.Proofs.YtbggickeomeidaaDoor.PlainTx Go.Proofs.YtbggickeomeidaaDoor.WalkN Go.Proofs.YtbggickeomeidaaDoor.WalkP Go.Proofs.YtbggickeomeidaaDoor.Text Go.Proofs.YtbggickeomeidaaDoor.WalkRD
set_option linter.unusedVariables false
set_option linter.unusedSimpArgs false

theorem var_keep {P : Program} {w w1 : World} {n : String} {cs : Array Value} (hb : Below w.heap.size w w1) (h : w.var? P n = some cs) : w1.var? P n = some cs := by
  unfold World.var? at h ⊢
  cases hg : P.globalNamed n with
  | none => rw [hg] at h; cases h
  | some g =>
    rw [hg] at h
    simp only [Option.bind_some] at h ⊢
    have hlt : g < w.heap.size := by
      rcases Nat.lt_or_ge g w.heap.size with q | q
      · exact q
      · rw [Array.getElem?_eq_none q] at h
        cases h
    rw [hb.block g hlt]
    exact h
/-- what the reading of numbers asks of the world: the table of powers, and the library's two errors -/
structure Env (w : World) : Prop where
  tab : Tab w
  syn : ∃ (tp : TypeId) (p : Value), w.var? Tryd.prog "strconv.ErrSyntax" = some #[.iface tp p]
  rng : ∃ (tp : TypeId) (p : Value), w.var? Tryd.prog "strconv.ErrRange" = some #[.iface tp p]
theorem Env.below {w w1 : World} (hb : Below w.heap.size w w1) (h : Env w) : Env w1 :=
  ⟨Tab.below hb h.tab, h.syn.imp fun _ h => h.imp fun _ h => var_keep hb h, h.rng.imp fun _ h => h.imp fun _ h => var_keep hb h⟩

/-- the digits of a text, as a text -/
def dS (s : ByteArray) : ByteArray := ⟨(digF s.data.toList).toArray⟩
theorem dS_size (s : ByteArray) : (dS s).size = (digF s.data.toList).length := by simp [dS, ByteArray.size]
theorem trim_dig (l : List UInt8) : Lib.trimPrefix l [45] = digF l := by
  unfold Lib.trimPrefix Lib.hasPrefix digF
  cases l with
  | nil => rfl
  | cons c r =>
    by_cases h : c = 45
    · subst h; rfl
    · have h' : ¬ (45 : UInt8) = c := fun e => h e.symm
      simp [List.isPrefixOf, h, h']
theorem trimMinus (s : ByteArray) (w : World) : Calls Tryd.prog 31 #[.string s, .string ⟨#[45]⟩] w fun e w' => e = .returned (.string (dS s)) ∧ w = w' :=
  (Tryd.strings_TrimPrefix s ⟨#[45]⟩ w).mono fun e w' h => ⟨by rw [h.1]; exact congrArg (fun l : List UInt8 => Ending.returned (.string ⟨l.toArray⟩)) (trim_dig s.data.toList), h.2.symm⟩
theorem parse_ok (s : ByteArray) (w : World) (hs : s.size ≤ 1048576) (v : Int) (h : Lib.parseIntB 64 s.data.toList = .ok v) :
    Calls Tryd.prog 35 #[.string s, .int .i64 10, .int .i64 64] w fun e w' => e = .returned (.tuple #[.int .i64 v, .nilIface]) ∧ Below w.heap.size w w' :=
  (Tryd.strconv_ParseInt_10_at64_ok s (by omega) v h w).mono fun e w' h => ⟨h.1, by
    rcases h.2 with rfl | ⟨t, rfl⟩
    · exact Below.refl _ _
    · exact Go.Joins.below_bytesWorld _ _ _ _ (Nat.le_refl _)⟩
theorem parse_no (s : ByteArray) (w : World) (hs : s.size ≤ 1048576) (hE : Env w) (h : ∀ v, Lib.parseIntB 64 s.data.toList ≠ .ok v) :
    Calls Tryd.prog 35 #[.string s, .int .i64 10, .int .i64 64] w fun e w' => ∃ (v : Int) (t : TypeId) (N : Nat), e = .returned (.tuple #[.int .i64 v, .iface t (.pointer (some ⟨N, 0, none⟩))]) ∧ Below w.heap.size w w' := by
  by_cases hr : Lib.parseIntB 64 s.data.toList = .range
  · obtain ⟨tp, p, hv⟩ := hE.rng
    exact (Tryd.strconv_ParseInt_10_at64_range_var s (by omega) hr tp p w hv).mono fun e w' ⟨N, he, _, _, hb⟩ => ⟨_, _, N, he, hb⟩
  · obtain ⟨tp, p, hv⟩ := hE.syn
    exact (Tryd.strconv_ParseInt_10_at64_syntax_var s (by omega) h hr tp p w hv).mono fun e w' ⟨N, he, _, _, hb⟩ => ⟨_, _, N, he, hb⟩
theorem parse_bd {l : List UInt8} {v : Int} (h : Lib.parseIntB 64 l = .ok v) : -9223372036854775808 ≤ v ∧ v ≤ 9223372036854775807 := by
  have := Lib.parseIntB_bounds h
  rw [show (2 ^ (64 - 1) : Nat) = 9223372036854775808 by decide] at this
  omega
theorem txt_of {n : Int} {s : ByteArray} (h : Lib.itoa n = s.data.toList) : txt n = s := by
  unfold txt
  apply ByteArray.ext
  apply Array.toList_inj.1
  rw [h]

set_option maxHeartbeats 1000000 in
theorem implNum (s : ByteArray) (w : World) (hs : s.size ≤ 1048576) (hE : Env w) : Calls Tryd.prog 12 #[.string s] w fun e w' => e = .returned (rdV s.data.toList) ∧ Below w.heap.size w w' := by
  have T := Lib.hid (fun W => trimMinus s W)
  have DC := Lib.hid (fun (n : Int) (W : World) (hn : -9223372036854775808 ≤ n ∧ n ≤ 9223372036854775807) (hb : Below w.heap.size w W) => implDec n W hn (Tab.below hb hE.tab))
  by_cases hok : ∃ v, Lib.parseIntB 64 s.data.toList = .ok v
  · obtain ⟨v, hv⟩ := hok
    have bv := parse_bd hv
    have P := Lib.hid (parse_ok s w hs v hv)
    have D := Lib.hid (fun W hb => DC.out v W bv hb)
    cases hn : numF s.data.toList with
    | some n =>
      have HN := Lib.hid (rdV_yes hn)
      obtain rfl : v = n := by have := numF_parse hn; rw [hv] at this; injection this
      have hl : (dS s).size ≤ 18 := by rw [dS_size]; exact (numF_yes hn).2.1
      have ht := txt_of (numF_itoa hn)
      rw [ht] at D
      have g1 := decide_eq_false (show ¬ (18 : Int) < ((dS s).size : Int) by omega)
      clear hn hv hE ht
      go_enter Tryd.func12, Tryd.ntmps12
      go_wp2_with (first | (go_at_call 35; refine P.out.mono ?_; rintro e w1 ⟨rfl, hb1⟩) | (go_at_call 31; refine (T.out _).mono ?_; rintro e w' ⟨rfl, rfl⟩) | (go_at_call 36; refine (D.out _ hb1).mono ?_; rintro e w2 ⟨rfl, hb2⟩))
      go_ret2
      exact ⟨ret_val HN.out.symm, hb1.trans (hb2.mono hb1.size)⟩
    | none =>
      have HN := Lib.hid (rdV_no hn)
      by_cases h18 : 18 < (dS s).size
      · have g1 := decide_eq_true (show (18 : Int) < ((dS s).size : Int) by omega)
        clear hn hv hE
        go_enter Tryd.func12, Tryd.ntmps12
        go_wp2_with (first | (go_at_call 35; refine P.out.mono ?_; rintro e w1 ⟨rfl, hb1⟩) | (go_at_call 31; refine (T.out _).mono ?_; rintro e w' ⟨rfl, rfl⟩) | (go_at_call 36; refine (D.out _ hb1).mono ?_; rintro e w2 ⟨rfl, hb2⟩))
        go_ret2
        exact ⟨ret_val HN.out.symm, hb1⟩
      · have g1 := decide_eq_false (show ¬ (18 : Int) < ((dS s).size : Int) by omega)
        have hne : txt v ≠ s := fun e => by
          have h9 : Lib.itoa v = s.data.toList := by rw [← e]; simp [txt]
          have := numF_none hn v h9
          rw [← dS_size] at this
          omega
        generalize txt v = t at D hne
        have hnt : (t.toList == s.toList) = false := by
          rw [beq_eq_false_iff_ne, Go.Lib.toList_data, Go.Lib.toList_data]
          exact fun e => hne (by apply ByteArray.ext; exact Array.toList_inj.1 e)
        clear hn hv hE hne
        go_enter Tryd.func12, Tryd.ntmps12
        go_wp2_with (first | (go_at_call 35; refine P.out.mono ?_; rintro e w1 ⟨rfl, hb1⟩) | (go_at_call 31; refine (T.out _).mono ?_; rintro e w' ⟨rfl, rfl⟩) | (go_at_call 36; refine (D.out _ hb1).mono ?_; rintro e w2 ⟨rfl, hb2⟩))
        go_ret2
        exact ⟨ret_val HN.out.symm, hb1.trans (hb2.mono hb1.size)⟩
  · have HN := Lib.hid (rdV_no (show numF s.data.toList = none by
      cases hn : numF s.data.toList with
      | none => rfl
      | some n => exact absurd ⟨n, numF_parse hn⟩ hok))
    have P := Lib.hid (parse_no s w hs hE (fun v h => hok ⟨v, h⟩))
    clear hok hE
    go_enter Tryd.func12, Tryd.ntmps12
    go_wp2_with (go_at_call 35; refine P.out.mono ?_; rintro e w1 ⟨v, t, N, rfl, hb1⟩)
    go_ret2
    exact ⟨ret_val HN.out.symm, hb1⟩

theorem rdV_form (l : List UInt8) : ∃ (n : Int) (b : Bool), rdV l = .tuple #[.int .i64 n, .bool b] := by
  cases h : numF l with
  | none => exact ⟨_, _, rdV_no h⟩
  | some n => exact ⟨_, _, rdV_yes h⟩
theorem readDecimal (s : ByteArray) (ws : s.size ≤ maxLen) (w : World) (hE : Env w) :
    Calls Tryd.prog 4 #[.string s] w fun e w' => e = .returned (.bool true) ∧ Below w.heap.size w w' := by
  unfold maxLen at ws
  by_cases hs : s.size ≤ 1048576
  · obtain ⟨n, b, hv⟩ := rdV_form s.data.toList
    have C := Lib.hid (fun W (hb : Below w.heap.size w W) => implNum s W hs (Env.below hb hE))
    have S := Lib.hid (fun W => specNum s W (by omega))
    rw [hv] at C S
    clear hE hv
    go_enter Tryd.func4, Tryd.ntmps4
    go_wp2_with (first | (go_at_call 34; refine (S.out _).mono ?_; rintro e w' ⟨rfl, rfl⟩) | (go_at_call 12; refine (C.out _ (Below.refl _ _)).mono ?_; rintro e w1 ⟨rfl, hb1⟩) | (go_at_call 11; go_in))
    go_ret
    exact ⟨rfl, hb1⟩
  · clear hE
    go_enter Tryd.func4, Tryd.ntmps4
    go_wp2
    go_ret
    exact ⟨rfl, Below.refl _ _⟩

theorem star : "*" ++ "errors.errorString" = "*errors.errorString" := by decide
theorem row_err (u : TypeId) (h : Tryd.prog.typeName? 3 u = some "*errors.errorString") : u = 109 :=
  typeName_ptr_named (nm := "errors.errorString") (by rw [star]; kernel_rfl) (by kernel_rfl) (by decide) u (by rw [star]; exact h)
theorem err_syn {r : List (String × DataW Unit)} {text : List UInt8} {W : World} (h : laidMet Tryd.prog (("strconv.ErrSyntax", .iface "*errors.errorString" (.ptr (.agg [.lit (.string text)]))) :: r) W) :
    ∃ (tp : TypeId) (p : Value), W.var? Tryd.prog "strconv.ErrSyntax" = some #[.iface tp p] := by
  obtain ⟨a, s, hv, _⟩ := laid_sentinel (g := 2) h (by kernel_rfl) (by kernel_rfl) Tryd.underlying49 row_err Tryd.underlying109 Tryd.underlying111 rfl rfl Tryd.underlying9 (by kernel_rfl) (by kernel_rfl)
  exact ⟨_, _, hv⟩
theorem err_rng {r : List (String × DataW Unit)} {text : List UInt8} {W : World} (h : laidMet Tryd.prog (("strconv.ErrRange", .iface "*errors.errorString" (.ptr (.agg [.lit (.string text)]))) :: r) W) :
    ∃ (tp : TypeId) (p : Value), W.var? Tryd.prog "strconv.ErrRange" = some #[.iface tp p] := by
  obtain ⟨a, s, hv, _⟩ := laid_sentinel (g := 3) h (by kernel_rfl) (by kernel_rfl) Tryd.underlying49 row_err Tryd.underlying109 Tryd.underlying111 rfl rfl Tryd.underlying9 (by kernel_rfl) (by kernel_rfl)
  exact ⟨_, _, hv⟩

end Go.Proofs.YtbggickeomeidaaDoor.WalkRI
