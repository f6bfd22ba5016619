/- Terrains read: the reference's way and the program's way agree; plain. -/
import Derived.Test.YtemjjjjkokfjdaaDoorPlainRt
namespace Go.Proofs.YtemjjjjkokfjdaaDoor.PlainRu
open Go Go.RowKit Go.Proofs.YtemjjjjkokfjdaaDoor.Plain Go.Proofs.YtemjjjjkokfjdaaDoor.PlainT Go.Proofs.YtemjjjjkokfjdaaDoor.PlainTx Go.Proofs.YtemjjjjkokfjdaaDoor.PlainSp Go.Proofs.YtemjjjjkokfjdaaDoor.PlainSq Go.Proofs.YtemjjjjkokfjdaaDoor.Text Go.Proofs.YtemjjjjkokfjdaaDoor.WalkN Go.Proofs.YtemjjjjkokfjdaaDoor.WalkW Go.Proofs.YtemjjjjkokfjdaaDoor.WalkTx Go.Proofs.YtemjjjjkokfjdaaDoor.WalkLT Go.Proofs.YtemjjjjkokfjdaaDoor.WalkTt Go.Proofs.YtemjjjjkokfjdaaDoor.WalkTv Go.Proofs.YtemjjjjkokfjdaaDoor.PlainRt
set_option linter.unusedVariables false
set_option linter.unusedSimpArgs false

/-- the lines of a terrain's rows -/
def rowL (x y : List Int) : TX := listF x ++ 32 :: listF y
def linesL (wd : Nat) : Nat → List Int → List Int → List TX
  | 0, _, _ => []
  | k + 1, hs, cs => rowL (hs.take wd) (cs.take wd) :: linesL wd k (hs.drop wd) (cs.drop wd)
theorem prt_drop (wd k : Nat) (zs : List Int) : prt wd k (zs.drop wd) = prt wd (k + 1) zs := by
  unfold prt
  rw [List.drop_drop, Nat.add_mul, Nat.one_mul, Nat.add_comm]
theorem linesL_snoc (wd : Nat) : ∀ (k : Nat) (hs cs : List Int), linesL wd (k + 1) hs cs = linesL wd k hs cs ++ [rowL (prt wd k hs) (prt wd k cs)]
  | 0, hs, cs => by
    show [rowL (hs.take wd) (cs.take wd)] = [rowL (prt wd 0 hs) (prt wd 0 cs)]
    unfold prt
    rw [Nat.zero_mul, List.drop_zero, List.drop_zero]
  | k + 1, hs, cs => by
    show rowL (hs.take wd) (cs.take wd) :: linesL wd (k + 1) (hs.drop wd) (cs.drop wd) = _
    rw [linesL_snoc wd k, prt_drop, prt_drop]
    rfl
/-- the first line -/
def ter8 : TX := [116, 101, 114, 114, 97, 105, 110]
def hdL (s w h : Int) : TX := Lib.join [ter8, Lib.itoa s, Lib.itoa w, Lib.itoa h] [32]
def txtL (s w h : Int) (wd N : Nat) (hs cs : List Int) : TX := (hdL s w h :: linesL wd N hs cs).flatMap (· ++ [10])
theorem cat_list (a b : ByteArray) : (a ++ b).data.toList = a.data.toList ++ b.data.toList := by simp
theorem ter_list (s w h : Int) (wd : Nat) (hs cs : List Int) : ∀ N, (terT s w h wd hs cs N).data.toList = txtL s w h wd N hs cs
  | 0 => by
    show (hdT s w h).data.toList = _
    unfold hdT txtL hdL
    simp only [cat_list, linesL, List.flatMap_cons, List.flatMap_nil, Lib.join_cons, Lib.joinTail, txt, ter8]
    simp
  | N + 1 => by
    show (terT s w h wd hs cs N ++ rowT wd N hs cs).data.toList = _
    rw [cat_list, ter_list s w h wd hs cs N]
    unfold txtL
    rw [linesL_snoc, ← List.cons_append, List.flatMap_append]
    congr 1
    unfold rowT rowL listR
    simp only [cat_list, List.flatMap_cons, List.flatMap_nil]
    simp
theorem row_no {x y : List Int} : (∀ b ∈ rowL x y, b ≠ 10) ∧ splF 32 (rowL x y) = [listF x, listF y] := by
  constructor
  · intro b hb
    unfold rowL at hb
    rw [List.mem_append] at hb
    rcases hb with hb | hb
    · exact (lb_no (list_lb b hb)).1
    · rcases List.mem_cons.1 hb with hb | hb
      · subst hb; decide
      · exact (lb_no (list_lb b hb)).1
  · unfold rowL
    rw [splF_hit 32 _ _ (fun b hb => (lb_no (list_lb b hb)).2), splF_none 32 _ (fun b hb => (lb_no (list_lb b hb)).2)]
theorem lines_no (wd : Nat) : ∀ (k : Nat) (hs cs : List Int), ∀ l ∈ linesL wd k hs cs, ∀ b ∈ l, b ≠ 10
  | 0, _, _, l, hl => by cases hl
  | k + 1, hs, cs, l, hl => by
    rcases List.mem_cons.1 hl with hl | hl
    · subst hl; exact row_no.1
    · exact lines_no wd k _ _ l hl
theorem lines_len (wd : Nat) : ∀ (k : Nat) (hs cs : List Int), (linesL wd k hs cs).length = k
  | 0, _, _ => rfl
  | k + 1, hs, cs => by
    show (linesL wd k _ _).length + 1 = _
    rw [lines_len wd k]
theorem hd_no (s w h : Int) : (∀ b ∈ hdL s w h, b ≠ 10) ∧ splF 32 (hdL s w h) = [ter8, Lib.itoa s, Lib.itoa w, Lib.itoa h] := by
  constructor
  · intro b hb
    unfold hdL at hb
    simp only [Lib.join_cons, Lib.joinTail, List.map_cons, List.map_nil, List.flatten_cons, List.flatten_nil, List.append_nil, List.mem_append] at hb
    have i : ∀ n, b ∈ Lib.itoa n → b ≠ 10 := fun n hn => itoa_no n 10 (by decide) (by decide) b hn
    have e : b ∈ ([32] : TX) → b ≠ 10 := fun h => by simp at h; subst h; decide
    have t : b ∈ ter8 → b ≠ 10 := fun h => by rintro rfl; revert h; decide
    rcases hb with hb | (hb | hb) | (hb | hb) | hb | hb
    · exact t hb
    · exact e hb
    · exact i _ hb
    · exact e hb
    · exact i _ hb
    · exact e hb
    · exact i _ hb
  · unfold hdL
    refine splF_of_join 32 _ _ ?_
    intro q hq
    have i : ∀ n, ∀ x ∈ Lib.itoa n, x ≠ 32 := fun n => itoa_no n 32 (by decide) (by decide)
    simp only [List.mem_cons, List.not_mem_nil, or_false] at hq
    rcases hq with rfl | rfl | rfl | rfl
    · decide
    · exact i _
    · exact i _
    · exact i _
/-- the lines of a written terrain -/
theorem txt_lines (s w h : Int) (wd N : Nat) (hs cs : List Int) : splF 10 (txtL s w h wd N hs cs) = hdL s w h :: (linesL wd N hs cs ++ [[]]) := by
  unfold txtL
  have h2 := splF_app 10 [] (hdL s w h :: linesL wd N hs cs) (by
    intro p hp
    rcases List.mem_cons.1 hp with hp | hp
    · subst hp; exact (hd_no s w h).1
    · exact lines_no wd N hs cs p hp)
  rw [List.append_nil] at h2
  rw [h2]
  rfl
/-- rows that are written are read -/
theorem rows_lines (wd : Nat) : ∀ (k : Nat) (hs cs : List Int), hs.length = k * wd → cs.length = k * wd → (∀ j, j < k → fitB (prt wd j hs) = true ∧ fitB (prt wd j cs) = true) → rowsF (wd : Int) (linesL wd k hs cs) = some (hs, cs)
  | 0, hs, cs, h1, h2, _ => by
    rw [Nat.zero_mul] at h1 h2
    rw [List.eq_nil_of_length_eq_zero h1, List.eq_nil_of_length_eq_zero h2]
    rfl
  | k + 1, hs, cs, h1, h2, hf => by
    rw [Nat.add_mul, Nat.one_mul] at h1 h2
    have f0 := hf 0 (by omega)
    have e0 : ∀ zs : List Int, prt wd 0 zs = zs.take wd := fun zs => by unfold prt; rw [Nat.zero_mul, List.drop_zero]
    rw [e0, e0] at f0
    have ih := rows_lines wd k (hs.drop wd) (cs.drop wd) (by rw [List.length_drop]; omega) (by rw [List.length_drop]; omega) (fun j hj => by rw [prt_drop, prt_drop]; exact hf (j + 1) (by omega))
    show rowsF (wd : Int) (rowL (hs.take wd) (cs.take wd) :: linesL wd k (hs.drop wd) (cs.drop wd)) = _
    unfold rowsF
    rw [rowF_mk row_no.2 (read_list f0.1) (read_list f0.2) (by rw [List.length_take]; omega) (by rw [List.length_take]; omega), ih]
    simp
/-- rows that are read were written -/
theorem lines_rows (wd : Nat) : ∀ (ls : List TX) (hs cs : List Int), rowsF (wd : Int) ls = some (hs, cs) → hs.length = ls.length * wd ∧ cs.length = ls.length * wd ∧ ls = linesL wd ls.length hs cs
  | [], hs, cs, h => by
    simp [rowsF] at h
    obtain ⟨rfl, rfl⟩ := h
    exact ⟨by simp, by simp, rfl⟩
  | l :: ls, hs, cs, h => by
    unfold rowsF at h
    cases hr : rowF (wd : Int) l with
    | none => rw [hr] at h; cases h
    | some r =>
      obtain ⟨x, y⟩ := r
      rw [hr] at h
      simp only at h
      cases hq : rowsF (wd : Int) ls with
      | none => rw [hq] at h; cases h
      | some q =>
        obtain ⟨X, Y⟩ := q
        rw [hq] at h
        simp only [Option.map_some, Option.some.injEq, Prod.mk.injEq] at h
        obtain ⟨rfl, rfl⟩ := h
        obtain ⟨hsp, ha, hb, hx, hy⟩ := rowF_yes hr
        obtain ⟨h1, h2, h3⟩ := lines_rows wd ls X Y hq
        have hx2 : x.length = wd := by omega
        have hy2 : y.length = wd := by omega
        refine ⟨by simp [h1, hx2, Nat.add_mul]; omega, by simp [h2, hy2, Nat.add_mul]; omega, ?_⟩
        show _ = rowL ((x ++ X).take wd) ((y ++ Y).take wd) :: linesL wd ls.length ((x ++ X).drop wd) ((y ++ Y).drop wd)
        rw [← hx2, List.take_left, List.drop_left, hx2, ← hy2, List.take_left, List.drop_left, hy2, ← h3]
        congr 1
        have hj := splF_join 32 l
        rw [hsp] at hj
        unfold rowL
        rw [(list_read ha).1, (list_read hb).1]
        exact hj.symm.trans (by rw [Lib.join_cons]; simp [Lib.joinTail])

/-- a terrain, plainly -/
structure Tr where
  s : Int
  wd : Int
  ht : Int
  hs : List Int
  cs : List Int
def okT (t : Tr) : Bool := terB t.s t.wd t.ht t.hs.length t.cs.length t.hs t.cs
def ttT (t : Tr) : TX := (ttR t.s t.wd t.ht t.hs.length t.cs.length t.hs t.cs).data.toList
/-- the reference's way to read a terrain -/
def refT (s : TX) : Option Tr :=
  if (splF 10 s).length < 2 ∨ 26 < (splF 10 s).length then none else
  if (splF 32 ((splF 10 s).getD 0 [])).length ≠ 4 ∨ (splF 32 ((splF 10 s).getD 0 [])).getD 0 [] ≠ ter8 ∨ (splF 10 s).getD ((splF 10 s).length - 1) [] ≠ [] then none else
  match numF ((splF 32 ((splF 10 s).getD 0 [])).getD 1 []), numF ((splF 32 ((splF 10 s).getD 0 [])).getD 2 []), numF ((splF 32 ((splF 10 s).getD 0 [])).getD 3 []) with
  | some a, some w, some h =>
    if sizeB a w h = true ∧ ((splF 10 s).length : Int) = h + 2 then
      match rowsF w (((splF 10 s).drop 1).take h.toNat) with
      | some r => if terB a w h r.1.length r.2.length r.1 r.2 = true then some ⟨a, w, h, r.1, r.2⟩ else none
      | none => none
    else none
  | _, _, _ => none
theorem refT_yes {s : TX} {t : Tr} (h : refT s = some t) : ∃ L H : List TX, splF 10 s = L ∧ 2 ≤ L.length ∧ L.length ≤ 26 ∧ splF 32 (L.getD 0 []) = H ∧ H.length = 4 ∧ H.getD 0 [] = ter8 ∧ L.getD (L.length - 1) [] = [] ∧
    numF (H.getD 1 []) = some t.s ∧ numF (H.getD 2 []) = some t.wd ∧ numF (H.getD 3 []) = some t.ht ∧ sizeB t.s t.wd t.ht = true ∧ (L.length : Int) = t.ht + 2 ∧ rowsF t.wd ((L.drop 1).take t.ht.toNat) = some (t.hs, t.cs) ∧ okT t = true := by
  unfold refT at h
  generalize splF 10 s = L at h
  refine ⟨L, splF 32 (L.getD 0 []), rfl, ?_⟩
  generalize splF 32 (L.getD 0 []) = H at h
  split at h
  · cases h
  next h1 =>
  split at h
  · cases h
  next h2 =>
  split at h
  next a w ht e1 e2 e3 =>
    split at h
    next h3 =>
      split at h
      next r hr =>
        split at h
        next h4 =>
          injection h with h
          subst h
          refine ⟨by omega, by omega, rfl, ?_, ?_, ?_, e1, e2, e3, h3.1, h3.2, hr, h4⟩
          · exact Classical.byContradiction fun e => h2 (.inl e)
          · exact Classical.byContradiction fun e => h2 (.inr (.inl e))
          · exact Classical.byContradiction fun e => h2 (.inr (.inr e))
        next => cases h
      next => cases h
    next => cases h
  next => cases h
theorem split_last {α : Type} {l : List α} (d : α) {k : Nat} (h : l.length = k + 2) : l = l.getD 0 d :: (((l.drop 1).take k) ++ [l.getD (l.length - 1) d]) := by
  cases l with
  | nil => simp at h
  | cons a l =>
    simp only [List.length_cons] at h
    have hl : l.length = k + 1 := by omega
    rw [List.length_cons, hl]
    simp only [List.getD_cons_zero, List.drop_one, List.tail_cons]
    congr 1
    have h1 : (a :: l).getD (k + 1 + 1 - 1) d = l.getD k d := by simp
    rw [h1]
    have h2 : l[k]? = some (l[k]'(by omega)) := List.getElem?_eq_getElem (by omega)
    rw [List.getD_eq_getElem?_getD, h2, Option.getD_some, ← List.take_succ_eq_append_getElem (by omega), List.take_of_length_le (by omega)]
/-- what the reference reads was written so -/
theorem ref_sound {s : TX} {t : Tr} (h : refT s = some t) : okT t = true ∧ ttT t = s := by
  obtain ⟨L, H, hL, h1, h2, hH, h3, h4, h5, n1, n2, n3, hz, hl, hr, ho⟩ := refT_yes h
  refine ⟨ho, ?_⟩
  have b := sizeB_yes hz
  obtain ⟨N, hN⟩ : ∃ N : Nat, t.ht = (N : Int) := ⟨t.ht.toNat, by omega⟩
  obtain ⟨W, hW⟩ : ∃ W : Nat, t.wd = (W : Int) := ⟨t.wd.toNat, by omega⟩
  have hh := hr
  rw [hN, hW, Int.toNat_natCast] at hh
  obtain ⟨l1, l2, l3⟩ := lines_rows W _ _ _ hh
  have hlen : L.length = N + 2 := by omega
  have hlt : ((L.drop 1).take N).length = N := by rw [List.length_take, List.length_drop]; omega
  rw [hlt] at l3
  have hs := split_last ([] : TX) hlen
  rw [h5, l3] at hs
  have hj := splF_join 10 s
  rw [hL, hs, ← List.cons_append, join_flat, List.append_nil] at hj
  have hhd : L.getD 0 [] = hdL t.s t.wd t.ht := by
    have hj2 := splF_join 32 (L.getD 0 [])
    rw [hH, four_of [] h3, h4, ← numF_itoa n1, ← numF_itoa n2, ← numF_itoa n3] at hj2
    exact hj2.symm
  have ht2 : ttT t = txtL t.s t.wd t.ht W N t.hs t.cs := by
    have ho' : terB t.s t.wd t.ht t.hs.length t.cs.length t.hs t.cs = true := ho
    unfold ttT
    rw [ttR_yes ho', ter_list]
    congr 1 <;> omega
  rw [ht2, ← hj, hhd]
  rfl
/-- what is written is read by the reference -/
theorem ref_full {t : Tr} (ho : okT t = true) : refT (ttT t) = some t := by
  have ho' : terB t.s t.wd t.ht t.hs.length t.cs.length t.hs t.cs = true := ho
  obtain ⟨hz, hn, hm, ha, hc⟩ := ter_yes ho'
  have b := sizeB_yes hz
  obtain ⟨N, hN⟩ : ∃ N : Nat, t.ht = (N : Int) := ⟨t.ht.toNat, by omega⟩
  obtain ⟨W, hW⟩ : ∃ W : Nat, t.wd = (W : Int) := ⟨t.wd.toNat, by omega⟩
  have ht2 : ttT t = txtL t.s t.wd t.ht W N t.hs t.cs := by
    unfold ttT
    rw [ttR_yes ho', ter_list]
    congr 1 <;> omega
  have hn2 : t.hs.length = N * W := by rw [hW, hN, ← Int.natCast_mul, Nat.mul_comm] at hn; omega
  have hrows := rows_lines W N t.hs t.cs hn2 (by omega) (fun j hj => by
    have hle : (j + 1) * W ≤ t.hs.length := by rw [hn2]; exact Nat.mul_le_mul_right _ hj
    exact ⟨part_fit rfl hle (by omega) ha (by omega) (by omega), part_fit rfl (by omega) (by omega) hc (by omega) (by omega)⟩)
  have hll := lines_len W N t.hs t.cs
  unfold refT
  rw [ht2, txt_lines]
  generalize linesL W N t.hs t.cs = ls at hrows hll
  have g0 : (hdL t.s t.wd t.ht :: (ls ++ [[]])).length = N + 2 := by simp [hll]
  have g1 : (hdL t.s t.wd t.ht :: (ls ++ [[]])).getD 0 [] = hdL t.s t.wd t.ht := rfl
  have g2 : (hdL t.s t.wd t.ht :: (ls ++ [[]])).getD (N + 2 - 1) [] = [] := by
    show (hdL t.s t.wd t.ht :: (ls ++ [[]])).getD (N + 1) [] = []
    simp [List.getD, hll]
  have g3 : ((hdL t.s t.wd t.ht :: (ls ++ [[]])).drop 1).take N = ls := by
    show (ls ++ [[]]).take N = ls
    rw [← hll, List.take_left]
  rw [g0, g1, g2, (hd_no _ _ _).2]
  have i1 := itoa_num (n := t.s) (by omega)
  have i2 := itoa_num (n := t.wd) (by omega)
  have i3 := itoa_num (n := t.ht) (by omega)
  rw [if_neg (by omega), if_neg (by simp)]
  show (match numF (Lib.itoa t.s), numF (Lib.itoa t.wd), numF (Lib.itoa t.ht) with | some a, some w, some h => _ | _, _, _ => none) = _
  rw [i1, i2, i3]
  simp only
  rw [if_pos ⟨hz, by omega⟩, show t.ht.toNat = N by omega, g3, hW, hrows]
  simp only
  rw [← hW, if_pos ho']

/-- the program's way: the numbers of a line -/
def hsF (l : TX) : List Int := (readF (Lib.cut l [32]).1).getD []
def csF (l : TX) : List Int := (readF (Lib.cut l [32]).2.1).getD []
/-- the program's reading -/
def proT (s : TX) : Option Tr :=
  if (splF 32 ((Lib.splitN s [10] 26).getD 0 [])).length ≠ 4 then none else
    some ⟨(numF ((splF 32 ((Lib.splitN s [10] 26).getD 0 [])).getD 1 [])).getD 0, (numF ((splF 32 ((Lib.splitN s [10] 26).getD 0 [])).getD 2 [])).getD 0, (numF ((splF 32 ((Lib.splitN s [10] 26).getD 0 [])).getD 3 [])).getD 0, ((Lib.splitN s [10] 26).drop 1).flatMap hsF, ((Lib.splitN s [10] 26).drop 1).flatMap csF⟩
theorem cut_two {l a b : TX} (h : splF 32 l = [a, b]) : Lib.cut l [32] = (a, b, true) := by
  rcases splF_cases 32 l with hn | ⟨p, r, rfl, hp⟩
  · rw [splF_none 32 l hn] at h
    cases h
  · rw [splF_hit 32 p r hp] at h
    injection h with e1 e2
    subst e1
    have hr : r = b := by
      have := splF_join 32 r
      rw [e2, Lib.join_one] at this
      exact this.symm
    subst hr
    unfold Lib.cut
    rw [index_hit 32 p r hp, if_pos (by omega)]
    simp
theorem cut_nil : Lib.cut [] [32] = ([], [], false) := by decide
theorem rows_flat (wd : Int) : ∀ (ls : List TX) (hs cs : List Int), rowsF wd ls = some (hs, cs) → ls.flatMap hsF = hs ∧ ls.flatMap csF = cs
  | [], hs, cs, h => by
    simp [rowsF] at h
    obtain ⟨rfl, rfl⟩ := h
    exact ⟨rfl, rfl⟩
  | l :: ls, hs, cs, h => by
    unfold rowsF at h
    cases hr : rowF wd l with
    | none => rw [hr] at h; cases h
    | some r =>
      obtain ⟨x, y⟩ := r
      rw [hr] at h
      simp only at h
      cases hq : rowsF wd ls with
      | none => rw [hq] at h; cases h
      | some q =>
        obtain ⟨X, Y⟩ := q
        rw [hq] at h
        simp only [Option.map_some, Option.some.injEq, Prod.mk.injEq] at h
        obtain ⟨rfl, rfl⟩ := h
        obtain ⟨hsp, ha, hb, _, _⟩ := rowF_yes hr
        obtain ⟨h1, h2⟩ := rows_flat wd ls X Y hq
        have hc := cut_two hsp
        rw [List.flatMap_cons, List.flatMap_cons, h1, h2]
        unfold hsF csF
        rw [hc, ha, hb]
        exact ⟨rfl, rfl⟩
theorem ref_pro {s : TX} {t : Tr} (h : refT s = some t) : proT s = some t := by
  obtain ⟨L, H, hL, h1, h2, hH, h3, h4, h5, n1, n2, n3, hz, hl, hr, ho⟩ := refT_yes h
  have b := sizeB_yes hz
  obtain ⟨N, hN⟩ : ∃ N : Nat, t.ht = (N : Int) := ⟨t.ht.toNat, by omega⟩
  have hs : Lib.splitN s [10] 26 = L := by
    rw [← hL]
    unfold Lib.splitN
    have hcl := List.count_le_length (a := (10 : UInt8)) (l := s)
    have hc := splF_count 10 s
    rw [hL] at hc
    exact splitK_all 10 _ _ (by omega)
  unfold proT
  rw [hs, hH, if_neg (by omega), n1, n2, n3]
  rw [hN, Int.toNat_natCast] at hr
  obtain ⟨f1, f2⟩ := rows_flat t.wd _ _ _ hr
  have hd : L.drop 1 = (L.drop 1).take N ++ [[]] := by
    have := split_last ([] : TX) (show L.length = N + 2 by omega)
    rw [h5] at this
    conv => lhs; rw [this]
    rfl
  rw [hd, List.flatMap_append, List.flatMap_append, f1, f2]
  have z1 : ([[]] : List TX).flatMap hsF = [] := by
    show hsF [] ++ [] = []
    unfold hsF
    rw [cut_nil]
    rfl
  have z2 : ([[]] : List TX).flatMap csF = [] := by
    show csF [] ++ [] = []
    unfold csF
    rw [cut_nil]
    rfl
  rw [z1, z2, List.append_nil, List.append_nil]
  rfl
theorem ttT_no {t : Tr} (h : okT t = false) : ttT t = [] := by
  unfold ttT
  rw [ttR_no h]
/-- the program's answer is the reference's -/
theorem pro_none {s : TX} (h : proT s = none) : refT s = none := by
  cases hr : refT s with
  | none => rfl
  | some t => rw [ref_pro hr] at h; cases h
theorem pro_some {s : TX} {t : Tr} (h : proT s = some t) : refT s = if ttT t = s ∧ s ≠ [] then some t else none := by
  cases hr : refT s with
  | none =>
    rw [if_neg]
    rintro ⟨e1, e2⟩
    cases ho : okT t
    · rw [ttT_no ho] at e1; exact e2 e1.symm
    · have := ref_full ho
      rw [e1, hr] at this
      cases this
  | some u =>
    rw [ref_pro hr] at h
    injection h with h
    subst h
    have hs := (ref_sound hr).2
    rw [if_pos]
    refine ⟨hs, ?_⟩
    rintro rfl
    rw [show refT [] = none by rfl] at hr
    cases hr

end Go.Proofs.YtemjjjjkokfjdaaDoor.PlainRu
