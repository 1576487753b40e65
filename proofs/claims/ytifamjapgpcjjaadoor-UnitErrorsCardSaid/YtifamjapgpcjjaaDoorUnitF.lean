/- unit.Parse, walked. -/
import Derived.Test.YtifamjapgpcjjaaDoorUnitE
import Derived.Deep.LoopGhost
namespace Go.Proofs.YtifamjapgpcjjaaDoor.Ext
open Go Go.Proofs Go.RowKit Go.Proofs.YtifamjapgpcjjaaDoorW.PrintWords
set_option linter.unusedVariables false
set_option linter.unusedSimpArgs false

/-- what one factor does to the exponents -/
structure Exps where
  a : Int
  b : Int
  c : Int
/-- what a factor sets, if it sets something -/
def facK (x : List UInt8) : Option Int := if (Lib.cut x [94]).2.2 then (match atoiN (Lib.cut x [94]).2.1 with | .ok v => some v | .bad _ => none) else some 1
def stepP (e : Exps) (x : List UInt8) : Exps := match facK x with
  | none => e
  | some k => if (Lib.cut x [94]).1 = sCounts.data.toList then { e with a := k } else if (Lib.cut x [94]).1 = sElectrons.data.toList then { e with b := k } else if (Lib.cut x [94]).1 = sSeconds.data.toList then { e with c := k } else e
def foldP (xs : List (List UInt8)) (k : Nat) : Exps := (xs.take k).foldl stepP ⟨0, 0, 0⟩
theorem fieldsGoD_len : ∀ (f : Nat) (cur l : List UInt8), (Lib.fieldsGoD f cur l).length ≤ f + 1
  | 0, cur, l => by unfold Lib.fieldsGoD; split <;> simp
  | f + 1, cur, l => by
    unfold Lib.fieldsGoD
    split
    · split <;> simp
    · split
      · have := fieldsGoD_len f [] (l.drop (Lib.decodeL l).2)
        split <;> (simp; try omega)
      · exact Nat.le_trans (fieldsGoD_len f _ _) (by omega)
theorem fieldsGoD_mem : ∀ (f : Nat) (cur l : List UInt8), ∀ x ∈ Lib.fieldsGoD f cur l, x.length ≤ cur.length + l.length
  | 0, cur, l, x, h => by
    unfold Lib.fieldsGoD at h
    split at h <;> simp at h
    subst h; omega
  | f + 1, cur, l, x, h => by
    unfold Lib.fieldsGoD at h
    split at h
    · split at h <;> simp at h
      subst h; omega
    · split at h
      · rcases List.mem_append.1 h with h | h
        · split at h <;> simp at h
          subst h; omega
        · have := fieldsGoD_mem f _ _ x h
          simp at this; omega
      · have := fieldsGoD_mem f _ _ x h
        simp only [List.length_append, List.length_take, List.length_drop] at this
        omega
theorem fieldsD_len (l : List UInt8) : (Lib.fieldsD l).length ≤ l.length + 2 := fieldsGoD_len _ _ _
theorem fieldsD_mem (l x : List UInt8) (h : x ∈ Lib.fieldsD l) : x.length ≤ l.length := by simpa using fieldsGoD_mem _ _ _ x h
theorem cut_len (x : List UInt8) : (Lib.cut x [94]).1.length ≤ x.length ∧ (Lib.cut x [94]).2.1.length ≤ x.length := by
  unfold Lib.cut
  split <;> simp <;> omega
theorem foldP_succ {xs : List (List UInt8)} {k : Nat} {x : List UInt8} (h : xs[k]? = some x) : foldP xs (k + 1) = stepP (foldP xs k) x := by
  unfold foldP
  rw [List.take_add_one, h, List.foldl_append]
  rfl
theorem cutP (x nm pw : List UInt8) (has : Bool) (h : Lib.cut x [94] = (nm, pw, has)) (hx : x.length ≤ 200) (w : World) (hT : Tabs w) :
    Calls Tryd.prog 28 #[.string ⟨x.toArray⟩, .string ⟨#[94]⟩] w fun e w' => e = .returned (.tuple #[.string ⟨nm.toArray⟩, .string ⟨pw.toArray⟩, .bool has]) ∧ ∃ n, w' = w.drewN n := by
  refine (cut_any ⟨x.toArray⟩ ⟨#[94]⟩ (by simp [ByteArray.size]; omega) w hT).mono ?_
  rintro e w' ⟨rfl, ⟨⟨n, rfl⟩⟩⟩
  refine ⟨?_, n, rfl⟩
  rw [show (⟨x.toArray⟩ : ByteArray).data.toList = x from by simp, show (⟨#[94]⟩ : ByteArray).data.toList = [94] from rfl, h]
theorem atoiP_ok (pw : List UInt8) (v : Int) (h : atoiN pw = .ok v) (hp : pw.length ≤ 200) (w : World) :
    Calls Tryd.prog 29 #[.string ⟨pw.toArray⟩] w fun e w' => e = .returned (.tuple #[.int .i64 v, .nilIface]) ∧ Below w.heap.size w w' :=
  atoi_ok ⟨pw.toArray⟩ (by simp [ByteArray.size]; omega) v (by simpa using h) w
theorem atoiP_bad (pw : List UInt8) (v : Int) (h : atoiN pw = .bad v) (hp : pw.length ≤ 200) (w : World) (hT : Tabs w) :
    Calls Tryd.prog 29 #[.string ⟨pw.toArray⟩] w fun e w' => ∃ N, e = .returned (.tuple #[.int .i64 v, .iface 80 (.pointer (some ⟨N, 0, none⟩))]) ∧ Below w.heap.size w w' :=
  atoi_bad ⟨pw.toArray⟩ (by simp [ByteArray.size]; omega) v (by simpa using h) w hT
def CellsAt (w : World) (A : Nat) (xs : List (List UInt8)) : Prop := ∀ (j : Nat) x, xs[j]? = some x → w.cell? ⟨A, j, none⟩ = some (.string ⟨x.toArray⟩)
theorem CellsAt.below {w w' : World} {A : Nat} {xs : List (List UInt8)} (h : CellsAt w A xs) (hb : Below w.heap.size w w') : CellsAt w' A xs := fun j x hx => cell_on' hb (h j x hx)
theorem CellsAt.set {w : World} {A N i : Nat} {xs : List (List UInt8)} (h : CellsAt w A xs) (hne : A ≠ N) (v : Value) : CellsAt (w.setCell ⟨N, i, none⟩ v) A xs := fun j x hx => by
  have hs : (w.setCell ⟨N, i, none⟩ v).heap[A]? = w.heap[A]? := Below.heap_setCell _ _ _ _ hne
  rw [World.cell?_of_block (a := ⟨A, j, none⟩) hs]
  exact h j x hx
theorem nameCases (nm : List UInt8) : (sCounts.toList = nm ∧ ¬ sElectrons.toList = nm ∧ ¬ sSeconds.toList = nm) ∨ (¬ sCounts.toList = nm ∧ sElectrons.toList = nm ∧ ¬ sSeconds.toList = nm) ∨ (¬ sCounts.toList = nm ∧ ¬ sElectrons.toList = nm ∧ sSeconds.toList = nm) ∨ (¬ sCounts.toList = nm ∧ ¬ sElectrons.toList = nm ∧ ¬ sSeconds.toList = nm) := by
  by_cases h0 : sCounts.toList = nm
  · subst h0
    exact Or.inl ⟨rfl, by decide +kernel, by decide +kernel⟩
  by_cases h1 : sElectrons.toList = nm
  · subst h1
    exact Or.inr (Or.inl ⟨h0, rfl, by decide +kernel⟩)
  by_cases h2 : sSeconds.toList = nm
  · exact Or.inr (Or.inr (Or.inl ⟨h0, h1, h2⟩))
  · exact Or.inr (Or.inr (Or.inr ⟨h0, h1, h2⟩))
theorem sC_list : sCounts.data.toList = sCounts.toList := by decide +kernel
theorem sE_list : sElectrons.data.toList = sElectrons.toList := by decide +kernel
theorem sS_list : sSeconds.data.toList = sSeconds.toList := by decide +kernel
theorem stepP_eq (e : Exps) (x nm pw : List UInt8) (has : Bool) (h : Lib.cut x [94] = (nm, pw, has)) :
    stepP e x = match (if has then (match atoiN pw with | .ok v => some v | .bad _ => none) else some 1) with
      | none => e
      | some k => if sCounts.toList = nm then { e with a := k } else if sElectrons.toList = nm then { e with b := k } else if sSeconds.toList = nm then { e with c := k } else e := by
  unfold stepP facK
  rw [h, sC_list, sE_list, sS_list]
  simp only [eq_comm]
theorem toList_inj' {a b : ByteArray} (h : a.toList = b.toList) : a = b := by
  rw [ByteArray.toList_eq, ByteArray.toList_eq] at h
  exact ByteArray.ext (Array.toList_inj.1 h)
/-- what Parse answers -/
def parseR (s : ByteArray) : Int × Int × Int × Int :=
  let e := foldP (Lib.fieldsD s.data.toList) (Lib.fieldsD s.data.toList).length
  if okU e.a e.b e.c ∧ textS e.a e.b e.c = s then (e.a, e.b, e.c, 0) else (0, 0, 0, 5)
theorem resQ {tmps : Array Value} {W : World} {R : Nat} {p q r v : Value} (h4 : tmps[2]? = some (.pointer (some ⟨R, 0, none⟩))) (h5 : tmps[3]? = some v) (h : W.heap[R]? = some (.cells #[p, q, r] 23 (0, 0))) :
    (results Tryd.f15 tmps).run Tryd.prog W = .ok (.tuple #[.agg #[p, q, r], v]) W := by
  have c0 := blk_cell h 0
  have c1 := blk_cell h 1
  have c2 := blk_cell h 2
  simp [results, Tryd.f15, go_sem, h4, h5, c0, c1, c2]

set_option maxRecDepth 100000 in
set_option maxHeartbeats 4000000 in
theorem parse_any (s : ByteArray) (hs : s.size ≤ 200) (w : World) (hT : Tabs w) :
    Calls Tryd.prog 15 #[.string s] w fun e w' => e = .returned (.tuple #[.agg #[.int .i64 (parseR s).1, .int .i64 (parseR s).2.1, .int .i64 (parseR s).2.2.1], .int .i64 (parseR s).2.2.2]) ∧ Below w.heap.size w w' := by
  have HT := Lib.hid hT
  clear hT
  go_enter Tryd.func15, Tryd.ntmps15
  go_wp2_with fail
  refine (fields_any s (by omega) _ ((HT.out.alloc _).alloc _)).mono ?_
  rintro e w1 ⟨A, rfl, hA, hcells, hAl, hb1⟩
  have hxl : (Lib.fieldsD s.data.toList).length ≤ 202 := by have := fieldsD_len s.data.toList; have e1 : s.data.toList.length = s.size := rfl; omega
  have hxm : ∀ x ∈ Lib.fieldsD s.data.toList, x.length ≤ 200 := fun x hx => by have := fieldsD_mem _ _ hx; have e1 : s.data.toList.length = s.size := rfl; omega
  obtain ⟨xs, hxs⟩ : ∃ xs, Lib.fieldsD s.data.toList = xs := ⟨_, rfl⟩
  rw [hxs] at hcells hxl hxm ⊢
  have h2 := alloc2_blk w (.cells #[.int .i64 0, .int .i64 0, .int .i64 0] 23) (.cells #[.int .i64 0, .int .i64 0, .int .i64 0] 40)
  have KR := blk_below h2.1 hb1
  have KN := blk_below h2.2 hb1
  have HB : Hid (Below w.heap.size w w1) := below_step (((Below.refl _ _).alloc (Nat.le_refl _) _).alloc (by simp) _) hb1
  simp only [World.size_alloc] at hA
  replace hcells : Hid (CellsAt w1 A xs) := Lib.hid hcells
  replace KR := Lib.hid KR
  replace KN := Lib.hid KN
  replace hxm := Lib.hid hxm
  replace hxs := Lib.hid hxs
  clear h2 hb1
  go_wp2_with fail
  go_loopw [20] (fun i wr => ∃ k : Nat, k ≤ xs.length ∧ i = .int .i64 k ∧ Hid ((wr.heap[w.heap.size]? = some (.cells #[.int .i64 0, .int .i64 0, .int .i64 0] 23 (0, 0))) ∧ (wr.heap[w.heap.size + 1]? = some (.cells #[.int .i64 (foldP xs k).a, .int .i64 (foldP xs k).b, .int .i64 (foldP xs k).c] 40 (0, 0)))) ∧ Hid (CellsAt wr A xs) ∧ A < wr.heap.size ∧ Hid (Below w.heap.size w wr)) (fun i _ => xs.length - (intOf i).toNat)
  case atStart => exact ⟨0, Nat.zero_le _, rfl, Lib.hid ⟨KR.out, KN.out⟩, hcells, hAl, HB⟩
  case round =>
    clear hcells KR KN HB
    obtain ⟨k, hk, rfl, hKK, hcells, hAw, HB⟩ := hrel
    have hsize : w.heap.size + 1 < wr.heap.size := blk_lt hKK.out.2
    rcases Nat.lt_or_ge k xs.length with hlt | hge
    · obtain ⟨x, hx⟩ : ∃ x, xs[k]? = some x := ⟨xs[k], List.getElem?_eq_getElem hlt⟩
      have hx200 := hxm.out x (List.mem_of_getElem? hx)
      have hcx := hcells.out k x hx
      replace hx := Lib.hid hx
      go_wp2_with fail
      obtain ⟨nm, pw, has, hcut⟩ : ∃ nm pw has, Lib.cut x [94] = (nm, pw, has) := ⟨_, _, _, rfl⟩
      have hpl : pw.length ≤ 200 := by have := (cut_len x).2; rw [hcut] at this; exact Nat.le_trans this hx200
      refine (cutP x nm pw has hcut hx200 wr (HT.out.below HB.out)).mono ?_
      replace hcut := Lib.hid hcut
      rintro e w2 ⟨rfl, nd, rfl⟩
      cases has with
      | true =>
        cases hat : atoiN pw with
        | ok v =>
        go_wp2_with fail
        refine (atoiP_ok pw v hat hpl _).mono ?_
        rintro e w3 ⟨rfl, hb3⟩
        have KR := Lib.hid (blk_below (w := wr.drewN nd) hKK.out.1 hb3)
        have KN := Lib.hid (blk_below (w := wr.drewN nd) hKK.out.2 hb3)
        have cN_0 := blk_cell KN.out 0
        have fN_0 := blk_frozen KN.out 0
        have cN_1 := blk_cell KN.out 1
        have fN_1 := blk_frozen KN.out 1
        have cN_2 := blk_cell KN.out 2
        have fN_2 := blk_frozen KN.out 2
        obtain ⟨n0, n1, n2⟩ := ((HT.out.below HB.out).drewN nd |>.below hb3).names
        have hlt3 := blk_lt KN.out
        have hA3 : A < w3.heap.size := Nat.lt_of_lt_of_le hAw hb3.size
        have hneA : A ≠ w.heap.size + 1 := by omega
        have hcells3 : Hid (CellsAt w3 A xs) := Lib.hid (CellsAt.below (w := wr.drewN nd) hcells.out hb3)
        have HB3 : Hid (Below w.heap.size w w3) := below_step (bdr HB.out nd) hb3
        clear hb3
        rcases nameCases nm with ⟨q0, q1, q2⟩ | ⟨q0, q1, q2⟩ | ⟨q0, q1, q2⟩ | ⟨q0, q1, q2⟩
        · go_wp2_with fail
          refine wp_loop_rounds 4 ?_
          rw [rounds_succ]
          go_wp2_with fail
          rw [rounds_succ]
          go_wp2_with fail
          rw [rounds_succ]
          go_wp2_with fail
          rw [rounds_succ]
          go_wp2_with fail
          have hst : foldP xs (k + 1) = ⟨v, (foldP xs k).b, (foldP xs k).c⟩ := by rw [foldP_succ hx.out, stepP_eq _ _ _ _ _ hcut.out]; simp [hat, q0, q1, q2]
          exact ⟨⟨k + 1, by omega, by go_num, Lib.hid ⟨blk_far KR.out (Nat.ne_of_lt (Nat.lt_succ_self _)) _, by rw [hst]; exact blk_put KN.out 0 _ rfl⟩, Lib.hid (hcells3.out.set hneA _), by simpa using hA3, Lib.hid (below_set HB3.out (by simp))⟩, by simp [intOf]; omega⟩
        · go_wp2_with fail
          refine wp_loop_rounds 4 ?_
          rw [rounds_succ]
          go_wp2_with fail
          rw [rounds_succ]
          go_wp2_with fail
          rw [rounds_succ]
          go_wp2_with fail
          rw [rounds_succ]
          go_wp2_with fail
          have hst : foldP xs (k + 1) = ⟨(foldP xs k).a, v, (foldP xs k).c⟩ := by rw [foldP_succ hx.out, stepP_eq _ _ _ _ _ hcut.out]; simp [hat, q0, q1, q2]
          exact ⟨⟨k + 1, by omega, by go_num, Lib.hid ⟨blk_far KR.out (Nat.ne_of_lt (Nat.lt_succ_self _)) _, by rw [hst]; exact blk_put KN.out 1 _ rfl⟩, Lib.hid (hcells3.out.set hneA _), by simpa using hA3, Lib.hid (below_set HB3.out (by simp))⟩, by simp [intOf]; omega⟩
        · go_wp2_with fail
          refine wp_loop_rounds 4 ?_
          rw [rounds_succ]
          go_wp2_with fail
          rw [rounds_succ]
          go_wp2_with fail
          rw [rounds_succ]
          go_wp2_with fail
          rw [rounds_succ]
          go_wp2_with fail
          have hst : foldP xs (k + 1) = ⟨(foldP xs k).a, (foldP xs k).b, v⟩ := by rw [foldP_succ hx.out, stepP_eq _ _ _ _ _ hcut.out]; simp [hat, q0, q1, q2]
          exact ⟨⟨k + 1, by omega, by go_num, Lib.hid ⟨blk_far KR.out (Nat.ne_of_lt (Nat.lt_succ_self _)) _, by rw [hst]; exact blk_put KN.out 2 _ rfl⟩, Lib.hid (hcells3.out.set hneA _), by simpa using hA3, Lib.hid (below_set HB3.out (by simp))⟩, by simp [intOf]; omega⟩
        · go_wp2_with fail
          refine wp_loop_rounds 4 ?_
          rw [rounds_succ]
          go_wp2_with fail
          rw [rounds_succ]
          go_wp2_with fail
          rw [rounds_succ]
          go_wp2_with fail
          rw [rounds_succ]
          go_wp2_with fail
          have hst : foldP xs (k + 1) = ⟨(foldP xs k).a, (foldP xs k).b, (foldP xs k).c⟩ := by rw [foldP_succ hx.out, stepP_eq _ _ _ _ _ hcut.out]; simp [hat, q0, q1, q2]
          exact ⟨⟨k + 1, by omega, by go_num, Lib.hid ⟨KR.out, by rw [hst]; exact KN.out⟩, hcells3, hA3, HB3⟩, by simp [intOf]; omega⟩
        | bad v =>
        go_wp2_with fail
        refine (atoiP_bad pw v hat hpl _ ((HT.out.below HB.out).drewN nd)).mono ?_
        rintro e w3 ⟨N, rfl, hb3⟩
        have KR := Lib.hid (blk_below (w := wr.drewN nd) hKK.out.1 hb3)
        have KN := Lib.hid (blk_below (w := wr.drewN nd) hKK.out.2 hb3)
        have cN_0 := blk_cell KN.out 0
        have fN_0 := blk_frozen KN.out 0
        have cN_1 := blk_cell KN.out 1
        have fN_1 := blk_frozen KN.out 1
        have cN_2 := blk_cell KN.out 2
        have fN_2 := blk_frozen KN.out 2
        obtain ⟨n0, n1, n2⟩ := ((HT.out.below HB.out).drewN nd |>.below hb3).names
        have hlt3 := blk_lt KN.out
        have hA3 : A < w3.heap.size := Nat.lt_of_lt_of_le hAw hb3.size
        have hneA : A ≠ w.heap.size + 1 := by omega
        have hcells3 : Hid (CellsAt w3 A xs) := Lib.hid (CellsAt.below (w := wr.drewN nd) hcells.out hb3)
        have HB3 : Hid (Below w.heap.size w w3) := below_step (bdr HB.out nd) hb3
        clear hb3
        rcases nameCases nm with ⟨q0, q1, q2⟩ | ⟨q0, q1, q2⟩ | ⟨q0, q1, q2⟩ | ⟨q0, q1, q2⟩
        · go_wp2_with fail
          refine wp_loop_rounds 4 ?_
          rw [rounds_succ]
          go_wp2_with fail
          rw [rounds_succ]
          go_wp2_with fail
          rw [rounds_succ]
          go_wp2_with fail
          rw [rounds_succ]
          go_wp2_with fail
          have hst : foldP xs (k + 1) = ⟨(foldP xs k).a, (foldP xs k).b, (foldP xs k).c⟩ := by rw [foldP_succ hx.out, stepP_eq _ _ _ _ _ hcut.out]; simp [hat, q0, q1, q2]
          exact ⟨⟨k + 1, by omega, by go_num, Lib.hid ⟨KR.out, by rw [hst]; exact KN.out⟩, hcells3, hA3, HB3⟩, by simp [intOf]; omega⟩
        · go_wp2_with fail
          refine wp_loop_rounds 4 ?_
          rw [rounds_succ]
          go_wp2_with fail
          rw [rounds_succ]
          go_wp2_with fail
          rw [rounds_succ]
          go_wp2_with fail
          rw [rounds_succ]
          go_wp2_with fail
          have hst : foldP xs (k + 1) = ⟨(foldP xs k).a, (foldP xs k).b, (foldP xs k).c⟩ := by rw [foldP_succ hx.out, stepP_eq _ _ _ _ _ hcut.out]; simp [hat, q0, q1, q2]
          exact ⟨⟨k + 1, by omega, by go_num, Lib.hid ⟨KR.out, by rw [hst]; exact KN.out⟩, hcells3, hA3, HB3⟩, by simp [intOf]; omega⟩
        · go_wp2_with fail
          refine wp_loop_rounds 4 ?_
          rw [rounds_succ]
          go_wp2_with fail
          rw [rounds_succ]
          go_wp2_with fail
          rw [rounds_succ]
          go_wp2_with fail
          rw [rounds_succ]
          go_wp2_with fail
          have hst : foldP xs (k + 1) = ⟨(foldP xs k).a, (foldP xs k).b, (foldP xs k).c⟩ := by rw [foldP_succ hx.out, stepP_eq _ _ _ _ _ hcut.out]; simp [hat, q0, q1, q2]
          exact ⟨⟨k + 1, by omega, by go_num, Lib.hid ⟨KR.out, by rw [hst]; exact KN.out⟩, hcells3, hA3, HB3⟩, by simp [intOf]; omega⟩
        · go_wp2_with fail
          refine wp_loop_rounds 4 ?_
          rw [rounds_succ]
          go_wp2_with fail
          rw [rounds_succ]
          go_wp2_with fail
          rw [rounds_succ]
          go_wp2_with fail
          rw [rounds_succ]
          go_wp2_with fail
          have hst : foldP xs (k + 1) = ⟨(foldP xs k).a, (foldP xs k).b, (foldP xs k).c⟩ := by rw [foldP_succ hx.out, stepP_eq _ _ _ _ _ hcut.out]; simp [hat, q0, q1, q2]
          exact ⟨⟨k + 1, by omega, by go_num, Lib.hid ⟨KR.out, by rw [hst]; exact KN.out⟩, hcells3, hA3, HB3⟩, by simp [intOf]; omega⟩
      | false =>
        cases hat : atoiN pw with
        | ok v =>
        go_wp2_with fail
        refine (atoiP_ok pw v hat hpl _).mono ?_
        rintro e w3 ⟨rfl, hb3⟩
        have KR := Lib.hid (blk_below (w := wr.drewN nd) hKK.out.1 hb3)
        have KN := Lib.hid (blk_below (w := wr.drewN nd) hKK.out.2 hb3)
        have cN_0 := blk_cell KN.out 0
        have fN_0 := blk_frozen KN.out 0
        have cN_1 := blk_cell KN.out 1
        have fN_1 := blk_frozen KN.out 1
        have cN_2 := blk_cell KN.out 2
        have fN_2 := blk_frozen KN.out 2
        obtain ⟨n0, n1, n2⟩ := ((HT.out.below HB.out).drewN nd |>.below hb3).names
        have hlt3 := blk_lt KN.out
        have hA3 : A < w3.heap.size := Nat.lt_of_lt_of_le hAw hb3.size
        have hneA : A ≠ w.heap.size + 1 := by omega
        have hcells3 : Hid (CellsAt w3 A xs) := Lib.hid (CellsAt.below (w := wr.drewN nd) hcells.out hb3)
        have HB3 : Hid (Below w.heap.size w w3) := below_step (bdr HB.out nd) hb3
        clear hb3
        rcases nameCases nm with ⟨q0, q1, q2⟩ | ⟨q0, q1, q2⟩ | ⟨q0, q1, q2⟩ | ⟨q0, q1, q2⟩
        · go_wp2_with fail
          refine wp_loop_rounds 4 ?_
          rw [rounds_succ]
          go_wp2_with fail
          rw [rounds_succ]
          go_wp2_with fail
          rw [rounds_succ]
          go_wp2_with fail
          rw [rounds_succ]
          go_wp2_with fail
          have hst : foldP xs (k + 1) = ⟨1, (foldP xs k).b, (foldP xs k).c⟩ := by rw [foldP_succ hx.out, stepP_eq _ _ _ _ _ hcut.out]; simp [hat, q0, q1, q2]
          exact ⟨⟨k + 1, by omega, by go_num, Lib.hid ⟨blk_far KR.out (Nat.ne_of_lt (Nat.lt_succ_self _)) _, by rw [hst]; exact blk_put KN.out 0 _ rfl⟩, Lib.hid (hcells3.out.set hneA _), by simpa using hA3, Lib.hid (below_set HB3.out (by simp))⟩, by simp [intOf]; omega⟩
        · go_wp2_with fail
          refine wp_loop_rounds 4 ?_
          rw [rounds_succ]
          go_wp2_with fail
          rw [rounds_succ]
          go_wp2_with fail
          rw [rounds_succ]
          go_wp2_with fail
          rw [rounds_succ]
          go_wp2_with fail
          have hst : foldP xs (k + 1) = ⟨(foldP xs k).a, 1, (foldP xs k).c⟩ := by rw [foldP_succ hx.out, stepP_eq _ _ _ _ _ hcut.out]; simp [hat, q0, q1, q2]
          exact ⟨⟨k + 1, by omega, by go_num, Lib.hid ⟨blk_far KR.out (Nat.ne_of_lt (Nat.lt_succ_self _)) _, by rw [hst]; exact blk_put KN.out 1 _ rfl⟩, Lib.hid (hcells3.out.set hneA _), by simpa using hA3, Lib.hid (below_set HB3.out (by simp))⟩, by simp [intOf]; omega⟩
        · go_wp2_with fail
          refine wp_loop_rounds 4 ?_
          rw [rounds_succ]
          go_wp2_with fail
          rw [rounds_succ]
          go_wp2_with fail
          rw [rounds_succ]
          go_wp2_with fail
          rw [rounds_succ]
          go_wp2_with fail
          have hst : foldP xs (k + 1) = ⟨(foldP xs k).a, (foldP xs k).b, 1⟩ := by rw [foldP_succ hx.out, stepP_eq _ _ _ _ _ hcut.out]; simp [hat, q0, q1, q2]
          exact ⟨⟨k + 1, by omega, by go_num, Lib.hid ⟨blk_far KR.out (Nat.ne_of_lt (Nat.lt_succ_self _)) _, by rw [hst]; exact blk_put KN.out 2 _ rfl⟩, Lib.hid (hcells3.out.set hneA _), by simpa using hA3, Lib.hid (below_set HB3.out (by simp))⟩, by simp [intOf]; omega⟩
        · go_wp2_with fail
          refine wp_loop_rounds 4 ?_
          rw [rounds_succ]
          go_wp2_with fail
          rw [rounds_succ]
          go_wp2_with fail
          rw [rounds_succ]
          go_wp2_with fail
          rw [rounds_succ]
          go_wp2_with fail
          have hst : foldP xs (k + 1) = ⟨(foldP xs k).a, (foldP xs k).b, (foldP xs k).c⟩ := by rw [foldP_succ hx.out, stepP_eq _ _ _ _ _ hcut.out]; simp [hat, q0, q1, q2]
          exact ⟨⟨k + 1, by omega, by go_num, Lib.hid ⟨KR.out, by rw [hst]; exact KN.out⟩, hcells3, hA3, HB3⟩, by simp [intOf]; omega⟩
        | bad v =>
        go_wp2_with fail
        refine (atoiP_bad pw v hat hpl _ ((HT.out.below HB.out).drewN nd)).mono ?_
        rintro e w3 ⟨N, rfl, hb3⟩
        have KR := Lib.hid (blk_below (w := wr.drewN nd) hKK.out.1 hb3)
        have KN := Lib.hid (blk_below (w := wr.drewN nd) hKK.out.2 hb3)
        have cN_0 := blk_cell KN.out 0
        have fN_0 := blk_frozen KN.out 0
        have cN_1 := blk_cell KN.out 1
        have fN_1 := blk_frozen KN.out 1
        have cN_2 := blk_cell KN.out 2
        have fN_2 := blk_frozen KN.out 2
        obtain ⟨n0, n1, n2⟩ := ((HT.out.below HB.out).drewN nd |>.below hb3).names
        have hlt3 := blk_lt KN.out
        have hA3 : A < w3.heap.size := Nat.lt_of_lt_of_le hAw hb3.size
        have hneA : A ≠ w.heap.size + 1 := by omega
        have hcells3 : Hid (CellsAt w3 A xs) := Lib.hid (CellsAt.below (w := wr.drewN nd) hcells.out hb3)
        have HB3 : Hid (Below w.heap.size w w3) := below_step (bdr HB.out nd) hb3
        clear hb3
        rcases nameCases nm with ⟨q0, q1, q2⟩ | ⟨q0, q1, q2⟩ | ⟨q0, q1, q2⟩ | ⟨q0, q1, q2⟩
        · go_wp2_with fail
          refine wp_loop_rounds 4 ?_
          rw [rounds_succ]
          go_wp2_with fail
          rw [rounds_succ]
          go_wp2_with fail
          rw [rounds_succ]
          go_wp2_with fail
          rw [rounds_succ]
          go_wp2_with fail
          have hst : foldP xs (k + 1) = ⟨1, (foldP xs k).b, (foldP xs k).c⟩ := by rw [foldP_succ hx.out, stepP_eq _ _ _ _ _ hcut.out]; simp [hat, q0, q1, q2]
          exact ⟨⟨k + 1, by omega, by go_num, Lib.hid ⟨blk_far KR.out (Nat.ne_of_lt (Nat.lt_succ_self _)) _, by rw [hst]; exact blk_put KN.out 0 _ rfl⟩, Lib.hid (hcells3.out.set hneA _), by simpa using hA3, Lib.hid (below_set HB3.out (by simp))⟩, by simp [intOf]; omega⟩
        · go_wp2_with fail
          refine wp_loop_rounds 4 ?_
          rw [rounds_succ]
          go_wp2_with fail
          rw [rounds_succ]
          go_wp2_with fail
          rw [rounds_succ]
          go_wp2_with fail
          rw [rounds_succ]
          go_wp2_with fail
          have hst : foldP xs (k + 1) = ⟨(foldP xs k).a, 1, (foldP xs k).c⟩ := by rw [foldP_succ hx.out, stepP_eq _ _ _ _ _ hcut.out]; simp [hat, q0, q1, q2]
          exact ⟨⟨k + 1, by omega, by go_num, Lib.hid ⟨blk_far KR.out (Nat.ne_of_lt (Nat.lt_succ_self _)) _, by rw [hst]; exact blk_put KN.out 1 _ rfl⟩, Lib.hid (hcells3.out.set hneA _), by simpa using hA3, Lib.hid (below_set HB3.out (by simp))⟩, by simp [intOf]; omega⟩
        · go_wp2_with fail
          refine wp_loop_rounds 4 ?_
          rw [rounds_succ]
          go_wp2_with fail
          rw [rounds_succ]
          go_wp2_with fail
          rw [rounds_succ]
          go_wp2_with fail
          rw [rounds_succ]
          go_wp2_with fail
          have hst : foldP xs (k + 1) = ⟨(foldP xs k).a, (foldP xs k).b, 1⟩ := by rw [foldP_succ hx.out, stepP_eq _ _ _ _ _ hcut.out]; simp [hat, q0, q1, q2]
          exact ⟨⟨k + 1, by omega, by go_num, Lib.hid ⟨blk_far KR.out (Nat.ne_of_lt (Nat.lt_succ_self _)) _, by rw [hst]; exact blk_put KN.out 2 _ rfl⟩, Lib.hid (hcells3.out.set hneA _), by simpa using hA3, Lib.hid (below_set HB3.out (by simp))⟩, by simp [intOf]; omega⟩
        · go_wp2_with fail
          refine wp_loop_rounds 4 ?_
          rw [rounds_succ]
          go_wp2_with fail
          rw [rounds_succ]
          go_wp2_with fail
          rw [rounds_succ]
          go_wp2_with fail
          rw [rounds_succ]
          go_wp2_with fail
          have hst : foldP xs (k + 1) = ⟨(foldP xs k).a, (foldP xs k).b, (foldP xs k).c⟩ := by rw [foldP_succ hx.out, stepP_eq _ _ _ _ _ hcut.out]; simp [hat, q0, q1, q2]
          exact ⟨⟨k + 1, by omega, by go_num, Lib.hid ⟨KR.out, by rw [hst]; exact KN.out⟩, hcells3, hA3, HB3⟩, by simp [intOf]; omega⟩
    · obtain rfl : k = xs.length := by omega
      have KR := Lib.hid hKK.out.1
      have KN := Lib.hid hKK.out.2
      have cN_0 := blk_cell KN.out 0
      have fN_0 := blk_frozen KN.out 0
      have cN_1 := blk_cell KN.out 1
      have fN_1 := blk_frozen KN.out 1
      have cN_2 := blk_cell KN.out 2
      have fN_2 := blk_frozen KN.out 2
      obtain ⟨⟨ea, eb, ec⟩, hE⟩ : ∃ e, foldP xs xs.length = e := ⟨_, rfl⟩
      rw [hE] at cN_0 cN_1 cN_2
      dsimp only at cN_0 cN_1 cN_2
      replace hE := Lib.hid hE
      clear hcells hKK
      go_wp2_with fail
      have hRN : w.heap.size < wr.heap.size := blk_lt KR.out
      by_cases hu : okU ea eb ec
      · refine (of_yes ea eb ec _ hu).mono ?_
        rintro e w4 ⟨rfl, hb4⟩
        replace KR := Lib.hid (blk_below KR.out hb4)
        replace HB : Hid (Below w.heap.size w w4) := below_step HB.out hb4
        have hT4 := Lib.hid (HT.out.below HB.out)
        have hl4 := blk_lt KR.out
        have cR_0 := blk_cell KR.out 0
        have fR_0 := blk_frozen KR.out 0
        have cR_1 := blk_cell KR.out 1
        have fR_1 := blk_frozen KR.out 1
        have cR_2 := blk_cell KR.out 2
        have fR_2 := blk_frozen KR.out 2
        clear hb4
        go_wp2_with fail
        have KU0 := blk_new w4 (.cells #[.int .i64 ea, .int .i64 eb, .int .i64 ec] 23)
        refine (text_yes ea eb ec _ (hT4.out.alloc _) hu).mono ?_
        rintro e w5 ⟨rfl, hb5⟩
        have KU := Lib.hid (blk_below KU0 hb5)
        replace KR := Lib.hid (blk_below (blk_alloc KR.out _) hb5)
        replace HB : Hid (Below w.heap.size w w5) := below_step (below_alloc HB.out _) hb5
        clear hb5 KU0 cR_0 cR_1 cR_2 fR_0 fR_1 fR_2
        have cR_0 := blk_cell KR.out 0
        have fR_0 := blk_frozen KR.out 0
        have cR_1 := blk_cell KR.out 1
        have fR_1 := blk_frozen KR.out 1
        have cR_2 := blk_cell KR.out 2
        have fR_2 := blk_frozen KR.out 2
        have cU_0 := blk_cell KU.out 0
        have fU_0 := blk_frozen KU.out 0
        have cU_1 := blk_cell KU.out 1
        have fU_1 := blk_frozen KU.out 1
        have cU_2 := blk_cell KU.out 2
        have fU_2 := blk_frozen KU.out 2
        by_cases hq : textS ea eb ec = s
        · have hqL : (textS ea eb ec).toList = s.toList := by rw [hq]
          have hR : Hid (parseR s = (ea, eb, ec, 0)) := Lib.hid (by unfold parseR; rw [hxs.out, hE.out]; exact if_pos ⟨hu, hq⟩)
          go_wp2_with fail
          refine bodyPost_ret (v := .tuple #[.agg #[.int .i64 ea, .int .i64 eb, .int .i64 ec], .int .i64 0]) (resQ rfl rfl (put3 KR.out _ _ _)) rfl ⟨by rw [hR.out], (by repeat (first | (with_reducible first | exact HB.out | exact Below.refl _ _ | apply below_alloc | apply bdr | apply below_drew1) | (refine below_set ?_ (by first | omega | (simp; done) | (simp; omega))) | exact HB.out | exact Below.refl _ _))⟩
        · have hqL : ¬ (textS ea eb ec).toList = s.toList := fun e => hq (toList_inj' e)
          have hqB : ((textS ea eb ec).toList == s.toList) = false := by simpa using hqL
          have hR : Hid (parseR s = (0, 0, 0, 5)) := Lib.hid (by unfold parseR; rw [hxs.out, hE.out]; exact if_neg (fun e => hq e.2))
          go_wp2_with fail
          refine bodyPost_ret (v := .tuple #[.agg #[.int .i64 0, .int .i64 0, .int .i64 0], .int .i64 5]) (resQ rfl rfl (put3 KR.out _ _ _)) rfl ⟨by rw [hR.out], (by repeat (first | (with_reducible first | exact HB.out | exact Below.refl _ _ | apply below_alloc | apply bdr | apply below_drew1) | (refine below_set ?_ (by first | omega | (simp; done) | (simp; omega))) | exact HB.out | exact Below.refl _ _))⟩
      · refine (of_no ea eb ec _ hu).mono ?_
        rintro e w4 ⟨rfl, hb4⟩
        replace KR := Lib.hid (blk_below KR.out hb4)
        replace HB : Hid (Below w.heap.size w w4) := below_step HB.out hb4
        have hT4 := Lib.hid (HT.out.below HB.out)
        have hl4 := blk_lt KR.out
        have cR_0 := blk_cell KR.out 0
        have fR_0 := blk_frozen KR.out 0
        have cR_1 := blk_cell KR.out 1
        have fR_1 := blk_frozen KR.out 1
        have cR_2 := blk_cell KR.out 2
        have fR_2 := blk_frozen KR.out 2
        clear hb4
        go_wp2_with fail
        have KU0 := blk_new w4 (.cells #[.int .i64 0, .int .i64 0, .int .i64 0] 23)
        refine (text_yes 0 0 0 _ (hT4.out.alloc _) (by decide)).mono ?_
        rintro e w5 ⟨rfl, hb5⟩
        have KU := Lib.hid (blk_below KU0 hb5)
        replace KR := Lib.hid (blk_below (blk_alloc KR.out _) hb5)
        replace HB : Hid (Below w.heap.size w w5) := below_step (below_alloc HB.out _) hb5
        clear hb5 KU0 cR_0 cR_1 cR_2 fR_0 fR_1 fR_2
        have cR_0 := blk_cell KR.out 0
        have fR_0 := blk_frozen KR.out 0
        have cR_1 := blk_cell KR.out 1
        have fR_1 := blk_frozen KR.out 1
        have cR_2 := blk_cell KR.out 2
        have fR_2 := blk_frozen KR.out 2
        have cU_0 := blk_cell KU.out 0
        have fU_0 := blk_frozen KU.out 0
        have cU_1 := blk_cell KU.out 1
        have fU_1 := blk_frozen KU.out 1
        have cU_2 := blk_cell KU.out 2
        have fU_2 := blk_frozen KU.out 2
        have hR : Hid (parseR s = (0, 0, 0, 5)) := Lib.hid (by unfold parseR; rw [hxs.out, hE.out]; exact if_neg (fun e => hu e.1))
        go_wp2_with fail
        refine bodyPost_ret (v := .tuple #[.agg #[.int .i64 0, .int .i64 0, .int .i64 0], .int .i64 5]) (resQ rfl rfl (put3 KR.out _ _ _)) rfl ⟨by rw [hR.out], (by repeat (first | (with_reducible first | exact HB.out | exact Below.refl _ _ | apply below_alloc | apply bdr | apply below_drew1) | (refine below_set ?_ (by first | omega | (simp; done) | (simp; omega))) | exact HB.out | exact Below.refl _ _))⟩

end Go.Proofs.YtifamjapgpcjjaaDoor.Ext
