/- Several texts in one (ExecC ExecD ExecE ExecF). -/
import Derived.Test.YtamabdijeklgjaaDoorExecB
import Derived.Test.YtamabdijeklgjaaDoorGi
import Derived.Test.YtamabdijeklgjaaDoorFlowPl
/- exec.Run, walked: the early ends, the state. -/
namespace Go.Proofs.YtamabdijeklgjaaDoor.Ext
open Go Go.Proofs Go.RowKit Go.Proofs.YtamabdijeklgjaaDoorW.PrintWords
set_option linter.unusedVariables false
set_option linter.unusedSimpArgs false

def z4 : Array Value := #[.int .i64 0, .int .i64 0, .int .i64 0, .int .i64 0]
theorem run_results (w : World) (q : Nat) (x0 x1 x2 x3 : Value) (used er : Int) (tmps : Array Value) (h : w.heap[q]? = some (.cells #[x0, x1, x2, x3] 44 (0, 0)))
    (t6 : tmps.getD 6 undef = .pointer (some ⟨q, 0, none⟩)) (t7 : tmps.getD 7 undef = .int .i64 used) (t8 : tmps.getD 8 undef = .int .i64 er) :
    (results Tryd.f19 tmps).run Tryd.prog w = .ok (.tuple #[.agg #[x0, x1, x2, x3], .int .i64 used, .int .i64 er]) w := by
  have hr : Tryd.f19.results = [ResultVar.cell 6 44, ResultVar.tmp 7, ResultVar.tmp 8].toArray := rfl
  have e0 := run_loadVar_row (P := Tryd.prog) w q 44 44 #[x0, x1, x2, x3] (0, 0) _ h Tryd.underlying44 rfl (by kernel_rfl)
  unfold results
  rw [hr, List.mapM_toArray]
  simp only [Sem.run_bind, Sem.run_map]
  rw [Array.getD_eq_getD_getElem?] at t6 t7 t8
  simp [List.mapM_cons, t6, t7, t8, asAddr, e0]
/-- four numbers of an input -/
def pxL (x : FS) : List Int := [x.f0, x.f1, x.f2, x.f3]
def pixI (ins : List FS) : List Int := ins.flatMap pxL
def RunPost (w : World) (r : List Int × Int × Int) (e : Ending) (w' : World) : Prop :=
  ∃ v0 v1 v2 v3 : Int, r.1 = [v0, v1, v2, v3] ∧ e = .returned (.tuple #[.agg #[.int .i64 v0, .int .i64 v1, .int .i64 v2, .int .i64 v3], .int .i64 r.2.1, .int .i64 r.2.2]) ∧ Below w.heap.size w w'
set_option maxRecDepth 100000 in
set_option maxHeartbeats 2000000 in
theorem run_invalid (name : ByteArray) (ver : Int) (A I : Option Addr) (c ci ni : Nat) (l : List FS) (bud : Int) (w : World) (hr : Kd.C L.k32 w A l.length l) (h : validB name.data.toList ver l = false ∨ ni ≠ 4 ∨ bud < 0) (hni : ni ≤ 9223372036854775807) :
    Calls Tryd.prog 19 #[.agg #[.string name, .int .i64 ver, .slice A l.length c], .slice I ni ci, .int .i64 bud] w (RunPost w ([0, 0, 0, 0], 0, 1)) := by
  have hB := below_alloc (below_allocs w (.cells #[.string name, .int .i64 ver, .slice A l.length c] 24)) (.cells z4 44)
  have HV := Lib.hid (valid_of_reads name ver A c l ((w.alloc (.cells #[.string name, .int .i64 ver, .slice A l.length c] 24)).alloc (.cells z4 44)) (Kd.C_below hr hB))
  have HZ := Lib.hid (blk_two w (.cells #[.string name, .int .i64 ver, .slice A l.length c] 24) z4 44)
  have HB := Lib.hid hB
  obtain ⟨q, hq⟩ : ∃ q, validB name.data.toList ver l = q := ⟨_, rfl⟩
  rw [hq] at HV h
  obtain ⟨g4, hg4⟩ : ∃ g, ((ni : Int) != 4) = g := ⟨_, rfl⟩
  obtain ⟨gb, hgb⟩ : ∃ g, decide (bud < 0) = g := ⟨_, rfl⟩
  have hall : q = false ∨ g4 = true ∨ gb = true := by
    rcases h with h | h | h
    · exact Or.inl h
    · exact Or.inr (Or.inl (by rw [← hg4]; simp; omega))
    · exact Or.inr (Or.inr (by rw [← hgb]; exact decide_eq_true h))
  clear hq hB hr h
  unfold z4 at HZ HB HV
  go_enter Tryd.func19, Tryd.ntmps19
  go_wp2_with fail
  refine HV.out.mono ?_
  rintro e w1 ⟨rfl, hb⟩
  have HB1 := Lib.hid (below_step HB.out hb)
  have HZ1 := Lib.hid (blk_below HZ.out hb)
  clear hb HV HZ HB
  have b0 := blk_cell HZ1.out 0
  have b1 := blk_cell HZ1.out 1
  have b2 := blk_cell HZ1.out 2
  have b3 := blk_cell HZ1.out 3
  have f0 := blk_frozen HZ1.out 0
  have f1 := blk_frozen HZ1.out 1
  have f2 := blk_frozen HZ1.out 2
  have f3 := blk_frozen HZ1.out 3
  have hwz : w.heap.size ≤ w.heap.size + 1 := Nat.le_succ _
  cases q with
  | false =>
    go_wp2_with fail
    refine bodyPost_ret (run_results _ (w.heap.size + 1) (.int .i64 0) (.int .i64 0) (.int .i64 0) (.int .i64 0) 0 1 _ (blk_put (blk_put (blk_put (blk_put HZ1.out 0 _ rfl) 1 _ rfl) 2 _ rfl) 3 _ rfl) rfl rfl rfl) rfl ?_
    exact ⟨0, 0, 0, 0, rfl, rfl, below_set (below_set (below_set (below_set HB1.out _ _ hwz) _ _ hwz) _ _ hwz) _ _ hwz⟩
  | true =>
    cases g4 with
    | true =>
      go_wp2_with fail
      refine bodyPost_ret (run_results _ (w.heap.size + 1) (.int .i64 0) (.int .i64 0) (.int .i64 0) (.int .i64 0) 0 1 _ (blk_put (blk_put (blk_put (blk_put HZ1.out 0 _ rfl) 1 _ rfl) 2 _ rfl) 3 _ rfl) rfl rfl rfl) rfl ?_
      exact ⟨0, 0, 0, 0, rfl, rfl, below_set (below_set (below_set (below_set HB1.out _ _ hwz) _ _ hwz) _ _ hwz) _ _ hwz⟩
    | false =>
      cases gb with
      | false => simp at hall
      | true =>
        go_wp2_with fail
        refine bodyPost_ret (run_results _ (w.heap.size + 1) (.int .i64 0) (.int .i64 0) (.int .i64 0) (.int .i64 0) 0 1 _ (blk_put (blk_put (blk_put (blk_put HZ1.out 0 _ rfl) 1 _ rfl) 2 _ rfl) 3 _ rfl) rfl rfl rfl) rfl ?_
        exact ⟨0, 0, 0, 0, rfl, rfl, below_set (below_set (below_set (below_set HB1.out _ _ hwz) _ _ hwz) _ _ hwz) _ _ hwz⟩
/-- all that the loops hold -/
structure AllAt (w0 w : World) (fB zB rB vB bi oi ci n : Nat) (bud used : Int) (V I : List Int) (fc : Array Value) : Prop where
  run : RunAt w rB vB bi oi ci n bud used V I
  f : w.heap[fB]? = some (.cells fc 24 (0, 0))
  z : w.heap[zB]? = some (.cells z4 44 (0, 0))
  tab : LogicTab w
  below : Below w0.heap.size w0 w
  fr : fB ≠ rB
  fv : fB ≠ vB
  zr : zB ≠ rB
  zv : zB ≠ vB
  gr : rB ≠ 0
  gv : vB ≠ 0
  iv : vB ≠ bi
  br : w0.heap.size ≤ rB
  bv : w0.heap.size ≤ vB
section
variable {w0 w w' : World} {fB zB rB vB bi oi ci n : Nat} {bud used : Int} {V I : List Int} {fc : Array Value}
theorem AllAt.step (h : AllAt w0 w fB zB rB vB bi oi ci n bud used V I fc) (hb : Below w.heap.size w w') : AllAt w0 w' fB zB rB vB bi oi ci n bud used V I fc :=
  ⟨h.run.below hb, blk_below h.f hb, blk_below h.z hb, h.tab.below hb, below_step h.below hb, h.fr, h.fv, h.zr, h.zv, h.gr, h.gv, h.iv, h.br, h.bv⟩
theorem AllAt.paid (h : AllAt w0 w fB zB rB vB bi oi ci n bud used V I fc) {u : Int} (hr : RunAt w' rB vB bi oi ci n bud u V I) (hg : w.grownBy w' (some rB)) : AllAt w0 w' fB zB rB vB bi oi ci n bud u V I fc :=
  ⟨hr, blk_grown h.f hg (fun e => h.fr (by injection e)), blk_grown h.z hg (fun e => h.zr (by injection e)), h.tab.grown hg h.gr, h.below.grown hg h.below.size (fun k hk => by injection hk with hk; have hk' : rB = k := hk; have := h.br; omega), h.fr, h.fv, h.zr, h.zv, h.gr, h.gv, h.iv, h.br, h.bv⟩
theorem AllAt.put (h : AllAt w0 w fB zB rB vB bi oi ci n bud used V I fc) (p : Nat) (x : Int) (hx : -1000000000000 ≤ x ∧ x ≤ 1000000000000) : AllAt w0 (w.setCell ⟨vB, p, none⟩ (.int .i64 x)) fB zB rB vB bi oi ci n bud used (V.set p x) I fc := by
  have hg := setCell_grown w ⟨vB, p, none⟩ (.int .i64 x)
  refine ⟨⟨blk_grown h.run.r hg (fun e => h.run.ne (by injection e)), blk_put h.run.v p (.int .i64 x) (by simp [List.map_set]), Nat.lt_of_lt_of_le h.run.ib hg.size, fun k y hy => ?_, by rw [List.length_set]; exact h.run.len, h.run.ilen, fun y hy => ?_, h.run.ibnd, h.run.ne, h.run.nei⟩,
    blk_grown h.f hg (fun e => h.fv (by injection e)), blk_grown h.z hg (fun e => h.zv (by injection e)), h.tab.grown hg h.gv, below_set h.below _ _ h.bv, h.fr, h.fv, h.zr, h.zv, h.gr, h.gv, h.iv, h.br, h.bv⟩
  · have hb := hg.block bi h.run.ib (fun e => h.iv (by injection e with e; exact e.symm))
    have := h.run.i k y hy
    unfold World.cell? at this ⊢
    simp only at this ⊢
    rw [hb]
    exact this
  · rcases List.mem_or_eq_of_mem_set hy with hy | rfl
    · exact h.run.bnd y hy
    · exact hx
end
theorem far_rng {x : Int} (h : farE x = false) : -1000000000000 ≤ x ∧ x ≤ 1000000000000 := by
  unfold farE at h
  simp only [Bool.or_eq_false_iff, decide_eq_false_iff_not] at h
  omega
theorem val_rng {I : List Int} {bud : Int} {s : FS} {c : Nat} {x : EX} {p : Int × Int} (h : valE I bud s c x = some p) : (-1000000000000 ≤ p.1 ∧ p.1 ≤ 1000000000000) ∧ x.used ≤ p.2 ∧ p.2 ≤ x.used + 1 := by
  unfold valE at h
  split at h
  · obtain rfl := Option.some.inj h
    have := logic_rng s.f0 (opA s c x.v) (opB s c x.v)
    simp only
    omega
  · split at h
    · obtain rfl := Option.some.inj h
      simp only
      omega
    · split at h
      · cases h
      · rename_i hf
        obtain rfl := Option.some.inj h
        have := far_rng (by simpa using hf : farE _ = false)
        simp only
        omega
end Go.Proofs.YtamabdijeklgjaaDoor.Ext

/- exec.Run, walked: the loops. -/
namespace Go.Proofs.YtamabdijeklgjaaDoor.Ext
open Go Go.Proofs Go.RowKit Go.Proofs.YtamabdijeklgjaaDoorW.PrintWords
set_option linter.unusedVariables false
set_option linter.unusedSimpArgs false

theorem px_ix0 (a b c d : Value) (w : World) : (Instr.index 55 (.agg #[a, b, c, d]) (.int .i64 0)).run Tryd.prog w = .ok a w := by kernel_rfl
theorem px_ix1 (a b c d : Value) (w : World) : (Instr.index 55 (.agg #[a, b, c, d]) (.int .i64 1)).run Tryd.prog w = .ok b w := by kernel_rfl
theorem px_ix2 (a b c d : Value) (w : World) : (Instr.index 55 (.agg #[a, b, c, d]) (.int .i64 2)).run Tryd.prog w = .ok c w := by kernel_rfl
theorem px_ix3 (a b c d : Value) (w : World) : (Instr.index 55 (.agg #[a, b, c, d]) (.int .i64 3)).run Tryd.prog w = .ok d w := by kernel_rfl
theorem px_idx (a b c d : Int) (cc : Nat) (v : Int) (h : [a, b, c, d][cc]? = some v) (w : World) : (Instr.index 55 (.agg #[.int .i64 a, .int .i64 b, .int .i64 c, .int .i64 d]) (.int .i64 (cc : Int))).run Tryd.prog w = .ok (.int .i64 v) w := by
  match cc, h with
  | 0, h =>
    obtain rfl : a = v := by simpa using h
    exact px_ix0 _ _ _ _ w
  | 1, h =>
    obtain rfl : b = v := by simpa using h
    exact px_ix1 _ _ _ _ w
  | 2, h =>
    obtain rfl : c = v := by simpa using h
    exact px_ix2 _ _ _ _ w
  | 3, h =>
    obtain rfl : d = v := by simpa using h
    exact px_ix3 _ _ _ _ w
theorem pixI_get : ∀ (l : List FS) (i : Nat) (x : FS), l[i]? = some x → ∀ j v, (pxL x)[j]? = some v → (pixI l)[i * 4 + j]? = some v
  | [], i, x, h, j, v, _ => by simp at h
  | y :: l, 0, x, h, j, v, hv => by
    obtain rfl : y = x := by simpa using h
    have hj : j < 4 := (List.getElem?_eq_some_iff.1 hv).1
    show (pxL y ++ pixI l)[0 * 4 + j]? = some v
    rw [List.getElem?_append_left (by show 0 * 4 + j < 4; omega), Nat.zero_mul, Nat.zero_add]
    exact hv
  | y :: l, i + 1, x, h, j, v, hv => by
    have := pixI_get l i x (by simpa using h) j v hv
    show (pxL y ++ pixI l)[(i + 1) * 4 + j]? = some v
    rw [List.getElem?_append_right (by show 4 ≤ _; omega)]
    rw [show (i + 1) * 4 + j - (pxL y).length = i * 4 + j by show _ - 4 = _; omega]
    exact this
theorem pixI_len (l : List FS) : (pixI l).length = l.length * 4 := by
  induction l with
  | nil => rfl
  | cons x l ih =>
    show (pxL x ++ pixI l).length = _
    rw [List.length_append, ih, List.length_cons]
    show 4 + _ = _
    omega
theorem pixI_mem {l : List FS} {v : Int} : v ∈ pixI l ↔ ∃ x ∈ l, v ∈ pxL x := by unfold pixI; exact List.mem_flatMap
theorem pix_far {l : List FS} (h : ∀ (i : Nat) (x : FS), l[i]? = some x → ∀ v ∈ pxL x, farE v = false) : (pixI l).all (fun n => !farE n) = true := by
  rw [List.all_eq_true]
  intro v hv
  obtain ⟨x, hx, hvx⟩ := pixI_mem.1 hv
  obtain ⟨i, hi⟩ := List.mem_iff_getElem?.1 hx
  rw [h i x hi v hvx]
  rfl
theorem made_four (z : Value) (m : Nat) : madeCells #[z, z, z, z] m = (List.replicate m z).toArray := by
  unfold madeCells
  have h : (fun x : Nat => (#[z, z, z, z] : Array Value)[x % (#[z, z, z, z] : Array Value).size]!) = fun _ => z := by
    funext i
    have : i % 4 = 0 ∨ i % 4 = 1 ∨ i % 4 = 2 ∨ i % 4 = 3 := by omega
    show (#[z, z, z, z] : Array Value)[i % 4]! = z
    rcases this with e | e | e | e <;> rw [e] <;> rfl
  rw [h]
  apply Array.ext
  · simp
  · intro i h1 h2
    simp
theorem make_run (n : Nat) (hn : n ≤ 40) (w : World) : (Instr.makeSlice 79 (.int .i64 (n : Int)) (.int .i64 (n : Int))).run Tryd.prog w = .ok (.slice (some ⟨w.heap.size, 0, none⟩) n n) (w.alloc (.cells (((List.replicate (n * 4) 0).map (Value.int .i64)).toArray) 44)) := by
  have hinfo : (Tryd.prog.info? 44).map (fun i => (i.zero, i.size, i.bytes)) = some (some (.agg #[.int .i64 0, .int .i64 0, .int .i64 0, .int .i64 0]), 4, 32) := by kernel_rfl
  obtain ⟨it, hi, hz0, hz1, hz2⟩ := info_parts hinfo
  have h := run_make w 79 44 it _ Tryd.underlying79 hi hz0 .i64 .i64 (n : Int) (n : Int) (by omega) (by omega) (by rw [hz2]; omega) (by omega)
  refine h.trans ?_
  rw [Int.toNat_natCast, hz1, List.map_replicate]
  rw [show (Value.agg #[.int .i64 0, .int .i64 0, .int .i64 0, .int .i64 0]).cells = #[.int .i64 0, .int .i64 0, .int .i64 0, .int .i64 0] from rfl, made_four]
end Go.Proofs.YtamabdijeklgjaaDoor.Ext

/- exec.Run, walked: the whole. -/
namespace Go.Proofs.YtamabdijeklgjaaDoor.Ext
open Go Go.Proofs Go.RowKit Go.Proofs.YtamabdijeklgjaaDoorW.PrintWords
set_option linter.unusedVariables false
set_option linter.unusedSimpArgs false

theorem pix_cells {w : World} {b o : Nat} {l : List FS} (h : StepsAt w b o l) (k : Nat) (x : Int) (hx : (pixI l)[k]? = some x) : w.cell? ⟨b, o + k, none⟩ = some (.int .i64 x) := by
  have hk := (List.getElem?_eq_some_iff.1 hx).1
  rw [pixI_len] at hk
  obtain ⟨y, hy⟩ : ∃ y, l[k / 4]? = some y := ⟨_, List.getElem?_eq_getElem (by omega)⟩
  have hj : k % 4 < (pxL y).length := by show k % 4 < 4; omega
  have hv := pixI_get l (k / 4) y hy (k % 4) _ (List.getElem?_eq_getElem hj)
  rw [show k / 4 * 4 + k % 4 = k by omega, hx] at hv
  have hs : (stepC y)[k % 4]? = some (.int .i64 x) := by
    rw [Option.some.inj hv]
    show ((pxL y).map (Value.int .i64))[k % 4]? = _
    rw [List.getElem?_map, List.getElem?_eq_getElem hj]
    rfl
  have := h.2 (k / 4) y hy (k % 4) _ hs
  rw [show o + k / 4 * 4 + k % 4 = o + k by omega] at this
  exact this
theorem masks_next {l : List FS} {i : Nat} {s : FS} {ms MS : List Bool} (hx : l[i]? = some s) (h : masksL (l.drop i) ms = some MS) : ∃ m, stepM ms s = some m ∧ masksL (l.drop (i + 1)) (ms ++ [m]) = some MS := by
  have hi := (List.getElem?_eq_some_iff.1 hx).1
  have hv := (List.getElem?_eq_some_iff.1 hx).2
  rw [List.drop_eq_getElem_cons hi, hv, masksL] at h
  split at h
  · rename_i m hm
    exact ⟨m, hm, h⟩
  · cases h
theorem drop_cons {l : List FS} {i : Nat} {s : FS} (hx : l[i]? = some s) : l.drop i = s :: l.drop (i + 1) := by
  have hi := (List.getElem?_eq_some_iff.1 hx).1
  have hv := (List.getElem?_eq_some_iff.1 hx).2
  rw [List.drop_eq_getElem_cons hi, hv]
theorem drop_four {V : List Int} {n : Nat} (h : V.length = (n + 1) * 4) : (V.drop (n * 4)).take 4 = [V.getD (n * 4) 0, V.getD (n * 4 + 1) 0, V.getD (n * 4 + 2) 0, V.getD (n * 4 + 3) 0] := by
  have g : ∀ j, j < 4 → V[n * 4 + j]? = some (V.getD (n * 4 + j) 0) := fun j hj => by
    rw [List.getD_eq_getElem?_getD, List.getElem?_eq_getElem (by omega)]
    rfl
  apply List.ext_getElem?
  intro j
  rw [List.getElem?_take]
  split
  · rename_i hj
    rw [List.getElem?_drop, g j hj]
    have : j = 0 ∨ j = 1 ∨ j = 2 ∨ j = 3 := by omega
    rcases this with rfl | rfl | rfl | rfl <;> rfl
  · rename_i hj
    rw [List.getElem?_eq_none (by simp; omega)]
def Ends (R : List Int × Int × Int) (n : Nat) (S : Option EX) : Prop := R = match S with
  | some x => ((x.v.drop ((n - 1) * 4)).take 4, x.used, 0)
  | none => ([0, 0, 0, 0], 0, 9)
def OkPx (x : FS) : Prop := ∀ v ∈ pxL x, farE v = false
set_option maxRecDepth 100000 in
set_option maxHeartbeats 8000000 in
theorem run_main (name : ByteArray) (ver : Int) (A IA : Option Addr) (c ci : Nat) (l ins : List FS) (bud : Int) (w : World) (hr : Kd.C L.k32 w A l.length l) (hI : Kd.C L.k32 w IA ins.length ins) (hT : LogicTab w)
    (hv : validB name.data.toList ver l = true) (h4 : ins.length = 4) (hb0 : 0 ≤ bud) :
    Calls Tryd.prog 19 #[.agg #[.string name, .int .i64 ver, .slice A l.length c], .slice IA ins.length ci, .int .i64 bud] w (RunPost w (runE name.data.toList ver l ins.length (pixI ins) bud)) := by
  obtain ⟨_, _, _, hl1, hl40, MS, hMS, _⟩ := valid_parts hv
  have HMS := Lib.hid hMS
  obtain ⟨b, o, rfl, hst⟩ := steps_view hr (by intro e; rw [e] at hl1; simp at hl1)
  obtain ⟨bi, oi, rfl, hin⟩ := steps_view hI (by intro e; rw [e] at h4; simp at h4)
  obtain ⟨R, hR⟩ : ∃ R, runE name.data.toList ver l ins.length (pixI ins) bud = R := ⟨_, rfl⟩
  have HU : Hid ((∀ (i : Nat) (x : FS), ins[i]? = some x → OkPx x) → Ends R l.length (stepsE (pixI ins) bud l 0 (startE l.length))) := Lib.hid (fun h => by
    unfold Ends
    rw [← hR]
    unfold runE
    rw [if_pos ⟨hv, h4, hb0, pix_far h⟩]
    split <;> simp_all)
  have HU2 : Hid (∀ x ∈ ins, ∀ v ∈ pxL x, farE v = true → R = ([0, 0, 0, 0], 0, 1)) := Lib.hid (fun x hx v hvx hf => by
    rw [← hR]
    unfold runE
    rw [if_neg (fun k => by
      have := List.all_eq_true.1 k.2.2.2 v (pixI_mem.2 ⟨x, hx, hvx⟩)
      rw [hf] at this
      cases this)])
  rw [hR]
  clear hR
  have hB := below_alloc (below_allocs w (.cells #[.string name, .int .i64 ver, .slice (some ⟨b, o, none⟩) l.length c] 24)) (.cells z4 44)
  have HV := Lib.hid (valid_of_reads name ver _ c l ((w.alloc (.cells #[.string name, .int .i64 ver, .slice (some ⟨b, o, none⟩) l.length c] 24)).alloc (.cells z4 44)) (Kd.C_below hr hB))
  rw [hv] at HV
  have HZ := Lib.hid (blk_two w (.cells #[.string name, .int .i64 ver, .slice (some ⟨b, o, none⟩) l.length c] 24) z4 44)
  have HF := Lib.hid (blk_alloc (blk_new w (.cells #[.string name, .int .i64 ver, .slice (some ⟨b, o, none⟩) l.length c] 24)) (.cells z4 44))
  have HB := Lib.hid hB
  have HST := Lib.hid hst
  have HIN := Lib.hid hin
  have HT := Lib.hid hT
  have HI4 := Lib.hid h4
  have hn4 : ((ins.length : Int) != 4) = false := by rw [h4]; rfl
  have hbn : ¬ bud < 0 := by omega
  have hwz : w.heap.size ≤ w.heap.size + 1 := Nat.le_succ _
  clear hr hI hv hMS hst hin hT hB h4
  unfold z4 at HV HZ HB HF
  go_enter Tryd.func19, Tryd.ntmps19
  go_wp2_with fail
  refine HV.out.mono ?_
  rintro e w1 ⟨rfl, hb⟩
  have HB1 := Lib.hid (below_step HB.out hb)
  have HZ1 := Lib.hid (blk_below HZ.out hb)
  have HF1 := Lib.hid (blk_below HF.out hb)
  clear hb HV HZ HB HF
  go_wp2_with fail
  clear hn4 hbn
  go_loopg [34] 4 (fun g v34 wx => ∃ i : Nat, i + g = 4 ∧ v34 = .int .i64 i ∧ Hid (∀ (j : Nat) (x : FS), j < i → ins[j]? = some x → OkPx x) ∧ Hid (Below w1.heap.size w1 wx))
  case atStart => exact ⟨0, rfl, rfl, Lib.hid (fun j x h => absurd h (by omega)), Lib.hid (Below.refl _ _)⟩
  case round =>
    obtain ⟨i, hig, rfl, HOK, HBx⟩ := hrel
    cases gk with
    | succ g =>
      have hil : i < ins.length := by rw [HI4.out]; omega
      have hz : (i : Int) < (ins.length : Int) := by omega
      obtain ⟨x, hx⟩ : ∃ x, ins[i]? = some x := ⟨_, List.getElem?_eq_getElem hil⟩
      have HIx := (HIN.out.below HB1.out).below HBx.out
      obtain ⟨p0, p1, p2, p3⟩ := x
      have x0 : wr.cell? ⟨bi, oi + i * 4, none⟩ = some (.int .i64 p0) := HIx.2 i _ hx 0 _ rfl
      have x1 : wr.cell? ⟨bi, oi + i * 4 + 1, none⟩ = some (.int .i64 p1) := HIx.2 i _ hx 1 _ rfl
      have x2 : wr.cell? ⟨bi, oi + i * 4 + 2, none⟩ = some (.int .i64 p2) := HIx.2 i _ hx 2 _ rfl
      have x3 : wr.cell? ⟨bi, oi + i * 4 + 3, none⟩ = some (.int .i64 p3) := HIx.2 i _ hx 3 _ rfl
      have HX := Lib.hid hx
      clear hx HIx
      go_wp2_with fail
      have HBy := Lib.hid (below_alloc HBx.out (.cells #[.int .i64 p0, .int .i64 p1, .int .i64 p2, .int .i64 p3] 55))
      clear x0 x1 x2 x3 HBx
      go_loopg [39] 4 (fun g' v39 wx => ∃ cc : Nat, cc + g' = 4 ∧ v39 = .int .i64 cc ∧ Hid (∀ (j : Nat) (v : Int), j < cc → [p0, p1, p2, p3][j]? = some v → farE v = false) ∧ Hid (Below w1.heap.size w1 wx))
      case atStart => exact ⟨0, rfl, rfl, Lib.hid (fun j x h => absurd h (by omega)), HBy⟩
      case round =>
        obtain ⟨cc, hcg, rfl, HCK, HBz⟩ := hrel
        clear HBy
        cases gk with
        | zero =>
          obtain rfl : cc = 4 := by omega
          have HOK2 : Hid (∀ (j : Nat) (x : FS), j < i + 1 → ins[j]? = some x → OkPx x) := Lib.hid (by
            intro j x hj hx
            by_cases e : j = i
            · subst e
              rw [HX.out] at hx
              obtain rfl := Option.some.inj hx
              intro v hv
              obtain ⟨q, hq⟩ := List.mem_iff_getElem?.1 hv
              exact HCK.out q v (by have := (List.getElem?_eq_some_iff.1 hq).1; exact this) hq
            · exact HOK.out j x (by omega) hx)
          go_wp2_with fail
          go_roundg g
          case measure => omega
          case rel => exact ⟨i + 1, by omega, by go_num, HOK2, HBz⟩
        | succ g' =>
          have hc4 : cc < 4 := by omega
          have hc4' : (cc : Int) < 4 := by omega
          obtain ⟨v, hvv⟩ : ∃ v, [p0, p1, p2, p3][cc]? = some v := ⟨_, List.getElem?_eq_getElem (by show cc < 4; omega)⟩
          have hix := px_idx p0 p1 p2 p3 cc v hvv
          obtain ⟨fq, hfq⟩ : ∃ fq, farE v = fq := ⟨_, rfl⟩
          have HVV := Lib.hid hvv
          have HFQ := Lib.hid hfq
          clear hvv hfq
          go_wp2_with fail
          refine (far_calls v _).mono ?_
          rintro e w2 ⟨rfl, hb⟩
          rw [HFQ.out]
          have HB2 := Lib.hid (below_step HBz.out hb)
          clear hb hix
          cases fq with
          | true =>
            have HN := Lib.hid (HU2.out _ (List.mem_of_getElem? HX.out) v (List.mem_of_getElem? HVV.out) HFQ.out)
            have HZ2 := Lib.hid (blk_below HZ1.out HB2.out)
            have b0 := blk_cell HZ2.out 0
            have b1 := blk_cell HZ2.out 1
            have b2 := blk_cell HZ2.out 2
            have b3 := blk_cell HZ2.out 3
            have f0 := blk_frozen HZ2.out 0
            have f1 := blk_frozen HZ2.out 1
            have f2 := blk_frozen HZ2.out 2
            have f3 := blk_frozen HZ2.out 3
            go_wp2_with fail
            refine bodyPost_ret (run_results _ (w.heap.size + 1) (.int .i64 0) (.int .i64 0) (.int .i64 0) (.int .i64 0) 0 1 _ (blk_put (blk_put (blk_put (blk_put HZ2.out 0 _ rfl) 1 _ rfl) 2 _ rfl) 3 _ rfl) rfl rfl rfl) rfl ?_
            rw [HN.out]
            exact ⟨0, 0, 0, 0, rfl, rfl, below_set (below_set (below_set (below_set (below_step HB1.out HB2.out) _ _ hwz) _ _ hwz) _ _ hwz) _ _ hwz⟩
          | false =>
            have HCK2 : Hid (∀ (j : Nat) (v : Int), j < cc + 1 → [p0, p1, p2, p3][j]? = some v → farE v = false) := Lib.hid (by
              intro j u hj hu
              by_cases e : j = cc
              · subst e
                rw [HVV.out] at hu
                obtain rfl := Option.some.inj hu
                exact HFQ.out
              · exact HCK.out j u (by omega) hu)
            go_wp2_with fail
            go_roundg g'
            case measure => omega
            case rel => exact ⟨cc + 1, by omega, by go_num, HCK2, HB2⟩
    | zero =>
      obtain rfl : i = 4 := by omega
      have hz : ¬ (4 : Int) < (ins.length : Int) := by rw [HI4.out]; decide
      have HALL : Hid (∀ (i : Nat) (x : FS), ins[i]? = some x → OkPx x) := Lib.hid (fun i x hx => HOK.out i x (by have := (List.getElem?_eq_some_iff.1 hx).1; rw [HI4.out] at this; exact this) hx)
      have HE := Lib.hid (HU.out HALL.out)
      have HF2 := Lib.hid (blk_below HF1.out HBx.out)
      have HZ2 := Lib.hid (blk_below HZ1.out HBx.out)
      have HB2 := Lib.hid (below_step HB1.out HBx.out)
      have f2 := blk_cell HF2.out 2
      have lF := blk_lt HF2.out
      have hmk := make_run l.length hl40
      obtain ⟨VZ, hVZ⟩ : ∃ VZ : Array Value, ((List.replicate (l.length * 4) 0).map (Value.int .i64)).toArray = VZ := ⟨_, rfl⟩
      rw [hVZ] at hmk
      have HVZ := Lib.hid hVZ
      clear hVZ HU HU2 HOK HBx HB1 HZ1 HF1
      go_wp2_with fail
      clear hmk f2
      have hB2 := below_alloc (below_allocs wr (.cells VZ 44)) (.cells #[.slice (some ⟨bi, oi, none⟩) ins.length ci, .slice (some ⟨wr.heap.size, 0, none⟩) l.length l.length, .int .i64 bud, .int .i64 0] 81)
      have lbi : bi < wr.heap.size := Nat.lt_of_lt_of_le HIN.out.1 HB2.out.size
      have hb2s := HB2.out.size
      have HA0 : Hid (AllAt w ((wr.alloc (.cells VZ 44)).alloc (.cells #[.slice (some ⟨bi, oi, none⟩) ins.length ci, .slice (some ⟨wr.heap.size, 0, none⟩) l.length l.length, .int .i64 bud, .int .i64 0] 81)) w.heap.size (w.heap.size + 1) (wr.heap.size + 1) wr.heap.size bi oi ci l.length bud 0 (startE l.length).v (pixI ins) #[.string name, .int .i64 ver, .slice (some ⟨b, o, none⟩) l.length c]) := Lib.hid (by
        have hg0 : 0 < w.heap.size := HT.out.1
        have hz1 := blk_lt HZ2.out
        have hin2 := (HIN.out.below HB2.out).below hB2
        refine ⟨⟨?_, ?_, hin2.1, fun k x hx => pix_cells hin2 k x hx, start_len _, by rw [pixI_len, HI4.out], fun x hx => ?_, fun x hx => ?_, by omega, by omega⟩, blk_below HF2.out hB2, blk_below HZ2.out hB2, (HT.out.below HB2.out).below hB2, below_step HB2.out hB2, by omega, by omega, by omega, by omega, by omega, by omega, by omega, by omega, by omega⟩
        · have := blk_two wr (.cells VZ 44) #[.slice (some ⟨bi, oi, none⟩) ins.length ci, .slice (some ⟨wr.heap.size, 0, none⟩) l.length l.length, .int .i64 bud, .int .i64 0] 81
          rw [HI4.out] at this ⊢
          exact this
        · rw [show ((startE l.length).v.map (Value.int .i64)).toArray = VZ from HVZ.out]
          exact blk_alloc (blk_new wr _) _
        · have : x = 0 := (List.mem_replicate.1 hx).2
          omega
        · obtain ⟨y, hy, hxy⟩ := pixI_mem.1 hx
          obtain ⟨q, hq⟩ := List.mem_iff_getElem?.1 hy
          exact far_rng (HALL.out q y hq x hxy))
      clear hB2 lbi hb2s HVZ HALL HF2 HZ2 lF hz
      generalize (wr.alloc (.cells VZ 44)).alloc (.cells #[.slice (some ⟨bi, oi, none⟩) ins.length ci, .slice (some ⟨wr.heap.size, 0, none⟩) l.length l.length, .int .i64 bud, .int .i64 0] 81) = W at HA0 ⊢
      generalize wr.heap.size = vB at HA0 ⊢
      clear HB2
      go_loopg [58] l.length (fun g v58 wx => ∃ (i : Nat) (V : List Int) (used : Int) (ms : List Bool), i + g = l.length ∧ ms.length = i ∧ v58 = .int .i64 i ∧ 0 ≤ used ∧ used ≤ 4 * i ∧ Hid (masksL (l.drop i) ms = some MS) ∧ Hid (AllAt w wx w.heap.size (w.heap.size + 1) (vB + 1) vB bi oi ci l.length bud used V (pixI ins) #[.string name, .int .i64 ver, .slice (some ⟨b, o, none⟩) l.length c]) ∧ Hid (stepsE (pixI ins) bud l 0 (startE l.length) = stepsE (pixI ins) bud (l.drop i) i ⟨V, used⟩) ∧ Hid (Msk Bit3 ms (i * 4) V))
      case atStart => exact ⟨0, (startE l.length).v, 0, [], by omega, rfl, rfl, by omega, by omega, HMS, HA0, Lib.hid rfl, Lib.hid (fun p hp => absurd hp (by omega))⟩
      case round =>
        obtain ⟨i, V, used, ms, hig, hml, rfl, hu0, hu1, HMk, HA, HSE, HMM⟩ := hrel
        clear HA0
        cases gk with
        | zero =>
          obtain rfl : i = l.length := by omega
          have hz : ¬ (l.length : Int) < (l.length : Int) := by omega
          obtain ⟨n', hn'⟩ : ∃ n', l.length = n' + 1 := ⟨l.length - 1, by omega⟩
          have HN' := Lib.hid hn'
          have hR0 : R = ([V.getD (n' * 4) 0, V.getD (n' * 4 + 1) 0, V.getD (n' * 4 + 2) 0, V.getD (n' * 4 + 3) 0], used, 0) := by
            have h1 := HE.out
            rw [HSE.out, List.drop_length, stepsE] at h1
            unfold Ends at h1
            rw [h1]
            simp only
            rw [hn', Nat.add_sub_cancel, drop_four (by rw [HA.out.run.len, hn'])]
          have g : ∀ j, j < 4 → wr.cell? ⟨vB, n' * 4 + j, none⟩ = some (.int .i64 (V.getD (n' * 4 + j) 0)) := fun j hj => HA.out.run.cell _ (by rw [HA.out.run.len]; omega)
          have e0 : wr.cell? ⟨vB, n' * 4, none⟩ = some (.int .i64 (V.getD (n' * 4) 0)) := g 0 (by omega)
          have e1 := g 1 (by omega)
          have e2 := g 2 (by omega)
          have e3 := g 3 (by omega)
          obtain ⟨v0, hv0⟩ : ∃ v, V.getD (n' * 4) 0 = v := ⟨_, rfl⟩
          obtain ⟨v1, hv1⟩ : ∃ v, V.getD (n' * 4 + 1) 0 = v := ⟨_, rfl⟩
          obtain ⟨v2, hv2⟩ : ∃ v, V.getD (n' * 4 + 2) 0 = v := ⟨_, rfl⟩
          obtain ⟨v3, hv3⟩ : ∃ v, V.getD (n' * 4 + 3) 0 = v := ⟨_, rfl⟩
          rw [hv0] at e0 hR0
          rw [hv1] at e1 hR0
          rw [hv2] at e2 hR0
          rw [hv3] at e3 hR0
          have HR0 := Lib.hid hR0
          clear hv0 hv1 hv2 hv3
          have f2 := blk_cell HA.out.f 2
          have r1 := blk_cell HA.out.run.r 1
          have r3 := blk_cell HA.out.run.r 3
          unfold runCells at r1 r3
          simp at r1 r3
          have z0 := blk_cell HA.out.z 0
          have z1 := blk_cell HA.out.z 1
          have z2 := blk_cell HA.out.z 2
          have z3 := blk_cell HA.out.z 3
          have y0 := blk_frozen HA.out.z 0
          have y1 := blk_frozen HA.out.z 1
          have y2 := blk_frozen HA.out.z 2
          have y3 := blk_frozen HA.out.z 3
          unfold z4 at z0 z1 z2 z3
          simp at z0 z1 z2 z3 f2
          have hs1 : IntKind.i64.wrap ((l.length : Int) - 1) = (l.length : Int) - 1 := by rw [IntKind.wrap_i64]; omega
          have hs2 : ((l.length : Int) - 1).toNat = n' := by omega
          have hs3 : 0 ≤ (l.length : Int) - 1 := by omega
          have hs4 : (l.length : Int) - 1 < (l.length : Int) := by omega
          have hs5 : 1 ≤ (l.length : Int) := by omega
          have hs6 : 1 ≤ l.length := by omega
          have hs7 : n' < l.length := by omega
          have q1 : w.heap.size + 1 ≠ vB := HA.out.zv
          have q5 : w.heap.size ≠ vB := HA.out.fv
          have q6 : vB ≠ w.heap.size := q5.symm
          have q7 : w.heap.size ≠ vB + 1 := HA.out.fr
          have q2 : w.heap.size + 1 ≠ vB + 1 := HA.out.zr
          have q3 : vB ≠ w.heap.size + 1 := q1.symm
          have q4 : vB + 1 ≠ w.heap.size + 1 := q2.symm
          clear hR0 g hn'
          go_wp2_with fail
          go_region_held3 (fun w' => w'.cell? ⟨vB + 1, 1, none⟩ = some (.slice (some ⟨vB, 0, none⟩) l.length l.length) ∧ w'.cell? ⟨vB + 1, 3, none⟩ = some (.int .i64 used) ∧ w'.cell? ⟨w.heap.size, 2, none⟩ = some (.slice (some ⟨b, o, none⟩) l.length c) ∧ w'.cell? ⟨vB, n' * 4, none⟩ = some (.int .i64 v0) ∧ w'.cell? ⟨vB, n' * 4 + 1, none⟩ = some (.int .i64 v1) ∧ w'.cell? ⟨vB, n' * 4 + 2, none⟩ = some (.int .i64 v2) ∧ w'.cell? ⟨vB, n' * 4 + 3, none⟩ = some (.int .i64 v3)) (go_keep) (fail)
          go_wp2_with fail
          have HZf : wr.heap[w.heap.size + 1]? = some (.cells #[.int .i64 0, .int .i64 0, .int .i64 0, .int .i64 0] 44 (0, 0)) := HA.out.z
          refine bodyPost_ret (run_results _ (w.heap.size + 1) (.int .i64 v0) (.int .i64 v1) (.int .i64 v2) (.int .i64 v3) used 0 _ (blk_drew (blk_put (blk_put (blk_put (blk_put HZf 0 _ rfl) 1 _ rfl) 2 _ rfl) 3 _ rfl)) rfl rfl rfl) rfl ?_
          rw [HR0.out]
          exact ⟨v0, v1, v2, v3, rfl, rfl, (below_set (below_set (below_set (below_set HA.out.below _ _ hwz) _ _ hwz) _ _ hwz) _ _ hwz).drew⟩
        | succ g =>
          have hil : i < l.length := by omega
          have hz : (i : Int) < (l.length : Int) := by omega
          obtain ⟨x, hx⟩ : ∃ x, l[i]? = some x := ⟨_, List.getElem?_eq_getElem hil⟩
          obtain ⟨m, hsm, hmn⟩ := masks_next hx HMk.out
          have HSM := Lib.hid hsm
          have HMN := Lib.hid hmn
          have HDC := Lib.hid (drop_cons hx)
          have HSx := HST.out.below HA.out.below
          obtain ⟨k, a, d, nn⟩ := x
          have x0 : wr.cell? ⟨b, o + i * 4, none⟩ = some (.int .i64 k) := HSx.2 i _ hx 0 _ rfl
          have x1 : wr.cell? ⟨b, o + i * 4 + 1, none⟩ = some (.int .i64 a) := HSx.2 i _ hx 1 _ rfl
          have x2 : wr.cell? ⟨b, o + i * 4 + 2, none⟩ = some (.int .i64 d) := HSx.2 i _ hx 2 _ rfl
          have x3 : wr.cell? ⟨b, o + i * 4 + 3, none⟩ = some (.int .i64 nn) := HSx.2 i _ hx 3 _ rfl
          have HX := Lib.hid hx
          have HML := Lib.hid hml
          clear hx hsm hmn HSx hml
          go_wp2_with fail
          have HA1 := Lib.hid (HA.out.step (below_allocs wr (.cells #[.int .i64 k, .int .i64 a, .int .i64 d, .int .i64 nn] 32)))
          have HS1 := Lib.hid (blk_new wr (.cells #[.int .i64 k, .int .i64 a, .int .i64 d, .int .i64 nn] 32))
          have ns1 : wr.heap.size ≠ vB + 1 := by have := blk_lt HA.out.run.r; omega
          have ns2 : wr.heap.size ≠ vB := by have := blk_lt HA.out.run.v; omega
          have HSE1 : Hid (stepsE (pixI ins) bud l 0 (startE l.length) = (cellsE (pixI ins) bud ⟨k, a, d, nn⟩ i 4 0 ⟨V, used⟩).bind (stepsE (pixI ins) bud (l.drop (i + 1)) (i + 1))) := Lib.hid (by rw [HSE.out, HDC.out, stepsE])
          have HMM1 : Hid (Msk Bit3 (ms ++ [m]) (i * 4 + 0) V) := Lib.hid (by
            have := HMM.out
            rw [← HML.out] at this ⊢
            exact this.row m)
          clear x0 x1 x2 x3 HA HSE HMM HMk
          generalize wr.heap.size = sB at HS1 ns1 ns2 ⊢
          generalize wr.alloc (.cells #[.int .i64 k, .int .i64 a, .int .i64 d, .int .i64 nn] 32) = W2 at HA1 HS1 ⊢
          go_loopg [63] 4 (fun g' v63 wx => ∃ (cc : Nat) (V' : List Int) (used' : Int), cc + g' = 4 ∧ v63 = .int .i64 cc ∧ 0 ≤ used' ∧ used' ≤ 4 * i + cc ∧ Hid (AllAt w wx w.heap.size (w.heap.size + 1) (vB + 1) vB bi oi ci l.length bud used' V' (pixI ins) #[.string name, .int .i64 ver, .slice (some ⟨b, o, none⟩) l.length c]) ∧ Hid (wx.heap[sB]? = some (.cells #[.int .i64 k, .int .i64 a, .int .i64 d, .int .i64 nn] 32 (0, 0))) ∧ Hid (stepsE (pixI ins) bud l 0 (startE l.length) = (cellsE (pixI ins) bud ⟨k, a, d, nn⟩ i g' cc ⟨V', used'⟩).bind (stepsE (pixI ins) bud (l.drop (i + 1)) (i + 1))) ∧ Hid (Msk Bit3 (ms ++ [m]) (i * 4 + cc) V'))
          case atStart => exact ⟨0, V, used, rfl, rfl, hu0, by omega, HA1, HS1, HSE1, HMM1⟩
          case round =>
            obtain ⟨cc, V', used', hcg, rfl, hv0, hv1, HA, HS, HSE, HMM⟩ := hrel
            clear HA1 HS1 HSE1 HMM1
            cases gk with
            | zero =>
              obtain rfl : cc = 4 := by omega
              have HSE2 : Hid (stepsE (pixI ins) bud l 0 (startE l.length) = stepsE (pixI ins) bud (l.drop (i + 1)) (i + 1) ⟨V', used'⟩) := Lib.hid (by rw [HSE.out, cellsE]; rfl)
              have HMM2 : Hid (Msk Bit3 (ms ++ [m]) ((i + 1) * 4) V') := Lib.hid (by rw [show (i + 1) * 4 = i * 4 + 4 by omega]; exact HMM.out)
              clear HSE HMM
              go_wp2_with fail
              go_roundg g
              case measure => omega
              case rel => exact ⟨i + 1, V', used', ms ++ [m], by omega, by rw [List.length_append, HML.out]; rfl, by go_num, hv0, by omega, HMN, HA, HSE2, HMM2⟩
            | succ g' =>
              have hc4 : cc < 4 := by omega
              have hc4' : (cc : Int) < 4 := by omega
              have hcc0 : (0 : Int) ≤ (cc : Int) := by omega
              have hi0 : (0 : Int) ≤ (i : Int) := by omega
              obtain ⟨r, hr⟩ : ∃ r, valE (pixI ins) bud ⟨k, a, d, nn⟩ cc ⟨V', used'⟩ = r := ⟨_, rfl⟩
              have HRS := Lib.hid (rstep_calls (vB + 1) vB bi oi ci l.length bud used' V' (pixI ins) k a d nn i cc ms m wr HA.out.run HA.out.tab HSM.out HML.out hil hl40 hc4 HMM.out hv0 (by omega))
              rw [hr] at HRS
              have HVR := Lib.hid hr
              have s0 := blk_cell HS.out 0
              have s1 := blk_cell HS.out 1
              have s2 := blk_cell HS.out 2
              have s3 := blk_cell HS.out 3
              clear hr
              go_wp2_with fail
              refine HRS.out.mono ?_
              cases r with
              | none =>
                rintro e w2 ⟨rfl, hg⟩
                have HN : Hid (R = ([0, 0, 0, 0], 0, 9)) := Lib.hid (by
                  have h1 := HE.out
                  rw [HSE.out, cellsE, cellE_val, HVR.out] at h1
                  exact h1)
                have HZ2 := Lib.hid (blk_grown HA.out.z hg (fun e => HA.out.zr (by injection e)))
                have HB2 := Lib.hid (HA.out.below.grown hg HA.out.below.size (fun k hk => by injection hk with hk; have hk' : vB + 1 = k := hk; have := HA.out.br; omega))
                clear hg s0 s1 s2 s3 HSE HMM HRS
                unfold z4 at HZ2
                have b0 := blk_cell HZ2.out 0
                have b1 := blk_cell HZ2.out 1
                have b2 := blk_cell HZ2.out 2
                have b3 := blk_cell HZ2.out 3
                have f0 := blk_frozen HZ2.out 0
                have f1 := blk_frozen HZ2.out 1
                have f2 := blk_frozen HZ2.out 2
                have f3 := blk_frozen HZ2.out 3
                go_wp2_with fail
                refine bodyPost_ret (run_results _ (w.heap.size + 1) (.int .i64 0) (.int .i64 0) (.int .i64 0) (.int .i64 0) 0 9 _ (blk_put (blk_put (blk_put (blk_put HZ2.out 0 _ rfl) 1 _ rfl) 2 _ rfl) 3 _ rfl) rfl rfl rfl) rfl ?_
                rw [HN.out]
                exact ⟨0, 0, 0, 0, rfl, rfl, below_set (below_set (below_set (below_set HB2.out _ _ hwz) _ _ hwz) _ _ hwz) _ _ hwz⟩
              | some p =>
                obtain ⟨pv, pu⟩ := p
                rintro e w2 ⟨rfl, hrun, hg⟩
                have hvr := val_rng HVR.out
                have HA2 := Lib.hid (HA.out.paid hrun hg)
                have HS2 := Lib.hid (blk_grown HS.out hg (fun e => ns1 (by injection e)))
                have HSE2 : Hid (stepsE (pixI ins) bud l 0 (startE l.length) = (cellsE (pixI ins) bud ⟨k, a, d, nn⟩ i g' (cc + 1) ⟨V'.set (i * 4 + cc) pv, pu⟩).bind (stepsE (pixI ins) bud (l.drop (i + 1)) (i + 1))) := Lib.hid (by
                  rw [HSE.out, cellsE, cellE_val, HVR.out]
                  rfl)
                have HMM2 : Hid (Msk Bit3 (ms ++ [m]) (i * 4 + (cc + 1)) (V'.set (i * 4 + cc) pv)) := Lib.hid (by
                  have hce : cellE (pixI ins) bud ⟨k, a, d, nn⟩ ms.length cc ⟨V', used'⟩ = some ⟨V'.set (ms.length * 4 + cc) pv, pu⟩ := by rw [cellE_val, HVR.out]; rfl
                  have hmm := HMM.out
                  rw [← HML.out] at hmm ⊢
                  exact (bit3_cell l.length ms m _ cc _ _ HSM.out (by rw [HML.out]; exact hil) hc4 ⟨HA.out.run.len, hmm⟩ hce).2)
                have hpl : i * 4 + cc < V'.length := by rw [HA.out.run.len]; omega
                have HA3 := Lib.hid (HA2.out.put (i * 4 + cc) pv hvr.1)
                have HS3 := Lib.hid (blk_far (i := i * 4 + cc) (v := .int .i64 pv) HS2.out (fun e => ns2 e.symm))
                have t1 := blk_cell HA2.out.run.r 1
                unfold runCells at t1
                simp at t1
                have t2 := HA2.out.run.cell _ hpl
                have t3 := blk_frozen HA2.out.run.v (i * 4 + cc)
                have hp0 : 0 ≤ pu := by have := hvr.2.1; simp only at this; omega
                have hp1 : pu ≤ 4 * (i : Int) + ((cc + 1 : Nat) : Int) := by have := hvr.2.2; simp only at this; omega
                clear hrun hg hvr s0 s1 s2 s3 HSE HMM HRS HA HS HA2 HS2 hpl
                go_wp2_with fail
                go_roundg g'
                case measure => omega
                case rel => exact ⟨cc + 1, V'.set (i * 4 + cc) pv, pu, by omega, by go_num, hp0, hp1, HA3, HS3, HSE2, HMM2⟩
theorem run_calls (name : ByteArray) (ver : Int) (A IA : Option Addr) (c ci : Nat) (l ins : List FS) (bud : Int) (w : World) (hr : Kd.C L.k32 w A l.length l) (hI : Kd.C L.k32 w IA ins.length ins) (hT : LogicTab w) :
    Calls Tryd.prog 19 #[.agg #[.string name, .int .i64 ver, .slice A l.length c], .slice IA ins.length ci, .int .i64 bud] w (RunPost w (runE name.data.toList ver l ins.length (pixI ins) bud)) := by
  by_cases h : validB name.data.toList ver l = true ∧ ins.length = 4 ∧ 0 ≤ bud
  · exact run_main name ver A IA c ci l ins bud w hr hI hT h.1 h.2.1 h.2.2
  · have h2 : validB name.data.toList ver l = false ∨ ins.length ≠ 4 ∨ bud < 0 := by
      by_cases h3 : validB name.data.toList ver l = true
      · by_cases h4 : ins.length = 4
        · exact Or.inr (Or.inr (by have : ¬ 0 ≤ bud := fun h5 => h ⟨h3, h4, h5⟩
                                   omega))
        · exact Or.inr (Or.inl h4)
      · exact Or.inl (by simpa using h3)
    have he : runE name.data.toList ver l ins.length (pixI ins) bud = ([0, 0, 0, 0], 0, 1) := by
      unfold runE
      rw [if_neg (fun k => h ⟨k.1, k.2.1, k.2.2.1⟩)]
    rw [he]
    exact run_invalid name ver A IA c ci ins.length l bud w hr h2 hI.2.1
end Go.Proofs.YtamabdijeklgjaaDoor.Ext

/- exec.Full, walked. -/
namespace Go.Proofs.YtamabdijeklgjaaDoor.Ext
open Go Go.Proofs Go.RowKit Go.Proofs.YtamabdijeklgjaaDoorW.PrintWords
set_option linter.unusedVariables false
set_option linter.unusedSimpArgs false

theorem full_results (w : World) (q : Nat) (x0 x1 x2 x3 : Value) (er : Int) (tmps : Array Value) (h : w.heap[q]? = some (.cells #[x0, x1, x2, x3] 48 (0, 0)))
    (t4 : tmps.getD 4 undef = .pointer (some ⟨q, 0, none⟩)) (t5 : tmps.getD 5 undef = .int .i64 er) :
    (results Tryd.f20 tmps).run Tryd.prog w = .ok (.tuple #[.agg #[x0, x1, x2, x3], .int .i64 er]) w := by
  have hr : Tryd.f20.results = [ResultVar.cell 4 48, ResultVar.tmp 5].toArray := rfl
  have e0 := run_loadVar_row (P := Tryd.prog) w q 48 48 #[x0, x1, x2, x3] (0, 0) _ h Tryd.underlying48 rfl (by kernel_rfl)
  unfold results
  rw [hr, List.mapM_toArray]
  simp only [Sem.run_bind, Sem.run_map]
  rw [Array.getD_eq_getD_getElem?] at t4 t5
  simp [List.mapM_cons, t4, t5, asAddr, e0]
/-- exec.Full -/
def fullE (name : List UInt8) (ver : Int) (l : List FS) (ni : Nat) (I : List Int) : List Bool × Int :=
  if (runE name ver l ni I (4 * (l.length : Int))).2.2 = 0 then ((runE name ver l ni I (4 * (l.length : Int))).1.map (· == 1), 0) else ([false, false, false, false], (runE name ver l ni I (4 * (l.length : Int))).2.2)
def FullPost (w : World) (r : List Bool × Int) (e : Ending) (w' : World) : Prop :=
  ∃ b0 b1 b2 b3 : Bool, r.1 = [b0, b1, b2, b3] ∧ e = .returned (.tuple #[.agg #[.bool b0, .bool b1, .bool b2, .bool b3], .int .i64 r.2]) ∧ Below w.heap.size w w'
def maskV (q0 q1 q2 q3 : Bool) (n : Nat) : Array Value := #[.bool (decide (0 < n) && q0), .bool (decide (1 < n) && q1), .bool (decide (2 < n) && q2), .bool (decide (3 < n) && q3)]
set_option maxRecDepth 100000 in
set_option maxHeartbeats 4000000 in
theorem full_calls (name : ByteArray) (ver : Int) (A IA : Option Addr) (c ci : Nat) (l ins : List FS) (w : World) (hr : Kd.C L.k32 w A l.length l) (hI : Kd.C L.k32 w IA ins.length ins) (hT : LogicTab w) (hl : l.length ≤ 1000000) :
    Calls Tryd.prog 20 #[.agg #[.string name, .int .i64 ver, .slice A l.length c], .slice IA ins.length ci] w (FullPost w (fullE name.data.toList ver l ins.length (pixI ins))) := by
  have hB := below_alloc (below_allocs w (.cells #[.string name, .int .i64 ver, .slice A l.length c] 24)) (.cells #[.bool false, .bool false, .bool false, .bool false] 48)
  have HV := Lib.hid (run_calls name ver A IA c ci l ins (4 * (l.length : Int)) ((w.alloc (.cells #[.string name, .int .i64 ver, .slice A l.length c] 24)).alloc (.cells #[.bool false, .bool false, .bool false, .bool false] 48)) (Kd.C_below hr hB) (Kd.C_below hI hB) (hT.below hB))
  have HZ := Lib.hid (blk_two w (.cells #[.string name, .int .i64 ver, .slice A l.length c] 24) #[.bool false, .bool false, .bool false, .bool false] 48)
  have HB := Lib.hid hB
  obtain ⟨Q, hQ⟩ : ∃ Q, fullE name.data.toList ver l ins.length (pixI ins) = Q := ⟨_, rfl⟩
  rw [hQ]
  unfold fullE at hQ
  obtain ⟨⟨rv, ru, re⟩, hRR⟩ : ∃ R, runE name.data.toList ver l ins.length (pixI ins) (4 * (l.length : Int)) = R := ⟨_, rfl⟩
  rw [hRR] at HV hQ
  have HQ := Lib.hid hQ
  have hwz : w.heap.size ≤ w.heap.size + 1 := Nat.le_succ _
  clear hr hI hT hB hQ hRR
  go_enter Tryd.func20, Tryd.ntmps20
  go_wp2_with fail
  refine HV.out.mono ?_
  rintro e w1 ⟨v0, v1, v2, v3, hv, rfl, hb⟩
  have hv' : rv = [v0, v1, v2, v3] := hv
  subst hv'
  have HB1 := Lib.hid (below_step HB.out hb)
  have HZ1 := Lib.hid (blk_below HZ.out hb)
  clear hb HV HZ HB hv
  simp only at HQ ⊢
  by_cases hre : re = 0
  · subst hre
    have HQ2 : Hid (Q = ([v0 == 1, v1 == 1, v2 == 1, v3 == 1], 0)) := Lib.hid (by rw [← HQ.out]; rfl)
    clear HQ
    obtain ⟨q0, h0⟩ : ∃ q, (v0 == 1) = q := ⟨_, rfl⟩
    obtain ⟨q1, h1⟩ : ∃ q, (v1 == 1) = q := ⟨_, rfl⟩
    obtain ⟨q2, h2⟩ : ∃ q, (v2 == 1) = q := ⟨_, rfl⟩
    obtain ⟨q3, h3⟩ : ∃ q, (v3 == 1) = q := ⟨_, rfl⟩
    rw [h0, h1, h2, h3] at HQ2
    have H0 := Lib.hid h0
    have H1 := Lib.hid h1
    have H2 := Lib.hid h2
    have H3 := Lib.hid h3
    clear h0 h1 h2 h3
    go_wp2_with fail
    have HL := Lib.hid (blk_alloc (blk_new w1 (.cells #[.int .i64 v0, .int .i64 v1, .int .i64 v2, .int .i64 v3] 44)) (.cells #[.bool false, .bool false, .bool false, .bool false] 48))
    have HM := Lib.hid (blk_two w1 (.cells #[.int .i64 v0, .int .i64 v1, .int .i64 v2, .int .i64 v3] 44) #[.bool false, .bool false, .bool false, .bool false] 48)
    have HZ2 := Lib.hid (blk_alloc (blk_alloc HZ1.out (.cells #[.int .i64 v0, .int .i64 v1, .int .i64 v2, .int .i64 v3] 44)) (.cells #[.bool false, .bool false, .bool false, .bool false] 48))
    have HB2 := Lib.hid (below_alloc (below_alloc HB1.out (.cells #[.int .i64 v0, .int .i64 v1, .int .i64 v2, .int .i64 v3] 44)) (.cells #[.bool false, .bool false, .bool false, .bool false] 48))
    have hzl : w.heap.size + 1 < w1.heap.size := blk_lt HZ1.out
    clear HZ1 HB1
    generalize (w1.alloc (.cells #[.int .i64 v0, .int .i64 v1, .int .i64 v2, .int .i64 v3] 44)).alloc (.cells #[.bool false, .bool false, .bool false, .bool false] 48) = W at HL HM HZ2 HB2 ⊢
    generalize w1.heap.size = lB at HL HM hzl ⊢
    go_loopg [26] 4 (fun g v26 wx => ∃ cc : Nat, cc + g = 4 ∧ v26 = .int .i64 cc ∧ Hid (wx.heap[lB]? = some (.cells #[.int .i64 v0, .int .i64 v1, .int .i64 v2, .int .i64 v3] 44 (0, 0))) ∧ Hid (wx.heap[lB + 1]? = some (.cells (maskV q0 q1 q2 q3 cc) 48 (0, 0))) ∧ Hid (wx.heap[w.heap.size + 1]? = some (.cells #[.bool false, .bool false, .bool false, .bool false] 48 (0, 0))) ∧ Hid (Below w.heap.size w wx))
    case atStart => exact ⟨0, rfl, rfl, HL, HM, HZ2, HB2⟩
    case round =>
      obtain ⟨cc, hcg, rfl, HLx, HMx, HZx, HBx⟩ := hrel
      clear HL HM HZ2 HB2
      have n1 : lB ≠ lB + 1 := by omega
      have n2 : w.heap.size + 1 ≠ lB + 1 := by omega
      have n3 : lB + 1 ≠ w.heap.size + 1 := by omega
      have n4 : w.heap.size ≠ lB := by omega
      have n5 : lB ≠ w.heap.size := by omega
      have hwm : w.heap.size ≤ lB + 1 := by omega
      have c0 := blk_cell HLx.out 0
      have c1 := blk_cell HLx.out 1
      have c2 := blk_cell HLx.out 2
      have c3 := blk_cell HLx.out 3
      have m0 := blk_cell HMx.out 0
      have m1 := blk_cell HMx.out 1
      have m2 := blk_cell HMx.out 2
      have m3 := blk_cell HMx.out 3
      have g0 := blk_frozen HMx.out 0
      have g1 := blk_frozen HMx.out 1
      have g2 := blk_frozen HMx.out 2
      have g3 := blk_frozen HMx.out 3
      unfold maskV at m0 m1 m2 m3
      cases gk with
      | zero =>
        obtain rfl : cc = 4 := by omega
        have z0 := blk_cell HZx.out 0
        have z1 := blk_cell HZx.out 1
        have z2 := blk_cell HZx.out 2
        have z3 := blk_cell HZx.out 3
        have y0 := blk_frozen HZx.out 0
        have y1 := blk_frozen HZx.out 1
        have y2 := blk_frozen HZx.out 2
        have y3 := blk_frozen HZx.out 3
        go_wp2_with fail
        refine bodyPost_ret (full_results _ (w.heap.size + 1) (.bool q0) (.bool q1) (.bool q2) (.bool q3) 0 _ (blk_put (blk_put (blk_put (blk_put HZx.out 0 _ rfl) 1 _ rfl) 2 _ rfl) 3 _ rfl) rfl rfl) rfl ?_
        rw [HQ2.out]
        exact ⟨q0, q1, q2, q3, rfl, rfl, below_set (below_set (below_set (below_set HBx.out _ _ hwz) _ _ hwz) _ _ hwz) _ _ hwz⟩
      | succ g =>
        have hcs : cc = 0 ∨ cc = 1 ∨ cc = 2 ∨ cc = 3 := by omega
        rcases hcs with rfl | rfl | rfl | rfl
        · have hh := H0.out
          go_wp2_with fail
          go_roundg g
          case measure => omega
          case rel => exact ⟨1, by omega, by go_num, Lib.hid (blk_far (i := 0) (v := .bool q0) HLx.out n1.symm), Lib.hid (blk_put HMx.out 0 (.bool q0) rfl), Lib.hid (blk_far (i := 0) (v := .bool q0) HZx.out n3), Lib.hid (below_set HBx.out _ _ hwm)⟩
        · have hh := H1.out
          go_wp2_with fail
          go_roundg g
          case measure => omega
          case rel => exact ⟨2, by omega, by go_num, Lib.hid (blk_far (i := 1) (v := .bool q1) HLx.out n1.symm), Lib.hid (blk_put HMx.out 1 (.bool q1) rfl), Lib.hid (blk_far (i := 1) (v := .bool q1) HZx.out n3), Lib.hid (below_set HBx.out _ _ hwm)⟩
        · have hh := H2.out
          go_wp2_with fail
          go_roundg g
          case measure => omega
          case rel => exact ⟨3, by omega, by go_num, Lib.hid (blk_far (i := 2) (v := .bool q2) HLx.out n1.symm), Lib.hid (blk_put HMx.out 2 (.bool q2) rfl), Lib.hid (blk_far (i := 2) (v := .bool q2) HZx.out n3), Lib.hid (below_set HBx.out _ _ hwm)⟩
        · have hh := H3.out
          go_wp2_with fail
          go_roundg g
          case measure => omega
          case rel => exact ⟨4, by omega, by go_num, Lib.hid (blk_far (i := 3) (v := .bool q3) HLx.out n1.symm), Lib.hid (blk_put HMx.out 3 (.bool q3) rfl), Lib.hid (blk_far (i := 3) (v := .bool q3) HZx.out n3), Lib.hid (below_set HBx.out _ _ hwm)⟩
  · have HQ2 : Hid (Q = ([false, false, false, false], re)) := Lib.hid (by rw [← HQ.out, if_neg hre])
    have e0 : (re == 0) = false := by simpa using hre
    have e1 : (re != 0) = true := by simpa using hre
    have z0 := blk_cell HZ1.out 0
    have z1 := blk_cell HZ1.out 1
    have z2 := blk_cell HZ1.out 2
    have z3 := blk_cell HZ1.out 3
    have y0 := blk_frozen HZ1.out 0
    have y1 := blk_frozen HZ1.out 1
    have y2 := blk_frozen HZ1.out 2
    have y3 := blk_frozen HZ1.out 3
    have hzl : w.heap.size + 1 < w1.heap.size := blk_lt HZ1.out
    clear HQ hre
    go_wp2_with fail
    refine bodyPost_ret (full_results _ (w.heap.size + 1) (.bool false) (.bool false) (.bool false) (.bool false) re _ (blk_alloc (blk_put (blk_put (blk_put (blk_put HZ1.out 0 _ rfl) 1 _ rfl) 2 _ rfl) 3 _ rfl) _) rfl rfl) rfl ?_
    rw [HQ2.out]
    exact ⟨false, false, false, false, rfl, rfl, below_alloc (below_set (below_set (below_set (below_set HB1.out _ _ hwz) _ _ hwz) _ _ hwz) _ _ hwz) _⟩
end Go.Proofs.YtamabdijeklgjaaDoor.Ext
