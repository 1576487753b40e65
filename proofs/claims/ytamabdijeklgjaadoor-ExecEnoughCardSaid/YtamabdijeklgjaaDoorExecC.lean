/- exec.Run, walked: the early ends, the state. -/
import Derived.Test.YtamabdijeklgjaaDoorExecB
import Derived.Test.YtamabdijeklgjaaDoorGi
import Derived.Test.YtamabdijeklgjaaDoorFlowPl
namespace Go.Proofs.YtamabdijeklgjaaDoor.Ext
open Go Go.Proofs Go.RowKit Go.Proofs.YtamabdijeklgjaaDoorW.PrintWords
set_option linter.unusedVariables false
set_option linter.unusedSimpArgs false

def z4 : Array Value := #[.int .i64 0, .int .i64 0, .int .i64 0, .int .i64 0]
theorem run_results (w : World) (q : Nat) (x0 x1 x2 x3 : Value) (used er : Int) (tmps : Array Value) (h : w.heap[q]? = some (.cells #[x0, x1, x2, x3] 44 (0, 0)))
    (t6 : tmps.getD 6 undef = .pointer (some ⟨q, 0, none⟩)) (t7 : tmps.getD 7 undef = .int .i64 used) (t8 : tmps.getD 8 undef = .int .i64 er) :
    (results Tryd.f19 tmps).run Tryd.prog w = .ok (.tuple #[.agg #[x0, x1, x2, x3], .int .i64 used, .int .i64 er]) w := by
  have hr : Tryd.f19.results = [ResultVar.cell 6 44, ResultVar.tmp 7, ResultVar.tmp 8].toArray := rfl
  have e0 := run_loadVar_row (P := Tryd.prog) w q 44 44 #[x0, x1, x2, x3] (0, 0) _ h Tryd.underlying44 rfl (by kernel_rfl)
  unfold results
  rw [hr, List.mapM_toArray]
  simp only [Sem.run_bind, Sem.run_map]
  rw [Array.getD_eq_getD_getElem?] at t6 t7 t8
  simp [List.mapM_cons, t6, t7, t8, asAddr, e0]
/-- four numbers of an input -/
def pxL (x : FS) : List Int := [x.f0, x.f1, x.f2, x.f3]
def pixI (ins : List FS) : List Int := ins.flatMap pxL
def RunPost (w : World) (r : List Int × Int × Int) (e : Ending) (w' : World) : Prop :=
  ∃ v0 v1 v2 v3 : Int, r.1 = [v0, v1, v2, v3] ∧ e = .returned (.tuple #[.agg #[.int .i64 v0, .int .i64 v1, .int .i64 v2, .int .i64 v3], .int .i64 r.2.1, .int .i64 r.2.2]) ∧ Below w.heap.size w w'
set_option maxRecDepth 100000 in
set_option maxHeartbeats 2000000 in
theorem run_invalid (name : ByteArray) (ver : Int) (A I : Option Addr) (c ci ni : Nat) (l : List FS) (bud : Int) (w : World) (hr : Kd.C L.k32 w A l.length l) (h : validB name.data.toList ver l = false ∨ ni ≠ 4 ∨ bud < 0) (hni : ni ≤ 9223372036854775807) :
    Calls Tryd.prog 19 #[.agg #[.string name, .int .i64 ver, .slice A l.length c], .slice I ni ci, .int .i64 bud] w (RunPost w ([0, 0, 0, 0], 0, 1)) := by
  have hB := below_alloc (below_allocs w (.cells #[.string name, .int .i64 ver, .slice A l.length c] 24)) (.cells z4 44)
  have HV := Lib.hid (valid_of_reads name ver A c l ((w.alloc (.cells #[.string name, .int .i64 ver, .slice A l.length c] 24)).alloc (.cells z4 44)) (Kd.C_below hr hB))
  have HZ := Lib.hid (blk_two w (.cells #[.string name, .int .i64 ver, .slice A l.length c] 24) z4 44)
  have HB := Lib.hid hB
  obtain ⟨q, hq⟩ : ∃ q, validB name.data.toList ver l = q := ⟨_, rfl⟩
  rw [hq] at HV h
  obtain ⟨g4, hg4⟩ : ∃ g, ((ni : Int) != 4) = g := ⟨_, rfl⟩
  obtain ⟨gb, hgb⟩ : ∃ g, decide (bud < 0) = g := ⟨_, rfl⟩
  have hall : q = false ∨ g4 = true ∨ gb = true := by
    rcases h with h | h | h
    · exact Or.inl h
    · exact Or.inr (Or.inl (by rw [← hg4]; simp; omega))
    · exact Or.inr (Or.inr (by rw [← hgb]; exact decide_eq_true h))
  clear hq hB hr h
  unfold z4 at HZ HB HV
  go_enter Tryd.func19, Tryd.ntmps19
  go_wp2_with fail
  refine HV.out.mono ?_
  rintro e w1 ⟨rfl, hb⟩
  have HB1 := Lib.hid (below_step HB.out hb)
  have HZ1 := Lib.hid (blk_below HZ.out hb)
  clear hb HV HZ HB
  have b0 := blk_cell HZ1.out 0
  have b1 := blk_cell HZ1.out 1
  have b2 := blk_cell HZ1.out 2
  have b3 := blk_cell HZ1.out 3
  have f0 := blk_frozen HZ1.out 0
  have f1 := blk_frozen HZ1.out 1
  have f2 := blk_frozen HZ1.out 2
  have f3 := blk_frozen HZ1.out 3
  have hwz : w.heap.size ≤ w.heap.size + 1 := Nat.le_succ _
  cases q with
  | false =>
    go_wp2_with fail
    refine bodyPost_ret (run_results _ (w.heap.size + 1) (.int .i64 0) (.int .i64 0) (.int .i64 0) (.int .i64 0) 0 1 _ (blk_put (blk_put (blk_put (blk_put HZ1.out 0 _ rfl) 1 _ rfl) 2 _ rfl) 3 _ rfl) rfl rfl rfl) rfl ?_
    exact ⟨0, 0, 0, 0, rfl, rfl, below_set (below_set (below_set (below_set HB1.out _ _ hwz) _ _ hwz) _ _ hwz) _ _ hwz⟩
  | true =>
    cases g4 with
    | true =>
      go_wp2_with fail
      refine bodyPost_ret (run_results _ (w.heap.size + 1) (.int .i64 0) (.int .i64 0) (.int .i64 0) (.int .i64 0) 0 1 _ (blk_put (blk_put (blk_put (blk_put HZ1.out 0 _ rfl) 1 _ rfl) 2 _ rfl) 3 _ rfl) rfl rfl rfl) rfl ?_
      exact ⟨0, 0, 0, 0, rfl, rfl, below_set (below_set (below_set (below_set HB1.out _ _ hwz) _ _ hwz) _ _ hwz) _ _ hwz⟩
    | false =>
      cases gb with
      | false => simp at hall
      | true =>
        go_wp2_with fail
        refine bodyPost_ret (run_results _ (w.heap.size + 1) (.int .i64 0) (.int .i64 0) (.int .i64 0) (.int .i64 0) 0 1 _ (blk_put (blk_put (blk_put (blk_put HZ1.out 0 _ rfl) 1 _ rfl) 2 _ rfl) 3 _ rfl) rfl rfl rfl) rfl ?_
        exact ⟨0, 0, 0, 0, rfl, rfl, below_set (below_set (below_set (below_set HB1.out _ _ hwz) _ _ hwz) _ _ hwz) _ _ hwz⟩
/-- all that the loops hold -/
structure AllAt (w0 w : World) (fB zB rB vB bi oi ci n : Nat) (bud used : Int) (V I : List Int) (fc : Array Value) : Prop where
  run : RunAt w rB vB bi oi ci n bud used V I
  f : w.heap[fB]? = some (.cells fc 24 (0, 0))
  z : w.heap[zB]? = some (.cells z4 44 (0, 0))
  tab : LogicTab w
  below : Below w0.heap.size w0 w
  fr : fB ≠ rB
  fv : fB ≠ vB
  zr : zB ≠ rB
  zv : zB ≠ vB
  gr : rB ≠ 0
  gv : vB ≠ 0
  iv : vB ≠ bi
  br : w0.heap.size ≤ rB
  bv : w0.heap.size ≤ vB
section
variable {w0 w w' : World} {fB zB rB vB bi oi ci n : Nat} {bud used : Int} {V I : List Int} {fc : Array Value}
theorem AllAt.step (h : AllAt w0 w fB zB rB vB bi oi ci n bud used V I fc) (hb : Below w.heap.size w w') : AllAt w0 w' fB zB rB vB bi oi ci n bud used V I fc :=
  ⟨h.run.below hb, blk_below h.f hb, blk_below h.z hb, h.tab.below hb, below_step h.below hb, h.fr, h.fv, h.zr, h.zv, h.gr, h.gv, h.iv, h.br, h.bv⟩
theorem AllAt.paid (h : AllAt w0 w fB zB rB vB bi oi ci n bud used V I fc) {u : Int} (hr : RunAt w' rB vB bi oi ci n bud u V I) (hg : w.grownBy w' (some rB)) : AllAt w0 w' fB zB rB vB bi oi ci n bud u V I fc :=
  ⟨hr, blk_grown h.f hg (fun e => h.fr (by injection e)), blk_grown h.z hg (fun e => h.zr (by injection e)), h.tab.grown hg h.gr, h.below.grown hg h.below.size (fun k hk => by injection hk with hk; have hk' : rB = k := hk; have := h.br; omega), h.fr, h.fv, h.zr, h.zv, h.gr, h.gv, h.iv, h.br, h.bv⟩
theorem AllAt.put (h : AllAt w0 w fB zB rB vB bi oi ci n bud used V I fc) (p : Nat) (x : Int) (hx : -1000000000000 ≤ x ∧ x ≤ 1000000000000) : AllAt w0 (w.setCell ⟨vB, p, none⟩ (.int .i64 x)) fB zB rB vB bi oi ci n bud used (V.set p x) I fc := by
  have hg := setCell_grown w ⟨vB, p, none⟩ (.int .i64 x)
  refine ⟨⟨blk_grown h.run.r hg (fun e => h.run.ne (by injection e)), blk_put h.run.v p (.int .i64 x) (by simp [List.map_set]), Nat.lt_of_lt_of_le h.run.ib hg.size, fun k y hy => ?_, by rw [List.length_set]; exact h.run.len, h.run.ilen, fun y hy => ?_, h.run.ibnd, h.run.ne, h.run.nei⟩,
    blk_grown h.f hg (fun e => h.fv (by injection e)), blk_grown h.z hg (fun e => h.zv (by injection e)), h.tab.grown hg h.gv, below_set h.below _ _ h.bv, h.fr, h.fv, h.zr, h.zv, h.gr, h.gv, h.iv, h.br, h.bv⟩
  · have hb := hg.block bi h.run.ib (fun e => h.iv (by injection e with e; exact e.symm))
    have := h.run.i k y hy
    unfold World.cell? at this ⊢
    simp only at this ⊢
    rw [hb]
    exact this
  · rcases List.mem_or_eq_of_mem_set hy with hy | rfl
    · exact h.run.bnd y hy
    · exact hx
end
theorem far_rng {x : Int} (h : farE x = false) : -1000000000000 ≤ x ∧ x ≤ 1000000000000 := by
  unfold farE at h
  simp only [Bool.or_eq_false_iff, decide_eq_false_iff_not] at h
  omega
theorem val_rng {I : List Int} {bud : Int} {s : FS} {c : Nat} {x : EX} {p : Int × Int} (h : valE I bud s c x = some p) : (-1000000000000 ≤ p.1 ∧ p.1 ≤ 1000000000000) ∧ x.used ≤ p.2 ∧ p.2 ≤ x.used + 1 := by
  unfold valE at h
  split at h
  · obtain rfl := Option.some.inj h
    have := logic_rng s.f0 (opA s c x.v) (opB s c x.v)
    simp only
    omega
  · split at h
    · obtain rfl := Option.some.inj h
      simp only
      omega
    · split at h
      · cases h
      · rename_i hf
        obtain rfl := Option.some.inj h
        have := far_rng (by simpa using hf : farE _ = false)
        simp only
        omega
end Go.Proofs.YtamabdijeklgjaaDoor.Ext
