/- What the listed package variables hold at the call's begin; the form's wrap; the arguments' readings as lists. -/
import Derived.Test.YtamabdijeklgjaaDoorTie
import Derived.Test.YtamabdijeklgjaaDoorCards
import Derived.Test.YtamabdijeklgjaaDoorL0
import Derived.Deep.Slices
import Derived.Carry
import Derived.DataReads
import Derived.ProofKit
import Derived.LaidMore
import Derived.OpenShut
import Derived.ShutString
import Derived.SizedLaws
import Derived.HandedShaped
import Derived.Stop.Joined
import Derived.Stop.LaidErr
import Derived.MakeChecks
import Derived.Lib.SmallJoins
namespace Go.Proofs.YtamabdijeklgjaaDoor.Ext
open Go Go.Proofs Go.RowKit Go.Proofs.YtamabdijeklgjaaDoorW.PrintWords

theorem bounds_u16 {a : Int} (h : (Lit.int .u16 a).wf = true) : 0 ≤ a ∧ a ≤ 65535 := by
  simp [Lit.wf, IntKind.min, IntKind.max, IntKind.signed, IntKind.bits] at h
  omega
theorem own : ownKnob Tryd.prog.godebug = none := by kernel_rfl
theorem laidOut : laidOutB Tryd.prog = true := by kernel_rfl
def laidF : List (String × DataW Unit) := [("math/bits.deBruijn32tab", Rows.laid_math_bits_deBruijn32tab), ("math/bits.deBruijn64tab", Rows.laid_math_bits_deBruijn64tab), ("internal/strconv.uint64pow10", Rows.laid_internal_strconv_uint64pow10), ("strconv.ErrRange", Rows.laid_strconv_ErrRange), ("strconv.ErrSyntax", Rows.laid_strconv_ErrSyntax)]
def laidX : List (String × DataW Unit) := [("math/bits.deBruijn32tab", Rows.laid_math_bits_deBruijn32tab), ("math/bits.deBruijn64tab", Rows.laid_math_bits_deBruijn64tab), ("internal/strconv.uint64pow10", Rows.laid_internal_strconv_uint64pow10), ("strconv.ErrRange", Rows.laid_strconv_ErrRange), ("strconv.ErrSyntax", Rows.laid_strconv_ErrSyntax), ("observatory/exec.logic", Rows.laid_observatory_exec_logic)]
/-- The door's own heap meets the condition. -/
theorem door_metF (os : Os) (args : Array Value) : laidMetH Tryd.prog laidF ((World.doorLaid Tryd.prog 400 os).forCall (fun _ _ => 0) ⟨#[], args, []⟩).memory :=
  laidMetH_of_parts3 (fuel := 8) (laidMet_of_run' 8 (by kernel_rfl) (by kernel_rfl)) (by kernel_rfl) (by kernel_rfl)
theorem door_metX (os : Os) (args : Array Value) : laidMetH Tryd.prog laidX ((World.doorLaid Tryd.prog 400 os).forCall (fun _ _ => 0) ⟨#[], args, []⟩).memory :=
  laidMetH_of_parts3 (fuel := 8) (laidMet_of_run' 8 (by kernel_rfl) (by kernel_rfl)) (by kernel_rfl) (by kernel_rfl)
section
variable {H : Type} {enc : TypeId × Value → H} {P : Program} {w : World} {base : Nat} {spare : Nat → Bool} {held : Bool}
/-- a slice that came in, read as a list -/
theorem rows_of {α : Type} (d : Kd α) {t e : TypeId} {fuel : Nat} {v : Value} {y : DataW H × List MemPlace} (ht : P.underlying t = some (.slice e)) (hC : P.cellsOf e = d.sz)
    (hel : ∀ (n : Nat) (cs : List Value) (y : DataW H × List MemPlace), DataW.trod enc P w base spare held n e cs = some y → ∃ x, d.K w x cs) (h : DataW.trod enc P w base spare held fuel t [v] = some y) :
    ∃ (A : Option Addr) (c : Nat) (l : List α), v = .slice A l.length c ∧ l.length ≤ c ∧ Kd.C d w A l.length l := by
  rcases Go.Deep.open_slice ht h with ⟨hcs, _⟩ | ⟨a, len, cap, m, n, D, Pl, hcs, hb, hl, hm, hmm, _, hi⟩
  · injection hcs with hv _
    exact ⟨none, 0, [], hv, Nat.le_refl _, rfl, Nat.zero_le _, fun hn => absurd hn (by simp)⟩
  · injection hcs with hv _
    have hlm : len ≤ m := by rw [hmm]; split <;> omega
    have key : ∀ k, k ≤ len → ∃ l : List α, l.length = k ∧ ∀ j p, l[j]? = some p → ∃ c : List Value, c.length = d.sz ∧ d.K w p c ∧ ∀ i u, c[i]? = some u → w.cell? (a.add (j * d.sz + i)) = some u := by
      intro k
      induction k with
      | zero => exact fun _ => ⟨[], rfl, fun j p hj => by simp at hj⟩
      | succ k ih =>
        intro hk
        obtain ⟨l, hll, hlp⟩ := ih (by omega)
        obtain ⟨cs', hc, ht'⟩ := hi k (by omega)
        obtain ⟨x, hx⟩ := hel _ _ _ ht'
        obtain ⟨_, hcl, hat⟩ := World.cells?_some hc
        rw [hC] at hcl hat
        refine ⟨l ++ [x], by simp [hll], fun j p hj => ?_⟩
        by_cases hjk : j < l.length
        · rw [List.getElem?_append_left hjk] at hj
          exact hlp j p hj
        · have hj' : j = k := by
            have := (List.getElem?_eq_some_iff.1 hj).1
            rw [List.length_append, List.length_singleton] at this
            omega
          subst hj'
          rw [List.getElem?_append_right (by omega), hll, Nat.sub_self] at hj
          obtain rfl : x = p := by simpa using hj
          refine ⟨cs', hcl, hx, fun i u hu => ?_⟩
          have hil : i < d.sz := by rw [← hcl]; exact (List.getElem?_eq_some_iff.1 hu).1
          rw [← Go.Deep.add_add, hat i hil]
          exact hu
    obtain ⟨l, hll, hlp⟩ := key len (Nat.le_refl _)
    refine ⟨some a, cap, l, by rw [hll]; exact hv, by omega, rfl, by unfold maxLen at hm; omega, fun _ => ⟨a, rfl, hlp⟩⟩
end
section
variable {H : Type} {enc : TypeId × Value → H} {w : World} {base : Nat} {spare : Nat → Bool} {held : Bool}
theorem list3 {α : Type} : ∀ (l : List α), l.length = 3 → ∃ a b c, l = [a, b, c]
  | [a, b, c], _ => ⟨a, b, c, rfl⟩
theorem list4 {α : Type} : ∀ (l : List α), l.length = 4 → ∃ a b c d, l = [a, b, c, d]
  | [a, b, c, d], _ => ⟨a, b, c, d, rfl⟩
theorem one_int {α : Type} {a b : α} (h : [a] = [b]) : a = b := by
  injection h
theorem c_int : Tryd.prog.cellsOf 3 = 1 := by kernel_rfl
theorem c_fs : Tryd.prog.cellsOf 32 = 4 := by kernel_rfl
theorem c_us : Tryd.prog.cellsOf 34 = 3 := by kernel_rfl
theorem c_px : Tryd.prog.cellsOf 55 = 4 := by kernel_rfl
theorem elem_step (n : Nat) (cs : List Value) (y : DataW H × List MemPlace) (h : DataW.trod enc Tryd.prog w base spare held n 32 cs = some y) : ∃ x, L.k32.K w x cs := by
  obtain ⟨xs, m, _, _, hl, hlen, hg⟩ := DataW.trod_struct Tryd.underlying32 h
  rw [c_fs] at hl
  obtain ⟨c0, c1, c2, c3, rfl⟩ := list4 cs hl
  obtain ⟨y0, y1, y2, y3, rfl⟩ := list4 xs hlen
  have g0 := hg 0 _ rfl
  have g1 := hg 1 _ rfl
  have g2 := hg 2 _ rfl
  have g3 := hg 3 _ rfl
  simp [c_int] at g0 g1 g2 g3
  obtain ⟨a0, e0, _⟩ := DataW.trod_int Tryd.underlying3 g0
  obtain ⟨a1, e1, _⟩ := DataW.trod_int Tryd.underlying3 g1
  obtain ⟨a2, e2, _⟩ := DataW.trod_int Tryd.underlying3 g2
  obtain ⟨a3, e3, _⟩ := DataW.trod_int Tryd.underlying3 g3
  have e0 := one_int e0
  have e1 := one_int e1
  have e2 := one_int e2
  have e3 := one_int e3
  subst e0
  subst e1
  subst e2
  subst e3
  exact ⟨⟨a0, a1, a2, a3⟩, L.k32_mk w ⟨a0, a1, a2, a3⟩⟩
theorem elem_unit (n : Nat) (cs : List Value) (y : DataW H × List MemPlace) (h : DataW.trod enc Tryd.prog w base spare held n 34 cs = some y) : ∃ x, L.k34.K w x cs := by
  obtain ⟨xs, m, _, _, hl, hlen, hg⟩ := DataW.trod_struct Tryd.underlying34 h
  rw [c_us] at hl
  obtain ⟨c0, c1, c2, rfl⟩ := list3 cs hl
  obtain ⟨y0, y1, y2, rfl⟩ := list3 xs hlen
  have g0 := hg 0 _ rfl
  have g1 := hg 1 _ rfl
  have g2 := hg 2 _ rfl
  simp [c_int] at g0 g1 g2
  obtain ⟨a0, e0, _⟩ := DataW.trod_int Tryd.underlying3 g0
  obtain ⟨a1, e1, _⟩ := DataW.trod_int Tryd.underlying3 g1
  obtain ⟨a2, e2, _⟩ := DataW.trod_int Tryd.underlying3 g2
  have e0 := one_int e0
  have e1 := one_int e1
  have e2 := one_int e2
  subst e0
  subst e1
  subst e2
  exact ⟨⟨a0, a1, a2⟩, L.k34_mk w ⟨a0, a1, a2⟩⟩
/-- four numbers of an input, in the shape of a step -/
theorem elem_pix (n : Nat) (cs : List Value) (y : DataW H × List MemPlace) (h : DataW.trod enc Tryd.prog w base spare held n 55 cs = some y) : ∃ x, L.k32.K w x cs := by
  obtain ⟨xs, m, _, _, hl, hlen, hg⟩ := DataW.trod_array Tryd.underlying55 h
  rw [c_px] at hl
  obtain ⟨c0, c1, c2, c3, rfl⟩ := list4 cs hl
  obtain ⟨y0, y1, y2, y3, rfl⟩ := list4 xs hlen
  have g0 := hg 0 (by decide)
  have g1 := hg 1 (by decide)
  have g2 := hg 2 (by decide)
  have g3 := hg 3 (by decide)
  simp [c_int] at g0 g1 g2 g3
  obtain ⟨a0, e0, _⟩ := DataW.trod_int Tryd.underlying3 g0
  obtain ⟨a1, e1, _⟩ := DataW.trod_int Tryd.underlying3 g1
  obtain ⟨a2, e2, _⟩ := DataW.trod_int Tryd.underlying3 g2
  obtain ⟨a3, e3, _⟩ := DataW.trod_int Tryd.underlying3 g3
  have e0 := one_int e0
  have e1 := one_int e1
  have e2 := one_int e2
  have e3 := one_int e3
  subst e0
  subst e1
  subst e2
  subst e3
  exact ⟨⟨a0, a1, a2, a3⟩, L.k32_mk w ⟨a0, a1, a2, a3⟩⟩
theorem reads_units {v : Value} {d : DataW H} {p : List MemPlace} (hv : ∃ a len cap, v = .slice a len cap) (h : DataW.Trod enc Tryd.prog w base spare held 25 v d p) : ∃ (A : Option Addr) (c : Nat) (l : List L.S34), v = .slice A l.length c ∧ l.length ≤ c ∧ Kd.C L.k34 w A l.length l := by
  obtain ⟨a, len, cap, rfl⟩ := hv
  obtain ⟨fuel, hf⟩ := h
  exact rows_of L.k34 Tryd.underlying25 c_us elem_unit (v := .slice a len cap) hf
theorem reads_pix {v : Value} {d : DataW H} {p : List MemPlace} (hv : ∃ a len cap, v = .slice a len cap) (h : DataW.Trod enc Tryd.prog w base spare held 41 v d p) : ∃ (A : Option Addr) (c : Nat) (l : List L.S32), v = .slice A l.length c ∧ l.length ≤ c ∧ Kd.C L.k32 w A l.length l := by
  obtain ⟨a, len, cap, rfl⟩ := hv
  obtain ⟨fuel, hf⟩ := h
  exact rows_of L.k32 Tryd.underlying41 c_px elem_pix (v := .slice a len cap) hf
set_option maxRecDepth 100000 in
theorem reads_flow {r : Reach} {b0 : Nat} {v : Value} {d : DataW H} {p : List MemPlace} (hv : Value.okWide Tryd.prog w r b0 24 v) (h : DataW.Trod enc Tryd.prog w base spare held 24 v d p) :
    ∃ (s : ByteArray) (n : Int) (A : Option Addr) (c : Nat) (l : List L.S32), v = .agg #[.string s, .int .i64 n, .slice A l.length c] ∧ l.length ≤ c ∧ Kd.C L.k32 w A l.length l := by
  obtain ⟨x0, x1, x2, y0, y1, y2, m, rfl, _, _, t0, t1, t2⟩ := Go.Joins.open_agg3 Tryd.underlying24 (by kernel_rfl) (by kernel_rfl) hv h
  obtain ⟨s, e0, _⟩ := DataW.trod_string Tryd.underlying9 t0
  obtain ⟨n, e1, _⟩ := DataW.trod_int Tryd.underlying3 t1
  obtain ⟨A, c, l, rfl, hl, hC⟩ := rows_of L.k32 Tryd.underlying22 c_fs elem_step t2
  have e0 := one_int e0
  have e1 := one_int e1
  subst e0
  subst e1
  exact ⟨s, n, A, c, l, rfl, hl, hC⟩
end
section
variable {H : Type} {enc : TypeId × Value → H}
/-- The form's wrap, with a condition on the world and the world's shape kept. -/
theorem wrap_cond {a : Assume} {C : Checked} {os : Os} {f : FuncId} {fn : Func} {s : ChangeSpec} {conds : List PathCond} {apart fresh handsOn again : Bool} {X : World → Array Value → Prop}
    (hX : ∀ (w w' : World) (args : Array Value), w.heap = w'.heap → X w args → X w' args)
    (own : ownKnob C.prog.godebug = none) (started : os.Started) (noInit : C.prog.inits.idxOf? f = none) (hfn : C.prog.funcs[f]? = some fn)
    (witness : ∃ (w : World) (tape : Tape) (i : Input), w.os = os ∧ (w.forCall tape i).Shaped C.prog ∧ i.vars = [] ∧ Input.okWide C.prog (w.forCall tape i) .any w.heap.size f i ∧
      ((s.pre enc C.prog fn conds apart (w.forCall tape i).memory i.args ∧ X (w.forCall tape i).memory i.args) ∧ sizedMet enc C.prog fn (OpenSpec.ofChange s) apart (w.forCall tape i).memory i.args) ∧ a.holds C.prog (lone (Frame.enter C.prog f i.args .normal) [] (w.forCall tape i)))
    (contract : ∀ (W : World) (base : Nat) (args : Array Value) (ds gs : List (DataW H)) (before : List MemPlace),
      (∀ (j : Nat) t v, fn.params[j]? = some t → args[j]? = some v → Value.okWide C.prog W .any base t v) →
      DataW.Whole enc C.prog fn.params.toList s.vars apart W args.toList ds gs before →
      conds.all (PathCond.test C.prog ⟨fn.params.toList, ds, s.plain.varTypes C.prog, gs⟩) = true →
      (DataW.weightsEach C.prog (fn.params.toList ++ s.plain.varTypes C.prog) (ds ++ gs)).all (· ≤ reachBytes) = true → X W args → W.ShapedOpen C.prog →
      a.holds C.prog (lone (Frame.enter C.prog f args .normal) [] W) →
      Calls C.prog f args W fun e W' => ∃ v, e = .returned v ∧ s.post enc C.prog fn apart fresh handsOn again W args v W') :
    ReturnsInHanded a C os f .any (fun w args => (s.pre enc C.prog fn conds apart w args ∧ X w args) ∧ sizedMet enc C.prog fn (OpenSpec.ofChange s) apart w args) (s.post enc C.prog fn apart fresh handsOn again) := by
  refine returnsInHanded_of_calls own started noInit witness ?_
  intro w tape i _ hsh _ hok hpre hholds
  obtain ⟨_, _, _, fn', hfn', _, _, _, _, hval⟩ := hok
  have e : fn' = fn := Option.some.inj (hfn'.symm.trans hfn)
  subst e
  obtain ⟨⟨⟨ds, gs, before, hw, hc⟩, hx⟩, hz⟩ := hpre
  have hw' := DataW.Whole.of_heap (w' := w.forCall tape i) (by rfl) hw
  refine (contract (w.forCall tape i) w.heap.size i.args ds gs before hval hw' hc (hz.weights hw) (hX _ _ _ (by rfl) hx) hsh hholds).mono fun e W' ⟨v, he, hp⟩ => ?_
  subst he
  exact ChangeSpec.post_blind hp
end
end Go.Proofs.YtamabdijeklgjaaDoor.Ext
