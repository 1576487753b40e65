/- A range over a function whose iterator counts up in a variable of its own: the law for the caller, and calendar.from's contract. -/
import Derived.RangeFuncFrom
import Derived.RangeFuncLeaves
import Derived.RangeFuncCalls
import Derived.Shelf.Abstract
import Derived.OwnWalkIn
import Derived.TacticsInMore
import Derived.LoopNIn
import Derived.LoopIn
import Derived.Test.YtmjgbngmkkeoiaaDoorG1
namespace Go.Proofs.YtmjgbngmkkeoiaaDoor.Ext
open Go Go.Proofs Go.RowKit Go.Shelf Go.Proofs.YtmjgbngmkkeoiaaDoorW.PrintWords Go.Proofs.YtmjgbngmkkeoiaaDoor.G

/-- The counter's block. -/
def Cnt (t : TypeId) (W : World) (Bm : Nat) (i : Int) : Prop := W.heap[Bm]? = some (.cells #[.int .i64 i] t (0, 0))

/-- How a round may end. -/
def cntPost (t : TypeId) (Bm : Nat) (i : Int) (I Ix : Int → World → Prop) (W : World) : Exit → Act → World → Prop
  | .normal, _, W' => KeepsOthers W W' ∧ I (i + 1) W' ∧ Cnt t W' Bm i
  | .ret, _, W' => KeepsOthers W W' ∧ Ix i W'
  | _, _, _ => False

/-- What the iterator promises. -/
def CntSeq (F : Fence) (n : Nat) (P : Program) (g : Nat) (lb : Array Value) (t : TypeId) (Bm : Nat) (m M : Int) : Prop :=
  ∀ (l : Nat) (I Ix : Int → World → Prop) (W : World),
    (∀ i W v, I i W → I i (W.setCell ⟨Bm, 0, none⟩ v)) →
    (∀ i W, m ≤ i → i ≤ M → I i W → Cnt t W Bm i → YieldAt F (n - 1) P l #[.int .i64 i] W fun e W' => (e = .returned (.bool true) ∧ I (i + 1) W' ∧ Cnt t W' Bm i) ∨ (e = .returned (.bool false) ∧ Ix i W')) →
    Cnt t W Bm m → I m W →
    CallsIn F n P g (#[.func (.yield l) #[] #[]] ++ lb) W fun e W' => (∃ v, e = .returned v) ∧ (I (M + 1) W' ∨ ∃ i, m ≤ i ∧ i ≤ M ∧ Ix i W')

variable {F : Fence} {n : Nat} {P : Program}
theorem rangeFunc_cnt {g : Operand} {ps : Array Tmp} {assign body : Code} {Q : Exit → Act → World → Prop} {a : Act} {w : World}
    (hro : F.round = none) (h1 : 1 ≤ n) {gf : Nat} {lb : Array Value} (hg : a.eval g = .func (.func gf) #[] lb) (hFg : F.fn gf) (eg : ∀ args w, (callFunc gf args).run P w = .ok (.enter gf args) w)
    {t : TypeId} {Bm : Nat} {m M : Int} (hseq : CntSeq F (n - 1) P gf lb t Bm m M) (hps : ps.size = 1) (hcnt : Cnt t w Bm m)
    (I Ix : Int → World → Prop)
    (hset : ∀ i W v, I i W → I i (W.setCell ⟨Bm, 0, none⟩ v))
    (hput : ∀ i W l o o', w.heap.size ≤ l → W.heap[l]? = some o → o.isCells = false → I i W → I i (W.putObj l o'))
    (hputx : ∀ i W l o o', w.heap.size ≤ l → W.heap[l]? = some o → o.isCells = false → Ix i W → Ix i (W.putObj l o'))
    (hall : ∀ i o1 o2, I i w → I i ((w.alloc o1).alloc o2))
    (h0 : I m w) (a₁ : Int → Act)
    (hassign : ∀ (l : Nat) (x : Int) (W : World) (K : Act → World → Prop), K (a₁ x) W →
      assign.wpIn (F.inRound l) (n - 1 - 1) P (Exit.then K (fun _ _ _ => False)) { tmps := (ps.zip #[.int .i64 x]).foldl (fun t (p, v) => t.setIfInBounds p v) a.tmps, defers := [] } W)
    (hbody : ∀ (l : Nat) (i : Int) (W : World), m ≤ i → i ≤ M → I i W → Cnt t W Bm i → body.wpIn (F.inRound l) (n - 1 - 1) P (cntPost t Bm i I Ix W) (a₁ i) W)
    (hdone : ∀ (D : Nat) (W : World), w.heap.size ≤ D → I (M + 1) W → W.heap[D]? = some (.deferred (some [])) → Q .normal { a with defers := { target := .collected D, args := #[] } :: a.defers } W)
    (hstop : ∀ (D : Nat) (i : Int) (W : World), w.heap.size ≤ D → m ≤ i → i ≤ M → Ix i W → W.heap[D]? = some (.deferred (some [])) → Code.ret.wpIn F n P Q { a with defers := { target := .collected D, args := #[] } :: a.defers } W) :
    (Code.rangeFunc g ps assign body).wpIn F n P Q a w := by
  refine wpIn_rangeFunc ?_
  intro fn hfn
  rw [hro]
  obtain ⟨rec, hrec⟩ : ∃ rec : LoopState → Option Code → Loop, rec = fun st pe => { state := st, pending := pe, fn, tmps := a.tmps, params := ps, assign, body, defers := w.heap.size } := ⟨_, rfl⟩
  obtain ⟨W1, hW1⟩ : ∃ W1, (w.alloc (.deferred (some []))).alloc (.loop (rec .ready none)) = W1 := ⟨_, rfl⟩
  have hL1 : W1.heap[w.heap.size + 1]? = some (.loop (rec .ready none)) := by
    rw [← hW1]; have := World.alloc_heap_new (w.alloc (.deferred (some []))) (.loop (rec .ready none)); rwa [World.size_alloc] at this
  have hK1 : W1.heap[w.heap.size]? = some (.deferred (some [])) := by
    rw [← hW1]; exact (Below.heap_alloc _ _ _ (by simp)).trans (World.alloc_heap_new w _)
  have hI1 : I m W1 := by rw [← hW1]; exact hall _ _ _ h0
  have hlt0 : Bm < w.heap.size := blk_lt hcnt
  have hC1 : Cnt t W1 Bm m := by rw [← hW1]; exact blk_alloc (blk_alloc hcnt _) _
  refine ⟨w.heap.size + 1, [{ target := .collected w.heap.size, args := #[] }], W1, { target := .fn (.func gf) lb, args := #[.func (.yield (w.heap.size + 1)) #[] #[]] }, W1, gf,
    #[.func (.yield (w.heap.size + 1)) #[] #[]] ++ lb, W1, ?_, ?_, ?_, ?_, fun _ => h1, ?_⟩
  · rw [← hW1, hrec]; exact run_enterLoop_outer _ _ _ _ _
  · simp only [resolve, hg]
    simp [go_sem]
  · intro f' hf'; simp [Target.leads] at hf'; subst hf'; exact hFg
  · simp [invoke, go_sem, eg]
  · refine (hseq (w.heap.size + 1)
      (fun i W => I i W ∧ W.heap[w.heap.size + 1]? = some (.loop (rec .ready none)) ∧ W.heap[w.heap.size]? = some (.deferred (some [])))
      (fun i W => Ix i W ∧ W.heap[w.heap.size + 1]? = some (.loop (rec .done (some .ret))) ∧ W.heap[w.heap.size]? = some (.deferred (some [])))
      W1 ?_ ?_ hC1 ⟨hI1, hL1, hK1⟩).mono ?_
    · rintro i W v ⟨hi, hl, hk⟩
      exact ⟨hset i W v hi, (Below.heap_setCell _ _ _ _ (by show _ ≠ Bm; omega)).trans hl, (Below.heap_setCell _ _ _ _ (by show _ ≠ Bm; omega)).trans hk⟩
    · rintro i W hmi hiM ⟨hi, hl, hk⟩ hc
      have hlt : w.heap.size + 1 < W.heap.size := (Array.getElem?_eq_some_iff.1 hl).1
      have hy := run_yield (P := P) (args := #[.int .i64 i]) hl (by rw [hrec]; exact hps.symm)
      rw [hrec] at hy
      refine ⟨fn, _, assign, body, hy, roundIn_of_wpIn hfn (hassign _ i W _ ⟨_, run_beginRound hl (by rw [hrec]), ?_⟩)⟩
      have hl2 : (W.putObj (w.heap.size + 1) (.loop { rec .ready none with state := .busy })).heap[w.heap.size + 1]? = some (.loop { rec .ready none with state := .busy }) := World.putObj_heap_same hlt
      have hk2 : (W.putObj (w.heap.size + 1) (.loop { rec .ready none with state := .busy })).heap[w.heap.size]? = some (.deferred (some [])) := (World.putObj_heap_other (by omega)).trans hk
      have hc2 : Cnt t (W.putObj (w.heap.size + 1) (.loop { rec .ready none with state := .busy })) Bm i := (World.putObj_heap_other (by omega)).trans hc
      refine wpIn_mono (hbody _ i _ hmi hiM (hput _ _ _ _ _ (by omega) hl rfl hi) hc2) ?_
      have fin : ∀ (jump : Option Code) (W3 : World), KeepsOthers (W.putObj (w.heap.size + 1) (.loop { rec .ready none with state := .busy })) W3 →
          (Instr.endRound (w.heap.size + 1) jump).run P W3 = .ok (.bool jump.isNone) (W3.putObj (w.heap.size + 1) (.loop (rec (if jump.isNone then .ready else .done) jump))) ∧
          W3.heap[w.heap.size + 1]? = some (.loop { rec .ready none with state := .busy }) ∧
          (W3.putObj (w.heap.size + 1) (.loop (rec (if jump.isNone then .ready else .done) jump))).heap[w.heap.size + 1]? = some (.loop (rec (if jump.isNone then .ready else .done) jump)) ∧
          (W3.putObj (w.heap.size + 1) (.loop (rec (if jump.isNone then .ready else .done) jump))).heap[w.heap.size]? = some (.deferred (some [])) := fun jump W3 hk3 => by
        have hl3 := hk3.same _ _ hl2 rfl
        have := run_endRound (P := P) jump hl3
        rw [hrec] at this ⊢
        exact ⟨this, by rw [hrec] at hl3; exact hl3, World.putObj_heap_same (Array.getElem?_eq_some_iff.1 hl3).1, (World.putObj_heap_other (by omega)).trans (hk3.same _ _ hk2 rfl)⟩
      rintro e a3 W3 hp
      cases e with
      | normal =>
        obtain ⟨hk3, hi3, hc3⟩ := hp
        obtain ⟨hr, hl3, hl4, hk4⟩ := fin none W3 hk3
        exact ⟨_, _, hr, .inl ⟨rfl, ⟨hput _ _ _ _ _ (by omega) hl3 rfl hi3, hl4, hk4⟩, (World.putObj_heap_other (by omega)).trans hc3⟩⟩
      | ret =>
        obtain ⟨hk3, hi3⟩ := hp
        obtain ⟨hr, hl3, hl4, hk4⟩ := fin (some .ret) W3 hk3
        exact ⟨_, _, hr, .inr ⟨rfl, hputx _ _ _ _ _ (by omega) hl3 rfl hi3, hl4, hk4⟩⟩
      | exit id => exact hp.elim
      | goto t => exact hp.elim
      | panic ch => exact hp.elim
      | outgrown => exact hp.elim
    · rintro e W2 ⟨⟨v, rfl⟩, (⟨hi, hl, hk⟩ | ⟨i, hmi, hiM, hi, hl, hk⟩)⟩
      · exact ⟨none, _, by have := run_endLoop (P := P) hl (by rw [hrec]; simp); rw [hrec] at this; exact this, hdone _ _ (Nat.le_refl _) (hput _ _ _ _ _ (by omega) hl rfl hi) ((World.putObj_heap_other (by omega)).trans hk)⟩
      · exact ⟨some .ret, _, by have := run_endLoop (P := P) hl (by rw [hrec]; simp); rw [hrec] at this; exact this, hstop _ i _ (Nat.le_refl _) hmi hiM (hputx _ _ _ _ _ (by omega) hl rfl hi) ((World.putObj_heap_other (by omega)).trans hk)⟩

/-! ### calendar.from's closure -/
attribute [local go_sem] Oper.semAt_some
def cellI (W : World) (b : Nat) : Int := match W.cell? ⟨b, 0, none⟩ with | some (.int _ i) => i | _ => 0
theorem cellI_eq {t : TypeId} {W : World} {b : Nat} {i : Int} (h : Cnt t W b i) : cellI W b = i := by unfold cellI; rw [blk_cell h 0]; rfl

theorem wrap_in {n : Int} (h1 : -9223372036854775808 ≤ n) (h2 : n ≤ 9223372036854775807) : wrap64 n = n := IntWalk.wrap64_in n ⟨h1, h2⟩

set_option maxRecDepth 100000 in
set_option maxHeartbeats 1000000 in
theorem from1_in (F : Fence) (n : Nat) (hf : F.fn 33) (hro : F.round = none) (hn : 1 ≤ n) (Bm : Nat) (m : Int) (hm0 : 0 ≤ m) (hm : m ≤ 38400) :
    CntSeq F n Tryd.prog 33 #[.pointer (some ⟨Bm, 0, none⟩)] 3 Bm m 38399 := by
  intro l I Ix W hset hY hc hi
  refine callsIn_of_wp Tryd.func33 rfl hf ?_ hro
  simp only [Tryd.ntmps33, List.size_toArray, List.length_cons, List.length_nil, Nat.reduceAdd, Nat.reduceSub, Array.replicate_succ, Array.replicate_zero, List.push_toArray, List.append_toArray, List.nil_append, List.cons_append]
  have HY := Lib.hid hY
  have HS := Lib.hid hset
  clear hY hset
  gi_wp2
  gi_loopw [3] (fun v3 wr => ∃ i : Int, m ≤ i ∧ i ≤ 38400 ∧ I i wr ∧ Hid (Cnt 3 wr Bm i)) (fun v3 wr => (38400 - cellI wr Bm).toNat)
  case atStart => exact ⟨m, Int.le_refl _, hm, hi, hc⟩
  case round =>
    obtain ⟨i, hmi, hiM, hI, HC⟩ := hrel
    have hcell := blk_cell HC.out 0
    have hfz := blk_frozen HC.out 0
    by_cases hle : i ≤ 38399
    · obtain ⟨fn, tmps, assign, body, hy, hR⟩ := HY.out i wr hmi hle hI HC.out
      have hb : decide (i ≤ 38399) = true := decide_eq_true hle
      have hj := wrap_in (n := i + 1) (by omega) (by omega)
      gi_wp2
      refine hR.mono ?_
      rintro e W3 (⟨rfl, hI3, hC3⟩ | ⟨rfl, hX3⟩)
      · clear hcell hfz
        have hcell := blk_cell hC3 0
        have hfz := blk_frozen hC3 0
        have HC3 := Lib.hid hC3
        have HI3 := Lib.hid hI3
        clear hC3 hI3
        gi_wp2
        go_roundw
        case rel => exact ⟨i + 1, by omega, by omega, HS.out _ _ _ HI3.out, Lib.hid (blk_set HC3.out 0 (.int .i64 (i + 1)))⟩
        case measure =>
          rw [cellI_eq HC.out, cellI_eq (t := 3) (i := i + 1) (blk_set HC3.out 0 (.int .i64 (i + 1)))]
          omega
      · gi_wp2
        go_end0
        exact ⟨⟨_, rfl⟩, .inr ⟨i, hmi, hle, hX3⟩⟩
    · have hb : decide (i ≤ 38399) = false := decide_eq_false hle
      have hI' : I (38399 + 1) wr := by rw [show (38399 : Int) + 1 = i from by omega]; exact hI
      have HI := Lib.hid hI'
      clear hI hI'
      gi_wp2
      refine ⟨fun _ h => (by cases h), ?_⟩
      gi_wp2
      go_end0
      exact ⟨⟨_, rfl⟩, .inl HI.out⟩
end Go.Proofs.YtmjgbngmkkeoiaaDoor.Ext
