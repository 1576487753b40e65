/- Several texts in one (FlowSpec ParSpec FlowA FlowB FlowC). -/
import Derived.Test.YtamabdijeklgjaaDoorLexSpec
import Derived.Test.YtamabdijeklgjaaDoorL0
import Derived.Test.YtamabdijeklgjaaDoorGb
import Derived.Deep.RegionHeld3
/- What flow's functions answer, in plain Lean. -/
namespace Go.Proofs.YtamabdijeklgjaaDoor.Ext
open Go Go.Proofs

structure Stp where
  op : Int
  a : Int
  b : Int
  n : Int
deriving DecidableEq
/-- an operator: its word, its symbol, how many operands, whether they are masks, whether its result is one, the greatest N -/
structure Opr where
  word : List UInt8
  sym : List UInt8
  arity : Int
  takes : Bool
  makes : Bool
  most : Int
deriving DecidableEq
def opr0 : Opr := ⟨[], [], 0, false, false, 0⟩
def oprL : List (Int × Opr) :=
  [(1, ⟨[105, 110], [], 0, false, false, 3⟩), (2, ⟨[], [43], 2, false, false, 0⟩), (3, ⟨[], [45], 2, false, false, 0⟩), (4, ⟨[], [42], 2, false, false, 0⟩),
   (5, ⟨[115, 99, 97, 108, 101], [], 1, false, false, 1000000⟩), (6, ⟨[109, 97, 120], [], 2, false, false, 0⟩), (7, ⟨[97, 116, 108, 101, 97, 115, 116], [], 1, false, true, 1000000⟩),
   (8, ⟨[97, 110, 100], [], 2, true, true, 0⟩), (9, ⟨[111, 114], [], 2, true, true, 0⟩), (10, ⟨[110, 111, 116], [], 1, true, true, 0⟩)]
def oprOf (k : Int) : Opr := (oprL.lookup k).getD opr0
def isOp (k : Int) : Bool := decide (1 ≤ k) && decide (k ≤ 10)
/-- a name, and nothing else -/
def ident (l : List UInt8) : Bool := match lexL l with
  | .good [t] => decide (t.kind = 1) && decide (t.text = l)
  | _ => false
end Go.Proofs.YtamabdijeklgjaaDoor.Ext

/- What flow.Parse answers, in plain Lean. -/
namespace Go.Proofs.YtamabdijeklgjaaDoor.Ext
open Go Go.Proofs

abbrev FS := L.S32
structure PState where
  toks : List Tok
  end_ : Int
  names : List (List UInt8)
  name : List UInt8
  ver : Int
  steps : List FS
inductive PR (α : Type) where
  | ok (a : α) (s : PState)
  | bad (e at_ : Int)
def PR.andThen {α β : Type} : PR α → (α → PState → PR β) → PR β
  | .ok a s, f => f a s
  | .bad e a, _ => .bad e a
def failE (e : Int) (s : PState) : Int := match s.toks with
  | [] => 6
  | _ :: _ => e
def failA (s : PState) : Int := match s.toks with
  | [] => s.end_
  | t :: _ => t.at_
def failP {α : Type} (e : Int) (s : PState) : PR α := .bad (failE e s) (failA s)
def seesP (s : PState) (k : Int) (x : List UInt8) : Bool := match s.toks with
  | [] => false
  | t :: _ => decide (t.kind = k) && (decide (x = []) || decide (t.text = x))
def PState.rest (s : PState) : PState := { s with toks := s.toks.tail }
def PState.hd (s : PState) : Tok := s.toks.headD ⟨0, [], 0, 0⟩
def mustP (s : PState) (k : Int) (x : List UInt8) : PR Tok := if seesP s k x = true then .ok s.hd s.rest else failP 5 s
def numberP (s : PState) (lo hi : Int) : PR Int := if seesP s 2 [] = true then (if s.hd.n < lo ∨ hi < s.hd.n then failP 9 s else .ok s.hd.n s.rest) else failP 5 s
def wFlow : List UInt8 := [102, 108, 111, 119]
def wOut : List UInt8 := [111, 117, 116]
/-- the words that no step can have as its name -/
def resL : List (List UInt8) := [wFlow, wOut, [105, 110], [115, 99, 97, 108, 101], [109, 97, 120], [97, 116, 108, 101, 97, 115, 116], [97, 110, 100], [111, 114], [110, 111, 116]]
def freeP (s : PState) : PR (List UInt8) := if (seesP s 1 [] && !(resL.contains s.hd.text)) = true then .ok s.hd.text s else failP 5 s
def makesP (s : PState) (i : Nat) : Bool := match s.steps[i]? with
  | some x => (oprOf x.f0).makes
  | none => false
def operandP (s : PState) (mask : Bool) : PR Int := (freeP s).andThen fun x s1 => match s1.names.findIdx? (· == x) with
  | none => failP 7 s1
  | some i => if (makesP s1 i != mask) = true then failP 1 s1 else .ok (i : Int) s1.rest
def wordOp (x : List UInt8) : Option (Int × Opr) := oprL.find? fun p => !p.2.word.isEmpty && p.2.word == x
def symOp (x : List UInt8) : Option (Int × Opr) := oprL.find? fun p => !p.2.sym.isEmpty && p.2.sym == x
def headWord (s : PState) : Option (Int × Opr) := match s.toks with
  | [] => none
  | t :: _ => if t.kind = 1 then wordOp t.text else none
def headSym (s : PState) : Option (Int × Opr) := match s.toks with
  | [] => none
  | t :: _ => if t.kind = 4 then symOp t.text else none
def optP (b : Bool) (s : PState) (f : PState → PR Int) : PR Int := if b = true then f s else .ok 0 s
def stepP (s : PState) : PR FS := match headWord s with
  | some (k, o) => (optP (decide (1 ≤ o.arity)) s.rest fun s => operandP s o.takes).andThen fun a s2 => (optP (decide (2 ≤ o.arity)) s2 fun s => operandP s o.takes).andThen fun b s3 =>
      (optP (decide (0 < o.most)) s3 fun s => numberP s 0 o.most).andThen fun n s4 => .ok ⟨k, a, b, n⟩ s4
  | none => (operandP s false).andThen fun a s1 => match headSym s1 with
    | none => failP 5 s1
    | some (k, _) => (operandP s1.rest false).andThen fun b s3 => .ok ⟨k, a, b, 0⟩ s3
def PState.push (s : PState) (own : List UInt8) (x : FS) : PState := { s with steps := s.steps ++ [x], names := s.names ++ [own] }
def roundP (s : PState) : PR Unit := (freeP s).andThen fun own s1 =>
  if s1.names.contains own = true then failP 8 s1 else if s1.names.length = 40 then failP 2 s1 else
  (mustP s1.rest 4 [61]).andThen fun _ s2 => (stepP s2).andThen fun x s3 => (mustP s3 4 [59]).andThen fun _ s4 => .ok () (s4.push own x)
def loopP : Nat → PState → PR Unit
  | 0, s => .ok () s
  | f + 1, s => if seesP s 1 wOut = true then .ok () s else (roundP s).andThen fun _ s1 => loopP f s1
def endP (s : PState) : PR Unit := (freeP s.rest).andThen fun x s1 =>
  if (decide (s1.names.length = 0) || !(s1.names.getLast? == some x)) = true then failP 7 s1 else
  if makesP s1 (s1.names.length - 1) = false then failP 1 s1 else
  (mustP s1.rest 4 [59]).andThen fun _ s2 => (mustP s2 4 [125]).andThen fun _ s3 => if 0 < s3.toks.length then failP 5 s3 else .ok () s3
def flowP (s : PState) : PR Unit := (mustP s 1 wFlow).andThen fun _ s1 => (mustP s1 1 []).andThen fun t s2 => (numberP { s2 with name := t.text } 1 99).andThen fun v s3 =>
  (mustP { s3 with ver := v } 4 [123]).andThen fun _ s4 => (loopP (s4.toks.length + 1) s4).andThen fun _ s5 => endP s5
inductive FlowR where
  | bad (e at_ : Int)
  | good (name : List UInt8) (ver : Int) (steps : List FS)
def startP (ts : List Tok) (n : Nat) : PState := ⟨ts, n, [], [], 0, []⟩
def parseL (l : List UInt8) : FlowR := match lexL l with
  | .bad e a => .bad e a
  | .good ts => match flowP (startP ts l.length) with
    | .bad e a => .bad e a
    | .ok _ s => .good s.name s.ver s.steps
end Go.Proofs.YtamabdijeklgjaaDoor.Ext

/- flow.operators, identifier, walked. -/
namespace Go.Proofs.YtamabdijeklgjaaDoor.Ext
open Go Go.Proofs Go.RowKit Go.Proofs.YtamabdijeklgjaaDoorW.PrintWords
set_option linter.unusedVariables false
set_option linter.unusedSimpArgs false

def oprCells (o : Opr) : Array Value := #[.string (bs o.word), .string (bs o.sym), .int .i64 o.arity, .bool o.takes, .bool o.makes, .int .i64 o.most]
def oprV (o : Opr) : Value := .agg (oprCells o)
def entsOf : List (Int × Opr) → Nat → List MapEntry
  | [], _ => []
  | (k, o) :: r, c => ⟨.int .i64 k, oprV o, c⟩ :: entsOf r (c + 1)
def oprE : List MapEntry := entsOf oprL 0
theorem put_new (w : World) (o o' : Obj) : { w.alloc o with heap := (w.alloc o).heap.setIfInBounds w.heap.size o' } = w.alloc o' := by
  simp only [World.alloc]
  congr 1
  apply Array.ext'
  simp [Array.setIfInBounds, Array.toList_push]
theorem check_int {P : Program} {kt : TypeId} (hk : P.underlying kt = some (.int .i64)) (b : Bool) (n : Int) (w : World) : (Instr.checkKey b 10000 kt (.int .i64 n)).run P w = .ok () w := by
  rw [Instr.checkKey]
  simp only [Sem.run_bind, run_underlying hk, Result.andThen_ok, Sem.run_pure]
theorem run_insert_new {P : Program} {w : World} (t kt et : TypeId) (hu : P.underlying t = some (.map kt et)) (hk : P.underlying kt = some (.int .i64)) (n : Int) (v : Value)
    (es : List MapEntry) (c : Nat) (hf : Instr.findNow (.int .i64) (.int .i64 n) es 0 = some none) :
    (Instr.mapUpdate t (.map (some w.heap.size)) (.int .i64 n) v).run P (w.alloc (.map es.toArray c)) = .ok () (w.alloc (.map (es ++ [MapEntry.mk (.int .i64 n) v c]).toArray (c + 1))) := by
  have hb : (w.alloc (.map es.toArray c)).heap[w.heap.size]? = some (.map es.toArray c) := blk_new w _
  have h2 : (Instr.findKey kt (.int .i64 n) es).run P (w.alloc (.map es.toArray c)) = .ok none (w.alloc (.map es.toArray c)) := by
    unfold Instr.findKey
    simp only [Sem.run_bind, run_underlying hk, Result.andThen_ok, hf, Sem.run_pure]
  have h3 : (getObj w.heap.size).run P (w.alloc (.map es.toArray c)) = .ok (.map es.toArray c) (w.alloc (.map es.toArray c)) := by
    simp only [getObj, Sem.run]
    rw [hb]
  have h4 : (setObj w.heap.size (.map (es.toArray.push (MapEntry.mk (.int .i64 n) v c)) (c + 1))).run P (w.alloc (.map es.toArray c)) = .ok () (w.alloc (.map (es ++ [MapEntry.mk (.int .i64 n) v c]).toArray (c + 1))) := by
    simp only [setObj, Sem.run]
    rw [hb]
    exact congrArg (Result.ok ()) ((put_new w _ _).trans (by rw [List.push_toArray]))
  unfold Instr.mapUpdate
  simp only [Sem.run_bind, run_underlying hu, Result.andThen_ok, h3, check_int hk, h2, h4]
theorem put_opr (w : World) (k : Int) (o : Opr) (es : List MapEntry) (c : Nat) (hf : Instr.findNow (.int .i64) (.int .i64 k) es 0 = some none) :
    (Instr.mapUpdate 70 (.map (some w.heap.size)) (.int .i64 k) (.agg #[.string ⟨o.word.toArray⟩, .string ⟨o.sym.toArray⟩, .int .i64 o.arity, .bool o.takes, .bool o.makes, .int .i64 o.most])).run Tryd.prog (w.alloc (.map es.toArray c)) =
      .ok () (w.alloc (.map (es ++ [MapEntry.mk (.int .i64 k) (oprV o) c]).toArray (c + 1))) :=
  run_insert_new (w := w) 70 3 68 Tryd.underlying70 Tryd.underlying3 k (oprV o) es c hf
set_option maxRecDepth 100000 in
set_option maxHeartbeats 1000000 in
theorem operators_calls (w : World) :
    Calls Tryd.prog 28 #[] w fun e w' => e = .returned (.map (some w.heap.size)) ∧ w' = w.alloc (.map oprE.toArray 10) := by
  have hmm := @run_makeMap Tryd.prog
  obtain ⟨e1, q1⟩ : ∃ e, entsOf (oprL.take 1) 0 = e := ⟨_, rfl⟩
  have h1 := put_opr w 1 (oprOf 1) (entsOf (oprL.take 0) 0) 0 rfl
  obtain ⟨e2, q2⟩ : ∃ e, entsOf (oprL.take 2) 0 = e := ⟨_, rfl⟩
  have h2 := put_opr w 2 (oprOf 2) (entsOf (oprL.take 1) 0) 1 rfl
  obtain ⟨e3, q3⟩ : ∃ e, entsOf (oprL.take 3) 0 = e := ⟨_, rfl⟩
  have h3 := put_opr w 3 (oprOf 3) (entsOf (oprL.take 2) 0) 2 rfl
  obtain ⟨e4, q4⟩ : ∃ e, entsOf (oprL.take 4) 0 = e := ⟨_, rfl⟩
  have h4 := put_opr w 4 (oprOf 4) (entsOf (oprL.take 3) 0) 3 rfl
  obtain ⟨e5, q5⟩ : ∃ e, entsOf (oprL.take 5) 0 = e := ⟨_, rfl⟩
  have h5 := put_opr w 5 (oprOf 5) (entsOf (oprL.take 4) 0) 4 rfl
  obtain ⟨e6, q6⟩ : ∃ e, entsOf (oprL.take 6) 0 = e := ⟨_, rfl⟩
  have h6 := put_opr w 6 (oprOf 6) (entsOf (oprL.take 5) 0) 5 rfl
  obtain ⟨e7, q7⟩ : ∃ e, entsOf (oprL.take 7) 0 = e := ⟨_, rfl⟩
  have h7 := put_opr w 7 (oprOf 7) (entsOf (oprL.take 6) 0) 6 rfl
  obtain ⟨e8, q8⟩ : ∃ e, entsOf (oprL.take 8) 0 = e := ⟨_, rfl⟩
  have h8 := put_opr w 8 (oprOf 8) (entsOf (oprL.take 7) 0) 7 rfl
  obtain ⟨e9, q9⟩ : ∃ e, entsOf (oprL.take 9) 0 = e := ⟨_, rfl⟩
  have h9 := put_opr w 9 (oprOf 9) (entsOf (oprL.take 8) 0) 8 rfl
  obtain ⟨e10, q10⟩ : ∃ e, entsOf (oprL.take 10) 0 = e := ⟨_, rfl⟩
  have h10 := put_opr w 10 (oprOf 10) (entsOf (oprL.take 9) 0) 9 rfl
  have q0 : entsOf (oprL.take 0) 0 = [] := rfl
  rw [show entsOf (oprL.take 0) 0 ++ [MapEntry.mk (.int .i64 1) (oprV (oprOf 1)) 0] = entsOf (oprL.take 1) 0 from rfl, q0, q1] at h1
  rw [show entsOf (oprL.take 1) 0 ++ [MapEntry.mk (.int .i64 2) (oprV (oprOf 2)) 1] = entsOf (oprL.take 2) 0 from rfl, q1, q2] at h2
  rw [show entsOf (oprL.take 2) 0 ++ [MapEntry.mk (.int .i64 3) (oprV (oprOf 3)) 2] = entsOf (oprL.take 3) 0 from rfl, q2, q3] at h3
  rw [show entsOf (oprL.take 3) 0 ++ [MapEntry.mk (.int .i64 4) (oprV (oprOf 4)) 3] = entsOf (oprL.take 4) 0 from rfl, q3, q4] at h4
  rw [show entsOf (oprL.take 4) 0 ++ [MapEntry.mk (.int .i64 5) (oprV (oprOf 5)) 4] = entsOf (oprL.take 5) 0 from rfl, q4, q5] at h5
  rw [show entsOf (oprL.take 5) 0 ++ [MapEntry.mk (.int .i64 6) (oprV (oprOf 6)) 5] = entsOf (oprL.take 6) 0 from rfl, q5, q6] at h6
  rw [show entsOf (oprL.take 6) 0 ++ [MapEntry.mk (.int .i64 7) (oprV (oprOf 7)) 6] = entsOf (oprL.take 7) 0 from rfl, q6, q7] at h7
  rw [show entsOf (oprL.take 7) 0 ++ [MapEntry.mk (.int .i64 8) (oprV (oprOf 8)) 7] = entsOf (oprL.take 8) 0 from rfl, q7, q8] at h8
  rw [show entsOf (oprL.take 8) 0 ++ [MapEntry.mk (.int .i64 9) (oprV (oprOf 9)) 8] = entsOf (oprL.take 9) 0 from rfl, q8, q9] at h9
  rw [show entsOf (oprL.take 9) 0 ++ [MapEntry.mk (.int .i64 10) (oprV (oprOf 10)) 9] = entsOf (oprL.take 10) 0 from rfl, q9, q10] at h10
  have HE : Hid (e10 = oprE) := Lib.hid q10.symm
  clear q0 q1 q2 q3 q4 q5 q6 q7 q8 q9 q10
  change (Instr.mapUpdate 70 (.map (some w.heap.size)) (.int .i64 1) (.agg #[.string ⟨#[105, 110]⟩, .string ⟨#[]⟩, .int .i64 0, .bool false, .bool false, .int .i64 3])).run Tryd.prog (w.alloc (.map #[] 0)) = .ok () (w.alloc (.map e1.toArray 1)) at h1
  change (Instr.mapUpdate 70 (.map (some w.heap.size)) (.int .i64 2) (.agg #[.string ⟨#[]⟩, .string ⟨#[43]⟩, .int .i64 2, .bool false, .bool false, .int .i64 0])).run Tryd.prog (w.alloc (.map e1.toArray 1)) = .ok () (w.alloc (.map e2.toArray 2)) at h2
  change (Instr.mapUpdate 70 (.map (some w.heap.size)) (.int .i64 3) (.agg #[.string ⟨#[]⟩, .string ⟨#[45]⟩, .int .i64 2, .bool false, .bool false, .int .i64 0])).run Tryd.prog (w.alloc (.map e2.toArray 2)) = .ok () (w.alloc (.map e3.toArray 3)) at h3
  change (Instr.mapUpdate 70 (.map (some w.heap.size)) (.int .i64 4) (.agg #[.string ⟨#[]⟩, .string ⟨#[42]⟩, .int .i64 2, .bool false, .bool false, .int .i64 0])).run Tryd.prog (w.alloc (.map e3.toArray 3)) = .ok () (w.alloc (.map e4.toArray 4)) at h4
  change (Instr.mapUpdate 70 (.map (some w.heap.size)) (.int .i64 5) (.agg #[.string ⟨#[115, 99, 97, 108, 101]⟩, .string ⟨#[]⟩, .int .i64 1, .bool false, .bool false, .int .i64 1000000])).run Tryd.prog (w.alloc (.map e4.toArray 4)) = .ok () (w.alloc (.map e5.toArray 5)) at h5
  change (Instr.mapUpdate 70 (.map (some w.heap.size)) (.int .i64 6) (.agg #[.string ⟨#[109, 97, 120]⟩, .string ⟨#[]⟩, .int .i64 2, .bool false, .bool false, .int .i64 0])).run Tryd.prog (w.alloc (.map e5.toArray 5)) = .ok () (w.alloc (.map e6.toArray 6)) at h6
  change (Instr.mapUpdate 70 (.map (some w.heap.size)) (.int .i64 7) (.agg #[.string ⟨#[97, 116, 108, 101, 97, 115, 116]⟩, .string ⟨#[]⟩, .int .i64 1, .bool false, .bool true, .int .i64 1000000])).run Tryd.prog (w.alloc (.map e6.toArray 6)) = .ok () (w.alloc (.map e7.toArray 7)) at h7
  change (Instr.mapUpdate 70 (.map (some w.heap.size)) (.int .i64 8) (.agg #[.string ⟨#[97, 110, 100]⟩, .string ⟨#[]⟩, .int .i64 2, .bool true, .bool true, .int .i64 0])).run Tryd.prog (w.alloc (.map e7.toArray 7)) = .ok () (w.alloc (.map e8.toArray 8)) at h8
  change (Instr.mapUpdate 70 (.map (some w.heap.size)) (.int .i64 9) (.agg #[.string ⟨#[111, 114]⟩, .string ⟨#[]⟩, .int .i64 2, .bool true, .bool true, .int .i64 0])).run Tryd.prog (w.alloc (.map e8.toArray 8)) = .ok () (w.alloc (.map e9.toArray 9)) at h9
  change (Instr.mapUpdate 70 (.map (some w.heap.size)) (.int .i64 10) (.agg #[.string ⟨#[110, 111, 116]⟩, .string ⟨#[]⟩, .int .i64 1, .bool true, .bool true, .int .i64 0])).run Tryd.prog (w.alloc (.map e9.toArray 9)) = .ok () (w.alloc (.map e10.toArray 10)) at h10
  go_enter Tryd.func28, Tryd.ntmps28
  go_wp2_with fail
  go_ret
  exact ⟨rfl, by rw [HE.out]⟩
end Go.Proofs.YtamabdijeklgjaaDoor.Ext

/- flow.identifier, walked; the operators' table looked up. -/
namespace Go.Proofs.YtamabdijeklgjaaDoor.Ext
open Go Go.Proofs Go.RowKit Go.Proofs.YtamabdijeklgjaaDoorW.PrintWords
set_option linter.unusedVariables false
set_option linter.unusedSimpArgs false

theorem lexE_bad (f : Nat) : ∀ (l : List UInt8) (n i : Nat) (e a : Int), lexE f l n i = .bad e a → e ≠ 0 := by
  induction f with
  | zero => intro l n i e a h; cases h
  | succ f ih =>
    intro l n i e a h
    rw [lexE] at h
    split at h
    · cases hn : nextL l i with
      | err e0 =>
        rw [hn] at h
        injection h with h1 _
        rw [← h1]
        exact nextL_err hn
      | tok t k =>
        rw [hn] at h
        dsimp only at h
        split at h
        · injection h with h1 _
          rw [← h1]
          decide
        · cases hr : lexE f l (n + 1) (gapL l k) with
          | bad e1 a1 =>
            rw [hr] at h
            injection h with h1 _
            rw [← h1]
            exact ih _ _ _ _ _ hr
          | good ts => rw [hr] at h; cases h
    · cases h
theorem lexL_bad {l : List UInt8} {e a : Int} (h : lexL l = .bad e a) : e ≠ 0 := by
  unfold lexL at h
  split at h
  · injection h with h1 _
    rw [← h1]
    decide
  · exact lexE_bad _ _ _ _ _ _ h
theorem str_eq (s : ByteArray) (l : List UInt8) : ((bs l).toList == s.toList) = decide (l = s.data.toList) := by
  rw [Lib.toList_data, Lib.toList_data, bs_list, Bool.eq_iff_iff]
  simp
set_option maxRecDepth 100000 in
set_option maxHeartbeats 1000000 in
theorem identifier_calls (s : ByteArray) (w : World) :
    Calls Tryd.prog 27 #[.string s] w fun e w' => e = .returned (.bool (ident s.data.toList)) ∧ Below w.heap.size w w' := by
  unfold ident
  have C := lex_calls s
  cases hR : lexL s.data.toList with
  | bad e0 a0 =>
    rw [hR] at C
    have he : (e0 == 0) = false := by simpa using lexL_bad hR
    clear hR
    go_enter Tryd.func27, Tryd.ntmps27
    go_wp2_with fail
    refine (C _).mono ?_
    rintro e w1 ⟨v, rfl, hb, _⟩
    have HB := Lib.hid hb
    clear hb
    simp only [lexV]
    go_wp2_with fail
    go_ret
    exact ⟨rfl, HB.out⟩
  | good ts =>
    rw [hR] at C
    clear hR
    have main : ∀ (b : Bool), (∀ ts' : List Tok, ts' = ts → True) → True := fun _ _ => trivial
    clear main
    match ts, C with
    | [], C =>
      go_enter Tryd.func27, Tryd.ntmps27
      go_wp2_with fail
      refine (C _).mono ?_
      rintro e w1 ⟨v, rfl, hb, hrow⟩
      have HB := Lib.hid hb
      obtain ⟨A, c, rfl⟩ := own_view (hrow _ rfl)
      clear hb hrow
      simp only [lexV]
      go_wp2_with fail
      go_ret
      exact ⟨rfl, HB.out⟩
    | a :: b :: r, C =>
      go_enter Tryd.func27, Tryd.ntmps27
      go_wp2_with fail
      refine (C _).mono ?_
      rintro e w1 ⟨v, rfl, hb, hrow⟩
      have HB := Lib.hid hb
      obtain ⟨A, c, rfl⟩ := own_view (hrow _ rfl)
      have hl : (((a :: b :: r).length : Nat) : Int) ≠ 1 := by simp; omega
      have hl' : ((((a :: b :: r).length : Nat) : Int) == 1) = false := by simpa using hl
      clear hb hrow hl
      generalize (a :: b :: r).length = n at hl'
      simp only [lexV]
      go_wp2_with fail
      go_ret
      exact ⟨rfl, HB.out⟩
    | [t], C =>
      have hq := str_eq s t.text
      dsimp only
      by_cases hk : t.kind = 1
      all_goals
        first
          | (have hk1 : (t.kind == 1) = true := by simpa using hk
             rw [decide_eq_true hk])
          | (have hk1 : (t.kind == 1) = false := by simpa using hk
             rw [decide_eq_false hk])
        have HQ := Lib.hid hq
        clear hq hk
        go_enter Tryd.func27, Tryd.ntmps27
        go_wp2_with fail
        refine (C _).mono ?_
        rintro e w1 ⟨v, rfl, hb, hrow⟩
        have HB := Lib.hid hb
        have ho := hrow _ rfl
        obtain ⟨g, c, rfl, _, hlt⟩ := ho.form (by simp)
        have hc := ho.cells (g := g) rfl
        have c0 := hc 0 (.int .i64 t.kind) (by rw [encT_one]; rfl)
        have c1 := hc 1 (.string (bs t.text)) (by rw [encT_one]; rfl)
        simp [Addr.add] at c0 c1
        clear hb hrow ho hc
        simp only [lexV]
        go_wp2_with fail
        go_ret
        exact ⟨by first | rfl | (rw [← HQ.out]; rfl), HB.out⟩
/-! ### the operators' table -/
theorem opr_find (k : Int) : Instr.findNow (.int .i64) (.int .i64 k) oprE 0 = some (if isOp k = true then some (k.toNat - 1, oprV (oprOf k)) else none) := by
  by_cases h : 1 ≤ k ∧ k ≤ 10
  · obtain ⟨h1, h2⟩ := h
    rcases (show k = 1 ∨ k = 2 ∨ k = 3 ∨ k = 4 ∨ k = 5 ∨ k = 6 ∨ k = 7 ∨ k = 8 ∨ k = 9 ∨ k = 10 by omega) with rfl | rfl | rfl | rfl | rfl | rfl | rfl | rfl | rfl | rfl <;> rfl
  · have hn : isOp k = false := by
      unfold isOp
      simp
      omega
    have q : ∀ j : Int, 1 ≤ j → j ≤ 10 → (k == j) = false := by intro j h1 h2; simp; omega
    rw [hn]
    simp only [oprE, oprL, entsOf, Instr.findNow, Instr.sameNow, q 1 (by omega) (by omega), q 2 (by omega) (by omega), q 3 (by omega) (by omega), q 4 (by omega) (by omega), q 5 (by omega) (by omega), q 6 (by omega) (by omega), q 7 (by omega) (by omega), q 8 (by omega) (by omega), q 9 (by omega) (by omega), q 10 (by omega) (by omega), if_true]
    rfl
theorem opr_none {k : Int} (h : isOp k = false) : oprOf k = opr0 := by
  have : ¬ (1 ≤ k ∧ k ≤ 10) := by
    unfold isOp at h
    simp at h
    omega
  have q : ∀ j : Int, 1 ≤ j → j ≤ 10 → (k == j) = false := by intro j h1 h2; simp; omega
  unfold oprOf oprL
  simp only [List.lookup, q 1 (by omega) (by omega), q 2 (by omega) (by omega), q 3 (by omega) (by omega), q 4 (by omega) (by omega), q 5 (by omega) (by omega), q 6 (by omega) (by omega), q 7 (by omega) (by omega), q 8 (by omega) (by omega), q 9 (by omega) (by omega), q 10 (by omega) (by omega)]
  rfl
theorem oprZ (w : World) : (zeroValue 68).run Tryd.prog w = .ok (oprV opr0) w := by kernel_rfl
/-- r is the operators' table -/
def TabAt (w : World) (r : Nat) : Prop := w.heap[r]? = some (.map oprE.toArray 10)
theorem look_opr (k : Int) (r : Nat) (w : World) (h : TabAt w r) (ok : Bool) :
    (Instr.lookup 70 (.map (some r)) (.int .i64 k) ok).run Tryd.prog w = .ok (if ok then .tuple #[oprV (oprOf k), .bool (isOp k)] else oprV (oprOf k)) w := by
  have h1 : (getObj r).run Tryd.prog w = .ok (.map oprE.toArray 10) w := by
    simp only [getObj, Sem.run]
    rw [show w.heap[r]? = _ from h]
  have h2 : (Instr.findKey 3 (.int .i64 k) oprE).run Tryd.prog w = .ok (if isOp k = true then some (k.toNat - 1, oprV (oprOf k)) else none) w := by
    unfold Instr.findKey
    simp only [Sem.run_bind, run_underlying Tryd.underlying3, Result.andThen_ok, opr_find, Sem.run_pure]
  unfold Instr.lookup
  simp only [Sem.run_bind, run_underlying Tryd.underlying70, Result.andThen_ok, h1, Sem.run_pure, check_int Tryd.underlying3]
  rw [h2]
  by_cases hk : isOp k = true
  · rw [if_pos hk, hk]
    cases ok <;> simp [Result.andThen]
  · have hk' : isOp k = false := by simpa using hk
    rw [if_neg hk, hk', opr_none hk']
    cases ok <;> simp [Result.andThen, oprZ] <;> rfl
end Go.Proofs.YtamabdijeklgjaaDoor.Ext

/- flow.Valid, walked. -/
namespace Go.Proofs.YtamabdijeklgjaaDoor.Ext
open Go Go.Proofs Go.RowKit Go.Proofs.YtamabdijeklgjaaDoorW.PrintWords
set_option linter.unusedVariables false
set_option linter.unusedSimpArgs false

def stepC (x : FS) : List Value := [.int .i64 x.f0, .int .i64 x.f1, .int .i64 x.f2, .int .i64 x.f3]
/-- the steps lie at block b from o on -/
def StepsAt (w : World) (b o : Nat) (l : List FS) : Prop := b < w.heap.size ∧ ∀ i x, l[i]? = some x → ∀ j v, (stepC x)[j]? = some v → w.cell? ⟨b, o + i * 4 + j, none⟩ = some v
theorem StepsAt.below {w w' : World} {b o : Nat} {l : List FS} (h : StepsAt w b o l) (hb : Below w.heap.size w w') : StepsAt w' b o l :=
  ⟨Nat.lt_of_lt_of_le h.1 hb.size, fun i x hi j v hv => (hb.cell (p := ⟨b, o + i * 4 + j, none⟩) h.1).trans (h.2 i x hi j v hv)⟩
theorem steps_view {w : World} {A : Option Addr} {l : List FS} (h : Kd.C L.k32 w A l.length l) (h0 : l ≠ []) : ∃ b o, A = some ⟨b, o, none⟩ ∧ StepsAt w b o l := by
  have hl : 0 < l.length := List.length_pos_iff.2 h0
  have key : ∀ i : Nat, i < l.length → ∃ ad, A = some ad ∧ ∀ x, l[i]? = some x → ∀ j v, (stepC x)[j]? = some v → w.cell? (ad.add (i * 4 + j)) = some v := by
    intro i hi
    obtain ⟨ad, c, e, _, hK, hc0⟩ := Kd.C_get h L.z32 (i : Int) (by omega) (by omega)
    have hc : ∀ j u, c[j]? = some u → w.cell? (ad.add ((i : Int).toNat * 4 + j)) = some u := hc0
    refine ⟨ad, e, fun x hx j v hv => ?_⟩
    have hk := L.k32_open hK
    have hx' : l.getD ((i : Int).toNat) L.z32 = x := by
      rw [Int.toNat_natCast, List.getD_eq_getElem?_getD, hx]
      rfl
    rw [hx'] at hk
    have := hc j v (by rw [hk]; exact hv)
    simpa using this
  obtain ⟨ad, rfl, h1⟩ := key 0 hl
  have hx0 : l[0]? = some l[0] := List.getElem?_eq_getElem hl
  have hc := h1 _ hx0 0 _ rfl
  obtain ⟨b, o, sp⟩ := ad
  have hadd : ∀ k, (⟨b, o, sp⟩ : Addr).add k = if k = 0 then ⟨b, o, sp⟩ else ⟨b, o + k, none⟩ := by
    intro k
    unfold Addr.add
    split <;> simp_all
  cases sp with
  | some s =>
    rw [hadd] at hc
    simp [World.cell?] at hc
    split at hc <;> simp at hc
  | none =>
    refine ⟨b, o, rfl, World.block_lt_of_cell? w _ (show w.cell? ⟨b, o, none⟩ = _ from by simpa [hadd] using hc), fun i x hx j v hv => ?_⟩
    obtain ⟨ad', e, h2⟩ := key i (List.getElem?_eq_some_iff.1 hx).1
    injection e with e
    subst e
    have := h2 x hx j v hv
    rw [hadd] at this
    split at this
    · rename_i h0
      rw [show o + i * 4 + j = o by omega]
      exact this
    · rw [show o + i * 4 + j = o + (i * 4 + j) by omega]
      exact this
/-! ### what flow.Valid answers -/
def okArg (o : Opr) (ms : List Bool) (k a : Int) : Bool :=
  if o.arity ≤ k then decide (a = 0) else decide (0 ≤ a) && (match ms[a.toNat]? with
    | some m => m == o.takes
    | none => false)
theorem okArg_yes {o : Opr} {ms : List Bool} {k a : Int} (h : okArg o ms k a = true) : (o.arity ≤ k ∧ a = 0) ∨ (k < o.arity ∧ 0 ≤ a ∧ ms[a.toNat]? = some o.takes) := by
  unfold okArg at h
  split at h
  · exact Or.inl ⟨‹_›, by simpa using h⟩
  · rw [Bool.and_eq_true] at h
    obtain ⟨h1, h2⟩ := h
    refine Or.inr ⟨by omega, by simpa using h1, ?_⟩
    split at h2
    · rename_i m hm
      rw [hm, eq_of_beq h2]
    · cases h2
theorem okArg_no {o : Opr} {ms : List Bool} {k a : Int} (h : okArg o ms k a = false) : (o.arity ≤ k ∧ a ≠ 0) ∨ (k < o.arity ∧ a < 0) ∨ (k < o.arity ∧ 0 ≤ a ∧ (ms.length : Int) ≤ a) ∨ (k < o.arity ∧ 0 ≤ a ∧ ∃ m, ms[a.toNat]? = some m ∧ (m != o.takes) = true) := by
  unfold okArg at h
  split at h
  · exact Or.inl ⟨‹_›, by simpa using h⟩
  · rw [Bool.and_eq_false_iff] at h
    have hk : k < o.arity := by omega
    by_cases h0 : 0 ≤ a
    · rcases h with h | h
      · simp at h
        omega
      · split at h
        · rename_i m hm
          exact Or.inr (Or.inr (Or.inr ⟨hk, h0, m, hm, by simpa [bne] using h⟩))
        · rename_i hm
          have := List.getElem?_eq_none_iff.1 hm
          exact Or.inr (Or.inr (Or.inl ⟨hk, h0, by omega⟩))
    · exact Or.inr (Or.inl ⟨hk, by omega⟩)
def stepM (ms : List Bool) (s : FS) : Option Bool :=
  if (isOp s.f0 && decide (0 ≤ s.f3) && decide (s.f3 ≤ (oprOf s.f0).most) && okArg (oprOf s.f0) ms 0 s.f1 && okArg (oprOf s.f0) ms 1 s.f2) = true then some (oprOf s.f0).makes else none
def masksL : List FS → List Bool → Option (List Bool)
  | [], ms => some ms
  | s :: r, ms => match stepM ms s with
    | some m => masksL r (ms ++ [m])
    | none => none
def lastM (l : List FS) : Bool := match masksL l [] with
  | some ms => ms.getLast? == some true
  | none => false
def validB (name : List UInt8) (ver : Int) (l : List FS) : Bool :=
  ident name && decide (1 ≤ ver) && decide (ver ≤ 99) && decide (1 ≤ l.length) && decide (l.length ≤ 40) && lastM l
theorem lastM_none {l : List FS} (h : masksL l [] = none) : lastM l = false := by
  unfold lastM
  rw [h]
theorem lastM_some {l : List FS} {ms : List Bool} (h : masksL l [] = some ms) : lastM l = (ms.getLast? == some true) := by
  unfold lastM
  rw [h]
theorem look_new (k : Int) (o : Opr) (ho : oprOf k = o) (ok : Bool) (W : World) :
    (Instr.lookup 70 (.map (some W.heap.size)) (.int .i64 k) ok).run Tryd.prog (W.alloc (.map oprE.toArray 10)) = .ok (if ok then .tuple #[.agg #[.string (bs o.word), .string (bs o.sym), .int .i64 o.arity, .bool o.takes, .bool o.makes, .int .i64 o.most], .bool (isOp k)] else .agg #[.string (bs o.word), .string (bs o.sym), .int .i64 o.arity, .bool o.takes, .bool o.makes, .int .i64 o.most]) (W.alloc (.map oprE.toArray 10)) := by
  subst ho
  exact look_opr k W.heap.size (W.alloc (.map oprE.toArray 10)) (blk_new W _) ok
theorem look_new1 (k : Int) (o : Opr) (ho : oprOf k = o) (ok : Bool) (W : World) :
    (Instr.lookup 70 (.map (some W.heap.size)) (.int .i64 k) ok).run Tryd.prog (W.alloc (.map oprE.toArray 10)).drew = .ok (if ok then .tuple #[.agg #[.string (bs o.word), .string (bs o.sym), .int .i64 o.arity, .bool o.takes, .bool o.makes, .int .i64 o.most], .bool (isOp k)] else .agg #[.string (bs o.word), .string (bs o.sym), .int .i64 o.arity, .bool o.takes, .bool o.makes, .int .i64 o.most]) (W.alloc (.map oprE.toArray 10)).drew := by
  subst ho
  exact look_opr k W.heap.size (W.alloc (.map oprE.toArray 10)).drew (blk_drew (blk_new W _)) ok
theorem look_new2 (k : Int) (o : Opr) (ho : oprOf k = o) (ok : Bool) (W : World) (ob : Obj) :
    (Instr.lookup 70 (.map (some W.heap.size)) (.int .i64 k) ok).run Tryd.prog ((W.alloc (.map oprE.toArray 10)).alloc ob).drew = .ok (if ok then .tuple #[.agg #[.string (bs o.word), .string (bs o.sym), .int .i64 o.arity, .bool o.takes, .bool o.makes, .int .i64 o.most], .bool (isOp k)] else .agg #[.string (bs o.word), .string (bs o.sym), .int .i64 o.arity, .bool o.takes, .bool o.makes, .int .i64 o.most]) ((W.alloc (.map oprE.toArray 10)).alloc ob).drew := by
  subst ho
  exact look_opr k W.heap.size ((W.alloc (.map oprE.toArray 10)).alloc ob).drew (blk_drew (blk_alloc (blk_new W _) _)) ok
theorem look_new3 (k : Int) (o : Opr) (ho : oprOf k = o) (ok : Bool) (W : World) (ob : Obj) :
    (Instr.lookup 70 (.map (some (W.heap.size + 1))) (.int .i64 k) ok).run Tryd.prog ((W.alloc ob).alloc (.map oprE.toArray 10)).drew = .ok (if ok then .tuple #[.agg #[.string (bs o.word), .string (bs o.sym), .int .i64 o.arity, .bool o.takes, .bool o.makes, .int .i64 o.most], .bool (isOp k)] else .agg #[.string (bs o.word), .string (bs o.sym), .int .i64 o.arity, .bool o.takes, .bool o.makes, .int .i64 o.most]) ((W.alloc ob).alloc (.map oprE.toArray 10)).drew := by
  subst ho
  have h := blk_drew (blk_new (W.alloc ob) (.map oprE.toArray 10))
  rw [World.size_alloc] at h
  exact look_opr k (W.heap.size + 1) ((W.alloc ob).alloc (.map oprE.toArray 10)).drew h ok
set_option maxRecDepth 100000 in
set_option maxHeartbeats 1000000 in
theorem valid_early (name : ByteArray) (ver : Int) (A : Option Addr) (c n : Nat) (w : World) (hn : n ≤ 9223372036854775807) (h : ident name.data.toList = false ∨ ver < 1 ∨ 99 < ver ∨ n < 1 ∨ 40 < n) :
    Calls Tryd.prog 13 #[.agg #[.string name, .int .i64 ver, .slice A n c]] w fun e w' => e = .returned (.bool false) ∧ Below w.heap.size w w' := by
  obtain ⟨q, hq⟩ : ∃ q, ident name.data.toList = q := ⟨_, rfl⟩
  have HQ := Lib.hid hq
  rw [hq] at h
  clear hq
  have d1 : ver < 1 ∨ ¬ ver < 1 := by omega
  have d2 : 99 < ver ∨ ¬ 99 < ver := by omega
  have d3 : n < 1 ∨ ¬ n < 1 := by omega
  have hB : Below w.heap.size w (w.alloc (.cells #[.string name, .int .i64 ver, .slice A n c] 24)) := (Below.refl _ _).alloc (Nat.le_refl _) _
  cases q
  · clear d1 d2 d3 h
    go_enter Tryd.func13, Tryd.ntmps13
    go_wp2_with fail
    refine (identifier_calls name _).mono ?_
    rintro e w1 ⟨rfl, hb⟩
    rw [HQ.out]
    have HB := Lib.hid (below_step hB hb)
    clear hb hB
    go_wp2_with fail
    go_ret
    exact ⟨rfl, HB.out⟩
  · have hz : ver < 1 ∨ (¬ ver < 1 ∧ 99 < ver) ∨ (¬ ver < 1 ∧ ¬ 99 < ver ∧ (n : Int) < 1) ∨ (¬ ver < 1 ∧ ¬ 99 < ver ∧ ¬ (n : Int) < 1 ∧ (40 : Int) < n) := by
      rcases h with h | h
      · cases h
      · omega
    clear d1 d2 d3 h
    have BK : Hid ((w.alloc (.cells #[.string name, .int .i64 ver, .slice A n c] 24)).heap[w.heap.size]? = some (.cells #[.string name, .int .i64 ver, .slice A n c] 24 (0, 0))) := Lib.hid (blk_new w _)
    rcases hz with h1 | ⟨h1, h2⟩ | ⟨h1, h2, h3⟩ | ⟨h1, h2, h3, h4⟩
    all_goals
      go_enter Tryd.func13, Tryd.ntmps13
      go_wp2_with fail
      refine (identifier_calls name _).mono ?_
      rintro e w1 ⟨rfl, hb⟩
      rw [HQ.out]
      have HB := Lib.hid (below_step hB hb)
      have HK := Lib.hid (blk_below BK.out hb)
      have c1 := blk_cell HK.out 1
      have c2 := blk_cell HK.out 2
      clear hb hB BK
      go_wp2_with fail
      go_ret
      exact ⟨rfl, HB.out⟩
end Go.Proofs.YtamabdijeklgjaaDoor.Ext
