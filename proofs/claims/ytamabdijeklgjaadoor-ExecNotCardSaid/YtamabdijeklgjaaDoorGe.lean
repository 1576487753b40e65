/- Several texts in one (ParA ParB ParC ParD ParE). -/
import Derived.Test.YtamabdijeklgjaaDoorGc
import Derived.Deep.RegionHeld3
import Derived.Maps.RangeRun
import Derived.Deep.DeepCutAuto
/- flow.parser's sees, fail, take, must, number, walked. -/
namespace Go.Proofs.YtamabdijeklgjaaDoor.Ext
open Go Go.Proofs Go.RowKit Go.Proofs.YtamabdijeklgjaaDoorW.PrintWords
set_option linter.unusedVariables false
set_option linter.unusedSimpArgs false

/-! ### the parser in memory -/
/-- the tokens that are left -/
def TokRow (w : World) (g : Nat) (A : Option Addr) (ts : List Tok) : Prop := ts = [] ∨ ∃ off cs, A = some ⟨g, off, none⟩ ∧ w.heap[g]? = some (.cells cs 104 (0, 0)) ∧ ∀ j v, (encT ts)[j]? = some v → cs[off + j]? = some v
theorem TokRow.keep {w w' : World} {g : Nat} {A : Option Addr} {ts : List Tok} (h : TokRow w g A ts) (hk : ∀ (cs : Array Value), w.heap[g]? = some (Obj.cells cs 104 (0, 0)) → w'.heap[g]? = some (Obj.cells cs 104 (0, 0))) : TokRow w' g A ts := by
  rcases h with h | ⟨off, cs, h1, h2, h3⟩
  · exact Or.inl h
  · exact Or.inr ⟨off, cs, h1, hk cs h2, h3⟩
theorem TokRow.cells {w : World} {g : Nat} {A : Option Addr} {t : Tok} {r : List Tok} (h : TokRow w g A (t :: r)) : ∃ off, A = some ⟨g, off, none⟩ ∧ g < w.heap.size ∧ w.cell? ⟨g, off, none⟩ = some (.int .i64 t.kind) ∧ w.cell? ⟨g, off + 1, none⟩ = some (.string (bs t.text)) ∧ w.cell? ⟨g, off + 2, none⟩ = some (.int .i64 t.n) ∧ w.cell? ⟨g, off + 3, none⟩ = some (.int .i64 t.at_) := by
  rcases h with h | ⟨off, cs, rfl, h2, h3⟩
  · cases h
  · have e : encT (t :: r) = [.int .i64 t.kind, .string (bs t.text), .int .i64 t.n, .int .i64 t.at_] ++ encT r := by unfold encT; simp
    rw [e] at h3
    refine ⟨off, rfl, blk_lt h2, ?_, ?_, ?_, ?_⟩
    · rw [blk_cell h2]; exact h3 0 _ rfl
    · rw [blk_cell h2]; exact h3 1 _ rfl
    · rw [blk_cell h2]; exact h3 2 _ rfl
    · rw [blk_cell h2]; exact h3 3 _ rfl
theorem TokRow.tail {w : World} {g : Nat} {A : Option Addr} {t : Tok} {r : List Tok} {c : Nat} (h : TokRow w g A (t :: r)) (hc : (t :: r).length ≤ c) : TokRow w g (if c = 1 then A else A.map (·.add 4)) r := by
  rcases h with h | ⟨off, cs, rfl, h2, h3⟩
  · cases h
  · cases r with
    | nil => exact Or.inl rfl
    | cons t2 r2 =>
      have e : encT (t :: t2 :: r2) = [.int .i64 t.kind, .string (bs t.text), .int .i64 t.n, .int .i64 t.at_] ++ encT (t2 :: r2) := by unfold encT; simp
      rw [e] at h3
      simp only [List.length_cons] at hc
      rw [if_neg (by omega)]
      refine Or.inr ⟨off + 4, cs, by simp [Addr.add], h2, fun j v hv => ?_⟩
      have := h3 (4 + j) v (by rw [List.getElem?_append_right (by simp)]; simpa using hv)
      rw [show off + 4 + j = off + (4 + j) by omega]
      exact this
def encFS (l : List FS) : List Value := l.flatMap fun x => [.int .i64 x.f0, .int .i64 x.f1, .int .i64 x.f2, .int .i64 x.f3]
def encN (l : List (List UInt8)) : List Value := l.map fun x => .string (bs x)
/-- the parser's six cells -/
def pcells (TA : Option Addr) (tc : Nat) (NV SV : Value) (s : PState) : Array Value :=
  #[.slice TA s.toks.length tc, .int .i64 s.end_, NV, .string (bs s.name), .int .i64 s.ver, SV]
/-- the parser's state at block b of w; its own rows from B on -/
def PAt (w : World) (B b g : Nat) (NV SV : Value) (s : PState) : Prop := ∃ TA tc, w.heap[b]? = some (.cells (pcells TA tc NV SV s) 92 (0, 0)) ∧ s.toks.length ≤ tc ∧ TokRow w g TA s.toks ∧
  w.ownsRow B 9 1 NV s.names.length (encN s.names) ∧ w.ownsRow B 32 4 SV s.steps.length (encFS s.steps) ∧ B ≤ b ∧ s.names.length ≤ 40 ∧ s.steps.length = s.names.length ∧ g < b
theorem PAt.lt {w : World} {B b g : Nat} {NV SV : Value} {s : PState} (h : PAt w B b g NV SV s) : b < w.heap.size := by
  obtain ⟨_, _, h, _⟩ := h
  exact blk_lt h
/-- another block has changed at most, of another type than the parser's rows and itself -/
theorem PAt.keep {w w' : World} {B b g : Nat} {NV SV : Value} {s : PState} (h : PAt w B b g NV SV s) (hk : ∀ i, i < w.heap.size → w'.heap[i]? = w.heap[i]?) (hg : Below w.heap.size w w') : PAt w' B b g NV SV s := by
  obtain ⟨TA, tc, h1, h2, h3, h4, h5, h6, h7, h8, h9⟩ := h
  exact ⟨TA, tc, (hk b (blk_lt h1)).trans h1, h2, h3.keep fun cs hh => (hk g (blk_lt hh)).trans hh, own_below_ h4 hg, own_below_ h5 hg, h6, h7, h8, h9⟩
theorem PAt.below {w w' : World} {B b g : Nat} {NV SV : Value} {s : PState} (h : PAt w B b g NV SV s) (hg : Below w.heap.size w w') : PAt w' B b g NV SV s := h.keep hg.block hg
theorem own_grown {w w' : World} {B : Nat} {e : TypeId} {size n : Nat} {v : Value} {xs : List Value} {b : Nat} {cs : Array Value} {t : TypeId} (h : w.ownsRow B e size v n xs) (hb : w.heap[b]? = some (.cells cs t (0, 0))) (hne : e ≠ t) (hg : w.grownBy w' (some b)) : w'.ownsRow B e size v n xs := by
  refine h.kept hg ?_
  have := own_ne h hb hne
  cases hv : v.ownBlock with
  | none => simp
  | some g => rw [hv] at this; exact Or.inr (fun e => this e.symm)
/-- the parser's block has new cells, all else is as it was -/
theorem PAt.turn {w w' : World} {B b g : Nat} {NV SV : Value} {s s' : PState} (h : PAt w B b g NV SV s) (hg : w.grownBy w' (some b)) (hs : s'.names = s.names ∧ s'.steps = s.steps)
    (hc : ∀ TA tc, w.heap[b]? = some (.cells (pcells TA tc NV SV s) 92 (0, 0)) → s.toks.length ≤ tc → TokRow w g TA s.toks → ∃ TA' tc', w'.heap[b]? = some (.cells (pcells TA' tc' NV SV s') 92 (0, 0)) ∧ s'.toks.length ≤ tc' ∧ TokRow w g TA' s'.toks) : PAt w' B b g NV SV s' := by
  obtain ⟨TA, tc, h1, h2, h3, h4, h5, h6, h7, h8, h9⟩ := h
  obtain ⟨TA', tc', g1, g2, g3⟩ := hc TA tc h1 h2 h3
  refine ⟨TA', tc', g1, g2, g3.keep fun cs hh => (hg.block g (blk_lt hh) ?_).trans hh, ?_, ?_, h6, by rw [hs.1]; exact h7, by rw [hs.1, hs.2]; exact h8, h9⟩
  · intro e
    injection e with e
    omega
  · rw [hs.1]; exact own_grown h4 h1 (by decide) hg
  · rw [hs.2]; exact own_grown h5 h1 (by decide) hg
/-! ### how the parser's functions end -/
def failV (e at_ : Int) : List PanicEntry := [{ v := .iface 88 (.agg #[.int .i64 e, .int .i64 at_]), recovered := false }]
def PPost {α : Type} (enc : α → Value) (B b g : Nat) (NV SV : Value) (w : World) (r : PR α) (e : Ending) (w' : World) : Prop := match r with
  | .ok a s => e = .returned (enc a) ∧ PAt w' B b g NV SV s ∧ w.grownBy w' (some b)
  | .bad er at_ => e = .panicked (failV er at_) ∧ Below B w w'
theorem PPost.ok_ {α : Type} {enc : α → Value} {B b g : Nat} {NV SV : Value} {w : World} {r : PR α} {a : α} {s : PState} {e : Ending} {w' : World} (h : PPost enc B b g NV SV w r e w') (hr : r = .ok a s) : e = .returned (enc a) ∧ PAt w' B b g NV SV s ∧ w.grownBy w' (some b) := by subst hr; exact h
theorem PPost.bad_ {α : Type} {enc : α → Value} {B b g : Nat} {NV SV : Value} {w : World} {r : PR α} {er at_ : Int} {e : Ending} {w' : World} (h : PPost enc B b g NV SV w r e w') (hr : r = .bad er at_) : e = .panicked (failV er at_) ∧ Below B w w' := by subst hr; exact h
theorem below_of_grown {w w' : World} {B b : Nat} (hg : w.grownBy w' (some b)) (hb : B ≤ b) (hl : b < w.heap.size) : Below B w w' :=
  ⟨hg.os, hg.tape, hg.output, hg.size, fun k hk => hg.block k (by omega) (by simp; omega)⟩

set_option maxRecDepth 100000 in
set_option maxHeartbeats 1000000 in
theorem sees_calls (B b g : Nat) (NV SV : Value) (s : PState) (k : Int) (x : List UInt8) (w : World) (h : PAt w B b g NV SV s) :
    Calls Tryd.prog 58 #[.pointer (some ⟨b, 0, none⟩), .int .i64 k, .string (bs x)] w fun e w' => e = .returned (.bool (seesP s k x)) ∧ w' = w := by
  obtain ⟨TA, tc, h1, h2, h3, h4⟩ := h
  clear h4
  have c0 := blk_cell h1 0
  unfold pcells at c0
  have H1 := Lib.hid h1
  clear h1
  unfold seesP
  cases ht : s.toks with
  | nil =>
    rw [ht] at c0
    clear ht h2 h3
    simp at c0
    dsimp only
    go_enter Tryd.func58, Tryd.ntmps58
    go_wp2_with fail
    go_ret
    exact ⟨rfl, rfl⟩
  | cons t r =>
    rw [ht] at c0 h2 h3
    obtain ⟨off, rfl, hlt, t0, t1, t2, t3⟩ := h3.cells
    have hl : (0 : Int) < ((t :: r).length : Int) := by simp
    generalize (t :: r).length = n at c0 hl
    simp at c0
    clear ht h2 h3 t2 t3 hlt
    dsimp only
    have hq := str_eq (bs x) t.text
    rw [bs_list] at hq
    have hx : ((bs x).toList.isEmpty) = decide (x = []) := by rw [Lib.toList_data, bs_list]; cases x <;> rfl
    by_cases hk : t.kind = k
    · have hk' : (t.kind == k) = true := by simpa using hk
      rw [decide_eq_true hk]
      by_cases hx0 : x = []
      · rw [decide_eq_true hx0] at hx ⊢
        clear hq hk hx0
        go_enter Tryd.func58, Tryd.ntmps58
        go_wp2_with fail
        go_ret
        exact ⟨rfl, rfl⟩
      · rw [decide_eq_false hx0] at hx ⊢
        have HQ := Lib.hid hq
        clear hq hk hx0
        go_enter Tryd.func58, Tryd.ntmps58
        go_wp2_with fail
        go_ret
        exact ⟨by rw [← HQ.out]; rfl, rfl⟩
    · have hk' : (t.kind == k) = false := by simpa using hk
      rw [decide_eq_false hk]
      clear hq hk hx
      go_enter Tryd.func58, Tryd.ntmps58
      go_wp2_with fail
      go_ret
      exact ⟨rfl, rfl⟩
end Go.Proofs.YtamabdijeklgjaaDoor.Ext

/- flow.parser's fail, take, must, number, walked. -/
namespace Go.Proofs.YtamabdijeklgjaaDoor.Ext
open Go Go.Proofs Go.RowKit Go.Proofs.YtamabdijeklgjaaDoorW.PrintWords
set_option linter.unusedVariables false
set_option linter.unusedSimpArgs false

set_option maxRecDepth 100000 in
set_option maxHeartbeats 1000000 in
theorem fail_calls (B b g : Nat) (NV SV : Value) (s : PState) (e0 : Int) (w : World) (h : PAt w B b g NV SV s) :
    Calls Tryd.prog 61 #[.pointer (some ⟨b, 0, none⟩), .int .i64 e0] w fun e w' => e = .panicked (failV (failE e0 s) (failA s)) ∧ w' = w := by
  obtain ⟨TA, tc, h1, h2, h3, h4⟩ := h
  clear h4
  have c0 := blk_cell h1 0
  have c1 := blk_cell h1 1
  unfold pcells at c0 c1
  clear h1
  unfold failE failA
  cases ht : s.toks with
  | nil =>
    rw [ht] at c0
    clear ht h2 h3
    simp at c0 c1
    dsimp only
    go_enter Tryd.func61, Tryd.ntmps61
    go_wp2_with fail
    exact ⟨rfl, rfl, rfl⟩
  | cons t r =>
    rw [ht] at c0 h2 h3
    obtain ⟨off, rfl, hlt, t0, t1, t2, t3⟩ := h3.cells
    have hl : ((((t :: r).length : Nat) : Int) == 0) = false := by simp; omega
    have hl0 : (0 : Int) < ((t :: r).length : Int) := by simp
    generalize (t :: r).length = n at c0 hl hl0
    simp at c0 c1
    clear ht h2 h3 t0 t1 t2 hlt
    dsimp only
    go_enter Tryd.func61, Tryd.ntmps61
    go_wp2_with fail
    exact ⟨rfl, rfl, rfl⟩
theorem toks_rest {s : PState} {t : Tok} {r : List Tok} (h : s.toks = t :: r) : s.rest.toks = r ∧ s.hd = t := by
  unfold PState.rest PState.hd
  rw [h]
  exact ⟨rfl, rfl⟩
theorem PAt.settoks {w : World} {B b g : Nat} {NV SV : Value} {s : PState} (h : PAt w B b g NV SV s) (A' : Option Addr) (c' : Nat) (r : List Tok) (hlen : r.length ≤ c') (hrow : TokRow w g A' r) : PAt (w.setCell ⟨b, 0, none⟩ (.slice A' r.length c')) B b g NV SV { s with toks := r } :=
  h.turn (setCell_grown w ⟨b, 0, none⟩ _) ⟨rfl, rfl⟩ fun TA tc h1 _ _ => ⟨A', c', blk_put h1 0 _ (by simp [pcells]), hlen, hrow⟩
/-- the end of a function whose one result is a struct in memory -/
theorem cell_end {P : Program} {fn : Func} {R : Ending → World → Prop} {a : Act} {p : Tmp} {ty t : TypeId} {w : World} {g : Nat} {cs : Array Value} {fr : Nat × Nat} {d : TypeDesc} (h : fn.results = #[.cell p ty])
    (hp : a.tmps.getD p undef = .pointer (some ⟨g, 0, none⟩)) (hg : w.heap[g]? = some (.cells cs t fr))
    (hu : P.underlying ty = some d) (hd : (match d with | .struct _ | .array _ _ => true | _ => false) = true) (hi : (P.info? ty).map (·.size) = some cs.size) (hdf : a.defers = [])
    (hR : R (.returned (.agg cs)) w) : bodyPost P fn R .ret a w := by
  refine bodyPost_ret (v := .agg cs) ?_ hdf hR
  rw [results_cell1 h, hp]
  simp [asAddr, Result.andThen, run_loadVar_row _ _ t ty cs fr d hg hu hd hi]
theorem size_setCell (w : World) (a : Addr) (v : Value) : (w.setCell a v).heap.size = w.heap.size := by simp [World.setCell]
theorem new_under (w : World) (a : Addr) (v : Value) (cs : Array Value) (t : TypeId) (o : Obj) : (((w.setCell a v).alloc (.cells cs t)).alloc o).heap[w.heap.size]? = some (.cells cs t (0, 0)) := by
  have := blk_alloc (blk_new (w.setCell a v) (.cells cs t)) o
  rwa [size_setCell] at this
theorem grown_alloc {w w1 : World} {row : Option Nat} (h : w.grownBy w1 row) (o : Obj) : w.grownBy (w1.alloc o) row :=
  ⟨h.os, h.tape, h.output, Nat.le_trans h.size (by simp), fun k hk hne => (Below.heap_alloc w1 o k (Nat.lt_of_lt_of_le hk h.size)).trans (h.block k hk hne)⟩
theorem grown_below {w w1 w2 : World} {row : Option Nat} (h : w.grownBy w1 row) (hb : Below w1.heap.size w1 w2) : w.grownBy w2 row :=
  ⟨hb.os.trans h.os, hb.tape.trans h.tape, hb.output.trans h.output, Nat.le_trans h.size hb.size, fun k hk hne => (hb.block k (Nat.lt_of_lt_of_le hk h.size)).trans (h.block k hk hne)⟩
theorem grown_trans {w w1 w2 : World} {b : Nat} (h : w.grownBy w1 (some b)) (k : w1.grownBy w2 (some b)) : w.grownBy w2 (some b) :=
  ⟨k.os.trans h.os, k.tape.trans h.tape, k.output.trans h.output, Nat.le_trans h.size k.size, fun i hi hne => (k.block i (Nat.lt_of_lt_of_le hi h.size) hne).trans (h.block i hi hne)⟩
theorem below_allocs (w : World) (o : Obj) : Below w.heap.size w (w.alloc o) := below_alloc (Below.refl _ _) o
set_option maxRecDepth 100000 in
set_option maxHeartbeats 1000000 in
theorem take_calls (B b g : Nat) (NV SV : Value) (s : PState) (w : World) (h : PAt w B b g NV SV s) (ht : s.toks ≠ []) :
    Calls Tryd.prog 62 #[.pointer (some ⟨b, 0, none⟩)] w fun e w' => e = .returned (tokV s.hd) ∧ PAt w' B b g NV SV s.rest ∧ w.grownBy w' (some b) := by
  cases htk : s.toks with
  | nil => exact absurd htk ht
  | cons t r =>
    obtain ⟨er, eh⟩ := toks_rest htk
    have H := Lib.hid h
    have HT := Lib.hid htk
    obtain ⟨TA, tc, h1, h2, h3, h4⟩ := h
    clear h4
    rw [eh]
    have c0 := blk_cell h1 0
    have f0 := blk_frozen h1 0
    unfold pcells at c0
    rw [htk] at c0 h2 h3
    obtain ⟨off, rfl, hlt, t0, t1, t2, t3⟩ := h3.cells
    have hl0 : (0 : Int) < ((t :: r).length : Int) := by simp
    have hl1 : (1 : Int) ≤ ((t :: r).length : Int) := by rw [List.length_cons]; omega
    have hn : (t :: r).length = r.length + 1 := rfl
    have hb := blk_lt h1
    have H3 := Lib.hid h3
    have H2 := Lib.hid h2
    simp at c0
    clear htk h2 h3 ht er eh h1
    unfold tokV
    go_enter Tryd.func62, Tryd.ntmps62
    go_wp2_with fail
    all_goals
      refine cell_end rfl rfl (new_under w _ _ _ _ _) Tryd.underlying104 rfl (by kernel_rfl) rfl ⟨rfl, ?_, grown_alloc (grown_alloc (setCell_grown _ _ _) _) _⟩
      refine PAt.below (PAt.below (w' := World.alloc _ _) ?_ (below_allocs _ _)) (below_allocs _ _)
      have hs : s.rest = { s with toks := r } := by unfold PState.rest; rw [HT.out]; rfl
      rw [hs]
      refine H.out.settoks _ _ r ?_ ?_
    · have := H2.out; rw [List.length_cons] at this; omega
    · have := H3.out.tail H2.out
      rwa [if_pos (by assumption)] at this
    · have := H2.out; rw [List.length_cons] at this; omega
    · have := H3.out.tail H2.out
      rw [if_neg (by assumption)] at this
      simpa [Addr.add] using this
theorem seesP_ne {s : PState} {k : Int} {x : List UInt8} (h : seesP s k x = true) : s.toks ≠ [] := by
  intro e
  unfold seesP at h
  rw [e] at h
  cases h
theorem below_pat {w : World} {B b g : Nat} {NV SV : Value} {s : PState} (h : PAt w B b g NV SV s) {w' : World} (hb : Below w.heap.size w w') : Below B w w' := by
  have hl := h.lt
  obtain ⟨TA, tc, h1, h2, h3, h4, h5, h6, h7⟩ := h
  exact hb.mono (by omega)
/-- what a failing call leaves -/
theorem fail_in (B b g : Nat) (NV SV : Value) (s : PState) (e0 : Int) (w : World) (h : PAt w B b g NV SV s) :
    Calls Tryd.prog 61 #[.pointer (some ⟨b, 0, none⟩), .int .i64 e0] w fun e w' => e = .panicked (failV (failE e0 s) (failA s)) ∧ w = w' :=
  (fail_calls B b g NV SV s e0 w h).mono fun _ _ ⟨h1, h2⟩ => ⟨h1, h2.symm⟩
def tok0 : Obj := .cells #[.int .i64 0, .string ⟨#[]⟩, .int .i64 0, .int .i64 0] 104
/-- a store into a block that is younger than the call -/
theorem PAt.far {w w1 : World} {B b g : Nat} {NV SV : Value} {s0 s : PState} (h0 : PAt w B b g NV SV s0) (h : PAt w1 B b g NV SV s) (p : Addr) (v : Value) (hp : w.heap.size ≤ p.block) : PAt (w1.setCell p v) B b g NV SV s := by
  have hl := h0.lt
  obtain ⟨_, _, _, _, _, f4, f5, _, _, _, _⟩ := h0
  obtain ⟨TA, tc, g1, g2, g3, g4, g5, g6, g7, g8, g9⟩ := h
  have hg : w1.grownBy (w1.setCell p v) (some p.block) := setCell_grown w1 p v
  have apart : ∀ {e : TypeId} {size n : Nat} {V : Value} {xs : List Value}, w.ownsRow B e size V n xs → V.ownBlock = none ∨ V.ownBlock ≠ some p.block := by
    intro e size n V xs ho
    cases hv : V.ownBlock with
    | none => exact Or.inl rfl
    | some k =>
      have := (ho.lt k hv).2
      exact Or.inr (by simp; omega)
  exact ⟨TA, tc, (hg.block b (blk_lt g1) (by simp; omega)).trans g1, g2, g3.keep fun cs hh => (hg.block g (blk_lt hh) (by simp; omega)).trans hh, g4.kept hg (apart f4), g5.kept hg (apart f5), g6, g7, g8, g9⟩
theorem far_grown {w w1 : World} {b : Nat} (h : w.grownBy w1 (some b)) (p : Addr) (v : Value) (hp : w.heap.size ≤ p.block) : w.grownBy (w1.setCell p v) (some b) :=
  ⟨h.os, h.tape, h.output, by rw [size_setCell]; exact h.size, fun k hk hne => (Below.heap_setCell w1 p v k (by omega)).trans (h.block k hk hne)⟩
theorem must_done {w w2 : World} {B b g N : Nat} {NV SV : Value} {s : PState} {t : Tok} (h0 : PAt w B b g NV SV s) (h : PAt w2 B b g NV SV s.rest) (hg : w.grownBy w2 (some b)) {a0 a1 a2 a3 : Value} (hb : w2.heap[N]? = some (.cells #[a0, a1, a2, a3] 104 (0, 0))) (hN : w.heap.size = N) (ht : s.hd = t) :
    PPost tokV B b g NV SV w (.ok s.hd s.rest) (.returned (.agg #[.int .i64 t.kind, .string (bs t.text), .int .i64 t.n, .int .i64 t.at_])) ((((w2.setCell ⟨N, 0, none⟩ (.int .i64 t.kind)).setCell ⟨N, 1, none⟩ (.string (bs t.text))).setCell ⟨N, 2, none⟩ (.int .i64 t.n)).setCell ⟨N, 3, none⟩ (.int .i64 t.at_)) := by
  have hl := h0.lt
  have b1 := blk_put hb 0 (.int .i64 t.kind) rfl
  have b2 := blk_put b1 1 (.string (bs t.text)) rfl
  have b3 := blk_put b2 2 (.int .i64 t.n) rfl
  refine ⟨by rw [ht]; rfl, ?_, ?_⟩
  · refine h0.far (h0.far (h0.far (h0.far h _ _ ?_) _ _ ?_) _ _ ?_) _ _ ?_ <;> (show _ ≤ N; omega)
  · exact far_grown (far_grown (far_grown (far_grown hg _ _ (by show _ ≤ N; omega)) _ _ (by show _ ≤ N; omega)) _ _ (by show _ ≤ N; omega)) _ _ (by show _ ≤ N; omega)
set_option maxRecDepth 100000 in
set_option maxHeartbeats 1000000 in
theorem must_calls (B b g : Nat) (NV SV : Value) (s : PState) (k : Int) (x : List UInt8) (w : World) (h : PAt w B b g NV SV s) :
    Calls Tryd.prog 56 #[.pointer (some ⟨b, 0, none⟩), .int .i64 k, .string (bs x)] w (PPost tokV B b g NV SV w (mustP s k x)) := by
  have B1 : Hid (Below w.heap.size w (w.alloc (.cells #[.int .i64 0, .string ⟨#[]⟩, .int .i64 0, .int .i64 0] 104))) := Lib.hid (below_allocs _ _)
  have P1 : Hid (PAt (w.alloc (.cells #[.int .i64 0, .string ⟨#[]⟩, .int .i64 0, .int .i64 0] 104)) B b g NV SV s) := Lib.hid (h.below B1.out)
  have K1 : Hid ((w.alloc (.cells #[.int .i64 0, .string ⟨#[]⟩, .int .i64 0, .int .i64 0] 104)).heap[w.heap.size]? = some (.cells #[.int .i64 0, .string ⟨#[]⟩, .int .i64 0, .int .i64 0] 104 (0, 0))) := Lib.hid (blk_new w _)
  have H := Lib.hid h
  clear h
  unfold mustP
  cases hs : seesP s k x with
  | false =>
    have HS := Lib.hid hs
    rw [if_neg (by simp)]
    clear hs
    go_enter Tryd.func56, Tryd.ntmps56
    go_wp2_with fail
    refine (sees_calls B b g NV SV s k x _ P1.out).mono ?_
    rintro e w' ⟨rfl, rfl⟩
    rw [HS.out]
    go_wp2_with fail
    refine (fail_in B b g NV SV s 5 _ P1.out).mono ?_
    rintro e w' ⟨rfl, rfl⟩
    exact ⟨rfl, rfl, below_pat H.out B1.out⟩
  | true =>
    have HS := Lib.hid hs
    have hne := seesP_ne hs
    rw [if_pos rfl]
    clear hs
    go_enter Tryd.func56, Tryd.ntmps56
    go_wp2_with fail
    refine (sees_calls B b g NV SV s k x _ P1.out).mono ?_
    rintro e w' ⟨rfl, rfl⟩
    rw [HS.out]
    go_wp2_with fail
    refine (take_calls B b g NV SV s _ P1.out hne).mono ?_
    rintro e w2 ⟨rfl, hp, hg⟩
    have hbw : w.heap.size ≠ b := Nat.ne_of_gt H.out.lt
    have K2 := Lib.hid (blk_grown K1.out hg (by simp; exact hbw))
    have hg0 : w.grownBy w2 (some b) := grown_trans (grown_alloc ⟨rfl, rfl, rfl, Nat.le_refl _, fun _ _ _ => rfl⟩ _) hg
    have HG := Lib.hid hg0
    have HP := Lib.hid hp
    obtain ⟨t, ht⟩ : ∃ t, s.hd = t := ⟨_, rfl⟩
    rw [ht]
    have HT := Lib.hid ht
    generalize hBw : w.heap.size = N at K2
    have HN := Lib.hid hBw
    unfold tokV
    have c0 := blk_cell K2.out 0
    have c1 := blk_cell K2.out 1
    have c2 := blk_cell K2.out 2
    have c3 := blk_cell K2.out 3
    have f0 := blk_frozen K2.out 0
    have f1 := blk_frozen K2.out 1
    have f2 := blk_frozen K2.out 2
    have f3 := blk_frozen K2.out 3
    clear hp hg hg0 hbw ht hBw hne
    go_wp2_with fail
    refine cell_end rfl rfl (tok_ret K2.out (Below.refl _ _) (Nat.le_refl _) _ _ _ _).1 Tryd.underlying104 rfl (by kernel_rfl) rfl ?_
    exact must_done H.out HP.out HG.out K2.out HN.out HT.out
theorem tok_field1 (a b c d : Value) (w : World) : (Instr.field 104 (.agg #[a, b, c, d]) 1).run Tryd.prog w = .ok b w := by kernel_rfl
theorem tok_field2 (a b c d : Value) (w : World) : (Instr.field 104 (.agg #[a, b, c, d]) 2).run Tryd.prog w = .ok c w := by kernel_rfl
def intV (n : Int) : Value := .int .i64 n
theorem PAt.hd_ {w : World} {B b g : Nat} {NV SV : Value} {s : PState} (h : PAt w B b g NV SV s) (hne : s.toks ≠ []) : ∃ off n tc, 0 < n ∧ n = s.toks.length ∧ w.cell? ⟨b, 0, none⟩ = some (.slice (some ⟨g, off, none⟩) n tc) ∧ w.cell? ⟨g, off, none⟩ = some (.int .i64 s.hd.kind) ∧ w.cell? ⟨g, off + 1, none⟩ = some (.string (bs s.hd.text)) ∧ w.cell? ⟨g, off + 2, none⟩ = some (.int .i64 s.hd.n) ∧ w.cell? ⟨g, off + 3, none⟩ = some (.int .i64 s.hd.at_) := by
  obtain ⟨TA, tc, h1, h2, h3, h4⟩ := h
  cases ht : s.toks with
  | nil => exact absurd ht hne
  | cons t r =>
    have c0 := blk_cell h1 0
    rw [ht] at h3
    obtain ⟨off, rfl, _, t0, t1, t2, t3⟩ := h3.cells
    rw [(toks_rest ht).2]
    exact ⟨off, s.toks.length, tc, by rw [ht]; simp, by rw [ht], by rw [c0]; rfl, t0, t1, t2, t3⟩
set_option maxRecDepth 100000 in
set_option maxHeartbeats 1000000 in
theorem number_calls (B b g : Nat) (NV SV : Value) (s : PState) (lo hi : Int) (w : World) (h : PAt w B b g NV SV s) :
    Calls Tryd.prog 57 #[.pointer (some ⟨b, 0, none⟩), .int .i64 lo, .int .i64 hi] w (PPost intV B b g NV SV w (numberP s lo hi)) := by
  have H := Lib.hid h
  unfold numberP
  cases hs : seesP s 2 [] with
  | false =>
    have HS := Lib.hid hs
    rw [if_neg (by simp)]
    clear hs h
    go_enter Tryd.func57, Tryd.ntmps57
    go_wp2_with fail
    refine (sees_calls B b g NV SV s 2 [] _ H.out).mono ?_
    rintro e w' ⟨rfl, rfl⟩
    rw [HS.out]
    go_wp2_with fail
    refine (fail_in B b g NV SV s 5 _ H.out).mono ?_
    rintro e w' ⟨rfl, rfl⟩
    exact ⟨rfl, rfl, Below.refl _ _⟩
  | true =>
    have HS := Lib.hid hs
    have hne := seesP_ne hs
    obtain ⟨off, n, tc, hn0, _, c0, _, _, t2, _⟩ := h.hd_ hne
    have hn0' : (0 : Int) < (n : Int) := by omega
    rw [if_pos rfl]
    clear hs h
    by_cases hlo : s.hd.n < lo
    · rw [if_pos (Or.inl hlo)]
      generalize s.hd.n = v at t2 hlo
      go_enter Tryd.func57, Tryd.ntmps57
      go_wp2_with fail
      refine (sees_calls B b g NV SV s 2 [] _ H.out).mono ?_
      rintro e w' ⟨rfl, rfl⟩
      rw [HS.out]
      go_wp2_with fail
      refine (fail_in B b g NV SV s 9 _ H.out).mono ?_
      rintro e w' ⟨rfl, rfl⟩
      exact ⟨rfl, rfl, Below.refl _ _⟩
    · by_cases hhi : hi < s.hd.n
      · rw [if_pos (Or.inr hhi)]
        generalize s.hd.n = v at t2 hlo hhi
        go_enter Tryd.func57, Tryd.ntmps57
        go_wp2_with fail
        refine (sees_calls B b g NV SV s 2 [] _ H.out).mono ?_
        rintro e w' ⟨rfl, rfl⟩
        rw [HS.out]
        go_wp2_with fail
        refine (fail_in B b g NV SV s 9 _ H.out).mono ?_
        rintro e w' ⟨rfl, rfl⟩
        exact ⟨rfl, rfl, Below.refl _ _⟩
      · rw [if_neg (by omega)]
        obtain ⟨v, hv⟩ : ∃ v, s.hd.n = v := ⟨_, rfl⟩
        rw [hv] at t2 hlo hhi ⊢
        obtain ⟨t, ht⟩ : ∃ t, s.hd = t := ⟨_, rfl⟩
        have htn : t.n = v := by rw [← ht]; exact hv
        have HT := Lib.hid ht
        have HTN := Lib.hid htn
        clear hv ht htn
        go_enter Tryd.func57, Tryd.ntmps57
        go_wp2_with fail
        refine (sees_calls B b g NV SV s 2 [] _ H.out).mono ?_
        rintro e w' ⟨rfl, rfl⟩
        rw [HS.out]
        go_wp2_with fail
        refine (take_calls B b g NV SV s _ H.out hne).mono ?_
        rintro e w2 ⟨rfl, hp, hg⟩
        have HP := Lib.hid hp
        have HG := Lib.hid hg
        rw [HT.out]
        unfold tokV
        clear hp hg c0 t2 hne
        have hfld := tok_field2
        go_wp2_with fail
        go_ret
        exact ⟨by rw [← HTN.out]; rfl, HP.out, HG.out⟩
end Go.Proofs.YtamabdijeklgjaaDoor.Ext

/- Ranging over the operators' table; flow.reserved, walked. -/
namespace Go.Proofs.YtamabdijeklgjaaDoor.Ext
open Go Go.Proofs Go.RowKit Go.Proofs.YtamabdijeklgjaaDoorW.PrintWords
set_option linter.unusedVariables false
set_option linter.unusedSimpArgs false

theorem ent_of {e : MapEntry} (h : e ∈ oprE) : ∃ k o, (k, o) ∈ oprL ∧ 1 ≤ k ∧ e = ⟨.int .i64 k, oprV o, k.toNat - 1⟩ := by
  simp only [oprE, oprL, entsOf, List.mem_cons, List.not_mem_nil, or_false] at h
  rcases h with h | h | h | h | h | h | h | h | h | h <;> exact ⟨_, _, by unfold oprL; simp, by decide, h⟩
theorem ent_in {k : Int} {o : Opr} (h : (k, o) ∈ oprL) : (⟨.int .i64 k, oprV o, k.toNat - 1⟩ : MapEntry) ∈ oprE := by
  simp only [oprL, List.mem_cons, List.not_mem_nil, or_false, Prod.mk.injEq] at h
  rcases h with ⟨rfl, rfl⟩ | ⟨rfl, rfl⟩ | ⟨rfl, rfl⟩ | ⟨rfl, rfl⟩ | ⟨rfl, rfl⟩ | ⟨rfl, rfl⟩ | ⟨rfl, rfl⟩ | ⟨rfl, rfl⟩ | ⟨rfl, rfl⟩ | ⟨rfl, rfl⟩ <;> (simp [oprE, oprL, entsOf])
theorem opr_uniq {k : Int} {o o' : Opr} (h : (k, o) ∈ oprL) (h' : (k, o') ∈ oprL) : o = o' := by
  have : ∀ a ∈ oprL, ∀ b ∈ oprL, a.1 = b.1 → a.2 = b.2 := by decide +kernel
  exact this _ h _ h' rfl
theorem born_lt : ∀ x ∈ oprE.toArray.toList, x.born < 10 := by
  intro x hx
  obtain ⟨k, o, h, _, rfl⟩ := ent_of (by simpa using hx)
  have : ∀ a ∈ oprL, a.1.toNat - 1 < 10 := by decide +kernel
  exact this _ h
theorem born_nodup : (oprE.toArray.toList.map (·.born)).Nodup := by
  show (oprE.map (·.born)).Nodup
  have : oprE.map (·.born) = [0, 1, 2, 3, 4, 5, 6, 7, 8, 9] := rfl
  rw [this]
  decide
def leftN (seen : Array Nat) : Nat := (leftOf oprE.toArray seen).size
/-- one step of a range over the operators' table -/
theorem map_step (w : World) (N r c0 : Nat) (seen : Array Nat) (hI : w.heap[N]? = some (.mapIter (some r) 10 seen c0)) (hT : TabAt w r) (hc : 10 ≤ c0) :
    ((∀ k o, (k, o) ∈ oprL → seen.contains (k.toNat - 1) = true) ∧ ∀ ty, (Instr.next (.pointer (some ⟨N, 0, none⟩)) false ty).run Tryd.prog w = .ok (.tuple #[.bool false]) w) ∨
    ∃ k o wn, (k, o) ∈ oprL ∧ seen.contains (k.toNat - 1) = false ∧ (∀ ty, (Instr.next (.pointer (some ⟨N, 0, none⟩)) false ty).run Tryd.prog w = .ok (.tuple #[.bool true, .int .i64 k, oprV o]) wn) ∧
      (Instr.entry (.pointer (some ⟨N, 0, none⟩))).run Tryd.prog wn = .ok (.tuple #[.int .i64 k, oprV o]) wn ∧ wn.heap[N]? = some (.mapIter (some r) 10 (seen.push (k.toNat - 1)) 10) ∧ w.grownBy wn (some N) ∧ leftN (seen.push (k.toNat - 1)) < leftN seen := by
  have key := fun ty => run_next_at (P := Tryd.prog) w ty N r 10 c0 seen oprE.toArray 10 hI hT born_lt hc
  rcases key 0 with ⟨h0, h1⟩ | ⟨e, he, w1, hal, hrun⟩
  · left
    have hnone : ∀ e ∈ oprE, seen.contains e.born = true := by
      intro e he
      have := Array.eq_empty_of_size_eq_zero h0
      unfold leftOf at this
      rw [Array.filter_eq_empty_iff] at this
      have h2 := this e (by simpa using he)
      simpa using h2
    exact ⟨fun k o h => hnone _ (ent_in h), fun ty => h1⟩
  · right
    have he2 : e ∈ oprE ∧ seen.contains e.born = false := by
      unfold leftOf at he
      simp at he
      exact ⟨he.1, by simpa using he.2⟩
    obtain ⟨k, o, hko, hk1, rfl⟩ := ent_of he2.1
    have hI1 : w1.heap[N]? = some (.mapIter (some r) 10 seen c0) := by rcases hal with rfl | rfl <;> exact hI
    have hN := (Array.getElem?_eq_some_iff.1 hI1).1
    have hwn : (ChangeMaps.setBlock w1 N (.mapIter (some r) 10 (seen.push (k.toNat - 1)) 10)).heap[N]? = some (.mapIter (some r) 10 (seen.push (k.toNat - 1)) 10) := by
      simp [ChangeMaps.setBlock, hN]
    have hg : w.grownBy (ChangeMaps.setBlock w1 N (.mapIter (some r) 10 (seen.push (k.toNat - 1)) 10)) (some N) := by
      have hh : w1.heap = w.heap := by rcases hal with rfl | rfl <;> rfl
      refine ⟨by rcases hal with rfl | rfl <;> rfl, by rcases hal with rfl | rfl <;> rfl, by rcases hal with rfl | rfl <;> rfl, by simp [ChangeMaps.setBlock, hh], fun i hi hne => ?_⟩
      have : i ≠ N := fun e => hne (by rw [e])
      simp [ChangeMaps.setBlock, hh, Array.getElem?_setIfInBounds]
      omega
    have hT' : TabAt (ChangeMaps.setBlock w1 N (.mapIter (some r) 10 (seen.push (k.toNat - 1)) 10)) r := by
      have hrl := (Array.getElem?_eq_some_iff.1 hT).1
      refine (hg.block r hrl ?_).trans hT
      intro e
      injection e with e
      subst e
      have hT2 : w.heap[r]? = some (.map oprE.toArray 10) := hT
      rw [hI] at hT2
      cases hT2
    refine ⟨k, o, _, hko, he2.2, fun ty => hrun, ?_, hwn, hg, ?_⟩
    · exact run_entry_at (P := Tryd.prog) _ N r 10 seen oprE.toArray 10 ⟨.int .i64 k, oprV o, k.toNat - 1⟩ hwn hT' (by simpa using he2.1) born_nodup
    · unfold leftN
      exact left_shrinks oprE.toArray seen ⟨.int .i64 k, oprV o, k.toNat - 1⟩ he
theorem run_range_opr (w : World) (r : Nat) (hT : TabAt w r) : (Instr.range 70 (.map (some r))).run Tryd.prog w = .ok (.pointer (some ⟨w.heap.size, 0, none⟩)) (w.alloc (.mapIter (some r) 10 #[] 10)) := by
  have h1 : (getObj r).run Tryd.prog w = .ok (.map oprE.toArray 10) w := by
    simp only [getObj, Sem.run]
    rw [show w.heap[r]? = _ from hT]
  unfold Instr.range
  simp only [Sem.run_bind, run_underlying Tryd.underlying70, Result.andThen_ok, h1, Sem.run_pure]
  simp
end Go.Proofs.YtamabdijeklgjaaDoor.Ext

/- flow.reserved, walked. -/
namespace Go.Proofs.YtamabdijeklgjaaDoor.Ext
open Go Go.Proofs Go.RowKit Go.Proofs.YtamabdijeklgjaaDoorW.PrintWords
set_option linter.unusedVariables false
set_option linter.unusedSimpArgs false

/-- the words of the entries that were seen, behind the first two -/
def ResIn (ws : List (List UInt8)) (seen : Array Nat) : Prop := ∀ x, x ∈ ws ↔ x = wFlow ∨ x = wOut ∨ ∃ k o, (k, o) ∈ oprL ∧ seen.contains (k.toNat - 1) = true ∧ o.word = x ∧ x ≠ []
theorem resIn_zero : ResIn [wFlow, wOut] #[] := by
  intro x
  simp
theorem born_inj {k k' : Int} {o o' : Opr} (h : (k, o) ∈ oprL) (h' : (k', o') ∈ oprL) (e : k.toNat - 1 = k'.toNat - 1) : k = k' ∧ o = o' := by
  have : ∀ a ∈ oprL, ∀ b ∈ oprL, a.1.toNat - 1 = b.1.toNat - 1 → a = b := by decide +kernel
  have := this _ h _ h' e
  injection this with h1 h2
  exact ⟨h1, h2⟩
theorem contains_push (seen : Array Nat) (j i : Nat) : (seen.push j).contains i = (seen.contains i || (i == j)) := by
  rw [Bool.eq_iff_iff]
  simp
theorem resIn_skip {ws : List (List UInt8)} {seen : Array Nat} {k : Int} {o : Opr} (h : ResIn ws seen) (ho : (k, o) ∈ oprL) (hw : o.word = []) : ResIn ws (seen.push (k.toNat - 1)) := by
  intro x
  rw [h x]
  constructor
  · rintro (h | h | ⟨k', o', h1, h2, h3, h4⟩)
    · exact Or.inl h
    · exact Or.inr (Or.inl h)
    · exact Or.inr (Or.inr ⟨k', o', h1, by rw [contains_push, h2]; rfl, h3, h4⟩)
  · rintro (h | h | ⟨k', o', h1, h2, h3, h4⟩)
    · exact Or.inl h
    · exact Or.inr (Or.inl h)
    · rw [contains_push, Bool.or_eq_true] at h2
      rcases h2 with h2 | h2
      · exact Or.inr (Or.inr ⟨k', o', h1, h2, h3, h4⟩)
      · obtain ⟨rfl, rfl⟩ := born_inj h1 ho (by simpa using h2)
        exact absurd (h3.symm.trans hw) h4
theorem resIn_put {ws : List (List UInt8)} {seen : Array Nat} {k : Int} {o : Opr} (h : ResIn ws seen) (ho : (k, o) ∈ oprL) (hw : o.word ≠ []) : ResIn (ws ++ [o.word]) (seen.push (k.toNat - 1)) := by
  intro x
  rw [List.mem_append, h x]
  constructor
  · rintro ((h | h | ⟨k', o', h1, h2, h3, h4⟩) | h)
    · exact Or.inl h
    · exact Or.inr (Or.inl h)
    · exact Or.inr (Or.inr ⟨k', o', h1, by rw [contains_push, h2]; rfl, h3, h4⟩)
    · have hx : x = o.word := by simpa using h
      subst hx
      exact Or.inr (Or.inr ⟨k, o, ho, by rw [contains_push]; simp, rfl, hw⟩)
  · rintro (h | h | ⟨k', o', h1, h2, h3, h4⟩)
    · exact Or.inl (Or.inl h)
    · exact Or.inl (Or.inr (Or.inl h))
    · rw [contains_push, Bool.or_eq_true] at h2
      rcases h2 with h2 | h2
      · exact Or.inl (Or.inr (Or.inr ⟨k', o', h1, h2, h3, h4⟩))
      · obtain ⟨rfl, rfl⟩ := born_inj h1 ho (by simpa using h2)
        exact Or.inr (by rw [h3]; simp)
theorem resIn_all {ws : List (List UInt8)} {seen : Array Nat} (h : ResIn ws seen) (hall : ∀ k o, (k, o) ∈ oprL → seen.contains (k.toNat - 1) = true) : ∀ x, x ∈ ws ↔ x ∈ resL := by
  intro x
  rw [h x]
  constructor
  · rintro (h | h | ⟨k', o', h1, _, rfl, h4⟩)
    · subst h; decide
    · subst h; decide
    · have : ∀ a ∈ oprL, a.2.word ≠ [] → a.2.word ∈ resL := by decide +kernel
      exact this _ h1 h4
  · intro hx
    have : ∀ y ∈ resL, y = wFlow ∨ y = wOut ∨ ∃ a ∈ oprL, a.2.word = y ∧ y ≠ [] := by decide +kernel
    rcases this x hx with h | h | ⟨⟨k, o⟩, h1, h2, h3⟩
    · exact Or.inl h
    · exact Or.inr (Or.inl h)
    · exact Or.inr (Or.inr ⟨k, o, h1, hall k o h1, h2, h3⟩)
theorem infoS : (Tryd.prog.info? 9).map (fun i => (i.zero, i.size, i.bytes)) = some (some (.string ⟨#[]⟩), 1, 16) := by kernel_rfl
theorem own_fresh {w : World} {e : TypeId} (cs : Array Value) (h1 : cs.size ≤ maxLen) {base : Nat} (hb : base ≤ w.heap.size) : (w.alloc (.cells cs e)).ownsRow base e 1 (.slice (some ⟨w.heap.size, 0, none⟩) cs.size cs.size) cs.size cs.toList :=
  ⟨by simp, Or.inr ⟨w.heap.size, cs.size, cs, rfl, hb, blk_new w _, Nat.le_refl _, h1, by simp, by rw [Nat.mul_one, ← Array.length_toList, List.take_length]⟩⟩
theorem own_ne_iter {w : World} {base : Nat} {e : TypeId} {size n N : Nat} {v : Value} {xs : List Value} {m : Option Nat} {s : Nat} {seen : Array Nat} {c : Nat} (h : w.ownsRow base e size v n xs) (hN : w.heap[N]? = some (.mapIter m s seen c)) : v.ownBlock = none ∨ v.ownBlock ≠ some N := by
  rcases h.2 with ⟨rfl, _⟩ | ⟨g, cap, cur, rfl, _, hh, _⟩
  · exact Or.inl rfl
  · right
    intro e
    injection e with e
    have e2 : g = N := e
    subst e2
    rw [hh] at hN
    cases hN
theorem own_ne_iter' {w : World} {base : Nat} {e : TypeId} {size n N : Nat} {v : Value} {xs : List Value} {m : Option Nat} {s : Nat} {seen : Array Nat} {c : Nat} (h : w.ownsRow base e size v n xs) (hN : w.heap[N]? = some (.mapIter m s seen c)) : some N ≠ v.ownBlock := by
  rcases own_ne_iter h hN with h | h
  · rw [h]; simp
  · exact Ne.symm h
theorem own_ne_map {w : World} {base : Nat} {e : TypeId} {size n N : Nat} {v : Value} {xs : List Value} {es : Array MapEntry} {c : Nat} (h : w.ownsRow base e size v n xs) (hN : w.heap[N]? = some (.map es c)) : some N ≠ v.ownBlock := by
  rcases h.2 with ⟨rfl, _⟩ | ⟨g, cap, cur, rfl, _, hh, _⟩
  · simp [Value.ownBlock]
  · intro e
    injection e with e
    have e2 : N = g := e
    subst e2
    rw [hh] at hN
    cases hN
theorem tab_grown {w wn : World} {r N : Nat} {m : Option Nat} {s : Nat} {seen : Array Nat} {c : Nat} (hT : TabAt w r) (hN : w.heap[N]? = some (.mapIter m s seen c)) (hg : w.grownBy wn (some N)) : TabAt wn r := by
  have hrl := (Array.getElem?_eq_some_iff.1 hT).1
  refine (hg.block r hrl ?_).trans hT
  intro e
  injection e with e
  subst e
  have hT2 : w.heap[r]? = some (.map oprE.toArray 10) := hT
  rw [hN] at hT2
  cases hT2
theorem below_iter {w wr wn : World} {N : Nat} (hb : Below w.heap.size w wr) (hg : wr.grownBy wn (some N)) (hN : w.heap.size ≤ N) : Below w.heap.size w wn := hb.grown hg hb.size (fun k hk => by injection hk with hk; omega)
theorem word_empty (l : List UInt8) : (bs l).toList.isEmpty = decide (l = []) := by
  rw [Lib.toList_data, bs_list]
  cases l <;> rfl
def ResPost (w : World) (e : Ending) (w' : World) : Prop := ∃ (ws : List (List UInt8)) (v : Value), e = .returned v ∧ w'.ownsRow w.heap.size 9 1 v ws.length (encN ws) ∧ (∀ x, x ∈ ws ↔ x ∈ resL) ∧ ws.length ≤ 12 ∧ Below w.heap.size w w'
set_option maxRecDepth 100000 in
set_option maxHeartbeats 2000000 in
theorem reserved_calls (w : World) : Calls Tryd.prog 75 #[] w (ResPost w) := by
  have HB0 : Hid (Below w.heap.size w (w.alloc (.cells #[.string (⟨#[102, 108, 111, 119]⟩), .string (⟨#[111, 117, 116]⟩)] 9))) := Lib.hid (below_allocs _ _)
  have HO0 : Hid ((w.alloc (.cells #[.string (⟨#[102, 108, 111, 119]⟩), .string (⟨#[111, 117, 116]⟩)] 9)).ownsRow w.heap.size 9 1 (.slice (some ⟨w.heap.size, 0, none⟩) 2 2) 2 (encN [wFlow, wOut])) := Lib.hid (own_fresh #[.string (⟨#[102, 108, 111, 119]⟩), .string (⟨#[111, 117, 116]⟩)] (by decide) (Nat.le_refl _))
  go_enter Tryd.func75, Tryd.ntmps75
  go_wp2_with fail
  refine (operators_calls _).mono ?_
  rintro e w1 ⟨rfl, rfl⟩
  have HB1 := Lib.hid (below_alloc HB0.out (.map oprE.toArray 10))
  have HO1 := Lib.hid (HO0.out.alloc (.map oprE.toArray 10))
  generalize w.alloc (.cells #[.string (⟨#[102, 108, 111, 119]⟩), .string (⟨#[111, 117, 116]⟩)] 9) = W0 at HB1 HO1
  have HT : Hid (TabAt (W0.alloc (.map oprE.toArray 10)) W0.heap.size) := Lib.hid (blk_new W0 _)
  generalize W0.heap.size = r at HT
  generalize W0.alloc (.map oprE.toArray 10) = W1 at HT HB1 HO1
  have hrg := run_range_opr W1 r HT.out
  have HI2 : Hid ((W1.alloc (.mapIter (some r) 10 #[] 10)).heap[W1.heap.size]? = some (.mapIter (some r) 10 #[] 10)) := Lib.hid (blk_new W1 _)
  have HT2 : Hid (TabAt (W1.alloc (.mapIter (some r) 10 #[] 10)) r) := Lib.hid (blk_alloc HT.out _)
  have HB2 := Lib.hid (below_alloc HB1.out (.mapIter (some r) 10 #[] 10))
  have HO2 := Lib.hid (HO1.out.alloc (.mapIter (some r) 10 #[] 10))
  clear HB0 HO0
  go_wp2_with fail
  have hNN : w.heap.size ≤ W1.heap.size := HB1.out.size
  clear hrg HT HB1 HO1
  generalize W1.alloc (.mapIter (some r) 10 #[] 10) = W2 at HT2 HI2 HB2 HO2
  generalize W1.heap.size = N at HI2 hNN
  go_loopg [1] 10 (fun g v1 wx => ∃ (ws : List (List UInt8)) (A : Option Addr) (c : Nat) (seen : Array Nat) (c0 : Nat), leftN seen ≤ g ∧ v1 = .slice A ws.length c ∧ 10 ≤ c0 ∧ ws.length + leftN seen ≤ 12 ∧ Hid (ResIn ws seen) ∧ Hid (wx.heap[N]? = some (.mapIter (some r) 10 seen c0)) ∧ Hid (TabAt wx r) ∧ Hid (Below w.heap.size w wx) ∧ Hid (wx.ownsRow w.heap.size 9 1 (.slice A ws.length c) ws.length (encN ws)))
  case atStart => exact ⟨[wFlow, wOut], _, _, #[], 10, by decide +kernel, rfl, by decide, by decide +kernel, Lib.hid resIn_zero, HI2, HT2, HB2, HO2⟩
  case round =>
    obtain ⟨ws, A, c, seen, c0, hl1, rfl, hc0, hl2, HR, HI, HT, HB, HO⟩ := hrel
    rcases map_step wr N r c0 seen HI.out HT.out hc0 with ⟨hall, hnx⟩ | ⟨k, o, wn, hko, hns, hnx, hent, hIn, hg, hless⟩
    · have HRA := Lib.hid (resIn_all HR.out hall)
      clear hall
      go_wp2_with fail
      go_ret
      exact ⟨ws, .slice A ws.length c, rfl, HO.out, HRA.out, by omega, HB.out⟩
    · cases gk with
      | zero => omega
      | succ g =>
      have HTn := Lib.hid (tab_grown HT.out HI.out hg)
      have HBn := Lib.hid (below_iter HB.out hg hNN)
      have HOn := Lib.hid (HO.out.kept hg (own_ne_iter HO.out HI.out))
      have HIn := Lib.hid hIn
      have HKO := Lib.hid hko
      have hem := word_empty o.word
      simp only [oprV, oprCells] at hent hnx
      clear hIn hg HI HT HB HO hko hns
      by_cases hw : o.word = []
      · have HRn := Lib.hid (resIn_skip HR.out HKO.out hw)
        rw [decide_eq_true hw] at hem
        clear hw
        go_wp2_with fail
        go_roundg g
        case measure => omega
        case rel => exact ⟨ws, A, c, _, 10, by omega, rfl, by decide, by omega, HRn, Lib.hid (blk_alloc HIn.out _), Lib.hid (blk_alloc HTn.out _), Lib.hid (below_alloc HBn.out _), Lib.hid (HOn.out.alloc _)⟩
      · have HRn := Lib.hid (resIn_put HR.out HKO.out hw)
        rw [decide_eq_false hw] at hem
        have hem2 : (!(bs o.word).toList.isEmpty) = true := by rw [hem]; rfl
        clear hw
        obtain ⟨it, hi, hz0, hz1, hz2⟩ := info_parts infoS
        go_wp2_with (first | (at_builtin; refine wpList_append_own _ rfl _ _ 90 rfl w.heap.size 9 it (.string ⟨#[]⟩) 1 16 Tryd.underlying90 hi hz0 hz1 hz2 rfl (by decide) _ _ _ rfl ((HOn.out.alloc _).alloc _) ⟨wn.heap.size + 1, 0, none⟩ 1 1 [.string (bs o.word)] rfl rfl ?c1 ?c2 ?c3 ?c4 ?c5 ?_) | fail)
        case c1 =>
          intro j u hj
          match j, hj with
          | 0, hj =>
            simp at hj
            subst hj
            simp [Addr.add]
        case c2 => intro u hu; simp at hu; subst hu; rfl
        case c3 => unfold maxLen; omega
        case c4 => omega
        case c5 => have := HBn.out.size; simp; omega
        intro v' w4 hown hgrow _
        have HB4 : Hid (Below w.heap.size w w4) := Lib.hid (below_grown_own (below_alloc (below_alloc HBn.out _) _) ((HOn.out.alloc _).alloc _) hgrow)
        have I2 := blk_alloc (blk_alloc HIn.out (.cells #[.string (bs o.word), .string (bs o.sym), .int .i64 o.arity, .bool o.takes, .bool o.makes, .int .i64 o.most] 68)) (.cells #[.string (bs o.word)] 9)
        have T2 := blk_alloc (blk_alloc HTn.out (.cells #[.string (bs o.word), .string (bs o.sym), .int .i64 o.arity, .bool o.takes, .bool o.makes, .int .i64 o.most] 68)) (.cells #[.string (bs o.word)] 9)
        have O2 := (HOn.out.alloc (.cells #[.string (bs o.word), .string (bs o.sym), .int .i64 o.arity, .bool o.takes, .bool o.makes, .int .i64 o.most] 68)).alloc (.cells #[.string (bs o.word)] 9)
        have HI4 : Hid (w4.heap[N]? = some (.mapIter (some r) 10 (seen.push (k.toNat - 1)) 10)) := Lib.hid ((hgrow.block N (blk_lt I2) (own_ne_iter' O2 I2)).trans I2)
        have HT4 : Hid (TabAt w4 r) := Lib.hid ((hgrow.block r (blk_lt T2) (own_ne_map O2 T2)).trans T2)
        clear I2 T2 O2
        obtain ⟨A2, c2, rfl⟩ := own_view hown
        have HO4 : Hid (w4.ownsRow w.heap.size 9 1 (.slice A2 (ws.length + 1) c2) (ws.length + 1) (encN (ws ++ [o.word]))) := Lib.hid (by unfold encN; rw [List.map_append]; exact hown)
        clear hgrow hown
        go_wp2_with fail
        go_roundg g
        case measure => omega
        case rel =>
          have hlen : (ws ++ [o.word]).length = ws.length + 1 := by simp
          exact ⟨ws ++ [o.word], A2, c2, _, 10, by omega, by rw [hlen], by decide, by rw [hlen]; omega, HRn, HI4, HT4, HB4, Lib.hid (by rw [hlen]; exact HO4.out)⟩
end Go.Proofs.YtamabdijeklgjaaDoor.Ext

/- flow.parser's free, makes, operand, walked. -/
namespace Go.Proofs.YtamabdijeklgjaaDoor.Ext
open Go Go.Proofs Go.RowKit Go.Proofs.YtamabdijeklgjaaDoorW.PrintWords
set_option linter.unusedVariables false
set_option linter.unusedSimpArgs false

def strV (x : List UInt8) : Value := .string (bs x)
theorem bs_inj {x y : List UInt8} (h : bs x = bs y) : x = y := by
  have := congrArg (fun b : ByteArray => b.data.toList) h
  exact this
theorem contains_bs (ws : List (List UInt8)) (x : List UInt8) : Lib.containsS (ws.map bs) (bs x) = ws.contains x := by
  rw [Bool.eq_iff_iff, Lib.containsS_iff]
  simp only [List.mem_map, List.contains_iff_mem]
  constructor
  · rintro ⟨y, hy, e⟩
    rw [← bs_inj e]
    exact hy
  · intro h
    exact ⟨x, h, rfl⟩
/-- slices.Contains over a row of the call's own -/
theorem contains_own {w w0 : World} {base : Nat} (ws : List (List UInt8)) (v : Value) (x : List UInt8) (ho : w0.ownsRow base 9 1 v ws.length (encN ws)) (hb : Below w0.heap.size w0 w) (hl : ws.length ≤ 1000) :
    Calls Tryd.prog 60 #[v, .string (bs x)] w fun e w' => e = .returned (.bool (ws.contains x)) ∧ w = w' := by
  rw [← contains_bs]
  by_cases h0 : ws.length = 0
  · have hw : ws = [] := List.length_eq_zero_iff.1 h0
    subst hw
    obtain ⟨A, c, rfl⟩ := own_view ho
    refine (Any.slices_Contains_string_empty Tryd.lays110 A c (bs x) w).mono ?_
    rintro e w' ⟨rfl, rfl⟩
    exact ⟨by rw [contains_bs]; rfl, rfl⟩
  · obtain ⟨g, c, rfl, _, hlt⟩ := ho.form (by omega)
    have hc := ho.cells (g := g) rfl
    refine (Any.slices_Contains_string Tryd.lays110 g 0 ws.length c (ws.map bs) (bs x) w (by simp) (by omega) ?_).mono ?_
    · intro j hj
      have hj' : j < ws.length := by simpa using hj
      have := hc j (.string (bs ws[j])) (by unfold encN; rw [List.getElem?_map, List.getElem?_eq_getElem hj']; rfl)
      rw [Addr.add_mid] at this
      rw [hb.cell (p := ⟨g, 0 + j, none⟩) hlt, this]
      simp [List.getD_eq_getElem?_getD, List.getElem?_eq_getElem hj']
    · rintro e w' ⟨rfl, rfl⟩
      exact ⟨by rw [List.take_of_length_le (by simp)], rfl⟩
theorem PAt.drew {w : World} {B b g : Nat} {NV SV : Value} {s : PState} (h : PAt w B b g NV SV s) : PAt w.drew B b g NV SV s := h.below (Below.refl _ _).drew
theorem PAt.drewN {w : World} {B b g : Nat} {NV SV : Value} {s : PState} (h : PAt w B b g NV SV s) (n : Nat) : PAt (w.drewN n) B b g NV SV s := h.below (bdr (Below.refl _ _) n)
theorem grown_of_b {w w' : World} (h : Below w.heap.size w w') (row : Option Nat) : w.grownBy w' row := ⟨h.os, h.tape, h.output, h.size, fun k hk _ => h.block k hk⟩
set_option maxRecDepth 100000 in
set_option maxHeartbeats 2000000 in
theorem free_calls (B b g : Nat) (NV SV : Value) (s : PState) (w : World) (h : PAt w B b g NV SV s) :
    Calls Tryd.prog 59 #[.pointer (some ⟨b, 0, none⟩)] w (PPost strV B b g NV SV w (freeP s)) := by
  have H := Lib.hid h
  unfold freeP
  cases hs : seesP s 1 [] with
  | false =>
    have HS := Lib.hid hs
    rw [if_neg (by simp)]
    clear hs h
    go_enter Tryd.func59, Tryd.ntmps59
    go_wp2_with fail
    have hsee : ∀ n, Calls Tryd.prog 58 #[.pointer (some ⟨b, 0, none⟩), .int .i64 1, .string ⟨#[]⟩] (w.drewN n) fun e w' => e = .returned (.bool false) ∧ w' = w.drewN n := by
      intro n
      rw [← HS.out]
      exact sees_calls B b g NV SV s 1 [] _ (H.out.drewN n)
    go_quiet ((go_at_call 58; exact Calls.quiet_of_same (hsee _)))
    go_wp2_with fail
    refine (fail_in B b g NV SV s 5 _ (H.out.drewN _)).mono ?_
    rintro e w' ⟨rfl, rfl⟩
    exact ⟨rfl, rfl, bdr (Below.refl _ _) _⟩
  | true =>
    have HS := Lib.hid hs
    have hne := seesP_ne hs
    obtain ⟨off, n, tc, hn0, hnl, c0, t0, t1, t2, t3⟩ := h.hd_ hne
    clear hnl t0 t2 t3
    have hn0' : (0 : Int) < (n : Int) := by omega
    have hgb : b < w.heap.size := h.lt
    have hgg : g < w.heap.size := by obtain ⟨_, _, _, _, _, _, _, _, _, _, h9⟩ := h; omega
    obtain ⟨x, hx⟩ : ∃ x, s.hd.text = x := ⟨_, rfl⟩
    rw [hx] at t1 ⊢
    obtain ⟨q, hq⟩ : ∃ q, resL.contains x = q := ⟨_, rfl⟩
    rw [hq]
    have HQ := Lib.hid hq
    obtain ⟨R, hR⟩ : ∃ R, (if (true && !q) = true then PR.ok x s else failP 5 s) = R := ⟨_, rfl⟩
    rw [hR]
    have HR := Lib.hid hR
    clear hs h hne hx hq hR
    go_enter Tryd.func59, Tryd.ntmps59
    go_upto_region 1 with fail
    go_cut [16] (fun s16 wx => s16 = .bool q ∧ Hid (Below w.heap.size w wx))
    case first =>
      go_region_held3 (fun w' => w'.cell? ⟨b, 0, none⟩ = some (.slice (some ⟨g, off, none⟩) n tc) ∧ w'.cell? ⟨g, off + 1, none⟩ = some (.string (bs x))) (first | exact ⟨(hb.cell (p := ⟨b, 0, none⟩) hgb).trans c0, (hb.cell (p := ⟨g, off + 1, none⟩) hgg).trans t1⟩ | exact (hb.cell (p := ⟨b, 0, none⟩) hgb).trans c0 | exact (hb.cell (p := ⟨g, off + 1, none⟩) hgg).trans t1 | go_keep)
        (first
          | (go_at_call 58; refine (sees_calls B b g NV SV s 1 [] _ H.out.drew).mono ?_; rintro e w' ⟨rfl, rfl⟩; rw [HS.out])
          | (go_at_call 75; refine (reserved_calls _).mono ?_; rintro e w1 ⟨ws, v, rfl, ho, hiff, hl, hb⟩; have HIF : Hid (ws.contains x = q) := Lib.hid (by rw [← HQ.out, Bool.eq_iff_iff, List.contains_iff_mem, List.contains_iff_mem]; exact hiff x); clear hiff)
          | (go_at_call 60; refine (contains_own ws v x ho (by first | exact Below.refl _ _ | exact (Below.refl _ _).drew) (by omega)).mono ?_; rintro e w2 ⟨rfl, rfl⟩; rw [HIF.out]))
      all_goals
        have HBB : Hid (Below w.heap.size w w1) := Lib.hid (below_step (Below.refl w.heap.size w).drew hb)
        clear ho hl hb
        go_wp2_with fail
        go_meet
        exact ⟨rfl, HBB⟩
    case rest =>
      obtain ⟨rfl, hbc⟩ := hcut
      cases q with
      | true =>
        go_wp2_with fail
        refine (fail_in B b g NV SV s 5 _ (H.out.below hbc.out)).mono ?_
        rintro e w' ⟨rfl, rfl⟩
        rw [show R = failP 5 s from HR.out.symm]
        exact ⟨rfl, rfl, below_pat H.out hbc.out⟩
      | false =>
        have d0 := (hbc.out.cell (p := ⟨b, 0, none⟩) hgb).trans c0
        have d1 := (hbc.out.cell (p := ⟨g, off + 1, none⟩) hgg).trans t1
        go_wp2_with fail
        go_ret
        rw [show R = .ok x s from HR.out.symm]
        exact ⟨rfl, H.out.below hbc.out, grown_of_b hbc.out _⟩
end Go.Proofs.YtamabdijeklgjaaDoor.Ext
