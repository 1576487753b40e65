/- Several texts in one (ExecSpec ExecPa ExecPb). -/
import Derived.Test.YtamabdijeklgjaaDoorGc
import Derived.Test.YtamabdijeklgjaaDoorGh
/- What exec's functions answer, in plain Lean. -/
namespace Go.Proofs.YtamabdijeklgjaaDoor.Ext
open Go Go.Proofs

def farE (n : Int) : Bool := decide (n < -1000000000000) || decide (1000000000000 < n)
def prodE (a b : Int) : Int := if a ≠ 0 ∧ 1000000000000 / max a (-a) < max b (-b) then 2000000000000 else a * b
def scaledE (a n : Int) : Int := a * n / 1000
def logicE (k a b : Int) : Int :=
  if k = 8 then (if a = 0 ∨ b = 0 then 0 else if a = 1 ∧ b = 1 then 1 else 2)
  else if k = 9 then (if a = 1 ∨ b = 1 then 1 else if a = 0 ∧ b = 0 then 0 else 2)
  else (if a = 0 then 1 else if a = 1 then 0 else 2)
/-- what a step that costs something computes in a cell -/
def vecE (I : List Int) (s : FS) (c : Nat) (a b : Int) : Int :=
  if s.f0 = 1 then I.getD (s.f3.toNat * 4 + c) 0 else if s.f0 = 2 then a + b else if s.f0 = 3 then a - b else if s.f0 = 4 then prodE a b
  else if s.f0 = 5 then scaledE a s.f3 else if s.f0 = 6 then max a b else if s.f3 ≤ a then 1 else 0
/-- the values, four a step, and what is used -/
structure EX where
  v : List Int
  used : Int
def opA (s : FS) (c : Nat) (V : List Int) : Int := V.getD (s.f1.toNat * 4 + c) 0
def opB (s : FS) (c : Nat) (V : List Int) : Int := V.getD (s.f2.toNat * 4 + c) 0
def cellE (I : List Int) (bud : Int) (s : FS) (i c : Nat) (x : EX) : Option EX :=
  if 8 ≤ s.f0 then some ⟨x.v.set (i * 4 + c) (logicE s.f0 (opA s c x.v) (opB s c x.v)), x.used⟩
  else if bud ≤ x.used then some ⟨x.v.set (i * 4 + c) 2, x.used⟩
  else if farE (vecE I s c (opA s c x.v) (opB s c x.v)) = true then none
  else some ⟨x.v.set (i * 4 + c) (vecE I s c (opA s c x.v) (opB s c x.v)), x.used + 1⟩
/-- n cells of a step, from c on -/
def cellsE (I : List Int) (bud : Int) (s : FS) (i : Nat) : Nat → Nat → EX → Option EX
  | 0, _, x => some x
  | n + 1, c, x => (cellE I bud s i c x).bind (cellsE I bud s i n (c + 1))
def stepsE (I : List Int) (bud : Int) : List FS → Nat → EX → Option EX
  | [], _, x => some x
  | s :: r, i, x => (cellsE I bud s i 4 0 x).bind (stepsE I bud r (i + 1))
def startE (n : Nat) : EX := ⟨List.replicate (n * 4) 0, 0⟩
end Go.Proofs.YtamabdijeklgjaaDoor.Ext

/- exec.Run: what its plain answer keeps. -/
namespace Go.Proofs.YtamabdijeklgjaaDoor.Ext
open Go Go.Proofs
set_option linter.unusedVariables false

/-- exec.Run: the inputs one behind the other; the last step's four values, what is used, the error -/
def runE (name : List UInt8) (ver : Int) (l : List FS) (ni : Nat) (I : List Int) (bud : Int) : List Int × Int × Int :=
  if validB name ver l = true ∧ ni = 4 ∧ 0 ≤ bud ∧ I.all (fun n => !farE n) = true then
    (match stepsE I bud l 0 (startE l.length) with
    | some x => ((x.v.drop ((l.length - 1) * 4)).take 4, x.used, 0)
    | none => ([0, 0, 0, 0], 0, 9))
  else ([0, 0, 0, 0], 0, 1)
theorem getD_put (V : List Int) (p q : Nat) (v : Int) : (V.set p v).getD q 0 = if p = q ∧ p < V.length then v else V.getD q 0 := by
  rw [List.getD_eq_getElem?_getD, List.getD_eq_getElem?_getD, List.getElem?_set]
  by_cases h : p = q
  · subst h
    by_cases h2 : p < V.length
    · simp [h2]
    · simp [h2]
  · simp [h]
theorem getD_same {V : List Int} {p : Nat} (v : Int) (h : p < V.length) : (V.set p v).getD p 0 = v := by rw [getD_put, if_pos ⟨rfl, h⟩]
theorem getD_far {V : List Int} {p q : Nat} (v : Int) (h : p ≠ q) : (V.set p v).getD q 0 = V.getD q 0 := by rw [getD_put, if_neg (fun k => h k.1)]
/-- two runs: each cell keeps R -/
def CellK (N : Nat) (I1 I2 : List Int) (b1 b2 : Int) (R : List Bool → Nat → EX → EX → Prop) : Prop :=
  ∀ (ms : List Bool) (m : Bool) (s : FS) (c : Nat) (x1 x2 y2 : EX), stepM ms s = some m → ms.length < N → c < 4 → R (ms ++ [m]) (ms.length * 4 + c) x1 x2 → cellE I2 b2 s ms.length c x2 = some y2 →
    ∃ y1, cellE I1 b1 s ms.length c x1 = some y1 ∧ R (ms ++ [m]) (ms.length * 4 + c + 1) y1 y2
def RowK (R : List Bool → Nat → EX → EX → Prop) : Prop := ∀ (ms : List Bool) (m : Bool) (x1 x2 : EX), R ms (ms.length * 4) x1 x2 → R (ms ++ [m]) (ms.length * 4) x1 x2
theorem cells_keep {N : Nat} {I1 I2 : List Int} {b1 b2 : Int} {R : List Bool → Nat → EX → EX → Prop} (h : CellK N I1 I2 b1 b2 R) : ∀ (n c : Nat) (ms : List Bool) (m : Bool) (s : FS) (x1 x2 y2 : EX), stepM ms s = some m → ms.length < N → c + n = 4 →
    R (ms ++ [m]) (ms.length * 4 + c) x1 x2 → cellsE I2 b2 s ms.length n c x2 = some y2 → ∃ y1, cellsE I1 b1 s ms.length n c x1 = some y1 ∧ R (ms ++ [m]) (ms.length * 4 + 4) y1 y2
  | 0, c, ms, m, s, x1, x2, y2, hs, hN, hc, hr, he => by
    obtain rfl : c = 4 := by omega
    rw [cellsE] at he
    obtain rfl := Option.some.inj he
    exact ⟨x1, rfl, hr⟩
  | n + 1, c, ms, m, s, x1, x2, y2, hs, hN, hc, hr, he => by
    rw [cellsE, Option.bind_eq_some_iff] at he
    obtain ⟨z2, e2, he⟩ := he
    obtain ⟨z1, e1, hr1⟩ := h ms m s c x1 x2 z2 hs hN (by omega) hr e2
    obtain ⟨y1, e3, hr3⟩ := cells_keep h n (c + 1) ms m s z1 z2 y2 hs hN (by omega) hr1 he
    refine ⟨y1, ?_, hr3⟩
    rw [cellsE, e1]
    exact e3
theorem steps_keep {N : Nat} {I1 I2 : List Int} {b1 b2 : Int} {R : List Bool → Nat → EX → EX → Prop} (h : CellK N I1 I2 b1 b2 R) (hr : RowK R) : ∀ (l : List FS) (ms MS : List Bool) (x1 x2 y2 : EX), masksL l ms = some MS → ms.length + l.length ≤ N →
    R ms (ms.length * 4) x1 x2 → stepsE I2 b2 l ms.length x2 = some y2 → ∃ y1, stepsE I1 b1 l ms.length x1 = some y1 ∧ R MS (MS.length * 4) y1 y2
  | [], ms, MS, x1, x2, y2, hm, hN, h0, he => by
    rw [masksL] at hm
    obtain rfl := Option.some.inj hm
    rw [stepsE] at he
    obtain rfl := Option.some.inj he
    exact ⟨x1, rfl, h0⟩
  | s :: l, ms, MS, x1, x2, y2, hm, hN, h0, he => by
    rw [List.length_cons] at hN
    rw [masksL] at hm
    split at hm
    · rename_i m hs
      rw [stepsE, Option.bind_eq_some_iff] at he
      obtain ⟨z2, e2, he⟩ := he
      obtain ⟨z1, e1, h1⟩ := cells_keep h 4 0 ms m s x1 x2 z2 hs (by omega) (by omega) (hr ms m x1 x2 h0) e2
      have hl : (ms ++ [m]).length = ms.length + 1 := by simp
      obtain ⟨y1, e3, h3⟩ := steps_keep h hr l (ms ++ [m]) MS z1 z2 y2 hm (by rw [hl]; omega) (by rw [hl]; rw [Nat.add_mul]; exact h1) (by rw [hl]; exact he)
      refine ⟨y1, ?_, h3⟩
      rw [stepsE, e1]
      rw [hl] at e3
      exact e3
    · cases hm
/-- one run: each cell keeps it -/
theorem steps_one {N : Nat} {I : List Int} {b : Int} {R : List Bool → Nat → EX → Prop} (h : ∀ (ms : List Bool) (m : Bool) (s : FS) (c : Nat) (x y : EX), stepM ms s = some m → ms.length < N → c < 4 → R (ms ++ [m]) (ms.length * 4 + c) x → cellE I b s ms.length c x = some y → R (ms ++ [m]) (ms.length * 4 + c + 1) y)
    (hr : ∀ (ms : List Bool) (m : Bool) (x : EX), R ms (ms.length * 4) x → R (ms ++ [m]) (ms.length * 4) x) (l : List FS) (ms MS : List Bool) (x y : EX) (hm : masksL l ms = some MS) (hN : ms.length + l.length ≤ N) (h0 : R ms (ms.length * 4) x) (he : stepsE I b l ms.length x = some y) : R MS (MS.length * 4) y := by
  obtain ⟨y1, e1, rfl, h1⟩ := steps_keep (N := N) (I1 := I) (b1 := b) (R := fun ms n x1 x2 => x1 = x2 ∧ R ms n x1) (fun ms m s c x1 x2 y2 hs hn hc hx hy => by obtain ⟨rfl, hx⟩ := hx; exact ⟨y2, hy, rfl, h ms m s c x1 y2 hs hn hc hx hy⟩)
    (fun ms m x1 x2 hx => ⟨hx.1, hr ms m x1 hx.2⟩) l ms MS x x y hm hN ⟨rfl, h0⟩ he
  exact h1

/-! ### what a step is -/
theorem okArg_at {o : Opr} {ms : List Bool} {k a : Int} (h : okArg o ms k a = true) (hk : k < o.arity) : 0 ≤ a ∧ ms[a.toNat]? = some o.takes := by
  rcases okArg_yes h with ⟨h1, _⟩ | ⟨_, h1, h2⟩
  · omega
  · exact ⟨h1, h2⟩
/-- a logical operator: its operands are masks that stand -/
theorem step_logic {ms : List Bool} {s : FS} {m : Bool} (h : stepM ms s = some m) (hk : 8 ≤ s.f0) : m = true ∧ s.f0 ≤ 10 ∧ 0 ≤ s.f1 ∧ ms[s.f1.toNat]? = some true ∧ (s.f0 ≤ 9 → 0 ≤ s.f2 ∧ ms[s.f2.toNat]? = some true) ∧ (s.f0 = 10 → s.f2 = 0) := by
  obtain ⟨h0, _, _, h1, h2⟩ := stepM_args h
  have hm : (oprOf s.f0).makes = m := by
    unfold stepM at h
    split at h
    · exact Option.some.inj h
    · cases h
  rcases isOp_cases h0 with e | e | e | e | e | e | e | e | e | e
  all_goals first | omega | skip
  all_goals
    rw [e] at h1 h2 hm
    have a1 := okArg_at h1 (by decide)
    refine ⟨hm.symm.trans rfl, by omega, a1.1, a1.2, fun hh => ?_, fun hh => ?_⟩
  · exact okArg_at h2 (by decide)
  · omega
  · exact okArg_at h2 (by decide)
  · omega
  · omega
  · rcases okArg_yes h2 with ⟨_, h3⟩ | ⟨h3, _⟩
    · exact h3
    · exact absurd h3 (by decide)
theorem step_makes {ms : List Bool} {s : FS} {m : Bool} (h : stepM ms s = some m) (hk : s.f0 < 8) : (m = true → s.f0 = 7) := by
  obtain ⟨h0, _, _, _, _⟩ := stepM_args h
  have hm : (oprOf s.f0).makes = m := by
    unfold stepM at h
    split at h
    · exact Option.some.inj h
    · cases h
  intro h1
  rcases isOp_cases h0 with e | e | e | e | e | e | e | e | e | e
  all_goals first | omega | skip
  all_goals
    rw [e] at hm
    rw [h1] at hm
    exact absurd hm (by decide)
theorem logic_rng (k a b : Int) : logicE k a b = 0 ∨ logicE k a b = 1 ∨ logicE k a b = 2 := by 
  unfold logicE
  split
  · split
    · simp
    · split <;> simp
  · split
    · split
      · simp
      · split <;> simp
    · split
      · simp
      · split <;> simp
theorem logic_full {k a b : Int} (hk : 8 ≤ k) (ha : a = 0 ∨ a = 1) (hb : k ≤ 9 → b = 0 ∨ b = 1) : logicE k a b = 0 ∨ logicE k a b = 1 := by
  unfold logicE
  split
  · rcases ha with rfl | rfl <;> rcases hb (by omega) with rfl | rfl <;> simp
  · split
    · rcases ha with rfl | rfl <;> rcases hb (by omega) with rfl | rfl <;> simp
    · rcases ha with rfl | rfl <;> simp
theorem logic_refine {k a b a' b' : Int} (hk : 8 ≤ k) (ha : a = 2 ∨ a = a') (hb : k ≤ 9 → b = 2 ∨ b = b') : logicE k a b = 2 ∨ logicE k a b = logicE k a' b' := by
  unfold logicE
  split
  · rcases ha with rfl | rfl <;> rcases hb (by omega) with rfl | rfl <;> (simp; try omega)
    all_goals (repeat' split) <;> first | omega | simp_all
  · split
    · rcases ha with rfl | rfl <;> rcases hb (by omega) with rfl | rfl <;> (simp; try omega)
      all_goals (repeat' split) <;> first | omega | simp_all
    · rcases ha with rfl | rfl <;> simp
theorem logic_none {k : Int} {a b : Int} (ha : a = 2) (hb : k ≤ 9 → b = 2) (hk : 8 ≤ k) : logicE k a b = 2 := by
  subst ha
  unfold logicE
  split
  · rw [hb (by omega)]; simp
  · split
    · rw [hb (by omega)]; simp
    · simp

/-! ### the masks' cells -/
def Msk (P : Int → Prop) (ms : List Bool) (n : Nat) (V : List Int) : Prop := ∀ p : Nat, p < n → ms[p / 4]? = some true → P (V.getD p 0)
theorem Msk.row {P : Int → Prop} {ms : List Bool} {V : List Int} (h : Msk P ms (ms.length * 4) V) (m : Bool) : Msk P (ms ++ [m]) (ms.length * 4) V := fun p hp hm => h p hp (by
  rw [List.getElem?_append_left (by omega)] at hm
  exact hm)
theorem Msk.arg {P : Int → Prop} {ms : List Bool} {m : Bool} {c k : Nat} {V : List Int} {a : Int} (h : Msk P (ms ++ [m]) (ms.length * 4 + c) V) (hk : k < 4) (ha : ms[a.toNat]? = some true) : P (V.getD (a.toNat * 4 + k) 0) := by
  have hl := (List.getElem?_eq_some_iff.1 ha).1
  refine h _ (by omega) ?_
  rw [show (a.toNat * 4 + k) / 4 = a.toNat by omega, List.getElem?_append_left hl]
  exact ha
theorem Msk.put {P : Int → Prop} {ms : List Bool} {m : Bool} {c : Nat} {V : List Int} (h : Msk P (ms ++ [m]) (ms.length * 4 + c) V) (v : Int) (hn : ms.length * 4 + c < V.length) (hc : c < 4) (hv : m = true → P v) : Msk P (ms ++ [m]) (ms.length * 4 + c + 1) (V.set (ms.length * 4 + c) v) := by
  intro p hp hm
  by_cases e : ms.length * 4 + c = p
  · subst e
    rw [getD_same _ hn]
    refine hv ?_
    rw [show (ms.length * 4 + c) / 4 = ms.length by omega, List.getElem?_append_right (Nat.le_refl _)] at hm
    simpa using hm
  · rw [getD_far _ e]
    exact h p (by omega) hm
theorem logic_args {ms : List Bool} {m : Bool} {s : FS} {c : Nat} {V : List Int} {P : Int → Prop} (hs : stepM ms s = some m) (hk : 8 ≤ s.f0) (hc : c < 4) (h : Msk P (ms ++ [m]) (ms.length * 4 + c) V) : P (opA s c V) ∧ (s.f0 ≤ 9 → P (opB s c V)) := by
  obtain ⟨_, _, _, h1, h2, _⟩ := step_logic hs hk
  exact ⟨h.arg hc h1, fun hh => h.arg hc (h2 hh).2⟩
/-- what a cell's step is: the four ways -/
theorem cell_ways {I : List Int} {b : Int} {s : FS} {i c : Nat} {x y : EX} (h : cellE I b s i c x = some y) :
    (8 ≤ s.f0 ∧ y = ⟨x.v.set (i * 4 + c) (logicE s.f0 (opA s c x.v) (opB s c x.v)), x.used⟩) ∨ (s.f0 < 8 ∧ b ≤ x.used ∧ y = ⟨x.v.set (i * 4 + c) 2, x.used⟩) ∨
    (s.f0 < 8 ∧ x.used < b ∧ farE (vecE I s c (opA s c x.v) (opB s c x.v)) = false ∧ y = ⟨x.v.set (i * 4 + c) (vecE I s c (opA s c x.v) (opB s c x.v)), x.used + 1⟩) := by
  unfold cellE at h
  split at h
  · exact Or.inl ⟨by assumption, (Option.some.inj h).symm⟩
  · split at h
    · exact Or.inr (Or.inl ⟨by omega, by assumption, (Option.some.inj h).symm⟩)
    · split at h
      · cases h
      · rename_i h3
        exact Or.inr (Or.inr ⟨by omega, by omega, by simpa using h3, (Option.some.inj h).symm⟩)
theorem cell_logic {I : List Int} {b : Int} {s : FS} {i c : Nat} {x : EX} (h : 8 ≤ s.f0) : cellE I b s i c x = some ⟨x.v.set (i * 4 + c) (logicE s.f0 (opA s c x.v) (opB s c x.v)), x.used⟩ := by
  unfold cellE
  rw [if_pos h]
theorem cell_out {I : List Int} {b : Int} {s : FS} {i c : Nat} {x : EX} (h : s.f0 < 8) (hb : b ≤ x.used) : cellE I b s i c x = some ⟨x.v.set (i * 4 + c) 2, x.used⟩ := by
  unfold cellE
  rw [if_neg (by omega), if_pos hb]
theorem cell_pays {I : List Int} {b : Int} {s : FS} {i c : Nat} {x : EX} (h : s.f0 < 8) (hb : x.used < b) (hf : farE (vecE I s c (opA s c x.v) (opB s c x.v)) = false) : cellE I b s i c x = some ⟨x.v.set (i * 4 + c) (vecE I s c (opA s c x.v) (opB s c x.v)), x.used + 1⟩ := by
  unfold cellE
  rw [if_neg (by omega), if_neg (by omega), if_neg (by rw [hf]; simp)]
theorem vec_mask {I : List Int} {s : FS} {c : Nat} {a b : Int} (h : s.f0 = 7) : vecE I s c a b = 0 ∨ vecE I s c a b = 1 := by
  unfold vecE
  rw [h]
  simp only [show ¬ (7 : Int) = 1 by decide, show ¬ (7 : Int) = 2 by decide, show ¬ (7 : Int) = 3 by decide, show ¬ (7 : Int) = 4 by decide, show ¬ (7 : Int) = 5 by decide, show ¬ (7 : Int) = 6 by decide, if_false]
  split <;> simp
end Go.Proofs.YtamabdijeklgjaaDoor.Ext

/- exec.Run: what its plain answer keeps; the laws. -/
namespace Go.Proofs.YtamabdijeklgjaaDoor.Ext
open Go Go.Proofs
set_option linter.unusedVariables false

theorem cell_len {I : List Int} {b : Int} {s : FS} {i c : Nat} {x y : EX} (h : cellE I b s i c x = some y) : y.v.length = x.v.length := by
  rcases cell_ways h with ⟨_, rfl⟩ | ⟨_, _, rfl⟩ | ⟨_, _, _, rfl⟩ <;> exact List.length_set
theorem start_len (n : Nat) : (startE n).v.length = n * 4 := by simp [startE]
/-! ### the masks' cells are 0, 1 or 2 -/
def Bit3 (v : Int) : Prop := v = 0 ∨ v = 1 ∨ v = 2
def Bit2 (v : Int) : Prop := v = 0 ∨ v = 1
theorem bit3_cell {I : List Int} {b : Int} (N : Nat) (ms : List Bool) (m : Bool) (s : FS) (c : Nat) (x y : EX) (hs : stepM ms s = some m) (hN : ms.length < N) (hc : c < 4)
    (hr : x.v.length = N * 4 ∧ Msk Bit3 (ms ++ [m]) (ms.length * 4 + c) x.v) (h : cellE I b s ms.length c x = some y) : y.v.length = N * 4 ∧ Msk Bit3 (ms ++ [m]) (ms.length * 4 + c + 1) y.v := by
  refine ⟨(cell_len h).trans hr.1, ?_⟩
  rcases cell_ways h with ⟨h1, rfl⟩ | ⟨_, _, rfl⟩ | ⟨h1, _, _, rfl⟩
  · exact hr.2.put _ (by omega) hc (fun _ => logic_rng _ _ _)
  · exact hr.2.put _ (by omega) hc (fun _ => Or.inr (Or.inr rfl))
  · refine hr.2.put _ (by omega) hc (fun hm => ?_)
    rcases vec_mask (I := I) (s := s) (c := c) (a := opA s c x.v) (b := opB s c x.v) (step_makes hs h1 hm) with e | e
    · exact Or.inl e
    · exact Or.inr (Or.inl e)
theorem bit3_start (n : Nat) : (startE n).v.length = n * 4 ∧ Msk Bit3 [] 0 (startE n).v := ⟨start_len n, fun _ hp => absurd hp (by omega)⟩
theorem steps_bit3 {I : List Int} {b : Int} {l : List FS} {MS : List Bool} {y : EX} (hm : masksL l [] = some MS) (h : stepsE I b l 0 (startE l.length) = some y) : y.v.length = l.length * 4 ∧ Msk Bit3 MS (MS.length * 4) y.v :=
  steps_one (N := l.length) (I := I) (b := b) (R := fun ms n x => x.v.length = l.length * 4 ∧ Msk Bit3 ms n x.v) (fun ms m s c x y => bit3_cell l.length ms m s c x y) (fun ms m x hr => ⟨hr.1, hr.2.row m⟩) l [] MS _ y hm (by simp) (by simpa using bit3_start l.length) h
/-! ### what is used -/
def costs (s : FS) : Nat := if 8 ≤ s.f0 then 0 else 4
def costE (l : List FS) : Nat := (l.map costs).sum
theorem cell_used {I : List Int} {b : Int} {s : FS} {i c : Nat} {x y : EX} (h : cellE I b s i c x = some y) (hx : x.used ≤ b) : y.used = min b (x.used + (if 8 ≤ s.f0 then 0 else 1)) := by
  rcases cell_ways h with ⟨h1, rfl⟩ | ⟨h1, h2, rfl⟩ | ⟨h1, h2, _, rfl⟩
  · rw [if_pos h1]; simp only; omega
  · rw [if_neg (by omega)]; simp only; omega
  · rw [if_neg (by omega)]; simp only; omega
theorem cells_used {I : List Int} {b : Int} {s : FS} {i : Nat} : ∀ (n c : Nat) (x y : EX), cellsE I b s i n c x = some y → x.used ≤ b → y.used = min b (x.used + n * (if 8 ≤ s.f0 then 0 else 1))
  | 0, c, x, y, h, hx => by
    rw [cellsE] at h
    obtain rfl := Option.some.inj h
    simp; omega
  | n + 1, c, x, y, h, hx => by
    rw [cellsE, Option.bind_eq_some_iff] at h
    obtain ⟨z, e, h⟩ := h
    have h1 := cell_used e hx
    have h2 := cells_used n (c + 1) z y h (by omega)
    rw [h2, h1]
    split <;> simp <;> omega
theorem steps_used {I : List Int} {b : Int} : ∀ (l : List FS) (i : Nat) (x y : EX), stepsE I b l i x = some y → x.used ≤ b → y.used = min b (x.used + costE l)
  | [], i, x, y, h, hx => by
    rw [stepsE] at h
    obtain rfl := Option.some.inj h
    simp [costE]; omega
  | s :: l, i, x, y, h, hx => by
    rw [stepsE, Option.bind_eq_some_iff] at h
    obtain ⟨z, e, h⟩ := h
    have h1 := cells_used 4 0 x z e hx
    have h2 := steps_used l (i + 1) z y h (by omega)
    rw [h2, h1]
    simp only [costE, List.map_cons, List.sum_cons, costs]
    split <;> simp <;> omega
theorem cost_le (l : List FS) : costE l ≤ l.length * 4 := by
  induction l with
  | nil => simp [costE]
  | cons s l ih =>
    simp only [costE, List.map_cons, List.sum_cons, List.length_cons] at *
    have : costs s ≤ 4 := by unfold costs; split <;> omega
    omega
/-! ### a budget that is enough -/
theorem cell_enough {I : List Int} {b1 b2 : Int} {s : FS} {i c : Nat} {x : EX} (h1 : x.used < b1) (h2 : x.used < b2) : cellE I b1 s i c x = cellE I b2 s i c x := by
  unfold cellE
  rw [if_neg (by omega : ¬ b1 ≤ x.used), if_neg (by omega : ¬ b2 ≤ x.used)]
theorem cell_more {I : List Int} {b : Int} {s : FS} {i c : Nat} {x y : EX} (h : cellE I b s i c x = some y) : x.used ≤ y.used ∧ y.used ≤ x.used + 1 := by
  rcases cell_ways h with ⟨_, rfl⟩ | ⟨_, _, rfl⟩ | ⟨_, _, _, rfl⟩ <;> constructor <;> simp only <;> omega
theorem cells_enough {I : List Int} {b1 b2 : Int} {s : FS} {i : Nat} : ∀ (n c : Nat) (x : EX), x.used + n ≤ b1 → x.used + n ≤ b2 → cellsE I b1 s i n c x = cellsE I b2 s i n c x ∧ ∀ y, cellsE I b2 s i n c x = some y → y.used ≤ x.used + n
  | 0, c, x, _, _ => ⟨rfl, fun y h => by rw [cellsE] at h; obtain rfl := Option.some.inj h; omega⟩
  | n + 1, c, x, h1, h2 => by
    rw [cellsE, cellsE, cell_enough (b1 := b1) (b2 := b2) (by omega) (by omega)]
    cases hz : cellE I b2 s i c x with
    | none => exact ⟨rfl, fun y h => by simp at h⟩
    | some z =>
      have hm := cell_more hz
      obtain ⟨e, k⟩ := cells_enough (I := I) (b1 := b1) (b2 := b2) (s := s) (i := i) n (c + 1) z (by omega) (by omega)
      exact ⟨e, fun y h => by have := k y h; omega⟩
theorem steps_enough {I : List Int} {b1 b2 : Int} : ∀ (l : List FS) (i : Nat) (x : EX), x.used + l.length * 4 ≤ b1 → x.used + l.length * 4 ≤ b2 → stepsE I b1 l i x = stepsE I b2 l i x
  | [], i, x, _, _ => rfl
  | s :: l, i, x, h1, h2 => by
    rw [List.length_cons] at h1 h2
    obtain ⟨e, k⟩ := cells_enough (I := I) (b1 := b1) (b2 := b2) (s := s) (i := i) 4 0 x (by omega) (by omega)
    rw [stepsE, stepsE, e]
    cases hz : cellsE I b2 s i 4 0 x with
    | none => rfl
    | some z =>
      have := k z hz
      exact steps_enough l (i + 1) z (by omega) (by omega)
/-- with enough of it the masks are 0 or 1 -/
theorem bit2_cell {I : List Int} {b : Int} (N : Nat) (hb : (N : Int) * 4 ≤ b) (ms : List Bool) (m : Bool) (s : FS) (c : Nat) (x y : EX) (hs : stepM ms s = some m) (hN : ms.length < N) (hc : c < 4)
    (hr : x.v.length = N * 4 ∧ x.used ≤ (ms.length * 4 + c : Nat) ∧ Msk Bit2 (ms ++ [m]) (ms.length * 4 + c) x.v) (h : cellE I b s ms.length c x = some y) : y.v.length = N * 4 ∧ y.used ≤ (ms.length * 4 + c + 1 : Nat) ∧ Msk Bit2 (ms ++ [m]) (ms.length * 4 + c + 1) y.v := by
  have hm := cell_more h
  refine ⟨(cell_len h).trans hr.1, by omega, ?_⟩
  rcases cell_ways h with ⟨h1, rfl⟩ | ⟨_, h2, rfl⟩ | ⟨h1, _, _, rfl⟩
  · obtain ⟨a1, a2⟩ := logic_args hs h1 hc hr.2.2
    exact hr.2.2.put _ (by omega) hc (fun _ => logic_full h1 a1 a2)
  · omega
  · refine hr.2.2.put _ (by omega) hc (fun hm => ?_)
    exact vec_mask (step_makes hs h1 hm)
theorem steps_bit2 {I : List Int} {b : Int} {l : List FS} {MS : List Bool} {y : EX} (hb : (l.length : Int) * 4 ≤ b) (hm : masksL l [] = some MS) (h : stepsE I b l 0 (startE l.length) = some y) : Msk Bit2 MS (MS.length * 4) y.v :=
  (steps_one (N := l.length) (I := I) (b := b) (R := fun ms n x => x.v.length = l.length * 4 ∧ x.used ≤ (n : Nat) ∧ Msk Bit2 ms n x.v) (fun ms m s c x y => bit2_cell l.length hb ms m s c x y) (fun ms m x hr => ⟨hr.1, hr.2.1, hr.2.2.row m⟩) l [] MS _ y hm (by simp) ⟨start_len _, by simp [startE], fun _ hp => absurd hp (by simp)⟩ h).2.2
/-! ### no budget -/
theorem steps_zero {I : List Int} {l : List FS} {MS : List Bool} (hm : masksL l [] = some MS) : ∃ y, stepsE I 0 l 0 (startE l.length) = some y ∧ y.used = 0 ∧ Msk (· = 2) MS (MS.length * 4) y.v := by
  have key : ∀ (l : List FS) (ms MS : List Bool) (x : EX) (N : Nat), masksL l ms = some MS → ms.length + l.length ≤ N → x.v.length = N * 4 ∧ x.used = 0 ∧ Msk (· = 2) ms (ms.length * 4) x.v → ∃ y, stepsE I 0 l ms.length x = some y ∧ y.used = 0 ∧ Msk (· = 2) MS (MS.length * 4) y.v := by
    have cell : ∀ (N : Nat) (ms : List Bool) (m : Bool) (s : FS) (c : Nat) (x : EX), stepM ms s = some m → ms.length < N → c < 4 → x.v.length = N * 4 ∧ x.used = 0 ∧ Msk (· = 2) (ms ++ [m]) (ms.length * 4 + c) x.v → ∃ y, cellE I 0 s ms.length c x = some y ∧ y.v.length = N * 4 ∧ y.used = 0 ∧ Msk (· = 2) (ms ++ [m]) (ms.length * 4 + c + 1) y.v := by
      intro N ms m s c x hs hN hc hr
      by_cases h1 : 8 ≤ s.f0
      · obtain ⟨a1, a2⟩ := logic_args hs h1 hc hr.2.2
        exact ⟨_, cell_logic h1, by simpa using hr.1, hr.2.1, hr.2.2.put _ (by omega) hc (fun _ => logic_none a1 a2 h1)⟩
      · exact ⟨_, cell_out (by omega) (by omega), by simpa using hr.1, hr.2.1, hr.2.2.put _ (by omega) hc (fun _ => rfl)⟩
    have cells : ∀ (n c : Nat) (N : Nat) (ms : List Bool) (m : Bool) (s : FS) (x : EX), stepM ms s = some m → ms.length < N → c + n = 4 → x.v.length = N * 4 ∧ x.used = 0 ∧ Msk (· = 2) (ms ++ [m]) (ms.length * 4 + c) x.v → ∃ y, cellsE I 0 s ms.length n c x = some y ∧ y.v.length = N * 4 ∧ y.used = 0 ∧ Msk (· = 2) (ms ++ [m]) (ms.length * 4 + 4) y.v := by
      intro n
      induction n with
      | zero =>
        intro c N ms m s x hs hN hc hr
        obtain rfl : c = 4 := by omega
        exact ⟨x, rfl, hr⟩
      | succ n ih =>
        intro c N ms m s x hs hN hc hr
        obtain ⟨z, e, hz⟩ := cell N ms m s c x hs hN (by omega) hr
        obtain ⟨y, e2, hy⟩ := ih (c + 1) N ms m s z hs hN (by omega) hz
        exact ⟨y, by rw [cellsE, e]; exact e2, hy⟩
    intro l
    induction l with
    | nil =>
      intro ms MS x N hm hN hr
      rw [masksL] at hm
      obtain rfl := Option.some.inj hm
      exact ⟨x, rfl, hr.2⟩
    | cons s l ih =>
      intro ms MS x N hm hN hr
      rw [List.length_cons] at hN
      rw [masksL] at hm
      split at hm
      · rename_i m hs
        obtain ⟨z, e, hz⟩ := cells 4 0 N ms m s x hs (by omega) (by omega) ⟨hr.1, hr.2.1, hr.2.2.row m⟩
        have hl : (ms ++ [m]).length = ms.length + 1 := by simp
        obtain ⟨y, e2, hy⟩ := ih (ms ++ [m]) MS z N hm (by rw [hl]; omega) ⟨hz.1, hz.2.1, by rw [hl, Nat.add_mul]; exact hz.2.2⟩
        refine ⟨y, ?_, hy⟩
        rw [stepsE, e]
        rw [hl] at e2
        exact e2
      · cases hm
  exact key l [] MS _ l.length hm (by simp) ⟨start_len _, rfl, fun _ hp => absurd hp (by simp)⟩
/-! ### a lesser budget -/
def Less (b1 : Int) (ms : List Bool) (n : Nat) (x1 x2 : EX) : Prop :=
  x1.v.length = x2.v.length ∧ x1.used = min b1 x2.used ∧ (x2.used ≤ b1 → x1.v = x2.v) ∧ ∀ p : Nat, p < n → ms[p / 4]? = some true → x1.v.getD p 0 = 2 ∨ x1.v.getD p 0 = x2.v.getD p 0
theorem less_put {ms : List Bool} {m : Bool} {c : Nat} {V1 V2 : List Int} (h : ∀ p : Nat, p < ms.length * 4 + c → (ms ++ [m])[p / 4]? = some true → V1.getD p 0 = 2 ∨ V1.getD p 0 = V2.getD p 0) (hl : V1.length = V2.length) (v1 v2 : Int) (hc : c < 4) (hv : m = true → v1 = 2 ∨ v1 = v2) :
    ∀ p : Nat, p < ms.length * 4 + c + 1 → (ms ++ [m])[p / 4]? = some true → (V1.set (ms.length * 4 + c) v1).getD p 0 = 2 ∨ (V1.set (ms.length * 4 + c) v1).getD p 0 = (V2.set (ms.length * 4 + c) v2).getD p 0 := by
  intro p hp hm
  rw [getD_put, getD_put, ← hl]
  by_cases e : ms.length * 4 + c = p ∧ ms.length * 4 + c < V1.length
  · rw [if_pos e, if_pos e]
    refine hv ?_
    rw [show p / 4 = ms.length by omega, List.getElem?_append_right (Nat.le_refl _)] at hm
    simpa using hm
  · rw [if_neg e, if_neg e]
    by_cases e2 : ms.length * 4 + c = p
    · have h1 : V1.getD p 0 = 0 := by rw [List.getD_eq_getElem?_getD, List.getElem?_eq_none (by omega)]; rfl
      have h2 : V2.getD p 0 = 0 := by rw [List.getD_eq_getElem?_getD, List.getElem?_eq_none (by omega)]; rfl
      rw [h1, h2]; exact Or.inr rfl
    · exact h p (by omega) hm
theorem less_cell {I : List Int} {b1 b2 : Int} (hb : b1 ≤ b2) (N : Nat) : CellK N I I b1 b2 (Less b1) := by
  intro ms m s c x1 x2 y2 hs hN hc hr h2
  obtain ⟨r1, r2, r3, r4⟩ := hr
  rcases cell_ways h2 with ⟨h1, rfl⟩ | ⟨h1, h3, rfl⟩ | ⟨h1, h3, h4, rfl⟩
  · refine ⟨_, cell_logic h1, by simpa using r1, r2, fun h => by simp only; rw [r3 h], ?_⟩
    obtain ⟨_, _, _, k1, k2, _⟩ := step_logic hs h1
    have g : ∀ a : Int, ms[a.toNat]? = some true → x1.v.getD (a.toNat * 4 + c) 0 = 2 ∨ x1.v.getD (a.toNat * 4 + c) 0 = x2.v.getD (a.toNat * 4 + c) 0 := fun a ha => by
      have hl := (List.getElem?_eq_some_iff.1 ha).1
      refine r4 _ (by omega) ?_
      rw [show (a.toNat * 4 + c) / 4 = a.toNat by omega, List.getElem?_append_left hl]
      exact ha
    exact less_put r4 r1 _ _ hc (fun _ => logic_refine h1 (g _ k1) (fun hh => g _ (k2 hh).2))
  · refine ⟨_, cell_out h1 (by omega), by simpa using r1, r2, fun h => by simp only; rw [r3 h], ?_⟩
    exact less_put r4 r1 _ _ hc (fun _ => Or.inl rfl)
  · by_cases h5 : x2.used < b1
    · have e := r3 (by omega)
      have eu : x1.used = x2.used := by omega
      rw [← e] at h4 ⊢
      refine ⟨_, cell_pays h1 (by omega) h4, rfl, ?_, fun _ => rfl, fun p hp hm => Or.inr rfl⟩
      simp only
      omega
    · refine ⟨_, cell_out h1 (by omega), by simpa using r1, by simp only; omega, fun h => by simp only at h; omega, ?_⟩
      exact less_put r4 r1 _ _ hc (fun _ => Or.inl rfl)
theorem steps_less {I : List Int} {b1 b2 : Int} (h0 : 0 ≤ b1) (hb : b1 ≤ b2) {l : List FS} {MS : List Bool} {y2 : EX} (hm : masksL l [] = some MS) (h : stepsE I b2 l 0 (startE l.length) = some y2) : ∃ y1, stepsE I b1 l 0 (startE l.length) = some y1 ∧ Less b1 MS (MS.length * 4) y1 y2 :=
  steps_keep (N := l.length) (less_cell hb l.length) (fun ms m x1 x2 hr => ⟨hr.1, hr.2.1, hr.2.2.1, fun p hp hm => hr.2.2.2 p hp (by rw [List.getElem?_append_left (by omega)] at hm; exact hm)⟩) l [] MS _ _ y2 hm (by simp) ⟨rfl, by simp [startE]; omega, fun _ => rfl, fun _ hp => absurd hp (by simp)⟩ h
/-! ### a further step -/
theorem getD_tail (V : List Int) (k p : Nat) : (V ++ List.replicate k 0).getD p 0 = V.getD p 0 := by
  rw [List.getD_eq_getElem?_getD, List.getD_eq_getElem?_getD, List.getElem?_append]
  split
  · rfl
  · rename_i h
    rw [List.getElem?_eq_none (Nat.le_of_not_lt h), List.getElem?_replicate]
    split <;> rfl
def EX.tail (x : EX) (k : Nat) : EX := ⟨x.v ++ List.replicate k 0, x.used⟩
theorem cell_tail {I : List Int} {b : Int} {s : FS} {i c k : Nat} {x : EX} (h : i * 4 + c < x.v.length) : cellE I b s i c (x.tail k) = (cellE I b s i c x).map (·.tail k) := by
  unfold cellE EX.tail opA opB
  simp only [getD_tail, List.set_append_left _ _ h]
  split
  · rfl
  · split
    · rfl
    · split <;> rfl
theorem cells_tail {I : List Int} {b : Int} {s : FS} {i k : Nat} : ∀ (n c : Nat) (x : EX), i * 4 + c + n ≤ x.v.length → cellsE I b s i n c (x.tail k) = (cellsE I b s i n c x).map (·.tail k)
  | 0, c, x, h => rfl
  | n + 1, c, x, h => by
    rw [cellsE, cellsE, cell_tail (by omega)]
    cases hz : cellE I b s i c x with
    | none => rfl
    | some z =>
      have hl := cell_len hz
      exact cells_tail n (c + 1) z (by omega)
theorem cells_len {I : List Int} {b : Int} {s : FS} {i : Nat} : ∀ (n c : Nat) (x y : EX), cellsE I b s i n c x = some y → y.v.length = x.v.length
  | 0, c, x, y, h => by rw [cellsE] at h; obtain rfl := Option.some.inj h; rfl
  | n + 1, c, x, y, h => by
    rw [cellsE, Option.bind_eq_some_iff] at h
    obtain ⟨z, e, h⟩ := h
    exact (cells_len n (c + 1) z y h).trans (cell_len e)
theorem steps_tail {I : List Int} {b : Int} {k : Nat} : ∀ (l : List FS) (i : Nat) (x : EX), (i + l.length) * 4 ≤ x.v.length → stepsE I b l i (x.tail k) = (stepsE I b l i x).map (·.tail k)
  | [], i, x, h => rfl
  | s :: l, i, x, h => by
    rw [List.length_cons] at h
    rw [stepsE, stepsE, cells_tail 4 0 x (by omega)]
    cases hz : cellsE I b s i 4 0 x with
    | none => rfl
    | some z =>
      have hl := cells_len 4 0 x z hz
      exact steps_tail l (i + 1) z (by omega)
theorem steps_snoc {I : List Int} {b : Int} (s : FS) : ∀ (l : List FS) (i : Nat) (x : EX), stepsE I b (l ++ [s]) i x = (stepsE I b l i x).bind (cellsE I b s (i + l.length) 4 0)
  | [], i, x => by
    show (cellsE I b s i 4 0 x).bind (fun y => some y) = _
    rw [stepsE]
    simp
  | t :: l, i, x => by
    rw [List.cons_append, stepsE, stepsE]
    cases hz : cellsE I b t i 4 0 x with
    | none => rfl
    | some z =>
      show stepsE I b (l ++ [s]) (i + 1) z = _
      rw [steps_snoc s l (i + 1) z, List.length_cons]
      congr 2
      omega
theorem start_tail (n : Nat) : startE (n + 1) = (startE n).tail 4 := by
  unfold startE EX.tail
  rw [List.replicate_append_replicate, Nat.add_mul]
/-! ### a column by itself -/
def Col (c0 : Nat) (x1 x2 : EX) : Prop := x1.used = x2.used ∧ x1.v.length = x2.v.length ∧ ∀ j : Nat, x1.v.getD (j * 4 + c0) 0 = x2.v.getD (j * 4 + c0) 0
theorem col_put {c0 i c : Nat} {V1 V2 : List Int} (h : ∀ j : Nat, V1.getD (j * 4 + c0) 0 = V2.getD (j * 4 + c0) 0) (hl : V1.length = V2.length) (v1 v2 : Int) (hc0 : c0 < 4) (hc : c < 4) (hv : c = c0 → v1 = v2) :
    ∀ j : Nat, (V1.set (i * 4 + c) v1).getD (j * 4 + c0) 0 = (V2.set (i * 4 + c) v2).getD (j * 4 + c0) 0 := by
  intro j
  rw [getD_put, getD_put, ← hl]
  by_cases e : i * 4 + c = j * 4 + c0 ∧ i * 4 + c < V1.length
  · rw [if_pos e, if_pos e, hv (by omega)]
  · rw [if_neg e, if_neg e, h]
theorem col_cell {I1 I2 : List Int} {b : Int} {c0 : Nat} (hc0 : c0 < 4) (hI : ∀ k : Nat, I1.getD (k * 4 + c0) 0 = I2.getD (k * 4 + c0) 0) {s : FS} {i c : Nat} (hc : c < 4) {x1 x2 y1 y2 : EX} (hr : Col c0 x1 x2) (h1 : cellE I1 b s i c x1 = some y1) (h2 : cellE I2 b s i c x2 = some y2) : Col c0 y1 y2 := by
  obtain ⟨r1, r2, r3⟩ := hr
  rcases cell_ways h1 with ⟨a1, rfl⟩ | ⟨a1, a2, rfl⟩ | ⟨a1, a2, _, rfl⟩ <;> rcases cell_ways h2 with ⟨d1, rfl⟩ | ⟨d1, d2, rfl⟩ | ⟨d1, d2, _, rfl⟩
  all_goals first | omega | skip
  · exact ⟨r1, by simpa using r2, col_put r3 r2 _ _ hc0 hc (fun e => by subst e; unfold opA opB; rw [r3, r3])⟩
  · exact ⟨r1, by simpa using r2, col_put r3 r2 _ _ hc0 hc (fun _ => rfl)⟩
  · exact ⟨by simp only; omega, by simpa using r2, col_put r3 r2 _ _ hc0 hc (fun e => by subst e; unfold opA opB; rw [r3, r3]; unfold vecE; rw [hI])⟩
theorem col_cells {I1 I2 : List Int} {b : Int} {c0 : Nat} (hc0 : c0 < 4) (hI : ∀ k : Nat, I1.getD (k * 4 + c0) 0 = I2.getD (k * 4 + c0) 0) {s : FS} {i : Nat} : ∀ (n c : Nat) (x1 x2 y1 y2 : EX), c + n = 4 → Col c0 x1 x2 → cellsE I1 b s i n c x1 = some y1 → cellsE I2 b s i n c x2 = some y2 → Col c0 y1 y2
  | 0, c, x1, x2, y1, y2, _, hr, h1, h2 => by
    rw [cellsE] at h1 h2
    obtain rfl := Option.some.inj h1
    obtain rfl := Option.some.inj h2
    exact hr
  | n + 1, c, x1, x2, y1, y2, hn, hr, h1, h2 => by
    rw [cellsE, Option.bind_eq_some_iff] at h1 h2
    obtain ⟨z1, e1, h1⟩ := h1
    obtain ⟨z2, e2, h2⟩ := h2
    exact col_cells hc0 hI n (c + 1) z1 z2 y1 y2 (by omega) (col_cell hc0 hI (by omega) hr e1 e2) h1 h2
theorem col_steps {I1 I2 : List Int} {b : Int} {c0 : Nat} (hc0 : c0 < 4) (hI : ∀ k : Nat, I1.getD (k * 4 + c0) 0 = I2.getD (k * 4 + c0) 0) : ∀ (l : List FS) (i : Nat) (x1 x2 y1 y2 : EX), Col c0 x1 x2 → stepsE I1 b l i x1 = some y1 → stepsE I2 b l i x2 = some y2 → Col c0 y1 y2
  | [], i, x1, x2, y1, y2, hr, h1, h2 => by
    rw [stepsE] at h1 h2
    obtain rfl := Option.some.inj h1
    obtain rfl := Option.some.inj h2
    exact hr
  | s :: l, i, x1, x2, y1, y2, hr, h1, h2 => by
    rw [stepsE, Option.bind_eq_some_iff] at h1 h2
    obtain ⟨z1, e1, h1⟩ := h1
    obtain ⟨z2, e2, h2⟩ := h2
    exact col_steps hc0 hI l (i + 1) z1 z2 y1 y2 (col_cells hc0 hI 4 0 x1 x2 z1 z2 (by omega) hr e1 e2) h1 h2
end Go.Proofs.YtamabdijeklgjaaDoor.Ext
