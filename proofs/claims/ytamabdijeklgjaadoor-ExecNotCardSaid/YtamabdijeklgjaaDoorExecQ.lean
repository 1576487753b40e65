/- The law ExecNot: the plain answers; the copied steps. -/
import Derived.Test.YtamabdijeklgjaaDoorGm
namespace Go.Proofs.YtamabdijeklgjaaDoor.Ext
open Go Go.Proofs Go.RowKit Go.Proofs.YtamabdijeklgjaaDoorW.PrintWords
set_option linter.unusedVariables false

def notE (a : Int) : Int := if a = 0 then 1 else if a = 1 then 0 else 2
theorem cell_not {I : List Int} {b : Int} {s : FS} {i c : Nat} {x : EX} (h : s.f0 = 10) : cellE I b s i c x = some ⟨x.v.set (i * 4 + c) (notE (opA s c x.v)), x.used⟩ := by
  rw [cell_logic (by omega)]
  unfold logicE notE
  rw [h]
  rfl
theorem cells_not {I : List Int} {b : Int} {s : FS} {i : Nat} {x : EX} (h : s.f0 = 10) (ha : s.f1.toNat < i) (hl : (i + 1) * 4 ≤ x.v.length) :
    ∃ y, cellsE I b s i 4 0 x = some y ∧ y.used = x.used ∧ y.v.length = x.v.length ∧ ∀ j, j < 4 → y.v.getD (i * 4 + j) 0 = notE (x.v.getD (s.f1.toNat * 4 + j) 0) := by
  have key : ∀ (n c : Nat) (z : EX), c + n = 4 → z.used = x.used → z.v.length = x.v.length → (∀ p : Nat, p < i * 4 → z.v.getD p 0 = x.v.getD p 0) → (∀ j, j < c → z.v.getD (i * 4 + j) 0 = notE (x.v.getD (s.f1.toNat * 4 + j) 0)) →
      ∃ y, cellsE I b s i n c z = some y ∧ y.used = x.used ∧ y.v.length = x.v.length ∧ ∀ j, j < 4 → y.v.getD (i * 4 + j) 0 = notE (x.v.getD (s.f1.toNat * 4 + j) 0) := by
    intro n
    induction n with
    | zero =>
      intro c z hc h1 h2 h3 h4
      obtain rfl : c = 4 := by omega
      exact ⟨z, rfl, h1, h2, h4⟩
    | succ n ih =>
      intro c z hc h1 h2 h3 h4
      rw [cellsE, cell_not h]
      refine ih (c + 1) _ (by omega) h1 (by simpa using h2) (fun p hp => ?_) (fun j hj => ?_)
      · rw [getD_far _ (by omega)]
        exact h3 p hp
      · by_cases e : j = c
        · subst e
          rw [getD_same _ (by omega)]
          unfold opA
          rw [h3 _ (by omega)]
        · rw [getD_far _ (by omega)]
          exact h4 j (by omega)
  exact key 4 0 x (by omega) rfl rfl (fun _ _ => rfl) (fun j hj => absurd hj (by omega))
/-- what a Not behind the steps answers -/
def NotP (a c : Int) : Prop := (0 = a ∧ 1 = c) ∨ (1 = a ∧ 0 = c) ∨ (2 = a ∧ 2 = c)
theorem notP_of {a : Int} (h : Bit3 a) : NotP a (notE a) := by
  rcases h with rfl | rfl | rfl
  · exact Or.inl ⟨rfl, rfl⟩
  · exact Or.inr (Or.inl ⟨rfl, rfl⟩)
  · exact Or.inr (Or.inr ⟨rfl, rfl⟩)
theorem not_letters {n n2 : List UInt8} {v v2 : Int} {l : List FS} {ni : Nat} {I : List Int} {b : Int} (h0 : 0 ≤ b) (h1 : validB n v l = true) (h2 : validB n2 v2 (l ++ [⟨10, (l.length : Int) - 1, 0, 0⟩]) = true) :
    ∃ a0 a1 a2 a3 u1 e1 c0 c1 c2 c3 u2 e2 : Int, Hid (runE n v l ni I b = ([a0, a1, a2, a3], u1, e1)) ∧ Hid (runE n2 v2 (l ++ [⟨10, (l.length : Int) - 1, 0, 0⟩]) ni I b = ([c0, c1, c2, c3], u2, e2)) ∧
      Hid ((1 = e1 ∧ 1 = e2) ∨ (9 = e1 ∧ 9 = e2) ∨ (0 = e1 ∧ 0 = e2 ∧ u1 = u2 ∧ NotP a0 c0 ∧ NotP a1 c1 ∧ NotP a2 c2 ∧ NotP a3 c3)) := by
  by_cases hI : ni = 4 ∧ I.all (fun n => !farE n) = true
  · have k1 : RunOk n v l ni I := ⟨h1, hI.1, hI.2⟩
    have k2 : RunOk n2 v2 (l ++ [⟨10, (l.length : Int) - 1, 0, 0⟩]) ni I := ⟨h2, hI.1, hI.2⟩
    obtain ⟨_, _, _, hl1, _, MS, hMS, hg⟩ := valid_parts h1
    have hlen : (l ++ [(⟨10, (l.length : Int) - 1, 0, 0⟩ : FS)]).length = l.length + 1 := by simp
    have hs2 : stepsE I b (l ++ [⟨10, (l.length : Int) - 1, 0, 0⟩]) 0 (startE (l ++ [(⟨10, (l.length : Int) - 1, 0, 0⟩ : FS)]).length) = ((stepsE I b l 0 (startE l.length)).map (·.tail 4)).bind (cellsE I b ⟨10, (l.length : Int) - 1, 0, 0⟩ (0 + l.length) 4 0) := by
      rw [hlen, start_tail, steps_snoc, steps_tail l 0 _ (by rw [start_len]; omega)]
    rw [Nat.zero_add] at hs2
    cases hs : stepsE I b l 0 (startE l.length) with
    | none =>
      rw [hs] at hs2
      exact ⟨_, _, _, _, _, _, _, _, _, _, _, _, Lib.hid (run_range k1 h0 hs), Lib.hid (run_range k2 h0 hs2), Lib.hid (Or.inr (Or.inl ⟨rfl, rfl⟩))⟩
    | some x =>
      rw [hs] at hs2
      obtain ⟨hb1, hb2⟩ := steps_bit3 hMS hs
      obtain ⟨y, hy, hu, hyl, hyv⟩ := cells_not (I := I) (b := b) (s := ⟨10, (l.length : Int) - 1, 0, 0⟩) (i := l.length) (x := x.tail 4) rfl (by simp only; omega) (by unfold EX.tail; simp only [List.length_append, List.length_replicate]; omega)
      have hs3 := hs2.trans (show (some (x.tail 4)).bind _ = some y from hy)
      have k := last_mask hMS hg hb2
      have r1 := run_some k1 h0 hs
      have r2 := run_some k2 h0 hs3
      rw [hlen, Nat.add_sub_cancel] at r2
      have g : ∀ j, j < 4 → y.v.getD (l.length * 4 + j) 0 = notE (x.v.getD ((l.length - 1) * 4 + j) 0) := by
        intro j hj
        rw [hyv j hj]
        unfold EX.tail
        simp only [getD_tail]
        rw [show ((l.length : Int) - 1).toNat = l.length - 1 by omega]
      have g0 := g 0 (by omega)
      have k0 := k 0 (by omega)
      rw [Nat.add_zero, Nat.add_zero] at g0
      rw [Nat.add_zero] at k0
      rw [g0, g 1 (by omega), g 2 (by omega), g 3 (by omega)] at r2
      exact ⟨_, _, _, _, _, _, _, _, _, _, _, _, Lib.hid r1, Lib.hid r2, Lib.hid (Or.inr (Or.inr ⟨rfl, rfl, hu.symm, notP_of k0, notP_of (k 1 (by omega)), notP_of (k 2 (by omega)), notP_of (k 3 (by omega))⟩))⟩
  · exact ⟨_, _, _, _, _, _, _, _, _, _, _, _, Lib.hid (run_bad (fun k => hI k.2) b), Lib.hid (run_bad (fun k => hI k.2) b), Lib.hid (Or.inl ⟨rfl, rfl⟩)⟩
theorem steps_cells {w : World} {b o : Nat} {l : List FS} (h : StepsAt w b o l) : ∀ (k : Nat) (u : Value), (encFS l)[k]? = some u → w.cell? ((⟨b, o, none⟩ : Addr).add k) = some u := by
  intro k u hu
  have hk := (List.getElem?_eq_some_iff.1 hu).1
  rw [encFS_length] at hk
  obtain ⟨y, hy⟩ : ∃ y, l[k / 4]? = some y := ⟨_, List.getElem?_eq_getElem (by omega)⟩
  have hj : k % 4 < (stepC y).length := by show k % 4 < 4; omega
  have hv := encFS_get l (k / 4) y hy (k % 4) _ (List.getElem?_eq_getElem hj)
  rw [show k / 4 * 4 + k % 4 = k by omega, hu] at hv
  have := h.2 (k / 4) y hy (k % 4) u (by rw [Option.some.inj hv]; exact List.getElem?_eq_getElem hj)
  rw [show o + k / 4 * 4 + k % 4 = o + k by omega] at this
  rw [show (⟨b, o, none⟩ : Addr).add k = ⟨b, o + k, none⟩ by unfold Addr.add; split <;> simp_all]
  exact this
theorem encFS_one {l : List FS} : ∀ u ∈ encFS l, u.oneCell' = true := by
  intro u hu
  unfold encFS at hu
  obtain ⟨x, _, hx⟩ := List.mem_flatMap.1 hu
  simp at hx
  rcases hx with rfl | rfl | rfl | rfl <;> rfl
theorem own_empty {w : World} {e : TypeId} {base size : Nat} (hb : base ≤ w.heap.size) : (w.alloc (.cells #[] e)).ownsRow base e size (.slice (some ⟨w.heap.size, 0, none⟩) 0 0) 0 [] :=
  ⟨by simp, Or.inr ⟨w.heap.size, 0, #[], rfl, hb, blk_new w _, Nat.le_refl _, Nat.zero_le _, by simp, by simp⟩⟩
end Go.Proofs.YtamabdijeklgjaaDoor.Ext
