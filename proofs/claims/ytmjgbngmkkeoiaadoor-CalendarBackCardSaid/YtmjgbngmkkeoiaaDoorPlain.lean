/- The plain laws of nights, slots, angles and their strings: no program in sight. -/
import Derived.Test.YtmjgbngmkkeoiaaDoorHead
import Derived.Lib.IndexBytes
namespace Go.Proofs.YtmjgbngmkkeoiaaDoor.Ext
open Go Go.Proofs Go.RowKit Go.Proofs.YtmjgbngmkkeoiaaDoorW.PrintWords Go.Proofs.YtmjgbngmkkeoiaaDoor.G

def isM (m : Int) : Prop := 0 ≤ m ∧ m < 38400
instance (m : Int) : Decidable (isM m) := by unfold isM; infer_instance

theorem within_f (x n : Int) : calendar_within.f x n = some (decide (0 ≤ x ∧ x < n)) := by
  unfold calendar_within.f
  by_cases h : 0 ≤ x
  · rw [if_pos h]; simp [h]
  · rw [if_neg h]; simp [h]
theorem moment_ok {a b : Int} (h1 : 0 ≤ a) (h2 : a < 400) (h3 : 0 ≤ b) (h4 : b < 96) : calendar_Moment.f a b = some (a * 96 + b, 0) := by
  unfold calendar_Moment.f
  rw [within_f, within_f, decide_eq_true ⟨h1, h2⟩, decide_eq_true ⟨h3, h4⟩]
  simp only [Option.bind_some, if_true]
  rw [wrap_in (n := a * 96) (by omega) (by omega), wrap_in (by omega) (by omega)]
theorem moment_no {a b : Int} (h : ¬ (0 ≤ a ∧ a < 400 ∧ 0 ≤ b ∧ b < 96)) : calendar_Moment.f a b = some (0, 1) := by
  unfold calendar_Moment.f
  rw [within_f, within_f]
  by_cases h1 : 0 ≤ a ∧ a < 400
  · rw [decide_eq_true h1, decide_eq_false (by omega)]; rfl
  · rw [decide_eq_false h1]; rfl
theorem split_ok {m : Int} (h : isM m) : calendar_Split.f m = some (m / 96, m % 96, 0) := by
  unfold calendar_Split.f
  obtain ⟨h0, h1⟩ := h
  rw [within_f, decide_eq_true ⟨h0, h1⟩]
  simp only [Option.bind_some, if_true]
  rw [Int.tdiv_eq_ediv_of_nonneg h0, Int.tmod_eq_emod_of_nonneg h0, wrap_in (by omega) (by omega)]
theorem split_no {m : Int} (h : ¬ isM m) : calendar_Split.f m = some (0, 0, 1) := by
  unfold calendar_Split.f
  rw [within_f, decide_eq_false (show ¬ (0 ≤ m ∧ m < 38400) from h)]; rfl
theorem sid_ok {m : Int} (h : isM m) : calendar_Sidereal.f m = some ((60 * (m % 96) + 16 * (m / 96)) % 5760, 0) := sidereal_at h.1 h.2
theorem sid_no {m : Int} (h : ¬ isM m) : calendar_Sidereal.f m = some (0, 1) := by
  unfold calendar_Sidereal.f
  rw [split_no h]; rfl

theorem sid_at {n s : Int} (h0 : 0 ≤ n) (h1 : n < 400) (h2 : 0 ≤ s) (h3 : s < 96) : calendar_Sidereal.f (n * 96 + s) = some ((60 * s + 16 * n) % 5760, 0) := by
  rw [sid_ok ⟨by omega, by omega⟩, show (n * 96 + s) % 96 = s by omega, show (n * 96 + s) / 96 = n by omega]

/-! ### strings -/
/-- the string of a moment -/
def T (m : Int) : ByteArray := itoaS (m / 96) ++ (⟨#[46]⟩ : ByteArray) ++ itoaS (m % 96)
def okN (n : Nat) : Bool := (match atoiN (Lib.itoa n) with | .ok v => v == (n : Int) | .bad _ => false) && (Lib.itoa n).all (fun c => c != 46) && decide ((Lib.itoa n).length ≤ 3)
theorem t400 : (List.range 400).all okN = true := by decide +kernel
theorem ok_at {n : Int} (h0 : 0 ≤ n) (h1 : n < 400) : atoiN (Lib.itoa n) = .ok n ∧ (46 ∉ Lib.itoa n) ∧ (Lib.itoa n).length ≤ 3 := by
  have h := List.all_eq_true.1 t400 n.toNat (by simp; omega)
  have e : ((n.toNat : Nat) : Int) = n := by omega
  unfold okN at h
  rw [e] at h
  simp only [Bool.and_eq_true, decide_eq_true_eq] at h
  obtain ⟨⟨h1, h2⟩, h3⟩ := h
  refine ⟨?_, ?_, h3⟩
  · cases ha : atoiN (Lib.itoa n) with
    | ok v => rw [ha] at h1; simp only [beq_iff_eq] at h1; rw [h1]
    | bad v => rw [ha] at h1; cases h1
  · intro hm
    have := List.all_eq_true.1 h2 46 hm
    simp at this
theorem itoaS_data (n : Int) : (itoaS n).data.toList = Lib.itoa n := rfl
theorem itoaS_size {n : Int} (h0 : 0 ≤ n) (h1 : n < 400) : (itoaS n).size ≤ 3 := by
  unfold itoaS; rw [size_lit]; exact (ok_at h0 h1).2.2
theorem text_ok {m : Int} (h : isM m) : calendar_Text.f m = some (T m, 0) := by
  obtain ⟨h0, h1⟩ := h
  unfold calendar_Text.f
  rw [split_ok ⟨h0, h1⟩]
  have e1 : strconv_Itoa.f (m / 96) = some (itoaS (m / 96)) := by unfold strconv_Itoa.f; rw [if_pos (by omega)]
  have e2 : strconv_Itoa.f (m % 96) = some (itoaS (m % 96)) := by unfold strconv_Itoa.f; rw [if_pos (by omega)]
  have s1 := itoaS_size (n := m / 96) (by omega) (by omega)
  have s2 := itoaS_size (n := m % 96) (by omega) (by omega)
  simp only [Option.bind_some, if_true, e1, e2]
  rw [if_pos (by omega), if_pos (by rw [ByteArray.size_append, show (⟨#[46]⟩ : ByteArray).size = 1 from rfl]; omega)]
  rfl
theorem text_no {m : Int} (h : ¬ isM m) : calendar_Text.f m = some (⟨#[]⟩, 1) := by
  unfold calendar_Text.f
  rw [split_no h]; rfl

theorem ba_ext {a b : ByteArray} (h : a.data.toList = b.data.toList) : a = b := ByteArray.ext (Array.toList_inj.1 h)
theorem T_data (m : Int) : (T m).data.toList = Lib.itoa (m / 96) ++ 46 :: Lib.itoa (m % 96) := by
  unfold T
  rw [ByteArray.data_append, ByteArray.data_append]
  simp [itoaS_data]

/-! ### the first dot -/
theorem cut_at {a b : List UInt8} (h : 46 ∉ a) : Lib.cut (a ++ 46 :: b) [46] = (a, b, true) := by
  have hi : Lib.index (a ++ 46 :: b) [46] = (a.length : Nat) := by
    refine Lib.index_first (by simp) (by simp [Lib.occAt]) ?_
    intro j hj
    rw [Bool.eq_false_iff]
    intro ho
    have := Lib.occAt_head rfl ho
    rw [List.getElem?_append_left hj] at this
    exact h (List.mem_of_getElem? this)
  unfold Lib.cut
  rw [hi, if_pos (by omega)]
  simp
theorem index_dot {s : List UInt8} (h : 46 ∉ s) : Lib.index s [46] = -1 := by
  refine Lib.index_none ?_
  intro j _
  rw [Bool.eq_false_iff]
  intro ho
  exact h (List.mem_of_getElem? (Lib.occAt_head rfl ho))
theorem cut_none {s : List UInt8} (h : 46 ∉ s) : Lib.cut s [46] = (s, [], false) := by
  unfold Lib.cut
  rw [index_dot h, if_neg (by omega)]
theorem dot_split {s : List UInt8} (h : 46 ∈ s) : ∃ a b, s = a ++ 46 :: b ∧ 46 ∉ a := by
  induction s with
  | nil => cases h
  | cons c s ih =>
    by_cases hc : c = 46
    · exact ⟨[], s, by rw [hc]; rfl, by simp⟩
    · have hm : 46 ∈ s := by
        rcases List.mem_cons.1 h with e | e
        · exact absurd e.symm hc
        · exact e
      obtain ⟨a, b, rfl, hn⟩ := ih hm
      refine ⟨c :: a, b, rfl, ?_⟩
      intro hx
      rcases List.mem_cons.1 hx with e | e
      · exact hc e.symm
      · exact hn e
theorem cutL_T {m : Int} (h : isM m) : cutL (T m) = itoaS (m / 96) ∧ cutR (T m) = itoaS (m % 96) := by
  have := cut_at (b := Lib.itoa (m % 96)) (ok_at (n := m / 96) (by have := h.1; omega) (by have := h.2; omega)).2.1
  unfold cutL cutR
  rw [T_data, this]
  exact ⟨rfl, rfl⟩
theorem num_at {n : Int} (h0 : 0 ≤ n) (h1 : n < 400) : numV (itoaS n) = n ∧ numBad (itoaS n) = false := by
  have := (ok_at h0 h1).1
  unfold numV numBad
  rw [itoaS_data, this]
  simp
theorem T_size {m : Int} (h : isM m) : (T m).size ≤ 7 := by
  have s1 := itoaS_size (n := m / 96) (by have := h.1; omega) (by have := h.2; omega)
  have s2 := itoaS_size (n := m % 96) (by omega) (by omega)
  unfold T
  rw [ByteArray.size_append, ByteArray.size_append, show (⟨#[46]⟩ : ByteArray).size = 1 from rfl]
  omega
theorem parse_T {m : Int} (h : isM m) : calendar_Parse.f (T m) = some (m, 0) := by
  have hs := T_size h
  have n1 := num_at (n := m / 96) (by have := h.1; omega) (by have := h.2; omega)
  have n2 := num_at (n := m % 96) (by omega) (by omega)
  unfold calendar_Parse.f
  rw [if_pos (by omega), (cutL_T h).1, (cutL_T h).2, n1.1, n2.1, moment_ok (by have := h.1; omega) (by have := h.2; omega) (by omega) (by omega)]
  simp only [Option.map_some, parseV, (cutL_T h).1, (cutL_T h).2, n1.2, n2.2]
  simp
  omega
theorem toList_inj' {a b : ByteArray} (h : a.toList = b.toList) : a = b := by
  rw [Lib.toList_data, Lib.toList_data] at h
  exact ba_ext h
theorem numBad_false {s : ByteArray} (h : numBad s = false) : itoaS (numV s) = s ∧ s.data.toList ≠ [] := by
  unfold numBad numV at *
  cases ha : atoiN s.data.toList with
  | ok v =>
    rw [ha] at h
    simp only [bne_eq_false_iff_eq] at h
    refine ⟨toList_inj' h, ?_⟩
    intro e
    rw [e] at ha
    cases ha
  | bad v => rw [ha] at h; cases h
/-- what Parse accepts is the string of what it returns; else it fails -/
theorem parse_any (s : ByteArray) (hs : s.size < 4294967281) : (∃ m, isM m ∧ s = T m ∧ calendar_Parse.f s = some (m, 0)) ∨ ((∀ m, isM m → s ≠ T m) ∧ calendar_Parse.f s = some (0, 5)) := by
  by_cases hx : ∃ m, isM m ∧ s = T m
  · obtain ⟨m, h, rfl⟩ := hx
    exact .inl ⟨m, h, rfl, parse_T h⟩
  · refine .inr ⟨fun m h e => hx ⟨m, h, e⟩, ?_⟩
    unfold calendar_Parse.f
    rw [if_pos hs]
    by_cases hv : 0 ≤ numV (cutL s) ∧ numV (cutL s) < 400 ∧ 0 ≤ numV (cutR s) ∧ numV (cutR s) < 96
    · rw [moment_ok hv.1 hv.2.1 hv.2.2.1 hv.2.2.2, Option.map_some]
      unfold parseV
      rw [if_pos]
      cases hl : numBad (cutL s) with
      | true => rfl
      | false =>
        cases hr : numBad (cutR s) with
        | true => rfl
        | false =>
          exfalso
          have h1 := numBad_false hl
          have h2 := numBad_false hr
          by_cases hd : 46 ∈ s.data.toList
          · obtain ⟨a, b, hab, hna⟩ := dot_split hd
            have e1 : cutL s = ⟨a.toArray⟩ := by unfold cutL; rw [hab, cut_at hna]
            have e2 : cutR s = ⟨b.toArray⟩ := by unfold cutR; rw [hab, cut_at hna]
            refine hx ⟨numV (cutL s) * 96 + numV (cutR s), ⟨by omega, by omega⟩, ba_ext ?_⟩
            rw [T_data, hab, show (numV (cutL s) * 96 + numV (cutR s)) / 96 = numV (cutL s) by omega, show (numV (cutL s) * 96 + numV (cutR s)) % 96 = numV (cutR s) by omega, ← itoaS_data, ← itoaS_data, h1.1, h2.1, e1, e2]
          · have e2 : cutR s = ⟨#[]⟩ := by unfold cutR; rw [cut_none hd]
            rw [e2] at h2
            exact h2.2 rfl
    · rw [moment_no hv, Option.map_some]
      unfold parseV
      split <;> simp
end Go.Proofs.YtmjgbngmkkeoiaaDoor.Ext
