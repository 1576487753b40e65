/- UnitTexts, in plain Lean; and its walk. -/
import Derived.Test.YtifamjapgpcjjaaDoorPlain
import Derived.Test.YtifamjapgpcjjaaDoorL2
namespace Go.Proofs.YtifamjapgpcjjaaDoor.Ext
open Go Go.Proofs Go.RowKit Go.Proofs.YtifamjapgpcjjaaDoor.L

theorem texts_j1 (k : Nat) (s : ByteArray) (hs : s.size ≤ 200) : observatorylaw32_UnitTexts.j1 (k + 1) s true = some true := by
  simp only [observatorylaw32_UnitTexts.j1, unit_Parse.f, if_pos hs, Option.bind_some]
  rcases parse_is s with ⟨a, b, c, ok, ht, hp⟩ | ⟨_, hp⟩
  · rw [hp]
    simp [unit_Text.f, textR, ok, ht]
  · rw [hp]
    simp
theorem texts_j0 (k : Nat) (s : ByteArray) (hs : s.size ≤ 200) (t : ByteArray) (a b c : Int) (e : Int) (h : e = 0 → okU a b c ∧ t = textS a b c) : observatorylaw32_UnitTexts.j0 (k + 2) s true t e false a b c = some true := by
  simp only [observatorylaw32_UnitTexts.j0]
  rw [if_neg (by simp)]
  split
  · rename_i h0
    obtain ⟨ok, rfl⟩ := h h0
    have ht : (textS a b c).size ≤ 200 := by
      have := text_size a b c ok
      omega
    simp only [unit_Parse.f, if_pos ht, Option.bind_some, parse_text a b c ok]
    simp
    exact texts_j1 k s hs
  · exact texts_j1 k s hs
theorem texts_true (a b c x y z : Int) (s : ByteArray) : observatorylaw32_UnitTexts.f 2 a b c x y z s = some true := by
  simp only [observatorylaw32_UnitTexts.f, head.f, Option.bind_some]
  split
  · rfl
  · rename_i hs
    have hs' : s.size ≤ 200 := by omega
    simp only [unit_Text.f, textR, Option.bind_some]
    by_cases h1 : okU a b c
    · by_cases h2 : okU x y z
      · simp only [if_pos h1, if_pos h2]
        have : (((textS a b c).toList == (textS x y z).toList) != (a == x && (b == y && (c == z)))) = false := by
          by_cases h : a = x ∧ b = y ∧ c = z
          · obtain ⟨rfl, rfl, rfl⟩ := h
            simp
          · have hne : ¬ (textS a b c).toList = (textS x y z).toList := fun e => h (text_inj a b c x y z h1 h2 (toList_inj' e))
            have e1 : ((textS a b c).toList == (textS x y z).toList) = false := by simpa using hne
            have e2 : (a == x && (b == y && (c == z))) = false := by
              rw [Bool.eq_false_iff]
              intro e
              simp only [Bool.and_eq_true, beq_iff_eq] at e
              exact h ⟨e.1, e.2.1, e.2.2⟩
            rw [e1, e2]; rfl
        rw [this]
        simpa using texts_j0 0 s hs' _ a b c 0 (fun _ => ⟨h1, rfl⟩)
      · simp only [if_pos h1, if_neg h2]
        simpa using texts_j0 0 s hs' _ a b c 0 (fun _ => ⟨h1, rfl⟩)
    · simp only [if_neg h1]
      have := texts_j0 0 s hs' (⟨#[]⟩ : ByteArray) a b c 1 (fun h => absurd h (by decide))
      simpa using this
theorem texts_walk (a b c x y z : Int) (s : ByteArray) (w : World) (hT : Tabs w) :
    Calls Tryd.prog 6 #[.agg #[.int .i64 a, .int .i64 b, .int .i64 c], .agg #[.int .i64 x, .int .i64 y, .int .i64 z], .string s] w fun e w' => e = .returned (.bool true) ∧ Below w.heap.size w w' :=
  observatorylaw32_UnitTexts.calls 2 a b c x y z s true w hT (texts_true a b c x y z s)
end Go.Proofs.YtifamjapgpcjjaaDoor.Ext
