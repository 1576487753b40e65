/- UnitMatchesReference: the reference's Parse is unit's. -/
import Derived.Test.YtifamjapgpcjjaaDoorRef
namespace Go.Proofs.YtifamjapgpcjjaaDoor.Ext
open Go Go.Proofs Go.RowKit Go.Proofs.YtifamjapgpcjjaaDoor.H

/-- no unit whose string is s comes before (i, j, v) -/
def Past (s : ByteArray) (i j v : Int) : Prop := ∀ a b c, okU a b c → textS a b c = s → i < a ∨ (i = a ∧ (j < b ∨ (j = b ∧ v ≤ c)))
theorem parse_none (s : ByteArray) (h : ∀ a b c, okU a b c → textS a b c ≠ s) : parseR s = (0, 0, 0, 5) := by
  rcases parse_is s with ⟨a, b, c, ok, e, _⟩ | ⟨_, e⟩
  · exact absurd e (h a b c ok)
  · exact e
theorem ref_loops (s : ByteArray) : ∀ k : Nat,
    (∀ i : Int, -8 ≤ i → i ≤ 9 → (9 - i) * 400 + 3 ≤ k → Past s i (-8) (-8) → observatoryref32_Parse.l0 k s i = some (parseR s)) ∧
    (∀ i j : Int, -8 ≤ i → i ≤ 8 → -8 ≤ j → j ≤ 9 → (8 - i) * 400 + (9 - j) * 20 + 10 ≤ k → Past s i j (-8) → observatoryref32_Parse.l1 k s i j = some (parseR s)) ∧
    (∀ i j v : Int, -8 ≤ i → i ≤ 8 → -8 ≤ j → j ≤ 8 → -8 ≤ v → v ≤ 9 → (8 - i) * 400 + (8 - j) * 20 + (9 - v) + 12 ≤ k → Past s i j v → observatoryref32_Parse.l2 k s i j v = some (parseR s))
  | 0 => ⟨fun i _ _ h _ => by omega, fun i j _ _ _ _ h _ => by omega, fun i j v _ _ _ _ _ _ h _ => by omega⟩
  | k + 1 => by
    obtain ⟨ih0, ih1, ih2⟩ := ref_loops s k
    refine ⟨?_, ?_, ?_⟩
    · intro i h1 h2 hk hp
      unfold observatoryref32_Parse.l0
      by_cases h : i ≤ 8
      · rw [if_pos h]
        exact ih1 i (-8) h1 h (by omega) (by omega) (by omega) hp
      · rw [if_neg h, parse_none s]
        intro a b c ok e
        have := hp a b c ok e
        obtain ⟨⟨a1, a2⟩, _⟩ := ok
        omega
    · intro i j h1 h2 h3 h4 hk hp
      unfold observatoryref32_Parse.l1
      by_cases h : j ≤ 8
      · rw [if_pos h]
        exact ih2 i j (-8) h1 h2 h3 h (by omega) (by omega) (by omega) hp
      · rw [if_neg h, w64 (i + 1) (by omega) (by omega)]
        refine ih0 (i + 1) (by omega) (by omega) (by omega) ?_
        intro a b c ok e
        have := hp a b c ok e
        obtain ⟨⟨a1, a2⟩, ⟨b1, b2⟩, ⟨c1, c2⟩⟩ := ok
        omega
    · intro i j v h1 h2 h3 h4 h5 h6 hk hp
      unfold observatoryref32_Parse.l2
      by_cases h : v ≤ 8
      · have ok : okU i j v := ⟨⟨h1, h2⟩, ⟨h3, h4⟩, ⟨h5, h⟩⟩
        obtain ⟨k', rfl⟩ : ∃ k', k = k' + 1 := ⟨k - 1, by omega⟩
        rw [if_pos h, refText k' i j v]
        unfold unit_Text.f textR
        rw [if_pos ok, Option.bind_some]
        by_cases ht : textS i j v = s
        · rw [if_pos (by rw [ht]), ← ht, parse_text i j v ok]
        · rw [if_neg (fun e => ht (toList_inj' e)), w64 (v + 1) (by omega) (by omega)]
          refine ih2 i j (v + 1) h1 h2 h3 h4 (by omega) (by omega) (by omega) ?_
          intro a b c ok' e
          have := hp a b c ok' e
          by_cases hc : i = a ∧ j = b ∧ v = c
          · obtain ⟨rfl, rfl, rfl⟩ := hc
            exact absurd e ht
          · omega
      · rw [if_neg h, w64 (j + 1) (by omega) (by omega)]
        refine ih1 i (j + 1) h1 h2 (by omega) (by omega) (by omega) ?_
        intro a b c ok e
        have := hp a b c ok e
        obtain ⟨⟨a1, a2⟩, ⟨b1, b2⟩, ⟨c1, c2⟩⟩ := ok
        omega
theorem refParse (s : ByteArray) (hs : s.size ≤ 200) : observatoryref32_Parse.f 8000 s = unit_Parse.f s := by
  unfold observatoryref32_Parse.f unit_Parse.f
  rw [if_pos hs]
  by_cases h : (s.size : Int) > 40
  · rw [if_pos h, parse_none s]
    intro a b c ok e
    have := text_size a b c ok
    rw [e] at this
    omega
  · rw [if_neg h]
    refine (ref_loops s 8000).1 (-8) (by omega) (by omega) (by omega) ?_
    intro a b c ok _
    obtain ⟨⟨a1, a2⟩, ⟨b1, b2⟩, ⟨c1, c2⟩⟩ := ok
    omega
end Go.Proofs.YtifamjapgpcjjaaDoor.Ext
