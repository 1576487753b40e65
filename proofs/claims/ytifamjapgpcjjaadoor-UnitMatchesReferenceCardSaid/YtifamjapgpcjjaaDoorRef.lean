/- UnitMatchesReference, in plain Lean: the reference's functions are unit's. -/
import Derived.Test.YtifamjapgpcjjaaDoorGroup
namespace Go.Proofs.YtifamjapgpcjjaaDoor.Ext
open Go Go.Proofs Go.RowKit Go.Proofs.YtifamjapgpcjjaaDoor.H

theorem w64 (n : Int) (h1 : -9223372036854775808 ≤ n) (h2 : n ≤ 9223372036854775807) : wrap64 n = n := IntWalk.wrap64_in n ⟨h1, h2⟩
theorem refExp (a : Int) : observatoryref32_exponent.f a = some (decide (okE a)) := by
  unfold observatoryref32_exponent.f
  by_cases h1 : a ≥ -8
  · rw [if_pos h1]
    by_cases h2 : a ≤ 8
    · rw [decide_eq_true h2, show decide (okE a) = true from decide_eq_true ⟨h1, h2⟩]
    · rw [decide_eq_false h2, show decide (okE a) = false from decide_eq_false (fun e => h2 e.2)]
  · rw [if_neg h1, show decide (okE a) = false from decide_eq_false (fun e => h1 e.1)]
theorem okU_dec (a b c : Int) : decide (okU a b c) = (decide (okE a) && (decide (okE b) && decide (okE c))) := by
  rw [Bool.eq_iff_iff]
  simp only [decide_eq_true_eq, Bool.and_eq_true]
  exact Iff.rfl
theorem refValid (a b c : Int) : observatoryref32_Valid.f a b c = some (decide (okU a b c)) := by
  unfold observatoryref32_Valid.f
  rw [okU_dec]
  simp only [refExp, Option.bind_some]
  by_cases h1 : okE a <;> by_cases h2 : okE b <;> by_cases h3 : okE c <;> simp [h1, h2, h3]
theorem refMul (a b c x y z : Int) : observatoryref32_Mul.f 1 a b c x y z = unit_Mul.f a b c x y z := by
  unfold observatoryref32_Mul.f unit_Mul.f mulR
  simp only [refValid, Option.bind_some]
  by_cases h1 : okU a b c
  · by_cases h2 : okU x y z
    · obtain ⟨⟨a1, a2⟩, ⟨b1, b2⟩, ⟨c1, c2⟩⟩ := id h1
      obtain ⟨⟨x1, x2⟩, ⟨y1, y2⟩, ⟨z1, z2⟩⟩ := id h2
      simp only [decide_eq_true h1, decide_eq_true h2, observatoryref32_Mul.j0, refValid, Option.bind_some]
      rw [w64 (a + x) (by omega) (by omega), w64 (b + y) (by omega) (by omega), w64 (c + z) (by omega) (by omega)]
      by_cases h3 : okU (a + x) (b + y) (c + z) <;> simp [h1, h2, h3]
    · simp [h1, h2, observatoryref32_Mul.j0]
  · simp [h1, observatoryref32_Mul.j0]
theorem mul64 (a n : Int) (h : -8 ≤ a ∧ a ≤ 8) (hn : -8 ≤ n ∧ n ≤ 8) : -72 ≤ a * n ∧ a * n ≤ 72 := by
  have := cl_mul a n h
  rwa [show cl n = n by unfold cl; omega] at this
theorem refPower (a b c n : Int) : observatoryref32_Power.f 1 a b c n = unit_Power.f a b c n := by
  unfold observatoryref32_Power.f unit_Power.f powerR
  simp only [refValid, Option.bind_some]
  by_cases h1 : okU a b c
  · simp only [decide_eq_true h1, if_pos h1, if_true]
    by_cases h0 : a = 0 ∧ b = 0 ∧ c = 0
    · obtain ⟨rfl, rfl, rfl⟩ := h0
      simp
    · have h0' : ¬ (a == 0 && (b == 0 && (c == 0))) = true := by
        simp only [Bool.and_eq_true, beq_iff_eq]; exact h0
      rw [if_neg h0', if_neg h0]
      have far : ∀ m : Int, (m = -9 ∨ m = 9) → ¬ okU (a * m) (b * m) (c * m) := by
        rintro m hm ⟨⟨u1, u2⟩, ⟨v1, v2⟩, ⟨t1, t2⟩⟩
        rcases hm with rfl | rfl <;> omega
      by_cases n1 : n < -8
      · rw [if_pos n1, if_neg (far _ (by left; omega))]
        simp [observatoryref32_Power.j0]
      · rw [if_neg n1]
        by_cases n2 : n > 8
        · rw [decide_eq_true n2, if_neg (far _ (by right; omega))]
          simp [observatoryref32_Power.j0]
        · rw [decide_eq_false n2, show max (-9) (min 9 n) = n by omega]
          obtain ⟨a12, b12, c12⟩ := h1
          have ma := mul64 a n a12 ⟨by omega, by omega⟩
          have mb := mul64 b n b12 ⟨by omega, by omega⟩
          have mc := mul64 c n c12 ⟨by omega, by omega⟩
          simp only [observatoryref32_Power.j0, refValid, Option.bind_some]
          rw [w64 (a * n) (by omega) (by omega), w64 (b * n) (by omega) (by omega), w64 (c * n) (by omega) (by omega)]
          by_cases h3 : okU (a * n) (b * n) (c * n) <;> simp [h3]
  · simp [h1]

theorem ba_ext {a b : ByteArray} (h : a.data.toList = b.data.toList) : a = b := ByteArray.ext (Array.toList_inj.1 h)
/-! ### the strings -/
def facB (name : ByteArray) (n : Int) : ByteArray := if n = 1 then name else facS name n
theorem facL_is (name : ByteArray) (n : Int) (h : n ≠ 0) : facL name n = [facB name n] := by
  unfold facL facB
  rw [if_neg h]
  split <;> rfl
theorem itoa_pos (n : Int) (h : 2 ≤ n ∧ n ≤ 8) : itoaS n = (⟨#[48, 49, 50, 51, 52, 53, 54, 55, 56, 57]⟩ : ByteArray).extract n.toNat (n + 1).toNat := by
  have h' : ∀ i ∈ List.range 9, itoaS (i : Int) = (⟨#[48, 49, 50, 51, 52, 53, 54, 55, 56, 57]⟩ : ByteArray).extract (i : Int).toNat ((i : Int) + 1).toNat := by decide +kernel
  have := h' n.toNat (by simp; omega)
  rwa [show ((n.toNat : Nat) : Int) = n by omega] at this
theorem itoa_neg (n : Int) (h : -8 ≤ n ∧ n ≤ -1) : itoaS n = (⟨#[45]⟩ : ByteArray) ++ (⟨#[48, 49, 50, 51, 52, 53, 54, 55, 56, 57]⟩ : ByteArray).extract (-n).toNat (1 - n).toNat := by
  have h' : ∀ i ∈ List.range 8, itoaS ((i : Int) - 8) = (⟨#[45]⟩ : ByteArray) ++ (⟨#[48, 49, 50, 51, 52, 53, 54, 55, 56, 57]⟩ : ByteArray).extract (-((i : Int) - 8)).toNat (1 - ((i : Int) - 8)).toNat := by decide +kernel
  have := h' (n + 8).toNat (by simp; omega)
  rwa [show (((n + 8).toNat : Nat) : Int) - 8 = n by omega] at this
theorem ex_size (i j : Nat) : ((⟨#[48, 49, 50, 51, 52, 53, 54, 55, 56, 57]⟩ : ByteArray).extract i j).size ≤ 10 := by
  rw [ByteArray.size_extract]
  have : (⟨#[48, 49, 50, 51, 52, 53, 54, 55, 56, 57]⟩ : ByteArray).size = 10 := rfl
  omega
theorem ref_j0 (k : Nat) (s name : ByteArray) (n : Int) (h0 : n ≠ 0) (hn : okE n) (hs : s.size ≤ 1000) (hm : name.size ≤ 100) : observatoryref32_factor.j0 (k + 1) s name n = some (s ++ facB name n) := by
  obtain ⟨n1, n2⟩ := hn
  have s1 : (s ++ name).size = s.size + name.size := ByteArray.size_append
  simp only [observatoryref32_factor.j0]
  rw [if_pos (by omega)]
  by_cases h1 : n = 1
  · rw [if_pos h1]
    unfold facB
    rw [if_pos h1]
  · rw [if_neg h1]
    unfold facB
    rw [if_neg h1]
    unfold facS
    by_cases h2 : n < 0
    · rw [if_pos h2, w64 (-n) (by omega) (by omega), w64 (1 - n) (by omega) (by omega), if_pos (by omega), if_pos (by omega), if_pos (by omega), if_pos (by omega), if_pos ?_]
      · rw [itoa_neg n ⟨n1, by omega⟩, show (⟨#[94, 45]⟩ : ByteArray) = ⟨#[94]⟩ ++ ⟨#[45]⟩ from rfl]
        simp only [ByteArray.append_assoc]
      · have := ex_size (-n).toNat (1 - n).toNat
        have s2 : (s ++ name ++ (⟨#[94, 45]⟩ : ByteArray)).size = s.size + name.size + 2 := by rw [ByteArray.size_append, s1]; rfl
        omega
    · rw [if_neg h2, w64 (n + 1) (by omega) (by omega), if_pos (by omega), if_pos (by omega), if_pos (by omega), if_pos (by omega), if_pos ?_]
      · rw [itoa_pos n ⟨by omega, n2⟩]
        simp only [ByteArray.append_assoc]
      · have := ex_size n.toNat (n + 1).toNat
        have s2 : (s ++ name ++ (⟨#[94]⟩ : ByteArray)).size = s.size + name.size + 1 := by rw [ByteArray.size_append, s1]; rfl
        omega
/-- the string so far, with one factor more -/
def putF (s : ByteArray) (name : ByteArray) (n : Int) : ByteArray := if n = 0 then s else (if s.toList = [] then s else s ++ ⟨#[32]⟩) ++ facB name n
theorem ref_factor (k : Nat) (s name : ByteArray) (n : Int) (hn : okE n) (hs : s.size ≤ 999) (hm : name.size ≤ 100) : observatoryref32_factor.f (k + 1) s name n = some (putF s name n) := by
  unfold observatoryref32_factor.f putF
  by_cases h0 : n = 0
  · rw [if_pos h0, if_pos h0]
  · rw [if_neg h0, if_neg h0]
    by_cases h1 : s.toList = []
    · rw [if_pos h1, if_pos h1, ref_j0 k s name n h0 hn (by omega) hm]
    · have s1 : (s ++ (⟨#[32]⟩ : ByteArray)).size = s.size + 1 := by rw [ByteArray.size_append]; rfl
      rw [if_neg h1, if_neg h1, if_pos (by omega), ref_j0 k _ name n h0 hn (by omega) hm]
theorem facB_size (name : ByteArray) (n : Int) (hn : okE n) (hm : name.size ≤ 100) : (facB name n).size ≤ 110 := by
  have hi0 : (itoaS n).size ≤ 2 := by
    have : ∀ k ∈ List.range 17, (itoaS ((k : Int) - 8)).size ≤ 2 := by decide +kernel
    have h := this (n + 8).toNat (by simp; have := hn.1; have := hn.2; omega)
    rwa [show (((n + 8).toNat : Int) - 8) = n by have := hn.1; omega] at h
  unfold facB facS
  split
  · omega
  · rw [ByteArray.size_append, ByteArray.size_append, show (⟨#[94]⟩ : ByteArray).size = 1 from rfl]; omega
theorem putF_size (s name : ByteArray) (n : Int) (hn : okE n) (hm : name.size ≤ 100) : (putF s name n).size ≤ s.size + 111 := by
  have := facB_size name n hn hm
  unfold putF
  split
  · omega
  · split
    · rw [ByteArray.size_append]; omega
    · rw [ByteArray.size_append, ByteArray.size_append, show (⟨#[32]⟩ : ByteArray).size = 1 from rfl]; omega
theorem putF_list (s name : ByteArray) (n : Int) : (putF s name n).data.toList = if n = 0 then s.data.toList else (if s.data.toList = [] then [] else s.data.toList ++ [32]) ++ (facB name n).data.toList := by
  unfold putF
  rw [ByteArray.toList_eq]
  split
  · rfl
  · split
    · rename_i h; rw [ByteArray.data_append, Array.toList_append, h]
    · rw [ByteArray.data_append, Array.toList_append, ByteArray.data_append, Array.toList_append]
theorem facB_word (name : ByteArray) (hn : name = sCounts ∨ name = sElectrons ∨ name = sSeconds) (n : Int) (ok : okE n) (h0 : n ≠ 0) : (facB name n).data.toList ≠ [] :=
  ((fac_word name hn n ok (facB name n).data.toList (by rw [facL_is name n h0]; simp)).1).1
theorem put3_text (a b c : Int) (ok : okU a b c) : (if (putF (putF (putF ⟨#[]⟩ sCounts a) sElectrons b) sSeconds c).toList = [] then (⟨#[49]⟩ : ByteArray) else putF (putF (putF ⟨#[]⟩ sCounts a) sElectrons b) sSeconds c) = textS a b c := by
  have key : (putF (putF (putF ⟨#[]⟩ sCounts a) sElectrons b) sSeconds c).data.toList = Lib.join ((factors a b c).map (·.data.toList)) [32] := by
    rw [putF_list, putF_list, putF_list]
    unfold factors
    by_cases ha : a = 0 <;> by_cases hb : b = 0 <;> by_cases hc : c = 0
    all_goals
      first
        | have wa := facB_word sCounts (Or.inl rfl) a ok.1 ha
        | skip
      first
        | have wb := facB_word sElectrons (Or.inr (Or.inl rfl)) b ok.2.1 hb
        | skip
      first
        | rw [facL_is sCounts a ha]
        | (subst ha; rw [show facL sCounts 0 = [] from rfl])
      first
        | rw [facL_is sElectrons b hb]
        | (subst hb; rw [show facL sElectrons 0 = [] from rfl])
      first
        | rw [facL_is sSeconds c hc]
        | (subst hc; rw [show facL sSeconds 0 = [] from rfl])
      simp [Lib.join, List.intercalate, *]
  unfold textS
  rw [ByteArray.toList_eq, key]
  by_cases h : (factors a b c).length = 0
  · rw [if_pos h, if_pos]
    rw [List.length_eq_zero_iff.1 h]; rfl
  · rw [if_neg h, if_neg]
    · apply ba_ext
      rw [key]
    · intro e
      cases hf : factors a b c with
      | nil => rw [hf] at h; exact h rfl
      | cons f t =>
        have hw := (factors_words a b c ok f.data.toList (by rw [hf]; simp)).1
        rw [hf] at e
        cases t with
        | nil => simp [Lib.join, List.intercalate] at e; exact hw (by simpa using e)
        | cons g t => simp [Lib.join, List.intercalate] at e
theorem refText (k : Nat) (a b c : Int) : observatoryref32_Text.f (k + 1) a b c = unit_Text.f a b c := by
  unfold observatoryref32_Text.f unit_Text.f textR
  simp only [refValid, Option.bind_some]
  by_cases ok : okU a b c
  · have e1 := putF_size ⟨#[]⟩ sCounts a ok.1 (by decide)
    have e2 := putF_size (putF ⟨#[]⟩ sCounts a) sElectrons b ok.2.1 (by decide)
    have e0 : (⟨#[]⟩ : ByteArray).size = 0 := rfl
    rw [show decide (okU a b c) = true from decide_eq_true ok, if_pos rfl, if_pos ok]
    change ((observatoryref32_factor.f (k + 1) ⟨#[]⟩ sCounts a).bind fun t => (observatoryref32_factor.f (k + 1) t sElectrons b).bind fun t => (observatoryref32_factor.f (k + 1) t sSeconds c).bind fun t => if t.toList = [] then some (⟨#[49]⟩, 0) else some (t, 0)) = _
    rw [ref_factor k _ sCounts a ok.1 (by omega) (by decide), Option.bind_some, ref_factor k _ sElectrons b ok.2.1 (by omega) (by decide), Option.bind_some, ref_factor k _ sSeconds c ok.2.2 (by omega) (by decide), Option.bind_some]
    rw [← put3_text a b c ok]
    split <;> rfl
  · rw [show decide (okU a b c) = false from decide_eq_false ok, if_neg (by simp), if_neg ok]
end Go.Proofs.YtifamjapgpcjjaaDoor.Ext
