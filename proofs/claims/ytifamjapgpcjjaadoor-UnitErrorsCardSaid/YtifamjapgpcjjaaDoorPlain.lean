/- unit: what the functions on numbers answer, in plain Lean. -/
import Derived.Test.YtifamjapgpcjjaaDoorHead
namespace Go.Proofs.YtifamjapgpcjjaaDoor.Ext
open Go Go.Proofs

/-! ### the string of a unit is parsed as the unit -/
theorem go_word (w : List UInt8) (hw : ∀ b ∈ w, Lib.isSp b = false) : ∀ (cur rest : List UInt8), Lib.fieldsGo cur (w ++ rest) = Lib.fieldsGo (cur ++ w) rest := by
  induction w with
  | nil => intro cur rest; simp
  | cons b t ih =>
    intro cur rest
    rw [List.cons_append, Lib.fieldsGo, hw b (List.mem_cons_self), if_neg (by simp), ih (fun x hx => hw x (List.mem_cons_of_mem _ hx))]
    simp
theorem go_space (x : List UInt8) (hx : x ≠ []) (rest : List UInt8) : Lib.fieldsGo x (32 :: rest) = x :: Lib.fieldsGo [] rest := by
  rw [Lib.fieldsGo, if_pos (by decide)]
  cases x with
  | nil => exact absurd rfl hx
  | cons a t => rfl
/-- a word: not empty, below 128, no space -/
def isWord (w : List UInt8) : Prop := w ≠ [] ∧ ∀ b ∈ w, b.toNat < 128 ∧ Lib.isSp b = false
instance (w : List UInt8) : Decidable (isWord w) := by unfold isWord; infer_instance
theorem fields_words : ∀ (xs : List (List UInt8)), (∀ x ∈ xs, isWord x) → Lib.fieldsGo [] (Lib.join xs [32]) = xs
  | [], _ => by simp [Lib.join, Lib.fieldsGo]
  | [x], h => by
    have hx := h x (List.mem_cons_self)
    rw [show Lib.join [x] [32] = x ++ [] by simp [Lib.join], go_word x (fun b hb => (hx.2 b hb).2)]
    cases x with
    | nil => exact absurd rfl hx.1
    | cons a t => simp [Lib.fieldsGo]
  | x :: y :: t, h => by
    have hx := h x (List.mem_cons_self)
    rw [show Lib.join (x :: y :: t) [32] = x ++ (32 :: Lib.join (y :: t) [32]) by simp [Lib.join], go_word x (fun b hb => (hx.2 b hb).2), List.nil_append, go_space x hx.1,
      fields_words (y :: t) (fun z hz => h z (List.mem_cons_of_mem _ hz))]
theorem join_ascii : ∀ (xs : List (List UInt8)), (∀ x ∈ xs, isWord x) → ∀ b ∈ Lib.join xs [32], b.toNat < 128
  | [], _, b, hb => by simp [Lib.join] at hb
  | [x], h, b, hb => by
    rw [show Lib.join [x] [32] = x by simp [Lib.join]] at hb
    exact ((h x (List.mem_cons_self)).2 b hb).1
  | x :: y :: t, h, b, hb => by
    rw [show Lib.join (x :: y :: t) [32] = x ++ (32 :: Lib.join (y :: t) [32]) by simp [Lib.join]] at hb
    rcases List.mem_append.1 hb with hb | hb
    · exact ((h x (List.mem_cons_self)).2 b hb).1
    · rcases List.mem_cons.1 hb with rfl | hb
      · decide
      · exact join_ascii (y :: t) (fun z hz => h z (List.mem_cons_of_mem _ hz)) b hb
theorem fieldsD_words (xs : List (List UInt8)) (h : ∀ x ∈ xs, isWord x) : Lib.fieldsD (Lib.join xs [32]) = xs := by
  rw [Lib.fieldsD_ascii _ (join_ascii xs h), Lib.fields, fields_words xs h]

/-- one number's check, for each from -8 to 8 -/
theorem okE_all {P : Int → Bool} (h : ∀ i ∈ List.range 17, P ((i : Int) - 8) = true) (a : Int) (ok : okE a) : P a = true := by
  obtain ⟨a1, a2⟩ := ok
  have := h (a + 8).toNat (by simp; omega)
  rwa [show (((a + 8).toNat : Int) - 8) = a by omega] at this
theorem fac_word (name : ByteArray) (hn : name = sCounts ∨ name = sElectrons ∨ name = sSeconds) (n : Int) (ok : okE n) : ∀ x ∈ (facL name n).map (·.data.toList), isWord x ∧ (Lib.cut x [94]).1 = name.data.toList ∧ facK x = some n := by
  have h : ∀ s ∈ [sCounts, sElectrons, sSeconds], ∀ i ∈ List.range 17, ∀ x ∈ (facL s ((i : Int) - 8)).map (·.data.toList), isWord x ∧ (Lib.cut x [94]).1 = s.data.toList ∧ facK x = some ((i : Int) - 8) := by decide +kernel
  obtain ⟨a1, a2⟩ := ok
  have := h name (by rcases hn with rfl | rfl | rfl <;> simp) (n + 8).toNat (by simp; omega)
  rwa [show (((n + 8).toNat : Int) - 8) = n by omega] at this
theorem facL_one (name : ByteArray) (n : Int) (h : n ≠ 0) : ∃ f, facL name n = [f] := by
  unfold facL
  rw [if_neg h]
  split
  · exact ⟨_, rfl⟩
  · exact ⟨_, rfl⟩
theorem fac_fold (name : ByteArray) (n : Int) (e : Exps) : ((facL name n).map (·.data.toList)).foldl stepP e = if n = 0 then e else ((facL name n).map (·.data.toList)).foldl stepP e := by
  split
  · rename_i h
    subst h
    simp [facL]
  · rfl
theorem foldC (n : Int) (ok : okE n) (y z : Int) : ((facL sCounts n).map (·.data.toList)).foldl stepP ⟨0, y, z⟩ = ⟨n, y, z⟩ := by
  by_cases h : n = 0
  · subst h; simp [facL]
  · obtain ⟨f, hf⟩ := facL_one sCounts n h
    have := fac_word sCounts (Or.inl rfl) n ok f.data.toList (by rw [hf]; simp)
    rw [hf]
    simp only [List.map_cons, List.map_nil, List.foldl_cons, List.foldl_nil, stepP, this.2.1, this.2.2, if_pos]
theorem foldE (n : Int) (ok : okE n) (x z : Int) : ((facL sElectrons n).map (·.data.toList)).foldl stepP ⟨x, 0, z⟩ = ⟨x, n, z⟩ := by
  by_cases h : n = 0
  · subst h; simp [facL]
  · obtain ⟨f, hf⟩ := facL_one sElectrons n h
    have := fac_word sElectrons (Or.inr (Or.inl rfl)) n ok f.data.toList (by rw [hf]; simp)
    rw [hf]
    simp only [List.map_cons, List.map_nil, List.foldl_cons, List.foldl_nil, stepP, this.2.1, this.2.2, if_pos]
    rw [if_neg (by decide)]
theorem foldS (n : Int) (ok : okE n) (x y : Int) : ((facL sSeconds n).map (·.data.toList)).foldl stepP ⟨x, y, 0⟩ = ⟨x, y, n⟩ := by
  by_cases h : n = 0
  · subst h; simp [facL]
  · obtain ⟨f, hf⟩ := facL_one sSeconds n h
    have := fac_word sSeconds (Or.inr (Or.inr rfl)) n ok f.data.toList (by rw [hf]; simp)
    rw [hf]
    simp only [List.map_cons, List.map_nil, List.foldl_cons, List.foldl_nil, stepP, this.2.1, this.2.2, if_pos]
    rw [if_neg (by decide), if_neg (by decide)]
theorem factors_words (a b c : Int) (ok : okU a b c) : ∀ x ∈ (factors a b c).map (·.data.toList), isWord x := by
  intro x hx
  simp only [factors, List.map_append, List.mem_append] at hx
  rcases hx with (hx | hx) | hx
  · exact (fac_word sCounts (Or.inl rfl) a ok.1 x hx).1
  · exact (fac_word sElectrons (Or.inr (Or.inl rfl)) b ok.2.1 x hx).1
  · exact (fac_word sSeconds (Or.inr (Or.inr rfl)) c ok.2.2 x hx).1
theorem factors_zero (a b c : Int) (h : (factors a b c).length = 0) : a = 0 ∧ b = 0 ∧ c = 0 := by
  simp only [factors, List.length_append] at h
  refine ⟨?_, ?_, ?_⟩
  · by_cases h0 : a = 0
    · exact h0
    · obtain ⟨f, hf⟩ := facL_one sCounts a h0
      rw [hf] at h; simp at h
  · by_cases h0 : b = 0
    · exact h0
    · obtain ⟨f, hf⟩ := facL_one sElectrons b h0
      rw [hf] at h; simp at h
  · by_cases h0 : c = 0
    · exact h0
    · obtain ⟨f, hf⟩ := facL_one sSeconds c h0
      rw [hf] at h; simp at h
theorem parse_text (a b c : Int) (ok : okU a b c) : parseR (textS a b c) = (a, b, c, 0) := by
  by_cases h : (factors a b c).length = 0
  · obtain ⟨rfl, rfl, rfl⟩ := factors_zero a b c h
    decide +kernel
  · have ht : (textS a b c).data.toList = Lib.join ((factors a b c).map (·.data.toList)) [32] := by
      unfold textS
      rw [if_neg h]
    have hf : foldP (Lib.fieldsD (textS a b c).data.toList) (Lib.fieldsD (textS a b c).data.toList).length = ⟨a, b, c⟩ := by
      rw [ht, fieldsD_words _ (factors_words a b c ok), foldP, List.take_length]
      simp only [factors, List.map_append, List.foldl_append]
      rw [foldC a ok.1, foldE b ok.2.1, foldS c ok.2.2]
    unfold parseR
    rw [hf]
    exact if_pos ⟨ok, rfl⟩
theorem text_inj (a b c x y z : Int) (h1 : okU a b c) (h2 : okU x y z) (h : textS a b c = textS x y z) : a = x ∧ b = y ∧ c = z := by
  have e1 := parse_text a b c h1
  rw [h, parse_text x y z h2] at e1
  simp only [Prod.mk.injEq] at e1
  exact ⟨e1.1.symm, e1.2.1.symm, e1.2.2.1.symm⟩
theorem parse_is (s : ByteArray) : (∃ a b c, okU a b c ∧ textS a b c = s ∧ parseR s = (a, b, c, 0)) ∨ ((∀ a b c, okU a b c → textS a b c ≠ s) ∧ parseR s = (0, 0, 0, 5)) := by
  by_cases h : ∃ a b c, okU a b c ∧ textS a b c = s
  · obtain ⟨a, b, c, ok, rfl⟩ := h
    exact Or.inl ⟨a, b, c, ok, rfl, parse_text a b c ok⟩
  · refine Or.inr ⟨fun a b c ok e => h ⟨a, b, c, ok, e⟩, ?_⟩
    unfold parseR
    exact if_neg fun e => h ⟨_, _, _, e.1, e.2⟩
theorem text_size (a b c : Int) (ok : okU a b c) : (textS a b c).size ≤ 40 := by
  unfold textS
  split
  · decide
  · have h : ∀ i ∈ List.range 17, ∀ j ∈ List.range 17, ∀ k ∈ List.range 17, (Lib.join ((factors ((i : Int) - 8) ((j : Int) - 8) ((k : Int) - 8)).map (·.data.toList)) [32]).length ≤ 40 := by decide +kernel
    obtain ⟨⟨a1, a2⟩, ⟨b1, b2⟩, ⟨c1, c2⟩⟩ := ok
    have := h (a + 8).toNat (by simp; omega) (b + 8).toNat (by simp; omega) (c + 8).toNat (by simp; omega)
    rw [show (((a + 8).toNat : Int) - 8) = a by omega, show (((b + 8).toNat : Int) - 8) = b by omega, show (((c + 8).toNat : Int) - 8) = c by omega] at this
    simp [ByteArray.size]; omega
/-! ### products and powers -/
theorem mul_comm' (a b c x y z : Int) : mulR a b c x y z = mulR x y z a b c := by
  unfold mulR
  rw [Int.add_comm x a, Int.add_comm y b, Int.add_comm z c]
  by_cases h1 : okU a b c <;> by_cases h2 : okU x y z <;> simp [h1, h2]
theorem mul_one' (a b c : Int) (h : okU a b c) : mulR a b c 0 0 0 = (a, b, c, 0) := by
  unfold mulR
  rw [if_pos ⟨h, by decide⟩, Int.add_zero, Int.add_zero, Int.add_zero, if_pos h]
theorem mul_ok {a b c x y z p q r : Int} (h : mulR a b c x y z = (p, q, r, 0)) : okU a b c ∧ okU x y z ∧ p = a + x ∧ q = b + y ∧ r = c + z := by
  unfold mulR at h
  split at h
  · rename_i h1
    split at h
    · simp only [Prod.mk.injEq] at h
      exact ⟨h1.1, h1.2, h.1.symm, h.2.1.symm, h.2.2.1.symm⟩
    · simp at h
  · simp at h
theorem small_mul (a m : Int) (h : okE (a * max (-9) (min 9 m))) (h0 : a ≠ 0) : max (-9) (min 9 m) = m := by
  obtain ⟨h1, h2⟩ := h
  rcases (show m < -9 ∨ 9 < m ∨ (-9 ≤ m ∧ m ≤ 9) by omega) with h3 | h3 | h3
  · have e : max (-9) (min 9 m) = -9 := by omega
    rw [e] at h1 h2; omega
  · have e : max (-9) (min 9 m) = 9 := by omega
    rw [e] at h1 h2; omega
  · omega
theorem power_ok {a b c n p q r : Int} (h : powerR a b c n = (p, q, r, 0)) : okU a b c ∧ p = a * n ∧ q = b * n ∧ r = c * n := by
  unfold powerR at h
  split at h
  · rename_i h1
    split at h
    · rename_i h2
      obtain ⟨rfl, rfl, rfl⟩ := h2
      simp only [Prod.mk.injEq] at h
      simp
      exact ⟨h1, h.1.symm, h.2.1.symm, h.2.2.1.symm⟩
    · rename_i h2
      split at h
      · rename_i h3
        have hn : max (-9) (min 9 n) = n := by
          by_cases ha : a = 0
          · by_cases hb : b = 0
            · exact small_mul c n h3.2.2 (fun hc => h2 ⟨ha, hb, hc⟩)
            · exact small_mul b n h3.2.1 hb
          · exact small_mul a n h3.1 ha
        rw [hn] at h
        simp only [Prod.mk.injEq] at h
        exact ⟨h1, h.1.symm, h.2.1.symm, h.2.2.1.symm⟩
      · simp at h
  · simp at h
theorem power_no' (a b c n : Int) (h : ¬ okU a b c) : powerR a b c n = (0, 0, 0, 1) := if_neg h
/-- a small exponent: the products, if they are in range -/
theorem power_small (a b c n : Int) (h : okU a b c) (hn : -9 ≤ n ∧ n ≤ 9) : powerR a b c n = if okU (a * n) (b * n) (c * n) then (a * n, b * n, c * n, 0) else (0, 0, 0, 9) := by
  unfold powerR
  rw [if_pos h, show max (-9) (min 9 n) = n by omega]
  split
  · rename_i h2
    obtain ⟨rfl, rfl, rfl⟩ := h2
    simp only [Int.zero_mul]
    rw [if_pos (by decide)]
  · rfl
theorem power_zero' (a b c : Int) (h : okU a b c) : powerR a b c 0 = (0, 0, 0, 0) := by
  rw [power_small a b c 0 h (by omega), Int.mul_zero, Int.mul_zero, Int.mul_zero, if_pos (by decide)]
theorem power_one' (a b c : Int) (h : okU a b c) : powerR a b c 1 = (a, b, c, 0) := by
  rw [power_small a b c 1 h (by omega), Int.mul_one, Int.mul_one, Int.mul_one, if_pos h]
theorem power_back (a b c : Int) (h : okU a b c) : powerR a b c (-1) = (-a, -b, -c, 0) := by
  rw [power_small a b c (-1) h (by omega), Int.mul_neg_one, Int.mul_neg_one, Int.mul_neg_one, if_pos]
  obtain ⟨⟨a1, a2⟩, ⟨b1, b2⟩, ⟨c1, c2⟩⟩ := h
  exact ⟨⟨by omega, by omega⟩, ⟨by omega, by omega⟩, ⟨by omega, by omega⟩⟩
theorem mul_back (a b c : Int) (h : okU a b c) : mulR a b c (-a) (-b) (-c) = (0, 0, 0, 0) := by
  have h' : okU (-a) (-b) (-c) := by
    obtain ⟨⟨a1, a2⟩, ⟨b1, b2⟩, ⟨c1, c2⟩⟩ := h
    exact ⟨⟨by omega, by omega⟩, ⟨by omega, by omega⟩, ⟨by omega, by omega⟩⟩
  unfold mulR
  rw [if_pos ⟨h, h'⟩, Int.add_right_neg, Int.add_right_neg, Int.add_right_neg, if_pos (by decide)]
end Go.Proofs.YtifamjapgpcjjaaDoor.Ext
