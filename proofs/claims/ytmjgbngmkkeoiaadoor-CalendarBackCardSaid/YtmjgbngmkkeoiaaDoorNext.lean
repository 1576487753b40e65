/- calendar.Next, walked: a range over calendar.from's function. -/
import Derived.Test.YtmjgbngmkkeoiaaDoorRange
namespace Go.Proofs.YtmjgbngmkkeoiaaDoor.Ext
open Go Go.Proofs Go.RowKit Go.Shelf Go.Proofs.YtmjgbngmkkeoiaaDoorW.PrintWords Go.Proofs.YtmjgbngmkkeoiaaDoor.G
attribute [local go_sem] Oper.semAt_some

/-- does moment n reach the angle, as the code asks it -/
def reachB (n a : Int) : Bool := decide (((60 * (n % 96) + 16 * (n / 96)) % 5760 + 5760 - a) % 5760 < 60)
def nextL : Nat → Int → Int → Int × Int
  | 0, _, _ => (0, 9)
  | k + 1, n, a => if reachB n a = true then (n, 0) else nextL k (n + 1) a
def calendar_Next.f (m a : Int) : Option (Int × Int) := if 0 ≤ m ∧ m < 38400 ∧ 0 ≤ a ∧ a < 5760 then some (nextL (38400 - m).toNat m a) else some (0, 1)

theorem within_yes {x n : Int} (h0 : 0 ≤ x) (h : x < n) : calendar_within.f x n = some true := by unfold calendar_within.f; rw [if_pos h0, decide_eq_true h]
theorem within_no {x n : Int} (h : ¬ (0 ≤ x ∧ x < n)) : calendar_within.f x n = some false := by
  unfold calendar_within.f
  split
  · rw [decide_eq_false (fun h' => h ⟨‹_›, h'⟩)]
  · rfl
theorem sidereal_at {n : Int} (h0 : 0 ≤ n) (h : n < 38400) : calendar_Sidereal.f n = some ((60 * (n % 96) + 16 * (n / 96)) % 5760, 0) := by
  unfold calendar_Sidereal.f calendar_Split.f
  rw [within_yes h0 h]
  simp only [Option.bind_some, if_true]
  have e1 : Int.tdiv n 96 = n / 96 := Int.tdiv_eq_ediv_of_nonneg h0
  have e2 : Int.tmod n 96 = n % 96 := Int.tmod_eq_emod_of_nonneg h0
  rw [e1, e2, wrap_in (n := n / 96) (by omega) (by omega), wrap_in (n := 60 * (n % 96)) (by omega) (by omega), wrap_in (n := 16 * (n / 96)) (by omega) (by omega), wrap_in (by omega) (by omega)]
  rw [Int.tmod_eq_emod_of_nonneg (by omega)]

/-- the two results, read out of their cells -/
theorem res18 {tmps : Array Value} {W : World} {a b : Nat} {x y : Int} (ha : tmps[4]? = some (.pointer (some ⟨a, 0, none⟩))) (hb : tmps[5]? = some (.pointer (some ⟨b, 0, none⟩)))
    (hA : W.heap[a]? = some (.cells #[.int .i64 x] 3 (0, 0))) (hB : W.heap[b]? = some (.cells #[.int .i64 y] 23 (0, 0))) :
    (results Tryd.f18 tmps).run Tryd.prog W = .ok (.tuple #[.int .i64 x, .int .i64 y]) W := by
  have h1 := blk_cell hA 0
  have h2 := blk_cell hB 0
  simp [results, Tryd.f18, go_sem, ha, hb, h1, h2]

theorem alloc3_blk (w : World) (o1 o2 o3 : Obj) : (((w.alloc o1).alloc o2).alloc o3).heap[w.heap.size]? = some o1 ∧ (((w.alloc o1).alloc o2).alloc o3).heap[w.heap.size + 1]? = some o2 ∧ (((w.alloc o1).alloc o2).alloc o3).heap[w.heap.size + 1 + 1]? = some o3 := by
  refine ⟨blk_alloc (blk_alloc (blk_new _ _) _) _, ?_, ?_⟩
  · have h := blk_new (w.alloc o1) o2
    rw [World.size_alloc] at h
    exact blk_alloc h _
  · have h := blk_new ((w.alloc o1).alloc o2) o3
    rw [World.size_alloc, World.size_alloc] at h
    exact h

set_option maxHeartbeats 1000000 in
theorem next_no (m a : Int) (w : World) (h : ¬ (0 ≤ m ∧ m < 38400 ∧ 0 ≤ a ∧ a < 5760)) :
    Calls Tryd.prog 18 #[.int .i64 m, .int .i64 a] w fun e w' => e = .returned (.tuple #[.int .i64 0, .int .i64 1]) ∧ Below w.heap.size w w' := by
  have hB : Below w.heap.size w ((((w.alloc (.cells #[.int .i64 a] 3)).alloc (.cells #[.int .i64 0] 3)).alloc (.cells #[.int .i64 0] 23))) := (((Below.refl _ w).alloc (Nat.le_refl _) _).alloc (by simp) _).alloc (by simp; omega) _
  by_cases h1 : 0 ≤ m ∧ m < 38400
  · have H1 := Lib.hid (within_yes h1.1 h1.2)
    have H2 := Lib.hid (within_no (x := a) (n := 5760) (by omega))
    clear h h1
    go_enter Tryd.func18, Tryd.ntmps18
    go_wp2_with fail
    refine (calendar_within.calls m 38400 true _ H1.out).mono ?_
    rintro e w' ⟨rfl, ⟨nd, rfl⟩⟩
    go_wp2_with fail
    refine (calendar_within.calls a 5760 false _ H2.out).mono ?_
    rintro e w' ⟨rfl, ⟨nd2, rfl⟩⟩
    go_wp2_with fail
    have h3 := alloc3_blk w (.cells #[.int .i64 a] 3) (.cells #[.int .i64 0] 3) (.cells #[.int .i64 0] 23)
    refine bodyPost_ret (v := .tuple #[.int .i64 0, .int .i64 1]) (res18 rfl rfl (blk_far (blk_put (blk_drewN h3.2.1 _) 0 _ rfl) (by simp) _) (blk_put (blk_far (blk_drewN h3.2.2 _) (by simp) _) 0 _ rfl)) rfl ⟨rfl, ((bdr hB _).setCell (by simp) _).setCell (by simp; omega) _⟩
  · have H1 := Lib.hid (within_no h1)
    clear h h1
    go_enter Tryd.func18, Tryd.ntmps18
    go_wp2_with fail
    refine (calendar_within.calls m 38400 false _ H1.out).mono ?_
    rintro e w' ⟨rfl, ⟨nd, rfl⟩⟩
    go_wp2_with fail
    have h3 := alloc3_blk w (.cells #[.int .i64 a] 3) (.cells #[.int .i64 0] 3) (.cells #[.int .i64 0] 23)
    refine bodyPost_ret (v := .tuple #[.int .i64 0, .int .i64 1]) (res18 rfl rfl (blk_far (blk_put (blk_drewN h3.2.1 _) 0 _ rfl) (by simp) _) (blk_put (blk_far (blk_drewN h3.2.2 _) (by simp) _) 0 _ rfl)) rfl ⟨rfl, ((bdr hB _).setCell (by simp) _).setCell (by simp; omega) _⟩

/-! ### the search -/
def NI (w : World) (a : Int) (x y : Int) (W : World) : Prop :=
  Below w.heap.size w W ∧ W.heap[w.heap.size]? = some (.cells #[.int .i64 a] 3 (0, 0)) ∧ W.heap[w.heap.size + 1]? = some (.cells #[.int .i64 x] 3 (0, 0)) ∧ W.heap[w.heap.size + 1 + 1]? = some (.cells #[.int .i64 y] 23 (0, 0))
theorem NI.set {w W : World} {a x y : Int} (h : NI w a x y W) (v : Value) {b : Nat} (hb : w.heap.size + 1 + 1 < b) : NI w a x y (W.setCell ⟨b, 0, none⟩ v) :=
  ⟨h.1.setCell (by simp; omega) _, blk_far h.2.1 (by simp; omega) _, blk_far h.2.2.1 (by simp; omega) _, blk_far h.2.2.2 (by simp; omega) _⟩
theorem NI.put {w W : World} {a x y : Int} (h : NI w a x y W) {l : Nat} (o' : Obj) (hl : w.heap.size + 1 + 1 < l) : NI w a x y (W.putObj l o') :=
  ⟨h.1.grown (grownBy_putObj' W l o') h.1.size (fun k e => by cases e; omega), (World.putObj_heap_other (by omega)).trans h.2.1, (World.putObj_heap_other (by omega)).trans h.2.2.1, (World.putObj_heap_other (by omega)).trans h.2.2.2⟩
theorem NI.alloc {w W : World} {a x y : Int} (h : NI w a x y W) (o : Obj) : NI w a x y (W.alloc o) :=
  ⟨h.1.alloc h.1.size o, blk_alloc h.2.1 o, blk_alloc h.2.2.1 o, blk_alloc h.2.2.2 o⟩
theorem NI.drewN {w W : World} {a x y : Int} (h : NI w a x y W) (n : Nat) : NI w a x y (W.drewN n) :=
  ⟨bdr h.1 n, h.2.1, h.2.2.1, h.2.2.2⟩

theorem nextL_step {k : Nat} {n a : Int} (h : reachB n a = false) : nextL (k + 1) n a = nextL k (n + 1) a := by rw [nextL, if_neg (by rw [h]; simp)]
theorem nextL_hit {k : Nat} {n a : Int} (h : reachB n a = true) : nextL (k + 1) n a = (n, 0) := by rw [nextL, if_pos h]

theorem from_any (m : Int) (w : World) :
    Calls Tryd.prog 28 #[.int .i64 m] w fun e w' => e = .returned (.func (.func 33) #[] #[.pointer (some ⟨w.heap.size, 0, none⟩)]) ∧ w' = w.alloc (.cells #[.int .i64 m] 3) := by
  go_enter Tryd.func28, Tryd.ntmps28
  go_wp2
  go_ret
  exact ⟨rfl, rfl⟩

set_option maxRecDepth 100000 in
set_option maxHeartbeats 2000000 in
theorem next_yes (m a : Int) (w : World) (h0 : 0 ≤ m) (h1 : m < 38400) (h2 : 0 ≤ a) (h3 : a < 5760) (R : Int × Int) (hR : nextL (38400 - m).toNat m a = R) :
    Calls Tryd.prog 18 #[.int .i64 m, .int .i64 a] w fun e w' => e = .returned (.tuple #[.int .i64 R.1, .int .i64 R.2]) ∧ Below w.heap.size w w' := by
  have H1 := Lib.hid (within_yes h0 h1)
  have H2 := Lib.hid (within_yes h2 h3)
  have HR := Lib.hid hR
  clear hR
  refine (callsIn_wide (n := 3)).1 ?_
  refine callsIn_of_wp_marks Tryd.func18 rfl trivial ?_ rfl
  simp only [Tryd.ntmps18, List.size_toArray, List.length_cons, List.length_nil, Nat.reduceAdd, Nat.reduceSub, Array.replicate_succ, Array.replicate_zero, List.push_toArray, List.append_toArray, List.nil_append, List.cons_append]
  gi_wp2_with (fail)
  refine ⟨trivial, ?_⟩
  refine (callsIn_wide.2 (calendar_within.calls m 38400 true _ H1.out)).mono ?_
  rintro e w' ⟨rfl, ⟨nd, rfl⟩⟩
  gi_wp2_with (fail)
  refine ⟨trivial, ?_⟩
  refine (callsIn_wide.2 (calendar_within.calls a 5760 true _ H2.out)).mono ?_
  rintro e w' ⟨rfl, ⟨nd2, rfl⟩⟩
  gi_wp2
  refine ⟨trivial, ?_⟩
  refine (callsIn_wide.2 (from_any m _)).mono ?_
  rintro e w' ⟨rfl, rfl⟩
  have hB : Below w.heap.size w ((((w.alloc (.cells #[.int .i64 a] 3)).alloc (.cells #[.int .i64 0] 3)).alloc (.cells #[.int .i64 0] 23))) := (((Below.refl _ w).alloc (Nat.le_refl _) _).alloc (by simp) _).alloc (by simp; omega) _
  have h3 := alloc3_blk w (.cells #[.int .i64 a] 3) (.cells #[.int .i64 0] 3) (.cells #[.int .i64 0] 23)
  have hN : NI w a 0 0 ((((w.alloc (.cells #[.int .i64 a] 3)).alloc (.cells #[.int .i64 0] 3)).alloc (.cells #[.int .i64 0] 23))) := ⟨hB, h3.1, h3.2.1, h3.2.2⟩
  have hN1 := (hN.drewN (nd + nd2)).alloc (.cells #[.int .i64 m] 3)
  have hc := blk_new (((((w.alloc (.cells #[.int .i64 a] 3)).alloc (.cells #[.int .i64 0] 3)).alloc (.cells #[.int .i64 0] 23))).drewN (nd + nd2)) (.cells #[.int .i64 m] 3)
  generalize hW : (((((w.alloc (.cells #[.int .i64 a] 3)).alloc (.cells #[.int .i64 0] 3)).alloc (.cells #[.int .i64 0] 23))).drewN (nd + nd2)) = W0 at *
  have hsz : W0.heap.size = w.heap.size + 3 := by rw [← hW]; simp [World.drewN]
  clear hW hN hB h3
  generalize hW1 : W0.alloc (.cells #[.int .i64 m] 3) = W1 at *
  have hsz1 : W1.heap.size = w.heap.size + 4 := by rw [← hW1]; simp [hsz]
  rw [hsz] at hc
  clear hW1
  have HN := Lib.hid hN1
  have HC := Lib.hid hc
  have HZ := Lib.hid hsz
  have HZ1 := Lib.hid hsz1
  clear hN1 hc hsz hsz1
  gi_wp2
  refine rangeFunc_cnt rfl (by omega) (gf := 33) (lb := #[.pointer (some ⟨w.heap.size + 3, 0, none⟩)]) (by simp [Act.eval, HZ.out]) trivial (enters_of Tryd.func33 (by kernel_rfl) rfl)
    (t := 3) (Bm := w.heap.size + 3) (m := m) (M := 38399) (from1_in Fence.wide 2 trivial rfl (by omega) (w.heap.size + 3) m h0 (by omega)) rfl HC.out
    (fun i W => NI w a 0 0 W ∧ nextL (38400 - i).toNat i a = R) (fun i W => NI w a i 0 W ∧ (i, 0) = R)
    (fun i W v h => ⟨h.1.set v (by omega), h.2⟩)
    (fun i W l o o' hl _ _ h => ⟨h.1.put o' (by have := HZ1.out; omega), h.2⟩) (fun i W l o o' hl _ _ h => ⟨h.1.put o' (by have := HZ1.out; omega), h.2⟩)
    (fun i o1 o2 h => ⟨(h.1.alloc o1).alloc o2, h.2⟩) ⟨HN.out, HR.out⟩
    (fun x => { tmps := #[.int .i64 m, .int .i64 a, undef, .pointer (some ⟨w.heap.size, 0, none⟩), .pointer (some ⟨w.heap.size + 1, 0, none⟩), .pointer (some ⟨w.heap.size + 1 + 1, 0, none⟩), .int .i64 x, undef, undef, .int .i64 m, .bool true, .bool false, .bool false, .int .i64 a, .bool true, .bool false, .bool false, .int .i64 m, .func (.func 33) #[] #[.pointer (some ⟨W0.heap.size, 0, none⟩)], .int .i64 x, undef, undef, undef, undef, undef, undef, undef, undef, undef, undef, undef, undef], defers := [] }) ?assign ?body ?done ?stop
  case assign =>
    intro l x W K hK
    gi_wp2
    exact hK
  case body =>
    rintro l i W hmi hiM ⟨hI, hRi⟩ hCi
    have hS := Lib.hid (sidereal_at (n := i) (by omega) (by omega))
    have hca := blk_cell hI.2.1 0
    have hk : (38400 - i).toNat = (38400 - (i + 1)).toNat + 1 := by omega
    obtain ⟨s, hs⟩ : ∃ s, s = (60 * (i % 96) + 16 * (i / 96)) % 5760 := ⟨_, rfl⟩
    have hs0 : 0 ≤ s := by omega
    have hs1 : s < 5760 := by omega
    rw [← hs] at hS
    have hf4 := blk_frozen hI.2.2.1 0
    have hf5 := blk_frozen hI.2.2.2 0
    have hc4 := blk_cell hI.2.2.1 0
    have hc5 := blk_cell hI.2.2.2 0
    have KI := Lib.hid hI
    have KR := Lib.hid hRi
    have KC := Lib.hid hCi
    have KK := Lib.hid hk
    have KS := Lib.hid hs
    clear hI hRi hCi hk hs
    gi_wp2_with (fail)
    refine ⟨trivial, ?_⟩
    refine (CallsIn.inRound l (callsIn_wide.2 (calendar_Sidereal.calls i _ _ _ hS.out))).mono ?_
    rintro e w' ⟨rfl, ⟨nd3, rfl⟩⟩
    by_cases hr : (s + 5760 - a) % 5760 < 60
    · have hb : reachB i a = true := by unfold reachB; rw [← KS.out]; exact decide_eq_true hr
      have hR2 : (i, (0 : Int)) = R := by have := KR.out; rw [KK.out, nextL_hit hb] at this; exact this
      have KR2 := Lib.hid hR2
      have hd : decide ((s + 5760 - a) % 5760 < 60) = true := decide_eq_true hr
      clear hb hR2 hr
      gi_wp2
      exact ⟨(show KeepsOthers W (W.drewN nd3) from ⟨Nat.le_refl _, fun _ _ h _ => h⟩).trans ((KeepsOthers.setCell _ _ _).trans (KeepsOthers.setCell _ _ _)),
        ⟨((bdr KI.out.1 nd3).setCell (by simp) _).setCell (by simp; omega) _, blk_far (blk_far (blk_drewN KI.out.2.1 _) (by simp) _) (by simp; omega) _, blk_far (blk_put (blk_drewN KI.out.2.2.1 _) 0 _ rfl) (by simp) _, blk_put (blk_far (blk_drewN KI.out.2.2.2 _) (by simp) _) 0 _ rfl⟩, KR2.out⟩
    · have hb : reachB i a = false := by unfold reachB; rw [← KS.out]; exact decide_eq_false hr
      have hR2 : nextL (38400 - (i + 1)).toNat (i + 1) a = R := by have := KR.out; rw [KK.out, nextL_step hb] at this; exact this
      have KR2 := Lib.hid hR2
      have hd : decide ((s + 5760 - a) % 5760 < 60) = false := decide_eq_false hr
      clear hb hR2 hr
      gi_wp2
      exact ⟨⟨Nat.le_refl _, fun _ _ h _ => h⟩, ⟨KI.out.drewN nd3, KR2.out⟩, blk_drewN KC.out _⟩
  case done =>
    rintro D W hD ⟨hI, hRi⟩ hK
    have hR2 : ((0 : Int), (9 : Int)) = R := hRi
    have hf4 := blk_frozen hI.2.2.1 0
    have hf5 := blk_frozen hI.2.2.2 0
    have hc4 := blk_cell hI.2.2.1 0
    have hc5 := blk_cell hI.2.2.2 0
    have KI := Lib.hid hI
    have KR := Lib.hid hR2
    have KK := Lib.hid hK
    have hD4 : w.heap.size + 1 + 1 < D := by have := HZ1.out; omega
    clear hI hRi hR2 hK
    gi_wp2
    refine ⟨by simp, .inl ⟨_, _, rfl, run_takeDeferred (((KeepsOthers.setCell _ _ _).trans (KeepsOthers.setCell _ _ _)).same D _ KK.out rfl), ?_⟩⟩
    refine ⟨.tuple #[.int .i64 0, .int .i64 9], res18 rfl rfl ((World.putObj_heap_other (by omega)).trans (blk_far (blk_put KI.out.2.2.1 0 _ rfl) (by simp) _)) ((World.putObj_heap_other (by omega)).trans (blk_put (blk_far KI.out.2.2.2 (by simp) _) 0 _ rfl)), ?_, ?_⟩
    · rw [← KR.out]
    · have h1 : Below w.heap.size w ((W.setCell ⟨w.heap.size + 1, 0, none⟩ (.int .i64 0)).setCell ⟨w.heap.size + 1 + 1, 0, none⟩ (.int .i64 9)) := (KI.out.1.setCell (by simp) _).setCell (by simp; omega) _
      exact h1.grown (grownBy_putObj' _ D _) h1.size (fun k e => by cases e; omega)
  case stop =>
    rintro D i W hD hmi hiM ⟨hI, hRi⟩ hK
    have hD4 : w.heap.size + 1 + 1 < D := by have := HZ1.out; omega
    have KI := Lib.hid hI
    have KR := Lib.hid hRi
    have KK := Lib.hid hK
    clear hI hRi hK
    gi_wp2
    refine ⟨by simp, .inl ⟨_, _, rfl, run_takeDeferred KK.out, ?_⟩⟩
    refine ⟨.tuple #[.int .i64 i, .int .i64 0], res18 rfl rfl ((World.putObj_heap_other (by omega)).trans KI.out.2.2.1) ((World.putObj_heap_other (by omega)).trans KI.out.2.2.2), ?_, ?_⟩
    · rw [← KR.out]
    · exact KI.out.1.grown (grownBy_putObj' _ D _) KI.out.1.size (fun k e => by cases e; omega)

theorem calendar_Next.calls (a0 a1 r1 r2 : Int) (w : World) (h : calendar_Next.f a0 a1 = some (r1, r2)) :
    Calls Tryd.prog 18 #[.int .i64 a0, .int .i64 a1] w fun e w' => e = .returned (.tuple #[.int .i64 r1, .int .i64 r2]) ∧ Below w.heap.size w w' := by
  unfold calendar_Next.f at h
  split at h
  case isTrue hc => exact next_yes a0 a1 w hc.1 hc.2.1 hc.2.2.1 hc.2.2.2 (r1, r2) (Option.some.inj h)
  case isFalse hc =>
    obtain ⟨rfl, rfl⟩ := Prod.mk.inj (Option.some.inj h)
    exact next_no a0 a1 w hc
end Go.Proofs.YtmjgbngmkkeoiaaDoor.Ext
