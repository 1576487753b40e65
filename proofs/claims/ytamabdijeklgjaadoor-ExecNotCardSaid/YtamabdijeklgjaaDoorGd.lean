/- Several texts in one (FlowD FlowE). -/
import Derived.Test.YtamabdijeklgjaaDoorGc
import Derived.Deep.DeepCutAuto
/- flow.Valid, walked: the loop. -/
namespace Go.Proofs.YtamabdijeklgjaaDoor.Ext
open Go Go.Proofs Go.RowKit Go.Proofs.YtamabdijeklgjaaDoorW.PrintWords
set_option linter.unusedVariables false
set_option linter.unusedSimpArgs false

theorem masks_none {l : List FS} {i : Nat} {s : FS} {ms : List Bool} (hx : l[i]? = some s) (h : stepM ms s = none) : masksL (l.drop i) ms = none := by
  have hi := (List.getElem?_eq_some_iff.1 hx).1
  have hv := (List.getElem?_eq_some_iff.1 hx).2
  rw [List.drop_eq_getElem_cons hi, hv, masksL, h]
theorem masks_some {l : List FS} {i : Nat} {s : FS} {ms : List Bool} {m : Bool} (hx : l[i]? = some s) (h : stepM ms s = some m) : masksL (l.drop i) ms = masksL (l.drop (i + 1)) (ms ++ [m]) := by
  have hi := (List.getElem?_eq_some_iff.1 hx).1
  have hv := (List.getElem?_eq_some_iff.1 hx).2
  rw [List.drop_eq_getElem_cons hi, hv, masksL, h]
theorem stepM_op {ms : List Bool} {k a d n : Int} (h : isOp k = false) : stepM ms ⟨k, a, d, n⟩ = none := by
  unfold stepM
  simp [h]
theorem stepM_n0 {ms : List Bool} {k a d n : Int} (h : n < 0) : stepM ms ⟨k, a, d, n⟩ = none := by
  unfold stepM
  have : decide (0 ≤ n) = false := decide_eq_false (by omega)
  simp [this]
theorem stepM_n1 {ms : List Bool} {k a d n : Int} {p : Opr} (hp : oprOf k = p) (h : p.most < n) : stepM ms ⟨k, a, d, n⟩ = none := by
  unfold stepM
  have : decide (n ≤ p.most) = false := decide_eq_false (by omega)
  simp [hp, this]
theorem stepM_a0 {ms : List Bool} {k a d n : Int} {p : Opr} (hp : oprOf k = p) (h : okArg p ms 0 a = false) : stepM ms ⟨k, a, d, n⟩ = none := by
  unfold stepM
  simp [hp, h]
theorem stepM_a1 {ms : List Bool} {k a d n : Int} {p : Opr} (hp : oprOf k = p) (h : okArg p ms 1 d = false) : stepM ms ⟨k, a, d, n⟩ = none := by
  unfold stepM
  simp [hp, h]
theorem stepM_yes {ms : List Bool} {k a d n : Int} {p : Opr} (hp : oprOf k = p) (hi : isOp k = true) (h0 : ¬ n < 0) (h1 : ¬ p.most < n) (ha : okArg p ms 0 a = true) (hd : okArg p ms 1 d = true) : stepM ms ⟨k, a, d, n⟩ = some p.makes := by
  unfold stepM
  have e1 : decide (0 ≤ n) = true := decide_eq_true (by omega)
  have e2 : decide (n ≤ p.most) = true := decide_eq_true (by omega)
  simp [hp, hi, e1, e2, ha, hd]
theorem mask_cell {w : World} {base : Nat} {A : Option Addr} {c i : Nat} {ms : List Bool} {a : Nat} {m : Bool} (h : w.ownsRow base 4 1 (.slice A i c) i (ms.map Value.bool)) (hm : ms[a]? = some m) : ∃ gB, A = some ⟨gB, 0, none⟩ ∧ w.cell? ⟨gB, a, none⟩ = some (.bool m) := by
  have hl : i ≠ 0 := by
    intro e
    have := h.1
    rw [List.length_map, e, Nat.zero_mul] at this
    have h2 := (List.getElem?_eq_some_iff.1 hm).1
    omega
  obtain ⟨g, cap, hv, _, _⟩ := h.form (by omega)
  injection hv with hA
  refine ⟨g, hA, ?_⟩
  have := h.cells (g := g) (by rw [hA]; rfl) a (.bool m) (by rw [List.getElem?_map, hm]; rfl)
  simpa [Addr.add_mid] using this
theorem own_drewN {w : World} {base : Nat} {e : TypeId} {size n : Nat} {v : Value} {xs : List Value} (h : w.ownsRow base e size v n xs) (m : Nat) : (w.drewN m).ownsRow base e size v n xs := h
theorem infoB : (Tryd.prog.info? 4).map (fun i => (i.zero, i.size, i.bytes)) = some (some (.bool false), 1, 1) := by kernel_rfl
set_option maxRecDepth 100000 in
set_option maxHeartbeats 4000000 in
theorem valid_loop (name : ByteArray) (ver : Int) (A : Option Addr) (c : Nat) (l : List FS) (w : World) (h1 : 1 ≤ ver) (h2 : ver ≤ 99) (h3 : 1 ≤ l.length) (h4 : l.length ≤ 40) (hi : ident name.data.toList = true) (hr : Kd.C L.k32 w A l.length l) :
    Calls Tryd.prog 13 #[.agg #[.string name, .int .i64 ver, .slice A l.length c]] w fun e w' => e = .returned (.bool (lastM l)) ∧ Below w.heap.size w w' := by
  have HI := Lib.hid hi
  obtain ⟨b, o, rfl, hst⟩ := steps_view hr (by intro e; rw [e] at h3; simp at h3)
  have hB : Below w.heap.size w (w.alloc (.cells #[.string name, .int .i64 ver, .slice (some ⟨b, o, none⟩) l.length c] 24)) := (Below.refl _ _).alloc (Nat.le_refl _) _
  have BK : Hid ((w.alloc (.cells #[.string name, .int .i64 ver, .slice (some ⟨b, o, none⟩) l.length c] 24)).heap[w.heap.size]? = some (.cells #[.string name, .int .i64 ver, .slice (some ⟨b, o, none⟩) l.length c] 24 (0, 0))) := Lib.hid (blk_new w _)
  have HST := Lib.hid hst
  have d1 : ¬ ver < 1 := by omega
  have d2 : ¬ 99 < ver := by omega
  have d3 : ¬ (l.length : Int) < 1 := by omega
  have d4 : ¬ (40 : Int) < (l.length : Int) := by omega
  clear hi hr hst
  go_enter Tryd.func13, Tryd.ntmps13
  go_wp2_with fail
  refine (identifier_calls name _).mono ?_
  rintro e w1 ⟨rfl, hb⟩
  rw [HI.out]
  have HB := Lib.hid (below_step hB hb)
  have HK := Lib.hid (blk_below BK.out hb)
  have c1 := blk_cell HK.out 1
  have c2 := blk_cell HK.out 2
  clear hb hB BK
  go_wp2_with fail
  clear c1 c2
  go_loopg [3, 39] l.length (fun g v3 v39 wx => ∃ (i : Nat) (ms : List Bool) (A' : Option Addr) (c' : Nat), i + g = l.length ∧ ms.length = i ∧ v3 = .slice A' i c' ∧ v39 = .int .i64 i ∧ Hid (masksL l [] = masksL (l.drop i) ms) ∧ Hid (wx.ownsRow w.heap.size 4 1 (.slice A' i c') i (ms.map Value.bool)) ∧ Hid (Below w.heap.size w wx))
  case atStart => exact ⟨0, [], none, 0, by omega, rfl, rfl, rfl, Lib.hid rfl, Lib.hid (own_nil_ _ _ _ _), HB⟩
  case round =>
    obtain ⟨i, ms, A', c', hig, hms, rfl, rfl, HM, HO, HBx⟩ := hrel
    have HMS := Lib.hid hms
    clear hms
    cases gk with
    | zero =>
      obtain rfl : i = l.length := by omega
      have hz : ¬ (l.length : Int) < (l.length : Int) := by omega
      have hm := HM.out
      rw [List.drop_length, masksL] at hm
      have hlast := lastM_some hm
      obtain ⟨q, hq⟩ : ∃ q, ms[l.length - 1]? = some q := ⟨_, List.getElem?_eq_getElem (by rw [HMS.out]; omega)⟩
      have hgl : ms.getLast? = some q := by rw [List.getLast?_eq_getElem?, HMS.out]; exact hq
      have HL : Hid (lastM l = q) := Lib.hid (by rw [hlast, hgl]; cases q <;> rfl)
      obtain ⟨gB, rfl, y7⟩ := mask_cell HO.out hq
      clear hm hlast hgl hq
      have hz1 : (1 : Int) ≤ (l.length : Int) := by omega
      go_wp2_with fail
      go_ret
      exact ⟨by rw [HL.out]; rfl, HBx.out⟩
    | succ g =>
      have hil : i < l.length := by omega
      have hz : (i : Int) < (l.length : Int) := by omega
      obtain ⟨x, hx⟩ : ∃ x, l[i]? = some x := ⟨_, List.getElem?_eq_getElem hil⟩
      have HSx := Lib.hid (HST.out.below HBx.out)
      obtain ⟨k, a, d, n⟩ := x
      have x0 : wr.cell? ⟨b, o + i * 4, none⟩ = some (.int .i64 k) := HSx.out.2 i _ hx 0 _ rfl
      have x1 : wr.cell? ⟨b, o + i * 4 + 1, none⟩ = some (.int .i64 a) := HSx.out.2 i _ hx 1 _ rfl
      have x2 : wr.cell? ⟨b, o + i * 4 + 2, none⟩ = some (.int .i64 d) := HSx.out.2 i _ hx 2 _ rfl
      have x3 : wr.cell? ⟨b, o + i * 4 + 3, none⟩ = some (.int .i64 n) := HSx.out.2 i _ hx 3 _ rfl
      have HX := Lib.hid hx
      clear hx
      go_wp2_with fail
      have BS : Hid ((wr.alloc (.cells #[.int .i64 k, .int .i64 a, .int .i64 d, .int .i64 n] 32)).heap[wr.heap.size]? = some (.cells #[.int .i64 k, .int .i64 a, .int .i64 d, .int .i64 n] 32 (0, 0))) := Lib.hid (blk_new wr _)
      have HBy := Lib.hid (below_alloc HBx.out (.cells #[.int .i64 k, .int .i64 a, .int .i64 d, .int .i64 n] 32))
      have HOy := Lib.hid (HO.out.alloc (.cells #[.int .i64 k, .int .i64 a, .int .i64 d, .int .i64 n] 32))
      clear x0 x1 x2 x3 HO HBx HSx
      generalize hsB : wr.heap.size = sB at BS
      generalize wr.alloc (.cells #[.int .i64 k, .int .i64 a, .int .i64 d, .int .i64 n] 32) = W at BS HBy HOy
      clear hsB
      obtain ⟨p, hp⟩ : ∃ p, oprOf k = p := ⟨_, rfl⟩
      have s0 := blk_cell BS.out 0
      have hlk := look_new1 k p hp true
      have hlk2 := look_new2 k p hp true
      have hlk3 := look_new3 k p hp true
      have HP := Lib.hid hp
      clear hp
      simp only [if_true] at hlk hlk2 hlk3
      go_upto_region 7 with fail
      go_cut [6, 7] (fun s6 s7 wx => ∃ pB : Nat, s6 = .pointer (some ⟨pB, 0, none⟩) ∧ s7 = .bool (isOp k) ∧ Hid (wx.heap[pB]? = some (.cells #[.string (bs p.word), .string (bs p.sym), .int .i64 p.arity, .bool p.takes, .bool p.makes, .int .i64 p.most] 68 (0, 0))) ∧ Hid (wx.heap[sB]? = some (.cells #[.int .i64 k, .int .i64 a, .int .i64 d, .int .i64 n] 32 (0, 0))) ∧ Hid (Below w.heap.size w wx) ∧ Hid (wx.ownsRow w.heap.size 4 1 (.slice A' i c') i (ms.map Value.bool)))
      case first =>
        go_region_held3 (fun w' => w'.cell? ⟨sB, 0, none⟩ = some (.int .i64 k)) (go_keep)
          (first | (go_at_call 28; refine (operators_calls _).mono ?_; rintro e w' ⟨rfl, rfl⟩))
        all_goals
          go_wp2_with fail
          go_meet
          first
            | exact ⟨W.heap.size + 1, rfl, rfl, Lib.hid (blk_drew (by have := blk_new (W.alloc (.map oprE.toArray 10)) (.cells #[.string (bs p.word), .string (bs p.sym), .int .i64 p.arity, .bool p.takes, .bool p.makes, .int .i64 p.most] 68); rw [World.size_alloc] at this; exact this)), Lib.hid (blk_drew (blk_alloc (blk_alloc BS.out _) _)), Lib.hid (below_drew (below_alloc (below_alloc HBy.out _) _)), Lib.hid (own_drew ((HOy.out.alloc _).alloc _))⟩
            | exact ⟨W.heap.size, rfl, rfl, Lib.hid (blk_drew (blk_alloc (blk_new W _) _)), Lib.hid (blk_drew (blk_alloc (blk_alloc BS.out _) _)), Lib.hid (below_drew (below_alloc (below_alloc HBy.out _) _)), Lib.hid (own_drew ((HOy.out.alloc _).alloc _))⟩
      case rest =>
        obtain ⟨pB, rfl, rfl, HP6, BS6, HB6, HO6⟩ := hcut
        clear HBy HOy BS s0 hlk hlk2 hlk3
        have p5 := blk_cell HP6.out 5
        have n3 := blk_cell BS6.out 3
        by_cases his : isOp k = true
        · have his' : isOp k = true := his
          by_cases hn0 : n < 0
          · have HN : Hid (lastM l = false) := Lib.hid (lastM_none (HM.out.trans (masks_none HX.out (stepM_n0 hn0))))
            go_wp2_with fail
            go_ret
            exact ⟨by rw [HN.out]; rfl, HB6.out⟩
          · by_cases hn1 : p.most < n
            · have HN : Hid (lastM l = false) := Lib.hid (lastM_none (HM.out.trans (masks_none HX.out (stepM_n1 HP.out hn1))))
              go_wp2_with fail
              go_ret
              exact ⟨by rw [HN.out]; rfl, HB6.out⟩
            · have b1 := blk_cell BS6.out 1
              have b2 := blk_cell BS6.out 2
              go_wp2_with fail
              have HR7 : Hid ((wc.alloc (.cells #[.int .i64 a, .int .i64 d] 3)).heap[wc.heap.size]? = some (.cells #[.int .i64 a, .int .i64 d] 3 (0, 0))) := Lib.hid (blk_new wc _)
              have HP7 := Lib.hid (blk_alloc HP6.out (.cells #[.int .i64 a, .int .i64 d] 3))
              have HB7 := Lib.hid (below_alloc HB6.out (.cells #[.int .i64 a, .int .i64 d] 3))
              have HO7 := Lib.hid (HO6.out.alloc (.cells #[.int .i64 a, .int .i64 d] 3))
              clear HP6 HB6 HO6 BS6 p5 n3 b1 b2
              generalize wc.alloc (.cells #[.int .i64 a, .int .i64 d] 3) = W7 at HR7 HP7 HB7 HO7
              generalize wc.heap.size = rB at HR7
              have p2 := blk_cell HP7.out 2
              have p3 := blk_cell HP7.out 3
              go_loopg [70] 2 (fun g v70 wx => ∃ kk : Nat, kk + g = 2 ∧ v70 = .int .i64 kk ∧ (1 ≤ kk → Hid (okArg p ms 0 a = true)) ∧ (2 ≤ kk → Hid (okArg p ms 1 d = true)) ∧ Hid (∃ m, wx = W7.drewN m))
              case atStart => exact ⟨0, rfl, rfl, fun h => absurd h (by decide), fun h => absurd h (by decide), Lib.hid ⟨0, rfl⟩⟩
              case round =>
                obtain ⟨kk, hkk, rfl, H0, H1, HW⟩ := hrel
                obtain ⟨m, rfl⟩ := HW.out
                clear HW
                have hks : kk = 0 ∨ kk = 1 ∨ kk = 2 := by omega
                rcases hks with rfl | rfl | rfl
                · obtain rfl : gk = 2 := by omega
                  clear hkk H0 H1
                  have e0 := blk_cell HR7.out 0
                  cases hok : okArg p ms 0 a with
                  | true =>
                    have HOK := Lib.hid hok
                    rcases okArg_yes hok with ⟨y1, y2⟩ | ⟨y1, y2, y3⟩
                    · have y1' : decide (p.arity ≤ 0) = true := decide_eq_true y1
                      have y3' : decide ((0 : Int) < p.arity) = false := decide_eq_false (by omega)
                      have y2' : (a != 0) = false := by simpa using y2
                      clear hok y1
                      go_wp2_with fail
                      go_quiet (fail)
                      go_wp2_with fail
                      go_roundg 1
                      case measure => omega
                      case rel => exact ⟨1, by omega, by go_num, fun _ => HOK, fun h => absurd h (by decide), Lib.hid ⟨_, rfl⟩⟩
                    · have y1' : decide (p.arity ≤ 0) = false := decide_eq_false (by omega)
                      have y3' : decide ((0 : Int) < p.arity) = true := decide_eq_true y1
                      have y4 : decide (a < 0) = false := decide_eq_false (by omega)
                      have y6 : a.toNat < i := by have := (List.getElem?_eq_some_iff.1 y3).1; rw [HMS.out] at this; exact this
                      have y5 : decide ((i : Int) ≤ a) = false := decide_eq_false (by omega)
                      obtain ⟨gB, rfl, y7⟩ := mask_cell HO7.out y3
                      have y8 : (p.takes != p.takes) = false := by simp
                      clear hok y1 y3
                      go_wp2_with fail
                      go_quiet (fail)
                      go_wp2_with fail
                      go_roundg 1
                      case measure => omega
                      case rel => exact ⟨1, by omega, by go_num, fun _ => HOK, fun h => absurd h (by decide), Lib.hid ⟨_, rfl⟩⟩
                  | false =>
                    have HN : Hid (lastM l = false) := Lib.hid (lastM_none (HM.out.trans (masks_none HX.out (stepM_a0 HP.out hok))))
                    rcases okArg_no hok with ⟨y1, y2⟩ | ⟨y1, y2⟩ | ⟨y1, y2, y3⟩ | ⟨y1, y2, m', y3, y9⟩
                    · have y1' : decide (p.arity ≤ 0) = true := decide_eq_true y1
                      have y2' : (a != 0) = true := by simpa using y2
                      clear hok y1 y2
                      go_wp2_with fail
                      go_quiet (fail)
                      go_wp2_with fail
                      go_ret
                      exact ⟨by rw [HN.out]; rfl, bdr (bdr HB7.out _) _⟩
                    · have y1' : decide (p.arity ≤ 0) = false := decide_eq_false (by omega)
                      have y3' : decide ((0 : Int) < p.arity) = true := decide_eq_true y1
                      have y4 : decide (a < 0) = true := decide_eq_true y2
                      clear hok y1 y2
                      go_wp2_with fail
                      go_quiet (fail)
                      go_wp2_with fail
                      go_ret
                      exact ⟨by rw [HN.out]; rfl, bdr (bdr HB7.out _) _⟩
                    · have y1' : decide (p.arity ≤ 0) = false := decide_eq_false (by omega)
                      have y3' : decide ((0 : Int) < p.arity) = true := decide_eq_true y1
                      have y4 : decide (a < 0) = false := decide_eq_false (by omega)
                      have y5 : decide ((i : Int) ≤ a) = true := decide_eq_true (by rw [← HMS.out]; exact y3)
                      clear hok y1
                      go_wp2_with fail
                      go_quiet (fail)
                      go_wp2_with fail
                      go_ret
                      exact ⟨by rw [HN.out]; rfl, bdr (bdr HB7.out _) _⟩
                    · have y1' : decide (p.arity ≤ 0) = false := decide_eq_false (by omega)
                      have y3' : decide ((0 : Int) < p.arity) = true := decide_eq_true y1
                      have y4 : decide (a < 0) = false := decide_eq_false (by omega)
                      have y6 : a.toNat < i := by have := (List.getElem?_eq_some_iff.1 y3).1; rw [HMS.out] at this; exact this
                      have y5 : decide ((i : Int) ≤ a) = false := decide_eq_false (by omega)
                      obtain rfl : m' = !p.takes := by revert y9; cases m' <;> cases p.takes <;> simp
                      have y8 : ((!p.takes) != p.takes) = true := by cases p.takes <;> rfl
                      clear y9
                      obtain ⟨gB, rfl, y7⟩ := mask_cell HO7.out y3
                      clear hok y1 y3
                      go_wp2_with fail
                      go_quiet (fail)
                      go_wp2_with fail
                      go_ret
                      exact ⟨by rw [HN.out]; rfl, bdr (bdr HB7.out _) _⟩
                · obtain rfl : gk = 1 := by omega
                  clear hkk H1
                  have e0 := blk_cell HR7.out 1
                  cases hok : okArg p ms 1 d with
                  | true =>
                    have HOK := Lib.hid hok
                    rcases okArg_yes hok with ⟨y1, y2⟩ | ⟨y1, y2, y3⟩
                    · have y1' : decide (p.arity ≤ 1) = true := decide_eq_true y1
                      have y3' : decide ((1 : Int) < p.arity) = false := decide_eq_false (by omega)
                      have y2' : (d != 0) = false := by simpa using y2
                      clear hok y1
                      go_wp2_with fail
                      go_quiet (fail)
                      go_wp2_with fail
                      go_roundg 0
                      case measure => omega
                      case rel => exact ⟨2, by omega, by go_num, fun _ => H0 (by decide), fun _ => HOK, Lib.hid ⟨_, rfl⟩⟩
                    · have y1' : decide (p.arity ≤ 1) = false := decide_eq_false (by omega)
                      have y3' : decide ((1 : Int) < p.arity) = true := decide_eq_true y1
                      have y4 : decide (d < 0) = false := decide_eq_false (by omega)
                      have y6 : d.toNat < i := by have := (List.getElem?_eq_some_iff.1 y3).1; rw [HMS.out] at this; exact this
                      have y5 : decide ((i : Int) ≤ d) = false := decide_eq_false (by omega)
                      obtain ⟨gB, rfl, y7⟩ := mask_cell HO7.out y3
                      have y8 : (p.takes != p.takes) = false := by simp
                      clear hok y1 y3
                      go_wp2_with fail
                      go_quiet (fail)
                      go_wp2_with fail
                      go_roundg 0
                      case measure => omega
                      case rel => exact ⟨2, by omega, by go_num, fun _ => H0 (by decide), fun _ => HOK, Lib.hid ⟨_, rfl⟩⟩
                  | false =>
                    have HN : Hid (lastM l = false) := Lib.hid (lastM_none (HM.out.trans (masks_none HX.out (stepM_a1 HP.out hok))))
                    rcases okArg_no hok with ⟨y1, y2⟩ | ⟨y1, y2⟩ | ⟨y1, y2, y3⟩ | ⟨y1, y2, m', y3, y9⟩
                    · have y1' : decide (p.arity ≤ 1) = true := decide_eq_true y1
                      have y2' : (d != 0) = true := by simpa using y2
                      clear hok y1 y2
                      go_wp2_with fail
                      go_quiet (fail)
                      go_wp2_with fail
                      go_ret
                      exact ⟨by rw [HN.out]; rfl, bdr (bdr HB7.out _) _⟩
                    · have y1' : decide (p.arity ≤ 1) = false := decide_eq_false (by omega)
                      have y3' : decide ((1 : Int) < p.arity) = true := decide_eq_true y1
                      have y4 : decide (d < 0) = true := decide_eq_true y2
                      clear hok y1 y2
                      go_wp2_with fail
                      go_quiet (fail)
                      go_wp2_with fail
                      go_ret
                      exact ⟨by rw [HN.out]; rfl, bdr (bdr HB7.out _) _⟩
                    · have y1' : decide (p.arity ≤ 1) = false := decide_eq_false (by omega)
                      have y3' : decide ((1 : Int) < p.arity) = true := decide_eq_true y1
                      have y4 : decide (d < 0) = false := decide_eq_false (by omega)
                      have y5 : decide ((i : Int) ≤ d) = true := decide_eq_true (by rw [← HMS.out]; exact y3)
                      clear hok y1
                      go_wp2_with fail
                      go_quiet (fail)
                      go_wp2_with fail
                      go_ret
                      exact ⟨by rw [HN.out]; rfl, bdr (bdr HB7.out _) _⟩
                    · have y1' : decide (p.arity ≤ 1) = false := decide_eq_false (by omega)
                      have y3' : decide ((1 : Int) < p.arity) = true := decide_eq_true y1
                      have y4 : decide (d < 0) = false := decide_eq_false (by omega)
                      have y6 : d.toNat < i := by have := (List.getElem?_eq_some_iff.1 y3).1; rw [HMS.out] at this; exact this
                      have y5 : decide ((i : Int) ≤ d) = false := decide_eq_false (by omega)
                      obtain rfl : m' = !p.takes := by revert y9; cases m' <;> cases p.takes <;> simp
                      have y8 : ((!p.takes) != p.takes) = true := by cases p.takes <;> rfl
                      clear y9
                      obtain ⟨gB, rfl, y7⟩ := mask_cell HO7.out y3
                      clear hok y1 y3
                      go_wp2_with fail
                      go_quiet (fail)
                      go_wp2_with fail
                      go_ret
                      exact ⟨by rw [HN.out]; rfl, bdr (bdr HB7.out _) _⟩
                · obtain rfl : gk = 0 := by omega
                  have HY := Lib.hid (stepM_yes (n := n) (a := a) (d := d) HP.out his' (by omega) (by omega) (H0 (by decide)).out (H1 (by decide)).out)
                  have HM2 : Hid (masksL l [] = masksL (l.drop (i + 1)) (ms ++ [p.makes])) := Lib.hid (HM.out.trans (masks_some HX.out HY.out))
                  clear hkk H0 H1 HM p2 p3
                  have p4 := blk_cell HP7.out 4
                  obtain ⟨it, hi, hz0, hz1, hz2⟩ := info_parts infoB
                  go_wp2_with (first | (at_builtin; refine wpList_append_own _ rfl _ _ 66 rfl w.heap.size 4 it (.bool false) 1 1 Tryd.underlying66 hi hz0 hz1 hz2 rfl (by decide) _ _ _ rfl ((own_drewN HO7.out m).alloc _) ⟨W7.heap.size, 0, none⟩ 1 1 [.bool p.makes] rfl rfl ?c1 ?c2 ?c3 ?c4 ?c5 ?_) | fail)
                  case c1 =>
                    intro j u hj
                    match j, hj with
                    | 0, hj =>
                      simp at hj
                      subst hj
                      exact blk_cell (blk_new (W7.drewN m) (.cells #[.bool p.makes] 4)) 0
                  case c2 => intro u hu; simp at hu; subst hu; rfl
                  case c3 => unfold maxLen; omega
                  case c4 => omega
                  case c5 => have := HB7.out.size; simp; omega
                  intro v' w4 hown hgrow _
                  have HB8 : Hid (Below w.heap.size w w4) := Lib.hid (below_grown_own (below_alloc (bdr HB7.out m) _) ((own_drewN HO7.out m).alloc _) hgrow)
                  obtain ⟨A2, c2, rfl⟩ := own_view hown
                  have HO8 : Hid (w4.ownsRow w.heap.size 4 1 (.slice A2 (i + 1) c2) (i + 1) ((ms ++ [p.makes]).map Value.bool)) := Lib.hid (by rw [List.map_append]; exact hown)
                  clear hgrow hown
                  go_wp2_with fail
                  go_roundg g
                  case measure => omega
                  case rel => exact ⟨i + 1, ms ++ [p.makes], A2, c2, by omega, by rw [List.length_append, HMS.out]; rfl, rfl, by go_num, HM2, HO8, HB8⟩
        · have his' : isOp k = false := by simpa using his
          have HN : Hid (lastM l = false) := Lib.hid (lastM_none (HM.out.trans (masks_none HX.out (stepM_op his'))))
          clear his
          go_wp2_with fail
          go_ret
          exact ⟨by rw [HN.out]; rfl, HB6.out⟩
end Go.Proofs.YtamabdijeklgjaaDoor.Ext

/- flow.Valid: the whole answer. -/
namespace Go.Proofs.YtamabdijeklgjaaDoor.Ext
open Go Go.Proofs Go.RowKit Go.Proofs.YtamabdijeklgjaaDoorW.PrintWords
set_option linter.unusedVariables false

theorem valid_calls (name : ByteArray) (ver : Int) (A : Option Addr) (c : Nat) (l : List FS) (w : World) (hl : l.length ≤ 9223372036854775807) (hr : Kd.C L.k32 w A l.length l) :
    Calls Tryd.prog 13 #[.agg #[.string name, .int .i64 ver, .slice A l.length c]] w fun e w' => e = .returned (.bool (validB name.data.toList ver l)) ∧ Below w.heap.size w w' := by
  unfold validB
  cases hi : ident name.data.toList with
  | false =>
    refine (valid_early name ver A c l.length w hl (Or.inl hi)).mono ?_
    rintro e w' ⟨rfl, hb⟩
    exact ⟨by simp, hb⟩
  | true =>
    by_cases h : 1 ≤ ver ∧ ver ≤ 99 ∧ 1 ≤ l.length ∧ l.length ≤ 40
    · obtain ⟨h1, h2, h3, h4⟩ := h
      refine (valid_loop name ver A c l w h1 h2 h3 h4 hi hr).mono ?_
      rintro e w' ⟨rfl, hb⟩
      rw [decide_eq_true h1, decide_eq_true h2, decide_eq_true h3, decide_eq_true h4]
      exact ⟨by simp, hb⟩
    · refine (valid_early name ver A c l.length w hl (Or.inr (by omega))).mono ?_
      rintro e w' ⟨rfl, hb⟩
      refine ⟨?_, hb⟩
      have : (true && decide (1 ≤ ver) && decide (ver ≤ 99) && decide (1 ≤ l.length) && decide (l.length ≤ 40)) = false := by
        rw [Bool.eq_false_iff]
        intro hh
        simp only [Bool.and_eq_true, decide_eq_true_eq, Bool.true_and] at hh
        exact h ⟨hh.1.1.1, hh.1.1.2, hh.1.2, hh.2⟩
      rw [this]
      rfl
theorem valid_of_reads (name : ByteArray) (ver : Int) (A : Option Addr) (c : Nat) (l : List FS) (w : World) (hr : Kd.C L.k32 w A l.length l) :
    Calls Tryd.prog 13 #[.agg #[.string name, .int .i64 ver, .slice A l.length c]] w fun e w' => e = .returned (.bool (validB name.data.toList ver l)) ∧ Below w.heap.size w w' :=
  valid_calls name ver A c l w (by have := hr.2.1; omega) hr
end Go.Proofs.YtamabdijeklgjaaDoor.Ext
