/- Several texts in one (ParH ParI HeadP). -/
import Derived.Test.YtamabdijeklgjaaDoorGf
import Derived.Defers
import Derived.Recover
import Derived.Laws.Pointers
import Derived.Test.YtamabdijeklgjaaDoorGd
/- flow.parser.flow, walked. -/
namespace Go.Proofs.YtamabdijeklgjaaDoor.Ext
open Go Go.Proofs Go.RowKit Go.Proofs.YtamabdijeklgjaaDoorW.PrintWords Go.Proofs.YtamabdijeklgjaaDoorW.PrintLast
set_option linter.unusedVariables false
set_option linter.unusedSimpArgs false

theorem mustP_ok {s s1 : PState} {k : Int} {x : List UInt8} {t : Tok} (h : mustP s k x = .ok t s1) : s1 = s.rest ∧ t = s.hd ∧ s.toks ≠ [] := by
  unfold mustP at h
  split at h
  · rename_i hc
    injection h with h1 h2
    exact ⟨h2.symm, h1.symm, seesP_ne hc⟩
  · cases h
theorem numberP_ok {s s1 : PState} {lo hi v : Int} (h : numberP s lo hi = .ok v s1) : s1 = s.rest := by
  unfold numberP at h
  split at h
  · split at h
    · cases h
    · injection h with h1 h2
      exact h2.symm
  · cases h
theorem operandP_ok {s s1 : PState} {m : Bool} {v : Int} (h : operandP s m = .ok v s1) : s1 = s.rest := by
  unfold operandP at h
  cases hf : freeP s with
  | bad e a => rw [hf] at h; cases h
  | ok x s2 =>
    rw [hf] at h
    obtain ⟨rfl, _, _⟩ := freeP_ok hf
    simp only [PR.andThen] at h
    split at h
    · cases h
    · split at h
      · cases h
      · injection h with h1 h2
        exact h2.symm
/-- what a step takes: tokens alone -/
def Fewer (s s1 : PState) : Prop := s1.toks.length ≤ s.toks.length ∧ s1.names = s.names ∧ s1.steps = s.steps ∧ s1.end_ = s.end_ ∧ s1.name = s.name ∧ s1.ver = s.ver
theorem Fewer.refl (s : PState) : Fewer s s := ⟨Nat.le_refl _, rfl, rfl, rfl, rfl, rfl⟩
theorem Fewer.rest {s s1 : PState} (h : Fewer s s1) : Fewer s s1.rest := by
  refine ⟨?_, h.2⟩
  have := h.1
  unfold PState.rest
  simp
  omega
theorem restP_ok {k a b : Int} {o : Opr} {s s1 : PState} {x : FS} (h : restP k o a b s = .ok x s1) : Fewer s s1 := by
  unfold restP optP at h
  split at h
  · dsimp only at h
    cases hn : numberP s 0 o.most with
    | bad e a => rw [hn] at h; cases h
    | ok v s2 =>
      rw [hn] at h
      injection h with _ h2
      rw [← h2, numberP_ok hn]
      exact (Fewer.refl s).rest
  · injection h with _ h2
    rw [← h2]
    exact Fewer.refl s
theorem Fewer.trans {s s1 s2 : PState} (h : Fewer s s1) (k : Fewer s1 s2) : Fewer s s2 := ⟨Nat.le_trans k.1 h.1, k.2.1.trans h.2.1, k.2.2.1.trans h.2.2.1, k.2.2.2.1.trans h.2.2.2.1, k.2.2.2.2.1.trans h.2.2.2.2.1, k.2.2.2.2.2.trans h.2.2.2.2.2⟩
theorem optP_ok {q m : Bool} {s s1 : PState} {v : Int} (h : (optP q s fun s => operandP s m) = .ok v s1) : Fewer s s1 := by
  unfold optP at h
  split at h
  · rw [operandP_ok h]
    exact (Fewer.refl s).rest
  · injection h with _ h2
    rw [← h2]
    exact Fewer.refl s
theorem stepP_ok {s s1 : PState} {x : FS} (h : stepP s = .ok x s1) : Fewer s s1 := by
  cases hw : headWord s with
  | some p =>
    obtain ⟨k, o⟩ := p
    rw [stepP_word hw] at h
    change (optP (decide (1 ≤ o.arity)) s.rest fun s => operandP s o.takes).andThen (fun a s2 => (optP (decide (2 ≤ o.arity)) s2 fun s => operandP s o.takes).andThen fun b s3 => restP k o a b s3) = _ at h
    cases h1 : (optP (decide (1 ≤ o.arity)) s.rest fun s => operandP s o.takes) with
    | bad e a => rw [h1] at h; cases h
    | ok a s2 =>
      rw [h1] at h
      change (optP (decide (2 ≤ o.arity)) s2 fun s => operandP s o.takes).andThen (fun b s3 => restP k o a b s3) = _ at h
      cases h2 : (optP (decide (2 ≤ o.arity)) s2 fun s => operandP s o.takes) with
      | bad e a => rw [h2] at h; cases h
      | ok b s3 =>
        rw [h2] at h
        exact (((Fewer.refl s).rest.trans (optP_ok h1)).trans (optP_ok h2)).trans (restP_ok h)
  | none =>
    rw [stepP_sym hw] at h
    cases h1 : operandP s false with
    | bad e a => rw [h1] at h; cases h
    | ok a s2 =>
      rw [h1] at h
      simp only [PR.andThen] at h
      have e1 := operandP_ok h1
      split at h
      · cases h
      · cases h2 : operandP s2.rest false with
        | bad e a => rw [h2] at h; cases h
        | ok b s3 =>
          rw [h2] at h
          injection h with _ h3
          rw [← h3, operandP_ok h2, e1]
          exact (Fewer.refl s).rest.rest.rest
def FPost (B b g : Nat) (w : World) (r : PR Unit) (e : Ending) (w' : World) : Prop := match r with
  | .ok _ s => (∃ v, e = .returned v) ∧ (∃ NV SV, PAt w' B b g NV SV s) ∧ Below B w w'
  | .bad er at_ => e = .panicked (failV er at_) ∧ Below B w w'
theorem PAt.b_le {w : World} {B b g : Nat} {NV SV : Value} {s : PState} (h : PAt w B b g NV SV s) : B ≤ b := by
  obtain ⟨_, _, _, _, _, _, _, h6, _⟩ := h
  exact h6
theorem PAt.setname {w : World} {B b g : Nat} {NV SV : Value} {s : PState} (h : PAt w B b g NV SV s) (x : List UInt8) : PAt (w.setCell ⟨b, 3, none⟩ (.string (bs x))) B b g NV SV { s with name := x } :=
  h.turn (setCell_grown w ⟨b, 3, none⟩ _) ⟨rfl, rfl⟩ fun TA tc h1 h2 h3 => ⟨TA, tc, blk_put h1 3 _ (by simp [pcells]), h2, h3⟩
theorem PAt.setver {w : World} {B b g : Nat} {NV SV : Value} {s : PState} (h : PAt w B b g NV SV s) (x : Int) : PAt (w.setCell ⟨b, 4, none⟩ (.int .i64 x)) B b g NV SV { s with ver := x } :=
  h.turn (setCell_grown w ⟨b, 4, none⟩ _) ⟨rfl, rfl⟩ fun TA tc h1 h2 h3 => ⟨TA, tc, blk_put h1 4 _ (by simp [pcells]), h2, h3⟩
theorem PAt.fz {w : World} {B b g : Nat} {NV SV : Value} {s : PState} (h : PAt w B b g NV SV s) (i : Nat) : w.frozen? ⟨b, i, none⟩ = false := by
  obtain ⟨TA, tc, h1, _⟩ := h
  exact blk_frozen h1 i
theorem PAt.c3 {w : World} {B b g : Nat} {NV SV : Value} {s : PState} (h : PAt w B b g NV SV s) : w.cell? ⟨b, 3, none⟩ = some (.string (bs s.name)) ∧ w.cell? ⟨b, 4, none⟩ = some (.int .i64 s.ver) := by
  obtain ⟨TA, tc, h1, _⟩ := h
  exact ⟨blk_cell h1 3, blk_cell h1 4⟩
theorem PAt.c0 {w : World} {B b g : Nat} {NV SV : Value} {s : PState} (h : PAt w B b g NV SV s) : ∃ TA tc, w.cell? ⟨b, 0, none⟩ = some (.slice TA s.toks.length tc) := by
  obtain ⟨TA, tc, h1, _⟩ := h
  exact ⟨TA, tc, blk_cell h1 0⟩
theorem last_test (init : List (List UInt8)) (last y : List UInt8) : (decide ((init ++ [last]).length = 0) || !((init ++ [last]).getLast? == some y)) = !(y == last) := by
  rw [List.getLast?_concat]
  have h1 : decide ((init ++ [last]).length = 0) = false := by simp
  rw [h1, Bool.false_or]
  congr 1
  rw [Bool.eq_iff_iff, beq_iff_eq, beq_iff_eq]
  constructor
  · intro h; injection h with h; exact h.symm
  · intro h; rw [h]
set_option maxRecDepth 100000 in
set_option maxHeartbeats 4000000 in
theorem flow_calls (B b g : Nat) (NV SV : Value) (s : PState) (w : World) (h : PAt w B b g NV SV s) :
    Calls Tryd.prog 37 #[.pointer (some ⟨b, 0, none⟩)] w (FPost B b g w (flowP s)) := by
  have H := Lib.hid h
  have HBb := Lib.hid h.b_le
  have hbl := h.lt
  obtain ⟨R, hR⟩ : ∃ R, flowP s = R := ⟨_, rfl⟩
  rw [hR]
  have HR := Lib.hid hR
  clear hR h
  unfold flowP at HR
  go_enter Tryd.func37, Tryd.ntmps37
  go_wp2_with fail
  obtain ⟨F, hF⟩ : ∃ F, mustP s 1 wFlow = F := ⟨_, rfl⟩
  refine (must_calls B b g NV SV s 1 wFlow _ H.out).mono ?_
  intro e w1 hpost
  rw [hF] at HR hpost
  cases F with
  | bad e0 a0 =>
    obtain ⟨rfl, hb⟩ := hpost
    rw [show R = .bad e0 a0 from HR.out.symm]
    exact ⟨rfl, rfl, hb⟩
  | ok t s1 =>
  obtain ⟨rfl, hp, hg⟩ := hpost
  have P1 := Lib.hid hp
  have B1 := Lib.hid (below_of_grown hg HBb.out hbl)
  have hb1 : b < w1.heap.size := P1.out.lt
  simp only [PR.andThen] at HR
  clear hp hg hF H hbl
  go_wp2_with fail
  obtain ⟨F, hF⟩ : ∃ F, mustP s1 1 [] = F := ⟨_, rfl⟩
  refine (must_calls B b g NV SV s1 1 [] _ P1.out).mono ?_
  intro e w2 hpost
  rw [hF] at HR hpost
  cases F with
  | bad e0 a0 =>
    obtain ⟨rfl, hb⟩ := hpost
    rw [show R = .bad e0 a0 from HR.out.symm]
    exact ⟨rfl, rfl, below_bb B1.out hb⟩
  | ok t2 s2 =>
  obtain ⟨rfl, hp, hg⟩ := hpost
  have P2 := Lib.hid hp
  have B2 := Lib.hid (below_b B1.out hg HBb.out hb1)
  have hb2 : b < w2.heap.size := P2.out.lt
  have z3 := P2.out.c3.1
  have f3 := P2.out.fz 3
  simp only [PR.andThen] at HR
  clear hp hg hF P1 B1 hb1
  unfold tokV
  have hf1 := tok_field1
  go_wp2_with fail
  have P3 := Lib.hid (P2.out.setname t2.text)
  have B3 := Lib.hid (below_b B2.out (setCell_grown w2 ⟨b, 3, none⟩ (.string (bs t2.text))) HBb.out hb2)
  clear z3 f3 P2 B2 hf1
  generalize w2.setCell ⟨b, 3, none⟩ (.string (bs t2.text)) = W3 at P3 B3
  clear hb2
  have hb3 : b < W3.heap.size := P3.out.lt
  obtain ⟨q3, hq3⟩ : ∃ q3, ({ s2 with name := t2.text } : PState) = q3 := ⟨_, rfl⟩
  rw [hq3] at P3 HR
  clear hq3
  obtain ⟨F, hF⟩ : ∃ F, numberP q3 1 99 = F := ⟨_, rfl⟩
  refine (number_calls B b g NV SV q3 1 99 _ P3.out).mono ?_
  intro e w4 hpost
  rw [hF] at HR hpost
  cases F with
  | bad e0 a0 =>
    obtain ⟨rfl, hb⟩ := hpost
    rw [show R = .bad e0 a0 from HR.out.symm]
    exact ⟨rfl, rfl, below_bb B3.out hb⟩
  | ok v4 s4 =>
  obtain ⟨rfl, hp, hg⟩ := hpost
  have P4 := Lib.hid hp
  have B4 := Lib.hid (below_b B3.out hg HBb.out hb3)
  have hb4 : b < w4.heap.size := P4.out.lt
  have z4 := P4.out.c3.2
  have f4 := P4.out.fz 4
  simp only [PR.andThen] at HR
  clear hp hg hF P3 B3 hb3
  unfold intV
  go_wp2_with fail
  have P5 := Lib.hid (P4.out.setver v4)
  have B5 := Lib.hid (below_b B4.out (setCell_grown w4 ⟨b, 4, none⟩ (.int .i64 v4)) HBb.out hb4)
  clear z4 f4 P4 B4
  generalize w4.setCell ⟨b, 4, none⟩ (.int .i64 v4) = W5 at P5 B5
  clear hb4
  have hb5 : b < W5.heap.size := P5.out.lt
  obtain ⟨q5, hq5⟩ : ∃ q5, ({ s4 with ver := v4 } : PState) = q5 := ⟨_, rfl⟩
  rw [hq5] at P5 HR
  clear hq5
  obtain ⟨F, hF⟩ : ∃ F, mustP q5 4 [123] = F := ⟨_, rfl⟩
  refine (must_calls B b g NV SV q5 4 [123] _ P5.out).mono ?_
  intro e w6 hpost
  rw [hF] at HR hpost
  cases F with
  | bad e0 a0 =>
    obtain ⟨rfl, hb⟩ := hpost
    rw [show R = .bad e0 a0 from HR.out.symm]
    exact ⟨rfl, rfl, below_bb B5.out hb⟩
  | ok t6 s6 =>
  obtain ⟨rfl, hp, hg⟩ := hpost
  have P6 := Lib.hid hp
  have B6 := Lib.hid (below_b B5.out hg HBb.out hb5)
  simp only [PR.andThen] at HR
  have HR6 : Hid ((loopP (s6.toks.length + 1) s6).andThen (fun _ s => endP s) = R) := Lib.hid HR.out
  clear hp hg hF P5 B5 hb5 HR
  unfold tokV
  go_wp2_with fail
  go_loopg [] (s6.toks.length + 1) (fun g1 wx => ∃ (NV SV : Value) (si : PState), si.toks.length < g1 ∧ Hid ((loopP g1 si).andThen (fun _ s => endP s) = R) ∧ Hid (PAt wx B b g NV SV si) ∧ Hid (Below B w wx))
  case atStart => exact ⟨NV, SV, s6, Nat.lt_succ_self _, HR6, P6, B6⟩
  case round =>
    clear P6 B6 HR6
    obtain ⟨NV, SV, si, hlen, HRi, HP, HB⟩ := hrel
    obtain ⟨g1, rfl⟩ : ∃ g1, gk = g1 + 1 := ⟨gk - 1, by omega⟩
    have HLL := Lib.hid HP.out.len
    have hbr : b < wr.heap.size := HP.out.lt
    go_wp2_with fail
    refine (sees_calls B b g NV SV si 1 wOut _ HP.out).mono ?_
    rintro e w' ⟨rfl, rfl⟩
    obtain ⟨q, hq⟩ : ∃ q, seesP si 1 wOut = q := ⟨_, rfl⟩
    rw [hq]
    have hloop : loopP (g1 + 1) si = if q = true then .ok () si else (roundP si).andThen fun _ s1 => loopP g1 s1 := by rw [← hq]; rfl
    rw [hloop] at HRi
    cases q with
    | true =>
      have HSE := Lib.hid hq
      have hne := seesP_ne hq
      have HRe : Hid (endP si = R) := Lib.hid HRi.out
      clear hq HRi hlen hloop
      go_wp2_with fail
      refine (take_calls B b g NV SV si _ HP.out hne).mono ?_
      rintro e w1 ⟨rfl, hp, hg⟩
      have P1 := Lib.hid hp
      have B1 := Lib.hid (below_b HB.out hg HBb.out hbr)
      have hb1 : b < w1.heap.size := P1.out.lt
      clear hp hg HP HB hbr HSE hne HLL
      unfold endP at HRe
      unfold tokV
      generalize si.rest = s1 at P1 HRe
      go_wp2_with fail
      obtain ⟨F, hF⟩ : ∃ F, freeP s1 = F := ⟨_, rfl⟩
      refine (free_calls B b g NV SV s1 _ P1.out).mono ?_
      intro e w2 hpost
      rw [hF] at HRe hpost
      cases F with
      | bad e0 a0 =>
        obtain ⟨rfl, hb⟩ := hpost
        rw [show R = .bad e0 a0 from HRe.out.symm]
        exact ⟨rfl, rfl, below_bb B1.out hb⟩
      | ok y s2 =>
      obtain ⟨rfl, hp, hg⟩ := hpost
      obtain ⟨rfl, hyy, hne⟩ := freeP_ok hF
      have P2 := Lib.hid hp
      have B2 := Lib.hid (below_b B1.out hg HBb.out hb1)
      have hb2 : b < w2.heap.size := P2.out.lt
      simp only [PR.andThen] at HRe
      clear hp hg hF P1 B1 hb1 hyy
      unfold strV
      have o1 := P2.out.own1
      have hlen := P2.out.len
      obtain ⟨ns, hns⟩ : ∃ ns, s2.names = ns := ⟨_, rfl⟩
      rw [hns] at HRe o1 hlen
      obtain ⟨NA, nc, rfl⟩ := own_view o1
      have c2 := P2.out.c2
      rcases List.eq_nil_or_concat ns with rfl | ⟨init, last, rfl⟩
      · have hlen' := Lib.hid hlen
        rw [if_pos (by simp)] at HRe
        simp only [List.length_nil] at c2
        clear o1 hns hlen
        go_upto_region 17 with fail
        go_quiet (fail)
        go_wp2_with fail
        refine (fail_in B b g _ SV s2 7 _ (P2.out.drewN _)).mono ?_
        rintro e w' ⟨rfl, rfl⟩
        rw [show R = failP 7 s2 from HRe.out.symm]
        exact ⟨rfl, rfl, below_bb B2.out (below_pat P2.out (bdr (Below.refl _ _) _))⟩
      · rw [List.concat_eq_append] at *
        have hl1 : (init ++ [last]).length = init.length + 1 := by simp
        obtain ⟨gN, cN, hNA, _, hltN⟩ := o1.form (by omega)
        injection hNA with hA _ hc
        subst hA
        subst hc
        have hcl := o1.cells (g := gN) rfl init.length (.string (bs last)) (by unfold encN; simp)
        rw [Addr.add_mid, Nat.zero_add] at hcl
        have HO1 := Lib.hid o1
        have HLN := Lib.hid hlen
        have HNS := Lib.hid hns
        rw [hl1] at c2 hlen
        obtain ⟨m, hm⟩ : ∃ m, init.length = m := ⟨_, rfl⟩
        rw [hm] at c2 hcl hlen
        have HMm := Lib.hid hm
        have hsub : IntKind.i64.wrap ((m : Int) + 1 - 1) = (m : Int) := by rw [Int.add_sub_cancel, IntKind.wrap_i64]; omega
        have hm40 : m < 40 := by omega
        have hm0 : ((m : Int) + 1 == 0) = false := by simp; omega
        have hmi : (m : Int) < (m : Int) + 1 := by omega
        have hmi0 : (0 : Int) ≤ (m : Int) := by omega
        have HQ := Lib.hid (str_eq (bs last) y)
        clear o1 hns hlen hl1 hm
        have HRf : Hid ((if (!(y == last)) = true then failP 7 s2 else if makesP s2 m = false then failP 1 s2 else (mustP s2.rest 4 [59]).andThen fun _ s2 => (mustP s2 4 [125]).andThen fun _ s3 => if 0 < s3.toks.length then failP 5 s3 else .ok () s3) = R) := Lib.hid (by
          rw [← HRe.out]
          rw [last_test, show (init ++ [last]).length - 1 = m by rw [List.length_append, HMm.out]; rfl]
          rfl)
        clear HRe
        obtain ⟨q, hq⟩ : ∃ q, (y == last) = q := ⟨_, rfl⟩
        rw [hq] at HRf
        have hq2 : ((bs y).toList == (bs last).toList) = q := by
          rw [HQ.out, ← hq, bs_list, Bool.eq_iff_iff]
          simp
        have hq3 : ((bs y).toList != (bs last).toList) = !q := by unfold bne; rw [hq2]
        clear hq
        have hl40 : (s2.names.length : Nat) ≤ 40 ∧ s2.steps.length = s2.names.length := P2.out.len
        have HL2 := Lib.hid hl40
        clear hl40
        have hmake : ∀ n, Calls Tryd.prog 64 #[.pointer (some ⟨b, 0, none⟩), .int .i64 m] (w2.drewN n) fun e w' => e = .returned (.bool (makesP s2 m)) ∧ Below (w2.drewN n).heap.size (w2.drewN n) w' := fun n => makes_calls B b g _ SV s2 m _ (P2.out.drewN n) (by
          have h1 := HL2.out.2
          rw [HNS.out, List.length_append, HMm.out] at h1
          simp at h1
          omega)
        have HMK := Lib.hid hmake
        clear hmake
        cases q with
        | false =>
          go_upto_region 17 with fail
          go_quiet (fail)
          go_wp2_with fail
          refine (fail_in B b g _ SV s2 7 _ (P2.out.drewN _)).mono ?_
          rintro e w' ⟨rfl, rfl⟩
          rw [show R = failP 7 s2 from HRf.out.symm]
          exact ⟨rfl, rfl, below_bb B2.out (below_pat P2.out (bdr (Below.refl _ _) _))⟩
        | true =>
          go_upto_region 17 with fail
          go_quiet (fail)
          go_wp2_with fail
          refine (HMK.out _).mono ?_
          rintro e w3 ⟨rfl, hb⟩
          have P3 := Lib.hid ((P2.out.drewN _).below hb)
          have B3 := Lib.hid (below_bb B2.out (below_bb (below_pat P2.out (bdr (Below.refl _ _) _)) (below_pat (P2.out.drewN _) hb)))
          have hb3 : b < w3.heap.size := P3.out.lt
          obtain ⟨mk, hmk⟩ : ∃ mk, makesP s2 m = mk := ⟨_, rfl⟩
          rw [hmk]
          rw [if_neg (by simp), hmk] at HRf
          clear hb hmk HMK P2 B2 hb2 c2 hcl hq2 hq3
          cases mk with
          | false =>
            rw [if_pos rfl] at HRf
            go_wp2_with fail
            refine (fail_in B b g _ SV s2 1 _ P3.out).mono ?_
            rintro e w' ⟨rfl, rfl⟩
            rw [show R = failP 1 s2 from HRf.out.symm]
            exact ⟨rfl, rfl, B3.out⟩
          | true =>
            rw [if_neg (by simp)] at HRf
            go_wp2_with fail
            refine (take_calls B b g _ SV s2 _ P3.out hne).mono ?_
            rintro e w4 ⟨rfl, hp, hg⟩
            have P4 := Lib.hid hp
            have B4 := Lib.hid (below_b B3.out hg HBb.out hb3)
            have hb4 : b < w4.heap.size := P4.out.lt
            clear hp hg P3 B3 hb3 hne HL2 HNS
            generalize s2.rest = s4 at P4 HRf
            unfold tokV
            go_wp2_with fail
            obtain ⟨F, hF⟩ : ∃ F, mustP s4 4 [59] = F := ⟨_, rfl⟩
            refine (must_calls B b g _ SV s4 4 [59] _ P4.out).mono ?_
            intro e w5 hpost
            rw [hF] at HRf hpost
            cases F with
            | bad e0 a0 =>
              obtain ⟨rfl, hb⟩ := hpost
              rw [show R = .bad e0 a0 from HRf.out.symm]
              exact ⟨rfl, rfl, below_bb B4.out hb⟩
            | ok t5 s5 =>
            obtain ⟨rfl, hp, hg⟩ := hpost
            have P5 := Lib.hid hp
            have B5 := Lib.hid (below_b B4.out hg HBb.out hb4)
            have hb5 : b < w5.heap.size := P5.out.lt
            simp only [PR.andThen] at HRf
            clear hp hg hF P4 B4 hb4
            unfold tokV
            go_wp2_with fail
            obtain ⟨F, hF⟩ : ∃ F, mustP s5 4 [125] = F := ⟨_, rfl⟩
            refine (must_calls B b g _ SV s5 4 [125] _ P5.out).mono ?_
            intro e w6 hpost
            rw [hF] at HRf hpost
            cases F with
            | bad e0 a0 =>
              obtain ⟨rfl, hb⟩ := hpost
              rw [show R = .bad e0 a0 from HRf.out.symm]
              exact ⟨rfl, rfl, below_bb B5.out hb⟩
            | ok t6' s6' =>
            obtain ⟨rfl, hp, hg⟩ := hpost
            have P6 := Lib.hid hp
            have B6 := Lib.hid (below_b B5.out hg HBb.out hb5)
            simp only [PR.andThen] at HRf
            clear hp hg hF P5 B5 hb5
            unfold tokV
            obtain ⟨TA, tc, hc0⟩ := P6.out.c0
            obtain ⟨nn, hnn⟩ : ∃ nn, s6'.toks.length = nn := ⟨_, rfl⟩
            rw [hnn] at hc0 HRf
            clear hnn
            by_cases h0 : 0 < nn
            · rw [if_pos h0] at HRf
              have h0' : (0 : Int) < (nn : Int) := by omega
              clear h0
              go_wp2_with fail
              refine (fail_in B b g _ SV s6' 5 _ P6.out).mono ?_
              rintro e w' ⟨rfl, rfl⟩
              rw [show R = failP 5 s6' from HRf.out.symm]
              exact ⟨rfl, rfl, B6.out⟩
            · rw [if_neg h0] at HRf
              have h0' : ¬ (0 : Int) < (nn : Int) := by omega
              clear h0
              go_wp2_with fail
              refine bodyPost_end (results_none rfl _ _ _) rfl ?_
              rw [show R = .ok () s6' from HRf.out.symm]
              exact ⟨⟨_, rfl⟩, ⟨_, _, P6.out⟩, B6.out⟩
    | false =>
      have HRr : Hid (((roundP si).andThen fun _ s1 => loopP g1 s1).andThen (fun _ s => endP s) = R) := Lib.hid HRi.out
      clear hq HRi hloop
      unfold roundP at HRr
      go_wp2_with fail
      obtain ⟨F, hF⟩ : ∃ F, freeP si = F := ⟨_, rfl⟩
      refine (free_calls B b g NV SV si _ HP.out).mono ?_
      intro e w1 hpost
      rw [hF] at HRr hpost
      cases F with
      | bad e0 a0 =>
        obtain ⟨rfl, hb⟩ := hpost
        rw [show R = .bad e0 a0 from HRr.out.symm]
        exact ⟨rfl, rfl, below_bb HB.out hb⟩
      | ok own s1 =>
      obtain ⟨rfl, hp, hg⟩ := hpost
      obtain ⟨rfl, hxo, hne⟩ := freeP_ok hF
      clear hxo
      have P1 := Lib.hid hp
      have B1 := Lib.hid (below_b HB.out hg HBb.out hbr)
      have hb1 : b < w1.heap.size := P1.out.lt
      simp only [PR.andThen] at HRr
      clear hp hg hF HP HB hbr
      unfold strV
      obtain ⟨NA, nc, rfl⟩ := own_view P1.out.own1
      have c2 := P1.out.c2
      go_wp2_with fail
      refine (contains_own s1.names _ own P1.out.own1 (Below.refl _ _) (by have := HLL.out; omega)).mono ?_
      rintro e w2 ⟨rfl, rfl⟩
      obtain ⟨q, hq⟩ : ∃ q, s1.names.contains own = q := ⟨_, rfl⟩
      rw [hq]
      rw [hq] at HRr
      clear hq
      cases q with
      | true =>
        go_wp2_with fail
        refine (fail_in B b g _ SV s1 8 _ P1.out).mono ?_
        rintro e w' ⟨rfl, rfl⟩
        rw [show R = failP 8 s1 from HRr.out.symm]
        exact ⟨rfl, rfl, B1.out⟩
      | false =>
      rw [if_neg (by simp)] at HRr
      by_cases h40 : s1.names.length = 40
      · rw [if_pos h40] at HRr
        have h40b : ((s1.names.length : Int) == 40) = true := by simp; omega
        clear h40
        go_wp2_with fail
        refine (fail_in B b g _ SV s1 2 _ P1.out).mono ?_
        rintro e w' ⟨rfl, rfl⟩
        rw [show R = failP 2 s1 from HRr.out.symm]
        exact ⟨rfl, rfl, B1.out⟩
      rw [if_neg h40] at HRr
      have h40b : ((s1.names.length : Int) == 40) = false := by simp; omega
      have h40c : s1.names.length < 40 := by have := HLL.out; omega
      clear h40
      go_wp2_with fail
      refine (take_calls B b g _ SV s1 _ P1.out hne).mono ?_
      rintro e w3 ⟨rfl, hp, hg⟩
      have P3 := Lib.hid hp
      have B3 := Lib.hid (below_b B1.out hg HBb.out hb1)
      have hb3 : b < w3.heap.size := P3.out.lt
      have hrl : s1.rest.toks.length < s1.toks.length := by unfold PState.rest; cases ht : s1.toks with | nil => exact absurd ht hne | cons a r => simp
      clear hp hg P1 B1 hb1 c2 h40b
      unfold tokV
      go_wp2_with fail
      obtain ⟨F, hF⟩ : ∃ F, mustP s1.rest 4 [61] = F := ⟨_, rfl⟩
      refine (must_calls B b g _ SV s1.rest 4 [61] _ P3.out).mono ?_
      intro e w4 hpost
      rw [hF] at HRr hpost
      cases F with
      | bad e0 a0 =>
        obtain ⟨rfl, hb⟩ := hpost
        rw [show R = .bad e0 a0 from HRr.out.symm]
        exact ⟨rfl, rfl, below_bb B3.out hb⟩
      | ok t4 s4 =>
      obtain ⟨rfl, hp, hg⟩ := hpost
      have P4 := Lib.hid hp
      have B4 := Lib.hid (below_b B3.out hg HBb.out hb3)
      have hb4 : b < w4.heap.size := P4.out.lt
      have hw4 : Fewer s1.rest s4 := by rw [(mustP_ok hF).1]; exact (Fewer.refl _).rest
      have W4 := Lib.hid hw4
      simp only [PR.andThen] at HRr
      clear hp hg hF P3 B3 hb3 hw4
      unfold tokV
      go_wp2_with fail
      obtain ⟨F, hF⟩ : ∃ F, stepP s4 = F := ⟨_, rfl⟩
      refine (step_calls B b g _ SV s4 _ P4.out).mono ?_
      intro e w5 hpost
      rw [hF] at HRr hpost
      cases F with
      | bad e0 a0 =>
        obtain ⟨rfl, hb⟩ := hpost
        rw [show R = .bad e0 a0 from HRr.out.symm]
        exact ⟨rfl, rfl, below_bb B4.out hb⟩
      | ok x s5 =>
      obtain ⟨rfl, hp, hg⟩ := hpost
      have P5 := Lib.hid hp
      have B5 := Lib.hid (below_b B4.out hg HBb.out hb4)
      have W5 := Lib.hid (W4.out.trans (stepP_ok hF))
      simp only [PR.andThen] at HRr
      clear hp hg hF P4 B4 hb4 W4
      unfold fsV
      have K6 : Hid ((w5.alloc (.cells #[.int .i64 x.f0, .int .i64 x.f1, .int .i64 x.f2, .int .i64 x.f3] 32)).heap[w5.heap.size]? = some (.cells #[.int .i64 x.f0, .int .i64 x.f1, .int .i64 x.f2, .int .i64 x.f3] 32 (0, 0))) := Lib.hid (blk_new w5 _)
      have P6 := Lib.hid (P5.out.below (below_allocs _ (.cells #[.int .i64 x.f0, .int .i64 x.f1, .int .i64 x.f2, .int .i64 x.f3] 32)))
      have B6 := Lib.hid (below_bb B5.out (below_pat P5.out (below_allocs _ (.cells #[.int .i64 x.f0, .int .i64 x.f1, .int .i64 x.f2, .int .i64 x.f3] 32))))
      have hb5 : b < w5.heap.size := P5.out.lt
      have HD3 : Hid (some w5.heap.size ≠ SV.ownBlock) := Lib.hid (by
        intro e
        have := (P5.out.own2.lt _ e.symm).2
        omega)
      go_wp2_with fail
      clear P5 B5
      generalize w5.alloc (.cells #[.int .i64 x.f0, .int .i64 x.f1, .int .i64 x.f2, .int .i64 x.f3] 32) = W6 at K6 P6 B6
      generalize w5.heap.size = N3 at K6 hb5 HD3
      obtain ⟨F, hF⟩ : ∃ F, mustP s5 4 [59] = F := ⟨_, rfl⟩
      refine (must_calls B b g _ SV s5 4 [59] _ P6.out).mono ?_
      intro e w7 hpost
      rw [hF] at HRr hpost
      cases F with
      | bad e0 a0 =>
        obtain ⟨rfl, hb⟩ := hpost
        rw [show R = .bad e0 a0 from HRr.out.symm]
        exact ⟨rfl, rfl, below_bb B6.out hb⟩
      | ok t7 s7 =>
      obtain ⟨rfl, hp, hg⟩ := hpost
      have P7 := Lib.hid hp
      have B7 := Lib.hid (below_b B6.out hg HBb.out P6.out.lt)
      have K7 := Lib.hid (blk_grown K6.out hg (by intro e; injection e with e; omega))
      have W7 : Fewer s1.rest s7 := by rw [(mustP_ok hF).1]; exact W5.out.rest
      have hb7 : b < w7.heap.size := P7.out.lt
      simp only [PR.andThen] at HRr
      have hn7 : s7.names = s1.names := W7.2.1
      have hs7 : s7.steps.length = s1.names.length := by rw [P7.out.len.2, hn7]
      have HN7 := Lib.hid hn7
      have HS7 := Lib.hid hs7
      have hl7 : s7.toks.length < g1 := by have := W7.1; omega
      clear hp hg hF P6 B6 K6 W7 W5 hn7 hs7
      unfold tokV
      obtain ⟨SA, sc, rfl⟩ := own_view P7.out.own2
      go_upto_region 14 with fail
      obtain ⟨it1, hi1, hi2, hi3, hi4⟩ := info_parts infoFS
      obtain ⟨it2, hj1, hj2, hj3, hj4⟩ := info_parts infoS
      have HM : Hid (RowsAt w w7.drew B b g N3 (.slice NA s1.names.length nc) (.slice SA s7.steps.length sc) (.slice SA s7.steps.length sc) (.slice NA s1.names.length nc) s7 s7.steps s7.names x) := Lib.hid (rows_start P7.out B7.out K7.out HD3.out).drew
      clear P7 B7 K7 HD3
      refine start_ (n := 24) (S := fun w' => w'.cell? ⟨b, 5, none⟩ = some (.slice SA s7.steps.length sc) ∧ w'.cell? ⟨b, 2, none⟩ = some (.slice NA s1.names.length nc) ∧ w'.cell? ⟨N3, 0, none⟩ = some (.int .i64 x.f0) ∧ w'.cell? ⟨N3, 1, none⟩ = some (.int .i64 x.f1) ∧ w'.cell? ⟨N3, 2, none⟩ = some (.int .i64 x.f2) ∧ w'.cell? ⟨N3, 3, none⟩ = some (.int .i64 x.f3)) (ds := [20, 23]) #[false, false, false, false, false, false, false, false, false, false, false, false, false, false, false, false, false, false, false, false, false, false, false, false] (by kernel_rfl) rfl rfl HM.out.held (fun hHeld => ?_); refine with_tabW flow_tab14 flow_bits14 (fun HT_ HW_ => ?_)
      generalize w7.drew = w8 at HM hHeld ⊢
      refine pure_ (i := 0) (N := some 51) (v := ?_) (a' := ?_) #[true, false, false, false, false, false, false, false, false, false, false, false, false, false, false, false, false, false, false, false, false, false, false, false] rfl rfl (any_of HT_.out (by kernel_rfl)) (fun _ _ _ h => h) (Or.inl ⟨by rfl, ?_⟩) ?_ ?_
      rotate_left
      · intro w'
        go_simp
        with_reducible rfl
      rotate_left
      · simp only [Act.put, List.setIfInBounds_toArray, List.set_cons_zero, List.set_cons_succ, i64_w, i32_w]
        rfl
      refine pure_ (i := 1) (N := some 52) (v := ?_) (a' := ?_) #[true, true, false, false, false, false, false, false, false, false, false, false, false, false, false, false, false, false, false, false, false, false, false, false] rfl rfl (any_of HT_.out (by kernel_rfl)) (fun _ _ _ h => h) (Or.inl ⟨by rfl, ?_⟩) ?_ ?_
      rotate_left
      · intro w'
        go_simp
        with_reducible rfl
      rotate_left
      · simp only [Act.put, List.setIfInBounds_toArray, List.set_cons_zero, List.set_cons_succ, i64_w, i32_w]
        rfl
      refine pure_ (i := 2) (N := some 53) (v := ?_) (a' := ?_) #[true, true, true, false, false, false, false, false, false, false, false, false, false, false, false, false, false, false, false, false, false, false, false, false] rfl rfl (any_of HT_.out (by kernel_rfl)) (fun _ _ _ h => h) (Or.inl ⟨by rfl, ?_⟩) ?_ ?_
      rotate_left
      · intro w'
        go_simp
        with_reducible rfl
      rotate_left
      · simp only [Act.put, List.setIfInBounds_toArray, List.set_cons_zero, List.set_cons_succ, i64_w, i32_w]
        rfl
      refine pure_ (i := 3) (N := some 54) (v := ?_) (a' := ?_) #[true, true, true, true, false, false, false, false, false, false, false, false, false, false, false, false, false, false, false, false, false, false, false, false] rfl rfl (any_of HT_.out (by kernel_rfl)) (fun _ _ _ h => h) (Or.inl ⟨by rfl, ?_⟩) ?_ ?_
      rotate_left
      · intro w'
        go_simp
        with_reducible rfl
      rotate_left
      · simp only [Act.put, List.setIfInBounds_toArray, List.set_cons_zero, List.set_cons_succ, i64_w, i32_w]
        rfl
      refine pure_ (i := 4) (N := some 55) (v := ?_) (a' := ?_) #[true, true, true, true, true, false, false, false, false, false, false, false, false, false, false, false, false, false, false, false, false, false, false, false] rfl rfl (any_of HT_.out (by kernel_rfl)) (fun _ _ _ h => h) (Or.inl ⟨by rfl, ?_⟩) ?_ ?_
      rotate_left
      · intro w'
        go_simp
        with_reducible rfl
      rotate_left
      · simp only [Act.put, List.setIfInBounds_toArray, List.set_cons_zero, List.set_cons_succ, i64_w, i32_w]
        rfl
      refine pure_ (i := 5) (N := some 56) (v := ?_) (a' := ?_) #[true, true, true, true, true, true, false, false, false, false, false, false, false, false, false, false, false, false, false, false, false, false, false, false] rfl rfl (any_of HT_.out (by kernel_rfl)) (fun _ _ _ h => h) (Or.inl ⟨by rfl, ?_⟩) ?_ ?_
      rotate_left
      · intro w'
        go_simp
        with_reducible rfl
      rotate_left
      · simp only [Act.put, List.setIfInBounds_toArray, List.set_cons_zero, List.set_cons_succ, i64_w, i32_w]
        rfl
      refine take_ (i := 6) (N := some 57) (v := ?_) (a' := ?_) #[true, true, true, true, true, true, true, false, false, false, false, false, false, false, false, false, false, false, false, false, false, false, false, false] rfl rfl (take_ofW HT_.out HW_.out (by kernel_rfl)) (fun _ _ _ h => h) (Or.inl ⟨by rfl, ?_⟩) hHeld ?_ ?_
      rotate_left
      · rintro w' ⟨h0, h1, h2, h3, h4, h5⟩
        go_simp
        with_reducible rfl
      rotate_left
      · simp only [Act.put, List.setIfInBounds_toArray, List.set_cons_zero, List.set_cons_succ, i64_w, i32_w]
        rfl
      refine take_ (i := 7) (N := some 58) (v := ?_) (a' := ?_) #[true, true, true, true, true, true, true, true, false, false, false, false, false, false, false, false, false, false, false, false, false, false, false, false] rfl rfl (take_ofW HT_.out HW_.out (by kernel_rfl)) (fun _ _ _ h => h) (Or.inl ⟨by rfl, ?_⟩) hHeld ?_ ?_
      rotate_left
      · rintro w' ⟨h0, h1, h2, h3, h4, h5⟩
        go_simp
        with_reducible rfl
      rotate_left
      · simp only [Act.put, List.setIfInBounds_toArray, List.set_cons_zero, List.set_cons_succ, i64_w, i32_w]
        rfl
      refine pure_ (i := 10) (N := some 61) (v := ?_) (a' := ?_) #[true, true, true, true, true, true, true, true, false, false, true, false, false, false, false, false, false, false, false, false, false, false, false, false] rfl rfl (any_of HT_.out (by kernel_rfl)) (fun _ _ _ h => h) (Or.inl ⟨by rfl, ?_⟩) ?_ ?_
      rotate_left
      · intro w'
        go_simp
        with_reducible rfl
      rotate_left
      · simp only [Act.put, List.setIfInBounds_toArray, List.set_cons_zero, List.set_cons_succ, i64_w, i32_w]
        rfl
      refine pure_ (i := 11) (N := some 62) (v := ?_) (a' := ?_) #[true, true, true, true, true, true, true, true, false, false, true, true, false, false, false, false, false, false, false, false, false, false, false, false] rfl rfl (any_of HT_.out (by kernel_rfl)) (fun _ _ _ h => h) (Or.inl ⟨by rfl, ?_⟩) ?_ ?_
      rotate_left
      · intro w'
        go_simp
        with_reducible rfl
      rotate_left
      · simp only [Act.put, List.setIfInBounds_toArray, List.set_cons_zero, List.set_cons_succ, i64_w, i32_w]
        rfl
      refine pure_ (i := 12) (N := some 63) (v := ?_) (a' := ?_) #[true, true, true, true, true, true, true, true, false, false, true, true, true, false, false, false, false, false, false, false, false, false, false, false] rfl rfl (any_of HT_.out (by kernel_rfl)) (fun _ _ _ h => h) (Or.inl ⟨by rfl, ?_⟩) ?_ ?_
      rotate_left
      · intro w'
        go_simp
        with_reducible rfl
      rotate_left
      · simp only [Act.put, List.setIfInBounds_toArray, List.set_cons_zero, List.set_cons_succ, i64_w, i32_w]
        rfl
      refine take_ (i := 13) (N := some 64) (v := ?_) (a' := ?_) #[true, true, true, true, true, true, true, true, false, false, true, true, true, true, false, false, false, false, false, false, false, false, false, false] rfl rfl (take_ofW HT_.out HW_.out (by kernel_rfl)) (fun _ _ _ h => h) (Or.inl ⟨by rfl, ?_⟩) hHeld ?_ ?_
      rotate_left
      · rintro w' ⟨h0, h1, h2, h3, h4, h5⟩
        go_simp
        with_reducible rfl
      rotate_left
      · simp only [Act.put, List.setIfInBounds_toArray, List.set_cons_zero, List.set_cons_succ, i64_w, i32_w]
        rfl
      refine pure_ (i := 14) (N := some 65) (v := ?_) (a' := ?_) #[true, true, true, true, true, true, true, true, false, false, true, true, true, true, true, false, false, false, false, false, false, false, false, false] rfl rfl (any_of HT_.out (by kernel_rfl)) (fun _ _ _ h => h) (Or.inl ⟨by rfl, ?_⟩) ?_ ?_
      rotate_left
      · intro w'
        go_simp
        with_reducible rfl
      rotate_left
      · simp only [Act.put, List.setIfInBounds_toArray, List.set_cons_zero, List.set_cons_succ, i64_w, i32_w]
        rfl
      refine two_ (i := 8) (j := 15) (Ni := some 59) (Nj := some 66) #[true, true, true, true, true, true, true, true, true, false, true, true, true, true, true, false, false, false, false, false, false, false, false, false] #[true, true, true, true, true, true, true, true, false, false, true, true, true, true, true, true, false, false, false, false, false, false, false, false] rfl rfl rfl rfl (two_of HT_.out (by kernel_rfl)) (by decide) (by decide) (fun K hK => ?_) (fun K hK => ?_)
      · go_simp
        refine hK.out _ _ (HM.out.alloc (.cells #[.int .i64 x.f0, .int .i64 x.f1, .int .i64 x.f2, .int .i64 x.f3] 32)).held (fun hHeld => ?_)
        clear hK K
        have HMn := Lib.hid (HM.out.alloc (.cells #[.int .i64 x.f0, .int .i64 x.f1, .int .i64 x.f2, .int .i64 x.f3] 32))
        have HK1 := Lib.hid (blk_new w8 (.cells #[.int .i64 x.f0, .int .i64 x.f1, .int .i64 x.f2, .int .i64 x.f3] 32))
        clear HM
        have HM := HMn
        clear HMn
        generalize w8.alloc (.cells #[.int .i64 x.f0, .int .i64 x.f1, .int .i64 x.f2, .int .i64 x.f3] 32) = w9 at HM HK1 hHeld ⊢
        generalize w8.heap.size = k1 at HK1 ⊢
        refine two_ (i := 9) (j := 15) (Ni := some 60) (Nj := some 66) #[true, true, true, true, true, true, true, true, true, true, true, true, true, true, true, false, false, false, false, false, false, false, false, false] #[true, true, true, true, true, true, true, true, true, false, true, true, true, true, true, true, false, false, false, false, false, false, false, false] rfl rfl rfl rfl (two_of HT_.out (by kernel_rfl)) (by decide) (by decide) (fun K hK => ?_) (fun K hK => ?_)
        · refine step_append_lies _ rfl _ _ 22 rfl B 32 it1 (.agg #[.int .i64 0, .int .i64 0, .int .i64 0, .int .i64 0]) 4 32 Tryd.underlying22 hi1 hi2 hi3 hi4 rfl (by decide) _ _ _ rfl HM.out.o1 ⟨k1, 0, none⟩ 1 1 [.int .i64 x.f0, .int .i64 x.f1, .int .i64 x.f2, .int .i64 x.f3] rfl rfl (World.news_of_block HK1.out) (by intro u hu; simp at hu; rcases hu with rfl | rfl | rfl | rfl <;> rfl) (by decide) (by have := HS7.out; unfold maxLen; omega) (by have := HS7.out; omega) (Nat.le_trans HM.out.bb (Nat.le_of_lt HM.out.lt)) _ rfl ?_
          intro gg cap wa hown hgrow hat hlt
          have hd3 : some N3 ≠ (Value.slice (some ⟨gg, 0, none⟩) (s7.steps.length + 1) cap).ownBlock := by
            rcases hat with hat | hat
            · intro e
              exact HM.out.d3 (Eq.trans e hat.symm)
            · have h3 := blk_lt HM.out.n3
              intro e
              injection e with e
              have e2 : N3 = gg := e
              omega
          have HMn := Lib.hid (HM.out.app1 hgrow (ys := s7.steps ++ [x]) (by rw [encFS_push, List.length_append]; exact hown) hd3)
          refine hK.out _ _ HMn.out.held (fun hHeld => ?_)
          clear hK K HM HK1
          have HM := HMn
          clear HMn hown hgrow hat hlt hd3
          refine norm_ (a' := ?_) ?_ ?_
          rotate_left
          · show Act.put _ (some 60) _ = _
            simp only [Act.put, List.setIfInBounds_toArray, List.set_cons_zero, List.set_cons_succ, i64_w, i32_w]
            rfl
          refine one_ (i := 15) (N := some 66) #[true, true, true, true, true, true, true, true, true, true, true, true, true, true, true, true, false, false, false, false, false, false, false, false] rfl rfl (one_of HT_.out (by kernel_rfl)) (by decide) (fun K hK => ?_)
          go_simp
          refine hK.out _ _ (HM.out.alloc (.cells #[.string (bs own)] 9)).held (fun hHeld => ?_)
          clear hK K
          have HMn := Lib.hid (HM.out.alloc (.cells #[.string (bs own)] 9))
          have HK2 := Lib.hid (blk_new wa (.cells #[.string (bs own)] 9))
          clear HM
          have HM := HMn
          clear HMn
          generalize wa.alloc (.cells #[.string (bs own)] 9) = w10 at HM HK2 hHeld ⊢
          generalize wa.heap.size = k2 at HK2 ⊢
          refine one_ (i := 16) (N := some 67) #[true, true, true, true, true, true, true, true, true, true, true, true, true, true, true, true, true, false, false, false, false, false, false, false] rfl rfl (one_of HT_.out (by kernel_rfl)) (by decide) (fun K hK => ?_)
          refine step_append_lies _ rfl _ _ 90 rfl B 9 it2 (.string ⟨#[]⟩) 1 16 Tryd.underlying90 hj1 hj2 hj3 hj4 rfl (by decide) _ _ _ rfl HM.out.o2 ⟨k2, 0, none⟩ 1 1 [.string (bs own)] rfl rfl (World.news_of_block HK2.out) (by intro u hu; simp at hu; subst hu; rfl) (by decide) (by have := HN7.out; rw [this]; unfold maxLen; omega) (by have := HN7.out; rw [this]; omega) (Nat.le_trans HM.out.bb (Nat.le_of_lt HM.out.lt)) _ rfl ?_
          intro gh cap2 wb hown hgrow hat hlt
          have HMn := Lib.hid (HM.out.app2 hgrow (ms := s7.names ++ [own]) (by rw [encN_push, List.length_append]; exact hown))
          refine hK.out _ _ HMn.out.held (fun hHeld => ?_)
          clear hK K HM HK2
          have HM := HMn
          clear HMn hown hgrow hat hlt
          refine norm_ (a' := ?_) ?_ ?_
          rotate_left
          · show Act.put _ (some 67) _ = _
            simp only [Act.put, List.setIfInBounds_toArray, List.set_cons_zero, List.set_cons_succ, i64_w, i32_w]
            rfl
          have f5 := HM.out.fz 5
          have f2 := HM.out.fz 2
          obtain ⟨hc5, hc2, _, _, _, _⟩ := hHeld
          refine pure_ (i := 17) (N := some 68) (v := ?_) (a' := ?_) #[true, true, true, true, true, true, true, true, true, true, true, true, true, true, true, true, true, true, false, false, false, false, false, false] rfl rfl (any_of HT_.out (by kernel_rfl)) (fun _ _ _ h => h) (Or.inl ⟨by rfl, ?_⟩) ?_ ?_
          rotate_left
          · intro w'
            go_simp
            with_reducible rfl
          rotate_left
          · simp only [Act.put, List.setIfInBounds_toArray, List.set_cons_zero, List.set_cons_succ, i64_w, i32_w]
            rfl
          refine pure_ (i := 18) (N := some 69) (v := ?_) (a' := ?_) #[true, true, true, true, true, true, true, true, true, true, true, true, true, true, true, true, true, true, true, false, false, false, false, false] rfl rfl (any_of HT_.out (by kernel_rfl)) (fun _ _ _ h => h) (Or.inl ⟨by rfl, ?_⟩) ?_ ?_
          rotate_left
          · intro w'
            go_simp
            with_reducible rfl
          rotate_left
          · simp only [Act.put, List.setIfInBounds_toArray, List.set_cons_zero, List.set_cons_succ, i64_w, i32_w]
            rfl
          refine pure_ (i := 19) (N := some 70) (v := ?_) (a' := ?_) #[true, true, true, true, true, true, true, true, true, true, true, true, true, true, true, true, true, true, true, true, false, false, false, false] rfl rfl (any_of HT_.out (by kernel_rfl)) (fun _ _ _ h => h) (Or.inl ⟨by rfl, ?_⟩) ?_ ?_
          rotate_left
          · intro w'
            go_simp
            with_reducible rfl
          rotate_left
          · simp only [Act.put, List.setIfInBounds_toArray, List.set_cons_zero, List.set_cons_succ, i64_w, i32_w]
            rfl
          refine last_ (i := 20) (N := none) #[true, true, true, true, true, true, true, true, true, true, true, true, true, true, true, true, true, true, true, true, true, false, false, false] rfl rfl (one_of HT_.out (by kernel_rfl)) (by decide) (fun K hK => ?_)
          go_simp
          refine hK.out _ _ ?_
          clear hK K
          refine pure_ (i := 21) (N := some 71) (v := ?_) (a' := ?_) #[true, true, true, true, true, true, true, true, true, true, true, true, true, true, true, true, true, true, true, true, true, true, false, false] rfl rfl (any_of HT_.out (by kernel_rfl)) (fun _ _ _ h => h) (Or.inl ⟨by rfl, ?_⟩) ?_ ?_
          rotate_left
          · intro w'
            go_simp
            with_reducible rfl
          rotate_left
          · simp only [Act.put, List.setIfInBounds_toArray, List.set_cons_zero, List.set_cons_succ, i64_w, i32_w]
            rfl
          refine pure_ (i := 22) (N := some 72) (v := ?_) (a' := ?_) #[true, true, true, true, true, true, true, true, true, true, true, true, true, true, true, true, true, true, true, true, true, true, true, false] rfl rfl (any_of HT_.out (by kernel_rfl)) (fun _ _ _ h => h) (Or.inl ⟨by rfl, ?_⟩) ?_ ?_
          rotate_left
          · intro w'
            go_simp
            with_reducible rfl
          rotate_left
          · simp only [Act.put, List.setIfInBounds_toArray, List.set_cons_zero, List.set_cons_succ, i64_w, i32_w]
            rfl
          refine last_ (i := 23) (N := none) #[true, true, true, true, true, true, true, true, true, true, true, true, true, true, true, true, true, true, true, true, true, true, true, true] rfl rfl (one_of HT_.out (by kernel_rfl)) (by decide) (fun K hK => ?_)
          go_simp
          refine hK.out _ _ ?_
          clear hK K
          refine done_ (done_of HT_.out (by kernel_rfl)) ?_
          have HD := Lib.hid (HM.out.done (by have h1 := HS7.out; have h2 := HN7.out; simp only [List.length_append, List.length_cons, List.length_nil]; rw [h2]; omega) (by have h2 := HN7.out; simp only [List.length_append, List.length_cons, List.length_nil]; rw [h2]; omega))
          go_wp2_with fail
          go_roundg g1
          case measure => omega
          case rel => exact ⟨_, _, s7.push own x, by unfold PState.push; exact hl7, Lib.hid HRr.out, Lib.hid HD.out.1, Lib.hid HD.out.2⟩
        · go_simp
          refine hK.out _ _ (HM.out.alloc (.cells #[.string (bs own)] 9)).held (fun hHeld => ?_)
          clear hK K
          have HMn := Lib.hid (HM.out.alloc (.cells #[.string (bs own)] 9))
          have HK2 := Lib.hid (blk_new w9 (.cells #[.string (bs own)] 9))
          have HK1n := Lib.hid (blk_alloc HK1.out (.cells #[.string (bs own)] 9))
          clear HK1
          have HK1 := HK1n
          clear HK1n
          clear HM
          have HM := HMn
          clear HMn
          generalize w9.alloc (.cells #[.string (bs own)] 9) = w10 at HM HK2 hHeld HK1 ⊢
          generalize w9.heap.size = k2 at HK2 ⊢
          refine one_ (i := 9) (N := some 60) #[true, true, true, true, true, true, true, true, true, true, true, true, true, true, true, true, false, false, false, false, false, false, false, false] rfl rfl (one_of HT_.out (by kernel_rfl)) (by decide) (fun K hK => ?_)
          refine step_append_lies _ rfl _ _ 22 rfl B 32 it1 (.agg #[.int .i64 0, .int .i64 0, .int .i64 0, .int .i64 0]) 4 32 Tryd.underlying22 hi1 hi2 hi3 hi4 rfl (by decide) _ _ _ rfl HM.out.o1 ⟨k1, 0, none⟩ 1 1 [.int .i64 x.f0, .int .i64 x.f1, .int .i64 x.f2, .int .i64 x.f3] rfl rfl (World.news_of_block HK1.out) (by intro u hu; simp at hu; rcases hu with rfl | rfl | rfl | rfl <;> rfl) (by decide) (by have := HS7.out; unfold maxLen; omega) (by have := HS7.out; omega) (Nat.le_trans HM.out.bb (Nat.le_of_lt HM.out.lt)) _ rfl ?_
          intro gg cap wa hown hgrow hat hlt
          have hd3 : some N3 ≠ (Value.slice (some ⟨gg, 0, none⟩) (s7.steps.length + 1) cap).ownBlock := by
            rcases hat with hat | hat
            · intro e
              exact HM.out.d3 (Eq.trans e hat.symm)
            · have h3 := blk_lt HM.out.n3
              intro e
              injection e with e
              have e2 : N3 = gg := e
              omega
          have HMn := Lib.hid (HM.out.app1 hgrow (ys := s7.steps ++ [x]) (by rw [encFS_push, List.length_append]; exact hown) hd3)
          have HK2n := Lib.hid ((hgrow.block k2 (blk_lt HK2.out) (own_ne HM.out.o1 HK2.out (by decide))).trans HK2.out)
          clear HK2
          have HK2 := HK2n
          clear HK2n
          refine hK.out _ _ HMn.out.held (fun hHeld => ?_)
          clear hK K HM HK1
          have HM := HMn
          clear HMn hown hgrow hat hlt hd3
          refine norm_ (a' := ?_) ?_ ?_
          rotate_left
          · show Act.put _ (some 60) _ = _
            simp only [Act.put, List.setIfInBounds_toArray, List.set_cons_zero, List.set_cons_succ, i64_w, i32_w]
            rfl
          refine one_ (i := 16) (N := some 67) #[true, true, true, true, true, true, true, true, true, true, true, true, true, true, true, true, true, false, false, false, false, false, false, false] rfl rfl (one_of HT_.out (by kernel_rfl)) (by decide) (fun K hK => ?_)
          refine step_append_lies _ rfl _ _ 90 rfl B 9 it2 (.string ⟨#[]⟩) 1 16 Tryd.underlying90 hj1 hj2 hj3 hj4 rfl (by decide) _ _ _ rfl HM.out.o2 ⟨k2, 0, none⟩ 1 1 [.string (bs own)] rfl rfl (World.news_of_block HK2.out) (by intro u hu; simp at hu; subst hu; rfl) (by decide) (by have := HN7.out; rw [this]; unfold maxLen; omega) (by have := HN7.out; rw [this]; omega) (Nat.le_trans HM.out.bb (Nat.le_of_lt HM.out.lt)) _ rfl ?_
          intro gh cap2 wb hown hgrow hat hlt
          have HMn := Lib.hid (HM.out.app2 hgrow (ms := s7.names ++ [own]) (by rw [encN_push, List.length_append]; exact hown))
          refine hK.out _ _ HMn.out.held (fun hHeld => ?_)
          clear hK K HM HK2
          have HM := HMn
          clear HMn hown hgrow hat hlt
          refine norm_ (a' := ?_) ?_ ?_
          rotate_left
          · show Act.put _ (some 67) _ = _
            simp only [Act.put, List.setIfInBounds_toArray, List.set_cons_zero, List.set_cons_succ, i64_w, i32_w]
            rfl
          have f5 := HM.out.fz 5
          have f2 := HM.out.fz 2
          obtain ⟨hc5, hc2, _, _, _, _⟩ := hHeld
          refine pure_ (i := 17) (N := some 68) (v := ?_) (a' := ?_) #[true, true, true, true, true, true, true, true, true, true, true, true, true, true, true, true, true, true, false, false, false, false, false, false] rfl rfl (any_of HT_.out (by kernel_rfl)) (fun _ _ _ h => h) (Or.inl ⟨by rfl, ?_⟩) ?_ ?_
          rotate_left
          · intro w'
            go_simp
            with_reducible rfl
          rotate_left
          · simp only [Act.put, List.setIfInBounds_toArray, List.set_cons_zero, List.set_cons_succ, i64_w, i32_w]
            rfl
          refine pure_ (i := 18) (N := some 69) (v := ?_) (a' := ?_) #[true, true, true, true, true, true, true, true, true, true, true, true, true, true, true, true, true, true, true, false, false, false, false, false] rfl rfl (any_of HT_.out (by kernel_rfl)) (fun _ _ _ h => h) (Or.inl ⟨by rfl, ?_⟩) ?_ ?_
          rotate_left
          · intro w'
            go_simp
            with_reducible rfl
          rotate_left
          · simp only [Act.put, List.setIfInBounds_toArray, List.set_cons_zero, List.set_cons_succ, i64_w, i32_w]
            rfl
          refine pure_ (i := 19) (N := some 70) (v := ?_) (a' := ?_) #[true, true, true, true, true, true, true, true, true, true, true, true, true, true, true, true, true, true, true, true, false, false, false, false] rfl rfl (any_of HT_.out (by kernel_rfl)) (fun _ _ _ h => h) (Or.inl ⟨by rfl, ?_⟩) ?_ ?_
          rotate_left
          · intro w'
            go_simp
            with_reducible rfl
          rotate_left
          · simp only [Act.put, List.setIfInBounds_toArray, List.set_cons_zero, List.set_cons_succ, i64_w, i32_w]
            rfl
          refine last_ (i := 20) (N := none) #[true, true, true, true, true, true, true, true, true, true, true, true, true, true, true, true, true, true, true, true, true, false, false, false] rfl rfl (one_of HT_.out (by kernel_rfl)) (by decide) (fun K hK => ?_)
          go_simp
          refine hK.out _ _ ?_
          clear hK K
          refine pure_ (i := 21) (N := some 71) (v := ?_) (a' := ?_) #[true, true, true, true, true, true, true, true, true, true, true, true, true, true, true, true, true, true, true, true, true, true, false, false] rfl rfl (any_of HT_.out (by kernel_rfl)) (fun _ _ _ h => h) (Or.inl ⟨by rfl, ?_⟩) ?_ ?_
          rotate_left
          · intro w'
            go_simp
            with_reducible rfl
          rotate_left
          · simp only [Act.put, List.setIfInBounds_toArray, List.set_cons_zero, List.set_cons_succ, i64_w, i32_w]
            rfl
          refine pure_ (i := 22) (N := some 72) (v := ?_) (a' := ?_) #[true, true, true, true, true, true, true, true, true, true, true, true, true, true, true, true, true, true, true, true, true, true, true, false] rfl rfl (any_of HT_.out (by kernel_rfl)) (fun _ _ _ h => h) (Or.inl ⟨by rfl, ?_⟩) ?_ ?_
          rotate_left
          · intro w'
            go_simp
            with_reducible rfl
          rotate_left
          · simp only [Act.put, List.setIfInBounds_toArray, List.set_cons_zero, List.set_cons_succ, i64_w, i32_w]
            rfl
          refine last_ (i := 23) (N := none) #[true, true, true, true, true, true, true, true, true, true, true, true, true, true, true, true, true, true, true, true, true, true, true, true] rfl rfl (one_of HT_.out (by kernel_rfl)) (by decide) (fun K hK => ?_)
          go_simp
          refine hK.out _ _ ?_
          clear hK K
          refine done_ (done_of HT_.out (by kernel_rfl)) ?_
          have HD := Lib.hid (HM.out.done (by have h1 := HS7.out; have h2 := HN7.out; simp only [List.length_append, List.length_cons, List.length_nil]; rw [h2]; omega) (by have h2 := HN7.out; simp only [List.length_append, List.length_cons, List.length_nil]; rw [h2]; omega))
          go_wp2_with fail
          go_roundg g1
          case measure => omega
          case rel => exact ⟨_, _, s7.push own x, by unfold PState.push; exact hl7, Lib.hid HRr.out, Lib.hid HD.out.1, Lib.hid HD.out.2⟩
      · go_simp
        refine hK.out _ _ (HM.out.alloc (.cells #[.string (bs own)] 9)).held (fun hHeld => ?_)
        clear hK K
        have HMn := Lib.hid (HM.out.alloc (.cells #[.string (bs own)] 9))
        have HK2 := Lib.hid (blk_new w8 (.cells #[.string (bs own)] 9))
        clear HM
        have HM := HMn
        clear HMn
        generalize w8.alloc (.cells #[.string (bs own)] 9) = w9 at HM HK2 hHeld ⊢
        generalize w8.heap.size = k2 at HK2 ⊢
        refine one_ (i := 8) (N := some 59) #[true, true, true, true, true, true, true, true, true, false, true, true, true, true, true, true, false, false, false, false, false, false, false, false] rfl rfl (one_of HT_.out (by kernel_rfl)) (by decide) (fun K hK => ?_)
        go_simp
        refine hK.out _ _ (HM.out.alloc (.cells #[.int .i64 x.f0, .int .i64 x.f1, .int .i64 x.f2, .int .i64 x.f3] 32)).held (fun hHeld => ?_)
        clear hK K
        have HMn := Lib.hid (HM.out.alloc (.cells #[.int .i64 x.f0, .int .i64 x.f1, .int .i64 x.f2, .int .i64 x.f3] 32))
        have HK1 := Lib.hid (blk_new w9 (.cells #[.int .i64 x.f0, .int .i64 x.f1, .int .i64 x.f2, .int .i64 x.f3] 32))
        have HK2n := Lib.hid (blk_alloc HK2.out (.cells #[.int .i64 x.f0, .int .i64 x.f1, .int .i64 x.f2, .int .i64 x.f3] 32))
        clear HK2
        have HK2 := HK2n
        clear HK2n
        clear HM
        have HM := HMn
        clear HMn
        generalize w9.alloc (.cells #[.int .i64 x.f0, .int .i64 x.f1, .int .i64 x.f2, .int .i64 x.f3] 32) = w10 at HM HK1 hHeld HK2 ⊢
        generalize w9.heap.size = k1 at HK1 ⊢
        refine one_ (i := 9) (N := some 60) #[true, true, true, true, true, true, true, true, true, true, true, true, true, true, true, true, false, false, false, false, false, false, false, false] rfl rfl (one_of HT_.out (by kernel_rfl)) (by decide) (fun K hK => ?_)
        refine step_append_lies _ rfl _ _ 22 rfl B 32 it1 (.agg #[.int .i64 0, .int .i64 0, .int .i64 0, .int .i64 0]) 4 32 Tryd.underlying22 hi1 hi2 hi3 hi4 rfl (by decide) _ _ _ rfl HM.out.o1 ⟨k1, 0, none⟩ 1 1 [.int .i64 x.f0, .int .i64 x.f1, .int .i64 x.f2, .int .i64 x.f3] rfl rfl (World.news_of_block HK1.out) (by intro u hu; simp at hu; rcases hu with rfl | rfl | rfl | rfl <;> rfl) (by decide) (by have := HS7.out; unfold maxLen; omega) (by have := HS7.out; omega) (Nat.le_trans HM.out.bb (Nat.le_of_lt HM.out.lt)) _ rfl ?_
        intro gg cap wa hown hgrow hat hlt
        have hd3 : some N3 ≠ (Value.slice (some ⟨gg, 0, none⟩) (s7.steps.length + 1) cap).ownBlock := by
          rcases hat with hat | hat
          · intro e
            exact HM.out.d3 (Eq.trans e hat.symm)
          · have h3 := blk_lt HM.out.n3
            intro e
            injection e with e
            have e2 : N3 = gg := e
            omega
        have HMn := Lib.hid (HM.out.app1 hgrow (ys := s7.steps ++ [x]) (by rw [encFS_push, List.length_append]; exact hown) hd3)
        have HK2n := Lib.hid ((hgrow.block k2 (blk_lt HK2.out) (own_ne HM.out.o1 HK2.out (by decide))).trans HK2.out)
        clear HK2
        have HK2 := HK2n
        clear HK2n
        refine hK.out _ _ HMn.out.held (fun hHeld => ?_)
        clear hK K HM HK1
        have HM := HMn
        clear HMn hown hgrow hat hlt hd3
        refine norm_ (a' := ?_) ?_ ?_
        rotate_left
        · show Act.put _ (some 60) _ = _
          simp only [Act.put, List.setIfInBounds_toArray, List.set_cons_zero, List.set_cons_succ, i64_w, i32_w]
          rfl
        refine one_ (i := 16) (N := some 67) #[true, true, true, true, true, true, true, true, true, true, true, true, true, true, true, true, true, false, false, false, false, false, false, false] rfl rfl (one_of HT_.out (by kernel_rfl)) (by decide) (fun K hK => ?_)
        refine step_append_lies _ rfl _ _ 90 rfl B 9 it2 (.string ⟨#[]⟩) 1 16 Tryd.underlying90 hj1 hj2 hj3 hj4 rfl (by decide) _ _ _ rfl HM.out.o2 ⟨k2, 0, none⟩ 1 1 [.string (bs own)] rfl rfl (World.news_of_block HK2.out) (by intro u hu; simp at hu; subst hu; rfl) (by decide) (by have := HN7.out; rw [this]; unfold maxLen; omega) (by have := HN7.out; rw [this]; omega) (Nat.le_trans HM.out.bb (Nat.le_of_lt HM.out.lt)) _ rfl ?_
        intro gh cap2 wb hown hgrow hat hlt
        have HMn := Lib.hid (HM.out.app2 hgrow (ms := s7.names ++ [own]) (by rw [encN_push, List.length_append]; exact hown))
        refine hK.out _ _ HMn.out.held (fun hHeld => ?_)
        clear hK K HM HK2
        have HM := HMn
        clear HMn hown hgrow hat hlt
        refine norm_ (a' := ?_) ?_ ?_
        rotate_left
        · show Act.put _ (some 67) _ = _
          simp only [Act.put, List.setIfInBounds_toArray, List.set_cons_zero, List.set_cons_succ, i64_w, i32_w]
          rfl
        have f5 := HM.out.fz 5
        have f2 := HM.out.fz 2
        obtain ⟨hc5, hc2, _, _, _, _⟩ := hHeld
        refine pure_ (i := 17) (N := some 68) (v := ?_) (a' := ?_) #[true, true, true, true, true, true, true, true, true, true, true, true, true, true, true, true, true, true, false, false, false, false, false, false] rfl rfl (any_of HT_.out (by kernel_rfl)) (fun _ _ _ h => h) (Or.inl ⟨by rfl, ?_⟩) ?_ ?_
        rotate_left
        · intro w'
          go_simp
          with_reducible rfl
        rotate_left
        · simp only [Act.put, List.setIfInBounds_toArray, List.set_cons_zero, List.set_cons_succ, i64_w, i32_w]
          rfl
        refine pure_ (i := 18) (N := some 69) (v := ?_) (a' := ?_) #[true, true, true, true, true, true, true, true, true, true, true, true, true, true, true, true, true, true, true, false, false, false, false, false] rfl rfl (any_of HT_.out (by kernel_rfl)) (fun _ _ _ h => h) (Or.inl ⟨by rfl, ?_⟩) ?_ ?_
        rotate_left
        · intro w'
          go_simp
          with_reducible rfl
        rotate_left
        · simp only [Act.put, List.setIfInBounds_toArray, List.set_cons_zero, List.set_cons_succ, i64_w, i32_w]
          rfl
        refine pure_ (i := 19) (N := some 70) (v := ?_) (a' := ?_) #[true, true, true, true, true, true, true, true, true, true, true, true, true, true, true, true, true, true, true, true, false, false, false, false] rfl rfl (any_of HT_.out (by kernel_rfl)) (fun _ _ _ h => h) (Or.inl ⟨by rfl, ?_⟩) ?_ ?_
        rotate_left
        · intro w'
          go_simp
          with_reducible rfl
        rotate_left
        · simp only [Act.put, List.setIfInBounds_toArray, List.set_cons_zero, List.set_cons_succ, i64_w, i32_w]
          rfl
        refine last_ (i := 20) (N := none) #[true, true, true, true, true, true, true, true, true, true, true, true, true, true, true, true, true, true, true, true, true, false, false, false] rfl rfl (one_of HT_.out (by kernel_rfl)) (by decide) (fun K hK => ?_)
        go_simp
        refine hK.out _ _ ?_
        clear hK K
        refine pure_ (i := 21) (N := some 71) (v := ?_) (a' := ?_) #[true, true, true, true, true, true, true, true, true, true, true, true, true, true, true, true, true, true, true, true, true, true, false, false] rfl rfl (any_of HT_.out (by kernel_rfl)) (fun _ _ _ h => h) (Or.inl ⟨by rfl, ?_⟩) ?_ ?_
        rotate_left
        · intro w'
          go_simp
          with_reducible rfl
        rotate_left
        · simp only [Act.put, List.setIfInBounds_toArray, List.set_cons_zero, List.set_cons_succ, i64_w, i32_w]
          rfl
        refine pure_ (i := 22) (N := some 72) (v := ?_) (a' := ?_) #[true, true, true, true, true, true, true, true, true, true, true, true, true, true, true, true, true, true, true, true, true, true, true, false] rfl rfl (any_of HT_.out (by kernel_rfl)) (fun _ _ _ h => h) (Or.inl ⟨by rfl, ?_⟩) ?_ ?_
        rotate_left
        · intro w'
          go_simp
          with_reducible rfl
        rotate_left
        · simp only [Act.put, List.setIfInBounds_toArray, List.set_cons_zero, List.set_cons_succ, i64_w, i32_w]
          rfl
        refine last_ (i := 23) (N := none) #[true, true, true, true, true, true, true, true, true, true, true, true, true, true, true, true, true, true, true, true, true, true, true, true] rfl rfl (one_of HT_.out (by kernel_rfl)) (by decide) (fun K hK => ?_)
        go_simp
        refine hK.out _ _ ?_
        clear hK K
        refine done_ (done_of HT_.out (by kernel_rfl)) ?_
        have HD := Lib.hid (HM.out.done (by have h1 := HS7.out; have h2 := HN7.out; simp only [List.length_append, List.length_cons, List.length_nil]; rw [h2]; omega) (by have h2 := HN7.out; simp only [List.length_append, List.length_cons, List.length_nil]; rw [h2]; omega))
        go_wp2_with fail
        go_roundg g1
        case measure => omega
        case rel => exact ⟨_, _, s7.push own x, by unfold PState.push; exact hl7, Lib.hid HRr.out, Lib.hid HD.out.1, Lib.hid HD.out.2⟩
end Go.Proofs.YtamabdijeklgjaaDoor.Ext

/- flow.Parse and its recovering closure, walked. -/
namespace Go.Proofs.YtamabdijeklgjaaDoor.Ext
open Go Go.Proofs Go.RowKit Go.Proofs.YtamabdijeklgjaaDoorW.PrintWords
set_option linter.unusedVariables false
set_option linter.unusedSimpArgs false

def fl0 : Value := .agg #[.string ⟨#[]⟩, .int .i64 0, .slice none 0 0]
theorem ta_fail (t : TypeId) (er at_ : Int) (w : World) : (Instr.typeAssert (.iface 88 (.agg #[.int .i64 er, .int .i64 at_])) t 88 true).run Tryd.prog w = .ok (.tuple #[.agg #[.int .i64 er, .int .i64 at_], .bool true]) w := by kernel_rfl
theorem ta_nil (t : TypeId) (w : World) : (Instr.typeAssert .nilIface t 88 true).run Tryd.prog w = .ok (.tuple #[.agg #[.int .i64 0, .int .i64 0], .bool false]) w := by kernel_rfl
theorem blk_far {w : World} {g q i : Nat} {v : Value} {cs : Array Value} {t : TypeId} {fr : Nat × Nat} (h : w.heap[g]? = some (.cells cs t fr)) (hne : q ≠ g) : (w.setCell ⟨q, i, none⟩ v).heap[g]? = some (.cells cs t fr) :=
  blk_grown h (setCell_grown w ⟨q, i, none⟩ v) (by intro e; injection e with e; exact hne e.symm)
theorem catch_tmps (p0 p1 p2 : Nat) : ((#[.pointer (some ⟨p0, 0, none⟩), .pointer (some ⟨p1, 0, none⟩), .pointer (some ⟨p2, 0, none⟩)] : Array Value) ++ Array.replicate (Tryd.f36.ntmps - (#[.pointer (some ⟨p0, 0, none⟩), .pointer (some ⟨p1, 0, none⟩), .pointer (some ⟨p2, 0, none⟩)] : Array Value).size) undef) = #[.pointer (some ⟨p0, 0, none⟩), .pointer (some ⟨p1, 0, none⟩), .pointer (some ⟨p2, 0, none⟩), undef, undef, undef, undef, undef, undef, undef, undef, undef, undef, undef, undef, undef] := by kernel_rfl
set_option maxRecDepth 100000 in
set_option maxHeartbeats 2000000 in
theorem catch_fail (p0 p1 p2 : Nat) (er at_ : Int) (w : World) (x0 x1 x2 y z : Value) (h01 : p0 < p1) (h12 : p1 < p2)
    (h0 : w.heap[p0]? = some (.cells #[x0, x1, x2] 24 (0, 0))) (h1 : w.heap[p1]? = some (.cells #[y] 28 (0, 0))) (h2 : w.heap[p2]? = some (.cells #[z] 3 (0, 0))) :
    CallsD Tryd.prog 36 #[.pointer (some ⟨p0, 0, none⟩), .pointer (some ⟨p1, 0, none⟩), .pointer (some ⟨p2, 0, none⟩)] (.panicking (failV er at_)) w fun e u' w' =>
      e = .returned (.tuple #[]) ∧ u' = .panicking [{ v := .iface 88 (.agg #[.int .i64 er, .int .i64 at_]), recovered := true }] ∧ w'.heap[p0]? = some (.cells #[.string ⟨#[]⟩, .int .i64 0, .slice none 0 0] 24 (0, 0)) ∧
        w'.heap[p1]? = some (.cells #[.int .i64 er] 28 (0, 0)) ∧ w'.heap[p2]? = some (.cells #[.int .i64 at_] 3 (0, 0)) ∧ Below p0 w w' := by
  refine callsD_of_wpS Tryd.func36 rfl fun c₀ cs hu => ?_
  unfold failV at hu
  have hta := ta_fail
  rw [catch_tmps]
  apply wpS_seq
  apply wpS_region
  simp [wpOpsS, go_sem, recoverD, hu, hta, Tryd.ntmps36, Exit.thenS]
  have K3 : Hid ((w.alloc (.cells #[.int .i64 er, .int .i64 at_] 88)).heap[w.heap.size]? = some (.cells #[.int .i64 er, .int .i64 at_] 88 (0, 0))) := Lib.hid (blk_new w _)
  generalize hc1 : ({ fn := c₀.fn, tmps := c₀.tmps, todo := c₀.todo, defers := c₀.defers, mode := FrameMode.panicking [{ v := Value.iface 88 (Value.agg #[Value.int IntKind.i64 er, Value.int IntKind.i64 at_]), recovered := true }], kind := c₀.kind, roundOf := c₀.roundOf } : Frame) = c₁
  refine wpS_of_wp ?_
  have H0 := Lib.hid (blk_alloc h0 (.cells #[.int .i64 er, .int .i64 at_] 88))
  have H1 := Lib.hid (blk_alloc h1 (.cells #[.int .i64 er, .int .i64 at_] 88))
  have H2 := Lib.hid (blk_alloc h2 (.cells #[.int .i64 er, .int .i64 at_] 88))
  have HB := Lib.hid ((below_allocs w (.cells #[.int .i64 er, .int .i64 at_] 88)).mono (Nat.le_of_lt (blk_lt h0)))
  have l2 : p2 < w.heap.size := blk_lt h2
  clear h0 h1 h2 hta
  generalize w.alloc (.cells #[.int .i64 er, .int .i64 at_] 88) = W at K3 H0 H1 H2 HB
  generalize w.heap.size = k at K3 l2
  have a0 := blk_cell H0.out 0
  have a1 := blk_cell H0.out 1
  have a2 := blk_cell H0.out 2
  have b0 := blk_cell H1.out 0
  have d0 := blk_cell H2.out 0
  have fa0 := blk_frozen H0.out 0
  have fa1 := blk_frozen H0.out 1
  have fa2 := blk_frozen H0.out 2
  have fb0 := blk_frozen H1.out 0
  have fd0 := blk_frozen H2.out 0
  have k0 := blk_cell K3.out 0
  have k1 := blk_cell K3.out 1
  have n0 : p0 ≠ k := by omega
  have n1 : p1 ≠ k := by omega
  have n2 : p2 ≠ k := by omega
  have n3 : p0 ≠ p1 := by omega
  have n4 : p0 ≠ p2 := by omega
  have n5 : p1 ≠ p2 := by omega
  have HC1 := Lib.hid hc1
  clear hu hc1
  go_upto_region 2 with fail
  go_outline
  go_region_held3 (fun w' => w'.cell? ⟨k, 0, none⟩ = some (.int .i64 er) ∧ w'.cell? ⟨k, 1, none⟩ = some (.int .i64 at_)) (go_keep) (fail)
  refine ⟨rfl, _, (by rw [← HC1.out]), _, results_none rfl _ _ _, rfl, rfl, ?_, ?_, ?_, ?_⟩
  · have e1 := blk_put H0.out 0 (.string ⟨#[]⟩) rfl
    have e2 := blk_put e1 1 (.int .i64 0) rfl
    have e3 := blk_put e2 2 (.slice none 0 0) rfl
    exact blk_drew (blk_far (blk_far e3 n3.symm) n4.symm)
  · have e1 := blk_far (i := 0) (v := .string ⟨#[]⟩) H1.out n3
    have e2 := blk_far (i := 1) (v := .int .i64 0) e1 n3
    have e3 := blk_far (i := 2) (v := .slice none 0 0) e2 n3
    exact blk_drew (blk_far (blk_put e3 0 (.int .i64 er) rfl) n5.symm)
  · have e1 := blk_far (i := 0) (v := .string ⟨#[]⟩) H2.out n4
    have e2 := blk_far (i := 1) (v := .int .i64 0) e1 n4
    have e3 := blk_far (i := 2) (v := .slice none 0 0) e2 n4
    have e4 := blk_far (i := 0) (v := .int .i64 er) e3 n5
    exact blk_drew (blk_put e4 0 (.int .i64 at_) rfl)
  · have hB : p0 ≤ W.heap.size := Nat.le_of_lt (blk_lt H0.out)
    have key : ∀ (u u' : World) (q : Nat) (i : Nat) (v : Value), p0 ≤ q → Below p0 w u → Below p0 w (u.setCell ⟨q, i, none⟩ v) := fun u u' q i v hq hb => ⟨hb.os, hb.tape, hb.output, by rw [size_setCell]; exact hb.size, fun j hj => (Below.heap_setCell u ⟨q, i, none⟩ v j (by show j ≠ q; omega)).trans (hb.block j hj)⟩
    exact (key _ w p2 0 _ (by omega) (key _ w p1 0 _ (by omega) (key _ w p0 2 _ (Nat.le_refl _) (key _ w p0 1 _ (Nat.le_refl _) (key _ w p0 0 _ (Nat.le_refl _) HB.out))))).drew
set_option maxRecDepth 100000 in
set_option maxHeartbeats 2000000 in
theorem catch_idle (p0 p1 p2 : Nat) (w : World) :
    CallsD Tryd.prog 36 #[.pointer (some ⟨p0, 0, none⟩), .pointer (some ⟨p1, 0, none⟩), .pointer (some ⟨p2, 0, none⟩)] .returning w fun e u' w' =>
      e = .returned (.tuple #[]) ∧ u' = .returning ∧ w' = w.alloc (.cells #[.int .i64 0, .int .i64 0] 88) := by
  refine callsD_of_wpS Tryd.func36 rfl fun c₀ cs hu => ?_
  have hta := ta_nil
  rw [catch_tmps]
  apply wpS_seq
  apply wpS_region
  simp [wpOpsS, go_sem, recoverD, hu, hta, Tryd.ntmps36, Exit.thenS]
  refine wpS_of_wp ?_
  have HU := Lib.hid hu
  clear hu
  generalize w.alloc (.cells #[.int .i64 0, .int .i64 0] 88) = W
  go_wp2_with fail
  refine ⟨rfl, .returning, ?_, _, results_none rfl _ _ _, rfl, rfl, rfl⟩
  have := HU.out
  cases c₀
  simp_all
theorem own_set {w : World} {base : Nat} {e : TypeId} {size n : Nat} {v : Value} {xs : List Value} (h : w.ownsRow base e size v n xs) (q i : Nat) (u : Value) (hq : q < base) : (w.setCell ⟨q, i, none⟩ u).ownsRow base e size v n xs := by
  refine h.kept (setCell_grown w ⟨q, i, none⟩ u) ?_
  cases hv : v.ownBlock with
  | none => exact Or.inl rfl
  | some k =>
    have := (h.lt k hv).1
    exact Or.inr (by intro e; injection e with e; have e2 : k = q := e; omega)
theorem own_lower {w : World} {base base' : Nat} {e : TypeId} {size n : Nat} {v : Value} {xs : List Value} (h : w.ownsRow base e size v n xs) (hb : base' ≤ base) : w.ownsRow base' e size v n xs := by
  rcases h with ⟨h1, h2 | ⟨g, cap, cur, h3, h4, h5⟩⟩
  · exact ⟨h1, Or.inl h2⟩
  · exact ⟨h1, Or.inr ⟨g, cap, cur, h3, Nat.le_trans hb h4, h5⟩⟩
theorem below_set {B : Nat} {w u : World} (hb : Below B w u) (p : Addr) (v : Value) (hq : B ≤ p.block) : Below B w (u.setCell p v) :=
  ⟨hb.os, hb.tape, hb.output, by rw [size_setCell]; exact hb.size, fun j hj => (Below.heap_setCell u p v j (by omega)).trans (hb.block j hj)⟩
theorem parse_results (w : World) (N N1 N2 : Nat) (x0 x1 x2 : Value) (er at_ : Int) (tmps : Array Value)
    (h0 : w.heap[N]? = some (.cells #[x0, x1, x2] 24 (0, 0))) (h1 : w.heap[N1]? = some (.cells #[.int .i64 er] 28 (0, 0))) (h2 : w.heap[N2]? = some (.cells #[.int .i64 at_] 3 (0, 0)))
    (t2 : tmps.getD 2 undef = .pointer (some ⟨N, 0, none⟩)) (t3 : tmps.getD 3 undef = .pointer (some ⟨N1, 0, none⟩)) (t4 : tmps.getD 4 undef = .pointer (some ⟨N2, 0, none⟩)) :
    (results Tryd.f22 tmps).run Tryd.prog w = .ok (.tuple #[.agg #[x0, x1, x2], .int .i64 er, .int .i64 at_]) w := by
  have hr : Tryd.f22.results = [ResultVar.cell 2 24, ResultVar.cell 3 28, ResultVar.cell 4 3].toArray := rfl
  have e0 := run_loadVar_row (P := Tryd.prog) w N 24 24 #[x0, x1, x2] (0, 0) _ h0 Tryd.underlying24 rfl (by kernel_rfl)
  have c1 : w.cell? ⟨N1, 0, none⟩ = some (.int .i64 er) := blk_cell h1 0
  have c2 : w.cell? ⟨N2, 0, none⟩ = some (.int .i64 at_) := blk_cell h2 0
  have e1 : (loadVar 28 ⟨N1, 0, none⟩).run Tryd.prog w = .ok (.int .i64 er) w := by simp [go_sem, c1, Tryd.underlying28]
  have e2 : (loadVar 3 ⟨N2, 0, none⟩).run Tryd.prog w = .ok (.int .i64 at_) w := by simp [go_sem, c2, Tryd.underlying3]
  unfold results
  rw [hr, List.mapM_toArray]
  simp only [Sem.run_bind, Sem.run_map]
  rw [Array.getD_eq_getD_getElem?] at t2 t3 t4
  simp [List.mapM_cons, t2, t3, t4, asAddr, e0, e1, e2]
theorem tok_row {w u : World} {base : Nat} {TA : Option Addr} {tc : Nat} {ts : List Tok} (h : w.ownsRow base 104 4 (.slice TA ts.length tc) ts.length (encT ts)) (h0 : 0 < w.heap.size) (hk : ∀ (g : Nat) (cs : Array Value), w.heap[g]? = some (.cells cs 104 (0, 0)) → u.heap[g]? = some (.cells cs 104 (0, 0))) :
    ∃ g, g < w.heap.size ∧ ts.length ≤ tc ∧ TokRow u g TA ts := by
  rcases h.2 with ⟨hv, hn⟩ | ⟨g, cap, cur, hv, hb, hh, hc, hm, hs, hx⟩
  · injection hv with _ h2 h3
    exact ⟨0, h0, by omega, Or.inl (List.length_eq_zero_iff.1 hn)⟩
  · injection hv with h1 h2 h3
    subst h1
    subst h3
    refine ⟨g, blk_lt hh, hc, Or.inr ⟨0, cur, rfl, hk g cur hh, fun j v hj => ?_⟩⟩
    have hg := h.cells (g := g) rfl j v hj
    rw [Addr.add_mid] at hg
    rw [blk_cell hh] at hg
    exact hg
def ParsePost (w : World) (r : FlowR) (e : Ending) (w' : World) : Prop := match r with
  | .bad er at_ => e = .returned (.tuple #[fl0, .int .i64 er, .int .i64 at_]) ∧ Below w.heap.size w w'
  | .good name ver steps => ∃ SV, e = .returned (.tuple #[.agg #[.string (bs name), .int .i64 ver, SV], .int .i64 0, .int .i64 0]) ∧ w'.ownsRow w.heap.size 32 4 SV steps.length (encFS steps) ∧ steps.length ≤ 40 ∧ Below w.heap.size w w'
set_option maxRecDepth 100000 in
set_option maxHeartbeats 700000 in
theorem parse_calls (t : ByteArray) (w : World) :
    Calls Tryd.prog 22 #[.string t] w (ParsePost w (parseL t.data.toList)) := by
  have hmf : ∀ (fn : Fn) (first cap : Array Value) (w : World), (Instr.makeFunc fn first cap).run Tryd.prog w = .ok (.func fn first cap) w := fun _ _ _ _ => rfl
  have C := lex_calls t
  obtain ⟨R0, hR0⟩ : ∃ R0, parseL t.data.toList = R0 := ⟨_, rfl⟩
  rw [hR0]
  have HR0 := Lib.hid hR0
  clear hR0
  obtain ⟨R, hR⟩ : ∃ R, lexL t.data.toList = R := ⟨_, rfl⟩
  rw [hR] at C
  have HC := Lib.hid C
  have HLX := Lib.hid hR
  have HE : Hid (∀ e a, R = .bad e a → e ≠ 0) := Lib.hid (fun e a h => lexL_bad (hR.trans h))
  clear hR C
  go_enter_defers Tryd.func22, Tryd.ntmps22
  go_wp2_with fail
  have H0 : Hid ((((w.alloc (.cells #[.string ⟨#[]⟩, .int .i64 0, .slice none 0 0] 24)).alloc (.cells #[.int .i64 0] 28)).alloc (.cells #[.int .i64 0] 3)).heap[w.heap.size]? = some (.cells #[.string ⟨#[]⟩, .int .i64 0, .slice none 0 0] 24 (0, 0))) := Lib.hid (blk_alloc (blk_alloc (blk_new w _) _) _)
  have H1 : Hid ((((w.alloc (.cells #[.string ⟨#[]⟩, .int .i64 0, .slice none 0 0] 24)).alloc (.cells #[.int .i64 0] 28)).alloc (.cells #[.int .i64 0] 3)).heap[w.heap.size + 1]? = some (.cells #[.int .i64 0] 28 (0, 0))) := Lib.hid (blk_alloc (by have := blk_new (w.alloc (.cells #[.string ⟨#[]⟩, .int .i64 0, .slice none 0 0] 24)) (.cells #[.int .i64 0] 28); rwa [World.size_alloc] at this) _)
  have H2 : Hid ((((w.alloc (.cells #[.string ⟨#[]⟩, .int .i64 0, .slice none 0 0] 24)).alloc (.cells #[.int .i64 0] 28)).alloc (.cells #[.int .i64 0] 3)).heap[w.heap.size + 1 + 1]? = some (.cells #[.int .i64 0] 3 (0, 0))) := Lib.hid (by have := blk_new ((w.alloc (.cells #[.string ⟨#[]⟩, .int .i64 0, .slice none 0 0] 24)).alloc (.cells #[.int .i64 0] 28)) (.cells #[.int .i64 0] 3); rwa [World.size_alloc, World.size_alloc] at this)
  have HB := Lib.hid (below_alloc (below_alloc (below_allocs w (.cells #[.string ⟨#[]⟩, .int .i64 0, .slice none 0 0] 24)) (.cells #[.int .i64 0] 28)) (.cells #[.int .i64 0] 3))
  have HZ : Hid ((((w.alloc (.cells #[.string ⟨#[]⟩, .int .i64 0, .slice none 0 0] 24)).alloc (.cells #[.int .i64 0] 28)).alloc (.cells #[.int .i64 0] 3)).heap.size = w.heap.size + 3) := Lib.hid (by simp)
  generalize ((w.alloc (.cells #[.string ⟨#[]⟩, .int .i64 0, .slice none 0 0] 24)).alloc (.cells #[.int .i64 0] 28)).alloc (.cells #[.int .i64 0] 3) = W3 at H0 H1 H2 HB HZ
  refine (HC.out _).mono ?_
  intro e w1 hpost
  obtain ⟨v, rfl, hb, hown⟩ := hpost
  have B1 := Lib.hid (below_step HB.out hb)
  have I0 := Lib.hid (blk_below H0.out hb)
  have I1 := Lib.hid (blk_below H1.out hb)
  have I2 := Lib.hid (blk_below H2.out hb)
  have HZ1 : Hid (w.heap.size + 3 ≤ w1.heap.size) := Lib.hid (by rw [← HZ.out]; exact hb.size)
  clear HC hb H0 H1 H2 HB
  generalize hN : w.heap.size = N at I0 I1 I2
  have HN := Lib.hid hN
  clear hN
  have HZ2 : Hid (N + 3 ≤ w1.heap.size) := Lib.hid (by rw [← HN.out]; exact HZ1.out)
  generalize hN2 : N + 1 + 1 = N2 at I2
  generalize hN1 : N + 1 = N1 at I1
  have HN1 := Lib.hid hN1
  have HN2 := Lib.hid hN2
  have n01 : N ≠ N1 := by omega
  have n02 : N ≠ N2 := by omega
  have n12 : N1 ≠ N2 := by omega
  have l01 : N < N1 := by omega
  have l12 : N1 < N2 := by omega
  clear hN1 hN2 HZ1
  have c1 := blk_cell I1.out 0
  have c2 := blk_cell I2.out 0
  have f1 := blk_frozen I1.out 0
  have f2 := blk_frozen I2.out 0
  have f00 := blk_frozen I0.out 0
  have f01 := blk_frozen I0.out 1
  have f02 := blk_frozen I0.out 2
  have c00 := blk_cell I0.out 0
  have c01 := blk_cell I0.out 1
  have c02 := blk_cell I0.out 2
  cases R with
  | bad er at_ =>
    clear hown
    unfold lexV
    dsimp only
    have hne0 : (er == 0) = false := by
      simpa using HE.out er at_ rfl
    clear HE
    go_upto_region 3 with fail
    have J0 := Lib.hid (blk_far (i := 0) (v := .int .i64 at_) (blk_far (q := N1) (i := 0) (v := .int .i64 er) I0.out (by omega)) n02.symm)
    have J1 := Lib.hid (blk_far (i := 0) (v := .int .i64 at_) (blk_put I1.out 0 (.int .i64 er) rfl) n12.symm)
    have J2 := Lib.hid (blk_put (blk_far (q := N1) (i := 0) (v := .int .i64 er) I2.out (by omega)) 0 (.int .i64 at_) rfl)
    have JB : Hid (Below w.heap.size w ((w1.setCell ⟨N1, 0, none⟩ (.int .i64 er)).setCell ⟨N2, 0, none⟩ (.int .i64 at_))) := Lib.hid (below_set (below_set B1.out _ _ (show w.heap.size ≤ N1 by rw [HN.out]; omega)) _ _ (show w.heap.size ≤ N2 by rw [HN.out]; omega))
    clear c1 c2 f1 f2 f00 f01 f02 c00 c01 c02 I0 I1 I2 B1 HZ2
    generalize ((w1.setCell ⟨N1, 0, none⟩ (.int .i64 er)).setCell ⟨N2, 0, none⟩ (.int .i64 at_)) = W5 at J0 J1 J2 JB
    have d1 : W5.cell? ⟨N1, 0, none⟩ = some (.int .i64 er) := blk_cell J1.out 0
    have d2 : W5.cell? ⟨N2, 0, none⟩ = some (.int .i64 at_) := blk_cell J2.out 0
    have d00 := blk_cell J0.out 0
    have d01 := blk_cell J0.out 1
    have d02 := blk_cell J0.out 2
    have e1 := blk_frozen J1.out 0
    have e2 := blk_frozen J2.out 0
    have e00 := blk_frozen J0.out 0
    have e01 := blk_frozen J0.out 1
    have e02 := blk_frozen J0.out 2
    have X1 := blk_far (i := 2) (v := .slice none 0 0) (blk_far (i := 1) (v := .int .i64 0) (blk_far (i := 0) (v := .string ⟨#[]⟩) J1.out n01) n01) n01
    have X2 := blk_far (i := 2) (v := .slice none 0 0) (blk_far (i := 1) (v := .int .i64 0) (blk_far (i := 0) (v := .string ⟨#[]⟩) J2.out n02) n02) n02
    have X0 := blk_put (blk_put (blk_put J0.out 0 (.string ⟨#[]⟩) rfl) 1 (.int .i64 0) rfl) 2 (.slice none 0 0) rfl
    have Y1 := blk_put X1 0 (.int .i64 er) rfl
    have Y2 := blk_far (i := 0) (v := .int .i64 er) X2 n12
    have Y0 := blk_far (i := 0) (v := .int .i64 er) X0 n01.symm
    have Z1 := blk_drew (blk_far (i := 0) (v := .int .i64 at_) Y1 n12.symm)
    have Z2 := blk_drew (blk_put Y2 0 (.int .i64 at_) rfl)
    have Z0 := Lib.hid (blk_drew (blk_far (i := 0) (v := .int .i64 at_) Y0 n02.symm))
    have g1 : ((((W5.setCell ⟨N, 0, none⟩ (.string ⟨#[]⟩)).setCell ⟨N, 1, none⟩ (.int .i64 0)).setCell ⟨N, 2, none⟩ (.slice none 0 0)).setCell ⟨N1, 0, none⟩ (.int .i64 er)).drew.cell? ⟨N1, 0, none⟩ = some (.int .i64 er) := blk_cell (blk_drew Y1) 0
    have g2 : ((((W5.setCell ⟨N, 0, none⟩ (.string ⟨#[]⟩)).setCell ⟨N, 1, none⟩ (.int .i64 0)).setCell ⟨N, 2, none⟩ (.slice none 0 0)).setCell ⟨N1, 0, none⟩ (.int .i64 er)).drew.cell? ⟨N2, 0, none⟩ = some (.int .i64 at_) := blk_cell (blk_drew Y2) 0
    have g3 : (((((W5.setCell ⟨N, 0, none⟩ (.string ⟨#[]⟩)).setCell ⟨N, 1, none⟩ (.int .i64 0)).setCell ⟨N, 2, none⟩ (.slice none 0 0)).setCell ⟨N1, 0, none⟩ (.int .i64 er)).setCell ⟨N2, 0, none⟩ (.int .i64 at_)).drew.cell? ⟨N1, 0, none⟩ = some (.int .i64 er) := blk_cell Z1 0
    have g4 : (((((W5.setCell ⟨N, 0, none⟩ (.string ⟨#[]⟩)).setCell ⟨N, 1, none⟩ (.int .i64 0)).setCell ⟨N, 2, none⟩ (.slice none 0 0)).setCell ⟨N1, 0, none⟩ (.int .i64 er)).setCell ⟨N2, 0, none⟩ (.int .i64 at_)).drew.cell? ⟨N2, 0, none⟩ = some (.int .i64 at_) := blk_cell Z2 0
    have HZ1' := Lib.hid Z1
    have HZ2' := Lib.hid Z2
    have JB2 := Lib.hid (below_set (below_set (below_set (below_set (below_set JB.out ⟨N, 0, none⟩ (.string ⟨#[]⟩) (by rw [HN.out]; exact Nat.le_refl _)) ⟨N, 1, none⟩ (.int .i64 0) (by rw [HN.out]; exact Nat.le_refl _)) ⟨N, 2, none⟩ (.slice none 0 0) (by rw [HN.out]; exact Nat.le_refl _)) ⟨N1, 0, none⟩ (.int .i64 er) (by rw [HN.out]; exact Nat.le_of_lt l01)) ⟨N2, 0, none⟩ (.int .i64 at_) (by rw [HN.out]; exact Nat.le_of_lt (Nat.lt_trans l01 l12))).drew
    clear X0 X1 X2 Y0 Y1 Y2 Z1 Z2
    go_region_held3 (fun w' => w'.cell? ⟨N1, 0, none⟩ = some (.int .i64 er) ∧ w'.cell? ⟨N2, 0, none⟩ = some (.int .i64 at_)) (first | with_reducible exact ⟨g1, g2⟩ | with_reducible exact ⟨g3, g4⟩ | with_reducible exact g1 | with_reducible exact g2 | with_reducible exact g3 | with_reducible exact g4 | go_keep) (fail)
    go_wp2_with fail
    refine ⟨_, parse_results _ N N1 N2 _ _ _ er at_ _ Z0.out HZ1'.out HZ2'.out rfl rfl rfl, ?_⟩
    rw [show R0 = .bad er at_ from by rw [← HR0.out]; unfold parseL; rw [HLX.out]]
    exact ⟨rfl, JB2.out⟩
  | good ts =>
    have hown' := hown ts rfl
    clear hown
    unfold lexV
    dsimp only
    obtain ⟨TA, tc, rfl⟩ := own_view hown'
    have J0 := Lib.hid (blk_far (i := 0) (v := .int .i64 0) (blk_far (q := N1) (i := 0) (v := .int .i64 0) I0.out n01.symm) n02.symm)
    have J1 := Lib.hid (blk_far (i := 0) (v := .int .i64 0) (blk_put I1.out 0 (.int .i64 0) rfl) n12.symm)
    have J2 := Lib.hid (blk_put (blk_far (q := N1) (i := 0) (v := .int .i64 0) I2.out n12) 0 (.int .i64 0) rfl)
    have JB : Hid (Below w.heap.size w ((w1.setCell ⟨N1, 0, none⟩ (.int .i64 0)).setCell ⟨N2, 0, none⟩ (.int .i64 0))) := Lib.hid (below_set (below_set B1.out _ _ (show w.heap.size ≤ N1 by rw [HN.out]; omega)) _ _ (show w.heap.size ≤ N2 by rw [HN.out]; omega))
    have JS : Hid (((w1.setCell ⟨N1, 0, none⟩ (.int .i64 0)).setCell ⟨N2, 0, none⟩ (.int .i64 0)).heap.size = w1.heap.size) := Lib.hid (by rw [size_setCell, size_setCell])
    have JT : Hid (∃ g, (g < w1.heap.size) ∧ ts.length ≤ tc ∧ TokRow ((w1.setCell ⟨N1, 0, none⟩ (.int .i64 0)).setCell ⟨N2, 0, none⟩ (.int .i64 0)) g TA ts) := Lib.hid (tok_row hown' (by have := HZ2.out; omega) (fun g cs hh => by
        have h1 : N1 ≠ g := by
          intro e
          subst e
          rw [I1.out] at hh
          cases hh
        have h2 : N2 ≠ g := by
          intro e
          subst e
          rw [I2.out] at hh
          cases hh
        exact blk_far (blk_far hh h1) h2))
    clear hown'
    go_wp2_with fail
    clear c1 c2 f1 f2 f00 f01 f02 c00 c01 c02 I0 I1 I2 B1
    obtain ⟨g, hg1, hg2, hg3⟩ := JT.out
    clear JT
    have JA : Hid (((w1.setCell ⟨N1, 0, none⟩ (.int .i64 0)).setCell ⟨N2, 0, none⟩ (.int .i64 0)).heap.size = w1.heap.size) := JS
    generalize ((w1.setCell ⟨N1, 0, none⟩ (.int .i64 0)).setCell ⟨N2, 0, none⟩ (.int .i64 0)) = W5 at J0 J1 J2 JB JA JS hg3
    have hbk := blk_new W5 (.cells (pcells TA tc (.slice none 0 0) (.slice none 0 0) (startP ts t.size)) 92)
    rw [JA.out] at hbk
    have P0 : Hid (PAt (W5.alloc (.cells (pcells TA tc (.slice none 0 0) (.slice none 0 0) (startP ts t.size)) 92)) (N + 3) w1.heap.size g (.slice none 0 0) (.slice none 0 0) (startP ts t.size)) :=
      Lib.hid ⟨TA, tc, hbk, hg2, hg3.keep (fun cs hh => blk_alloc hh _), ⟨by simp [startP, encN], Or.inl ⟨rfl, rfl⟩⟩, ⟨by simp [startP, encFS], Or.inl ⟨rfl, rfl⟩⟩, HZ2.out, by simp [startP], rfl, hg1⟩
    have hflow := flow_calls (N + 3) w1.heap.size g _ _ (startP ts t.size) _ P0.out
    have HF := Lib.hid hflow
    have HW0 := Lib.hid (blk_alloc J0.out (.cells (pcells TA tc (.slice none 0 0) (.slice none 0 0) (startP ts t.size)) 92))
    have HW1 := Lib.hid (blk_alloc J1.out (.cells (pcells TA tc (.slice none 0 0) (.slice none 0 0) (startP ts t.size)) 92))
    have HW2 := Lib.hid (blk_alloc J2.out (.cells (pcells TA tc (.slice none 0 0) (.slice none 0 0) (startP ts t.size)) 92))
    have HWB := Lib.hid (below_alloc JB.out (.cells (pcells TA tc (.slice none 0 0) (.slice none 0 0) (startP ts t.size)) 92))
    clear hflow hbk hg3 J0 J1 J2 JB
    have HSZ : Hid (t.data.toList.length = t.size) := Lib.hid (by rw [Lib.size_eq])
    have LN : Hid (w.heap.size ≤ N) := Lib.hid (by rw [HN.out]; exact Nat.le_refl _)
    refine HF.out.mono ?_
    intro e w7 hpost
    obtain ⟨F, hF⟩ : ∃ F, flowP (startP ts t.size) = F := ⟨_, rfl⟩
    rw [hF] at hpost
    have HFE := Lib.hid hF
    clear hF
    have l3 : N2 < N + 3 := by have := HN2.out; omega
    cases F with
    | bad er at_ =>
      obtain ⟨rfl, hb⟩ := hpost
      refine leaves_cons (f := 36) (args := #[.pointer (some ⟨N, 0, none⟩), .pointer (some ⟨N1, 0, none⟩), .pointer (some ⟨N2, 0, none⟩)]) (by simp) (by simp [go_sem]) ?_
      refine (catch_fail N N1 N2 er at_ w7 _ _ _ _ _ l01 l12 ((hb.block N (by omega)).trans HW0.out) ((hb.block N1 (by omega)).trans HW1.out) ((hb.block N2 (by omega)).trans HW2.out)).mono ?_
      rintro e u' w8 ⟨rfl, rfl, g0, g1, g2, gB⟩
      refine ⟨_, parse_results w8 N N1 N2 _ _ _ er at_ _ g0 g1 g2 rfl rfl rfl, ?_⟩
      rw [show R0 = .bad er at_ from by rw [← HR0.out]; unfold parseL; rw [HLX.out]; simp only []; rw [HSZ.out, HFE.out]]
      exact ⟨rfl, below_bb (below_bb HWB.out (hb.mono (by have := LN.out; omega))) (gB.mono LN.out)⟩
    | ok u s7 =>
      obtain ⟨⟨v7, rfl⟩, ⟨NV, SV, hp⟩, hb⟩ := hpost
      have P7 := Lib.hid hp
      have V0 := Lib.hid ((hb.block N (by omega)).trans HW0.out)
      have V1 := Lib.hid ((hb.block N1 (by omega)).trans HW1.out)
      have V2 := Lib.hid ((hb.block N2 (by omega)).trans HW2.out)
      have VB := Lib.hid (below_bb HWB.out (hb.mono (by have := LN.out; omega)))
      have z3 := P7.out.c3.1
      have z4 := P7.out.c3.2
      have z5 := P7.out.c5
      have a0 := blk_cell V0.out 0
      have a1 := blk_cell V0.out 1
      have a2 := blk_cell V0.out 2
      have b0 := blk_cell V1.out 0
      have d0 := blk_cell V2.out 0
      have fa0 := blk_frozen V0.out 0
      have fa1 := blk_frozen V0.out 1
      have fa2 := blk_frozen V0.out 2
      have fb0 := blk_frozen V1.out 0
      have fd0 := blk_frozen V2.out 0
      obtain ⟨SA, sc, rfl⟩ := own_view P7.out.own2
      clear hp hb HW0 HW1 HW2 HWB HF P0
      generalize w1.heap.size = bb at P7 z3 z4 z5
      go_wp2_with fail
      have X0 := blk_put (blk_put (blk_put V0.out 0 (.string (bs s7.name)) rfl) 1 (.int .i64 s7.ver) rfl) 2 (.slice SA s7.steps.length sc) rfl
      have Y0 := blk_far (i := 0) (v := .int .i64 0) (blk_far (i := 0) (v := .int .i64 0) X0 n01.symm) n02.symm
      have X1 := blk_far (i := 2) (v := .slice SA s7.steps.length sc) (blk_far (i := 1) (v := .int .i64 s7.ver) (blk_far (i := 0) (v := .string (bs s7.name)) V1.out n01) n01) n01
      have Y1 := blk_far (i := 0) (v := .int .i64 0) (blk_put X1 0 (.int .i64 0) rfl) n12.symm
      have X2 := blk_far (i := 2) (v := .slice SA s7.steps.length sc) (blk_far (i := 1) (v := .int .i64 s7.ver) (blk_far (i := 0) (v := .string (bs s7.name)) V2.out n02) n02) n02
      have Y2 := blk_put (blk_far (i := 0) (v := .int .i64 0) X2 n12) 0 (.int .i64 0) rfl
      have YO := own_set (own_set (own_set (own_set (own_set P7.out.own2 N 0 (.string (bs s7.name)) (by omega)) N 1 (.int .i64 s7.ver) (by omega)) N 2 (.slice SA s7.steps.length sc) (by omega)) N1 0 (.int .i64 0) (by omega)) N2 0 (.int .i64 0) l3
      have YB := below_set (below_set (below_set (below_set (below_set VB.out ⟨N, 0, none⟩ (.string (bs s7.name)) LN.out) ⟨N, 1, none⟩ (.int .i64 s7.ver) LN.out) ⟨N, 2, none⟩ (.slice SA s7.steps.length sc) LN.out) ⟨N1, 0, none⟩ (.int .i64 0) (Nat.le_trans LN.out (Nat.le_of_lt l01))) ⟨N2, 0, none⟩ (.int .i64 0) (Nat.le_trans LN.out (Nat.le_of_lt (Nat.lt_trans l01 l12)))
      refine leaves_cons (f := 36) (args := #[.pointer (some ⟨N, 0, none⟩), .pointer (some ⟨N1, 0, none⟩), .pointer (some ⟨N2, 0, none⟩)]) (by simp) (by simp [go_sem]) ?_
      refine (catch_idle N N1 N2 _).mono ?_
      rintro e u' w8 ⟨rfl, rfl, rfl⟩
      refine ⟨_, parse_results _ N N1 N2 _ _ _ 0 0 _ (blk_alloc Y0 _) (blk_alloc Y1 _) (blk_alloc Y2 _) rfl rfl rfl, ?_⟩
      rw [show R0 = .good s7.name s7.ver s7.steps from by rw [← HR0.out]; unfold parseL; rw [HLX.out]; simp only []; rw [HSZ.out, HFE.out]]
      exact ⟨_, rfl, own_lower (YO.alloc _) (by have := LN.out; rw [HN.out]; omega), by have := P7.out.len; omega, below_alloc YB _⟩
end Go.Proofs.YtamabdijeklgjaaDoor.Ext

/- What flow.Parse answers at the texts of the law's head, in plain Lean. -/
namespace Go.Proofs.YtamabdijeklgjaaDoor.Ext
open Go Go.Proofs

def t0 : List UInt8 := [102, 108, 111, 119, 32, 102, 97, 115, 116, 32, 50, 32, 123, 32, 97, 32, 61, 32, 105, 110, 32, 48, 59, 32, 98, 32, 61, 32, 105, 110, 32, 49, 59, 32, 99, 32, 61, 32, 97, 32, 45, 32, 98, 59, 32, 100, 32, 61, 32, 97, 116, 108, 101, 97, 115, 116, 32, 99, 32, 53, 48, 59, 32, 118, 32, 61, 32, 105, 110, 32, 51, 59, 32, 101, 32, 61, 32, 97, 116, 108, 101, 97, 115, 116, 32, 118, 32, 49, 59, 32, 102, 32, 61, 32, 97, 110, 100, 32, 100, 32, 101, 59, 32, 111, 117, 116, 32, 102, 59, 32, 125]
def t1 : List UInt8 := [102, 108, 111, 119, 32, 120, 32, 49, 32, 123, 32, 97, 32, 61, 32, 105, 110, 32, 52, 59]
def t2 : List UInt8 := [102, 108, 111, 119, 32, 120, 32, 49, 32, 123, 32, 97, 32, 61, 32, 105, 110, 32, 48, 59, 32, 98, 32, 61, 32, 110, 111, 116, 32, 97, 59]
def t3 : List UInt8 := [102, 108, 111, 119, 32, 120, 32, 49, 32, 123, 32, 111, 117, 116, 32, 97, 59, 32, 125]
def t4 : List UInt8 := [102, 108, 111, 119, 32, 120, 32, 49, 32, 123, 32, 97, 32, 61, 32, 105, 110, 32, 48, 59, 32, 111, 117, 116, 32, 97, 59, 32, 125]
def st0 : List FS := [⟨1, 0, 0, 0⟩, ⟨1, 0, 0, 1⟩, ⟨3, 0, 1, 0⟩, ⟨7, 2, 0, 50⟩, ⟨1, 0, 0, 3⟩, ⟨7, 4, 0, 1⟩, ⟨8, 3, 5, 0⟩]
theorem p0 : parseL t0 = .good [102, 97, 115, 116] 2 st0 := by kernel_rfl
theorem p1 : parseL t1 = .bad 9 18 := by kernel_rfl
theorem p2 : parseL t2 = .bad 1 29 := by kernel_rfl
theorem p3 : parseL t3 = .bad 7 15 := by kernel_rfl
theorem p4 : parseL t4 = .bad 1 25 := by kernel_rfl
theorem v0 : validB [102, 97, 115, 116] 2 st0 = true := by kernel_rfl
theorem v1 : validB [] 0 [] = false := by kernel_rfl
end Go.Proofs.YtamabdijeklgjaaDoor.Ext
