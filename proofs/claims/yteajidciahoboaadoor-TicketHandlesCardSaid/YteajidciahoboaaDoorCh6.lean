import Derived.Test.YteajidciahoboaaDoorCh5
-- H9
set_option linter.unusedVariables false
set_option linter.unusedSimpArgs false
namespace Go.Proofs.YteajidciahoboaaDoor.H
open Go.RowKit Go.Shelf Go.Proofs.YteajidciahoboaaDoorW.PrintWords Go.Proofs.YteajidciahoboaaDoorW.PrintLast Go.Proofs.YteajidciahoboaaDoorW.PrintMore Go.Proofs.YteajidciahoboaaDoor.M
attribute [local go_sem] Oper.semAt_some

/-- What the opening holds of its variables. -/
structure OpenSt (w2 W : World) (A : Option Addr) (bs : List Int) (c : Nat) (good : Bool) (y0 y1 y2 y3 : Value) : Prop where
  below : Below w2.heap.size w2 W
  b1 : W.heap[w2.heap.size]? = some (.cells #[.slice A bs.length c] 36 (0, 0))
  b2 : W.heap[w2.heap.size + 1]? = some (.cells #[.bool good] 4 (0, 0))
  b3 : W.heap[w2.heap.size + 1 + 1]? = some (.cells #[y0, y1, y2, y3] 23 (0, 0))
  data : Kd.C (Kd.int .u8) w2 A bs.length bs
  cap : bs.length ≤ c
theorem OpenSt.num {w2 W : World} {A A' : Option Addr} {bs : List Int} {c k nd : Nat} {good g' : Bool} {y0 y1 y2 y3 : Value} (h : OpenSt w2 W A bs c good y0 y1 y2 y3) (hk : k ≤ bs.length) (hd : Kd.C (Kd.int .u8) w2 A' (bs.length - k) (bs.drop k)) :
    OpenSt w2 (((W.drewN nd).setCell ⟨w2.heap.size + 1, 0, none⟩ (.bool g')).setCell ⟨w2.heap.size, 0, none⟩ (.slice A' (bs.length - k) (c - k))) A' (bs.drop k) (c - k) g' y0 y1 y2 y3 := by
  have e : (bs.drop k).length = bs.length - k := List.length_drop
  refine ⟨((pw_below_drewN h.below _).setCell (p := ⟨w2.heap.size + 1, 0, none⟩) (by simp <;> omega) _).setCell (p := ⟨w2.heap.size, 0, none⟩) (by simp <;> omega) _, ?_, ?_, ?_, by rw [e]; exact hd, by rw [e]; have := h.cap; omega⟩
  · rw [e]
    exact blk_set (blk_far (p := ⟨w2.heap.size + 1, 0, none⟩) h.b1 (by simp <;> omega) _) 0 _
  · exact blk_far (p := ⟨w2.heap.size, 0, none⟩) (blk_set h.b2 0 _) (by simp <;> omega) _
  · exact blk_far (p := ⟨w2.heap.size, 0, none⟩) (blk_far (p := ⟨w2.heap.size + 1, 0, none⟩) h.b3 (by simp <;> omega) _) (by simp <;> omega) _
theorem OpenSt.cut {w2 W : World} {A A' : Option Addr} {bs : List Int} {c k : Nat} {good : Bool} {y0 y1 y2 y3 : Value} (h : OpenSt w2 W A bs c good y0 y1 y2 y3) (hk : k ≤ bs.length) (hd : Kd.C (Kd.int .u8) w2 A' (bs.length - k) (bs.drop k)) :
    OpenSt w2 (W.setCell ⟨w2.heap.size, 0, none⟩ (.slice A' (bs.length - k) (c - k))) A' (bs.drop k) (c - k) good y0 y1 y2 y3 := by
  have e : (bs.drop k).length = bs.length - k := List.length_drop
  refine ⟨h.below.setCell (p := ⟨w2.heap.size, 0, none⟩) (by simp <;> omega) _, ?_, ?_, ?_, by rw [e]; exact hd, by rw [e]; have := h.cap; omega⟩
  · rw [e]
    exact blk_set h.b1 0 _
  · exact blk_far (p := ⟨w2.heap.size, 0, none⟩) h.b2 (by simp <;> omega) _
  · exact blk_far (p := ⟨w2.heap.size, 0, none⟩) h.b3 (by simp <;> omega) _
theorem OpenSt.drew {w2 W : World} {A : Option Addr} {bs : List Int} {c : Nat} {good : Bool} {y0 y1 y2 y3 : Value} (h : OpenSt w2 W A bs c good y0 y1 y2 y3) (n : Nat) : OpenSt w2 (W.drewN n) A bs c good y0 y1 y2 y3 :=
  ⟨pw_below_drewN h.below _, h.b1, h.b2, h.b3, h.data, h.cap⟩
theorem OpenSt.put {w2 W : World} {A : Option Addr} {bs : List Int} {c : Nat} {good : Bool} {y0 y1 y2 y3 : Value} (h : OpenSt w2 W A bs c good y0 y1 y2 y3) (i : Nat) (v z0 z1 z2 z3 : Value) (hz : (#[y0, y1, y2, y3] : Array Value).setIfInBounds i v = #[z0, z1, z2, z3]) :
    OpenSt w2 (W.setCell ⟨w2.heap.size + 1 + 1, i, none⟩ v) A bs c good z0 z1 z2 z3 :=
  ⟨h.below.setCell (p := ⟨w2.heap.size + 1 + 1, i, none⟩) (by simp <;> omega) _, blk_far (p := ⟨w2.heap.size + 1 + 1, i, none⟩) h.b1 (by simp <;> omega) _, blk_far (p := ⟨w2.heap.size + 1 + 1, i, none⟩) h.b2 (by simp <;> omega) _, by rw [← hz]; exact blk_set h.b3 i _, h.data, h.cap⟩
theorem OpenSt.facts {w2 W : World} {A : Option Addr} {bs : List Int} {c : Nat} {good : Bool} {y0 y1 y2 y3 : Value} (h : OpenSt w2 W A bs c good y0 y1 y2 y3) :
    W.cell? ⟨w2.heap.size, 0, none⟩ = some (.slice A bs.length c) ∧ W.cell? ⟨w2.heap.size + 1, 0, none⟩ = some (.bool good) ∧ W.frozen? ⟨w2.heap.size, 0, none⟩ = false ∧ W.frozen? ⟨w2.heap.size + 1, 0, none⟩ = false ∧
    W.cell? ⟨w2.heap.size + 1 + 1, 0, none⟩ = some y0 ∧ W.cell? ⟨w2.heap.size + 1 + 1, 1, none⟩ = some y1 ∧ W.cell? ⟨w2.heap.size + 1 + 1, 2, none⟩ = some y2 ∧ W.cell? ⟨w2.heap.size + 1 + 1, 3, none⟩ = some y3 ∧
    W.frozen? ⟨w2.heap.size + 1 + 1, 0, none⟩ = false ∧ W.frozen? ⟨w2.heap.size + 1 + 1, 1, none⟩ = false ∧ W.frozen? ⟨w2.heap.size + 1 + 1, 2, none⟩ = false ∧ W.frozen? ⟨w2.heap.size + 1 + 1, 3, none⟩ = false := by
  obtain ⟨r0, r1, r2, r3, f0, f1, f2, f3⟩ := box4 h.b3
  exact ⟨by rw [Lib.cell_of_heap h.b1]; rfl, by rw [Lib.cell_of_heap h.b2]; rfl, Lib.frozen_of_heap h.b1 0, Lib.frozen_of_heap h.b2 0, r0, r1, r2, r3, f0, f1, f2, f3⟩

theorem rn_form (b : List Int) (hb : isBytes b) : ∃ (x : Int) (k : Nat) (e : Int), rn 0 0 b = (x, (k : Int), e) ∧ k ≤ b.length := by
  have h := rn_range b hb
  refine ⟨(rn 0 0 b).1, (rn 0 0 b).2.1.toNat, (rn 0 0 b).2.2, ?_, by omega⟩
  rw [Int.toNat_of_nonneg h.2.2.1]
theorem rt_form (b : List Int) (hb : isBytes b) (hl : b.length < 1000000000) : ∃ (g : ByteArray) (k : Nat) (e : Int), rt b = (g, (k : Int), e) ∧ k ≤ b.length := by
  have h := rt_range b hb hl
  refine ⟨(rt b).1, (rt b).2.1.toNat, (rt b).2.2, ?_, by omega⟩
  rw [Int.toNat_of_nonneg h.1]

set_option maxHeartbeats 8000000 in
set_option maxRecDepth 100000 in
/-- ticket.Open of a frame that fills the text. -/
theorem open_full (s : ByteArray) (f b : List Int) (hf : isBytes f) (hfl : f.length ≤ 1000000) (hu : unframe f = some b) (hlen : 12 + b.length = f.length) (K : Nat) (hK : P.basic_Decode.f K s = some (f, 0)) (w : World) (hT : HalfAt w) (hb : isBytes b) :
    Calls Tryd.prog 9 #[.string s] w fun en w' => ((readsWell b ∧ en = .returned (answer (some (readAs b)))) ∨ (¬ readsWell b ∧ en = .returned (answer none))) ∧ Below w.heap.size w w' := by
  have HT := Aside0.mk hT
  have HK := Aside0.mk hK
  have HU := Aside0.mk hu
  have HF := Aside0.mk hf
  have HBB := Aside0.mk hb
  have hlen' : (12 + (b.length : Int) != (f.length : Int)) = false := by rw [bne_eq_false_iff_eq]; omega
  have hmf : ∀ (fn : Fn) (first cap : Array Value) (w : World), (Instr.makeFunc fn first cap).run Tryd.prog w = .ok (.func fn first cap) w := fun _ _ _ _ => rfl
  obtain ⟨x1, k1, e1, hrn1, h1⟩ := rn_form b hb
  obtain ⟨b1, hb1'⟩ : ∃ l, b.drop k1 = l := ⟨_, rfl⟩
  have hbb1 : isBytes b1 := by rw [← hb1']; exact isBytes_drop _ hb
  have hl1 : b1.length ≤ b.length := by rw [← hb1', List.length_drop]; omega
  obtain ⟨g, kt, et, hrt, ht⟩ := rt_form b1 hbb1 (by omega)
  obtain ⟨b2, hb2'⟩ : ∃ l, b1.drop kt = l := ⟨_, rfl⟩
  have hbb2 : isBytes b2 := by rw [← hb2']; exact isBytes_drop _ hbb1
  have hl2 : b2.length ≤ b1.length := by rw [← hb2', List.length_drop]; omega
  obtain ⟨x3, k3, e3, hrn3, h3⟩ := rn_form b2 hbb2
  obtain ⟨b3, hb3'⟩ : ∃ l, b2.drop k3 = l := ⟨_, rfl⟩
  have hbb3 : isBytes b3 := by rw [← hb3']; exact isBytes_drop _ hbb2
  have hl3 : b3.length ≤ b2.length := by rw [← hb3', List.length_drop]; omega
  obtain ⟨x4, k4, e4, hrn4, h4⟩ := rn_form b3 hbb3
  obtain ⟨b4, hb4'⟩ : ∃ l, b3.drop k4 = l := ⟨_, rfl⟩
  obtain ⟨KT, hKT⟩ := (octet_rt b1 hbb1 (by omega)).get
  rw [hrt] at hKT
  have e1' : rest1 b = b1 := by unfold rest1; rw [hrn1]; exact hb1'
  have e2' : rest2 b = b2 := by unfold rest2; rw [e1', hrt]; exact hb2'
  have e3' : rest3 b = b3 := by unfold rest3; rw [e2', hrn3]; exact hb3'
  have e4' : rest4 b = b4 := by unfold rest4; rw [e3', hrn4]; exact hb4'
  have HRW : Aside0 (readsWell b ↔ (e1 = 0 ∧ x1 ≤ 1099511627776 ∧ et = 0 ∧ e3 = 0 ∧ x3 ≤ 1099511627776 ∧ e4 = 0 ∧ x4 ≤ 1099511627776 ∧ b4 = [] ∧ g.size ≤ 32)) := ⟨by unfold readsWell; rw [e1', e2', e3', e4', hrn1, hrt, hrn3, hrn4]⟩
  have HRA : Aside0 (readAs b = ⟨x1, g, x3, x4⟩) := ⟨by unfold readAs; rw [e1', e2', e3', hrn1, hrt, hrn3, hrn4]⟩
  clear e1' e2' e3' e4'
  have HRN1 := Aside0.mk hrn1
  have HRT := Aside0.mk hrt
  have HRN3 := Aside0.mk hrn3
  have HRN4 := Aside0.mk hrn4
  have HB1' := Aside0.mk hb1'
  have HB2' := Aside0.mk hb2'
  have HB3' := Aside0.mk hb3'
  have HB4' := Aside0.mk hb4'
  have HBB2 := Aside0.mk hbb2
  have HBB3 := Aside0.mk hbb3
  have HKT := Aside0.mk hKT
  clear hT hK hu hf hb hrn1 hrt hrn3 hrn4 hb1' hb2' hb3' hb4' hbb1 hbb2 hbb3 hKT
  go_enter Tryd.func9, Tryd.ntmps9
  have hk0 : (w.alloc (.cells #[.int .i64 0, .string ⟨#[]⟩, .int .i64 0, .int .i64 0] 23)).heap[w.heap.size]? = some (.cells #[.int .i64 0, .string ⟨#[]⟩, .int .i64 0, .int .i64 0] 23 (0, 0)) := heap_new _ _
  go_wp2_with (
    go_at_call 27
    refine (P.basic_Decode.calls K s _ _ _ HK.out).mono ?_
    rintro en w1 ⟨v1, rfl, ho1, hb1⟩
    have hk1 : w1.heap[w.heap.size]? = some (.cells #[.int .i64 0, .string ⟨#[]⟩, .int .i64 0, .int .i64 0] 23 (0, 0)) := (hb1.block _ (by simp)).trans hk0
    have HB1 := Aside0.mk (below_step (below_alloc (Below.refl _ _) _) hb1)
    obtain ⟨a1, c1, rfl, hc1, hr1⟩ := own_some ho1 (by intro h; rw [h] at hlen; simp at hlen)
    have HC1 := Aside0.mk hc1
    have HR1 := Aside0.mk hr1
    clear hb1 ho1 hc1 hr1)
  go_wp2_with (
    go_at_call 28
    refine (next_good a1 c1 f w1 (HT.out.below HB1.out) HR1.out HC1.out HF.out hfl b HU.out).mono ?_
    rintro en w2 ⟨v2, rfl, ho2, hb2⟩
    have hk2 : w2.heap[w.heap.size]? = some (.cells #[.int .i64 0, .string ⟨#[]⟩, .int .i64 0, .int .i64 0] 23 (0, 0)) := (hb2.block _ (cells_lt hk1)).trans hk1
    have HB2 := Aside0.mk (below_step HB1.out hb2)
    obtain ⟨A2, c2, rfl, hc2, hr2⟩ := Kd.R_reads ho2
    have HC2 := Aside0.mk hc2
    have HR2 := Aside0.mk hr2
    clear hb2 ho2 hc2 hr2)
  have hB : ∀ o1 o2 o3, Below w2.heap.size w2 (((w2.alloc o1).alloc o2).alloc o3) := fun _ _ _ => below_alloc (below_alloc (below_alloc (Below.refl _ _) _) _) _
  have st2 : OpenSt w2 (((w2.alloc (.cells #[.slice A2 b.length c2] 36)).alloc (.cells #[.bool true] 4)).alloc (.cells #[.int .i64 0, .string ⟨#[]⟩, .int .i64 0, .int .i64 0] 23)) A2 b c2 true (.int .i64 0) (.string ⟨#[]⟩) (.int .i64 0) (.int .i64 0) :=
    ⟨hB _ _ _, (heap_old _ _ _ (by simp <;> omega)).trans ((heap_old _ _ _ (by simp <;> omega)).trans (heap_new _ _)), (heap_old _ _ _ (by simp)).trans (heap_new1 _ _ _), heap_new2 _ _ _ _, HR2.out, HC2.out⟩
  refine (num_open w2 _ st2.below _ _ (by simp) A2 c2 b true st2.b1 st2.b2 st2.data st2.cap HBB.out (by omega) x1 k1 e1 HRN1.out h1).mono ?_
  rintro en w3 ⟨rfl, A3, nd3, hw3, hr3⟩
  have st3 := st2.num (nd := nd3) (g' := true && decide (e1 = 0) && decide (x1 ≤ 1099511627776)) h1 hr3
  rw [← hw3, HB1'.out] at st3
  clear hw3 hr3 st2 hB
  obtain ⟨gd1, hgd1⟩ : ∃ gd, (true && decide (e1 = 0) && decide (x1 ≤ 1099511627776)) = gd := ⟨_, rfl⟩
  rw [hgd1] at st3
  have HGD1 := Aside0.mk hgd1
  clear hgd1
  have st3' := st3.put 0 (.int .i64 x1) (.int .i64 x1) (.string ⟨#[]⟩) (.int .i64 0) (.int .i64 0) rfl
  have F3 := st3.facts
  have F3' := st3'.facts
  have ST3 := Aside0.mk st3'
  obtain ⟨p0, p1, p2, p3, p4, p5, p6, p7, p8, p9, p10, p11⟩ := F3
  obtain ⟨q0, q1, q2, q3, q4, q5, q6, q7, q8, q9, q10, q11⟩ := F3'
  obtain ⟨A4, hcut, hcr⟩ := cut_any A3 b1.length (c2 - k1) kt ht st3.cap
  have HCR := Aside0.mk hcr
  clear st3 st3' hcr
  go_wp2_with (
    go_at_call 31
    refine (P.octet_ReadText.calls KT A3 (c2 - k1) b1 g kt et _ (Kd.C_below ST3.out.data ST3.out.below) ST3.out.cap HKT.out).mono ?_
    rintro en w4 ⟨rfl, nd4, hw4⟩
    have st4 := ST3.out.drew nd4
    rw [← hw4] at st4
    clear hw4 p0 p1 p2 p3 p4 p5 p6 p7 p8 p9 p10 p11 q0 q1 q2 q3 q4 q5 q6 q7 q8 q9 q10 q11
    have st4' := st4.cut ht (HCR.out _ _ st4.data)
    rw [HB2'.out] at st4'
    have st4'' := st4'.put 1 (.string g) (.int .i64 x1) (.string g) (.int .i64 0) (.int .i64 0) rfl
    have ST4 := Aside0.mk st4''
    obtain ⟨p0, p1, p2, p3, p4, p5, p6, p7, p8, p9, p10, p11⟩ := st4.facts
    obtain ⟨q0, q1, q2, q3, q4, q5, q6, q7, q8, q9, q10, q11⟩ := st4'.facts
    obtain ⟨s0, s1, s2, s3, s4, s5, s6, s7, s8, s9, s10, s11⟩ := st4''.facts
    clear st4 st4' st4'')
  refine (num_open w2 _ ST4.out.below _ _ (by simp) A4 (c2 - k1 - kt) b2 gd1 ST4.out.b1 ST4.out.b2 ST4.out.data ST4.out.cap HBB2.out (by omega) x3 k3 e3 HRN3.out h3).mono ?_
  rintro en w5 ⟨rfl, A5, nd5, hw5, hr5⟩
  have st5 := ST4.out.num (nd := nd5) (g' := gd1 && decide (e3 = 0) && decide (x3 ≤ 1099511627776)) h3 hr5
  rw [← hw5, HB3'.out] at st5
  clear hw5 hr5 p0 p1 p2 p3 p4 p5 p6 p7 p8 p9 p10 p11 q0 q1 q2 q3 q4 q5 q6 q7 q8 q9 q10 q11 s0 s1 s2 s3 s4 s5 s6 s7 s8 s9 s10 s11
  obtain ⟨gd2, hgd2⟩ : ∃ gd, (gd1 && decide (e3 = 0) && decide (x3 ≤ 1099511627776)) = gd := ⟨_, rfl⟩
  rw [hgd2] at st5
  have HGD2 := Aside0.mk hgd2
  clear hgd2
  have st5' := st5.put 2 (.int .i64 x3) (.int .i64 x1) (.string g) (.int .i64 x3) (.int .i64 0) rfl
  have ST5 := Aside0.mk st5'
  obtain ⟨p0, p1, p2, p3, p4, p5, p6, p7, p8, p9, p10, p11⟩ := st5.facts
  obtain ⟨q0, q1, q2, q3, q4, q5, q6, q7, q8, q9, q10, q11⟩ := st5'.facts
  clear st5 st5'
  go_wp2_with (fail)
  refine (num_open w2 _ ST5.out.below _ _ (by simp) A5 (c2 - k1 - kt - k3) b3 gd2 ST5.out.b1 ST5.out.b2 ST5.out.data ST5.out.cap HBB3.out (by omega) x4 k4 e4 HRN4.out h4).mono ?_
  rintro en w6 ⟨rfl, A6, nd6, hw6, hr6⟩
  have st6 := ST5.out.num (nd := nd6) (g' := gd2 && decide (e4 = 0) && decide (x4 ≤ 1099511627776)) h4 hr6
  rw [← hw6, HB4'.out] at st6
  clear hw6 hr6 p0 p1 p2 p3 p4 p5 p6 p7 p8 p9 p10 p11 q0 q1 q2 q3 q4 q5 q6 q7 q8 q9 q10 q11
  obtain ⟨gd3, hgd3⟩ : ∃ gd, (gd2 && decide (e4 = 0) && decide (x4 ≤ 1099511627776)) = gd := ⟨_, rfl⟩
  rw [hgd3] at st6
  have HGD3 := Aside0.mk hgd3
  clear hgd3
  have st6' := st6.put 3 (.int .i64 x4) (.int .i64 x1) (.string g) (.int .i64 x3) (.int .i64 x4) rfl
  have ST6 := Aside0.mk st6'
  obtain ⟨p0, p1, p2, p3, p4, p5, p6, p7, p8, p9, p10, p11⟩ := st6.facts
  obtain ⟨q0, q1, q2, q3, q4, q5, q6, q7, q8, q9, q10, q11⟩ := st6'.facts
  have hk6 := (st6'.below.block _ (cells_lt hk2)).trans hk2
  obtain ⟨r0, r1, r2, r3, f0, f1, f2, f3⟩ := box4 hk6
  have HB6 := Aside0.mk (below_step HB2.out st6'.below)
  clear st6 st6'
  rcases Bool.eq_false_or_eq_true gd3 with hgd | hgd
  case inr =>
    subst hgd
    go_wp2
    refine bodyPost_ret (results_open _ _ w.heap.size (.int .i64 0) (.string ⟨#[]⟩) (.int .i64 0) (.int .i64 0) (.int .i64 12) (put4_heap _ _ _ _ hk6) rfl rfl) rfl ⟨.inr ⟨?_, rfl⟩, put4_below _ _ _ _ HB6.out (Nat.le_refl _)⟩
    rw [HRW.out]
    rintro ⟨g1, g2, g3, g4, g5, g6, g7, g8, g9⟩
    have := HGD3.out
    rw [← HGD2.out, ← HGD1.out, decide_eq_true g1, decide_eq_true g2, decide_eq_true g4, decide_eq_true g5, decide_eq_true g6, decide_eq_true g7] at this
    cases this
  subst hgd
  by_cases hc1 : et = 0
  case neg =>
    have hc1' : (et != 0) = true := bne_iff_ne.2 hc1
    go_wp2
    refine bodyPost_ret (results_open _ _ w.heap.size (.int .i64 0) (.string ⟨#[]⟩) (.int .i64 0) (.int .i64 0) (.int .i64 12) (put4_heap _ _ _ _ hk6) rfl rfl) rfl ⟨.inr ⟨?_, rfl⟩, put4_below _ _ _ _ HB6.out (Nat.le_refl _)⟩
    rw [HRW.out]
    exact fun h => hc1 h.2.2.1
  have hc1' : (et != 0) = false := bne_eq_false_iff_eq.2 hc1
  have HC1' := Aside0.mk hc1
  clear hc1
  by_cases hc2 : 0 < b4.length
  case pos =>
    have hc2' : decide ((0 : Int) < (b4.length : Int)) = true := decide_eq_true (by omega)
    go_wp2
    refine bodyPost_ret (results_open _ _ w.heap.size (.int .i64 0) (.string ⟨#[]⟩) (.int .i64 0) (.int .i64 0) (.int .i64 12) (put4_heap _ _ _ _ hk6) rfl rfl) rfl ⟨.inr ⟨?_, rfl⟩, put4_below _ _ _ _ HB6.out (Nat.le_refl _)⟩
    rw [HRW.out]
    intro h
    have := h.2.2.2.2.2.2.2.1
    rw [this] at hc2
    simp at hc2
  have hc2' : decide ((0 : Int) < (b4.length : Int)) = false := decide_eq_false (by omega)
  by_cases hc3 : 32 < g.size
  case pos =>
    have hc3' : decide ((32 : Int) < (g.size : Int)) = true := decide_eq_true (by omega)
    go_wp2
    refine bodyPost_ret (results_open _ _ w.heap.size (.int .i64 0) (.string ⟨#[]⟩) (.int .i64 0) (.int .i64 0) (.int .i64 12) (put4_heap _ _ _ _ hk6) rfl rfl) rfl ⟨.inr ⟨?_, rfl⟩, put4_below _ _ _ _ HB6.out (Nat.le_refl _)⟩
    rw [HRW.out]
    intro h
    have := h.2.2.2.2.2.2.2.2
    omega
  have hc3' : decide ((32 : Int) < (g.size : Int)) = false := decide_eq_false (by omega)
  go_wp2
  refine bodyPost_ret (results_open _ _ w.heap.size (.int .i64 x1) (.string g) (.int .i64 x3) (.int .i64 x4) (.int .i64 0) (put4_heap _ _ _ _ hk6) rfl rfl) rfl ⟨.inl ⟨?_, by rw [HRA.out]; rfl⟩, put4_below _ _ _ _ HB6.out (Nat.le_refl _)⟩
  rw [HRW.out]
  have h := HGD3.out
  rw [← HGD2.out, ← HGD1.out] at h
  simp only [Bool.and_eq_true, decide_eq_true_eq, true_and] at h
  obtain ⟨⟨⟨⟨⟨g1, g2⟩, g4⟩, g5⟩, g6⟩, g7⟩ := h
  exact ⟨g1, g2, HC1'.out, g4, g5, g6, g7, List.eq_nil_of_length_eq_zero (by omega), by omega⟩
end Go.Proofs.YteajidciahoboaaDoor.H
-- H10
set_option linter.unusedVariables false
set_option linter.unusedSimpArgs false
namespace Go.Proofs.YteajidciahoboaaDoor.H
open Go.RowKit Go.Shelf Go.Proofs.YteajidciahoboaaDoorW.PrintWords Go.Proofs.YteajidciahoboaaDoorW.PrintLast Go.Proofs.YteajidciahoboaaDoorW.PrintMore Go.Proofs.YteajidciahoboaaDoor.M
attribute [local go_sem] Oper.semAt_some

set_option maxHeartbeats 8000000 in
set_option maxRecDepth 100000 in
/-- ticket.Open of bytes that are no frame, or of a frame with something behind. -/
theorem open_unframed (s : ByteArray) (f : List Int) (hf : isBytes f) (hfl : f.length ≤ 1000000) (hu : ∀ b, unframe f = some b → 12 + b.length ≠ f.length) (K : Nat) (hK : P.basic_Decode.f K s = some (f, 0)) (w : World) (hT : HalfAt w) :
    Calls Tryd.prog 9 #[.string s] w fun en w' => en = .returned (answer none) ∧ Below w.heap.size w w' := by
  have HT := Aside0.mk hT
  have HK := Aside0.mk hK
  have HU := Aside0.mk hu
  have HF := Aside0.mk hf
  clear hT hK hu hf
  by_cases h12 : f.length < 12
  · go_enter Tryd.func9, Tryd.ntmps9
    have hk0 : (w.alloc (.cells #[.int .i64 0, .string ⟨#[]⟩, .int .i64 0, .int .i64 0] 23)).heap[w.heap.size]? = some (.cells #[.int .i64 0, .string ⟨#[]⟩, .int .i64 0, .int .i64 0] 23 (0, 0)) := heap_new _ _
    go_wp2_with (
      go_at_call 27
      refine (P.basic_Decode.calls K s _ _ _ HK.out).mono ?_
      rintro en w1 ⟨v1, rfl, ho1, hb1⟩
      have hk1 : w1.heap[w.heap.size]? = some (.cells #[.int .i64 0, .string ⟨#[]⟩, .int .i64 0, .int .i64 0] 23 (0, 0)) := (hb1.block _ (by simp)).trans hk0
      have HB1 := Aside0.mk (below_step (below_alloc (Below.refl _ _) _) hb1)
      obtain ⟨A1, c1, rfl, hc1, hr1⟩ := Kd.R_reads ho1
      clear hb1 ho1 hc1 hr1)
    go_wp2_with (
      go_at_call 28
      refine (next_short A1 f.length c1 w1 h12).mono ?_
      rintro en w2 ⟨rfl, hw2⟩
      rw [hw2] at hk1 HB1
      clear hw2
      have hk2 : (w2.alloc (.cells #[.slice none 0 0] 36)).heap[w.heap.size]? = some (.cells #[.int .i64 0, .string ⟨#[]⟩, .int .i64 0, .int .i64 0] 23 (0, 0)) := (heap_old _ _ _ (cells_lt hk1)).trans hk1
      have HB2 := Aside0.mk (below_alloc HB1.out (.cells #[.slice none 0 0] 36))
      obtain ⟨r0, r1, r2, r3, f0, f1, f2, f3⟩ := box4 hk2)
    refine bodyPost_ret (results_open _ _ w.heap.size (.int .i64 0) (.string ⟨#[]⟩) (.int .i64 0) (.int .i64 0) (.int .i64 12) (put4_heap _ _ _ _ hk2) rfl rfl) rfl ⟨rfl, put4_below _ _ _ _ HB2.out (Nat.le_refl _)⟩
  · cases hub : unframe f with
    | none =>
      have HUB := Aside0.mk hub
      clear hub
      go_enter Tryd.func9, Tryd.ntmps9
      have hk0 : (w.alloc (.cells #[.int .i64 0, .string ⟨#[]⟩, .int .i64 0, .int .i64 0] 23)).heap[w.heap.size]? = some (.cells #[.int .i64 0, .string ⟨#[]⟩, .int .i64 0, .int .i64 0] 23 (0, 0)) := heap_new _ _
      go_wp2_with (
        go_at_call 27
        refine (P.basic_Decode.calls K s _ _ _ HK.out).mono ?_
        rintro en w1 ⟨v1, rfl, ho1, hb1⟩
        have hk1 : w1.heap[w.heap.size]? = some (.cells #[.int .i64 0, .string ⟨#[]⟩, .int .i64 0, .int .i64 0] 23 (0, 0)) := (hb1.block _ (by simp)).trans hk0
        have HB1 := Aside0.mk (below_step (below_alloc (Below.refl _ _) _) hb1)
        obtain ⟨a1, c1, rfl, hc1, hr1⟩ := own_some ho1 (by intro h; rw [h] at h12; simp at h12)
        have HC1 := Aside0.mk hc1
        have HR1 := Aside0.mk hr1
        clear hb1 ho1 hc1 hr1)
      go_wp2_with (
        go_at_call 28
        refine (next_bad a1 c1 f w1 (HT.out.below HB1.out) HR1.out HC1.out HF.out hfl (Nat.le_of_not_lt h12) HUB.out).mono ?_
        rintro en w2 ⟨code, hcode, rfl, hb2⟩
        have hk1' : w2.heap[w.heap.size]? = some (.cells #[.int .i64 0, .string ⟨#[]⟩, .int .i64 0, .int .i64 0] 23 (0, 0)) := (hb2.block _ (cells_lt hk1)).trans hk1
        have hcode' : (code != 0) = true := bne_iff_ne.2 hcode
        have hk2 : (w2.alloc (.cells #[.slice none 0 0] 36)).heap[w.heap.size]? = some (.cells #[.int .i64 0, .string ⟨#[]⟩, .int .i64 0, .int .i64 0] 23 (0, 0)) := (heap_old _ _ _ (cells_lt hk1')).trans hk1'
        have HB2 := Aside0.mk (below_alloc (below_step HB1.out hb2) (.cells #[.slice none 0 0] 36))
        clear hb2 hcode
        obtain ⟨r0, r1, r2, r3, f0, f1, f2, f3⟩ := box4 hk2)
      refine bodyPost_ret (results_open _ _ w.heap.size (.int .i64 0) (.string ⟨#[]⟩) (.int .i64 0) (.int .i64 0) (.int .i64 12) (put4_heap _ _ _ _ hk2) rfl rfl) rfl ⟨rfl, put4_below _ _ _ _ HB2.out (Nat.le_refl _)⟩
    | some b =>
      have hne := HU.out b hub
      have hlen' : (12 + (b.length : Int) != (f.length : Int)) = true := by rw [bne_iff_ne]; omega
      have HUB := Aside0.mk hub
      clear hub hne
      go_enter Tryd.func9, Tryd.ntmps9
      have hk0 : (w.alloc (.cells #[.int .i64 0, .string ⟨#[]⟩, .int .i64 0, .int .i64 0] 23)).heap[w.heap.size]? = some (.cells #[.int .i64 0, .string ⟨#[]⟩, .int .i64 0, .int .i64 0] 23 (0, 0)) := heap_new _ _
      go_wp2_with (
        go_at_call 27
        refine (P.basic_Decode.calls K s _ _ _ HK.out).mono ?_
        rintro en w1 ⟨v1, rfl, ho1, hb1⟩
        have hk1 : w1.heap[w.heap.size]? = some (.cells #[.int .i64 0, .string ⟨#[]⟩, .int .i64 0, .int .i64 0] 23 (0, 0)) := (hb1.block _ (by simp)).trans hk0
        have HB1 := Aside0.mk (below_step (below_alloc (Below.refl _ _) _) hb1)
        obtain ⟨a1, c1, rfl, hc1, hr1⟩ := own_some ho1 (by intro h; rw [h] at h12; simp at h12)
        have HC1 := Aside0.mk hc1
        have HR1 := Aside0.mk hr1
        clear hb1 ho1 hc1 hr1)
      go_wp2_with (
        go_at_call 28
        refine (next_good a1 c1 f w1 (HT.out.below HB1.out) HR1.out HC1.out HF.out hfl b HUB.out).mono ?_
        rintro en w2 ⟨v2, rfl, ho2, hb2⟩
        have hk1' : w2.heap[w.heap.size]? = some (.cells #[.int .i64 0, .string ⟨#[]⟩, .int .i64 0, .int .i64 0] 23 (0, 0)) := (hb2.block _ (cells_lt hk1)).trans hk1
        have hk2 : (w2.alloc (.cells #[v2] 36)).heap[w.heap.size]? = some (.cells #[.int .i64 0, .string ⟨#[]⟩, .int .i64 0, .int .i64 0] 23 (0, 0)) := (heap_old _ _ _ (cells_lt hk1')).trans hk1'
        have HB2 := Aside0.mk (below_alloc (below_step HB1.out hb2) (.cells #[v2] 36))
        obtain ⟨A2, c2, rfl, hc2, hr2⟩ := Kd.R_reads ho2
        clear hb2 ho2 hc2 hr2
        obtain ⟨r0, r1, r2, r3, f0, f1, f2, f3⟩ := box4 hk2)
      refine bodyPost_ret (results_open _ _ w.heap.size (.int .i64 0) (.string ⟨#[]⟩) (.int .i64 0) (.int .i64 0) (.int .i64 12) (put4_heap _ _ _ _ hk2) rfl rfl) rfl ⟨rfl, put4_below _ _ _ _ HB2.out (Nat.le_refl _)⟩
end Go.Proofs.YteajidciahoboaaDoor.H
-- P11
set_option linter.unusedVariables false
set_option linter.unusedSimpArgs false
namespace Go.Proofs.YteajidciahoboaaDoor.H
open Go.RowKit Go.Shelf Go.Proofs.YteajidciahoboaaDoorW.PrintWords Go.Proofs.YteajidciahoboaaDoorW.PrintLast Go.Proofs.YteajidciahoboaaDoorW.PrintMore Go.Proofs.YteajidciahoboaaDoor.M

theorem le4_four (n : Nat) (r : List Int) (hn : n < 4294967296) : le4 (four n ++ r) = n := by
  have e : four n ++ r = ((n % 256 : Nat) : Int) :: ((n / 256 % 256 : Nat) : Int) :: ((n / 65536 % 256 : Nat) : Int) :: ((n / 16777216 % 256 : Nat) : Int) :: r := rfl
  unfold le4
  rw [e]
  simp only [List.getD_cons_zero, List.getD_cons_succ, Int.toNat_natCast]
  omega
theorem four_le4 (xs : List Int) (hb : isBytes xs) (hl : 4 ≤ xs.length) : four (le4 xs) = xs.take 4 := by
  match xs, hl with
  | a :: b :: c :: d :: r, _ =>
    have ha := hb a (by simp)
    have hb' := hb b (by simp)
    have hc := hb c (by simp)
    have hd := hb d (by simp)
    unfold four le4
    simp only [List.getD_cons_zero, List.getD_cons_succ, List.take_succ_cons, List.take_zero, List.cons.injEq, and_true]
    refine ⟨?_, ?_, ?_, ?_⟩ <;> omega
theorem take4 (n : Nat) (r : List Int) : (four n ++ r).take 4 = four n := rfl
theorem drop4 (n : Nat) (r : List Int) : (four n ++ r).drop 4 = r := rfl
theorem unframe_frame (b : List Int) (hb : isBytes b) (hl : b.length ≤ 65536) : unframe (frame b) = some b := by
  have s4 := crcSum_lt _ (isBytes.nats (four_bytes b.length))
  have sx := crcSum_lt _ (isBytes.nats hb)
  have h1 : le4 (frame b) = b.length := le4_four _ _ (by omega)
  have h2 : (frame b).take 4 = four b.length := rfl
  have h3 : le4 ((frame b).drop 4) = crcSum (nats (four b.length)) := le4_four _ _ s4
  have h4 : le4 ((frame b).drop 8) = crcSum (nats b) := le4_four _ _ sx
  have h5 : (frame b).drop 12 = b := rfl
  have h6 := frame_len b
  unfold unframe
  rw [h1, h2, h3, h4, h5, h6, List.take_length, if_pos ⟨by omega, rfl, hl, by omega, rfl⟩]
theorem frame_unframe (f b : List Int) (hf : isBytes f) (hu : unframe f = some b) (hlen : 12 + b.length = f.length) : f = frame b ∧ b.length ≤ 65536 ∧ isBytes b := by
  unfold unframe at hu
  split at hu
  case isFalse => cases hu
  rename_i hg
  obtain ⟨h1, h2, h3, h4, h5⟩ := hg
  have hb := Option.some.inj hu
  clear hu
  have hbl : b.length = le4 f := by rw [← hb, List.length_take, List.length_drop, Nat.min_eq_left h4]
  have hb12 : f.drop 12 = b := by
    rw [← hb, List.take_of_length_le]
    rw [List.length_drop]
    omega
  have e4 := four_le4 f hf (by omega)
  have e8 := four_le4 (f.drop 4) (isBytes_drop _ hf) (by rw [List.length_drop]; omega)
  have e12 := four_le4 (f.drop 8) (isBytes_drop _ hf) (by rw [List.length_drop]; omega)
  rw [hb] at h5
  refine ⟨?_, by omega, by rw [← hb12]; exact isBytes_drop _ hf⟩
  unfold frame
  rw [hbl, e4, h2, e8, h5, e12, ← hb12]
  have a : (f.drop 8).take 4 ++ f.drop 12 = f.drop 8 := by
    have := List.take_append_drop 4 (f.drop 8)
    rwa [List.drop_drop] at this
  have b' : (f.drop 4).take 4 ++ f.drop 8 = f.drop 4 := by
    have := List.take_append_drop 4 (f.drop 4)
    rwa [List.drop_drop] at this
  rw [a, b', List.take_append_drop]
theorem encode_ge (f : List Int) : f.length ≤ (encode f).length := by
  match f with
  | [] => simp
  | [_] => show 1 ≤ 4; decide
  | [_, _] => show 2 ≤ 4; decide
  | a :: b :: c :: r =>
    have ih := encode_ge r
    have : encode (a :: b :: c :: r) = enc3 [a, b, c] ++ encode r := rfl
    rw [this, List.length_append]
    show r.length + 3 ≤ 4 + _
    omega
/-- A handle, and what is told of it. -/
def IsHandle (cs : List Int) (r : Rc) : Prop := r.fine ∧ cs = encode (frame r.body)
theorem prog_open (cs : List Int) (hb : isBytes cs) (hl : cs.length ≤ 131072) :
    (∃ r, IsHandle cs r ∧ ∀ w, HalfAt w → Calls Tryd.prog 9 #[.string (strOfNums cs)] w fun en w' => en = .returned (answer (some r)) ∧ Below w.heap.size w w') ∨
    ((∀ r, ¬ IsHandle cs r) ∧ ∀ w, HalfAt w → Calls Tryd.prog 9 #[.string (strOfNums cs)] w fun en w' => en = .returned (answer none) ∧ Below w.heap.size w w') := by
  rcases prog_dec cs hb hl with ⟨f, hf, hcs, hev⟩ | ⟨hno, hev⟩
  case inr =>
    obtain ⟨K, hK⟩ := hev.get
    exact .inr ⟨fun r hr => hno _ (frame_bytes (body_bytes r)) hr.2, fun w hT => open_undec _ 5 (by decide) K hK w⟩
  obtain ⟨K, hK⟩ := hev.get
  have hfl : f.length ≤ 1000000 := by have := encode_ge f; rw [← hcs] at this; omega
  have hsame : ∀ r, IsHandle cs r → f = frame r.body := fun r hr => encode_inj hf (frame_bytes (body_bytes r)) (by rw [← hcs, hr.2])
  by_cases hu : ∃ b, unframe f = some b ∧ 12 + b.length = f.length
  case neg =>
    refine .inr ⟨fun r hr => hu ⟨r.body, ?_, ?_⟩, fun w hT => open_unframed _ f hf hfl (fun b h1 h2 => hu ⟨b, h1, h2⟩) K hK w hT⟩
    · rw [hsame r hr, unframe_frame _ (body_bytes r) (by have := body_len r hr.1; omega)]
    · rw [hsame r hr, frame_len]; omega
  obtain ⟨b, hu1, hu2⟩ := hu
  obtain ⟨hfr, hbl, hbb⟩ := frame_unframe f b hf hu1 hu2
  by_cases hw : readsWell b
  · obtain ⟨hfine, hbody⟩ := body_reads b hbb (by omega) hw
    refine .inl ⟨readAs b, ⟨hfine, by rw [hcs, hfr, ← hbody]⟩, fun w hT => (open_full _ f b hf hfl hu1 hu2 K hK w hT hbb).mono ?_⟩
    rintro e w' ⟨h | h, hB⟩
    · exact ⟨h.2, hB⟩
    · exact absurd hw h.1
  · refine .inr ⟨fun r hr => hw ?_, fun w hT => (open_full _ f b hf hfl hu1 hu2 K hK w hT hbb).mono ?_⟩
    · have h1 := hsame r hr
      have h2 : b = r.body := by
        have h3 := unframe_frame _ (body_bytes r) (by have := body_len r hr.1; omega)
        rw [← h1, hu1] at h3
        exact Option.some.inj h3
      rw [h2]
      exact (reads_body r hr.1).1
    · rintro e w' ⟨h | h, hB⟩
      · exact absurd h.1 hw
      · exact ⟨h.2, hB⟩
theorem handle_unique {cs : List Int} {r r' : Rc} (h : IsHandle cs r) (h' : IsHandle cs r') : r = r' := by
  have h1 : frame r.body = frame r'.body := encode_inj (frame_bytes (body_bytes r)) (frame_bytes (body_bytes r')) (by rw [← h.2, h'.2])
  have h2 : r.body = r'.body := congrArg (List.drop 12) h1
  rw [← (reads_body r h.1).2, ← (reads_body r' h'.1).2, h2]
end Go.Proofs.YteajidciahoboaaDoor.H
