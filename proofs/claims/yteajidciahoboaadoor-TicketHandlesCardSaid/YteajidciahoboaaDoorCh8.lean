import Derived.Test.YteajidciahoboaaDoorCh7
import Derived.Test.YteajidciahoboaaDoorCh1
import Derived.Test.YteajidciahoboaaDoorCh5
-- H12
set_option linter.unusedVariables false
set_option linter.unusedSimpArgs false
namespace Go.Proofs.YteajidciahoboaaDoor.H
open Go.RowKit Go.Shelf Go.Proofs.YteajidciahoboaaDoorW.PrintWords Go.Proofs.YteajidciahoboaaDoorW.PrintLast Go.Proofs.YteajidciahoboaaDoorW.PrintMore Go.Proofs.YteajidciahoboaaDoor.M
attribute [local go_sem] Oper.semAt_some

/-- What the reference's opening holds of its receipt. -/
structure RefSt (w2 W : World) (y0 y1 y2 y3 : Value) : Prop where
  below : Below w2.heap.size w2 W
  b3 : W.heap[w2.heap.size]? = some (.cells #[y0, y1, y2, y3] 23 (0, 0))
theorem RefSt.drew {w2 W : World} {y0 y1 y2 y3 : Value} (h : RefSt w2 W y0 y1 y2 y3) (n : Nat) : RefSt w2 (W.drewN n) y0 y1 y2 y3 := ⟨pw_below_drewN h.below _, h.b3⟩
theorem RefSt.put {w2 W : World} {y0 y1 y2 y3 : Value} (h : RefSt w2 W y0 y1 y2 y3) (i : Nat) (v z0 z1 z2 z3 : Value) (hz : (#[y0, y1, y2, y3] : Array Value).setIfInBounds i v = #[z0, z1, z2, z3]) :
    RefSt w2 (W.setCell ⟨w2.heap.size, i, none⟩ v) z0 z1 z2 z3 :=
  ⟨h.below.setCell (p := ⟨w2.heap.size, i, none⟩) (Nat.le_refl _) _, by rw [← hz]; exact blk_set h.b3 i _⟩
theorem RefSt.next {w2 W W' : World} {y0 y1 y2 y3 : Value} (h : RefSt w2 W y0 y1 y2 y3) (hb : Below W.heap.size W W') : RefSt w2 W' y0 y1 y2 y3 :=
  ⟨below_step h.below hb, (hb.block _ (cells_lt h.b3)).trans h.b3⟩
set_option maxRecDepth 100000 in
theorem results_ropen (tmps : Array Value) (W : World) (b : Nat) (x0 x1 x2 x3 u : Value) (h : W.heap[b]? = some (.cells #[x0, x1, x2, x3] 23 (0, 0))) (h2 : tmps.getD 2 undef = .pointer (some ⟨b, 0, none⟩)) (h3 : tmps.getD 3 undef = u) :
    (results Tryd.f10 tmps).run Tryd.prog W = .ok (.tuple #[.agg #[x0, x1, x2, x3], u]) W := by
  obtain ⟨r0, r1, r2, r3, f0, f1, f2, f3⟩ := box4 h
  rw [results_cell_tmp rfl, h2, h3]
  go_simp

set_option maxHeartbeats 8000000 in
set_option maxRecDepth 100000 in
theorem ropen_undec (s : ByteArray) (e : Int) (he : e ≠ 0) (K : Nat) (hK : P.racewayref22_Decode.f K s = some (([] : List Int), e)) (w : World) :
    Calls Tryd.prog 10 #[.string s] w fun en w' => en = .returned (answer none) ∧ Below w.heap.size w w' := by
  have he0 : (e != 0) = true := bne_iff_ne.2 he
  have HK := Aside0.mk hK
  clear hK
  go_enter Tryd.func10, Tryd.ntmps10
  have hk0 : (w.alloc (.cells #[.int .i64 0, .string ⟨#[]⟩, .int .i64 0, .int .i64 0] 23)).heap[w.heap.size]? = some (.cells #[.int .i64 0, .string ⟨#[]⟩, .int .i64 0, .int .i64 0] 23 (0, 0)) := heap_new _ _
  go_wp2_with (
    go_at_call 32
    refine (P.racewayref22_Decode.calls K s _ _ _ HK.out).mono ?_
    rintro en w1 ⟨v1, rfl, ho1, hb1⟩
    have hk1 : w1.heap[w.heap.size]? = some (.cells #[.int .i64 0, .string ⟨#[]⟩, .int .i64 0, .int .i64 0] 23 (0, 0)) := (hb1.block _ (by simp)).trans hk0
    have HB1 := Aside0.mk (below_step (below_alloc (Below.refl _ _) _) hb1)
    obtain ⟨r0, r1, r2, r3, f0, f1, f2, f3⟩ := box4 hk1
    clear hb1 ho1)
  refine bodyPost_ret (results_ropen _ _ w.heap.size (.int .i64 0) (.string ⟨#[]⟩) (.int .i64 0) (.int .i64 0) (.int .i64 12) (put4_heap _ _ _ _ hk1) rfl rfl) rfl ⟨rfl, put4_below _ _ _ _ HB1.out (Nat.le_refl _)⟩

set_option maxHeartbeats 8000000 in
set_option maxRecDepth 100000 in
theorem ropen_unframed (s : ByteArray) (f : List Int) (hf : isBytes f) (hfl : f.length ≤ 1000000) (hu : unframe f = none) (K : Nat) (hK : P.racewayref22_Decode.f K s = some (f, 0)) (w : World) :
    Calls Tryd.prog 10 #[.string s] w fun en w' => en = .returned (answer none) ∧ Below w.heap.size w w' := by
  have HK := Aside0.mk hK
  have HU := Aside0.mk hu
  have HF := Aside0.mk hf
  clear hK hu hf
  go_enter Tryd.func10, Tryd.ntmps10
  have hk0 : (w.alloc (.cells #[.int .i64 0, .string ⟨#[]⟩, .int .i64 0, .int .i64 0] 23)).heap[w.heap.size]? = some (.cells #[.int .i64 0, .string ⟨#[]⟩, .int .i64 0, .int .i64 0] 23 (0, 0)) := heap_new _ _
  go_wp2_with (
    go_at_call 32
    refine (P.racewayref22_Decode.calls K s _ _ _ HK.out).mono ?_
    rintro en w1 ⟨v1, rfl, ho1, hb1⟩
    have hk1 : w1.heap[w.heap.size]? = some (.cells #[.int .i64 0, .string ⟨#[]⟩, .int .i64 0, .int .i64 0] 23 (0, 0)) := (hb1.block _ (by simp)).trans hk0
    have HB1 := Aside0.mk (below_step (below_alloc (Below.refl _ _) _) hb1)
    obtain ⟨A1, c1, rfl, hc1, hr1⟩ := Kd.R_reads ho1
    have HC1 := Aside0.mk hc1
    have HR1 := Aside0.mk hr1
    clear hb1 ho1 hc1 hr1)
  go_wp2_with (
    go_at_call 33
    refine (rnext_none A1 c1 f w1 HR1.out HC1.out HF.out hfl HU.out).mono ?_
    rintro en w2 ⟨⟨code, hcode, rfl⟩, hb2⟩
    have hk2 : w2.heap[w.heap.size]? = some (.cells #[.int .i64 0, .string ⟨#[]⟩, .int .i64 0, .int .i64 0] 23 (0, 0)) := (hb2.block _ (cells_lt hk1)).trans hk1
    have hcode' : (code != 0) = true := bne_iff_ne.2 hcode
    have HB2 := Aside0.mk (below_step HB1.out hb2)
    clear hb2 hcode
    obtain ⟨r0, r1, r2, r3, f0, f1, f2, f3⟩ := box4 hk2)
  refine bodyPost_ret (results_ropen _ _ w.heap.size (.int .i64 0) (.string ⟨#[]⟩) (.int .i64 0) (.int .i64 0) (.int .i64 12) (put4_heap _ _ _ _ hk2) rfl rfl) rfl ⟨rfl, put4_below _ _ _ _ HB2.out (Nat.le_refl _)⟩

set_option maxHeartbeats 8000000 in
set_option maxRecDepth 100000 in
theorem ropen_fail1 (s : ByteArray) (f b : List Int) (hf : isBytes f) (hfl : f.length ≤ 1000000) (hu : unframe f = some b) (K : Nat) (hK : P.racewayref22_Decode.f K s = some (f, 0)) (w : World) (hb : isBytes b) (hbl : b.length ≤ 1000000)
    (b1 b2 b3 : List Int) (x1 x3 x4 e1 et e3 e4 : Int) (g : ByteArray) (k1 kt k3 k4 : Nat) (hb1' : b.drop k1 = b1) (hb2' : b1.drop kt = b2) (hb3' : b2.drop k3 = b3)
    (h1 : k1 ≤ b.length) (ht : kt ≤ b1.length) (h3 : k3 ≤ b2.length) (hrn1 : rn 0 0 b = (x1, (k1 : Int), e1)) (hrt : rt b1 = (g, (kt : Int), et)) (hrn3 : rn 0 0 b2 = (x3, (k3 : Int), e3)) (hrn4 : rn 0 0 b3 = (x4, (k4 : Int), e4))
     (he1 : e1 ≠ 0) :
    Calls Tryd.prog 10 #[.string s] w fun en w' => en = .returned (answer none) ∧ Below w.heap.size w w' := by
  have hl1 : b1.length = b.length - k1 := by rw [← hb1', List.length_drop]
  have hl2 : b2.length = b1.length - kt := by rw [← hb2', List.length_drop]
  have hl3 : b3.length = b2.length - k3 := by rw [← hb3', List.length_drop]
  have hbb1 : isBytes b1 := by rw [← hb1']; exact isBytes_drop _ hb
  have hbb2 : isBytes b2 := by rw [← hb2']; exact isBytes_drop _ hbb1
  have hbb3 : isBytes b3 := by rw [← hb3']; exact isBytes_drop _ hbb2
  obtain ⟨K1, hK1⟩ := (ref_rn b hb (by omega)).get
  obtain ⟨KT, hKT⟩ := (ref_rt b1 hbb1 (by omega)).get
  obtain ⟨K3, hK3⟩ := (ref_rn b2 hbb2 (by omega)).get
  obtain ⟨K4, hK4⟩ := (ref_rn b3 hbb3 (by omega)).get
  rw [hrn1] at hK1
  rw [hrt] at hKT
  rw [hrn3] at hK3
  rw [hrn4] at hK4
  have d2 : b.drop (k1 + kt) = b2 := by rw [← hb2', ← hb1', List.drop_drop]
  have d3 : b.drop (k1 + kt + k3) = b3 := by rw [← hb3', ← d2, List.drop_drop]
  have hf0 : f ≠ [] := fun h2 => by
    rw [h2, show unframe [] = none from rfl] at hu
    cases hu
  have HK := Aside0.mk hK
  have HU := Aside0.mk hu
  have HF := Aside0.mk hf
  have HK1 := Aside0.mk hK1
  have HKT := Aside0.mk hKT
  have HK3 := Aside0.mk hK3
  have HK4 := Aside0.mk hK4
  have HL := Aside0.mk (And.intro hl1 (And.intro hl2 hl3))
  have HD := Aside0.mk (And.intro hb1' (And.intro d2 d3))
  have HH := Aside0.mk (And.intro h1 (And.intro ht h3))
  have HF0 := Aside0.mk hf0
  have hw1 : IntKind.i64.wrap ((k1 : Int) + (kt : Int)) = (k1 : Int) + (kt : Int) := by rw [IntKind.wrap_i64]; omega
  have hw2 : IntKind.i64.wrap ((k1 : Int) + (kt : Int) + (k3 : Int)) = (k1 : Int) + (kt : Int) + (k3 : Int) := by rw [IntKind.wrap_i64]; omega
  clear hK hu hf hK1 hKT hK3 hK4 hl1 hl2 hl3 hb1' hb2' hb3' d2 d3 h1 ht h3 hrn1 hrt hrn3 hrn4 hbb1 hbb2 hbb3 hf0 hb
  have he1' : (e1 != 0) = true := bne_iff_ne.2 he1
  clear he1
  go_enter Tryd.func10, Tryd.ntmps10
  have hk0 : (w.alloc (.cells #[.int .i64 0, .string ⟨#[]⟩, .int .i64 0, .int .i64 0] 23)).heap[w.heap.size]? = some (.cells #[.int .i64 0, .string ⟨#[]⟩, .int .i64 0, .int .i64 0] 23 (0, 0)) := heap_new _ _
  go_wp2_with (
    go_at_call 32
    refine (P.racewayref22_Decode.calls K s _ _ _ HK.out).mono ?_
    rintro en w1 ⟨v1, rfl, ho1, hb1⟩
    have hk1 : w1.heap[w.heap.size]? = some (.cells #[.int .i64 0, .string ⟨#[]⟩, .int .i64 0, .int .i64 0] 23 (0, 0)) := (hb1.block _ (by simp)).trans hk0
    have HB1 := Aside0.mk (below_step (below_alloc (Below.refl _ _) _) hb1)
    obtain ⟨a1, c1, rfl, hc1, hr1⟩ := own_some ho1 HF0.out
    have HC1 := Aside0.mk hc1
    have HR1 := Aside0.mk hr1
    clear hb1 ho1 hc1 hr1)
  go_wp2_with (
    go_at_call 33
    refine (rnext_some a1 c1 f b w1 HR1.out HC1.out HF.out hfl HU.out).mono ?_
    rintro en w2 ⟨⟨v2, rfl, ho2⟩, hb2⟩
    have hk2 : w2.heap[w.heap.size]? = some (.cells #[.int .i64 0, .string ⟨#[]⟩, .int .i64 0, .int .i64 0] 23 (0, 0)) := (hb2.block _ (cells_lt hk1)).trans hk1
    have HB2 := Aside0.mk (below_step HB1.out hb2)
    obtain ⟨A2, c2, rfl, hc2, hr2⟩ := Kd.R_reads ho2
    obtain ⟨A3, hcut3, hcr3⟩ := cut_any A2 b.length c2 k1 HH.out.1 hc2
    obtain ⟨A4, hcut4, hcr4⟩ := cut_any A2 b.length c2 (k1 + kt) (by have := HH.out; have := HL.out; omega) hc2
    obtain ⟨A5, hcut5, hcr5⟩ := cut_any A2 b.length c2 (k1 + kt + k3) (by have := HH.out; have := HL.out; omega) hc2
    have g3 : ∀ W, (Instr.slice 36 (.slice A2 b.length c2) (some (.int .i64 (k1 : Int))) none none).run Tryd.prog W = .ok (.slice A3 b1.length (c2 - k1)) W := fun W => by rw [HL.out.1]; exact hcut3 W
    have g4 : ∀ W, (Instr.slice 36 (.slice A2 b.length c2) (some (.int .i64 ((k1 : Int) + (kt : Int)))) none none).run Tryd.prog W = .ok (.slice A4 b2.length (c2 - (k1 + kt))) W := fun W => by rw [HL.out.2.1, HL.out.1, Nat.sub_sub]; exact hcut4 W
    have g5 : ∀ W, (Instr.slice 36 (.slice A2 b.length c2) (some (.int .i64 ((k1 : Int) + (kt : Int) + (k3 : Int)))) none none).run Tryd.prog W = .ok (.slice A5 b3.length (c2 - (k1 + kt + k3))) W := fun W => by rw [show b3.length = b.length - (k1 + kt + k3) by have := HL.out; omega]; exact hcut5 W
    obtain ⟨c3, hc3⟩ : ∃ x, c2 - k1 = x := ⟨_, rfl⟩
    obtain ⟨c4, hc4⟩ : ∃ x, c2 - (k1 + kt) = x := ⟨_, rfl⟩
    obtain ⟨c5, hc5⟩ : ∃ x, c2 - (k1 + kt + k3) = x := ⟨_, rfl⟩
    have HCC := Aside0.mk (show b1.length ≤ c3 ∧ b2.length ≤ c4 ∧ b3.length ≤ c5 by have := HL.out; omega)
    rw [hc3] at g3
    rw [hc4] at g4
    rw [hc5] at g5
    clear hc3 hc4 hc5
    have HR2 := Aside0.mk hr2
    have HC2 := Aside0.mk hc2
    have HR3 := Aside0.mk (show Kd.C (Kd.int .u8) w2 A3 b1.length b1 by have := hcr3 w2 b hr2; rw [HD.out.1] at this; rw [HL.out.1]; exact this)
    have HR4 := Aside0.mk (show Kd.C (Kd.int .u8) w2 A4 b2.length b2 by have := hcr4 w2 b hr2; rw [HD.out.2.1] at this; rw [HL.out.2.1, HL.out.1, Nat.sub_sub]; exact this)
    have HR5 := Aside0.mk (show Kd.C (Kd.int .u8) w2 A5 b3.length b3 by have := hcr5 w2 b hr2; rw [HD.out.2.2] at this; rw [show b3.length = b.length - (k1 + kt + k3) by have := HL.out; omega]; exact this)
    have ST := Aside0.mk (show RefSt w2 (w2.alloc (.cells #[.int .i64 0, .string ⟨#[]⟩, .int .i64 0, .int .i64 0] 23)) (.int .i64 0) (.string ⟨#[]⟩) (.int .i64 0) (.int .i64 0) from ⟨below_alloc (Below.refl _ _) _, heap_new _ _⟩)
    clear hb2 ho2 hc2 hr2 hcut3 hcr3 hcut4 hcr4 hcut5 hcr5)
  go_wp2_with (
    go_at_call 34
    refine (P.racewayref01_ReadNum.calls K1 A2 c2 b x1 k1 e1 _ (Kd.C_below HR2.out ST.out.below) HC2.out HK1.out).mono ?_
    rintro en w3 ⟨rfl, nd3, hw3⟩
    have st3 := ST.out.drew nd3
    rw [← hw3] at st3
    clear hw3
    obtain ⟨p0, p1, p2, p3, p4, p5, p6, p7⟩ := box4 st3.b3
    have hk3 := (st3.below.block _ (cells_lt hk2)).trans hk2
    have HBL := Aside0.mk (below_step HB2.out st3.below)
    clear st3
    obtain ⟨r0, r1, r2, r3, f0, f1, f2, f3⟩ := box4 hk3)
  refine bodyPost_ret (results_ropen _ _ w.heap.size (.int .i64 0) (.string ⟨#[]⟩) (.int .i64 0) (.int .i64 0) (.int .i64 12) (put4_heap _ _ _ _ hk3) rfl rfl) rfl ⟨rfl, put4_below _ _ _ _ HBL.out (Nat.le_refl _)⟩

set_option maxHeartbeats 8000000 in
set_option maxRecDepth 100000 in
theorem ropen_fail2 (s : ByteArray) (f b : List Int) (hf : isBytes f) (hfl : f.length ≤ 1000000) (hu : unframe f = some b) (K : Nat) (hK : P.racewayref22_Decode.f K s = some (f, 0)) (w : World) (hb : isBytes b) (hbl : b.length ≤ 1000000)
    (b1 b2 b3 : List Int) (x1 x3 x4 e1 et e3 e4 : Int) (g : ByteArray) (k1 kt k3 k4 : Nat) (hb1' : b.drop k1 = b1) (hb2' : b1.drop kt = b2) (hb3' : b2.drop k3 = b3)
    (h1 : k1 ≤ b.length) (ht : kt ≤ b1.length) (h3 : k3 ≤ b2.length) (hrn1 : rn 0 0 b = (x1, (k1 : Int), e1)) (hrt : rt b1 = (g, (kt : Int), et)) (hrn3 : rn 0 0 b2 = (x3, (k3 : Int), e3)) (hrn4 : rn 0 0 b3 = (x4, (k4 : Int), e4))
    (he1 : e1 = 0) (het : et ≠ 0) :
    Calls Tryd.prog 10 #[.string s] w fun en w' => en = .returned (answer none) ∧ Below w.heap.size w w' := by
  have hl1 : b1.length = b.length - k1 := by rw [← hb1', List.length_drop]
  have hl2 : b2.length = b1.length - kt := by rw [← hb2', List.length_drop]
  have hl3 : b3.length = b2.length - k3 := by rw [← hb3', List.length_drop]
  have hbb1 : isBytes b1 := by rw [← hb1']; exact isBytes_drop _ hb
  have hbb2 : isBytes b2 := by rw [← hb2']; exact isBytes_drop _ hbb1
  have hbb3 : isBytes b3 := by rw [← hb3']; exact isBytes_drop _ hbb2
  obtain ⟨K1, hK1⟩ := (ref_rn b hb (by omega)).get
  obtain ⟨KT, hKT⟩ := (ref_rt b1 hbb1 (by omega)).get
  obtain ⟨K3, hK3⟩ := (ref_rn b2 hbb2 (by omega)).get
  obtain ⟨K4, hK4⟩ := (ref_rn b3 hbb3 (by omega)).get
  rw [hrn1] at hK1
  rw [hrt] at hKT
  rw [hrn3] at hK3
  rw [hrn4] at hK4
  have d2 : b.drop (k1 + kt) = b2 := by rw [← hb2', ← hb1', List.drop_drop]
  have d3 : b.drop (k1 + kt + k3) = b3 := by rw [← hb3', ← d2, List.drop_drop]
  have hf0 : f ≠ [] := fun h2 => by
    rw [h2, show unframe [] = none from rfl] at hu
    cases hu
  have HK := Aside0.mk hK
  have HU := Aside0.mk hu
  have HF := Aside0.mk hf
  have HK1 := Aside0.mk hK1
  have HKT := Aside0.mk hKT
  have HK3 := Aside0.mk hK3
  have HK4 := Aside0.mk hK4
  have HL := Aside0.mk (And.intro hl1 (And.intro hl2 hl3))
  have HD := Aside0.mk (And.intro hb1' (And.intro d2 d3))
  have HH := Aside0.mk (And.intro h1 (And.intro ht h3))
  have HF0 := Aside0.mk hf0
  have hw1 : IntKind.i64.wrap ((k1 : Int) + (kt : Int)) = (k1 : Int) + (kt : Int) := by rw [IntKind.wrap_i64]; omega
  have hw2 : IntKind.i64.wrap ((k1 : Int) + (kt : Int) + (k3 : Int)) = (k1 : Int) + (kt : Int) + (k3 : Int) := by rw [IntKind.wrap_i64]; omega
  clear hK hu hf hK1 hKT hK3 hK4 hl1 hl2 hl3 hb1' hb2' hb3' d2 d3 h1 ht h3 hrn1 hrt hrn3 hrn4 hbb1 hbb2 hbb3 hf0 hb
  have he1' : (e1 != 0) = false := bne_eq_false_iff_eq.2 he1
  have het' : (et != 0) = true := bne_iff_ne.2 het
  clear he1 het
  go_enter Tryd.func10, Tryd.ntmps10
  have hk0 : (w.alloc (.cells #[.int .i64 0, .string ⟨#[]⟩, .int .i64 0, .int .i64 0] 23)).heap[w.heap.size]? = some (.cells #[.int .i64 0, .string ⟨#[]⟩, .int .i64 0, .int .i64 0] 23 (0, 0)) := heap_new _ _
  go_wp2_with (
    go_at_call 32
    refine (P.racewayref22_Decode.calls K s _ _ _ HK.out).mono ?_
    rintro en w1 ⟨v1, rfl, ho1, hb1⟩
    have hk1 : w1.heap[w.heap.size]? = some (.cells #[.int .i64 0, .string ⟨#[]⟩, .int .i64 0, .int .i64 0] 23 (0, 0)) := (hb1.block _ (by simp)).trans hk0
    have HB1 := Aside0.mk (below_step (below_alloc (Below.refl _ _) _) hb1)
    obtain ⟨a1, c1, rfl, hc1, hr1⟩ := own_some ho1 HF0.out
    have HC1 := Aside0.mk hc1
    have HR1 := Aside0.mk hr1
    clear hb1 ho1 hc1 hr1)
  go_wp2_with (
    go_at_call 33
    refine (rnext_some a1 c1 f b w1 HR1.out HC1.out HF.out hfl HU.out).mono ?_
    rintro en w2 ⟨⟨v2, rfl, ho2⟩, hb2⟩
    have hk2 : w2.heap[w.heap.size]? = some (.cells #[.int .i64 0, .string ⟨#[]⟩, .int .i64 0, .int .i64 0] 23 (0, 0)) := (hb2.block _ (cells_lt hk1)).trans hk1
    have HB2 := Aside0.mk (below_step HB1.out hb2)
    obtain ⟨A2, c2, rfl, hc2, hr2⟩ := Kd.R_reads ho2
    obtain ⟨A3, hcut3, hcr3⟩ := cut_any A2 b.length c2 k1 HH.out.1 hc2
    obtain ⟨A4, hcut4, hcr4⟩ := cut_any A2 b.length c2 (k1 + kt) (by have := HH.out; have := HL.out; omega) hc2
    obtain ⟨A5, hcut5, hcr5⟩ := cut_any A2 b.length c2 (k1 + kt + k3) (by have := HH.out; have := HL.out; omega) hc2
    have g3 : ∀ W, (Instr.slice 36 (.slice A2 b.length c2) (some (.int .i64 (k1 : Int))) none none).run Tryd.prog W = .ok (.slice A3 b1.length (c2 - k1)) W := fun W => by rw [HL.out.1]; exact hcut3 W
    have g4 : ∀ W, (Instr.slice 36 (.slice A2 b.length c2) (some (.int .i64 ((k1 : Int) + (kt : Int)))) none none).run Tryd.prog W = .ok (.slice A4 b2.length (c2 - (k1 + kt))) W := fun W => by rw [HL.out.2.1, HL.out.1, Nat.sub_sub]; exact hcut4 W
    have g5 : ∀ W, (Instr.slice 36 (.slice A2 b.length c2) (some (.int .i64 ((k1 : Int) + (kt : Int) + (k3 : Int)))) none none).run Tryd.prog W = .ok (.slice A5 b3.length (c2 - (k1 + kt + k3))) W := fun W => by rw [show b3.length = b.length - (k1 + kt + k3) by have := HL.out; omega]; exact hcut5 W
    obtain ⟨c3, hc3⟩ : ∃ x, c2 - k1 = x := ⟨_, rfl⟩
    obtain ⟨c4, hc4⟩ : ∃ x, c2 - (k1 + kt) = x := ⟨_, rfl⟩
    obtain ⟨c5, hc5⟩ : ∃ x, c2 - (k1 + kt + k3) = x := ⟨_, rfl⟩
    have HCC := Aside0.mk (show b1.length ≤ c3 ∧ b2.length ≤ c4 ∧ b3.length ≤ c5 by have := HL.out; omega)
    rw [hc3] at g3
    rw [hc4] at g4
    rw [hc5] at g5
    clear hc3 hc4 hc5
    have HR2 := Aside0.mk hr2
    have HC2 := Aside0.mk hc2
    have HR3 := Aside0.mk (show Kd.C (Kd.int .u8) w2 A3 b1.length b1 by have := hcr3 w2 b hr2; rw [HD.out.1] at this; rw [HL.out.1]; exact this)
    have HR4 := Aside0.mk (show Kd.C (Kd.int .u8) w2 A4 b2.length b2 by have := hcr4 w2 b hr2; rw [HD.out.2.1] at this; rw [HL.out.2.1, HL.out.1, Nat.sub_sub]; exact this)
    have HR5 := Aside0.mk (show Kd.C (Kd.int .u8) w2 A5 b3.length b3 by have := hcr5 w2 b hr2; rw [HD.out.2.2] at this; rw [show b3.length = b.length - (k1 + kt + k3) by have := HL.out; omega]; exact this)
    have ST := Aside0.mk (show RefSt w2 (w2.alloc (.cells #[.int .i64 0, .string ⟨#[]⟩, .int .i64 0, .int .i64 0] 23)) (.int .i64 0) (.string ⟨#[]⟩) (.int .i64 0) (.int .i64 0) from ⟨below_alloc (Below.refl _ _) _, heap_new _ _⟩)
    clear hb2 ho2 hc2 hr2 hcut3 hcr3 hcut4 hcr4 hcut5 hcr5)
  go_wp2_with (
    go_at_call 34
    refine (P.racewayref01_ReadNum.calls K1 A2 c2 b x1 k1 e1 _ (Kd.C_below HR2.out ST.out.below) HC2.out HK1.out).mono ?_
    rintro en w3 ⟨rfl, nd3, hw3⟩
    have st3 := ST.out.drew nd3
    rw [← hw3] at st3
    clear hw3
    obtain ⟨p0, p1, p2, p3, p4, p5, p6, p7⟩ := box4 st3.b3
    have st3' := st3.put 0 (.int .i64 x1) (.int .i64 x1) (.string ⟨#[]⟩) (.int .i64 0) (.int .i64 0) rfl
    have ST := Aside0.mk st3'
    obtain ⟨q0, q1, q2, q3, q4, q5, q6, q7⟩ := box4 st3'.b3
    clear st3 st3')
  go_wp2_with (
    go_at_call 35
    refine (P.racewayref01_ReadText.calls KT A3 c3 b1 g kt et _ (Kd.C_below HR3.out ST.out.below) HCC.out.1 HKT.out).mono ?_
    rintro en w4 ⟨rfl, nd4, hw4⟩
    have st4 := ST.out.drew nd4
    rw [← hw4] at st4
    clear hw4 p0 p1 p2 p3 p4 p5 p6 p7 q0 q1 q2 q3 q4 q5 q6 q7
    obtain ⟨p0, p1, p2, p3, p4, p5, p6, p7⟩ := box4 st4.b3
    have hk4 := (st4.below.block _ (cells_lt hk2)).trans hk2
    have HBL := Aside0.mk (below_step HB2.out st4.below)
    clear st4
    obtain ⟨r0, r1, r2, r3, f0, f1, f2, f3⟩ := box4 hk4)
  refine bodyPost_ret (results_ropen _ _ w.heap.size (.int .i64 0) (.string ⟨#[]⟩) (.int .i64 0) (.int .i64 0) (.int .i64 12) (put4_heap _ _ _ _ hk4) rfl rfl) rfl ⟨rfl, put4_below _ _ _ _ HBL.out (Nat.le_refl _)⟩

set_option maxHeartbeats 8000000 in
set_option maxRecDepth 100000 in
theorem ropen_fail3 (s : ByteArray) (f b : List Int) (hf : isBytes f) (hfl : f.length ≤ 1000000) (hu : unframe f = some b) (K : Nat) (hK : P.racewayref22_Decode.f K s = some (f, 0)) (w : World) (hb : isBytes b) (hbl : b.length ≤ 1000000)
    (b1 b2 b3 : List Int) (x1 x3 x4 e1 et e3 e4 : Int) (g : ByteArray) (k1 kt k3 k4 : Nat) (hb1' : b.drop k1 = b1) (hb2' : b1.drop kt = b2) (hb3' : b2.drop k3 = b3)
    (h1 : k1 ≤ b.length) (ht : kt ≤ b1.length) (h3 : k3 ≤ b2.length) (hrn1 : rn 0 0 b = (x1, (k1 : Int), e1)) (hrt : rt b1 = (g, (kt : Int), et)) (hrn3 : rn 0 0 b2 = (x3, (k3 : Int), e3)) (hrn4 : rn 0 0 b3 = (x4, (k4 : Int), e4))
    (he1 : e1 = 0) (het : et = 0) (he3 : e3 ≠ 0) :
    Calls Tryd.prog 10 #[.string s] w fun en w' => en = .returned (answer none) ∧ Below w.heap.size w w' := by
  have hl1 : b1.length = b.length - k1 := by rw [← hb1', List.length_drop]
  have hl2 : b2.length = b1.length - kt := by rw [← hb2', List.length_drop]
  have hl3 : b3.length = b2.length - k3 := by rw [← hb3', List.length_drop]
  have hbb1 : isBytes b1 := by rw [← hb1']; exact isBytes_drop _ hb
  have hbb2 : isBytes b2 := by rw [← hb2']; exact isBytes_drop _ hbb1
  have hbb3 : isBytes b3 := by rw [← hb3']; exact isBytes_drop _ hbb2
  obtain ⟨K1, hK1⟩ := (ref_rn b hb (by omega)).get
  obtain ⟨KT, hKT⟩ := (ref_rt b1 hbb1 (by omega)).get
  obtain ⟨K3, hK3⟩ := (ref_rn b2 hbb2 (by omega)).get
  obtain ⟨K4, hK4⟩ := (ref_rn b3 hbb3 (by omega)).get
  rw [hrn1] at hK1
  rw [hrt] at hKT
  rw [hrn3] at hK3
  rw [hrn4] at hK4
  have d2 : b.drop (k1 + kt) = b2 := by rw [← hb2', ← hb1', List.drop_drop]
  have d3 : b.drop (k1 + kt + k3) = b3 := by rw [← hb3', ← d2, List.drop_drop]
  have hf0 : f ≠ [] := fun h2 => by
    rw [h2, show unframe [] = none from rfl] at hu
    cases hu
  have HK := Aside0.mk hK
  have HU := Aside0.mk hu
  have HF := Aside0.mk hf
  have HK1 := Aside0.mk hK1
  have HKT := Aside0.mk hKT
  have HK3 := Aside0.mk hK3
  have HK4 := Aside0.mk hK4
  have HL := Aside0.mk (And.intro hl1 (And.intro hl2 hl3))
  have HD := Aside0.mk (And.intro hb1' (And.intro d2 d3))
  have HH := Aside0.mk (And.intro h1 (And.intro ht h3))
  have HF0 := Aside0.mk hf0
  have hw1 : IntKind.i64.wrap ((k1 : Int) + (kt : Int)) = (k1 : Int) + (kt : Int) := by rw [IntKind.wrap_i64]; omega
  have hw2 : IntKind.i64.wrap ((k1 : Int) + (kt : Int) + (k3 : Int)) = (k1 : Int) + (kt : Int) + (k3 : Int) := by rw [IntKind.wrap_i64]; omega
  clear hK hu hf hK1 hKT hK3 hK4 hl1 hl2 hl3 hb1' hb2' hb3' d2 d3 h1 ht h3 hrn1 hrt hrn3 hrn4 hbb1 hbb2 hbb3 hf0 hb
  have he1' : (e1 != 0) = false := bne_eq_false_iff_eq.2 he1
  have het' : (et != 0) = false := bne_eq_false_iff_eq.2 het
  have he3' : (e3 != 0) = true := bne_iff_ne.2 he3
  clear he1 het he3
  go_enter Tryd.func10, Tryd.ntmps10
  have hk0 : (w.alloc (.cells #[.int .i64 0, .string ⟨#[]⟩, .int .i64 0, .int .i64 0] 23)).heap[w.heap.size]? = some (.cells #[.int .i64 0, .string ⟨#[]⟩, .int .i64 0, .int .i64 0] 23 (0, 0)) := heap_new _ _
  go_wp2_with (
    go_at_call 32
    refine (P.racewayref22_Decode.calls K s _ _ _ HK.out).mono ?_
    rintro en w1 ⟨v1, rfl, ho1, hb1⟩
    have hk1 : w1.heap[w.heap.size]? = some (.cells #[.int .i64 0, .string ⟨#[]⟩, .int .i64 0, .int .i64 0] 23 (0, 0)) := (hb1.block _ (by simp)).trans hk0
    have HB1 := Aside0.mk (below_step (below_alloc (Below.refl _ _) _) hb1)
    obtain ⟨a1, c1, rfl, hc1, hr1⟩ := own_some ho1 HF0.out
    have HC1 := Aside0.mk hc1
    have HR1 := Aside0.mk hr1
    clear hb1 ho1 hc1 hr1)
  go_wp2_with (
    go_at_call 33
    refine (rnext_some a1 c1 f b w1 HR1.out HC1.out HF.out hfl HU.out).mono ?_
    rintro en w2 ⟨⟨v2, rfl, ho2⟩, hb2⟩
    have hk2 : w2.heap[w.heap.size]? = some (.cells #[.int .i64 0, .string ⟨#[]⟩, .int .i64 0, .int .i64 0] 23 (0, 0)) := (hb2.block _ (cells_lt hk1)).trans hk1
    have HB2 := Aside0.mk (below_step HB1.out hb2)
    obtain ⟨A2, c2, rfl, hc2, hr2⟩ := Kd.R_reads ho2
    obtain ⟨A3, hcut3, hcr3⟩ := cut_any A2 b.length c2 k1 HH.out.1 hc2
    obtain ⟨A4, hcut4, hcr4⟩ := cut_any A2 b.length c2 (k1 + kt) (by have := HH.out; have := HL.out; omega) hc2
    obtain ⟨A5, hcut5, hcr5⟩ := cut_any A2 b.length c2 (k1 + kt + k3) (by have := HH.out; have := HL.out; omega) hc2
    have g3 : ∀ W, (Instr.slice 36 (.slice A2 b.length c2) (some (.int .i64 (k1 : Int))) none none).run Tryd.prog W = .ok (.slice A3 b1.length (c2 - k1)) W := fun W => by rw [HL.out.1]; exact hcut3 W
    have g4 : ∀ W, (Instr.slice 36 (.slice A2 b.length c2) (some (.int .i64 ((k1 : Int) + (kt : Int)))) none none).run Tryd.prog W = .ok (.slice A4 b2.length (c2 - (k1 + kt))) W := fun W => by rw [HL.out.2.1, HL.out.1, Nat.sub_sub]; exact hcut4 W
    have g5 : ∀ W, (Instr.slice 36 (.slice A2 b.length c2) (some (.int .i64 ((k1 : Int) + (kt : Int) + (k3 : Int)))) none none).run Tryd.prog W = .ok (.slice A5 b3.length (c2 - (k1 + kt + k3))) W := fun W => by rw [show b3.length = b.length - (k1 + kt + k3) by have := HL.out; omega]; exact hcut5 W
    obtain ⟨c3, hc3⟩ : ∃ x, c2 - k1 = x := ⟨_, rfl⟩
    obtain ⟨c4, hc4⟩ : ∃ x, c2 - (k1 + kt) = x := ⟨_, rfl⟩
    obtain ⟨c5, hc5⟩ : ∃ x, c2 - (k1 + kt + k3) = x := ⟨_, rfl⟩
    have HCC := Aside0.mk (show b1.length ≤ c3 ∧ b2.length ≤ c4 ∧ b3.length ≤ c5 by have := HL.out; omega)
    rw [hc3] at g3
    rw [hc4] at g4
    rw [hc5] at g5
    clear hc3 hc4 hc5
    have HR2 := Aside0.mk hr2
    have HC2 := Aside0.mk hc2
    have HR3 := Aside0.mk (show Kd.C (Kd.int .u8) w2 A3 b1.length b1 by have := hcr3 w2 b hr2; rw [HD.out.1] at this; rw [HL.out.1]; exact this)
    have HR4 := Aside0.mk (show Kd.C (Kd.int .u8) w2 A4 b2.length b2 by have := hcr4 w2 b hr2; rw [HD.out.2.1] at this; rw [HL.out.2.1, HL.out.1, Nat.sub_sub]; exact this)
    have HR5 := Aside0.mk (show Kd.C (Kd.int .u8) w2 A5 b3.length b3 by have := hcr5 w2 b hr2; rw [HD.out.2.2] at this; rw [show b3.length = b.length - (k1 + kt + k3) by have := HL.out; omega]; exact this)
    have ST := Aside0.mk (show RefSt w2 (w2.alloc (.cells #[.int .i64 0, .string ⟨#[]⟩, .int .i64 0, .int .i64 0] 23)) (.int .i64 0) (.string ⟨#[]⟩) (.int .i64 0) (.int .i64 0) from ⟨below_alloc (Below.refl _ _) _, heap_new _ _⟩)
    clear hb2 ho2 hc2 hr2 hcut3 hcr3 hcut4 hcr4 hcut5 hcr5)
  go_wp2_with (
    go_at_call 34
    refine (P.racewayref01_ReadNum.calls K1 A2 c2 b x1 k1 e1 _ (Kd.C_below HR2.out ST.out.below) HC2.out HK1.out).mono ?_
    rintro en w3 ⟨rfl, nd3, hw3⟩
    have st3 := ST.out.drew nd3
    rw [← hw3] at st3
    clear hw3
    obtain ⟨p0, p1, p2, p3, p4, p5, p6, p7⟩ := box4 st3.b3
    have st3' := st3.put 0 (.int .i64 x1) (.int .i64 x1) (.string ⟨#[]⟩) (.int .i64 0) (.int .i64 0) rfl
    have ST := Aside0.mk st3'
    obtain ⟨q0, q1, q2, q3, q4, q5, q6, q7⟩ := box4 st3'.b3
    clear st3 st3')
  go_wp2_with (
    go_at_call 35
    refine (P.racewayref01_ReadText.calls KT A3 c3 b1 g kt et _ (Kd.C_below HR3.out ST.out.below) HCC.out.1 HKT.out).mono ?_
    rintro en w4 ⟨rfl, nd4, hw4⟩
    have st4 := ST.out.drew nd4
    rw [← hw4] at st4
    clear hw4 p0 p1 p2 p3 p4 p5 p6 p7 q0 q1 q2 q3 q4 q5 q6 q7
    obtain ⟨p0, p1, p2, p3, p4, p5, p6, p7⟩ := box4 st4.b3
    have st4' := st4.put 1 (.string g) (.int .i64 x1) (.string g) (.int .i64 0) (.int .i64 0) rfl
    have ST := Aside0.mk st4'
    obtain ⟨q0, q1, q2, q3, q4, q5, q6, q7⟩ := box4 st4'.b3
    clear st4 st4')
  go_wp2_with (
    go_at_call 34
    refine (P.racewayref01_ReadNum.calls K3 A4 c4 b2 x3 k3 e3 _ (Kd.C_below HR4.out ST.out.below) HCC.out.2.1 HK3.out).mono ?_
    rintro en w5 ⟨rfl, nd5, hw5⟩
    have st5 := ST.out.drew nd5
    rw [← hw5] at st5
    clear hw5 p0 p1 p2 p3 p4 p5 p6 p7 q0 q1 q2 q3 q4 q5 q6 q7
    obtain ⟨p0, p1, p2, p3, p4, p5, p6, p7⟩ := box4 st5.b3
    have hk5 := (st5.below.block _ (cells_lt hk2)).trans hk2
    have HBL := Aside0.mk (below_step HB2.out st5.below)
    clear st5
    obtain ⟨r0, r1, r2, r3, f0, f1, f2, f3⟩ := box4 hk5)
  refine bodyPost_ret (results_ropen _ _ w.heap.size (.int .i64 0) (.string ⟨#[]⟩) (.int .i64 0) (.int .i64 0) (.int .i64 12) (put4_heap _ _ _ _ hk5) rfl rfl) rfl ⟨rfl, put4_below _ _ _ _ HBL.out (Nat.le_refl _)⟩

set_option maxHeartbeats 8000000 in
set_option maxRecDepth 100000 in
theorem ropen_fail4 (s : ByteArray) (f b : List Int) (hf : isBytes f) (hfl : f.length ≤ 1000000) (hu : unframe f = some b) (K : Nat) (hK : P.racewayref22_Decode.f K s = some (f, 0)) (w : World) (hb : isBytes b) (hbl : b.length ≤ 1000000)
    (b1 b2 b3 : List Int) (x1 x3 x4 e1 et e3 e4 : Int) (g : ByteArray) (k1 kt k3 k4 : Nat) (hb1' : b.drop k1 = b1) (hb2' : b1.drop kt = b2) (hb3' : b2.drop k3 = b3)
    (h1 : k1 ≤ b.length) (ht : kt ≤ b1.length) (h3 : k3 ≤ b2.length) (hrn1 : rn 0 0 b = (x1, (k1 : Int), e1)) (hrt : rt b1 = (g, (kt : Int), et)) (hrn3 : rn 0 0 b2 = (x3, (k3 : Int), e3)) (hrn4 : rn 0 0 b3 = (x4, (k4 : Int), e4))
    (he1 : e1 = 0) (het : et = 0) (he3 : e3 = 0) (he4 : e4 ≠ 0) :
    Calls Tryd.prog 10 #[.string s] w fun en w' => en = .returned (answer none) ∧ Below w.heap.size w w' := by
  have hl1 : b1.length = b.length - k1 := by rw [← hb1', List.length_drop]
  have hl2 : b2.length = b1.length - kt := by rw [← hb2', List.length_drop]
  have hl3 : b3.length = b2.length - k3 := by rw [← hb3', List.length_drop]
  have hbb1 : isBytes b1 := by rw [← hb1']; exact isBytes_drop _ hb
  have hbb2 : isBytes b2 := by rw [← hb2']; exact isBytes_drop _ hbb1
  have hbb3 : isBytes b3 := by rw [← hb3']; exact isBytes_drop _ hbb2
  obtain ⟨K1, hK1⟩ := (ref_rn b hb (by omega)).get
  obtain ⟨KT, hKT⟩ := (ref_rt b1 hbb1 (by omega)).get
  obtain ⟨K3, hK3⟩ := (ref_rn b2 hbb2 (by omega)).get
  obtain ⟨K4, hK4⟩ := (ref_rn b3 hbb3 (by omega)).get
  rw [hrn1] at hK1
  rw [hrt] at hKT
  rw [hrn3] at hK3
  rw [hrn4] at hK4
  have d2 : b.drop (k1 + kt) = b2 := by rw [← hb2', ← hb1', List.drop_drop]
  have d3 : b.drop (k1 + kt + k3) = b3 := by rw [← hb3', ← d2, List.drop_drop]
  have hf0 : f ≠ [] := fun h2 => by
    rw [h2, show unframe [] = none from rfl] at hu
    cases hu
  have HK := Aside0.mk hK
  have HU := Aside0.mk hu
  have HF := Aside0.mk hf
  have HK1 := Aside0.mk hK1
  have HKT := Aside0.mk hKT
  have HK3 := Aside0.mk hK3
  have HK4 := Aside0.mk hK4
  have HL := Aside0.mk (And.intro hl1 (And.intro hl2 hl3))
  have HD := Aside0.mk (And.intro hb1' (And.intro d2 d3))
  have HH := Aside0.mk (And.intro h1 (And.intro ht h3))
  have HF0 := Aside0.mk hf0
  have hw1 : IntKind.i64.wrap ((k1 : Int) + (kt : Int)) = (k1 : Int) + (kt : Int) := by rw [IntKind.wrap_i64]; omega
  have hw2 : IntKind.i64.wrap ((k1 : Int) + (kt : Int) + (k3 : Int)) = (k1 : Int) + (kt : Int) + (k3 : Int) := by rw [IntKind.wrap_i64]; omega
  clear hK hu hf hK1 hKT hK3 hK4 hl1 hl2 hl3 hb1' hb2' hb3' d2 d3 h1 ht h3 hrn1 hrt hrn3 hrn4 hbb1 hbb2 hbb3 hf0 hb
  have he1' : (e1 != 0) = false := bne_eq_false_iff_eq.2 he1
  have het' : (et != 0) = false := bne_eq_false_iff_eq.2 het
  have he3' : (e3 != 0) = false := bne_eq_false_iff_eq.2 he3
  have he4' : (e4 != 0) = true := bne_iff_ne.2 he4
  clear he1 het he3 he4
  go_enter Tryd.func10, Tryd.ntmps10
  have hk0 : (w.alloc (.cells #[.int .i64 0, .string ⟨#[]⟩, .int .i64 0, .int .i64 0] 23)).heap[w.heap.size]? = some (.cells #[.int .i64 0, .string ⟨#[]⟩, .int .i64 0, .int .i64 0] 23 (0, 0)) := heap_new _ _
  go_wp2_with (
    go_at_call 32
    refine (P.racewayref22_Decode.calls K s _ _ _ HK.out).mono ?_
    rintro en w1 ⟨v1, rfl, ho1, hb1⟩
    have hk1 : w1.heap[w.heap.size]? = some (.cells #[.int .i64 0, .string ⟨#[]⟩, .int .i64 0, .int .i64 0] 23 (0, 0)) := (hb1.block _ (by simp)).trans hk0
    have HB1 := Aside0.mk (below_step (below_alloc (Below.refl _ _) _) hb1)
    obtain ⟨a1, c1, rfl, hc1, hr1⟩ := own_some ho1 HF0.out
    have HC1 := Aside0.mk hc1
    have HR1 := Aside0.mk hr1
    clear hb1 ho1 hc1 hr1)
  go_wp2_with (
    go_at_call 33
    refine (rnext_some a1 c1 f b w1 HR1.out HC1.out HF.out hfl HU.out).mono ?_
    rintro en w2 ⟨⟨v2, rfl, ho2⟩, hb2⟩
    have hk2 : w2.heap[w.heap.size]? = some (.cells #[.int .i64 0, .string ⟨#[]⟩, .int .i64 0, .int .i64 0] 23 (0, 0)) := (hb2.block _ (cells_lt hk1)).trans hk1
    have HB2 := Aside0.mk (below_step HB1.out hb2)
    obtain ⟨A2, c2, rfl, hc2, hr2⟩ := Kd.R_reads ho2
    obtain ⟨A3, hcut3, hcr3⟩ := cut_any A2 b.length c2 k1 HH.out.1 hc2
    obtain ⟨A4, hcut4, hcr4⟩ := cut_any A2 b.length c2 (k1 + kt) (by have := HH.out; have := HL.out; omega) hc2
    obtain ⟨A5, hcut5, hcr5⟩ := cut_any A2 b.length c2 (k1 + kt + k3) (by have := HH.out; have := HL.out; omega) hc2
    have g3 : ∀ W, (Instr.slice 36 (.slice A2 b.length c2) (some (.int .i64 (k1 : Int))) none none).run Tryd.prog W = .ok (.slice A3 b1.length (c2 - k1)) W := fun W => by rw [HL.out.1]; exact hcut3 W
    have g4 : ∀ W, (Instr.slice 36 (.slice A2 b.length c2) (some (.int .i64 ((k1 : Int) + (kt : Int)))) none none).run Tryd.prog W = .ok (.slice A4 b2.length (c2 - (k1 + kt))) W := fun W => by rw [HL.out.2.1, HL.out.1, Nat.sub_sub]; exact hcut4 W
    have g5 : ∀ W, (Instr.slice 36 (.slice A2 b.length c2) (some (.int .i64 ((k1 : Int) + (kt : Int) + (k3 : Int)))) none none).run Tryd.prog W = .ok (.slice A5 b3.length (c2 - (k1 + kt + k3))) W := fun W => by rw [show b3.length = b.length - (k1 + kt + k3) by have := HL.out; omega]; exact hcut5 W
    obtain ⟨c3, hc3⟩ : ∃ x, c2 - k1 = x := ⟨_, rfl⟩
    obtain ⟨c4, hc4⟩ : ∃ x, c2 - (k1 + kt) = x := ⟨_, rfl⟩
    obtain ⟨c5, hc5⟩ : ∃ x, c2 - (k1 + kt + k3) = x := ⟨_, rfl⟩
    have HCC := Aside0.mk (show b1.length ≤ c3 ∧ b2.length ≤ c4 ∧ b3.length ≤ c5 by have := HL.out; omega)
    rw [hc3] at g3
    rw [hc4] at g4
    rw [hc5] at g5
    clear hc3 hc4 hc5
    have HR2 := Aside0.mk hr2
    have HC2 := Aside0.mk hc2
    have HR3 := Aside0.mk (show Kd.C (Kd.int .u8) w2 A3 b1.length b1 by have := hcr3 w2 b hr2; rw [HD.out.1] at this; rw [HL.out.1]; exact this)
    have HR4 := Aside0.mk (show Kd.C (Kd.int .u8) w2 A4 b2.length b2 by have := hcr4 w2 b hr2; rw [HD.out.2.1] at this; rw [HL.out.2.1, HL.out.1, Nat.sub_sub]; exact this)
    have HR5 := Aside0.mk (show Kd.C (Kd.int .u8) w2 A5 b3.length b3 by have := hcr5 w2 b hr2; rw [HD.out.2.2] at this; rw [show b3.length = b.length - (k1 + kt + k3) by have := HL.out; omega]; exact this)
    have ST := Aside0.mk (show RefSt w2 (w2.alloc (.cells #[.int .i64 0, .string ⟨#[]⟩, .int .i64 0, .int .i64 0] 23)) (.int .i64 0) (.string ⟨#[]⟩) (.int .i64 0) (.int .i64 0) from ⟨below_alloc (Below.refl _ _) _, heap_new _ _⟩)
    clear hb2 ho2 hc2 hr2 hcut3 hcr3 hcut4 hcr4 hcut5 hcr5)
  go_wp2_with (
    go_at_call 34
    refine (P.racewayref01_ReadNum.calls K1 A2 c2 b x1 k1 e1 _ (Kd.C_below HR2.out ST.out.below) HC2.out HK1.out).mono ?_
    rintro en w3 ⟨rfl, nd3, hw3⟩
    have st3 := ST.out.drew nd3
    rw [← hw3] at st3
    clear hw3
    obtain ⟨p0, p1, p2, p3, p4, p5, p6, p7⟩ := box4 st3.b3
    have st3' := st3.put 0 (.int .i64 x1) (.int .i64 x1) (.string ⟨#[]⟩) (.int .i64 0) (.int .i64 0) rfl
    have ST := Aside0.mk st3'
    obtain ⟨q0, q1, q2, q3, q4, q5, q6, q7⟩ := box4 st3'.b3
    clear st3 st3')
  go_wp2_with (
    go_at_call 35
    refine (P.racewayref01_ReadText.calls KT A3 c3 b1 g kt et _ (Kd.C_below HR3.out ST.out.below) HCC.out.1 HKT.out).mono ?_
    rintro en w4 ⟨rfl, nd4, hw4⟩
    have st4 := ST.out.drew nd4
    rw [← hw4] at st4
    clear hw4 p0 p1 p2 p3 p4 p5 p6 p7 q0 q1 q2 q3 q4 q5 q6 q7
    obtain ⟨p0, p1, p2, p3, p4, p5, p6, p7⟩ := box4 st4.b3
    have st4' := st4.put 1 (.string g) (.int .i64 x1) (.string g) (.int .i64 0) (.int .i64 0) rfl
    have ST := Aside0.mk st4'
    obtain ⟨q0, q1, q2, q3, q4, q5, q6, q7⟩ := box4 st4'.b3
    clear st4 st4')
  go_wp2_with (first
    | (
      have _m := MARK3
      go_at_call 34
      refine (P.racewayref01_ReadNum.calls K4 A5 c5 b3 x4 k4 e4 _ (Kd.C_below HR5.out ST.out.below) HCC.out.2.2 HK4.out).mono ?_
      rintro en w6 ⟨rfl, nd6, hw6⟩
      have st6 := ST.out.drew nd6
      rw [← hw6] at st6
      clear hw6 p0 p1 p2 p3 p4 p5 p6 p7 q0 q1 q2 q3 q4 q5 q6 q7
      obtain ⟨p0, p1, p2, p3, p4, p5, p6, p7⟩ := box4 st6.b3
      have hk6 := (st6.below.block _ (cells_lt hk2)).trans hk2
      have HBL := Aside0.mk (below_step HB2.out st6.below)
      clear st6
      obtain ⟨r0, r1, r2, r3, f0, f1, f2, f3⟩ := box4 hk6)
    | (
      go_at_call 34
      refine (P.racewayref01_ReadNum.calls K3 A4 c4 b2 x3 k3 e3 _ (Kd.C_below HR4.out ST.out.below) HCC.out.2.1 HK3.out).mono ?_
      rintro en w5 ⟨rfl, nd5, hw5⟩
      have st5 := ST.out.drew nd5
      rw [← hw5] at st5
      clear hw5 p0 p1 p2 p3 p4 p5 p6 p7 q0 q1 q2 q3 q4 q5 q6 q7
      obtain ⟨p0, p1, p2, p3, p4, p5, p6, p7⟩ := box4 st5.b3
      have st5' := st5.put 2 (.int .i64 x3) (.int .i64 x1) (.string g) (.int .i64 x3) (.int .i64 0) rfl
      have ST := Aside0.mk st5'
      obtain ⟨q0, q1, q2, q3, q4, q5, q6, q7⟩ := box4 st5'.b3
      clear st5 st5'
      have MARK3 := True.intro))
  refine bodyPost_ret (results_ropen _ _ w.heap.size (.int .i64 0) (.string ⟨#[]⟩) (.int .i64 0) (.int .i64 0) (.int .i64 12) (put4_heap _ _ _ _ hk6) rfl rfl) rfl ⟨rfl, put4_below _ _ _ _ HBL.out (Nat.le_refl _)⟩

set_option maxHeartbeats 8000000 in
set_option maxRecDepth 100000 in
theorem ropen_h1 (s : ByteArray) (f b : List Int) (hf : isBytes f) (hfl : f.length ≤ 1000000) (hu : unframe f = some b) (K : Nat) (hK : P.racewayref22_Decode.f K s = some (f, 0)) (w : World) (hb : isBytes b) (hbl : b.length ≤ 1000000)
    (b1 b2 b3 : List Int) (x1 x3 x4 e1 et e3 e4 : Int) (g : ByteArray) (k1 kt k3 k4 : Nat) (hb1' : b.drop k1 = b1) (hb2' : b1.drop kt = b2) (hb3' : b2.drop k3 = b3)
    (h1 : k1 ≤ b.length) (ht : kt ≤ b1.length) (h3 : k3 ≤ b2.length) (hrn1 : rn 0 0 b = (x1, (k1 : Int), e1)) (hrt : rt b1 = (g, (kt : Int), et)) (hrn3 : rn 0 0 b2 = (x3, (k3 : Int), e3)) (hrn4 : rn 0 0 b3 = (x4, (k4 : Int), e4))
    (he1 : e1 = 0) (het : et = 0) (he3 : e3 = 0) (he4 : e4 = 0) (hs : ByteArray) (hcode : Int) (KH : Nat) (hKH : P.racewayref27_Handle.f KH x1 g x3 x4 = some (hs, hcode)) (hne : hcode ≠ 0) :
    Calls Tryd.prog 10 #[.string s] w fun en w' => en = .returned (answer none) ∧ Below w.heap.size w w' := by
  have HKH := Aside0.mk hKH
  clear hKH
  have hne' : (hcode != 0) = true := bne_iff_ne.2 hne
  clear hne
  have hl1 : b1.length = b.length - k1 := by rw [← hb1', List.length_drop]
  have hl2 : b2.length = b1.length - kt := by rw [← hb2', List.length_drop]
  have hl3 : b3.length = b2.length - k3 := by rw [← hb3', List.length_drop]
  have hbb1 : isBytes b1 := by rw [← hb1']; exact isBytes_drop _ hb
  have hbb2 : isBytes b2 := by rw [← hb2']; exact isBytes_drop _ hbb1
  have hbb3 : isBytes b3 := by rw [← hb3']; exact isBytes_drop _ hbb2
  obtain ⟨K1, hK1⟩ := (ref_rn b hb (by omega)).get
  obtain ⟨KT, hKT⟩ := (ref_rt b1 hbb1 (by omega)).get
  obtain ⟨K3, hK3⟩ := (ref_rn b2 hbb2 (by omega)).get
  obtain ⟨K4, hK4⟩ := (ref_rn b3 hbb3 (by omega)).get
  rw [hrn1] at hK1
  rw [hrt] at hKT
  rw [hrn3] at hK3
  rw [hrn4] at hK4
  have d2 : b.drop (k1 + kt) = b2 := by rw [← hb2', ← hb1', List.drop_drop]
  have d3 : b.drop (k1 + kt + k3) = b3 := by rw [← hb3', ← d2, List.drop_drop]
  have hf0 : f ≠ [] := fun h2 => by
    rw [h2, show unframe [] = none from rfl] at hu
    cases hu
  have HK := Aside0.mk hK
  have HU := Aside0.mk hu
  have HF := Aside0.mk hf
  have HK1 := Aside0.mk hK1
  have HKT := Aside0.mk hKT
  have HK3 := Aside0.mk hK3
  have HK4 := Aside0.mk hK4
  have HL := Aside0.mk (And.intro hl1 (And.intro hl2 hl3))
  have HD := Aside0.mk (And.intro hb1' (And.intro d2 d3))
  have HH := Aside0.mk (And.intro h1 (And.intro ht h3))
  have HF0 := Aside0.mk hf0
  have hw1 : IntKind.i64.wrap ((k1 : Int) + (kt : Int)) = (k1 : Int) + (kt : Int) := by rw [IntKind.wrap_i64]; omega
  have hw2 : IntKind.i64.wrap ((k1 : Int) + (kt : Int) + (k3 : Int)) = (k1 : Int) + (kt : Int) + (k3 : Int) := by rw [IntKind.wrap_i64]; omega
  clear hK hu hf hK1 hKT hK3 hK4 hl1 hl2 hl3 hb1' hb2' hb3' d2 d3 h1 ht h3 hrn1 hrt hrn3 hrn4 hbb1 hbb2 hbb3 hf0 hb
  have he1' : (e1 != 0) = false := bne_eq_false_iff_eq.2 he1
  have het' : (et != 0) = false := bne_eq_false_iff_eq.2 het
  have he3' : (e3 != 0) = false := bne_eq_false_iff_eq.2 he3
  have he4' : (e4 != 0) = false := bne_eq_false_iff_eq.2 he4
  clear he1 het he3 he4
  go_enter Tryd.func10, Tryd.ntmps10
  have hk0 : (w.alloc (.cells #[.int .i64 0, .string ⟨#[]⟩, .int .i64 0, .int .i64 0] 23)).heap[w.heap.size]? = some (.cells #[.int .i64 0, .string ⟨#[]⟩, .int .i64 0, .int .i64 0] 23 (0, 0)) := heap_new _ _
  go_wp2_with (
    go_at_call 32
    refine (P.racewayref22_Decode.calls K s _ _ _ HK.out).mono ?_
    rintro en w1 ⟨v1, rfl, ho1, hb1⟩
    have hk1 : w1.heap[w.heap.size]? = some (.cells #[.int .i64 0, .string ⟨#[]⟩, .int .i64 0, .int .i64 0] 23 (0, 0)) := (hb1.block _ (by simp)).trans hk0
    have HB1 := Aside0.mk (below_step (below_alloc (Below.refl _ _) _) hb1)
    obtain ⟨a1, c1, rfl, hc1, hr1⟩ := own_some ho1 HF0.out
    have HC1 := Aside0.mk hc1
    have HR1 := Aside0.mk hr1
    clear hb1 ho1 hc1 hr1)
  go_wp2_with (
    go_at_call 33
    refine (rnext_some a1 c1 f b w1 HR1.out HC1.out HF.out hfl HU.out).mono ?_
    rintro en w2 ⟨⟨v2, rfl, ho2⟩, hb2⟩
    have hk2 : w2.heap[w.heap.size]? = some (.cells #[.int .i64 0, .string ⟨#[]⟩, .int .i64 0, .int .i64 0] 23 (0, 0)) := (hb2.block _ (cells_lt hk1)).trans hk1
    have HB2 := Aside0.mk (below_step HB1.out hb2)
    obtain ⟨A2, c2, rfl, hc2, hr2⟩ := Kd.R_reads ho2
    obtain ⟨A3, hcut3, hcr3⟩ := cut_any A2 b.length c2 k1 HH.out.1 hc2
    obtain ⟨A4, hcut4, hcr4⟩ := cut_any A2 b.length c2 (k1 + kt) (by have := HH.out; have := HL.out; omega) hc2
    obtain ⟨A5, hcut5, hcr5⟩ := cut_any A2 b.length c2 (k1 + kt + k3) (by have := HH.out; have := HL.out; omega) hc2
    have g3 : ∀ W, (Instr.slice 36 (.slice A2 b.length c2) (some (.int .i64 (k1 : Int))) none none).run Tryd.prog W = .ok (.slice A3 b1.length (c2 - k1)) W := fun W => by rw [HL.out.1]; exact hcut3 W
    have g4 : ∀ W, (Instr.slice 36 (.slice A2 b.length c2) (some (.int .i64 ((k1 : Int) + (kt : Int)))) none none).run Tryd.prog W = .ok (.slice A4 b2.length (c2 - (k1 + kt))) W := fun W => by rw [HL.out.2.1, HL.out.1, Nat.sub_sub]; exact hcut4 W
    have g5 : ∀ W, (Instr.slice 36 (.slice A2 b.length c2) (some (.int .i64 ((k1 : Int) + (kt : Int) + (k3 : Int)))) none none).run Tryd.prog W = .ok (.slice A5 b3.length (c2 - (k1 + kt + k3))) W := fun W => by rw [show b3.length = b.length - (k1 + kt + k3) by have := HL.out; omega]; exact hcut5 W
    obtain ⟨c3, hc3⟩ : ∃ x, c2 - k1 = x := ⟨_, rfl⟩
    obtain ⟨c4, hc4⟩ : ∃ x, c2 - (k1 + kt) = x := ⟨_, rfl⟩
    obtain ⟨c5, hc5⟩ : ∃ x, c2 - (k1 + kt + k3) = x := ⟨_, rfl⟩
    have HCC := Aside0.mk (show b1.length ≤ c3 ∧ b2.length ≤ c4 ∧ b3.length ≤ c5 by have := HL.out; omega)
    rw [hc3] at g3
    rw [hc4] at g4
    rw [hc5] at g5
    clear hc3 hc4 hc5
    have HR2 := Aside0.mk hr2
    have HC2 := Aside0.mk hc2
    have HR3 := Aside0.mk (show Kd.C (Kd.int .u8) w2 A3 b1.length b1 by have := hcr3 w2 b hr2; rw [HD.out.1] at this; rw [HL.out.1]; exact this)
    have HR4 := Aside0.mk (show Kd.C (Kd.int .u8) w2 A4 b2.length b2 by have := hcr4 w2 b hr2; rw [HD.out.2.1] at this; rw [HL.out.2.1, HL.out.1, Nat.sub_sub]; exact this)
    have HR5 := Aside0.mk (show Kd.C (Kd.int .u8) w2 A5 b3.length b3 by have := hcr5 w2 b hr2; rw [HD.out.2.2] at this; rw [show b3.length = b.length - (k1 + kt + k3) by have := HL.out; omega]; exact this)
    have ST := Aside0.mk (show RefSt w2 (w2.alloc (.cells #[.int .i64 0, .string ⟨#[]⟩, .int .i64 0, .int .i64 0] 23)) (.int .i64 0) (.string ⟨#[]⟩) (.int .i64 0) (.int .i64 0) from ⟨below_alloc (Below.refl _ _) _, heap_new _ _⟩)
    clear hb2 ho2 hc2 hr2 hcut3 hcr3 hcut4 hcr4 hcut5 hcr5)
  go_wp2_with (
    go_at_call 34
    refine (P.racewayref01_ReadNum.calls K1 A2 c2 b x1 k1 e1 _ (Kd.C_below HR2.out ST.out.below) HC2.out HK1.out).mono ?_
    rintro en w3 ⟨rfl, nd3, hw3⟩
    have st3 := ST.out.drew nd3
    rw [← hw3] at st3
    clear hw3
    obtain ⟨p0, p1, p2, p3, p4, p5, p6, p7⟩ := box4 st3.b3
    have st3' := st3.put 0 (.int .i64 x1) (.int .i64 x1) (.string ⟨#[]⟩) (.int .i64 0) (.int .i64 0) rfl
    have ST := Aside0.mk st3'
    obtain ⟨q0, q1, q2, q3, q4, q5, q6, q7⟩ := box4 st3'.b3
    clear st3 st3')
  go_wp2_with (
    go_at_call 35
    refine (P.racewayref01_ReadText.calls KT A3 c3 b1 g kt et _ (Kd.C_below HR3.out ST.out.below) HCC.out.1 HKT.out).mono ?_
    rintro en w4 ⟨rfl, nd4, hw4⟩
    have st4 := ST.out.drew nd4
    rw [← hw4] at st4
    clear hw4 p0 p1 p2 p3 p4 p5 p6 p7 q0 q1 q2 q3 q4 q5 q6 q7
    obtain ⟨p0, p1, p2, p3, p4, p5, p6, p7⟩ := box4 st4.b3
    have st4' := st4.put 1 (.string g) (.int .i64 x1) (.string g) (.int .i64 0) (.int .i64 0) rfl
    have ST := Aside0.mk st4'
    obtain ⟨q0, q1, q2, q3, q4, q5, q6, q7⟩ := box4 st4'.b3
    clear st4 st4')
  go_wp2_with (first
    | (
      have _m := MARK3
      go_at_call 34
      refine (P.racewayref01_ReadNum.calls K4 A5 c5 b3 x4 k4 e4 _ (Kd.C_below HR5.out ST.out.below) HCC.out.2.2 HK4.out).mono ?_
      rintro en w6 ⟨rfl, nd6, hw6⟩
      have st6 := ST.out.drew nd6
      rw [← hw6] at st6
      clear hw6 p0 p1 p2 p3 p4 p5 p6 p7 q0 q1 q2 q3 q4 q5 q6 q7
      obtain ⟨p0, p1, p2, p3, p4, p5, p6, p7⟩ := box4 st6.b3
      have st6' := st6.put 3 (.int .i64 x4) (.int .i64 x1) (.string g) (.int .i64 x3) (.int .i64 x4) rfl
      have ST := Aside0.mk st6'
      obtain ⟨q0, q1, q2, q3, q4, q5, q6, q7⟩ := box4 st6'.b3
      clear st6 st6'
      have ST6 := ST)
    | (
      go_at_call 34
      refine (P.racewayref01_ReadNum.calls K3 A4 c4 b2 x3 k3 e3 _ (Kd.C_below HR4.out ST.out.below) HCC.out.2.1 HK3.out).mono ?_
      rintro en w5 ⟨rfl, nd5, hw5⟩
      have st5 := ST.out.drew nd5
      rw [← hw5] at st5
      clear hw5 p0 p1 p2 p3 p4 p5 p6 p7 q0 q1 q2 q3 q4 q5 q6 q7
      obtain ⟨p0, p1, p2, p3, p4, p5, p6, p7⟩ := box4 st5.b3
      have st5' := st5.put 2 (.int .i64 x3) (.int .i64 x1) (.string g) (.int .i64 x3) (.int .i64 0) rfl
      have ST := Aside0.mk st5'
      obtain ⟨q0, q1, q2, q3, q4, q5, q6, q7⟩ := box4 st5'.b3
      clear st5 st5'
      have MARK3 := True.intro))
  go_wp2_with (
    go_at_call 8
    refine (P.racewayref27_Handle.calls KH x1 g x3 x4 hs hcode _ HKH.out).mono ?_
    rintro en w7 ⟨rfl, hb7⟩
    have st7 := ST6.out.next hb7
    clear hb7 p0 p1 p2 p3 p4 p5 p6 p7 q0 q1 q2 q3 q4 q5 q6 q7
    obtain ⟨p0, p1, p2, p3, p4, p5, p6, p7⟩ := box4 st7.b3
    have hk7 := (st7.below.block _ (cells_lt hk2)).trans hk2
    have HBL := Aside0.mk (below_step HB2.out st7.below)
    clear st7
    obtain ⟨r0, r1, r2, r3, f0, f1, f2, f3⟩ := box4 hk7)
  refine bodyPost_ret (results_ropen _ _ w.heap.size (.int .i64 0) (.string ⟨#[]⟩) (.int .i64 0) (.int .i64 0) (.int .i64 12) (put4_heap _ _ _ _ hk7) rfl rfl) rfl ⟨rfl, put4_below _ _ _ _ HBL.out (Nat.le_refl _)⟩

set_option maxHeartbeats 8000000 in
set_option maxRecDepth 100000 in
theorem ropen_h2 (s : ByteArray) (f b : List Int) (hf : isBytes f) (hfl : f.length ≤ 1000000) (hu : unframe f = some b) (K : Nat) (hK : P.racewayref22_Decode.f K s = some (f, 0)) (w : World) (hb : isBytes b) (hbl : b.length ≤ 1000000)
    (b1 b2 b3 : List Int) (x1 x3 x4 e1 et e3 e4 : Int) (g : ByteArray) (k1 kt k3 k4 : Nat) (hb1' : b.drop k1 = b1) (hb2' : b1.drop kt = b2) (hb3' : b2.drop k3 = b3)
    (h1 : k1 ≤ b.length) (ht : kt ≤ b1.length) (h3 : k3 ≤ b2.length) (hrn1 : rn 0 0 b = (x1, (k1 : Int), e1)) (hrt : rt b1 = (g, (kt : Int), et)) (hrn3 : rn 0 0 b2 = (x3, (k3 : Int), e3)) (hrn4 : rn 0 0 b3 = (x4, (k4 : Int), e4))
    (he1 : e1 = 0) (het : et = 0) (he3 : e3 = 0) (he4 : e4 = 0) (hs : ByteArray) (hcode : Int) (KH : Nat) (hKH : P.racewayref27_Handle.f KH x1 g x3 x4 = some (hs, hcode)) (hne : hcode = 0) (hss : hs ≠ s) :
    Calls Tryd.prog 10 #[.string s] w fun en w' => en = .returned (answer none) ∧ Below w.heap.size w w' := by
  have HKH := Aside0.mk hKH
  clear hKH
  have hne' : (hcode != 0) = false := bne_eq_false_iff_eq.2 hne
  have hss' : (hs.toList == s.toList) = false := by rw [toList_beq, decide_eq_false hss]
  clear hne hss
  have hl1 : b1.length = b.length - k1 := by rw [← hb1', List.length_drop]
  have hl2 : b2.length = b1.length - kt := by rw [← hb2', List.length_drop]
  have hl3 : b3.length = b2.length - k3 := by rw [← hb3', List.length_drop]
  have hbb1 : isBytes b1 := by rw [← hb1']; exact isBytes_drop _ hb
  have hbb2 : isBytes b2 := by rw [← hb2']; exact isBytes_drop _ hbb1
  have hbb3 : isBytes b3 := by rw [← hb3']; exact isBytes_drop _ hbb2
  obtain ⟨K1, hK1⟩ := (ref_rn b hb (by omega)).get
  obtain ⟨KT, hKT⟩ := (ref_rt b1 hbb1 (by omega)).get
  obtain ⟨K3, hK3⟩ := (ref_rn b2 hbb2 (by omega)).get
  obtain ⟨K4, hK4⟩ := (ref_rn b3 hbb3 (by omega)).get
  rw [hrn1] at hK1
  rw [hrt] at hKT
  rw [hrn3] at hK3
  rw [hrn4] at hK4
  have d2 : b.drop (k1 + kt) = b2 := by rw [← hb2', ← hb1', List.drop_drop]
  have d3 : b.drop (k1 + kt + k3) = b3 := by rw [← hb3', ← d2, List.drop_drop]
  have hf0 : f ≠ [] := fun h2 => by
    rw [h2, show unframe [] = none from rfl] at hu
    cases hu
  have HK := Aside0.mk hK
  have HU := Aside0.mk hu
  have HF := Aside0.mk hf
  have HK1 := Aside0.mk hK1
  have HKT := Aside0.mk hKT
  have HK3 := Aside0.mk hK3
  have HK4 := Aside0.mk hK4
  have HL := Aside0.mk (And.intro hl1 (And.intro hl2 hl3))
  have HD := Aside0.mk (And.intro hb1' (And.intro d2 d3))
  have HH := Aside0.mk (And.intro h1 (And.intro ht h3))
  have HF0 := Aside0.mk hf0
  have hw1 : IntKind.i64.wrap ((k1 : Int) + (kt : Int)) = (k1 : Int) + (kt : Int) := by rw [IntKind.wrap_i64]; omega
  have hw2 : IntKind.i64.wrap ((k1 : Int) + (kt : Int) + (k3 : Int)) = (k1 : Int) + (kt : Int) + (k3 : Int) := by rw [IntKind.wrap_i64]; omega
  clear hK hu hf hK1 hKT hK3 hK4 hl1 hl2 hl3 hb1' hb2' hb3' d2 d3 h1 ht h3 hrn1 hrt hrn3 hrn4 hbb1 hbb2 hbb3 hf0 hb
  have he1' : (e1 != 0) = false := bne_eq_false_iff_eq.2 he1
  have het' : (et != 0) = false := bne_eq_false_iff_eq.2 het
  have he3' : (e3 != 0) = false := bne_eq_false_iff_eq.2 he3
  have he4' : (e4 != 0) = false := bne_eq_false_iff_eq.2 he4
  clear he1 het he3 he4
  go_enter Tryd.func10, Tryd.ntmps10
  have hk0 : (w.alloc (.cells #[.int .i64 0, .string ⟨#[]⟩, .int .i64 0, .int .i64 0] 23)).heap[w.heap.size]? = some (.cells #[.int .i64 0, .string ⟨#[]⟩, .int .i64 0, .int .i64 0] 23 (0, 0)) := heap_new _ _
  go_wp2_with (
    go_at_call 32
    refine (P.racewayref22_Decode.calls K s _ _ _ HK.out).mono ?_
    rintro en w1 ⟨v1, rfl, ho1, hb1⟩
    have hk1 : w1.heap[w.heap.size]? = some (.cells #[.int .i64 0, .string ⟨#[]⟩, .int .i64 0, .int .i64 0] 23 (0, 0)) := (hb1.block _ (by simp)).trans hk0
    have HB1 := Aside0.mk (below_step (below_alloc (Below.refl _ _) _) hb1)
    obtain ⟨a1, c1, rfl, hc1, hr1⟩ := own_some ho1 HF0.out
    have HC1 := Aside0.mk hc1
    have HR1 := Aside0.mk hr1
    clear hb1 ho1 hc1 hr1)
  go_wp2_with (
    go_at_call 33
    refine (rnext_some a1 c1 f b w1 HR1.out HC1.out HF.out hfl HU.out).mono ?_
    rintro en w2 ⟨⟨v2, rfl, ho2⟩, hb2⟩
    have hk2 : w2.heap[w.heap.size]? = some (.cells #[.int .i64 0, .string ⟨#[]⟩, .int .i64 0, .int .i64 0] 23 (0, 0)) := (hb2.block _ (cells_lt hk1)).trans hk1
    have HB2 := Aside0.mk (below_step HB1.out hb2)
    obtain ⟨A2, c2, rfl, hc2, hr2⟩ := Kd.R_reads ho2
    obtain ⟨A3, hcut3, hcr3⟩ := cut_any A2 b.length c2 k1 HH.out.1 hc2
    obtain ⟨A4, hcut4, hcr4⟩ := cut_any A2 b.length c2 (k1 + kt) (by have := HH.out; have := HL.out; omega) hc2
    obtain ⟨A5, hcut5, hcr5⟩ := cut_any A2 b.length c2 (k1 + kt + k3) (by have := HH.out; have := HL.out; omega) hc2
    have g3 : ∀ W, (Instr.slice 36 (.slice A2 b.length c2) (some (.int .i64 (k1 : Int))) none none).run Tryd.prog W = .ok (.slice A3 b1.length (c2 - k1)) W := fun W => by rw [HL.out.1]; exact hcut3 W
    have g4 : ∀ W, (Instr.slice 36 (.slice A2 b.length c2) (some (.int .i64 ((k1 : Int) + (kt : Int)))) none none).run Tryd.prog W = .ok (.slice A4 b2.length (c2 - (k1 + kt))) W := fun W => by rw [HL.out.2.1, HL.out.1, Nat.sub_sub]; exact hcut4 W
    have g5 : ∀ W, (Instr.slice 36 (.slice A2 b.length c2) (some (.int .i64 ((k1 : Int) + (kt : Int) + (k3 : Int)))) none none).run Tryd.prog W = .ok (.slice A5 b3.length (c2 - (k1 + kt + k3))) W := fun W => by rw [show b3.length = b.length - (k1 + kt + k3) by have := HL.out; omega]; exact hcut5 W
    obtain ⟨c3, hc3⟩ : ∃ x, c2 - k1 = x := ⟨_, rfl⟩
    obtain ⟨c4, hc4⟩ : ∃ x, c2 - (k1 + kt) = x := ⟨_, rfl⟩
    obtain ⟨c5, hc5⟩ : ∃ x, c2 - (k1 + kt + k3) = x := ⟨_, rfl⟩
    have HCC := Aside0.mk (show b1.length ≤ c3 ∧ b2.length ≤ c4 ∧ b3.length ≤ c5 by have := HL.out; omega)
    rw [hc3] at g3
    rw [hc4] at g4
    rw [hc5] at g5
    clear hc3 hc4 hc5
    have HR2 := Aside0.mk hr2
    have HC2 := Aside0.mk hc2
    have HR3 := Aside0.mk (show Kd.C (Kd.int .u8) w2 A3 b1.length b1 by have := hcr3 w2 b hr2; rw [HD.out.1] at this; rw [HL.out.1]; exact this)
    have HR4 := Aside0.mk (show Kd.C (Kd.int .u8) w2 A4 b2.length b2 by have := hcr4 w2 b hr2; rw [HD.out.2.1] at this; rw [HL.out.2.1, HL.out.1, Nat.sub_sub]; exact this)
    have HR5 := Aside0.mk (show Kd.C (Kd.int .u8) w2 A5 b3.length b3 by have := hcr5 w2 b hr2; rw [HD.out.2.2] at this; rw [show b3.length = b.length - (k1 + kt + k3) by have := HL.out; omega]; exact this)
    have ST := Aside0.mk (show RefSt w2 (w2.alloc (.cells #[.int .i64 0, .string ⟨#[]⟩, .int .i64 0, .int .i64 0] 23)) (.int .i64 0) (.string ⟨#[]⟩) (.int .i64 0) (.int .i64 0) from ⟨below_alloc (Below.refl _ _) _, heap_new _ _⟩)
    clear hb2 ho2 hc2 hr2 hcut3 hcr3 hcut4 hcr4 hcut5 hcr5)
  go_wp2_with (
    go_at_call 34
    refine (P.racewayref01_ReadNum.calls K1 A2 c2 b x1 k1 e1 _ (Kd.C_below HR2.out ST.out.below) HC2.out HK1.out).mono ?_
    rintro en w3 ⟨rfl, nd3, hw3⟩
    have st3 := ST.out.drew nd3
    rw [← hw3] at st3
    clear hw3
    obtain ⟨p0, p1, p2, p3, p4, p5, p6, p7⟩ := box4 st3.b3
    have st3' := st3.put 0 (.int .i64 x1) (.int .i64 x1) (.string ⟨#[]⟩) (.int .i64 0) (.int .i64 0) rfl
    have ST := Aside0.mk st3'
    obtain ⟨q0, q1, q2, q3, q4, q5, q6, q7⟩ := box4 st3'.b3
    clear st3 st3')
  go_wp2_with (
    go_at_call 35
    refine (P.racewayref01_ReadText.calls KT A3 c3 b1 g kt et _ (Kd.C_below HR3.out ST.out.below) HCC.out.1 HKT.out).mono ?_
    rintro en w4 ⟨rfl, nd4, hw4⟩
    have st4 := ST.out.drew nd4
    rw [← hw4] at st4
    clear hw4 p0 p1 p2 p3 p4 p5 p6 p7 q0 q1 q2 q3 q4 q5 q6 q7
    obtain ⟨p0, p1, p2, p3, p4, p5, p6, p7⟩ := box4 st4.b3
    have st4' := st4.put 1 (.string g) (.int .i64 x1) (.string g) (.int .i64 0) (.int .i64 0) rfl
    have ST := Aside0.mk st4'
    obtain ⟨q0, q1, q2, q3, q4, q5, q6, q7⟩ := box4 st4'.b3
    clear st4 st4')
  go_wp2_with (first
    | (
      have _m := MARK3
      go_at_call 34
      refine (P.racewayref01_ReadNum.calls K4 A5 c5 b3 x4 k4 e4 _ (Kd.C_below HR5.out ST.out.below) HCC.out.2.2 HK4.out).mono ?_
      rintro en w6 ⟨rfl, nd6, hw6⟩
      have st6 := ST.out.drew nd6
      rw [← hw6] at st6
      clear hw6 p0 p1 p2 p3 p4 p5 p6 p7 q0 q1 q2 q3 q4 q5 q6 q7
      obtain ⟨p0, p1, p2, p3, p4, p5, p6, p7⟩ := box4 st6.b3
      have st6' := st6.put 3 (.int .i64 x4) (.int .i64 x1) (.string g) (.int .i64 x3) (.int .i64 x4) rfl
      have ST := Aside0.mk st6'
      obtain ⟨q0, q1, q2, q3, q4, q5, q6, q7⟩ := box4 st6'.b3
      clear st6 st6'
      have ST6 := ST)
    | (
      go_at_call 34
      refine (P.racewayref01_ReadNum.calls K3 A4 c4 b2 x3 k3 e3 _ (Kd.C_below HR4.out ST.out.below) HCC.out.2.1 HK3.out).mono ?_
      rintro en w5 ⟨rfl, nd5, hw5⟩
      have st5 := ST.out.drew nd5
      rw [← hw5] at st5
      clear hw5 p0 p1 p2 p3 p4 p5 p6 p7 q0 q1 q2 q3 q4 q5 q6 q7
      obtain ⟨p0, p1, p2, p3, p4, p5, p6, p7⟩ := box4 st5.b3
      have st5' := st5.put 2 (.int .i64 x3) (.int .i64 x1) (.string g) (.int .i64 x3) (.int .i64 0) rfl
      have ST := Aside0.mk st5'
      obtain ⟨q0, q1, q2, q3, q4, q5, q6, q7⟩ := box4 st5'.b3
      clear st5 st5'
      have MARK3 := True.intro))
  go_wp2_with (
    go_at_call 8
    refine (P.racewayref27_Handle.calls KH x1 g x3 x4 hs hcode _ HKH.out).mono ?_
    rintro en w7 ⟨rfl, hb7⟩
    have st7 := ST6.out.next hb7
    clear hb7 p0 p1 p2 p3 p4 p5 p6 p7 q0 q1 q2 q3 q4 q5 q6 q7
    obtain ⟨p0, p1, p2, p3, p4, p5, p6, p7⟩ := box4 st7.b3
    have hk7 := (st7.below.block _ (cells_lt hk2)).trans hk2
    have HBL := Aside0.mk (below_step HB2.out st7.below)
    clear st7
    obtain ⟨r0, r1, r2, r3, f0, f1, f2, f3⟩ := box4 hk7)
  refine bodyPost_ret (results_ropen _ _ w.heap.size (.int .i64 0) (.string ⟨#[]⟩) (.int .i64 0) (.int .i64 0) (.int .i64 12) (put4_heap _ _ _ _ hk7) rfl rfl) rfl ⟨rfl, put4_below _ _ _ _ HBL.out (Nat.le_refl _)⟩

set_option maxHeartbeats 8000000 in
set_option maxRecDepth 100000 in
theorem ropen_h3 (s : ByteArray) (f b : List Int) (hf : isBytes f) (hfl : f.length ≤ 1000000) (hu : unframe f = some b) (K : Nat) (hK : P.racewayref22_Decode.f K s = some (f, 0)) (w : World) (hb : isBytes b) (hbl : b.length ≤ 1000000)
    (b1 b2 b3 : List Int) (x1 x3 x4 e1 et e3 e4 : Int) (g : ByteArray) (k1 kt k3 k4 : Nat) (hb1' : b.drop k1 = b1) (hb2' : b1.drop kt = b2) (hb3' : b2.drop k3 = b3)
    (h1 : k1 ≤ b.length) (ht : kt ≤ b1.length) (h3 : k3 ≤ b2.length) (hrn1 : rn 0 0 b = (x1, (k1 : Int), e1)) (hrt : rt b1 = (g, (kt : Int), et)) (hrn3 : rn 0 0 b2 = (x3, (k3 : Int), e3)) (hrn4 : rn 0 0 b3 = (x4, (k4 : Int), e4))
    (he1 : e1 = 0) (het : et = 0) (he3 : e3 = 0) (he4 : e4 = 0) (hs : ByteArray) (hcode : Int) (KH : Nat) (hKH : P.racewayref27_Handle.f KH x1 g x3 x4 = some (hs, hcode)) (hne : hcode = 0) (hss : hs = s) :
    Calls Tryd.prog 10 #[.string s] w fun en w' => en = .returned (answer (some ⟨x1, g, x3, x4⟩)) ∧ Below w.heap.size w w' := by
  have HKH := Aside0.mk hKH
  clear hKH
  have hne' : (hcode != 0) = false := bne_eq_false_iff_eq.2 hne
  have hss' : (hs.toList == s.toList) = true := by rw [toList_beq, decide_eq_true hss]
  clear hne hss
  have hl1 : b1.length = b.length - k1 := by rw [← hb1', List.length_drop]
  have hl2 : b2.length = b1.length - kt := by rw [← hb2', List.length_drop]
  have hl3 : b3.length = b2.length - k3 := by rw [← hb3', List.length_drop]
  have hbb1 : isBytes b1 := by rw [← hb1']; exact isBytes_drop _ hb
  have hbb2 : isBytes b2 := by rw [← hb2']; exact isBytes_drop _ hbb1
  have hbb3 : isBytes b3 := by rw [← hb3']; exact isBytes_drop _ hbb2
  obtain ⟨K1, hK1⟩ := (ref_rn b hb (by omega)).get
  obtain ⟨KT, hKT⟩ := (ref_rt b1 hbb1 (by omega)).get
  obtain ⟨K3, hK3⟩ := (ref_rn b2 hbb2 (by omega)).get
  obtain ⟨K4, hK4⟩ := (ref_rn b3 hbb3 (by omega)).get
  rw [hrn1] at hK1
  rw [hrt] at hKT
  rw [hrn3] at hK3
  rw [hrn4] at hK4
  have d2 : b.drop (k1 + kt) = b2 := by rw [← hb2', ← hb1', List.drop_drop]
  have d3 : b.drop (k1 + kt + k3) = b3 := by rw [← hb3', ← d2, List.drop_drop]
  have hf0 : f ≠ [] := fun h2 => by
    rw [h2, show unframe [] = none from rfl] at hu
    cases hu
  have HK := Aside0.mk hK
  have HU := Aside0.mk hu
  have HF := Aside0.mk hf
  have HK1 := Aside0.mk hK1
  have HKT := Aside0.mk hKT
  have HK3 := Aside0.mk hK3
  have HK4 := Aside0.mk hK4
  have HL := Aside0.mk (And.intro hl1 (And.intro hl2 hl3))
  have HD := Aside0.mk (And.intro hb1' (And.intro d2 d3))
  have HH := Aside0.mk (And.intro h1 (And.intro ht h3))
  have HF0 := Aside0.mk hf0
  have hw1 : IntKind.i64.wrap ((k1 : Int) + (kt : Int)) = (k1 : Int) + (kt : Int) := by rw [IntKind.wrap_i64]; omega
  have hw2 : IntKind.i64.wrap ((k1 : Int) + (kt : Int) + (k3 : Int)) = (k1 : Int) + (kt : Int) + (k3 : Int) := by rw [IntKind.wrap_i64]; omega
  clear hK hu hf hK1 hKT hK3 hK4 hl1 hl2 hl3 hb1' hb2' hb3' d2 d3 h1 ht h3 hrn1 hrt hrn3 hrn4 hbb1 hbb2 hbb3 hf0 hb
  have he1' : (e1 != 0) = false := bne_eq_false_iff_eq.2 he1
  have het' : (et != 0) = false := bne_eq_false_iff_eq.2 het
  have he3' : (e3 != 0) = false := bne_eq_false_iff_eq.2 he3
  have he4' : (e4 != 0) = false := bne_eq_false_iff_eq.2 he4
  clear he1 het he3 he4
  go_enter Tryd.func10, Tryd.ntmps10
  have hk0 : (w.alloc (.cells #[.int .i64 0, .string ⟨#[]⟩, .int .i64 0, .int .i64 0] 23)).heap[w.heap.size]? = some (.cells #[.int .i64 0, .string ⟨#[]⟩, .int .i64 0, .int .i64 0] 23 (0, 0)) := heap_new _ _
  go_wp2_with (
    go_at_call 32
    refine (P.racewayref22_Decode.calls K s _ _ _ HK.out).mono ?_
    rintro en w1 ⟨v1, rfl, ho1, hb1⟩
    have hk1 : w1.heap[w.heap.size]? = some (.cells #[.int .i64 0, .string ⟨#[]⟩, .int .i64 0, .int .i64 0] 23 (0, 0)) := (hb1.block _ (by simp)).trans hk0
    have HB1 := Aside0.mk (below_step (below_alloc (Below.refl _ _) _) hb1)
    obtain ⟨a1, c1, rfl, hc1, hr1⟩ := own_some ho1 HF0.out
    have HC1 := Aside0.mk hc1
    have HR1 := Aside0.mk hr1
    clear hb1 ho1 hc1 hr1)
  go_wp2_with (
    go_at_call 33
    refine (rnext_some a1 c1 f b w1 HR1.out HC1.out HF.out hfl HU.out).mono ?_
    rintro en w2 ⟨⟨v2, rfl, ho2⟩, hb2⟩
    have hk2 : w2.heap[w.heap.size]? = some (.cells #[.int .i64 0, .string ⟨#[]⟩, .int .i64 0, .int .i64 0] 23 (0, 0)) := (hb2.block _ (cells_lt hk1)).trans hk1
    have HB2 := Aside0.mk (below_step HB1.out hb2)
    obtain ⟨A2, c2, rfl, hc2, hr2⟩ := Kd.R_reads ho2
    obtain ⟨A3, hcut3, hcr3⟩ := cut_any A2 b.length c2 k1 HH.out.1 hc2
    obtain ⟨A4, hcut4, hcr4⟩ := cut_any A2 b.length c2 (k1 + kt) (by have := HH.out; have := HL.out; omega) hc2
    obtain ⟨A5, hcut5, hcr5⟩ := cut_any A2 b.length c2 (k1 + kt + k3) (by have := HH.out; have := HL.out; omega) hc2
    have g3 : ∀ W, (Instr.slice 36 (.slice A2 b.length c2) (some (.int .i64 (k1 : Int))) none none).run Tryd.prog W = .ok (.slice A3 b1.length (c2 - k1)) W := fun W => by rw [HL.out.1]; exact hcut3 W
    have g4 : ∀ W, (Instr.slice 36 (.slice A2 b.length c2) (some (.int .i64 ((k1 : Int) + (kt : Int)))) none none).run Tryd.prog W = .ok (.slice A4 b2.length (c2 - (k1 + kt))) W := fun W => by rw [HL.out.2.1, HL.out.1, Nat.sub_sub]; exact hcut4 W
    have g5 : ∀ W, (Instr.slice 36 (.slice A2 b.length c2) (some (.int .i64 ((k1 : Int) + (kt : Int) + (k3 : Int)))) none none).run Tryd.prog W = .ok (.slice A5 b3.length (c2 - (k1 + kt + k3))) W := fun W => by rw [show b3.length = b.length - (k1 + kt + k3) by have := HL.out; omega]; exact hcut5 W
    obtain ⟨c3, hc3⟩ : ∃ x, c2 - k1 = x := ⟨_, rfl⟩
    obtain ⟨c4, hc4⟩ : ∃ x, c2 - (k1 + kt) = x := ⟨_, rfl⟩
    obtain ⟨c5, hc5⟩ : ∃ x, c2 - (k1 + kt + k3) = x := ⟨_, rfl⟩
    have HCC := Aside0.mk (show b1.length ≤ c3 ∧ b2.length ≤ c4 ∧ b3.length ≤ c5 by have := HL.out; omega)
    rw [hc3] at g3
    rw [hc4] at g4
    rw [hc5] at g5
    clear hc3 hc4 hc5
    have HR2 := Aside0.mk hr2
    have HC2 := Aside0.mk hc2
    have HR3 := Aside0.mk (show Kd.C (Kd.int .u8) w2 A3 b1.length b1 by have := hcr3 w2 b hr2; rw [HD.out.1] at this; rw [HL.out.1]; exact this)
    have HR4 := Aside0.mk (show Kd.C (Kd.int .u8) w2 A4 b2.length b2 by have := hcr4 w2 b hr2; rw [HD.out.2.1] at this; rw [HL.out.2.1, HL.out.1, Nat.sub_sub]; exact this)
    have HR5 := Aside0.mk (show Kd.C (Kd.int .u8) w2 A5 b3.length b3 by have := hcr5 w2 b hr2; rw [HD.out.2.2] at this; rw [show b3.length = b.length - (k1 + kt + k3) by have := HL.out; omega]; exact this)
    have ST := Aside0.mk (show RefSt w2 (w2.alloc (.cells #[.int .i64 0, .string ⟨#[]⟩, .int .i64 0, .int .i64 0] 23)) (.int .i64 0) (.string ⟨#[]⟩) (.int .i64 0) (.int .i64 0) from ⟨below_alloc (Below.refl _ _) _, heap_new _ _⟩)
    clear hb2 ho2 hc2 hr2 hcut3 hcr3 hcut4 hcr4 hcut5 hcr5)
  go_wp2_with (
    go_at_call 34
    refine (P.racewayref01_ReadNum.calls K1 A2 c2 b x1 k1 e1 _ (Kd.C_below HR2.out ST.out.below) HC2.out HK1.out).mono ?_
    rintro en w3 ⟨rfl, nd3, hw3⟩
    have st3 := ST.out.drew nd3
    rw [← hw3] at st3
    clear hw3
    obtain ⟨p0, p1, p2, p3, p4, p5, p6, p7⟩ := box4 st3.b3
    have st3' := st3.put 0 (.int .i64 x1) (.int .i64 x1) (.string ⟨#[]⟩) (.int .i64 0) (.int .i64 0) rfl
    have ST := Aside0.mk st3'
    obtain ⟨q0, q1, q2, q3, q4, q5, q6, q7⟩ := box4 st3'.b3
    clear st3 st3')
  go_wp2_with (
    go_at_call 35
    refine (P.racewayref01_ReadText.calls KT A3 c3 b1 g kt et _ (Kd.C_below HR3.out ST.out.below) HCC.out.1 HKT.out).mono ?_
    rintro en w4 ⟨rfl, nd4, hw4⟩
    have st4 := ST.out.drew nd4
    rw [← hw4] at st4
    clear hw4 p0 p1 p2 p3 p4 p5 p6 p7 q0 q1 q2 q3 q4 q5 q6 q7
    obtain ⟨p0, p1, p2, p3, p4, p5, p6, p7⟩ := box4 st4.b3
    have st4' := st4.put 1 (.string g) (.int .i64 x1) (.string g) (.int .i64 0) (.int .i64 0) rfl
    have ST := Aside0.mk st4'
    obtain ⟨q0, q1, q2, q3, q4, q5, q6, q7⟩ := box4 st4'.b3
    clear st4 st4')
  go_wp2_with (first
    | (
      have _m := MARK3
      go_at_call 34
      refine (P.racewayref01_ReadNum.calls K4 A5 c5 b3 x4 k4 e4 _ (Kd.C_below HR5.out ST.out.below) HCC.out.2.2 HK4.out).mono ?_
      rintro en w6 ⟨rfl, nd6, hw6⟩
      have st6 := ST.out.drew nd6
      rw [← hw6] at st6
      clear hw6 p0 p1 p2 p3 p4 p5 p6 p7 q0 q1 q2 q3 q4 q5 q6 q7
      obtain ⟨p0, p1, p2, p3, p4, p5, p6, p7⟩ := box4 st6.b3
      have st6' := st6.put 3 (.int .i64 x4) (.int .i64 x1) (.string g) (.int .i64 x3) (.int .i64 x4) rfl
      have ST := Aside0.mk st6'
      obtain ⟨q0, q1, q2, q3, q4, q5, q6, q7⟩ := box4 st6'.b3
      clear st6 st6'
      have ST6 := ST)
    | (
      go_at_call 34
      refine (P.racewayref01_ReadNum.calls K3 A4 c4 b2 x3 k3 e3 _ (Kd.C_below HR4.out ST.out.below) HCC.out.2.1 HK3.out).mono ?_
      rintro en w5 ⟨rfl, nd5, hw5⟩
      have st5 := ST.out.drew nd5
      rw [← hw5] at st5
      clear hw5 p0 p1 p2 p3 p4 p5 p6 p7 q0 q1 q2 q3 q4 q5 q6 q7
      obtain ⟨p0, p1, p2, p3, p4, p5, p6, p7⟩ := box4 st5.b3
      have st5' := st5.put 2 (.int .i64 x3) (.int .i64 x1) (.string g) (.int .i64 x3) (.int .i64 0) rfl
      have ST := Aside0.mk st5'
      obtain ⟨q0, q1, q2, q3, q4, q5, q6, q7⟩ := box4 st5'.b3
      clear st5 st5'
      have MARK3 := True.intro))
  go_wp2_with (
    go_at_call 8
    refine (P.racewayref27_Handle.calls KH x1 g x3 x4 hs hcode _ HKH.out).mono ?_
    rintro en w7 ⟨rfl, hb7⟩
    have st7 := ST6.out.next hb7
    clear hb7 p0 p1 p2 p3 p4 p5 p6 p7 q0 q1 q2 q3 q4 q5 q6 q7
    obtain ⟨p0, p1, p2, p3, p4, p5, p6, p7⟩ := box4 st7.b3
    have hk7 := (st7.below.block _ (cells_lt hk2)).trans hk2
    have HBL := Aside0.mk (below_step HB2.out st7.below)
    clear st7
    obtain ⟨r0, r1, r2, r3, f0, f1, f2, f3⟩ := box4 hk7)
  refine bodyPost_ret (results_ropen _ _ w.heap.size (.int .i64 x1) (.string g) (.int .i64 x3) (.int .i64 x4) (.int .i64 0) (put4_heap _ _ _ _ hk7) rfl rfl) rfl ⟨rfl, put4_below _ _ _ _ HBL.out (Nat.le_refl _)⟩

end Go.Proofs.YteajidciahoboaaDoor.H
-- P12
set_option linter.unusedVariables false
set_option linter.unusedSimpArgs false
namespace Go.Proofs.YteajidciahoboaaDoor.H
open Go.RowKit Go.Shelf Go.Proofs.YteajidciahoboaaDoorW.PrintWords Go.Proofs.YteajidciahoboaaDoorW.PrintLast Go.Proofs.YteajidciahoboaaDoorW.PrintMore Go.Proofs.YteajidciahoboaaDoor.M

theorem handle_isHandle {cs : List Int} {r : Rc} (hb : isBytes cs) (h : handleOf r = (strOfNums cs, 0)) : IsHandle cs r := by
  unfold handleOf at h
  split at h
  case isFalse => have h2 := congrArg Prod.snd h; simp at h2
  split at h
  case isFalse => have h2 := congrArg Prod.snd h; simp at h2
  rename_i h1 h2
  simp only [Prod.mk.injEq, and_true] at h
  exact ⟨⟨h1.1, h1.2.1, h1.2.2, h2⟩, (strOf_inj (encode_bytes _) hb h).symm⟩
theorem isHandle_handle {cs : List Int} {r : Rc} (h : IsHandle cs r) : handleOf r = (strOfNums cs, 0) := by
  obtain ⟨⟨h1, h2, h3, h4⟩, h5⟩ := h
  unfold handleOf
  rw [if_pos ⟨h1, h2, h3⟩, if_pos h4, h5]
/-- What the reference tells of a text. -/
theorem ref_open (cs : List Int) (hb : isBytes cs) (hl : cs.length ≤ 131072) :
    (∃ r, IsHandle cs r ∧ ∀ w, Calls Tryd.prog 10 #[.string (strOfNums cs)] w fun en w' => en = .returned (answer (some r)) ∧ Below w.heap.size w w') ∨
    ((∀ r, ¬ IsHandle cs r) ∧ ∀ w, Calls Tryd.prog 10 #[.string (strOfNums cs)] w fun en w' => en = .returned (answer none) ∧ Below w.heap.size w w') := by
  rcases ref_dec cs hb hl with ⟨f, hf, hcs, hev⟩ | ⟨hno, hev⟩
  case inr =>
    obtain ⟨K, hK⟩ := hev.get
    exact .inr ⟨fun r hr => hno _ (frame_bytes (body_bytes r)) hr.2, fun w => ropen_undec _ 5 (by decide) K hK w⟩
  obtain ⟨K, hK⟩ := hev.get
  have hfl : f.length ≤ 1000000 := by have := encode_ge f; rw [← hcs] at this; omega
  have hsame : ∀ r, IsHandle cs r → f = frame r.body := fun r hr => encode_inj hf (frame_bytes (body_bytes r)) (by rw [← hcs, hr.2])
  have huf : ∀ r, IsHandle cs r → unframe f = some r.body := fun r hr => by rw [hsame r hr, unframe_frame _ (body_bytes r) (by have := body_len r hr.1; omega)]
  cases hu : unframe f with
  | none => exact .inr ⟨fun r hr => (by rw [huf r hr] at hu; cases hu), fun w => ropen_unframed _ f hf hfl hu K hK w⟩
  | some b =>
    have hbb : isBytes b := by
      unfold unframe at hu
      split at hu
      case isFalse => cases hu
      obtain rfl := Option.some.inj hu
      exact isBytes_take _ (isBytes_drop _ hf)
    have hbl : b.length ≤ 1000000 := by
      unfold unframe at hu
      split at hu
      case isFalse => cases hu
      obtain rfl := Option.some.inj hu
      rw [List.length_take, List.length_drop]
      omega
    have hbody : ∀ r, IsHandle cs r → b = r.body := fun r hr => by rw [huf r hr] at hu; exact (Option.some.inj hu).symm
    obtain ⟨x1, k1, e1, hrn1, h1⟩ := rn_form b hbb
    obtain ⟨b1, hb1'⟩ : ∃ l, b.drop k1 = l := ⟨_, rfl⟩
    have hbb1 : isBytes b1 := by rw [← hb1']; exact isBytes_drop _ hbb
    have hl1 : b1.length ≤ b.length := by rw [← hb1', List.length_drop]; omega
    obtain ⟨g, kt, et, hrt, ht⟩ := rt_form b1 hbb1 (by omega)
    obtain ⟨b2, hb2'⟩ : ∃ l, b1.drop kt = l := ⟨_, rfl⟩
    have hbb2 : isBytes b2 := by rw [← hb2']; exact isBytes_drop _ hbb1
    obtain ⟨x3, k3, e3, hrn3, h3⟩ := rn_form b2 hbb2
    obtain ⟨b3, hb3'⟩ : ∃ l, b2.drop k3 = l := ⟨_, rfl⟩
    have hbb3 : isBytes b3 := by rw [← hb3']; exact isBytes_drop _ hbb2
    obtain ⟨x4, k4, e4, hrn4, h4⟩ := rn_form b3 hbb3
    have e1' : rest1 b = b1 := by unfold rest1; rw [hrn1]; exact hb1'
    have e2' : rest2 b = b2 := by unfold rest2; rw [e1', hrt]; exact hb2'
    have e3' : rest3 b = b3 := by unfold rest3; rw [e2', hrn3]; exact hb3'
    have well : ∀ r, IsHandle cs r → e1 = 0 ∧ et = 0 ∧ e3 = 0 ∧ e4 = 0 ∧ r = ⟨x1, g, x3, x4⟩ := by
      intro r hr
      obtain ⟨hw, ha⟩ := reads_body r hr.1
      rw [← hbody r hr] at hw ha
      unfold readsWell at hw
      unfold readAs at ha
      rw [e1', e2', e3', hrn1, hrt, hrn3, hrn4] at hw
      rw [e1', e2', e3', hrn1, hrt, hrn3, hrn4] at ha
      exact ⟨hw.1, hw.2.2.1, hw.2.2.2.1, hw.2.2.2.2.2.1, ha.symm⟩
    by_cases c1 : e1 = 0
    case neg => exact .inr ⟨fun r hr => c1 (well r hr).1, fun w => ropen_fail1 _ f b hf hfl hu K hK w hbb hbl b1 b2 b3 x1 x3 x4 e1 et e3 e4 g k1 kt k3 k4 hb1' hb2' hb3' h1 ht h3 hrn1 hrt hrn3 hrn4 c1⟩
    by_cases c2 : et = 0
    case neg => exact .inr ⟨fun r hr => c2 (well r hr).2.1, fun w => ropen_fail2 _ f b hf hfl hu K hK w hbb hbl b1 b2 b3 x1 x3 x4 e1 et e3 e4 g k1 kt k3 k4 hb1' hb2' hb3' h1 ht h3 hrn1 hrt hrn3 hrn4 c1 c2⟩
    by_cases c3 : e3 = 0
    case neg => exact .inr ⟨fun r hr => c3 (well r hr).2.2.1, fun w => ropen_fail3 _ f b hf hfl hu K hK w hbb hbl b1 b2 b3 x1 x3 x4 e1 et e3 e4 g k1 kt k3 k4 hb1' hb2' hb3' h1 ht h3 hrn1 hrt hrn3 hrn4 c1 c2 c3⟩
    by_cases c4 : e4 = 0
    case neg => exact .inr ⟨fun r hr => c4 (well r hr).2.2.2.1, fun w => ropen_fail4 _ f b hf hfl hu K hK w hbb hbl b1 b2 b3 x1 x3 x4 e1 et e3 e4 g k1 kt k3 k4 hb1' hb2' hb3' h1 ht h3 hrn1 hrt hrn3 hrn4 c1 c2 c3 c4⟩
    obtain ⟨KH, hKH⟩ := (rhandle_ev ⟨x1, g, x3, x4⟩).get
    obtain ⟨hs, hcode, hho⟩ : ∃ hs hcode, handleOf ⟨x1, g, x3, x4⟩ = (hs, hcode) := ⟨_, _, rfl⟩
    rw [hho] at hKH
    have back : ∀ r, IsHandle cs r → hs = strOfNums cs ∧ hcode = 0 := fun r hr => by
      have h5 := isHandle_handle hr
      rw [(well r hr).2.2.2.2, hho] at h5
      simp only [Prod.mk.injEq] at h5
      exact h5
    by_cases c5 : hcode = 0
    case neg => exact .inr ⟨fun r hr => c5 (back r hr).2, fun w => ropen_h1 _ f b hf hfl hu K hK w hbb hbl b1 b2 b3 x1 x3 x4 e1 et e3 e4 g k1 kt k3 k4 hb1' hb2' hb3' h1 ht h3 hrn1 hrt hrn3 hrn4 c1 c2 c3 c4 hs hcode KH hKH c5⟩
    by_cases c6 : hs = strOfNums cs
    case neg => exact .inr ⟨fun r hr => c6 (back r hr).1, fun w => ropen_h2 _ f b hf hfl hu K hK w hbb hbl b1 b2 b3 x1 x3 x4 e1 et e3 e4 g k1 kt k3 k4 hb1' hb2' hb3' h1 ht h3 hrn1 hrt hrn3 hrn4 c1 c2 c3 c4 hs hcode KH hKH c5 c6⟩
    exact .inl ⟨⟨x1, g, x3, x4⟩, handle_isHandle hb (by rw [hho, c5, c6]), fun w => ropen_h3 _ f b hf hfl hu K hK w hbb hbl b1 b2 b3 x1 x3 x4 e1 et e3 e4 g k1 kt k3 k4 hb1' hb2' hb3' h1 ht h3 hrn1 hrt hrn3 hrn4 c1 c2 c3 c4 hs hcode KH hKH c5 c6⟩
end Go.Proofs.YteajidciahoboaaDoor.H
-- H13
set_option linter.unusedVariables false
set_option linter.unusedSimpArgs false
namespace Go.Proofs.YteajidciahoboaaDoor.H
open Go.RowKit Go.Shelf Go.Proofs.YteajidciahoboaaDoorW.PrintWords Go.Proofs.YteajidciahoboaaDoorW.PrintLast Go.Proofs.YteajidciahoboaaDoorW.PrintMore Go.Proofs.YteajidciahoboaaDoor.M
attribute [local go_sem] Oper.semAt_some

/-- Only these signs, and from so many to so many of them. -/
def onlyOf (all : List UInt8) (s : ByteArray) (lo hi : Nat) : Bool := decide (lo ≤ s.size ∧ s.size ≤ hi) && s.data.toList.all fun b => decide (0 ≤ Lib.indexByte all b)

set_option maxHeartbeats 4000000 in
set_option maxRecDepth 100000 in
theorem only_any (s : ByteArray) (lo hi g c : Nat) (xs : List ByteArray) (all : List UInt8) (w : World) (hall : Lib.join (xs.map (·.data.toList)) [] = all) (hal : all.length ≤ 1000) (hs : s.size ≤ 1000000) (hlo : lo ≤ 1000) (hhi : hi ≤ 1000)
    (hcells : ∀ (j : Nat) x, xs[j]? = some x → w.cell? ⟨g, 0 + j, none⟩ = some (.string x)) (hbk : g < w.heap.size) (hN : xs.length ≤ 100) (hcap : xs.length ≤ c) :
    Calls Tryd.prog 86 #[.string s, .int .i64 lo, .int .i64 hi, .slice (some ⟨g, 0, none⟩) xs.length c] w fun e w' => e = .returned (.bool (onlyOf all s lo hi)) ∧ Below w.heap.size w w' := by
  have J := Tryd.strings_Join g 0 c xs ⟨#[]⟩ w hcells hbk (by omega) hcap (by rw [show (⟨#[]⟩ : ByteArray).data.toList = [] from rfl, hall]; omega)
  rw [show (⟨#[]⟩ : ByteArray).data.toList = [] from rfl, hall] at J
  clear hcells hall
  obtain ⟨res, hres⟩ : ∃ res, onlyOf all s lo hi = res := ⟨_, rfl⟩
  rw [hres]
  have HRES := Aside0.mk hres
  clear hres
  by_cases h1 : s.size < lo
  · have h1' : decide ((s.size : Int) < (lo : Int)) = true := decide_eq_true (by omega)
    go_enter Tryd.func86, Tryd.ntmps86
    go_wp2_with (go_at_call 75; refine J.mono ?_; rintro e w1 ⟨rfl, hb1⟩)
    go_ret
    exact ⟨by rw [← HRES.out]; unfold onlyOf; rw [decide_eq_false (by omega)]; rfl, hb1⟩
  have h1' : decide ((s.size : Int) < (lo : Int)) = false := decide_eq_false (by omega)
  by_cases h2 : hi < s.size
  · have h2' : decide ((hi : Int) < (s.size : Int)) = true := decide_eq_true (by omega)
    go_enter Tryd.func86, Tryd.ntmps86
    go_wp2_with (go_at_call 75; refine J.mono ?_; rintro e w1 ⟨rfl, hb1⟩)
    go_ret
    exact ⟨by rw [← HRES.out]; unfold onlyOf; rw [decide_eq_false (by omega)]; rfl, hb1⟩
  have h2' : decide ((hi : Int) < (s.size : Int)) = false := decide_eq_false (by omega)
  go_enter Tryd.func86, Tryd.ntmps86
  go_wp2_with (go_at_call 75; refine J.mono ?_; rintro e w1 ⟨rfl, hb1⟩; have HB1 := Aside0.mk hb1; clear hb1 J)
  go_loop [25] (fun i => ∃ k : Nat, k ≤ s.size ∧ i = .int .i64 k ∧ Aside0 (∀ j b, j < k → s.data.toList[j]? = some b → 0 ≤ Lib.indexByte all b)) (fun i => s.size - (intOf i).toNat)
  case atStart => exact ⟨0, Nat.zero_le _, rfl, ⟨fun j b h => absurd h (Nat.not_lt_zero j)⟩⟩
  case round =>
    obtain ⟨k, hk, rfl, HK⟩ := hrel
    by_cases hlt : k < s.size
    · obtain ⟨x, hx⟩ : ∃ x : UInt8, s[k]'hlt = x := ⟨_, rfl⟩
      have hxl : s.data.toList[k]? = some x := by rw [← hx]; exact Lib.data_getElem? s k hlt
      have hix : ∀ W, (Instr.index 9 (.string s) (.int .i64 (k : Int))).run Tryd.prog W = .ok (.int .u8 (x.toNat : Int)) W := fun W => by
        rw [run_index_string W _ _ _ _ Tryd.underlying9, dif_pos ⟨by omega, by omega⟩]
        simp only [Int.toNat_natCast, hx]
      have I := fun W => Tryd.strings_IndexByte ⟨all.toArray⟩ (x.toNat : Int) W
      have hxx : (x.toNat : Int).toNat.toUInt8 = x := by simp
      rw [hxx, show (⟨all.toArray⟩ : ByteArray).data.toList = all by simp] at I
      have HXL := Aside0.mk hxl
      clear hxl hx hxx
      obtain ⟨idx, hidx⟩ : ∃ i, Lib.indexByte all x = i := ⟨_, rfl⟩
      rw [hidx] at I
      have HI := Aside0.mk hidx
      clear hidx
      by_cases hneg : idx < 0
      · go_wp2_with (go_at_call 101; refine (I _).mono ?_; rintro e w' ⟨rfl, hw'⟩; rw [hw']; clear hw')
        go_ret
        refine ⟨?_, HB1.out⟩
        rw [← HRES.out]
        unfold onlyOf
        have : (s.data.toList.all fun b => decide (0 ≤ Lib.indexByte all b)) = false := List.all_eq_false.2 ⟨x, List.mem_of_getElem? HXL.out, by rw [HI.out]; simp; omega⟩
        rw [this, Bool.and_false]
        rfl
      · go_wp2_with (go_at_call 101; refine (I _).mono ?_; rintro e w' ⟨rfl, hw'⟩; rw [hw']; clear hw')
        go_round
        case rel =>
          refine ⟨k + 1, by omega, by go_num, ⟨fun j b hj hb => ?_⟩⟩
          rcases Nat.lt_or_ge j k with h | h
          · exact HK.out j b h hb
          · have : j = k := by omega
            subst this
            rw [HXL.out] at hb
            obtain rfl := Option.some.inj hb
            rw [HI.out]
            omega
        case measure => simp [intOf]; omega
    · go_wp2
      go_ret
      refine ⟨?_, HB1.out⟩
      rw [← HRES.out]
      unfold onlyOf
      have : (s.data.toList.all fun b => decide (0 ≤ Lib.indexByte all b)) = true := List.all_eq_true.2 fun b hb => by
        obtain ⟨j, hj, he⟩ := List.getElem_of_mem hb
        refine decide_eq_true (HK.out j b ?_ (by rw [List.getElem?_eq_getElem hj, he]))
        have : s.data.toList.length = s.size := Array.length_toList
        omega
      rw [this, Bool.and_true, decide_eq_true (by omega)]
      rfl
end Go.Proofs.YteajidciahoboaaDoor.H
-- H14
set_option linter.unusedVariables false
set_option linter.unusedSimpArgs false
namespace Go.Proofs.YteajidciahoboaaDoor.H
open Go.RowKit Go.Shelf Go.Proofs.YteajidciahoboaaDoorW.PrintWords Go.Proofs.YteajidciahoboaaDoorW.PrintLast Go.Proofs.YteajidciahoboaaDoorW.PrintMore Go.Proofs.YteajidciahoboaaDoor.M
attribute [local go_sem] Oper.semAt_some

def hostSigns : List UInt8 := #[97, 98, 99, 100, 101, 102, 103, 104, 105, 106, 107, 108, 109, 110, 111, 112, 113, 114, 115, 116, 117, 118, 119, 120, 121, 122, 48, 49, 50, 51, 52, 53, 54, 55, 56, 57, 45, 46].toList
set_option maxHeartbeats 4000000 in
set_option maxRecDepth 100000 in
theorem host_any (s : ByteArray) (w : World) (hs : s.size ≤ 1000000) :
    Calls Tryd.prog 64 #[.string s] w fun e w' => e = .returned (.bool (onlyOf hostSigns s 1 63)) ∧ Below w.heap.size w w' := by
  have O := only_any s 1 63 w.heap.size 3 [⟨#[97, 98, 99, 100, 101, 102, 103, 104, 105, 106, 107, 108, 109, 110, 111, 112, 113, 114, 115, 116, 117, 118, 119, 120, 121, 122]⟩, ⟨#[48, 49, 50, 51, 52, 53, 54, 55, 56, 57]⟩, ⟨#[45, 46]⟩] hostSigns (w.alloc (.cells #[.string ⟨#[97, 98, 99, 100, 101, 102, 103, 104, 105, 106, 107, 108, 109, 110, 111, 112, 113, 114, 115, 116, 117, 118, 119, 120, 121, 122]⟩, .string ⟨#[48, 49, 50, 51, 52, 53, 54, 55, 56, 57]⟩, .string ⟨#[45, 46]⟩] 9)) rfl (by decide) hs (by decide) (by decide)
    (fun j x hj => by
      rw [World.cell?_alloc_new]
      match j, hj with
      | 0, hj => cases hj; rfl
      | 1, hj => cases hj; rfl
      | 2, hj => cases hj; rfl
      | n + 3, hj => simp at hj) (by simp) (by decide) (Nat.le_refl _)
  go_enter Tryd.func64, Tryd.ntmps64
  go_wp2_with (go_at_call 86; refine O.mono ?_; rintro e w1 ⟨rfl, hb1⟩)
  go_ret
  exact ⟨rfl, below_step (below_alloc (Below.refl _ _) _) hb1⟩

def accountSigns : List UInt8 := #[48, 49, 50, 51, 52, 53, 54, 55, 56, 57].toList
set_option maxHeartbeats 4000000 in
set_option maxRecDepth 100000 in
theorem account_any (s : ByteArray) (w : World) (hs : s.size ≤ 1000000) :
    Calls Tryd.prog 65 #[.string s] w fun e w' => e = .returned (.bool (onlyOf accountSigns s 12 12)) ∧ Below w.heap.size w w' := by
  have O := only_any s 12 12 w.heap.size 1 [⟨#[48, 49, 50, 51, 52, 53, 54, 55, 56, 57]⟩] accountSigns (w.alloc (.cells #[.string ⟨#[48, 49, 50, 51, 52, 53, 54, 55, 56, 57]⟩] 9)) rfl (by decide) hs (by decide) (by decide)
    (fun j x hj => by
      rw [World.cell?_alloc_new]
      match j, hj with
      | 0, hj => cases hj; rfl
      | n + 1, hj => simp at hj) (by simp) (by decide) (Nat.le_refl _)
  go_enter Tryd.func65, Tryd.ntmps65
  go_wp2_with (go_at_call 86; refine O.mono ?_; rintro e w1 ⟨rfl, hb1⟩)
  go_ret
  exact ⟨rfl, below_step (below_alloc (Below.refl _ _) _) hb1⟩
def queueSigns : List UInt8 := #[97, 98, 99, 100, 101, 102, 103, 104, 105, 106, 107, 108, 109, 110, 111, 112, 113, 114, 115, 116, 117, 118, 119, 120, 121, 122, 65, 66, 67, 68, 69, 70, 71, 72, 73, 74, 75, 76, 77, 78, 79, 80, 81, 82, 83, 84, 85, 86, 87, 88, 89, 90, 48, 49, 50, 51, 52, 53, 54, 55, 56, 57, 45, 95].toList
def fifoEnd : List UInt8 := #[46, 102, 105, 102, 111].toList
def stemOf (s : ByteArray) : ByteArray := ⟨(Lib.trimSuffix s.data.toList fifoEnd).toArray⟩
def queueOf (s : ByteArray) : Bool := Lib.hasSuffix s.data.toList fifoEnd && (decide (s.size ≤ 80) && onlyOf queueSigns (stemOf s) 6 75)
set_option maxHeartbeats 4000000 in
set_option maxRecDepth 100000 in
theorem queue_any (s : ByteArray) (w : World) (hs : s.size ≤ 1000000) :
    Calls Tryd.prog 66 #[.string s] w fun e w' => e = .returned (.bool (queueOf s)) ∧ Below w.heap.size w w' := by
  have hst : (stemOf s).size ≤ 1000000 := by
    have h1 : (stemOf s).size = (Lib.trimSuffix s.data.toList fifoEnd).length := by unfold stemOf; show Array.size _ = _; simp
    have h2 : s.data.toList.length = s.size := Array.length_toList
    have h3 : (Lib.trimSuffix s.data.toList fifoEnd).length ≤ s.data.toList.length := by unfold Lib.trimSuffix; split <;> simp
    omega
  have O := only_any (stemOf s) 6 75 w.heap.size 4 [⟨#[97, 98, 99, 100, 101, 102, 103, 104, 105, 106, 107, 108, 109, 110, 111, 112, 113, 114, 115, 116, 117, 118, 119, 120, 121, 122]⟩, ⟨#[65, 66, 67, 68, 69, 70, 71, 72, 73, 74, 75, 76, 77, 78, 79, 80, 81, 82, 83, 84, 85, 86, 87, 88, 89, 90]⟩, ⟨#[48, 49, 50, 51, 52, 53, 54, 55, 56, 57]⟩, ⟨#[45, 95]⟩] queueSigns (w.alloc (.cells #[.string ⟨#[97, 98, 99, 100, 101, 102, 103, 104, 105, 106, 107, 108, 109, 110, 111, 112, 113, 114, 115, 116, 117, 118, 119, 120, 121, 122]⟩, .string ⟨#[65, 66, 67, 68, 69, 70, 71, 72, 73, 74, 75, 76, 77, 78, 79, 80, 81, 82, 83, 84, 85, 86, 87, 88, 89, 90]⟩, .string ⟨#[48, 49, 50, 51, 52, 53, 54, 55, 56, 57]⟩, .string ⟨#[45, 95]⟩] 9)) rfl (by decide) hst (by decide) (by decide)
    (fun j x hj => by
      rw [World.cell?_alloc_new]
      match j, hj with
      | 0, hj => cases hj; rfl
      | 1, hj => cases hj; rfl
      | 2, hj => cases hj; rfl
      | 3, hj => cases hj; rfl
      | n + 4, hj => simp at hj) (by simp) (by decide) (Nat.le_refl _)
  have C := Tryd.strings_CutSuffix s ⟨#[46, 102, 105, 102, 111]⟩ w (by omega)
  obtain ⟨hsf, hhsf⟩ : ∃ b, Lib.hasSuffix s.data.toList fifoEnd = b := ⟨_, rfl⟩
  obtain ⟨stem, hstem⟩ : ∃ b, stemOf s = b := ⟨_, rfl⟩
  obtain ⟨ok, hok⟩ : ∃ b, onlyOf queueSigns stem 6 75 = b := ⟨_, rfl⟩
  have C' : Calls Tryd.prog 87 #[.string s, .string ⟨#[46, 102, 105, 102, 111]⟩] w fun e w' => e = .returned (.tuple #[.string stem, .bool hsf]) ∧ w' = w := by rw [← hstem, ← hhsf]; exact C
  rw [hstem, hok] at O
  have hq : queueOf s = (hsf && (decide (s.size ≤ 80) && ok)) := by unfold queueOf; rw [hhsf, hstem, hok]
  rw [hq]
  clear C hq hhsf hstem hok hst
  cases hsf with
  | false =>
    go_enter Tryd.func66, Tryd.ntmps66
    go_wp2_with (go_at_call 87; refine C'.mono ?_; rintro e w1 ⟨rfl, hw1⟩; rw [hw1]; clear hw1)
    go_ret
    exact ⟨rfl, Below.refl _ _⟩
  | true =>
    by_cases h80 : s.size ≤ 80
    · have h80' : decide ((s.size : Int) ≤ 80) = true := decide_eq_true (by omega)
      go_enter Tryd.func66, Tryd.ntmps66
      go_wp2_with (first
        | (go_at_call 87; refine C'.mono ?_; rintro e w1 ⟨rfl, hw1⟩; rw [hw1]; clear hw1)
        | (go_at_call 86; refine O.mono ?_; rintro e w2 ⟨rfl, hb2⟩; have HB2 := Aside0.mk (below_step (below_alloc (Below.refl _ _) _) hb2); clear hb2))
      go_ret
      refine ⟨?_, HB2.out⟩
      rw [decide_eq_true h80]
      rfl
    · have h80' : decide ((s.size : Int) ≤ 80) = false := decide_eq_false (by omega)
      go_enter Tryd.func66, Tryd.ntmps66
      go_wp2_with (go_at_call 87; refine C'.mono ?_; rintro e w1 ⟨rfl, hw1⟩; rw [hw1]; clear hw1)
      go_ret
      refine ⟨?_, Below.refl _ _⟩
      rw [decide_eq_false h80]
      rfl
end Go.Proofs.YteajidciahoboaaDoor.H
-- H15
set_option linter.unusedVariables false
set_option linter.unusedSimpArgs false
namespace Go.Proofs.YteajidciahoboaaDoor.H
open Go.RowKit Go.Shelf Go.Proofs.YteajidciahoboaaDoorW.PrintWords Go.Proofs.YteajidciahoboaaDoorW.PrintLast Go.Proofs.YteajidciahoboaaDoorW.PrintMore Go.Proofs.YteajidciahoboaaDoor.M
attribute [local go_sem] Oper.semAt_some

def urlOk (h a n : ByteArray) : Bool := onlyOf hostSigns h 1 63 && (onlyOf accountSigns a 12 12 && queueOf n)
def urlOf (h a n : ByteArray) : ByteArray := (⟨#[104, 116, 116, 112, 115, 58, 47, 47]⟩ : ByteArray) ++ h ++ (⟨#[47]⟩ : ByteArray) ++ a ++ (⟨#[47]⟩ : ByteArray) ++ n
set_option maxHeartbeats 4000000 in
set_option maxRecDepth 100000 in
theorem url_any (h a n : ByteArray) (w : World) (hh : h.size ≤ 1000000) (ha : a.size ≤ 1000000) (hn : n.size ≤ 1000000) :
    Calls Tryd.prog 36 #[.string h, .string a, .string n] w fun e w' => e = .returned (if urlOk h a n = true then .tuple #[.string (urlOf h a n), .int .i64 0] else .tuple #[.string ⟨#[]⟩, .int .i64 2]) ∧ Below w.heap.size w w' := by
  obtain ⟨x, hx⟩ : ∃ b, onlyOf hostSigns h 1 63 = b := ⟨_, rfl⟩
  obtain ⟨y, hy⟩ : ∃ b, onlyOf accountSigns a 12 12 = b := ⟨_, rfl⟩
  obtain ⟨z, hz⟩ : ∃ b, queueOf n = b := ⟨_, rfl⟩
  have hu : urlOk h a n = (x && (y && z)) := by unfold urlOk; rw [hx, hy, hz]
  rw [hu]
  have HX := Aside0.mk hx
  have HY := Aside0.mk hy
  have HZ := Aside0.mk hz
  clear hu hx hy hz
  rcases Bool.eq_false_or_eq_true x with hx | hx <;> subst hx
  · rcases Bool.eq_false_or_eq_true y with hy | hy <;> subst hy
    · rcases Bool.eq_false_or_eq_true z with hz | hz <;> subst hz
      · have s1 : 8 + h.size ≤ 9223372036854775807 := by omega
        go_enter Tryd.func36, Tryd.ntmps36
        go_wp2_with (first
    | (go_at_call 64; refine (host_any h w hh).mono ?_; rintro e w1 ⟨rfl, hb1⟩; rw [HX.out]; have HB1 := Aside0.mk hb1; have HB := HB1; clear hb1)
    | (go_at_call 65; refine (account_any a _ ha).mono ?_; rintro e w2 ⟨rfl, hb2⟩; rw [HY.out]; have HB2 := Aside0.mk (below_step HB1.out hb2); have HB := HB2; clear hb2)
    | (go_at_call 66; refine (queue_any n _ hn).mono ?_; rintro e w3 ⟨rfl, hb3⟩; rw [HZ.out]; have HB := Aside0.mk (below_step HB2.out hb3); clear hb3))
        all_goals first
          | (go_ret2; exact ⟨rfl, HB.out⟩)
          | (exfalso; rename_i hbig; simp only [ByteArray.size_append] at hbig; have e8 : (⟨#[104, 116, 116, 112, 115, 58, 47, 47]⟩ : ByteArray).size = 8 := rfl; have e1 : (⟨#[47]⟩ : ByteArray).size = 1 := rfl; rw [e8] at hbig; (try rw [e1] at hbig); omega)
      · go_enter Tryd.func36, Tryd.ntmps36
        go_wp2_with (first
    | (go_at_call 64; refine (host_any h w hh).mono ?_; rintro e w1 ⟨rfl, hb1⟩; rw [HX.out]; have HB1 := Aside0.mk hb1; have HB := HB1; clear hb1)
    | (go_at_call 65; refine (account_any a _ ha).mono ?_; rintro e w2 ⟨rfl, hb2⟩; rw [HY.out]; have HB2 := Aside0.mk (below_step HB1.out hb2); have HB := HB2; clear hb2)
    | (go_at_call 66; refine (queue_any n _ hn).mono ?_; rintro e w3 ⟨rfl, hb3⟩; rw [HZ.out]; have HB := Aside0.mk (below_step HB2.out hb3); clear hb3))
        go_ret2
        exact ⟨rfl, HB.out⟩
    · go_enter Tryd.func36, Tryd.ntmps36
      go_wp2_with (first
    | (go_at_call 64; refine (host_any h w hh).mono ?_; rintro e w1 ⟨rfl, hb1⟩; rw [HX.out]; have HB1 := Aside0.mk hb1; have HB := HB1; clear hb1)
    | (go_at_call 65; refine (account_any a _ ha).mono ?_; rintro e w2 ⟨rfl, hb2⟩; rw [HY.out]; have HB2 := Aside0.mk (below_step HB1.out hb2); have HB := HB2; clear hb2)
    | (go_at_call 66; refine (queue_any n _ hn).mono ?_; rintro e w3 ⟨rfl, hb3⟩; rw [HZ.out]; have HB := Aside0.mk (below_step HB2.out hb3); clear hb3))
      go_ret2
      exact ⟨rfl, HB.out⟩
  · go_enter Tryd.func36, Tryd.ntmps36
    go_wp2_with (first
    | (go_at_call 64; refine (host_any h w hh).mono ?_; rintro e w1 ⟨rfl, hb1⟩; rw [HX.out]; have HB1 := Aside0.mk hb1; have HB := HB1; clear hb1)
    | (go_at_call 65; refine (account_any a _ ha).mono ?_; rintro e w2 ⟨rfl, hb2⟩; rw [HY.out]; have HB2 := Aside0.mk (below_step HB1.out hb2); have HB := HB2; clear hb2)
    | (go_at_call 66; refine (queue_any n _ hn).mono ?_; rintro e w3 ⟨rfl, hb3⟩; rw [HZ.out]; have HB := Aside0.mk (below_step HB2.out hb3); clear hb3))
    go_ret2
    exact ⟨rfl, HB.out⟩
end Go.Proofs.YteajidciahoboaaDoor.H
-- H16
set_option linter.unusedVariables false
set_option linter.unusedSimpArgs false
namespace Go.Proofs.YteajidciahoboaaDoor.H
open Go.RowKit Go.Shelf Go.Proofs.YteajidciahoboaaDoorW.PrintWords Go.Proofs.YteajidciahoboaaDoorW.PrintLast Go.Proofs.YteajidciahoboaaDoorW.PrintMore Go.Proofs.YteajidciahoboaaDoor.M
attribute [local go_sem] Oper.semAt_some

/-- A number's digits. -/
def decs (n : Nat) : List Int := if n < 10 then [((48 + n : Nat) : Int)] else decs (n / 10) ++ [((48 + n % 10 : Nat) : Int)]
/-- A number as a text. -/
def itoaB (x : Int) : List Int := if x < 0 then 45 :: decs (-x).toNat else decs x.toNat
theorem decs_len (k : Nat) : ∀ n : Nat, n < 10 ^ (k + 1) → (decs n).length ≤ k + 1 := by
  induction k with
  | zero => intro n h; rw [decs, if_pos (by simpa using h)]; simp
  | succ k ih =>
    intro n h
    rw [decs]
    split
    · simp
    · have : n / 10 < 10 ^ (k + 1) := by rw [Nat.div_lt_iff_lt_mul (by decide)]; rw [Nat.pow_succ] at h; exact h
      have := ih _ this
      simp only [List.length_append, List.length_cons, List.length_nil]
      omega

set_option maxHeartbeats 8000000 in
set_option maxRecDepth 100000 in
theorem itoa_pos (n : Nat) (w : World) (hn : n < 9223372036854775808) :
    Calls Tryd.prog 42 #[.int .i64 n] w fun e w' => e = .returned (.string (strOfNums (decs n))) ∧ Below w.heap.size w w' := by
  go_enter Tryd.func42, Tryd.ntmps42
  go_wp2
  go_loopw [4, 5] (fun at_ x wr => ∃ (k m : Nat) (sf : List Int), at_ = .int .i64 k ∧ x = .int .u64 m ∧ k + sf.length = 20 ∧ Aside0 (decs n = decs m ++ sf) ∧ (sf = [] ∨ 0 < m) ∧ m < 9223372036854775808 ∧ Aside0 (wr.heap[w.heap.size]? = some (.cells (nums .u8 (List.replicate k 0 ++ sf)).toArray 116 (0, 0))) ∧ Aside0 (Below w.heap.size w wr)) (fun at_ _ _ => (intOf at_).toNat)
  case atStart => exact ⟨20, n, [], rfl, rfl, rfl, ⟨by simp⟩, .inl rfl, hn, ⟨heap_new _ _⟩, ⟨below_alloc (Below.refl _ _) _⟩⟩
  case round =>
    obtain ⟨k, m, sf, rfl, rfl, hk, HE, hm0, hm, HH, HB⟩ := hrel
    have hpos : 1 ≤ k := by
      have h1 := decs_len 18 n (by omega)
      rw [HE.out, List.length_append] at h1
      have h2 : 1 ≤ (decs m).length := by rw [decs]; split <;> simp
      omega
    obtain ⟨j, rfl⟩ : ∃ j, k = j + 1 := ⟨k - 1, by omega⟩
    have hc : wr.cell? ⟨w.heap.size, j, none⟩ = some (.int .u8 0) := by
      rw [Lib.cell_of_heap HH.out]
      simp [nums, List.getElem?_append_left, List.getElem?_replicate]
    have hf : wr.frozen? ⟨w.heap.size, j, none⟩ = false := Lib.frozen_of_heap HH.out j
    have hj : (j : Int) < 20 := by omega
    have hj0 : (0 : Int) ≤ (j : Int) := by omega
    have hh2 : (wr.setCell ⟨w.heap.size, j, none⟩ (.int .u8 (48 + (m : Int) % 10))).heap[w.heap.size]? = some (.cells (nums .u8 (List.replicate j 0 ++ (48 + (m : Int) % 10) :: sf)).toArray 116 (0, 0)) := by
      have := blk_set HH.out j (.int .u8 (48 + (m : Int) % 10))
      rw [this]
      congr 2
      simp [nums, List.replicate_succ']
    have hb2 : Below w.heap.size w (wr.setCell ⟨w.heap.size, j, none⟩ (.int .u8 (48 + (m : Int) % 10))) := HB.out.setCell (p := ⟨w.heap.size, j, none⟩) (Nat.le_refl _) _
    have HH2 := Aside0.mk hh2
    have HB2 := Aside0.mk hb2
    clear hh2 hb2
    by_cases hlast : m < 10
    · have hz : ((m : Int) / 10 == 0) = true := by rw [beq_iff_eq]; omega
      have hjn : ¬ 20 = j := by omega
      have hj20 : (j : Int) ≤ 20 := by omega
      have hd : (48 + (m : Int) % 10) :: sf = decs n := by
        rw [HE.out, decs, if_pos hlast]
        simp only [List.cons_append, List.nil_append, List.cons.injEq, and_true]
        omega
      have hcv := string_of_reads (P := Tryd.prog) (w := wr.setCell ⟨w.heap.size, j, none⟩ (.int .u8 (48 + (m : Int) % 10))) (A := some ⟨w.heap.size, j, none⟩) (n := 20 - j) (c := 20 - j) (xs := (48 + (m : Int) % 10) :: sf) Tryd.underlying36 Tryd.underlying5 Tryd.underlying9
        ⟨by simp; omega, by omega, fun _ => ⟨_, rfl, fun i hi => by
          rw [show (⟨w.heap.size, j, none⟩ : Addr).add i = ⟨w.heap.size, j + i, none⟩ from by simp [Addr.add]]
          have hl : i < ((48 + (m : Int) % 10) :: sf).length := by simp; omega
          rw [Lib.cell_of_heap HH2.out]
          simp only [nums, List.getElem?_toArray, List.getElem?_map]
          rw [List.getElem?_append_right (by simp), List.length_replicate, Nat.add_sub_cancel_left, List.getElem?_eq_getElem hl, List.getD_eq_getElem?_getD, List.getElem?_eq_getElem hl]
          rfl⟩⟩
      rw [hd] at hcv
      go_wp2
      go_ret
      exact ⟨rfl, HB2.out⟩
    · have hz : ((m : Int) / 10 == 0) = false := by rw [beq_eq_false_iff_ne]; omega
      go_wp2
      go_roundw
      case rel =>
        refine ⟨j, m / 10, (48 + (m : Int) % 10) :: sf, rfl, by go_num, by simp; omega, ⟨?_⟩, .inr (by omega), by omega, HH2, HB2⟩
        rw [HE.out]
        conv => lhs; rw [decs, if_neg hlast]
        simp
      case measure => simp [intOf]
end Go.Proofs.YteajidciahoboaaDoor.H
-- H17
set_option linter.unusedVariables false
set_option linter.unusedSimpArgs false
namespace Go.Proofs.YteajidciahoboaaDoor.H
open Go.RowKit Go.Shelf Go.Proofs.YteajidciahoboaaDoorW.PrintWords Go.Proofs.YteajidciahoboaaDoorW.PrintLast Go.Proofs.YteajidciahoboaaDoorW.PrintMore Go.Proofs.YteajidciahoboaaDoor.M
attribute [local go_sem] Oper.semAt_some
attribute [local go_sem] max2_int min2_int max_two min_two max_three min_three max_four min_four

theorem repeat_any (c : Nat) (w : World) (hc : c ≤ 1000) : Calls Tryd.prog 80 #[.string ⟨#[48]⟩, .int .i64 c] w fun e w' => e = .returned (.string (strOfNums (List.replicate c 48))) ∧ Below w.heap.size w w' := by
  match c, hc with
  | 0, _ => exact (Tryd.strings_Repeat_zero _ w).mono (by rintro e w' ⟨rfl, rfl⟩; exact ⟨rfl, Below.refl _ _⟩)
  | 1, _ => exact (Tryd.strings_Repeat_one _ w).mono (by rintro e w' ⟨rfl, rfl⟩; exact ⟨rfl, Below.refl _ _⟩)
  | c + 2, hc =>
    refine (Tryd.strings_Repeat_main ⟨#[48]⟩ (c + 2) w (by omega) (by omega) (by show 1 * (c + 2) ≤ _; omega) (by decide)).mono ?_
    rintro e w' ⟨rfl, hb⟩
    refine ⟨?_, hb⟩
    have : ∀ n, Lib.repeatL (⟨#[48]⟩ : ByteArray).data.toList n = List.replicate n 48 := fun n => by
      induction n with
      | zero => rfl
      | succ n ih => simp [Lib.repeatL, List.replicate_succ] at ih ⊢; try exact ih
    rw [this]
    congr 2
    apply str_ext
    rw [strOf_data]
    simp
/-- A number with noughts ahead, twenty signs. -/
def pad20 (n : Nat) : List Int := List.replicate (20 - (decs n).length) 48 ++ decs n
set_option maxHeartbeats 4000000 in
set_option maxRecDepth 100000 in
theorem pad_pos (n : Nat) (w : World) (hn : n < 9223372036854775808) :
    Calls Tryd.prog 47 #[.int .i64 n, .int .i64 20] w fun e w' => e = .returned (.string (strOfNums (pad20 n))) ∧ Below w.heap.size w w' := by
  have hl := decs_len 18 n (by omega)
  have I := itoa_pos n w hn
  obtain ⟨c, hc⟩ : ∃ c, 20 - (decs n).length = c := ⟨_, rfl⟩
  have hp : strOfNums (pad20 n) = strOfNums (List.replicate c 48) ++ strOfNums (decs n) := by unfold pad20; rw [hc, strOfNums_append]
  rw [hp]
  have hsz : ((strOfNums (decs n)).size : Int) = 20 - (c : Int) := by rw [strOfNums_size]; omega
  have hr : (strOfNums (List.replicate c 48)).size = c := by rw [strOfNums_size]; simp
  obtain ⟨d, hd⟩ : ∃ d, strOfNums (decs n) = d := ⟨_, rfl⟩
  obtain ⟨r, hrr⟩ : ∃ r, strOfNums (List.replicate c 48) = r := ⟨_, rfl⟩
  have hcp : 0 < c := by omega
  have hc20 : c ≤ 20 := by omega
  have hdz : d.size ≤ 20 := by rw [← hd, strOfNums_size]; omega
  have R : ∀ W, Calls Tryd.prog 80 #[.string ⟨#[48]⟩, .int .i64 (c : Int)] W fun e w' => e = .returned (.string (strOfNums (List.replicate c 48))) ∧ Below W.heap.size W w' := fun W => repeat_any c W (by omega)
  rw [hd] at I hsz ⊢
  rw [hrr] at hr R ⊢
  have hw : IntKind.i64.wrap (20 - (d.size : Int)) = (c : Int) := by rw [hsz, IntKind.wrap_i64]; omega
  have HSZ := Aside0.mk hsz
  clear hp hd hrr hl hsz hc
  go_enter Tryd.func47, Tryd.ntmps47
  go_wp2_with (first
    | (go_at_call 42; refine I.mono ?_; rintro e w1 ⟨rfl, hb1⟩; have HB1 := Aside0.mk hb1; clear hb1)
    | (go_at_call 80; refine (R _).mono ?_; rintro e w2 ⟨rfl, hb2⟩; have HB2 := Aside0.mk (below_step HB1.out hb2); clear hb2))
  go_ret
  exact ⟨rfl, HB2.out⟩
end Go.Proofs.YteajidciahoboaaDoor.H
-- H18
set_option linter.unusedVariables false
set_option linter.unusedSimpArgs false
namespace Go.Proofs.YteajidciahoboaaDoor.H
open Go.RowKit Go.Shelf Go.Proofs.YteajidciahoboaaDoorW.PrintWords Go.Proofs.YteajidciahoboaaDoorW.PrintLast Go.Proofs.YteajidciahoboaaDoorW.PrintMore Go.Proofs.YteajidciahoboaaDoor.M
attribute [local go_sem] Oper.semAt_some

set_option maxHeartbeats 4000000 in
set_option maxRecDepth 100000 in
theorem sequence_pos (n : Nat) (w : World) (hn : n < 9223372036854775808) :
    Calls Tryd.prog 16 #[.int .i64 n] w fun e w' => e = .returned (.string (strOfNums (pad20 n))) ∧ Below w.heap.size w w' := by
  have I := pad_pos n w hn
  go_enter Tryd.func16, Tryd.ntmps16
  go_wp2_with (go_at_call 47; refine I.mono ?_; rintro e w1 ⟨rfl, hb1⟩; have HB1 := Aside0.mk hb1; clear hb1)
  go_ret
  exact ⟨rfl, HB1.out⟩

def exHost : ByteArray := ⟨#[115, 113, 115, 46, 108, 111, 99, 97, 108]⟩
def exAcc : ByteArray := ⟨#[49, 50, 51, 52, 53, 54, 55, 56, 57, 48, 49, 50]⟩
def exBad : ByteArray := ⟨#[97, 46, 102, 105, 102, 111]⟩
def exGood : ByteArray := ⟨#[111, 114, 100, 101, 114, 115, 46, 102, 105, 102, 111]⟩
theorem ex_bad : urlOk exHost exAcc exBad = false := by kernel_rfl
theorem ex_good : urlOk exHost exAcc exGood = true := by kernel_rfl
theorem ex_url : urlOf exHost exAcc exGood = ⟨#[104, 116, 116, 112, 115, 58, 47, 47, 115, 113, 115, 46, 108, 111, 99, 97, 108, 47, 49, 50, 51, 52, 53, 54, 55, 56, 57, 48, 49, 50, 47, 111, 114, 100, 101, 114, 115, 46, 102, 105, 102, 111]⟩ := by kernel_rfl
theorem ex_seq : strOfNums (pad20 7) = ⟨#[48, 48, 48, 48, 48, 48, 48, 48, 48, 48, 48, 48, 48, 48, 48, 48, 48, 48, 48, 55]⟩ := by
  have : decs 7 = [55] := by rw [decs, if_pos (by decide)]; rfl
  unfold pad20
  rw [this]
  rfl
set_option maxHeartbeats 4000000 in
set_option maxRecDepth 100000 in
theorem works_any (w : World) : Calls Tryd.prog 11 #[] w fun e w' => e = .returned (.bool true) ∧ Below w.heap.size w w' := by
  have U1 := fun W => url_any exHost exAcc exBad W (by decide) (by decide) (by decide)
  rw [if_neg (by rw [ex_bad]; decide)] at U1
  have U2 := fun W => url_any exHost exAcc exGood W (by decide) (by decide) (by decide)
  rw [if_pos ex_good, ex_url] at U2
  have S := fun W => sequence_pos 7 W (by decide)
  rw [ex_seq] at S
  unfold exHost exAcc exBad at U1
  unfold exHost exAcc exGood at U2
  go_enter Tryd.func11, Tryd.ntmps11
  go_wp2_with (first
    | (go_at_call 36; have _g := HB1.out; refine (U2 _).mono ?_; rintro e w2 ⟨rfl, hb2⟩; have HB2 := Aside0.mk (below_step HB1.out hb2); clear hb2)
    | (go_at_call 36; refine (U1 _).mono ?_; rintro e w1 ⟨rfl, hb1⟩; have HB1 := Aside0.mk hb1; clear hb1)
    | (go_at_call 16; refine (S _).mono ?_; rintro e w3 ⟨rfl, hb3⟩; have HB3 := Aside0.mk (below_step HB2.out hb3); clear hb3))
  go_ret
  exact ⟨rfl, HB3.out⟩
end Go.Proofs.YteajidciahoboaaDoor.H
-- Pzracewaylaw27few
-- PRINTED by print.py (a twelfth state) out of the translation. Not trusted: Lean checks it.
namespace Go.Proofs.YteajidciahoboaaDoor.P
open Go.RowKit Go.Proofs.YteajidciahoboaaDoorW.PrintWords Go.Proofs.YteajidciahoboaaDoorW.PrintLast Go.Proofs.YteajidciahoboaaDoorW.PrintMore
attribute [local go_sem] max2_int min2_int max_two min_two max_three min_three max_four min_four   -- for this text's walks alone
set_option linter.unusedVariables false
set_option linter.unusedSimpArgs false

/-! ### racewaylaw27_few: function 6 -/
def racewaylaw27_few.f (a0_0 : Int) (a0_1 : ByteArray) (a0_2 : Int) (a0_3 : Int) : Option (Int × ByteArray × Int × Int) := if 0 ≤ (mn (a0_1.size : Int) 60) then (if (mn (a0_1.size : Int) 60) ≤ (a0_1.size : Int) then (some (a0_0, a0_1.extract 0 ((mn (a0_1.size : Int) 60) : Int).toNat, a0_2, a0_3)) else (none)) else (none)
set_option maxHeartbeats 8000000 in
set_option maxRecDepth 100000 in
theorem racewaylaw27_few.calls (a0_0 : Int) (a0_1 : ByteArray) (a0_2 : Int) (a0_3 : Int) (r1 : Int) (r2 : ByteArray) (r3 : Int) (r4 : Int) (w : World) (h : racewaylaw27_few.f a0_0 a0_1 a0_2 a0_3 = some (r1, r2, r3, r4)) :
    Calls Tryd.prog 6 #[.agg #[.int .i64 a0_0, .string a0_1, .int .i64 a0_2, .int .i64 a0_3]] w fun e w' => e = .returned (.agg #[.int .i64 r1, .string r2, .int .i64 r3, .int .i64 r4]) ∧ Below w.heap.size w w' := by
  have hu23 := Tryd.underlying23
  have HB := Aside0.mk (Below.refl w.heap.size w)
  have H : (if 0 ≤ (mn (a0_1.size : Int) 60) then (if (mn (a0_1.size : Int) 60) ≤ (a0_1.size : Int) then (some (a0_0, a0_1.extract 0 ((mn (a0_1.size : Int) 60) : Int).toNat, a0_2, a0_3)) else (none)) else (none)) = some (r1, r2, r3, r4) := h
  clear h
  obtain ⟨ji2, hji2⟩ : ∃ j_ : Int, (mn (a0_1.size : Int) 60) = j_ := ⟨_, rfl⟩
  replace H : (if 0 ≤ (ji2) then (if (ji2) ≤ (a0_1.size : Int) then (some (a0_0, a0_1.extract 0 ((ji2) : Int).toNat, a0_2, a0_3)) else (none)) else (none)) = some (r1, r2, r3, r4) := by first | (rw [hji2] at H; exact H) | (simp only [hji2] at H ⊢; exact H)
  (try (have hji2h : ji2 ≤ 60 := by (rw [← hji2]; unfold mn; (repeat' split) <;> omega)))
  (try (have hji2g : ji2 ≤ 64 := by omega))
  (try (have hji2l : 0 ≤ ji2 := by (rw [← hji2]; unfold mn; (repeat' split) <;> omega)))
  (try (have hji2m : 0 ≤ ji2 := by omega))
  have hji2_ : (if 60 < (a0_1.size : Int) then 60 else (a0_1.size : Int)) = ji2 := hji2
  by_cases c3 : 0 ≤ (ji2)
  · rw [if_pos c3] at H
    have c3b0 := eq_true c3
    have c3b1 : decide (0 ≤ (ji2)) = true := decide_eq_true c3
    clear c3
    by_cases c4 : (ji2) ≤ (a0_1.size : Int)
    · rw [if_pos c4] at H
      have c4b0 := eq_true c4
      have c4b1 : decide ((ji2) ≤ (a0_1.size : Int)) = true := decide_eq_true c4
      clear c4
      simp only [Option.some.injEq, Prod.mk.injEq] at H
      obtain ⟨rfl, rfl, rfl, rfl⟩ := H
      go_enter Tryd.func6, Tryd.ntmps6
      go_wp2_with (first | ((with_reducible refine gate_dst (N := 1) rfl ?_); refine box_event ?hg (N := 1) ?hd (cs := #[.int .i64 a0_0, .string a0_1, .int .i64 a0_2, .int .i64 a0_3]) (t := 23) ?hr ?_; (case hd => rfl); (case hg => rfl); (case hr => first | (go_simp; done) | (go_simp; rfl)); intro gb101 hg w5 hbox hb; have n0_ := Aside0.mk (below_step (by repeat (first | (with_reducible first | exact HB.out | apply below_alloc | apply pw_below_drewN | apply below_drew1) | exact HB.out)) hb); have n1_ := Aside0.mk (hbox); have n2_ := Aside0.mk ((by rw [hg]; exact (below_size (by repeat (first | (with_reducible first | exact HB.out | apply below_alloc | apply pw_below_drewN | apply below_drew1) | exact HB.out))) : w.heap.size ≤ gb101)); have n3_ := Aside0.mk ((by rw [hg]; exact (below_size (by repeat (first | (with_reducible first | exact HB.out | apply below_alloc | apply pw_below_drewN | apply below_drew1) | exact HB.out))) : w.heap.size ≤ gb101)); clear HB; have HB := n0_; have BK101 := n1_; have GW101 := n2_; have GE101 := n3_; clear n0_ n1_ n2_ n3_; clear hb hbox hg) | ((with_reducible refine gate_dst (N := 2) rfl ?_); refine box_event ?hg (N := 2) ?hd (cs := #[.int .i64 0, .string (⟨#[]⟩ : ByteArray), .int .i64 0, .int .i64 0]) (t := 23) ?hr ?_; (case hd => rfl); (case hg => rfl); (case hr => first | (go_simp; done) | (go_simp; rfl)); intro gb102 hg w6 hbox hb; have n0_ := Aside0.mk (blk_below (g := gb101) (o := .cells #[.int .i64 a0_0, .string a0_1, .int .i64 a0_2, .int .i64 a0_3] 23 (0, 0)) (by (with_reducible repeat (first | refine blk_drewN ?_ _ | refine blk_drew ?_ | refine blk_alloc ?_ _)); exact BK101.out) hb); have n1_ := Aside0.mk (below_step (by repeat (first | (with_reducible first | exact HB.out | apply below_alloc | apply pw_below_drewN | apply below_drew1 | refine below_set ?_ GE101.out) | exact HB.out)) hb); have n2_ := Aside0.mk (hbox); have n3_ := Aside0.mk ((by rw [hg]; exact (below_size (by repeat (first | (with_reducible first | exact HB.out | apply below_alloc | apply pw_below_drewN | apply below_drew1 | refine below_set ?_ GE101.out) | exact HB.out))) : w.heap.size ≤ gb102)); have n4_ := Aside0.mk ((by rw [hg]; exact (below_size (by repeat (first | (with_reducible first | exact HB.out | apply below_alloc | apply pw_below_drewN | apply below_drew1 | refine below_set ?_ GE101.out) | exact HB.out))) : w.heap.size ≤ gb102)); have n5_ := Aside0.mk ((by rw [hg]; exact Nat.ne_of_lt (blk_lt (g := gb101) (o := .cells #[.int .i64 a0_0, .string a0_1, .int .i64 a0_2, .int .i64 a0_3] 23 (0, 0)) (by (with_reducible repeat (first | refine blk_drewN ?_ _ | refine blk_drew ?_ | refine blk_alloc ?_ _)); exact BK101.out)) : gb101 ≠ gb102)); have n6_ := Aside0.mk ((by rw [hg]; exact Nat.ne_of_gt (blk_lt (g := gb101) (o := .cells #[.int .i64 a0_0, .string a0_1, .int .i64 a0_2, .int .i64 a0_3] 23 (0, 0)) (by (with_reducible repeat (first | refine blk_drewN ?_ _ | refine blk_drew ?_ | refine blk_alloc ?_ _)); exact BK101.out)) : gb102 ≠ gb101)); clear BK101; clear HB; have BK101 := n0_; have HB := n1_; have BK102 := n2_; have GW102 := n3_; have GE102 := n4_; have NB101_102 := n5_; have NB102_101 := n6_; clear n0_ n1_ n2_ n3_ n4_ n5_ n6_; clear hb hbox hg; have hnb7 := NB101_102.out; have hnc7 := NB102_101.out; have hcz8_0 : w6.cell? ⟨gb101, 0, none⟩ = some (.int .i64 a0_0) := (blk_cell BK101.out 0).trans rfl; have hcz8_1 : w6.cell? ⟨gb101, 1, none⟩ = some (.string a0_1) := (blk_cell BK101.out 1).trans rfl; have hcz8_2 : w6.cell? ⟨gb101, 2, none⟩ = some (.int .i64 a0_2) := (blk_cell BK101.out 2).trans rfl; have hcz8_3 : w6.cell? ⟨gb101, 3, none⟩ = some (.int .i64 a0_3) := (blk_cell BK101.out 3).trans rfl; have hfz8_0 := blk_frozen BK101.out 0; have hfz8_1 := blk_frozen BK101.out 1; have hfz8_2 := blk_frozen BK101.out 2; have hfz8_3 := blk_frozen BK101.out 3; have hcz9_0 : w6.cell? ⟨gb102, 0, none⟩ = some (.int .i64 0) := (blk_cell BK102.out 0).trans rfl; have hcz9_1 : w6.cell? ⟨gb102, 1, none⟩ = some (.string (⟨#[]⟩ : ByteArray)) := (blk_cell BK102.out 1).trans rfl; have hcz9_2 : w6.cell? ⟨gb102, 2, none⟩ = some (.int .i64 0) := (blk_cell BK102.out 2).trans rfl; have hcz9_3 : w6.cell? ⟨gb102, 3, none⟩ = some (.int .i64 0) := (blk_cell BK102.out 3).trans rfl; have hfz9_0 := blk_frozen BK102.out 0; have hfz9_1 := blk_frozen BK102.out 1; have hfz9_2 := blk_frozen BK102.out 2; have hfz9_3 := blk_frozen BK102.out 3))
      refine bodyPost_ret (results_cell_row rfl _ _ gb102 23 #[.int .i64 a0_0, .string (a0_1.extract 0 ((ji2) : Int).toNat), .int .i64 a0_2, .int .i64 a0_3] (0, 0) _ rfl (by (with_reducible repeat (first | refine blk_drewN ?_ _ | refine blk_drew ?_ | refine blk_alloc ?_ _)); refine blk_put (cs := #[.int .i64 a0_0, .string (a0_1.extract 0 ((ji2) : Int).toNat), .int .i64 a0_2, .int .i64 0]) ?_ 3 _ rfl; (with_reducible repeat (first | refine blk_drewN ?_ _ | refine blk_drew ?_ | refine blk_alloc ?_ _)); refine blk_put (cs := #[.int .i64 a0_0, .string (a0_1.extract 0 ((ji2) : Int).toNat), .int .i64 0, .int .i64 0]) ?_ 2 _ rfl; (with_reducible repeat (first | refine blk_drewN ?_ _ | refine blk_drew ?_ | refine blk_alloc ?_ _)); refine blk_put (cs := #[.int .i64 a0_0, .string (⟨#[]⟩ : ByteArray), .int .i64 0, .int .i64 0]) ?_ 1 _ rfl; (with_reducible repeat (first | refine blk_drewN ?_ _ | refine blk_drew ?_ | refine blk_alloc ?_ _)); refine blk_put (cs := #[.int .i64 0, .string (⟨#[]⟩ : ByteArray), .int .i64 0, .int .i64 0]) ?_ 0 _ rfl; (with_reducible repeat (first | refine blk_drewN ?_ _ | refine blk_drew ?_ | refine blk_alloc ?_ _)); refine blk_far ?_ NB102_101.out _; (with_reducible repeat (first | refine blk_drewN ?_ _ | refine blk_drew ?_ | refine blk_alloc ?_ _)); exact BK102.out) Tryd.underlying23 rfl (by kernel_rfl)) rfl ?_
      exact ⟨by first | rfl | (simp [errW_none, errW_some] <;> rfl) | (simp only [← hji2]; first | rfl | (simp [errW_none, errW_some] <;> rfl)) | (simp [*, errW_none, errW_some] <;> rfl), by repeat (first | (with_reducible first | exact HB.out | apply below_alloc | apply pw_below_drewN | apply below_drew1 | refine below_set ?_ GE101.out | refine below_set ?_ GE102.out) | exact HB.out)⟩
    · rw [if_neg c4] at H
      exact absurd H (by simp)
  · rw [if_neg c3] at H
    exact absurd H (by simp)

end Go.Proofs.YteajidciahoboaaDoor.P
-- L1
set_option linter.unusedVariables false
set_option linter.unusedSimpArgs false
namespace Go.Proofs.YteajidciahoboaaDoor.H
open Go.RowKit Go.Shelf Go.Proofs.YteajidciahoboaaDoorW.PrintWords Go.Proofs.YteajidciahoboaaDoorW.PrintLast Go.Proofs.YteajidciahoboaaDoorW.PrintMore Go.Proofs.YteajidciahoboaaDoor.M

open Classical in
/-- The receipt whose handle a text is. -/
noncomputable def openOf (s : ByteArray) : Option Rc := if h : ∃ r, IsHandle (bytesOf s) r then some (Classical.choose h) else none
theorem openOf_some {s : ByteArray} {r : Rc} (h : IsHandle (bytesOf s) r) : openOf s = some r := by
  unfold openOf
  have he : ∃ r, IsHandle (bytesOf s) r := ⟨r, h⟩
  rw [dif_pos he]
  exact congrArg some (handle_unique (Classical.choose_spec he) h)
theorem openOf_none {s : ByteArray} (h : ∀ r, ¬ IsHandle (bytesOf s) r) : openOf s = none := by
  unfold openOf
  rw [dif_neg (fun he => h _ he.choose_spec)]
theorem openOf_isHandle {s : ByteArray} {r : Rc} (h : openOf s = some r) : IsHandle (bytesOf s) r := by
  unfold openOf at h
  split at h
  · rename_i he
    rw [← Option.some.inj h]
    exact he.choose_spec
  · cases h
theorem open_any (s : ByteArray) (hs : s.size ≤ 131072) (w : World) (hT : HalfAt w) :
    Calls Tryd.prog 9 #[.string s] w fun en w' => en = .returned (answer (openOf s)) ∧ Below w.heap.size w w' := by
  rcases prog_open (bytesOf s) (bytesOf_bytes s) (by rw [bytesOf_length]; exact hs) with ⟨r, hr, hc⟩ | ⟨hno, hc⟩
  · rw [openOf_some hr]
    have := hc w hT
    rwa [strOf_bytesOf] at this
  · rw [openOf_none hno]
    have := hc w hT
    rwa [strOf_bytesOf] at this
theorem ropen_any (s : ByteArray) (hs : s.size ≤ 131072) (w : World) :
    Calls Tryd.prog 10 #[.string s] w fun en w' => en = .returned (answer (openOf s)) ∧ Below w.heap.size w w' := by
  rcases ref_open (bytesOf s) (bytesOf_bytes s) (by rw [bytesOf_length]; exact hs) with ⟨r, hr, hc⟩ | ⟨hno, hc⟩
  · rw [openOf_some hr]
    have := hc w
    rwa [strOf_bytesOf] at this
  · rw [openOf_none hno]
    have := hc w
    rwa [strOf_bytesOf] at this
/-- What is told of an opened text: the receipt's parts, and the error. -/
noncomputable def told (s : ByteArray) : Int × ByteArray × Int × Int × Int := match openOf s with
  | some r => (r.q, r.g, r.s, r.c, 0)
  | none => (0, ⟨#[]⟩, 0, 0, 12)
theorem told_answer (s : ByteArray) : answer (openOf s) = .tuple #[.agg #[.int .i64 (told s).1, .string (told s).2.1, .int .i64 (told s).2.2.1, .int .i64 (told s).2.2.2.1], .int .i64 (told s).2.2.2.2] := by
  unfold told answer
  cases openOf s <;> rfl
end Go.Proofs.YteajidciahoboaaDoor.H
namespace Go.Proofs.YteajidciahoboaaDoor.P
open Go.RowKit Go.Proofs.YteajidciahoboaaDoorW.PrintWords Go.Proofs.YteajidciahoboaaDoorW.PrintLast Go.Proofs.YteajidciahoboaaDoorW.PrintMore Go.Proofs.YteajidciahoboaaDoor.H
def ticket_Handle.f (q : Int) (g : ByteArray) (s c : Int) : Option (ByteArray × Int) := some ((handleOf ⟨q, g, s, c⟩).1, (handleOf ⟨q, g, s, c⟩).2)
theorem ticket_Handle.callsT (q : Int) (g : ByteArray) (s c : Int) (r1 : ByteArray) (r2 : Int) (w : World) (hT : HalfAt w) (h : ticket_Handle.f q g s c = some (r1, r2)) :
    Calls Tryd.prog 7 #[.agg #[.int .i64 q, .string g, .int .i64 s, .int .i64 c]] w fun e w' => e = .returned (.tuple #[.string r1, .int .i64 r2]) ∧ Below w.heap.size w w' := by
  unfold ticket_Handle.f at h
  simp only [Option.some.injEq, Prod.mk.injEq] at h
  obtain ⟨rfl, rfl⟩ := h
  exact handle_any ⟨q, g, s, c⟩ w hT
noncomputable def ticket_Open.f (s : ByteArray) : Option (Int × ByteArray × Int × Int × Int) := if s.size ≤ 131072 then some (told s) else none
theorem ticket_Open.callsT (s : ByteArray) (r1 : Int) (r2 : ByteArray) (r3 r4 r5 : Int) (w : World) (hT : HalfAt w) (h : ticket_Open.f s = some (r1, r2, r3, r4, r5)) :
    Calls Tryd.prog 9 #[.string s] w fun e w' => e = .returned (.tuple #[.agg #[.int .i64 r1, .string r2, .int .i64 r3, .int .i64 r4], .int .i64 r5]) ∧ Below w.heap.size w w' := by
  unfold ticket_Open.f at h
  split at h
  case isFalse => cases h
  rename_i hs
  have h2 := Option.some.inj h
  have := open_any s hs w hT
  rw [told_answer, h2] at this
  exact this
noncomputable def racewayref27_Open.f (s : ByteArray) : Option (Int × ByteArray × Int × Int × Int) := if s.size ≤ 131072 then some (told s) else none
theorem racewayref27_Open.calls (s : ByteArray) (r1 : Int) (r2 : ByteArray) (r3 r4 r5 : Int) (w : World) (h : racewayref27_Open.f s = some (r1, r2, r3, r4, r5)) :
    Calls Tryd.prog 10 #[.string s] w fun e w' => e = .returned (.tuple #[.agg #[.int .i64 r1, .string r2, .int .i64 r3, .int .i64 r4], .int .i64 r5]) ∧ Below w.heap.size w w' := by
  unfold racewayref27_Open.f at h
  split at h
  case isFalse => cases h
  rename_i hs
  have h2 := Option.some.inj h
  have := ropen_any s hs w
  rw [told_answer, h2] at this
  exact this
def racewaylaw27_works.f : Option Bool := some true
theorem racewaylaw27_works.calls (r : Bool) (w : World) (h : racewaylaw27_works.f = some r) :
    Calls Tryd.prog 11 #[] w fun e w' => e = .returned (.bool r) ∧ Below w.heap.size w w' := by
  obtain rfl := Option.some.inj h
  exact works_any w
end Go.Proofs.YteajidciahoboaaDoor.P
