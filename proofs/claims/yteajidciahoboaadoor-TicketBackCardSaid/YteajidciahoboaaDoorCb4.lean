import Derived.Test.YteajidciahoboaaDoorCb3
-- LTicketBack
namespace Go.Proofs.YteajidciahoboaaDoor.P
open Go.RowKit Go.Proofs.YteajidciahoboaaDoorW.PrintWords Go.Proofs.YteajidciahoboaaDoorW.PrintLast Go.Proofs.YteajidciahoboaaDoorW.PrintMore Go.Proofs.YteajidciahoboaaDoor.H
attribute [local go_sem] max2_int min2_int max_two min_two max_three min_three max_four min_four   -- for this text's walks alone
set_option linter.unusedVariables false
set_option linter.unusedSimpArgs false

theorem eqA23 (d : Nat) (w : World) (x0 y0 : Int) (x1 y1 : ByteArray) (x2 y2 : Int) (x3 y3 : Int) :
    (Op.equalIn (d + 2) 23 (.agg #[.int .i64 x0, .string x1, .int .i64 x2, .int .i64 x3]) (.agg #[.int .i64 y0, .string y1, .int .i64 y2, .int .i64 y3])).run Tryd.prog w = .ok (x0 == y0 && (x1.toList == y1.toList && (x2 == y2 && (x3 == y3)))) w := by
  refine eqA_of Tryd.underlying23 (by kernel_rfl) ?_
  refine eqf_cons (by rfl) (by go_simp; rfl) (by go_simp; rfl) (by go_simp) ?_
  refine eqf_cons (by rfl) (by go_simp; rfl) (by go_simp; rfl) (by go_simp) ?_
  refine eqf_cons (by rfl) (by go_simp; rfl) (by go_simp; rfl) (by go_simp) ?_
  exact eqf_last (by rfl) (by go_simp; rfl) (by go_simp; rfl) (by go_simp)
attribute [local go_sem high] eqA23
/-! ### racewaylaw27_TicketBack: function 4 -/
mutual
noncomputable def racewaylaw27_TicketBack.j0 : Nat → Int → Int → ByteArray → Bool → Int → ByteArray → Int → Int → Option (Bool)
  | 0, _, _, _, _, _, _, _, _ => none
  | k + 1, x1, x2, x7, x48, x276000, x276001, x276002, x276003 => if x48 = true then (none) else (if (x7.size : Int) = 0 then (none) else (if 0 ≤ (Int.tmod (wrap64 ((Int.tmod x1 (x7.size : Int)) + (x7.size : Int))) (x7.size : Int)) then (if (Int.tmod (wrap64 ((Int.tmod x1 (x7.size : Int)) + (x7.size : Int))) (x7.size : Int)) ≤ (x7.size : Int) then ((some (([x2] : List Int) : List Int)).bind fun y289 => (if (x7.extract 0 ((Int.tmod (wrap64 ((Int.tmod x1 (x7.size : Int)) + (x7.size : Int))) (x7.size : Int)) : Int).toNat).size + (strOfNums y289).size ≤ 9223372036854775807 then (if 0 ≤ (wrap64 ((Int.tmod (wrap64 ((Int.tmod x1 (x7.size : Int)) + (x7.size : Int))) (x7.size : Int)) + 1)) then (if (wrap64 ((Int.tmod (wrap64 ((Int.tmod x1 (x7.size : Int)) + (x7.size : Int))) (x7.size : Int)) + 1)) ≤ (x7.size : Int) then (if ((x7.extract 0 ((Int.tmod (wrap64 ((Int.tmod x1 (x7.size : Int)) + (x7.size : Int))) (x7.size : Int)) : Int).toNat) ++ (strOfNums y289)).size + (x7.extract ((wrap64 ((Int.tmod (wrap64 ((Int.tmod x1 (x7.size : Int)) + (x7.size : Int))) (x7.size : Int)) + 1)) : Int).toNat x7.size).size ≤ 9223372036854775807 then ((ticket_Open.f (((x7.extract 0 ((Int.tmod (wrap64 ((Int.tmod x1 (x7.size : Int)) + (x7.size : Int))) (x7.size : Int)) : Int).toNat) ++ (strOfNums y289)) ++ (x7.extract ((wrap64 ((Int.tmod (wrap64 ((Int.tmod x1 (x7.size : Int)) + (x7.size : Int))) (x7.size : Int)) + 1)) : Int).toNat x7.size))).bind fun bt292 => ((ticket_Open.f (x7.extract 0 ((Int.tmod (wrap64 ((Int.tmod x1 (x7.size : Int)) + (x7.size : Int))) (x7.size : Int)) : Int).toNat)).bind fun bt298 => (if x7.size + 4 ≤ 9223372036854775807 then ((ticket_Open.f (x7 ++ (⟨#[65, 65, 65, 65]⟩ : ByteArray))).bind fun bt304 => (if (Int.tmod (wrap64 ((Int.tmod x1 (x7.size : Int)) + (x7.size : Int))) (x7.size : Int)) < (x7.size : Int) then (if x2 = (bt x7 (Int.tmod (wrap64 ((Int.tmod x1 (x7.size : Int)) + (x7.size : Int))) (x7.size : Int))) then (if bt298.2.2.2.2 = 12 then (racewaylaw27_TicketBack.j1 k (bt304.2.2.2.2 != 12) bt298.1 bt298.2.1 bt298.2.2.1 bt298.2.2.2.1 bt304.1 bt304.2.1 bt304.2.2.1 bt304.2.2.2.1) else (racewaylaw27_TicketBack.j1 k true bt298.1 bt298.2.1 bt298.2.2.1 bt298.2.2.2.1 bt304.1 bt304.2.1 bt304.2.2.1 bt304.2.2.2.1)) else (if bt292.2.2.2.2 = 0 then (if (bt292.1 == x276000 && (bt292.2.1.toList == x276001.toList && (bt292.2.2.1 == x276002 && (bt292.2.2.2.1 == x276003)))) = true then (racewaylaw27_TicketBack.j1 k true bt298.1 bt298.2.1 bt298.2.2.1 bt298.2.2.2.1 bt304.1 bt304.2.1 bt304.2.2.1 bt304.2.2.2.1) else (if bt298.2.2.2.2 = 12 then (racewaylaw27_TicketBack.j1 k (bt304.2.2.2.2 != 12) bt298.1 bt298.2.1 bt298.2.2.1 bt298.2.2.2.1 bt304.1 bt304.2.1 bt304.2.2.1 bt304.2.2.2.1) else (racewaylaw27_TicketBack.j1 k true bt298.1 bt298.2.1 bt298.2.2.1 bt298.2.2.2.1 bt304.1 bt304.2.1 bt304.2.2.1 bt304.2.2.2.1))) else (if bt298.2.2.2.2 = 12 then (racewaylaw27_TicketBack.j1 k (bt304.2.2.2.2 != 12) bt298.1 bt298.2.1 bt298.2.2.1 bt298.2.2.2.1 bt304.1 bt304.2.1 bt304.2.2.1 bt304.2.2.2.1) else (racewaylaw27_TicketBack.j1 k true bt298.1 bt298.2.1 bt298.2.2.1 bt298.2.2.2.1 bt304.1 bt304.2.1 bt304.2.2.1 bt304.2.2.2.1)))) else (none))) else (none)))) else (none)) else (none)) else (none)) else (none))) else (none)) else (none)))
noncomputable def racewaylaw27_TicketBack.j1 : Nat → Bool → Int → ByteArray → Int → Int → Int → ByteArray → Int → Int → Option (Bool)
  | 0, _, _, _, _, _, _, _, _, _ => none
  | k + 1, x109, x304000, x304001, x304002, x304003, x310000, x310001, x310002, x310003 => if x109 = true then (none) else (if (x304000 == 0 && (x304001.toList == ([] : List UInt8) && (x304002 == 0 && (x304003 == 0)))) = true then (if (x310000 == 0 && (x310001.toList == ([] : List UInt8) && (x310002 == 0 && (x310003 == 0)))) = true then ((racewaylaw27_works.f).bind fun t310 => (some t310)) else (none)) else (none))
end
noncomputable def racewaylaw27_TicketBack.f (k : Nat) (a0_0 : Int) (a0_1 : ByteArray) (a0_2 : Int) (a0_3 : Int) (a1 : Int) (a2 : Int) : Option (Bool) := (racewaylaw27_few.f a0_0 a0_1 a0_2 a0_3).bind fun bt276 => ((ticket_Handle.f bt276.1 bt276.2.1 bt276.2.2.1 bt276.2.2.2).bind fun bt280 => (if bt280.2 = 0 then ((ticket_Open.f bt280.1).bind fun bt283 => (if (!(bt283.1 == bt276.1) || (!(bt283.2.1.toList == bt276.2.1.toList) || (!(bt283.2.2.1 == bt276.2.2.1) || (!(bt283.2.2.2.1 == bt276.2.2.2))))) = true then (racewaylaw27_TicketBack.j0 k a1 a2 bt280.1 true bt276.1 bt276.2.1 bt276.2.2.1 bt276.2.2.2) else (if bt283.2.2.2.2 = 0 then (racewaylaw27_TicketBack.j0 k a1 a2 bt280.1 ((bt280.1.size : Int) == 0) bt276.1 bt276.2.1 bt276.2.2.1 bt276.2.2.2) else (racewaylaw27_TicketBack.j0 k a1 a2 bt280.1 true bt276.1 bt276.2.1 bt276.2.2.1 bt276.2.2.2)))) else (if bt280.1.toList = ([] : List UInt8) then ((racewaylaw27_works.f).bind fun t282 => (some t282)) else (none))))
def racewaylaw27_TicketBack.T9 : Bool × List (List Nat × List Nat) := (true, [([], []), ([], []), ([0, 1], [0, 1]), ([], []), ([3], [3]), ([4], [4]), ([2, 5], [2, 5]), ([], []), ([], []), ([8], [8]), ([7, 9], [7, 9]), ([6, 10], [6, 10]), ([11], [11]), ([12], [12]), ([13], [13]), ([13], [13]), ([], []), ([16, 14, 12, 0, 1, 2, 3, 4, 5, 6, 7, 8, 9, 10, 11, 12, 13, 14, 16], [14, 16]), ([15, 17, 0, 1, 2, 3, 4, 5, 6, 7, 8, 9, 10, 11, 12, 13, 14, 15, 16, 17], [15])])
def racewaylaw27_TicketBack.B9 : List Nat := [0, 0, 3, 0, 8, 24, 63, 0, 0, 256, 896, 2047, 4095, 8191, 16383, 16383, 0, 98303, 262143]
theorem racewaylaw27_TicketBack.tab9 : rtab .any (opsOf Tryd.f4 9) = racewaylaw27_TicketBack.T9 := by kernel_rfl
theorem racewaylaw27_TicketBack.bits9 : waitsOk racewaylaw27_TicketBack.T9.2 racewaylaw27_TicketBack.B9 = true := by kernel_rfl
set_option maxHeartbeats 8000000 in
set_option maxRecDepth 100000 in
theorem racewaylaw27_TicketBack.calls (k : Nat) (a0_0 : Int) (a0_1 : ByteArray) (a0_2 : Int) (a0_3 : Int) (a1 : Int) (a2 : Int) (r : Bool) (w : World) (hT : HalfAt w) (h : racewaylaw27_TicketBack.f k a0_0 a0_1 a0_2 a0_3 a1 a2 = some r) :
    Calls Tryd.prog 4 #[.agg #[.int .i64 a0_0, .string a0_1, .int .i64 a0_2, .int .i64 a0_3], .int .i64 a1, .int .u8 a2] w fun e w' => e = .returned (.bool r) ∧ Below w.heap.size w w' := by
  have hu23 := Tryd.underlying23
  have HB := Aside0.mk (Below.refl w.heap.size w)
  have HTG := Aside0.mk hT
  clear hT
  have H : ((racewaylaw27_few.f a0_0 a0_1 a0_2 a0_3).bind fun bt276 => ((ticket_Handle.f bt276.1 bt276.2.1 bt276.2.2.1 bt276.2.2.2).bind fun bt280 => (if bt280.2 = 0 then ((ticket_Open.f bt280.1).bind fun bt283 => (if (!(bt283.1 == bt276.1) || (!(bt283.2.1.toList == bt276.2.1.toList) || (!(bt283.2.2.1 == bt276.2.2.1) || (!(bt283.2.2.2.1 == bt276.2.2.2))))) = true then (racewaylaw27_TicketBack.j0 k a1 a2 bt280.1 true bt276.1 bt276.2.1 bt276.2.2.1 bt276.2.2.2) else (if bt283.2.2.2.2 = 0 then (racewaylaw27_TicketBack.j0 k a1 a2 bt280.1 ((bt280.1.size : Int) == 0) bt276.1 bt276.2.1 bt276.2.2.1 bt276.2.2.2) else (racewaylaw27_TicketBack.j0 k a1 a2 bt280.1 true bt276.1 bt276.2.1 bt276.2.2.1 bt276.2.2.2)))) else (if bt280.1.toList = ([] : List UInt8) then ((racewaylaw27_works.f).bind fun t282 => (some t282)) else (none))))) = some r := h
  clear h
  replace H := Option.bind_eq_some_iff.mp H
  obtain ⟨⟨t276, t277, t278, t279⟩, A40, H⟩ := H
  replace H : ((ticket_Handle.f t276 t277 t278 t279).bind fun bt280 => (if bt280.2 = 0 then ((ticket_Open.f bt280.1).bind fun bt283 => (if (!(bt283.1 == t276) || (!(bt283.2.1.toList == t277.toList) || (!(bt283.2.2.1 == t278) || (!(bt283.2.2.2.1 == t279))))) = true then (racewaylaw27_TicketBack.j0 k a1 a2 bt280.1 true t276 t277 t278 t279) else (if bt283.2.2.2.2 = 0 then (racewaylaw27_TicketBack.j0 k a1 a2 bt280.1 ((bt280.1.size : Int) == 0) t276 t277 t278 t279) else (racewaylaw27_TicketBack.j0 k a1 a2 bt280.1 true t276 t277 t278 t279)))) else (if bt280.1.toList = ([] : List UInt8) then ((racewaylaw27_works.f).bind fun t282 => (some t282)) else (none)))) = some r := H
  have A4 := Aside0.mk A40
  clear A40
  replace H := Option.bind_eq_some_iff.mp H
  obtain ⟨⟨t280, t281⟩, A50, H⟩ := H
  replace H : (if t281 = 0 then ((ticket_Open.f t280).bind fun bt283 => (if (!(bt283.1 == t276) || (!(bt283.2.1.toList == t277.toList) || (!(bt283.2.2.1 == t278) || (!(bt283.2.2.2.1 == t279))))) = true then (racewaylaw27_TicketBack.j0 k a1 a2 t280 true t276 t277 t278 t279) else (if bt283.2.2.2.2 = 0 then (racewaylaw27_TicketBack.j0 k a1 a2 t280 ((t280.size : Int) == 0) t276 t277 t278 t279) else (racewaylaw27_TicketBack.j0 k a1 a2 t280 true t276 t277 t278 t279)))) else (if t280.toList = ([] : List UInt8) then ((racewaylaw27_works.f).bind fun t282 => (some t282)) else (none))) = some r := H
  have A5 := Aside0.mk A50
  clear A50
  by_cases c6 : t281 = 0
  · rw [if_pos c6] at H
    have c6b0 : (t281 == 0) = true := beq_iff_eq.mpr c6
    have c6b1 : (t281 != 0) = false := bne_eq_false_iff_eq.mpr c6
    clear c6
    replace H := Option.bind_eq_some_iff.mp H
    obtain ⟨⟨t283, t284, t285, t286, t287⟩, A70, H⟩ := H
    replace H : (if (!(t283 == t276) || (!(t284.toList == t277.toList) || (!(t285 == t278) || (!(t286 == t279))))) = true then (racewaylaw27_TicketBack.j0 k a1 a2 t280 true t276 t277 t278 t279) else (if t287 = 0 then (racewaylaw27_TicketBack.j0 k a1 a2 t280 ((t280.size : Int) == 0) t276 t277 t278 t279) else (racewaylaw27_TicketBack.j0 k a1 a2 t280 true t276 t277 t278 t279))) = some r := H
    have A7 := Aside0.mk A70
    clear A70
    have HC8 := Aside0.mk H
    clear H
    go_enter Tryd.func4, Tryd.ntmps4
    go_upto_region 6 with (first | ((with_reducible refine gate_dst (N := 3) rfl ?_); (try (refine gate_guard (by rfl) ?_; dsimp only)); refine box_event ?hg (N := 3) ?hd (cs := #[.int .i64 a0_0, .string a0_1, .int .i64 a0_2, .int .i64 a0_3]) (t := 23) ?hr ?_; (case hd => rfl); (case hg => rfl); (case hr => first | (go_simp; done) | (go_simp; rfl)); intro gb275 hg w9 hbox hb; have n0_ := Aside0.mk (below_step (by repeat (first | (with_reducible first | exact HB.out | apply below_alloc | apply pw_below_drewN | apply below_drew1) | exact HB.out)) hb); have n1_ := Aside0.mk (hbox); have n2_ := Aside0.mk ((by rw [hg]; exact (below_size (by repeat (first | (with_reducible first | exact HB.out | apply below_alloc | apply pw_below_drewN | apply below_drew1) | exact HB.out))) : w.heap.size ≤ gb275)); have n3_ := Aside0.mk ((by rw [hg]; exact (below_size (by repeat (first | (with_reducible first | exact HB.out | apply below_alloc | apply pw_below_drewN | apply below_drew1) | exact HB.out))) : w.heap.size ≤ gb275)); clear HB; have HB := n0_; have BK275 := n1_; have GW275 := n2_; have GE275 := n3_; clear n0_ n1_ n2_ n3_; clear hb hbox hg; have hcz10_0 : w9.cell? ⟨gb275, 0, none⟩ = some (.int .i64 a0_0) := (blk_cell BK275.out 0).trans rfl; have hcz10_1 : w9.cell? ⟨gb275, 1, none⟩ = some (.string a0_1) := (blk_cell BK275.out 1).trans rfl; have hcz10_2 : w9.cell? ⟨gb275, 2, none⟩ = some (.int .i64 a0_2) := (blk_cell BK275.out 2).trans rfl; have hcz10_3 : w9.cell? ⟨gb275, 3, none⟩ = some (.int .i64 a0_3) := (blk_cell BK275.out 3).trans rfl; have hfz10_0 := blk_frozen BK275.out 0; have hfz10_1 := blk_frozen BK275.out 1; have hfz10_2 := blk_frozen BK275.out 2; have hfz10_3 := blk_frozen BK275.out 3) | ((with_reducible refine gate_callee (f := 6) rfl ?_); refine goesL_ (some 19) rfl rfl Tryd.func6 (by kernel_rfl) rfl #[.agg #[.int .i64 a0_0, .string a0_1, .int .i64 a0_2, .int .i64 a0_3]] rfl (by (try simp only [List.map_toArray, List.map_cons, List.map_nil]); first | done | rfl | (simp only [List.length_drop, List.length_take]; rfl)) ?_; (with_reducible refine (racewaylaw27_few.calls a0_0 a0_1 a0_2 a0_3 t276 t277 t278 t279 _ A4.out).mono ?_); rintro e w11 ⟨rfl, hb⟩; refine ⟨_, rfl, ?_⟩; have n0_ := Aside0.mk (blk_below (g := gb275) (o := .cells #[.int .i64 a0_0, .string a0_1, .int .i64 a0_2, .int .i64 a0_3] 23 (0, 0)) (by (with_reducible repeat (first | refine blk_drewN ?_ _ | refine blk_drew ?_ | refine blk_alloc ?_ _)); exact BK275.out) hb); have n1_ := Aside0.mk (below_step (by repeat (first | (with_reducible first | exact HB.out | apply below_alloc | apply pw_below_drewN | apply below_drew1 | refine below_set ?_ GE275.out) | exact HB.out)) hb); clear BK275; clear HB; have BK275 := n0_; have HB := n1_; clear n0_ n1_; (try clear hb); (try clear hb2); (try clear hk); (try clear hi); have hcz12_0 : w11.cell? ⟨gb275, 0, none⟩ = some (.int .i64 a0_0) := (blk_cell BK275.out 0).trans rfl; have hcz12_1 : w11.cell? ⟨gb275, 1, none⟩ = some (.string a0_1) := (blk_cell BK275.out 1).trans rfl; have hcz12_2 : w11.cell? ⟨gb275, 2, none⟩ = some (.int .i64 a0_2) := (blk_cell BK275.out 2).trans rfl; have hcz12_3 : w11.cell? ⟨gb275, 3, none⟩ = some (.int .i64 a0_3) := (blk_cell BK275.out 3).trans rfl; have hfz12_0 := blk_frozen BK275.out 0; have hfz12_1 := blk_frozen BK275.out 1; have hfz12_2 := blk_frozen BK275.out 2; have hfz12_3 := blk_frozen BK275.out 3) | ((with_reducible refine gate_callee (f := 7) rfl ?_); refine goesL_ (some 22) rfl rfl Tryd.func7 (by kernel_rfl) rfl #[.agg #[.int .i64 t276, .string t277, .int .i64 t278, .int .i64 t279]] rfl (by (try simp only [List.map_toArray, List.map_cons, List.map_nil]); first | done | rfl | (simp only [List.length_drop, List.length_take]; rfl)) ?_; (with_reducible refine Calls.mono (ticket_Handle.callsT t276 t277 t278 t279 t280 t281 _ ?_ A5.out) ?_); (focus exact HTG.out.below (by repeat (first | (with_reducible first | exact HB.out | apply below_alloc | apply pw_below_drewN | apply below_drew1 | refine below_set ?_ GE275.out) | exact HB.out))); rintro e w13 ⟨rfl, hb⟩; refine ⟨_, rfl, ?_⟩; have n0_ := Aside0.mk (blk_below (g := gb275) (o := .cells #[.int .i64 t276, .string t277, .int .i64 t278, .int .i64 t279] 23 (0, 0)) (by (with_reducible repeat (first | refine blk_drewN ?_ _ | refine blk_drew ?_ | refine blk_alloc ?_ _)); refine blk_put (cs := #[.int .i64 t276, .string t277, .int .i64 t278, .int .i64 a0_3]) ?_ 3 _ rfl; (with_reducible repeat (first | refine blk_drewN ?_ _ | refine blk_drew ?_ | refine blk_alloc ?_ _)); refine blk_put (cs := #[.int .i64 t276, .string t277, .int .i64 a0_2, .int .i64 a0_3]) ?_ 2 _ rfl; (with_reducible repeat (first | refine blk_drewN ?_ _ | refine blk_drew ?_ | refine blk_alloc ?_ _)); refine blk_put (cs := #[.int .i64 t276, .string a0_1, .int .i64 a0_2, .int .i64 a0_3]) ?_ 1 _ rfl; (with_reducible repeat (first | refine blk_drewN ?_ _ | refine blk_drew ?_ | refine blk_alloc ?_ _)); refine blk_put (cs := #[.int .i64 a0_0, .string a0_1, .int .i64 a0_2, .int .i64 a0_3]) ?_ 0 _ rfl; (with_reducible repeat (first | refine blk_drewN ?_ _ | refine blk_drew ?_ | refine blk_alloc ?_ _)); exact BK275.out) hb); have n1_ := Aside0.mk (below_step (by repeat (first | (with_reducible first | exact HB.out | apply below_alloc | apply pw_below_drewN | apply below_drew1 | refine below_set ?_ GE275.out) | exact HB.out)) hb); clear BK275; clear HB; have BK275 := n0_; have HB := n1_; clear n0_ n1_; (try clear hb); (try clear hb2); (try clear hk); (try clear hi)) | ((with_reducible refine gate_callee (f := 9) rfl ?_); refine goesL_ (some 34) rfl rfl Tryd.func9 (by kernel_rfl) rfl #[.string t280] rfl (by (try simp only [List.map_toArray, List.map_cons, List.map_nil]); first | done | rfl | (simp only [List.length_drop, List.length_take]; rfl)) ?_; (with_reducible refine Calls.mono (ticket_Open.callsT t280 t283 t284 t285 t286 t287 _ ?_ A7.out) ?_); (focus exact HTG.out.below (by repeat (first | (with_reducible first | exact HB.out | apply below_alloc | apply pw_below_drewN | apply below_drew1 | refine below_set ?_ GE275.out) | exact HB.out))); rintro e w14 ⟨rfl, hb⟩; refine ⟨_, rfl, ?_⟩; have n0_ := Aside0.mk (blk_below (g := gb275) (o := .cells #[.int .i64 t276, .string t277, .int .i64 t278, .int .i64 t279] 23 (0, 0)) (by (with_reducible repeat (first | refine blk_drewN ?_ _ | refine blk_drew ?_ | refine blk_alloc ?_ _)); exact BK275.out) hb); have n1_ := Aside0.mk (below_step (by repeat (first | (with_reducible first | exact HB.out | apply below_alloc | apply pw_below_drewN | apply below_drew1 | refine below_set ?_ GE275.out) | exact HB.out)) hb); clear BK275; clear HB; have BK275 := n0_; have HB := n1_; clear n0_ n1_; (try clear hb); (try clear hb2); (try clear hk); (try clear hi)) | ((with_reducible refine gate_dst (N := 9) rfl ?_); (try (refine gate_guard (by rfl) ?_; dsimp only)); refine box_event ?hg (N := 9) ?hd (cs := #[.int .i64 0, .string (⟨#[]⟩ : ByteArray), .int .i64 0, .int .i64 0]) (t := 23) ?hr ?_; (case hd => rfl); (case hg => rfl); (case hr => first | (go_simp; done) | (go_simp; rfl)); intro gb288 hg w15 hbox hb; have n0_ := Aside0.mk (blk_below (g := gb275) (o := .cells #[.int .i64 t276, .string t277, .int .i64 t278, .int .i64 t279] 23 (0, 0)) (by (with_reducible repeat (first | refine blk_drewN ?_ _ | refine blk_drew ?_ | refine blk_alloc ?_ _)); exact BK275.out) hb); have n1_ := Aside0.mk (below_step (by repeat (first | (with_reducible first | exact HB.out | apply below_alloc | apply pw_below_drewN | apply below_drew1 | refine below_set ?_ GE275.out) | exact HB.out)) hb); have n2_ := Aside0.mk (hbox); have n3_ := Aside0.mk ((by rw [hg]; exact (below_size (by repeat (first | (with_reducible first | exact HB.out | apply below_alloc | apply pw_below_drewN | apply below_drew1 | refine below_set ?_ GE275.out) | exact HB.out))) : w.heap.size ≤ gb288)); have n4_ := Aside0.mk ((by rw [hg]; exact (below_size (by repeat (first | (with_reducible first | exact HB.out | apply below_alloc | apply pw_below_drewN | apply below_drew1 | refine below_set ?_ GE275.out) | exact HB.out))) : w.heap.size ≤ gb288)); have n5_ := Aside0.mk ((by rw [hg]; exact Nat.ne_of_lt (blk_lt (g := gb275) (o := .cells #[.int .i64 t276, .string t277, .int .i64 t278, .int .i64 t279] 23 (0, 0)) (by (with_reducible repeat (first | refine blk_drewN ?_ _ | refine blk_drew ?_ | refine blk_alloc ?_ _)); exact BK275.out)) : gb275 ≠ gb288)); have n6_ := Aside0.mk ((by rw [hg]; exact Nat.ne_of_gt (blk_lt (g := gb275) (o := .cells #[.int .i64 t276, .string t277, .int .i64 t278, .int .i64 t279] 23 (0, 0)) (by (with_reducible repeat (first | refine blk_drewN ?_ _ | refine blk_drew ?_ | refine blk_alloc ?_ _)); exact BK275.out)) : gb288 ≠ gb275)); clear BK275; clear HB; have BK275 := n0_; have HB := n1_; have BK288 := n2_; have GW288 := n3_; have GE288 := n4_; have NB275_288 := n5_; have NB288_275 := n6_; clear n0_ n1_ n2_ n3_ n4_ n5_ n6_; clear hb hbox hg; have hnb16 := NB288_275.out; have hnc16 := NB275_288.out; have hcz17_0 : w15.cell? ⟨gb288, 0, none⟩ = some (.int .i64 0) := (blk_cell BK288.out 0).trans rfl; have hcz17_1 : w15.cell? ⟨gb288, 1, none⟩ = some (.string (⟨#[]⟩ : ByteArray)) := (blk_cell BK288.out 1).trans rfl; have hcz17_2 : w15.cell? ⟨gb288, 2, none⟩ = some (.int .i64 0) := (blk_cell BK288.out 2).trans rfl; have hcz17_3 : w15.cell? ⟨gb288, 3, none⟩ = some (.int .i64 0) := (blk_cell BK288.out 3).trans rfl; have hfz17_0 := blk_frozen BK288.out 0; have hfz17_1 := blk_frozen BK288.out 1; have hfz17_2 := blk_frozen BK288.out 2; have hfz17_3 := blk_frozen BK288.out 3))
    (try simp only [Act.put, List.setIfInBounds_toArray, List.set_cons_zero, List.set_cons_succ])
    go_cut [48] (fun v48 wc => ∃ (kq : Nat) (x48_7 : Bool), v48 = .bool x48_7 ∧ Aside0 (racewaylaw27_TicketBack.j0 kq a1 a2 t280 x48_7 t276 t277 t278 t279 = some r) ∧ Aside0 (kq ≤ k) ∧ Aside0 (wc.heap[gb275]? = some (.cells #[.int .i64 t276, .string t277, .int .i64 t278, .int .i64 t279] 23 (0, 0))) ∧ Aside0 (wc.heap[gb288]? = some (.cells #[.int .i64 t283, .string t284, .int .i64 t285, .int .i64 t286] 23 (0, 0))) ∧ Aside0 (Below w.heap.size w wc))
    case first =>
      have H := HC8.out
      clear HC8
      by_cases c18 : (!(t283 == t276) || (!(t284.toList == t277.toList) || (!(t285 == t278) || (!(t286 == t279))))) = true
      · rw [if_pos c18] at H
        have c18b0 : (!(t283 == t276) || (!(t284.toList == t277.toList) || (!(t285 == t278) || (!(t286 == t279))))) = true := c18
        clear c18
        (first | rw [c18b0] | (simp only [i64_w, i32_w]; rw [c18b0]) | skip)
        have H' := Aside0.mk H
        clear H
        have hnb19 := NB288_275.out
        have hnc19 := NB275_288.out
        have hcz20_0 : w15.cell? ⟨gb288, 0, none⟩ = some (.int .i64 0) := (blk_cell BK288.out 0).trans rfl
        have hcz20_1 : w15.cell? ⟨gb288, 1, none⟩ = some (.string (⟨#[]⟩ : ByteArray)) := (blk_cell BK288.out 1).trans rfl
        have hcz20_2 : w15.cell? ⟨gb288, 2, none⟩ = some (.int .i64 0) := (blk_cell BK288.out 2).trans rfl
        have hcz20_3 : w15.cell? ⟨gb288, 3, none⟩ = some (.int .i64 0) := (blk_cell BK288.out 3).trans rfl
        have hfz20_0 := blk_frozen BK288.out 0
        have hfz20_1 := blk_frozen BK288.out 1
        have hfz20_2 := blk_frozen BK288.out 2
        have hfz20_3 := blk_frozen BK288.out 3
        have hcz21_0 : w15.cell? ⟨gb275, 0, none⟩ = some (.int .i64 t276) := (blk_cell BK275.out 0).trans rfl
        have hcz21_1 : w15.cell? ⟨gb275, 1, none⟩ = some (.string t277) := (blk_cell BK275.out 1).trans rfl
        have hcz21_2 : w15.cell? ⟨gb275, 2, none⟩ = some (.int .i64 t278) := (blk_cell BK275.out 2).trans rfl
        have hcz21_3 : w15.cell? ⟨gb275, 3, none⟩ = some (.int .i64 t279) := (blk_cell BK275.out 3).trans rfl
        have hfz21_0 := blk_frozen BK275.out 0
        have hfz21_1 := blk_frozen BK275.out 1
        have hfz21_2 := blk_frozen BK275.out 2
        have hfz21_3 := blk_frozen BK275.out 3
        go_wp2
        go_meet
        case rel => exact ⟨_, (true), (by first | rfl | (simp; done) | (simp [*]; done)), H', ⟨by first | omega | exact Nat.le_refl _⟩, ⟨by (with_reducible repeat (first | refine blk_drewN ?_ _ | refine blk_drew ?_ | refine blk_alloc ?_ _)); refine blk_far ?_ NB275_288.out _; (with_reducible repeat (first | refine blk_drewN ?_ _ | refine blk_drew ?_ | refine blk_alloc ?_ _)); refine blk_far ?_ NB275_288.out _; (with_reducible repeat (first | refine blk_drewN ?_ _ | refine blk_drew ?_ | refine blk_alloc ?_ _)); refine blk_far ?_ NB275_288.out _; (with_reducible repeat (first | refine blk_drewN ?_ _ | refine blk_drew ?_ | refine blk_alloc ?_ _)); refine blk_far ?_ NB275_288.out _; (with_reducible repeat (first | refine blk_drewN ?_ _ | refine blk_drew ?_ | refine blk_alloc ?_ _)); exact BK275.out⟩, ⟨by (with_reducible repeat (first | refine blk_drewN ?_ _ | refine blk_drew ?_ | refine blk_alloc ?_ _)); refine blk_put (cs := #[.int .i64 t283, .string t284, .int .i64 t285, .int .i64 0]) ?_ 3 _ rfl; (with_reducible repeat (first | refine blk_drewN ?_ _ | refine blk_drew ?_ | refine blk_alloc ?_ _)); refine blk_put (cs := #[.int .i64 t283, .string t284, .int .i64 0, .int .i64 0]) ?_ 2 _ rfl; (with_reducible repeat (first | refine blk_drewN ?_ _ | refine blk_drew ?_ | refine blk_alloc ?_ _)); refine blk_put (cs := #[.int .i64 t283, .string (⟨#[]⟩ : ByteArray), .int .i64 0, .int .i64 0]) ?_ 1 _ rfl; (with_reducible repeat (first | refine blk_drewN ?_ _ | refine blk_drew ?_ | refine blk_alloc ?_ _)); refine blk_put (cs := #[.int .i64 0, .string (⟨#[]⟩ : ByteArray), .int .i64 0, .int .i64 0]) ?_ 0 _ rfl; (with_reducible repeat (first | refine blk_drewN ?_ _ | refine blk_drew ?_ | refine blk_alloc ?_ _)); exact BK288.out⟩, ⟨by repeat (first | (with_reducible first | exact HB.out | apply below_alloc | apply pw_below_drewN | apply below_drew1 | refine below_set ?_ GE275.out | refine below_set ?_ GE288.out) | exact HB.out)⟩⟩
      · rw [if_neg c18] at H
        have c18b0 : (!(t283 == t276) || (!(t284.toList == t277.toList) || (!(t285 == t278) || (!(t286 == t279))))) = false := by simpa using c18
        clear c18
        (first | rw [c18b0] | (simp only [i64_w, i32_w]; rw [c18b0]) | skip)
        by_cases c22 : t287 = 0
        · rw [if_pos c22] at H
          have c22b0 : (t287 == 0) = true := beq_iff_eq.mpr c22
          have c22b1 : (t287 != 0) = false := bne_eq_false_iff_eq.mpr c22
          clear c22
          have H' := Aside0.mk H
          clear H
          have hnb23 := NB288_275.out
          have hnc23 := NB275_288.out
          have hcz24_0 : w15.cell? ⟨gb288, 0, none⟩ = some (.int .i64 0) := (blk_cell BK288.out 0).trans rfl
          have hcz24_1 : w15.cell? ⟨gb288, 1, none⟩ = some (.string (⟨#[]⟩ : ByteArray)) := (blk_cell BK288.out 1).trans rfl
          have hcz24_2 : w15.cell? ⟨gb288, 2, none⟩ = some (.int .i64 0) := (blk_cell BK288.out 2).trans rfl
          have hcz24_3 : w15.cell? ⟨gb288, 3, none⟩ = some (.int .i64 0) := (blk_cell BK288.out 3).trans rfl
          have hfz24_0 := blk_frozen BK288.out 0
          have hfz24_1 := blk_frozen BK288.out 1
          have hfz24_2 := blk_frozen BK288.out 2
          have hfz24_3 := blk_frozen BK288.out 3
          have hcz25_0 : w15.cell? ⟨gb275, 0, none⟩ = some (.int .i64 t276) := (blk_cell BK275.out 0).trans rfl
          have hcz25_1 : w15.cell? ⟨gb275, 1, none⟩ = some (.string t277) := (blk_cell BK275.out 1).trans rfl
          have hcz25_2 : w15.cell? ⟨gb275, 2, none⟩ = some (.int .i64 t278) := (blk_cell BK275.out 2).trans rfl
          have hcz25_3 : w15.cell? ⟨gb275, 3, none⟩ = some (.int .i64 t279) := (blk_cell BK275.out 3).trans rfl
          have hfz25_0 := blk_frozen BK275.out 0
          have hfz25_1 := blk_frozen BK275.out 1
          have hfz25_2 := blk_frozen BK275.out 2
          have hfz25_3 := blk_frozen BK275.out 3
          go_wp2
          go_meet
          case rel => exact ⟨_, (((t280.size : Int) == 0)), (by first | rfl | (simp; done) | (simp [*]; done)), H', ⟨by first | omega | exact Nat.le_refl _⟩, ⟨by (with_reducible repeat (first | refine blk_drewN ?_ _ | refine blk_drew ?_ | refine blk_alloc ?_ _)); refine blk_far ?_ NB275_288.out _; (with_reducible repeat (first | refine blk_drewN ?_ _ | refine blk_drew ?_ | refine blk_alloc ?_ _)); refine blk_far ?_ NB275_288.out _; (with_reducible repeat (first | refine blk_drewN ?_ _ | refine blk_drew ?_ | refine blk_alloc ?_ _)); refine blk_far ?_ NB275_288.out _; (with_reducible repeat (first | refine blk_drewN ?_ _ | refine blk_drew ?_ | refine blk_alloc ?_ _)); refine blk_far ?_ NB275_288.out _; (with_reducible repeat (first | refine blk_drewN ?_ _ | refine blk_drew ?_ | refine blk_alloc ?_ _)); exact BK275.out⟩, ⟨by (with_reducible repeat (first | refine blk_drewN ?_ _ | refine blk_drew ?_ | refine blk_alloc ?_ _)); refine blk_put (cs := #[.int .i64 t283, .string t284, .int .i64 t285, .int .i64 0]) ?_ 3 _ rfl; (with_reducible repeat (first | refine blk_drewN ?_ _ | refine blk_drew ?_ | refine blk_alloc ?_ _)); refine blk_put (cs := #[.int .i64 t283, .string t284, .int .i64 0, .int .i64 0]) ?_ 2 _ rfl; (with_reducible repeat (first | refine blk_drewN ?_ _ | refine blk_drew ?_ | refine blk_alloc ?_ _)); refine blk_put (cs := #[.int .i64 t283, .string (⟨#[]⟩ : ByteArray), .int .i64 0, .int .i64 0]) ?_ 1 _ rfl; (with_reducible repeat (first | refine blk_drewN ?_ _ | refine blk_drew ?_ | refine blk_alloc ?_ _)); refine blk_put (cs := #[.int .i64 0, .string (⟨#[]⟩ : ByteArray), .int .i64 0, .int .i64 0]) ?_ 0 _ rfl; (with_reducible repeat (first | refine blk_drewN ?_ _ | refine blk_drew ?_ | refine blk_alloc ?_ _)); exact BK288.out⟩, ⟨by repeat (first | (with_reducible first | exact HB.out | apply below_alloc | apply pw_below_drewN | apply below_drew1 | refine below_set ?_ GE275.out | refine below_set ?_ GE288.out) | exact HB.out)⟩⟩
        · rw [if_neg c22] at H
          have c22b0 : (t287 == 0) = false := beq_eq_false_iff_ne.mpr c22
          have c22b1 : (t287 != 0) = true := bne_iff_ne.mpr c22
          have H' := Aside0.mk H
          clear H
          have hnb26 := NB288_275.out
          have hnc26 := NB275_288.out
          have hcz27_0 : w15.cell? ⟨gb288, 0, none⟩ = some (.int .i64 0) := (blk_cell BK288.out 0).trans rfl
          have hcz27_1 : w15.cell? ⟨gb288, 1, none⟩ = some (.string (⟨#[]⟩ : ByteArray)) := (blk_cell BK288.out 1).trans rfl
          have hcz27_2 : w15.cell? ⟨gb288, 2, none⟩ = some (.int .i64 0) := (blk_cell BK288.out 2).trans rfl
          have hcz27_3 : w15.cell? ⟨gb288, 3, none⟩ = some (.int .i64 0) := (blk_cell BK288.out 3).trans rfl
          have hfz27_0 := blk_frozen BK288.out 0
          have hfz27_1 := blk_frozen BK288.out 1
          have hfz27_2 := blk_frozen BK288.out 2
          have hfz27_3 := blk_frozen BK288.out 3
          have hcz28_0 : w15.cell? ⟨gb275, 0, none⟩ = some (.int .i64 t276) := (blk_cell BK275.out 0).trans rfl
          have hcz28_1 : w15.cell? ⟨gb275, 1, none⟩ = some (.string t277) := (blk_cell BK275.out 1).trans rfl
          have hcz28_2 : w15.cell? ⟨gb275, 2, none⟩ = some (.int .i64 t278) := (blk_cell BK275.out 2).trans rfl
          have hcz28_3 : w15.cell? ⟨gb275, 3, none⟩ = some (.int .i64 t279) := (blk_cell BK275.out 3).trans rfl
          have hfz28_0 := blk_frozen BK275.out 0
          have hfz28_1 := blk_frozen BK275.out 1
          have hfz28_2 := blk_frozen BK275.out 2
          have hfz28_3 := blk_frozen BK275.out 3
          go_wp2
          go_meet
          case rel => exact ⟨_, (true), (by first | rfl | (simp; done) | (simp [*]; done)), H', ⟨by first | omega | exact Nat.le_refl _⟩, ⟨by (with_reducible repeat (first | refine blk_drewN ?_ _ | refine blk_drew ?_ | refine blk_alloc ?_ _)); refine blk_far ?_ NB275_288.out _; (with_reducible repeat (first | refine blk_drewN ?_ _ | refine blk_drew ?_ | refine blk_alloc ?_ _)); refine blk_far ?_ NB275_288.out _; (with_reducible repeat (first | refine blk_drewN ?_ _ | refine blk_drew ?_ | refine blk_alloc ?_ _)); refine blk_far ?_ NB275_288.out _; (with_reducible repeat (first | refine blk_drewN ?_ _ | refine blk_drew ?_ | refine blk_alloc ?_ _)); refine blk_far ?_ NB275_288.out _; (with_reducible repeat (first | refine blk_drewN ?_ _ | refine blk_drew ?_ | refine blk_alloc ?_ _)); exact BK275.out⟩, ⟨by (with_reducible repeat (first | refine blk_drewN ?_ _ | refine blk_drew ?_ | refine blk_alloc ?_ _)); refine blk_put (cs := #[.int .i64 t283, .string t284, .int .i64 t285, .int .i64 0]) ?_ 3 _ rfl; (with_reducible repeat (first | refine blk_drewN ?_ _ | refine blk_drew ?_ | refine blk_alloc ?_ _)); refine blk_put (cs := #[.int .i64 t283, .string t284, .int .i64 0, .int .i64 0]) ?_ 2 _ rfl; (with_reducible repeat (first | refine blk_drewN ?_ _ | refine blk_drew ?_ | refine blk_alloc ?_ _)); refine blk_put (cs := #[.int .i64 t283, .string (⟨#[]⟩ : ByteArray), .int .i64 0, .int .i64 0]) ?_ 1 _ rfl; (with_reducible repeat (first | refine blk_drewN ?_ _ | refine blk_drew ?_ | refine blk_alloc ?_ _)); refine blk_put (cs := #[.int .i64 0, .string (⟨#[]⟩ : ByteArray), .int .i64 0, .int .i64 0]) ?_ 0 _ rfl; (with_reducible repeat (first | refine blk_drewN ?_ _ | refine blk_drew ?_ | refine blk_alloc ?_ _)); exact BK288.out⟩, ⟨by repeat (first | (with_reducible first | exact HB.out | apply below_alloc | apply pw_below_drewN | apply below_drew1 | refine below_set ?_ GE275.out | refine below_set ?_ GE288.out) | exact HB.out)⟩⟩
    case rest =>
      clear HC8
      try clear c1
      try clear c2
      try clear p2
      try clear c4
      try clear c6
      try clear c6b0
      try clear c6b1
      try clear c7
      try clear c9
      try clear c16
      try clear c18
      try clear c18b0
      try clear c19
      try clear c22
      try clear c22b0
      try clear c22b1
      try clear c23
      try clear c26
      try clear hcz10_0
      try clear hcz10_1
      try clear hcz10_2
      try clear hcz10_3
      try clear hcz12_0
      try clear hcz12_1
      try clear hcz12_2
      try clear hcz12_3
      try clear hcz17_0
      try clear hcz17_1
      try clear hcz17_2
      try clear hcz17_3
      try clear hcz20_0
      try clear hcz20_1
      try clear hcz20_2
      try clear hcz20_3
      try clear hcz21_0
      try clear hcz21_1
      try clear hcz21_2
      try clear hcz21_3
      try clear hcz24_0
      try clear hcz24_1
      try clear hcz24_2
      try clear hcz24_3
      try clear hcz25_0
      try clear hcz25_1
      try clear hcz25_2
      try clear hcz25_3
      try clear hcz27_0
      try clear hcz27_1
      try clear hcz27_2
      try clear hcz27_3
      try clear hcz28_0
      try clear hcz28_1
      try clear hcz28_2
      try clear hcz28_3
      try clear hfz10_0
      try clear hfz10_1
      try clear hfz10_2
      try clear hfz10_3
      try clear hfz12_0
      try clear hfz12_1
      try clear hfz12_2
      try clear hfz12_3
      try clear hfz17_0
      try clear hfz17_1
      try clear hfz17_2
      try clear hfz17_3
      try clear hfz20_0
      try clear hfz20_1
      try clear hfz20_2
      try clear hfz20_3
      try clear hfz21_0
      try clear hfz21_1
      try clear hfz21_2
      try clear hfz21_3
      try clear hfz24_0
      try clear hfz24_1
      try clear hfz24_2
      try clear hfz24_3
      try clear hfz25_0
      try clear hfz25_1
      try clear hfz25_2
      try clear hfz25_3
      try clear hfz27_0
      try clear hfz27_1
      try clear hfz27_2
      try clear hfz27_3
      try clear hfz28_0
      try clear hfz28_1
      try clear hfz28_2
      try clear hfz28_3
      obtain ⟨kq, x48_7, rfl, HA, HJ7, BK275, BK288, HB⟩ := hcut
      cases kq with
      | zero => exact absurd HA.out (by simp [racewaylaw27_TicketBack.j0])
      | succ kj7 =>
        have H := HA.out
        clear HA
        simp only [racewaylaw27_TicketBack.j0] at H
        by_cases c29 : x48_7 = true
        · subst c29
          have H1 : (none) = some r := by rw [if_pos rfl] at H; exact H
          clear H
          have H := H1
          clear H1
          exact absurd H (by simp)
        · replace c29 := Bool.eq_false_iff.mpr c29
          subst c29
          have H1 : (if (t280.size : Int) = 0 then (none) else (if 0 ≤ (Int.tmod (wrap64 ((Int.tmod a1 (t280.size : Int)) + (t280.size : Int))) (t280.size : Int)) then (if (Int.tmod (wrap64 ((Int.tmod a1 (t280.size : Int)) + (t280.size : Int))) (t280.size : Int)) ≤ (t280.size : Int) then ((some (([a2] : List Int) : List Int)).bind fun y289 => (if (t280.extract 0 ((Int.tmod (wrap64 ((Int.tmod a1 (t280.size : Int)) + (t280.size : Int))) (t280.size : Int)) : Int).toNat).size + (strOfNums y289).size ≤ 9223372036854775807 then (if 0 ≤ (wrap64 ((Int.tmod (wrap64 ((Int.tmod a1 (t280.size : Int)) + (t280.size : Int))) (t280.size : Int)) + 1)) then (if (wrap64 ((Int.tmod (wrap64 ((Int.tmod a1 (t280.size : Int)) + (t280.size : Int))) (t280.size : Int)) + 1)) ≤ (t280.size : Int) then (if ((t280.extract 0 ((Int.tmod (wrap64 ((Int.tmod a1 (t280.size : Int)) + (t280.size : Int))) (t280.size : Int)) : Int).toNat) ++ (strOfNums y289)).size + (t280.extract ((wrap64 ((Int.tmod (wrap64 ((Int.tmod a1 (t280.size : Int)) + (t280.size : Int))) (t280.size : Int)) + 1)) : Int).toNat t280.size).size ≤ 9223372036854775807 then ((ticket_Open.f (((t280.extract 0 ((Int.tmod (wrap64 ((Int.tmod a1 (t280.size : Int)) + (t280.size : Int))) (t280.size : Int)) : Int).toNat) ++ (strOfNums y289)) ++ (t280.extract ((wrap64 ((Int.tmod (wrap64 ((Int.tmod a1 (t280.size : Int)) + (t280.size : Int))) (t280.size : Int)) + 1)) : Int).toNat t280.size))).bind fun bt292 => ((ticket_Open.f (t280.extract 0 ((Int.tmod (wrap64 ((Int.tmod a1 (t280.size : Int)) + (t280.size : Int))) (t280.size : Int)) : Int).toNat)).bind fun bt298 => (if t280.size + 4 ≤ 9223372036854775807 then ((ticket_Open.f (t280 ++ (⟨#[65, 65, 65, 65]⟩ : ByteArray))).bind fun bt304 => (if (Int.tmod (wrap64 ((Int.tmod a1 (t280.size : Int)) + (t280.size : Int))) (t280.size : Int)) < (t280.size : Int) then (if a2 = (bt t280 (Int.tmod (wrap64 ((Int.tmod a1 (t280.size : Int)) + (t280.size : Int))) (t280.size : Int))) then (if bt298.2.2.2.2 = 12 then (racewaylaw27_TicketBack.j1 kj7 (bt304.2.2.2.2 != 12) bt298.1 bt298.2.1 bt298.2.2.1 bt298.2.2.2.1 bt304.1 bt304.2.1 bt304.2.2.1 bt304.2.2.2.1) else (racewaylaw27_TicketBack.j1 kj7 true bt298.1 bt298.2.1 bt298.2.2.1 bt298.2.2.2.1 bt304.1 bt304.2.1 bt304.2.2.1 bt304.2.2.2.1)) else (if bt292.2.2.2.2 = 0 then (if (bt292.1 == t276 && (bt292.2.1.toList == t277.toList && (bt292.2.2.1 == t278 && (bt292.2.2.2.1 == t279)))) = true then (racewaylaw27_TicketBack.j1 kj7 true bt298.1 bt298.2.1 bt298.2.2.1 bt298.2.2.2.1 bt304.1 bt304.2.1 bt304.2.2.1 bt304.2.2.2.1) else (if bt298.2.2.2.2 = 12 then (racewaylaw27_TicketBack.j1 kj7 (bt304.2.2.2.2 != 12) bt298.1 bt298.2.1 bt298.2.2.1 bt298.2.2.2.1 bt304.1 bt304.2.1 bt304.2.2.1 bt304.2.2.2.1) else (racewaylaw27_TicketBack.j1 kj7 true bt298.1 bt298.2.1 bt298.2.2.1 bt298.2.2.2.1 bt304.1 bt304.2.1 bt304.2.2.1 bt304.2.2.2.1))) else (if bt298.2.2.2.2 = 12 then (racewaylaw27_TicketBack.j1 kj7 (bt304.2.2.2.2 != 12) bt298.1 bt298.2.1 bt298.2.2.1 bt298.2.2.2.1 bt304.1 bt304.2.1 bt304.2.2.1 bt304.2.2.2.1) else (racewaylaw27_TicketBack.j1 kj7 true bt298.1 bt298.2.1 bt298.2.2.1 bt298.2.2.2.1 bt304.1 bt304.2.1 bt304.2.2.1 bt304.2.2.2.1)))) else (none))) else (none)))) else (none)) else (none)) else (none)) else (none))) else (none)) else (none))) = some r := by rw [if_neg (show ¬ (false = true) by decide)] at H; exact H
          clear H
          have H := H1
          clear H1
          by_cases c30 : (t280.size : Int) = 0
          · rw [if_pos c30] at H
            exact absurd H (by simp)
          · rw [if_neg c30] at H
            have c30b0 : ((t280.size : Int) == 0) = false := beq_eq_false_iff_ne.mpr c30
            have c30b1 : ((t280.size : Int) != 0) = true := bne_iff_ne.mpr c30
            obtain ⟨ji31, hji31⟩ : ∃ j_ : Int, (Int.tmod (wrap64 ((Int.tmod a1 (t280.size : Int)) + (t280.size : Int))) (t280.size : Int)) = j_ := ⟨_, rfl⟩
            replace H : (if 0 ≤ (ji31) then (if (ji31) ≤ (t280.size : Int) then ((some (([a2] : List Int) : List Int)).bind fun y289 => (if (t280.extract 0 ((ji31) : Int).toNat).size + (strOfNums y289).size ≤ 9223372036854775807 then (if 0 ≤ (wrap64 ((ji31) + 1)) then (if (wrap64 ((ji31) + 1)) ≤ (t280.size : Int) then (if ((t280.extract 0 ((ji31) : Int).toNat) ++ (strOfNums y289)).size + (t280.extract ((wrap64 ((ji31) + 1)) : Int).toNat t280.size).size ≤ 9223372036854775807 then ((ticket_Open.f (((t280.extract 0 ((ji31) : Int).toNat) ++ (strOfNums y289)) ++ (t280.extract ((wrap64 ((ji31) + 1)) : Int).toNat t280.size))).bind fun bt292 => ((ticket_Open.f (t280.extract 0 ((ji31) : Int).toNat)).bind fun bt298 => (if t280.size + 4 ≤ 9223372036854775807 then ((ticket_Open.f (t280 ++ (⟨#[65, 65, 65, 65]⟩ : ByteArray))).bind fun bt304 => (if (ji31) < (t280.size : Int) then (if a2 = (bt t280 (ji31)) then (if bt298.2.2.2.2 = 12 then (racewaylaw27_TicketBack.j1 kj7 (bt304.2.2.2.2 != 12) bt298.1 bt298.2.1 bt298.2.2.1 bt298.2.2.2.1 bt304.1 bt304.2.1 bt304.2.2.1 bt304.2.2.2.1) else (racewaylaw27_TicketBack.j1 kj7 true bt298.1 bt298.2.1 bt298.2.2.1 bt298.2.2.2.1 bt304.1 bt304.2.1 bt304.2.2.1 bt304.2.2.2.1)) else (if bt292.2.2.2.2 = 0 then (if (bt292.1 == t276 && (bt292.2.1.toList == t277.toList && (bt292.2.2.1 == t278 && (bt292.2.2.2.1 == t279)))) = true then (racewaylaw27_TicketBack.j1 kj7 true bt298.1 bt298.2.1 bt298.2.2.1 bt298.2.2.2.1 bt304.1 bt304.2.1 bt304.2.2.1 bt304.2.2.2.1) else (if bt298.2.2.2.2 = 12 then (racewaylaw27_TicketBack.j1 kj7 (bt304.2.2.2.2 != 12) bt298.1 bt298.2.1 bt298.2.2.1 bt298.2.2.2.1 bt304.1 bt304.2.1 bt304.2.2.1 bt304.2.2.2.1) else (racewaylaw27_TicketBack.j1 kj7 true bt298.1 bt298.2.1 bt298.2.2.1 bt298.2.2.2.1 bt304.1 bt304.2.1 bt304.2.2.1 bt304.2.2.2.1))) else (if bt298.2.2.2.2 = 12 then (racewaylaw27_TicketBack.j1 kj7 (bt304.2.2.2.2 != 12) bt298.1 bt298.2.1 bt298.2.2.1 bt298.2.2.2.1 bt304.1 bt304.2.1 bt304.2.2.1 bt304.2.2.2.1) else (racewaylaw27_TicketBack.j1 kj7 true bt298.1 bt298.2.1 bt298.2.2.1 bt298.2.2.2.1 bt304.1 bt304.2.1 bt304.2.2.1 bt304.2.2.2.1)))) else (none))) else (none)))) else (none)) else (none)) else (none)) else (none))) else (none)) else (none)) = some r := by first | (rw [hji31] at H; exact H) | (simp only [hji31] at H ⊢; exact H)
            by_cases c32 : 0 ≤ (ji31)
            · rw [if_pos c32] at H
              have c32b0 := eq_true c32
              have c32b1 : decide (0 ≤ (ji31)) = true := decide_eq_true c32
              clear c32
              by_cases c33 : (ji31) ≤ (t280.size : Int)
              · rw [if_pos c33] at H
                have c33b0 := eq_true c33
                have c33b1 : decide ((ji31) ≤ (t280.size : Int)) = true := decide_eq_true c33
                clear c33
                obtain ⟨y289, hy289⟩ : ∃ y_ : List Int, y_ = (([a2] : List Int)) := ⟨_, rfl⟩
                replace H : (if (t280.extract 0 ((ji31) : Int).toNat).size + (strOfNums y289).size ≤ 9223372036854775807 then (if 0 ≤ (wrap64 ((ji31) + 1)) then (if (wrap64 ((ji31) + 1)) ≤ (t280.size : Int) then (if ((t280.extract 0 ((ji31) : Int).toNat) ++ (strOfNums y289)).size + (t280.extract ((wrap64 ((ji31) + 1)) : Int).toNat t280.size).size ≤ 9223372036854775807 then ((ticket_Open.f (((t280.extract 0 ((ji31) : Int).toNat) ++ (strOfNums y289)) ++ (t280.extract ((wrap64 ((ji31) + 1)) : Int).toNat t280.size))).bind fun bt292 => ((ticket_Open.f (t280.extract 0 ((ji31) : Int).toNat)).bind fun bt298 => (if t280.size + 4 ≤ 9223372036854775807 then ((ticket_Open.f (t280 ++ (⟨#[65, 65, 65, 65]⟩ : ByteArray))).bind fun bt304 => (if (ji31) < (t280.size : Int) then (if a2 = (bt t280 (ji31)) then (if bt298.2.2.2.2 = 12 then (racewaylaw27_TicketBack.j1 kj7 (bt304.2.2.2.2 != 12) bt298.1 bt298.2.1 bt298.2.2.1 bt298.2.2.2.1 bt304.1 bt304.2.1 bt304.2.2.1 bt304.2.2.2.1) else (racewaylaw27_TicketBack.j1 kj7 true bt298.1 bt298.2.1 bt298.2.2.1 bt298.2.2.2.1 bt304.1 bt304.2.1 bt304.2.2.1 bt304.2.2.2.1)) else (if bt292.2.2.2.2 = 0 then (if (bt292.1 == t276 && (bt292.2.1.toList == t277.toList && (bt292.2.2.1 == t278 && (bt292.2.2.2.1 == t279)))) = true then (racewaylaw27_TicketBack.j1 kj7 true bt298.1 bt298.2.1 bt298.2.2.1 bt298.2.2.2.1 bt304.1 bt304.2.1 bt304.2.2.1 bt304.2.2.2.1) else (if bt298.2.2.2.2 = 12 then (racewaylaw27_TicketBack.j1 kj7 (bt304.2.2.2.2 != 12) bt298.1 bt298.2.1 bt298.2.2.1 bt298.2.2.2.1 bt304.1 bt304.2.1 bt304.2.2.1 bt304.2.2.2.1) else (racewaylaw27_TicketBack.j1 kj7 true bt298.1 bt298.2.1 bt298.2.2.1 bt298.2.2.2.1 bt304.1 bt304.2.1 bt304.2.2.1 bt304.2.2.2.1))) else (if bt298.2.2.2.2 = 12 then (racewaylaw27_TicketBack.j1 kj7 (bt304.2.2.2.2 != 12) bt298.1 bt298.2.1 bt298.2.2.1 bt298.2.2.2.1 bt304.1 bt304.2.1 bt304.2.2.1 bt304.2.2.2.1) else (racewaylaw27_TicketBack.j1 kj7 true bt298.1 bt298.2.1 bt298.2.2.1 bt298.2.2.2.1 bt304.1 bt304.2.1 bt304.2.2.1 bt304.2.2.2.1)))) else (none))) else (none)))) else (none)) else (none)) else (none)) else (none)) = some r := by first | (rw [hy289]; with_reducible exact H) | (have H2_ := (Option.bind_some _ _).symm.trans H; rw [hy289]; with_reducible exact H2_) | (have H2_ := (Option.bind_some _ _).symm.trans H; with_reducible exact H2_) | with_reducible exact H | (rw [hy289]; exact H) | exact H
                have Ny289 := Aside0.mk hy289
                clear hy289
                by_cases c34 : (t280.extract 0 ((ji31) : Int).toNat).size + (strOfNums y289).size ≤ 9223372036854775807
                · rw [if_pos c34] at H
                  have c34b0 := eq_true c34
                  have c34b1 : decide ((t280.extract 0 ((ji31) : Int).toNat).size + (strOfNums y289).size ≤ 9223372036854775807) = true := decide_eq_true c34
                  try have c34b2 : (9223372036854775807 < (t280.extract 0 ((ji31) : Int).toNat).size + (strOfNums y289).size) = False := eq_false (Nat.not_lt.2 c34)
                  have c34z : (9223372036854775807 < ji31.toNat + (strOfNums y289).size) = False := eq_false (by have q := c34; have q1 := of_eq_true c33b0; simp only [ByteArray.size_extract] at q; omega)
                  obtain ⟨ji35, hji35⟩ : ∃ j_ : Int, (wrap64 ((ji31) + 1)) = j_ := ⟨_, rfl⟩
                  replace H : (if 0 ≤ (ji35) then (if (ji35) ≤ (t280.size : Int) then (if ((t280.extract 0 ((ji31) : Int).toNat) ++ (strOfNums y289)).size + (t280.extract ((ji35) : Int).toNat t280.size).size ≤ 9223372036854775807 then ((ticket_Open.f (((t280.extract 0 ((ji31) : Int).toNat) ++ (strOfNums y289)) ++ (t280.extract ((ji35) : Int).toNat t280.size))).bind fun bt292 => ((ticket_Open.f (t280.extract 0 ((ji31) : Int).toNat)).bind fun bt298 => (if t280.size + 4 ≤ 9223372036854775807 then ((ticket_Open.f (t280 ++ (⟨#[65, 65, 65, 65]⟩ : ByteArray))).bind fun bt304 => (if (ji31) < (t280.size : Int) then (if a2 = (bt t280 (ji31)) then (if bt298.2.2.2.2 = 12 then (racewaylaw27_TicketBack.j1 kj7 (bt304.2.2.2.2 != 12) bt298.1 bt298.2.1 bt298.2.2.1 bt298.2.2.2.1 bt304.1 bt304.2.1 bt304.2.2.1 bt304.2.2.2.1) else (racewaylaw27_TicketBack.j1 kj7 true bt298.1 bt298.2.1 bt298.2.2.1 bt298.2.2.2.1 bt304.1 bt304.2.1 bt304.2.2.1 bt304.2.2.2.1)) else (if bt292.2.2.2.2 = 0 then (if (bt292.1 == t276 && (bt292.2.1.toList == t277.toList && (bt292.2.2.1 == t278 && (bt292.2.2.2.1 == t279)))) = true then (racewaylaw27_TicketBack.j1 kj7 true bt298.1 bt298.2.1 bt298.2.2.1 bt298.2.2.2.1 bt304.1 bt304.2.1 bt304.2.2.1 bt304.2.2.2.1) else (if bt298.2.2.2.2 = 12 then (racewaylaw27_TicketBack.j1 kj7 (bt304.2.2.2.2 != 12) bt298.1 bt298.2.1 bt298.2.2.1 bt298.2.2.2.1 bt304.1 bt304.2.1 bt304.2.2.1 bt304.2.2.2.1) else (racewaylaw27_TicketBack.j1 kj7 true bt298.1 bt298.2.1 bt298.2.2.1 bt298.2.2.2.1 bt304.1 bt304.2.1 bt304.2.2.1 bt304.2.2.2.1))) else (if bt298.2.2.2.2 = 12 then (racewaylaw27_TicketBack.j1 kj7 (bt304.2.2.2.2 != 12) bt298.1 bt298.2.1 bt298.2.2.1 bt298.2.2.2.1 bt304.1 bt304.2.1 bt304.2.2.1 bt304.2.2.2.1) else (racewaylaw27_TicketBack.j1 kj7 true bt298.1 bt298.2.1 bt298.2.2.1 bt298.2.2.2.1 bt304.1 bt304.2.1 bt304.2.2.1 bt304.2.2.2.1)))) else (none))) else (none)))) else (none)) else (none)) else (none)) = some r := by first | (rw [hji35] at H; exact H) | (simp only [hji35] at H ⊢; exact H)
                  have hji35w : (IntKind.i64.wrap ((ji31) + 1)) = ji35 := (i64_w _).trans hji35
                  by_cases c36 : 0 ≤ (ji35)
                  · rw [if_pos c36] at H
                    have c36b0 := eq_true c36
                    have c36b1 : decide (0 ≤ (ji35)) = true := decide_eq_true c36
                    clear c36
                    by_cases c37 : (ji35) ≤ (t280.size : Int)
                    · rw [if_pos c37] at H
                      have c37b0 := eq_true c37
                      have c37b1 : decide ((ji35) ≤ (t280.size : Int)) = true := decide_eq_true c37
                      clear c37
                      by_cases c38 : ((t280.extract 0 ((ji31) : Int).toNat) ++ (strOfNums y289)).size + (t280.extract ((ji35) : Int).toNat t280.size).size ≤ 9223372036854775807
                      · rw [if_pos c38] at H
                        have c38b0 := eq_true c38
                        have c38b1 : decide (((t280.extract 0 ((ji31) : Int).toNat) ++ (strOfNums y289)).size + (t280.extract ((ji35) : Int).toNat t280.size).size ≤ 9223372036854775807) = true := decide_eq_true c38
                        try have c38b2 : (9223372036854775807 < ((t280.extract 0 ((ji31) : Int).toNat) ++ (strOfNums y289)).size + (t280.extract ((ji35) : Int).toNat t280.size).size) = False := eq_false (Nat.not_lt.2 c38)
                        have c38z : (9223372036854775807 < ji31.toNat + (strOfNums y289).size + (t280.size - ji35.toNat)) = False := eq_false (by have q := c38; have q1 := of_eq_true c33b0; simp only [ByteArray.size_append, ByteArray.size_extract] at q; omega)
                        replace H := Option.bind_eq_some_iff.mp H
                        obtain ⟨⟨t292, t293, t294, t295, t296⟩, A390, H⟩ := H
                        replace H : ((ticket_Open.f (t280.extract 0 ((ji31) : Int).toNat)).bind fun bt298 => (if t280.size + 4 ≤ 9223372036854775807 then ((ticket_Open.f (t280 ++ (⟨#[65, 65, 65, 65]⟩ : ByteArray))).bind fun bt304 => (if (ji31) < (t280.size : Int) then (if a2 = (bt t280 (ji31)) then (if bt298.2.2.2.2 = 12 then (racewaylaw27_TicketBack.j1 kj7 (bt304.2.2.2.2 != 12) bt298.1 bt298.2.1 bt298.2.2.1 bt298.2.2.2.1 bt304.1 bt304.2.1 bt304.2.2.1 bt304.2.2.2.1) else (racewaylaw27_TicketBack.j1 kj7 true bt298.1 bt298.2.1 bt298.2.2.1 bt298.2.2.2.1 bt304.1 bt304.2.1 bt304.2.2.1 bt304.2.2.2.1)) else (if t296 = 0 then (if (t292 == t276 && (t293.toList == t277.toList && (t294 == t278 && (t295 == t279)))) = true then (racewaylaw27_TicketBack.j1 kj7 true bt298.1 bt298.2.1 bt298.2.2.1 bt298.2.2.2.1 bt304.1 bt304.2.1 bt304.2.2.1 bt304.2.2.2.1) else (if bt298.2.2.2.2 = 12 then (racewaylaw27_TicketBack.j1 kj7 (bt304.2.2.2.2 != 12) bt298.1 bt298.2.1 bt298.2.2.1 bt298.2.2.2.1 bt304.1 bt304.2.1 bt304.2.2.1 bt304.2.2.2.1) else (racewaylaw27_TicketBack.j1 kj7 true bt298.1 bt298.2.1 bt298.2.2.1 bt298.2.2.2.1 bt304.1 bt304.2.1 bt304.2.2.1 bt304.2.2.2.1))) else (if bt298.2.2.2.2 = 12 then (racewaylaw27_TicketBack.j1 kj7 (bt304.2.2.2.2 != 12) bt298.1 bt298.2.1 bt298.2.2.1 bt298.2.2.2.1 bt304.1 bt304.2.1 bt304.2.2.1 bt304.2.2.2.1) else (racewaylaw27_TicketBack.j1 kj7 true bt298.1 bt298.2.1 bt298.2.2.1 bt298.2.2.2.1 bt304.1 bt304.2.1 bt304.2.2.1 bt304.2.2.2.1)))) else (none))) else (none))) = some r := H
                        have A39 := Aside0.mk A390
                        clear A390
                        have c40b0 := eq_true (of_decide_eq_true (by first | (with_reducible assumption) | assumption) : 0 ≤ (ji31))
                        have c41b0 := eq_true (of_decide_eq_true (by first | (with_reducible assumption) | assumption) : (ji31) ≤ (t280.size : Int))
                        replace H := Option.bind_eq_some_iff.mp H
                        obtain ⟨⟨t298, t299, t300, t301, t302⟩, A420, H⟩ := H
                        replace H : (if t280.size + 4 ≤ 9223372036854775807 then ((ticket_Open.f (t280 ++ (⟨#[65, 65, 65, 65]⟩ : ByteArray))).bind fun bt304 => (if (ji31) < (t280.size : Int) then (if a2 = (bt t280 (ji31)) then (if t302 = 12 then (racewaylaw27_TicketBack.j1 kj7 (bt304.2.2.2.2 != 12) t298 t299 t300 t301 bt304.1 bt304.2.1 bt304.2.2.1 bt304.2.2.2.1) else (racewaylaw27_TicketBack.j1 kj7 true t298 t299 t300 t301 bt304.1 bt304.2.1 bt304.2.2.1 bt304.2.2.2.1)) else (if t296 = 0 then (if (t292 == t276 && (t293.toList == t277.toList && (t294 == t278 && (t295 == t279)))) = true then (racewaylaw27_TicketBack.j1 kj7 true t298 t299 t300 t301 bt304.1 bt304.2.1 bt304.2.2.1 bt304.2.2.2.1) else (if t302 = 12 then (racewaylaw27_TicketBack.j1 kj7 (bt304.2.2.2.2 != 12) t298 t299 t300 t301 bt304.1 bt304.2.1 bt304.2.2.1 bt304.2.2.2.1) else (racewaylaw27_TicketBack.j1 kj7 true t298 t299 t300 t301 bt304.1 bt304.2.1 bt304.2.2.1 bt304.2.2.2.1))) else (if t302 = 12 then (racewaylaw27_TicketBack.j1 kj7 (bt304.2.2.2.2 != 12) t298 t299 t300 t301 bt304.1 bt304.2.1 bt304.2.2.1 bt304.2.2.2.1) else (racewaylaw27_TicketBack.j1 kj7 true t298 t299 t300 t301 bt304.1 bt304.2.1 bt304.2.2.1 bt304.2.2.2.1)))) else (none))) else (none)) = some r := H
                        have A42 := Aside0.mk A420
                        clear A420
                        by_cases c43 : t280.size + 4 ≤ 9223372036854775807
                        · rw [if_pos c43] at H
                          have c43b0 := eq_true c43
                          have c43b1 : decide (t280.size + 4 ≤ 9223372036854775807) = true := decide_eq_true c43
                          try have c43b2 : (9223372036854775807 < t280.size + 4) = False := eq_false (Nat.not_lt.2 c43)
                          replace H := Option.bind_eq_some_iff.mp H
                          obtain ⟨⟨t304, t305, t306, t307, t308⟩, A440, H⟩ := H
                          replace H : (if (ji31) < (t280.size : Int) then (if a2 = (bt t280 (ji31)) then (if t302 = 12 then (racewaylaw27_TicketBack.j1 kj7 (t308 != 12) t298 t299 t300 t301 t304 t305 t306 t307) else (racewaylaw27_TicketBack.j1 kj7 true t298 t299 t300 t301 t304 t305 t306 t307)) else (if t296 = 0 then (if (t292 == t276 && (t293.toList == t277.toList && (t294 == t278 && (t295 == t279)))) = true then (racewaylaw27_TicketBack.j1 kj7 true t298 t299 t300 t301 t304 t305 t306 t307) else (if t302 = 12 then (racewaylaw27_TicketBack.j1 kj7 (t308 != 12) t298 t299 t300 t301 t304 t305 t306 t307) else (racewaylaw27_TicketBack.j1 kj7 true t298 t299 t300 t301 t304 t305 t306 t307))) else (if t302 = 12 then (racewaylaw27_TicketBack.j1 kj7 (t308 != 12) t298 t299 t300 t301 t304 t305 t306 t307) else (racewaylaw27_TicketBack.j1 kj7 true t298 t299 t300 t301 t304 t305 t306 t307)))) else (none)) = some r := H
                          have A44 := Aside0.mk A440
                          clear A440
                          have HC45 := Aside0.mk H
                          clear H
                          try go_wp2
                          have n0_ := Aside0.mk (blk_drew BK275.out)
                          have n1_ := Aside0.mk (blk_drew BK288.out)
                          have n2_ := Aside0.mk (below_drew1 HB.out)
                          clear BK275
                          clear BK288
                          clear HB
                          have BK275 := n0_
                          have BK288 := n1_
                          have HB := n2_
                          clear n0_ n1_ n2_
                          refine start_ (n := 19) (S := fun w' => True) (ds := []) #[false, false, false, false, false, false, false, false, false, false, false, false, false, false, false, false, false, false, false] (by kernel_rfl) rfl rfl trivial (fun hHeld => ?_); refine with_tabW racewaylaw27_TicketBack.tab9 racewaylaw27_TicketBack.bits9 (fun HT_ HW_ => ?_)
                          generalize wc.drew = w46 at BK275 BK288 HB hHeld ⊢
                          refine pure_ (i := 0) (N := some 60) (v := ?_) (a' := ?_) #[true, false, false, false, false, false, false, false, false, false, false, false, false, false, false, false, false, false, false] rfl rfl (any_of HT_.out (by kernel_rfl)) (fun _ _ _ h => h) (Or.inl ⟨by rfl, ?_⟩) ?_ ?_
                          rotate_left
                          · intro w'
                            go_simp
                            with_reducible rfl
                          rotate_left
                          · simp only [Act.put, List.setIfInBounds_toArray, List.set_cons_zero, List.set_cons_succ, i64_w, i32_w]
                            rfl
                          refine pure_ (i := 1) (N := some 61) (v := ?_) (a' := ?_) #[true, true, false, false, false, false, false, false, false, false, false, false, false, false, false, false, false, false, false] rfl rfl (any_of HT_.out (by kernel_rfl)) (fun _ _ _ h => h) (Or.inl ⟨by rfl, ?_⟩) ?_ ?_
                          rotate_left
                          · intro w'
                            go_simp
                            with_reducible rfl
                          rotate_left
                          · simp only [Act.put, List.setIfInBounds_toArray, List.set_cons_zero, List.set_cons_succ, i64_w, i32_w]
                            rfl
                          refine pure_ (i := 2) (N := some 62) (v := ?_) (a' := ?_) #[true, true, true, false, false, false, false, false, false, false, false, false, false, false, false, false, false, false, false] rfl rfl (any_of HT_.out (by kernel_rfl)) (fun _ _ _ h => h) (Or.inl ⟨by rfl, ?_⟩) ?_ ?_
                          rotate_left
                          · intro w'
                            go_simp
                            with_reducible rfl
                          rotate_left
                          · simp only [Act.put, List.setIfInBounds_toArray, List.set_cons_zero, List.set_cons_succ, i64_w, i32_w]
                            rfl
                          refine pure_ (i := 3) (N := some 63) (v := ?_) (a' := ?_) #[true, true, true, true, false, false, false, false, false, false, false, false, false, false, false, false, false, false, false] rfl rfl (any_of HT_.out (by kernel_rfl)) (fun _ _ _ h => h) (Or.inl ⟨by rfl, ?_⟩) ?_ ?_
                          rotate_left
                          · intro w'
                            go_simp
                            with_reducible rfl
                          rotate_left
                          · simp only [Act.put, List.setIfInBounds_toArray, List.set_cons_zero, List.set_cons_succ, i64_w, i32_w]
                            rfl
                          refine pure_ (i := 7) (N := some 67) (v := ?_) (a' := ?_) #[true, true, true, true, false, false, false, true, false, false, false, false, false, false, false, false, false, false, false] rfl rfl (any_of HT_.out (by kernel_rfl)) (fun _ _ _ h => h) (Or.inl ⟨by rfl, ?_⟩) ?_ ?_
                          rotate_left
                          · intro w'
                            go_simp
                            with_reducible rfl
                          rotate_left
                          · simp only [Act.put, List.setIfInBounds_toArray, List.set_cons_zero, List.set_cons_succ, i64_w, i32_w]
                            rfl
                          refine pure_ (i := 8) (N := some 68) (v := ?_) (a' := ?_) #[true, true, true, true, false, false, false, true, true, false, false, false, false, false, false, false, false, false, false] rfl rfl (any_of HT_.out (by kernel_rfl)) (fun _ _ _ h => h) (Or.inl ⟨by rfl, ?_⟩) ?_ ?_
                          rotate_left
                          · intro w'
                            go_simp
                            with_reducible rfl
                          rotate_left
                          · simp only [Act.put, List.setIfInBounds_toArray, List.set_cons_zero, List.set_cons_succ, i64_w, i32_w]
                            rfl
                          refine pure_ (i := 9) (N := some 69) (v := ?_) (a' := ?_) #[true, true, true, true, false, false, false, true, true, true, false, false, false, false, false, false, false, false, false] rfl rfl (any_of HT_.out (by kernel_rfl)) (fun _ _ _ h => h) (Or.inl ⟨by rfl, ?_⟩) ?_ ?_
                          rotate_left
                          · intro w'
                            go_simp
                            with_reducible rfl
                          rotate_left
                          · simp only [Act.put, List.setIfInBounds_toArray, List.set_cons_zero, List.set_cons_succ, i64_w, i32_w]
                            rfl
                          refine pure_ (i := 10) (N := some 70) (v := ?_) (a' := ?_) #[true, true, true, true, false, false, false, true, true, true, true, false, false, false, false, false, false, false, false] rfl rfl (any_of HT_.out (by kernel_rfl)) (fun _ _ _ h => h) (Or.inl ⟨by rfl, ?_⟩) ?_ ?_
                          rotate_left
                          · intro w'
                            go_simp
                            with_reducible rfl
                          rotate_left
                          · simp only [Act.put, List.setIfInBounds_toArray, List.set_cons_zero, List.set_cons_succ, i64_w, i32_w]
                            rfl
                          refine join_ (σ := Value × Nat) 2 #[true, true, true, true, true, true, true, true, true, true, true, true, true, true, true, true, true, false, false] (fun s_ => [(64, s_.1), (65, .string (strOfNums y289)), (72, .tuple #[.agg #[.int .i64 t292, .string t293, .int .i64 t294, .int .i64 t295], .int .i64 t296]), (12, .pointer (some ⟨s_.2, 0, none⟩)), (66, .string ((t280.extract 0 ((ji31) : Int).toNat) ++ (strOfNums y289))), (71, .string (((t280.extract 0 ((ji31) : Int).toNat) ++ (strOfNums y289)) ++ (t280.extract ((ji35) : Int).toNat t280.size))), (59, .tuple #[.agg #[.int .i64 t292, .string t293, .int .i64 t294, .int .i64 t295], .int .i64 t296]), (73, .agg #[.int .i64 t292, .string t293, .int .i64 t294, .int .i64 t295]), (74, .int .i64 t296)]) (fun s_ w' => (Kd.R (Kd.int .u8) 5 w' w.heap.size (fun _ => True) s_.1 y289) ∧ (w'.heap[gb275]? = some (.cells #[.int .i64 t276, .string t277, .int .i64 t278, .int .i64 t279] 23 (0, 0))) ∧ (w'.heap[gb288]? = some (.cells #[.int .i64 t283, .string t284, .int .i64 t285, .int .i64 t286] 23 (0, 0))) ∧ (w'.heap[s_.2]? = some (.cells #[.int .i64 0, .string (⟨#[]⟩ : ByteArray), .int .i64 0, .int .i64 0] 23 (0, 0))) ∧ (w.heap.size ≤ s_.2) ∧ (w.heap.size ≤ s_.2) ∧ (gb275 ≠ s_.2) ∧ (s_.2 ≠ gb275) ∧ (gb288 ≠ s_.2) ∧ (s_.2 ≠ gb288) ∧ (Below w.heap.size w w')) ?_ ?_
                          rotate_left
                          · intro hCont
                            refine two_ (i := 4) (j := 16) (Ni := some 64) (Nj := some 12) #[true, true, true, true, true, false, false, true, true, true, true, false, false, false, false, false, false, false, false] #[true, true, true, true, false, false, false, true, true, true, true, false, false, false, false, false, true, false, false] rfl rfl rfl rfl (two_of HT_.out (by kernel_rfl)) (by decide) (by decide) (fun K hK => ?_) (fun K hK => ?_)
                            · skip
                              refine Kd.R_lit_step (Kd.int .u8) _ 5 ?hg (N := 64) ?hd (xs := ([a2] : List Int)) (inner := [.int .u8 a2]) (ok := fun _ => True) (okp := fun _ => True) ?hr ?hp (fun _ hk => hk) trivial (Below.refl _ _) (Nat.le_refl _) (by simp) ?_; (case hd => rfl); (case hg => rfl); (case hr => first | (go_simp; done) | (go_simp; rfl)); (case hp => exact (Reps.one (show Kd.M (Kd.int .u8) _ _ _ a2 [.int .u8 a2] from rfl) (Reps.none _ _)))
                              intro v290 w47 ho48 hb hg_ hnew_
                              clear hg_ hnew_
                              (first | rw [← Ny289.out] at ho48 | (simp only [Int.reduceToNat] at ho48; rw [← Ny289.out] at ho48))
                              have n0_ := Aside0.mk (Kd.R_lower ho48 (below_size (by repeat (first | (with_reducible first | exact HB.out | apply below_alloc | apply pw_below_drewN | apply below_drew1 | refine below_set ?_ GE275.out | refine below_set ?_ GE288.out) | exact HB.out))))
                              have n1_ := Aside0.mk (blk_below (g := gb275) (o := .cells #[.int .i64 t276, .string t277, .int .i64 t278, .int .i64 t279] 23 (0, 0)) (by (with_reducible repeat (first | refine blk_drewN ?_ _ | refine blk_drew ?_ | refine blk_alloc ?_ _)); exact BK275.out) hb)
                              have n2_ := Aside0.mk (blk_below (g := gb288) (o := .cells #[.int .i64 t283, .string t284, .int .i64 t285, .int .i64 t286] 23 (0, 0)) (by (with_reducible repeat (first | refine blk_drewN ?_ _ | refine blk_drew ?_ | refine blk_alloc ?_ _)); exact BK288.out) hb)
                              have n3_ := Aside0.mk (below_step (by repeat (first | (with_reducible first | exact HB.out | apply below_alloc | apply pw_below_drewN | apply below_drew1 | refine below_set ?_ GE275.out | refine below_set ?_ GE288.out) | exact HB.out)) hb)
                              clear BK275
                              clear BK288
                              clear HB
                              have HO291 := n0_
                              have BK275 := n1_
                              have BK288 := n2_
                              have HB := n3_
                              clear n0_ n1_ n2_ n3_
                              clear hb ho48
                              refine hK.out _ _ trivial (fun hHeld => ?_)
                              clear hK K
                              refine norm_ (a' := ?_) ?_ ?_
                              rotate_left
                              · show Act.put _ (some 64) _ = _
                                simp only [Act.put, List.setIfInBounds_toArray, List.set_cons_zero, List.set_cons_succ, i64_w, i32_w]
                                rfl
                              refine two_ (i := 5) (j := 16) (Ni := some 65) (Nj := some 12) #[true, true, true, true, true, true, false, true, true, true, true, false, false, false, false, false, false, false, false] #[true, true, true, true, true, false, false, true, true, true, true, false, false, false, false, false, true, false, false] rfl rfl rfl rfl (two_of HT_.out (by kernel_rfl)) (by decide) (by decide) (fun K hK => ?_) (fun K hK => ?_)
                              · skip
                                have hcv49 := own_string (P := Tryd.prog) Tryd.underlying36 Tryd.underlying5 Tryd.underlying9 (Kd.own_of_R HO291.out)
                                refine value_ (w1 := ?_) (v := ?_) (by rfl) rfl ?_ ?_
                                rotate_left 2
                                · go_simp
                                  constructor
                                  · rfl
                                  · rfl
                                clear hcv49
                                refine hK.out _ _ trivial (fun hHeld => ?_)
                                clear hK K
                                refine norm_ (a' := ?_) ?_ ?_
                                rotate_left
                                · show Act.put _ (some 65) _ = _
                                  simp only [Act.put, List.setIfInBounds_toArray, List.set_cons_zero, List.set_cons_succ, i64_w, i32_w]
                                  rfl
                                refine pure_ (i := 6) (N := some 66) (v := ?_) (a' := ?_) #[true, true, true, true, true, true, true, true, true, true, true, false, false, false, false, false, false, false, false] rfl rfl (any_of HT_.out (by kernel_rfl)) (fun _ _ _ h => h) (Or.inl ⟨by rfl, ?_⟩) ?_ ?_
                                rotate_left
                                · intro w'
                                  go_simp
                                  with_reducible rfl
                                rotate_left
                                · simp only [Act.put, List.setIfInBounds_toArray, List.set_cons_zero, List.set_cons_succ, i64_w, i32_w]
                                  rfl
                                refine pure_ (i := 11) (N := some 71) (v := ?_) (a' := ?_) #[true, true, true, true, true, true, true, true, true, true, true, true, false, false, false, false, false, false, false] rfl rfl (any_of HT_.out (by kernel_rfl)) (fun _ _ _ h => h) (Or.inl ⟨by rfl, ?_⟩) ?_ ?_
                                rotate_left
                                · intro w'
                                  go_simp
                                  with_reducible rfl
                                rotate_left
                                · simp only [Act.put, List.setIfInBounds_toArray, List.set_cons_zero, List.set_cons_succ, i64_w, i32_w]
                                  rfl
                                refine two_ (i := 12) (j := 16) (Ni := some 72) (Nj := some 12) #[true, true, true, true, true, true, true, true, true, true, true, true, true, false, false, false, false, false, false] #[true, true, true, true, true, true, true, true, true, true, true, true, false, false, false, false, true, false, false] rfl rfl rfl rfl (two_of HT_.out (by kernel_rfl)) (by decide) (by decide) (fun K hK => ?_) (fun K hK => ?_)
                                · skip
                                  refine goes_ Tryd.func9 (by kernel_rfl) rfl #[.string (((t280.extract 0 ((ji31) : Int).toNat) ++ (strOfNums y289)) ++ (t280.extract ((ji35) : Int).toNat t280.size))] (by rfl) rfl rfl (by (try simp only [List.map_toArray, List.map_cons, List.map_nil]); first | done | (simp only [hji31, hji35]; rfl) | rfl | (simp only [List.length_drop, List.length_take]; rfl)) ?_
                                  with_reducible refine Calls.mono (ticket_Open.callsT (((t280.extract 0 ((ji31) : Int).toNat) ++ (strOfNums y289)) ++ (t280.extract ((ji35) : Int).toNat t280.size)) t292 t293 t294 t295 t296 _ ?_ A39.out) ?_
                                  focus exact HTG.out.below (by repeat (first | (with_reducible first | exact HB.out | apply below_alloc | apply pw_below_drewN | apply below_drew1 | refine below_set ?_ GE275.out | refine below_set ?_ GE288.out) | exact HB.out))
                                  rintro e w50 ⟨rfl, hb⟩
                                  refine ⟨_, rfl, ?_⟩
                                  have n0_ := Aside0.mk (Kd.R_below (by (with_reducible repeat (first | apply Kd.R_alloc | apply Kd.R_drewN | apply Kd.R_drew)); exact HO291.out) hb)
                                  have n1_ := Aside0.mk (blk_below (g := gb275) (o := .cells #[.int .i64 t276, .string t277, .int .i64 t278, .int .i64 t279] 23 (0, 0)) (by (with_reducible repeat (first | refine blk_drewN ?_ _ | refine blk_drew ?_ | refine blk_alloc ?_ _)); exact BK275.out) hb)
                                  have n2_ := Aside0.mk (blk_below (g := gb288) (o := .cells #[.int .i64 t283, .string t284, .int .i64 t285, .int .i64 t286] 23 (0, 0)) (by (with_reducible repeat (first | refine blk_drewN ?_ _ | refine blk_drew ?_ | refine blk_alloc ?_ _)); exact BK288.out) hb)
                                  have n3_ := Aside0.mk (below_step (by repeat (first | (with_reducible first | exact HB.out | apply below_alloc | apply pw_below_drewN | apply below_drew1 | refine below_set ?_ GE275.out | refine below_set ?_ GE288.out) | exact HB.out)) hb)
                                  clear HO291
                                  clear BK275
                                  clear BK288
                                  clear HB
                                  have HO291 := n0_
                                  have BK275 := n1_
                                  have BK288 := n2_
                                  have HB := n3_
                                  clear n0_ n1_ n2_ n3_
                                  (try clear hb)
                                  (try clear hb2)
                                  (try clear hk)
                                  (try clear hi)
                                  refine hK.out _ _ trivial (fun hHeld => ?_)
                                  clear hK K
                                  refine norm_ (a' := ?_) ?_ ?_
                                  rotate_left
                                  · show Act.put _ (some 72) _ = _
                                    simp only [Act.put, List.setIfInBounds_toArray, List.set_cons_zero, List.set_cons_succ, i64_w, i32_w]
                                    rfl
                                  refine pure_ (i := 13) (N := some 59) (v := ?_) (a' := ?_) #[true, true, true, true, true, true, true, true, true, true, true, true, true, true, false, false, false, false, false] rfl rfl (any_of HT_.out (by kernel_rfl)) (fun _ _ _ h => h) (Or.inl ⟨by rfl, ?_⟩) ?_ ?_
                                  rotate_left
                                  · intro w'
                                    go_simp
                                    with_reducible rfl
                                  rotate_left
                                  · simp only [Act.put, List.setIfInBounds_toArray, List.set_cons_zero, List.set_cons_succ, i64_w, i32_w]
                                    rfl
                                  refine pure_ (i := 14) (N := some 73) (v := ?_) (a' := ?_) #[true, true, true, true, true, true, true, true, true, true, true, true, true, true, true, false, false, false, false] rfl rfl (any_of HT_.out (by kernel_rfl)) (fun _ _ _ h => h) (Or.inl ⟨by rfl, ?_⟩) ?_ ?_
                                  rotate_left
                                  · intro w'
                                    go_simp
                                    with_reducible rfl
                                  rotate_left
                                  · simp only [Act.put, List.setIfInBounds_toArray, List.set_cons_zero, List.set_cons_succ, i64_w, i32_w]
                                    rfl
                                  refine pure_ (i := 15) (N := some 74) (v := ?_) (a' := ?_) #[true, true, true, true, true, true, true, true, true, true, true, true, true, true, true, true, false, false, false] rfl rfl (any_of HT_.out (by kernel_rfl)) (fun _ _ _ h => h) (Or.inl ⟨by rfl, ?_⟩) ?_ ?_
                                  rotate_left
                                  · intro w'
                                    go_simp
                                    with_reducible rfl
                                  rotate_left
                                  · simp only [Act.put, List.setIfInBounds_toArray, List.set_cons_zero, List.set_cons_succ, i64_w, i32_w]
                                    rfl
                                  refine one_ (i := 16) (N := some 12) #[true, true, true, true, true, true, true, true, true, true, true, true, true, true, true, true, true, false, false] rfl rfl (one_of HT_.out (by kernel_rfl)) (by decide) (fun K hK => ?_)
                                  refine box_step ?hg (N := 12) ?hd (cs := #[.int .i64 0, .string (⟨#[]⟩ : ByteArray), .int .i64 0, .int .i64 0]) (t := 23) ?hr ?_; (case hd => rfl); (case hg => rfl); (case hr => first | (go_simp; done) | (go_simp; rfl))
                                  intro gb297 hg w51 hbox hb
                                  have n0_ := Aside0.mk (Kd.R_below (by (with_reducible repeat (first | apply Kd.R_alloc | apply Kd.R_drewN | apply Kd.R_drew)); exact HO291.out) hb)
                                  have n1_ := Aside0.mk (blk_below (g := gb275) (o := .cells #[.int .i64 t276, .string t277, .int .i64 t278, .int .i64 t279] 23 (0, 0)) (by (with_reducible repeat (first | refine blk_drewN ?_ _ | refine blk_drew ?_ | refine blk_alloc ?_ _)); exact BK275.out) hb)
                                  have n2_ := Aside0.mk (blk_below (g := gb288) (o := .cells #[.int .i64 t283, .string t284, .int .i64 t285, .int .i64 t286] 23 (0, 0)) (by (with_reducible repeat (first | refine blk_drewN ?_ _ | refine blk_drew ?_ | refine blk_alloc ?_ _)); exact BK288.out) hb)
                                  have n3_ := Aside0.mk (below_step (by repeat (first | (with_reducible first | exact HB.out | apply below_alloc | apply pw_below_drewN | apply below_drew1 | refine below_set ?_ GE275.out | refine below_set ?_ GE288.out) | exact HB.out)) hb)
                                  have n4_ := Aside0.mk (hbox)
                                  have n5_ := Aside0.mk ((by rw [hg]; exact (below_size (by repeat (first | (with_reducible first | exact HB.out | apply below_alloc | apply pw_below_drewN | apply below_drew1 | refine below_set ?_ GE275.out | refine below_set ?_ GE288.out) | exact HB.out))) : w.heap.size ≤ gb297))
                                  have n6_ := Aside0.mk ((by rw [hg]; exact (below_size (by repeat (first | (with_reducible first | exact HB.out | apply below_alloc | apply pw_below_drewN | apply below_drew1 | refine below_set ?_ GE275.out | refine below_set ?_ GE288.out) | exact HB.out))) : w.heap.size ≤ gb297))
                                  have n7_ := Aside0.mk ((by rw [hg]; exact Nat.ne_of_lt (blk_lt (g := gb275) (o := .cells #[.int .i64 t276, .string t277, .int .i64 t278, .int .i64 t279] 23 (0, 0)) (by (with_reducible repeat (first | refine blk_drewN ?_ _ | refine blk_drew ?_ | refine blk_alloc ?_ _)); exact BK275.out)) : gb275 ≠ gb297))
                                  have n8_ := Aside0.mk ((by rw [hg]; exact Nat.ne_of_gt (blk_lt (g := gb275) (o := .cells #[.int .i64 t276, .string t277, .int .i64 t278, .int .i64 t279] 23 (0, 0)) (by (with_reducible repeat (first | refine blk_drewN ?_ _ | refine blk_drew ?_ | refine blk_alloc ?_ _)); exact BK275.out)) : gb297 ≠ gb275))
                                  have n9_ := Aside0.mk ((by rw [hg]; exact Nat.ne_of_lt (blk_lt (g := gb288) (o := .cells #[.int .i64 t283, .string t284, .int .i64 t285, .int .i64 t286] 23 (0, 0)) (by (with_reducible repeat (first | refine blk_drewN ?_ _ | refine blk_drew ?_ | refine blk_alloc ?_ _)); exact BK288.out)) : gb288 ≠ gb297))
                                  have n10_ := Aside0.mk ((by rw [hg]; exact Nat.ne_of_gt (blk_lt (g := gb288) (o := .cells #[.int .i64 t283, .string t284, .int .i64 t285, .int .i64 t286] 23 (0, 0)) (by (with_reducible repeat (first | refine blk_drewN ?_ _ | refine blk_drew ?_ | refine blk_alloc ?_ _)); exact BK288.out)) : gb297 ≠ gb288))
                                  clear HO291
                                  clear BK275
                                  clear BK288
                                  clear HB
                                  have HO291 := n0_
                                  have BK275 := n1_
                                  have BK288 := n2_
                                  have HB := n3_
                                  have BK297 := n4_
                                  have GW297 := n5_
                                  have GE297 := n6_
                                  have NB275_297 := n7_
                                  have NB297_275 := n8_
                                  have NB288_297 := n9_
                                  have NB297_288 := n10_
                                  clear n0_ n1_ n2_ n3_ n4_ n5_ n6_ n7_ n8_ n9_ n10_
                                  clear hb hbox hg
                                  refine hK.out _ _ trivial (fun hHeld => ?_)
                                  clear hK K
                                  refine norm_ (a' := ?_) ?_ ?_
                                  rotate_left
                                  · show Act.put _ (some 12) _ = _
                                    simp only [Act.put, List.setIfInBounds_toArray, List.set_cons_zero, List.set_cons_succ, i64_w, i32_w]
                                    rfl
                                  exact norm_ (by simp only [putAll, Act.put, List.setIfInBounds_toArray, List.set_cons_zero, List.set_cons_succ]) (hCont (v290, gb297) _ ⟨(by (with_reducible repeat (first | apply Kd.R_alloc | apply Kd.R_drewN | apply Kd.R_drew)); exact HO291.out), (by (with_reducible repeat (first | refine blk_drewN ?_ _ | refine blk_drew ?_ | refine blk_alloc ?_ _)); exact BK275.out), (by (with_reducible repeat (first | refine blk_drewN ?_ _ | refine blk_drew ?_ | refine blk_alloc ?_ _)); exact BK288.out), (by (with_reducible repeat (first | refine blk_drewN ?_ _ | refine blk_drew ?_ | refine blk_alloc ?_ _)); exact BK297.out), GW297.out, GE297.out, NB275_297.out, NB297_275.out, NB288_297.out, NB297_288.out, (by repeat (first | (with_reducible first | exact HB.out | apply below_alloc | apply pw_below_drewN | apply below_drew1 | refine below_set ?_ GE275.out | refine below_set ?_ GE288.out | refine below_set ?_ GE297.out) | exact HB.out))⟩)
                                · skip
                                  refine box_step ?hg (N := 12) ?hd (cs := #[.int .i64 0, .string (⟨#[]⟩ : ByteArray), .int .i64 0, .int .i64 0]) (t := 23) ?hr ?_; (case hd => rfl); (case hg => rfl); (case hr => first | (go_simp; done) | (go_simp; rfl))
                                  intro gb297 hg w50 hbox hb
                                  have n0_ := Aside0.mk (Kd.R_below (by (with_reducible repeat (first | apply Kd.R_alloc | apply Kd.R_drewN | apply Kd.R_drew)); exact HO291.out) hb)
                                  have n1_ := Aside0.mk (blk_below (g := gb275) (o := .cells #[.int .i64 t276, .string t277, .int .i64 t278, .int .i64 t279] 23 (0, 0)) (by (with_reducible repeat (first | refine blk_drewN ?_ _ | refine blk_drew ?_ | refine blk_alloc ?_ _)); exact BK275.out) hb)
                                  have n2_ := Aside0.mk (blk_below (g := gb288) (o := .cells #[.int .i64 t283, .string t284, .int .i64 t285, .int .i64 t286] 23 (0, 0)) (by (with_reducible repeat (first | refine blk_drewN ?_ _ | refine blk_drew ?_ | refine blk_alloc ?_ _)); exact BK288.out) hb)
                                  have n3_ := Aside0.mk (below_step (by repeat (first | (with_reducible first | exact HB.out | apply below_alloc | apply pw_below_drewN | apply below_drew1 | refine below_set ?_ GE275.out | refine below_set ?_ GE288.out) | exact HB.out)) hb)
                                  have n4_ := Aside0.mk (hbox)
                                  have n5_ := Aside0.mk ((by rw [hg]; exact (below_size (by repeat (first | (with_reducible first | exact HB.out | apply below_alloc | apply pw_below_drewN | apply below_drew1 | refine below_set ?_ GE275.out | refine below_set ?_ GE288.out) | exact HB.out))) : w.heap.size ≤ gb297))
                                  have n6_ := Aside0.mk ((by rw [hg]; exact (below_size (by repeat (first | (with_reducible first | exact HB.out | apply below_alloc | apply pw_below_drewN | apply below_drew1 | refine below_set ?_ GE275.out | refine below_set ?_ GE288.out) | exact HB.out))) : w.heap.size ≤ gb297))
                                  have n7_ := Aside0.mk ((by rw [hg]; exact Nat.ne_of_lt (blk_lt (g := gb275) (o := .cells #[.int .i64 t276, .string t277, .int .i64 t278, .int .i64 t279] 23 (0, 0)) (by (with_reducible repeat (first | refine blk_drewN ?_ _ | refine blk_drew ?_ | refine blk_alloc ?_ _)); exact BK275.out)) : gb275 ≠ gb297))
                                  have n8_ := Aside0.mk ((by rw [hg]; exact Nat.ne_of_gt (blk_lt (g := gb275) (o := .cells #[.int .i64 t276, .string t277, .int .i64 t278, .int .i64 t279] 23 (0, 0)) (by (with_reducible repeat (first | refine blk_drewN ?_ _ | refine blk_drew ?_ | refine blk_alloc ?_ _)); exact BK275.out)) : gb297 ≠ gb275))
                                  have n9_ := Aside0.mk ((by rw [hg]; exact Nat.ne_of_lt (blk_lt (g := gb288) (o := .cells #[.int .i64 t283, .string t284, .int .i64 t285, .int .i64 t286] 23 (0, 0)) (by (with_reducible repeat (first | refine blk_drewN ?_ _ | refine blk_drew ?_ | refine blk_alloc ?_ _)); exact BK288.out)) : gb288 ≠ gb297))
                                  have n10_ := Aside0.mk ((by rw [hg]; exact Nat.ne_of_gt (blk_lt (g := gb288) (o := .cells #[.int .i64 t283, .string t284, .int .i64 t285, .int .i64 t286] 23 (0, 0)) (by (with_reducible repeat (first | refine blk_drewN ?_ _ | refine blk_drew ?_ | refine blk_alloc ?_ _)); exact BK288.out)) : gb297 ≠ gb288))
                                  clear HO291
                                  clear BK275
                                  clear BK288
                                  clear HB
                                  have HO291 := n0_
                                  have BK275 := n1_
                                  have BK288 := n2_
                                  have HB := n3_
                                  have BK297 := n4_
                                  have GW297 := n5_
                                  have GE297 := n6_
                                  have NB275_297 := n7_
                                  have NB297_275 := n8_
                                  have NB288_297 := n9_
                                  have NB297_288 := n10_
                                  clear n0_ n1_ n2_ n3_ n4_ n5_ n6_ n7_ n8_ n9_ n10_
                                  clear hb hbox hg
                                  refine hK.out _ _ trivial (fun hHeld => ?_)
                                  clear hK K
                                  refine norm_ (a' := ?_) ?_ ?_
                                  rotate_left
                                  · show Act.put _ (some 12) _ = _
                                    simp only [Act.put, List.setIfInBounds_toArray, List.set_cons_zero, List.set_cons_succ, i64_w, i32_w]
                                    rfl
                                  refine one_ (i := 12) (N := some 72) #[true, true, true, true, true, true, true, true, true, true, true, true, true, false, false, false, true, false, false] rfl rfl (one_of HT_.out (by kernel_rfl)) (by decide) (fun K hK => ?_)
                                  refine goes_ Tryd.func9 (by kernel_rfl) rfl #[.string (((t280.extract 0 ((ji31) : Int).toNat) ++ (strOfNums y289)) ++ (t280.extract ((ji35) : Int).toNat t280.size))] (by rfl) rfl rfl (by (try simp only [List.map_toArray, List.map_cons, List.map_nil]); first | done | (simp only [hji31, hji35]; rfl) | rfl | (simp only [List.length_drop, List.length_take]; rfl)) ?_
                                  with_reducible refine Calls.mono (ticket_Open.callsT (((t280.extract 0 ((ji31) : Int).toNat) ++ (strOfNums y289)) ++ (t280.extract ((ji35) : Int).toNat t280.size)) t292 t293 t294 t295 t296 _ ?_ A39.out) ?_
                                  focus exact HTG.out.below (by repeat (first | (with_reducible first | exact HB.out | apply below_alloc | apply pw_below_drewN | apply below_drew1 | refine below_set ?_ GE275.out | refine below_set ?_ GE288.out | refine below_set ?_ GE297.out) | exact HB.out))
                                  rintro e w51 ⟨rfl, hb⟩
                                  refine ⟨_, rfl, ?_⟩
                                  have n0_ := Aside0.mk (Kd.R_below (by (with_reducible repeat (first | apply Kd.R_alloc | apply Kd.R_drewN | apply Kd.R_drew)); exact HO291.out) hb)
                                  have n1_ := Aside0.mk (blk_below (g := gb275) (o := .cells #[.int .i64 t276, .string t277, .int .i64 t278, .int .i64 t279] 23 (0, 0)) (by (with_reducible repeat (first | refine blk_drewN ?_ _ | refine blk_drew ?_ | refine blk_alloc ?_ _)); exact BK275.out) hb)
                                  have n2_ := Aside0.mk (blk_below (g := gb288) (o := .cells #[.int .i64 t283, .string t284, .int .i64 t285, .int .i64 t286] 23 (0, 0)) (by (with_reducible repeat (first | refine blk_drewN ?_ _ | refine blk_drew ?_ | refine blk_alloc ?_ _)); exact BK288.out) hb)
                                  have n3_ := Aside0.mk (blk_below (g := gb297) (o := .cells #[.int .i64 0, .string (⟨#[]⟩ : ByteArray), .int .i64 0, .int .i64 0] 23 (0, 0)) (by (with_reducible repeat (first | refine blk_drewN ?_ _ | refine blk_drew ?_ | refine blk_alloc ?_ _)); exact BK297.out) hb)
                                  have n4_ := Aside0.mk (below_step (by repeat (first | (with_reducible first | exact HB.out | apply below_alloc | apply pw_below_drewN | apply below_drew1 | refine below_set ?_ GE275.out | refine below_set ?_ GE288.out | refine below_set ?_ GE297.out) | exact HB.out)) hb)
                                  clear HO291
                                  clear BK275
                                  clear BK288
                                  clear BK297
                                  clear HB
                                  have HO291 := n0_
                                  have BK275 := n1_
                                  have BK288 := n2_
                                  have BK297 := n3_
                                  have HB := n4_
                                  clear n0_ n1_ n2_ n3_ n4_
                                  (try clear hb)
                                  (try clear hb2)
                                  (try clear hk)
                                  (try clear hi)
                                  refine hK.out _ _ trivial (fun hHeld => ?_)
                                  clear hK K
                                  refine norm_ (a' := ?_) ?_ ?_
                                  rotate_left
                                  · show Act.put _ (some 72) _ = _
                                    simp only [Act.put, List.setIfInBounds_toArray, List.set_cons_zero, List.set_cons_succ, i64_w, i32_w]
                                    rfl
                                  refine pure_ (i := 13) (N := some 59) (v := ?_) (a' := ?_) #[true, true, true, true, true, true, true, true, true, true, true, true, true, true, false, false, true, false, false] rfl rfl (any_of HT_.out (by kernel_rfl)) (fun _ _ _ h => h) (Or.inl ⟨by rfl, ?_⟩) ?_ ?_
                                  rotate_left
                                  · intro w'
                                    go_simp
                                    with_reducible rfl
                                  rotate_left
                                  · simp only [Act.put, List.setIfInBounds_toArray, List.set_cons_zero, List.set_cons_succ, i64_w, i32_w]
                                    rfl
                                  refine pure_ (i := 14) (N := some 73) (v := ?_) (a' := ?_) #[true, true, true, true, true, true, true, true, true, true, true, true, true, true, true, false, true, false, false] rfl rfl (any_of HT_.out (by kernel_rfl)) (fun _ _ _ h => h) (Or.inl ⟨by rfl, ?_⟩) ?_ ?_
                                  rotate_left
                                  · intro w'
                                    go_simp
                                    with_reducible rfl
                                  rotate_left
                                  · simp only [Act.put, List.setIfInBounds_toArray, List.set_cons_zero, List.set_cons_succ, i64_w, i32_w]
                                    rfl
                                  refine pure_ (i := 15) (N := some 74) (v := ?_) (a' := ?_) #[true, true, true, true, true, true, true, true, true, true, true, true, true, true, true, true, true, false, false] rfl rfl (any_of HT_.out (by kernel_rfl)) (fun _ _ _ h => h) (Or.inl ⟨by rfl, ?_⟩) ?_ ?_
                                  rotate_left
                                  · intro w'
                                    go_simp
                                    with_reducible rfl
                                  rotate_left
                                  · simp only [Act.put, List.setIfInBounds_toArray, List.set_cons_zero, List.set_cons_succ, i64_w, i32_w]
                                    rfl
                                  exact norm_ (by simp only [putAll, Act.put, List.setIfInBounds_toArray, List.set_cons_zero, List.set_cons_succ]) (hCont (v290, gb297) _ ⟨(by (with_reducible repeat (first | apply Kd.R_alloc | apply Kd.R_drewN | apply Kd.R_drew)); exact HO291.out), (by (with_reducible repeat (first | refine blk_drewN ?_ _ | refine blk_drew ?_ | refine blk_alloc ?_ _)); exact BK275.out), (by (with_reducible repeat (first | refine blk_drewN ?_ _ | refine blk_drew ?_ | refine blk_alloc ?_ _)); exact BK288.out), (by (with_reducible repeat (first | refine blk_drewN ?_ _ | refine blk_drew ?_ | refine blk_alloc ?_ _)); exact BK297.out), GW297.out, GE297.out, NB275_297.out, NB297_275.out, NB288_297.out, NB297_288.out, (by repeat (first | (with_reducible first | exact HB.out | apply below_alloc | apply pw_below_drewN | apply below_drew1 | refine below_set ?_ GE275.out | refine below_set ?_ GE288.out | refine below_set ?_ GE297.out) | exact HB.out))⟩)
                              · skip
                                refine box_step ?hg (N := 12) ?hd (cs := #[.int .i64 0, .string (⟨#[]⟩ : ByteArray), .int .i64 0, .int .i64 0]) (t := 23) ?hr ?_; (case hd => rfl); (case hg => rfl); (case hr => first | (go_simp; done) | (go_simp; rfl))
                                intro gb297 hg w49 hbox hb
                                have n0_ := Aside0.mk (Kd.R_below (by (with_reducible repeat (first | apply Kd.R_alloc | apply Kd.R_drewN | apply Kd.R_drew)); exact HO291.out) hb)
                                have n1_ := Aside0.mk (blk_below (g := gb275) (o := .cells #[.int .i64 t276, .string t277, .int .i64 t278, .int .i64 t279] 23 (0, 0)) (by (with_reducible repeat (first | refine blk_drewN ?_ _ | refine blk_drew ?_ | refine blk_alloc ?_ _)); exact BK275.out) hb)
                                have n2_ := Aside0.mk (blk_below (g := gb288) (o := .cells #[.int .i64 t283, .string t284, .int .i64 t285, .int .i64 t286] 23 (0, 0)) (by (with_reducible repeat (first | refine blk_drewN ?_ _ | refine blk_drew ?_ | refine blk_alloc ?_ _)); exact BK288.out) hb)
                                have n3_ := Aside0.mk (below_step (by repeat (first | (with_reducible first | exact HB.out | apply below_alloc | apply pw_below_drewN | apply below_drew1 | refine below_set ?_ GE275.out | refine below_set ?_ GE288.out) | exact HB.out)) hb)
                                have n4_ := Aside0.mk (hbox)
                                have n5_ := Aside0.mk ((by rw [hg]; exact (below_size (by repeat (first | (with_reducible first | exact HB.out | apply below_alloc | apply pw_below_drewN | apply below_drew1 | refine below_set ?_ GE275.out | refine below_set ?_ GE288.out) | exact HB.out))) : w.heap.size ≤ gb297))
                                have n6_ := Aside0.mk ((by rw [hg]; exact (below_size (by repeat (first | (with_reducible first | exact HB.out | apply below_alloc | apply pw_below_drewN | apply below_drew1 | refine below_set ?_ GE275.out | refine below_set ?_ GE288.out) | exact HB.out))) : w.heap.size ≤ gb297))
                                have n7_ := Aside0.mk ((by rw [hg]; exact Nat.ne_of_lt (blk_lt (g := gb275) (o := .cells #[.int .i64 t276, .string t277, .int .i64 t278, .int .i64 t279] 23 (0, 0)) (by (with_reducible repeat (first | refine blk_drewN ?_ _ | refine blk_drew ?_ | refine blk_alloc ?_ _)); exact BK275.out)) : gb275 ≠ gb297))
                                have n8_ := Aside0.mk ((by rw [hg]; exact Nat.ne_of_gt (blk_lt (g := gb275) (o := .cells #[.int .i64 t276, .string t277, .int .i64 t278, .int .i64 t279] 23 (0, 0)) (by (with_reducible repeat (first | refine blk_drewN ?_ _ | refine blk_drew ?_ | refine blk_alloc ?_ _)); exact BK275.out)) : gb297 ≠ gb275))
                                have n9_ := Aside0.mk ((by rw [hg]; exact Nat.ne_of_lt (blk_lt (g := gb288) (o := .cells #[.int .i64 t283, .string t284, .int .i64 t285, .int .i64 t286] 23 (0, 0)) (by (with_reducible repeat (first | refine blk_drewN ?_ _ | refine blk_drew ?_ | refine blk_alloc ?_ _)); exact BK288.out)) : gb288 ≠ gb297))
                                have n10_ := Aside0.mk ((by rw [hg]; exact Nat.ne_of_gt (blk_lt (g := gb288) (o := .cells #[.int .i64 t283, .string t284, .int .i64 t285, .int .i64 t286] 23 (0, 0)) (by (with_reducible repeat (first | refine blk_drewN ?_ _ | refine blk_drew ?_ | refine blk_alloc ?_ _)); exact BK288.out)) : gb297 ≠ gb288))
                                clear HO291
                                clear BK275
                                clear BK288
                                clear HB
                                have HO291 := n0_
                                have BK275 := n1_
                                have BK288 := n2_
                                have HB := n3_
                                have BK297 := n4_
                                have GW297 := n5_
                                have GE297 := n6_
                                have NB275_297 := n7_
                                have NB297_275 := n8_
                                have NB288_297 := n9_
                                have NB297_288 := n10_
                                clear n0_ n1_ n2_ n3_ n4_ n5_ n6_ n7_ n8_ n9_ n10_
                                clear hb hbox hg
                                refine hK.out _ _ trivial (fun hHeld => ?_)
                                clear hK K
                                refine norm_ (a' := ?_) ?_ ?_
                                rotate_left
                                · show Act.put _ (some 12) _ = _
                                  simp only [Act.put, List.setIfInBounds_toArray, List.set_cons_zero, List.set_cons_succ, i64_w, i32_w]
                                  rfl
                                refine one_ (i := 5) (N := some 65) #[true, true, true, true, true, true, false, true, true, true, true, false, false, false, false, false, true, false, false] rfl rfl (one_of HT_.out (by kernel_rfl)) (by decide) (fun K hK => ?_)
                                have hcv50 := own_string (P := Tryd.prog) Tryd.underlying36 Tryd.underlying5 Tryd.underlying9 (Kd.own_of_R HO291.out)
                                refine value_ (w1 := ?_) (v := ?_) (by rfl) rfl ?_ ?_
                                rotate_left 2
                                · go_simp
                                  constructor
                                  · rfl
                                  · rfl
                                clear hcv50
                                refine hK.out _ _ trivial (fun hHeld => ?_)
                                clear hK K
                                refine norm_ (a' := ?_) ?_ ?_
                                rotate_left
                                · show Act.put _ (some 65) _ = _
                                  simp only [Act.put, List.setIfInBounds_toArray, List.set_cons_zero, List.set_cons_succ, i64_w, i32_w]
                                  rfl
                                refine pure_ (i := 6) (N := some 66) (v := ?_) (a' := ?_) #[true, true, true, true, true, true, true, true, true, true, true, false, false, false, false, false, true, false, false] rfl rfl (any_of HT_.out (by kernel_rfl)) (fun _ _ _ h => h) (Or.inl ⟨by rfl, ?_⟩) ?_ ?_
                                rotate_left
                                · intro w'
                                  go_simp
                                  with_reducible rfl
                                rotate_left
                                · simp only [Act.put, List.setIfInBounds_toArray, List.set_cons_zero, List.set_cons_succ, i64_w, i32_w]
                                  rfl
                                refine pure_ (i := 11) (N := some 71) (v := ?_) (a' := ?_) #[true, true, true, true, true, true, true, true, true, true, true, true, false, false, false, false, true, false, false] rfl rfl (any_of HT_.out (by kernel_rfl)) (fun _ _ _ h => h) (Or.inl ⟨by rfl, ?_⟩) ?_ ?_
                                rotate_left
                                · intro w'
                                  go_simp
                                  with_reducible rfl
                                rotate_left
                                · simp only [Act.put, List.setIfInBounds_toArray, List.set_cons_zero, List.set_cons_succ, i64_w, i32_w]
                                  rfl
                                refine one_ (i := 12) (N := some 72) #[true, true, true, true, true, true, true, true, true, true, true, true, true, false, false, false, true, false, false] rfl rfl (one_of HT_.out (by kernel_rfl)) (by decide) (fun K hK => ?_)
                                refine goes_ Tryd.func9 (by kernel_rfl) rfl #[.string (((t280.extract 0 ((ji31) : Int).toNat) ++ (strOfNums y289)) ++ (t280.extract ((ji35) : Int).toNat t280.size))] (by rfl) rfl rfl (by (try simp only [List.map_toArray, List.map_cons, List.map_nil]); first | done | (simp only [hji31, hji35]; rfl) | rfl | (simp only [List.length_drop, List.length_take]; rfl)) ?_
                                with_reducible refine Calls.mono (ticket_Open.callsT (((t280.extract 0 ((ji31) : Int).toNat) ++ (strOfNums y289)) ++ (t280.extract ((ji35) : Int).toNat t280.size)) t292 t293 t294 t295 t296 _ ?_ A39.out) ?_
                                focus exact HTG.out.below (by repeat (first | (with_reducible first | exact HB.out | apply below_alloc | apply pw_below_drewN | apply below_drew1 | refine below_set ?_ GE275.out | refine below_set ?_ GE288.out | refine below_set ?_ GE297.out) | exact HB.out))
                                rintro e w51 ⟨rfl, hb⟩
                                refine ⟨_, rfl, ?_⟩
                                have n0_ := Aside0.mk (Kd.R_below (by (with_reducible repeat (first | apply Kd.R_alloc | apply Kd.R_drewN | apply Kd.R_drew)); exact HO291.out) hb)
                                have n1_ := Aside0.mk (blk_below (g := gb275) (o := .cells #[.int .i64 t276, .string t277, .int .i64 t278, .int .i64 t279] 23 (0, 0)) (by (with_reducible repeat (first | refine blk_drewN ?_ _ | refine blk_drew ?_ | refine blk_alloc ?_ _)); exact BK275.out) hb)
                                have n2_ := Aside0.mk (blk_below (g := gb288) (o := .cells #[.int .i64 t283, .string t284, .int .i64 t285, .int .i64 t286] 23 (0, 0)) (by (with_reducible repeat (first | refine blk_drewN ?_ _ | refine blk_drew ?_ | refine blk_alloc ?_ _)); exact BK288.out) hb)
                                have n3_ := Aside0.mk (blk_below (g := gb297) (o := .cells #[.int .i64 0, .string (⟨#[]⟩ : ByteArray), .int .i64 0, .int .i64 0] 23 (0, 0)) (by (with_reducible repeat (first | refine blk_drewN ?_ _ | refine blk_drew ?_ | refine blk_alloc ?_ _)); exact BK297.out) hb)
                                have n4_ := Aside0.mk (below_step (by repeat (first | (with_reducible first | exact HB.out | apply below_alloc | apply pw_below_drewN | apply below_drew1 | refine below_set ?_ GE275.out | refine below_set ?_ GE288.out | refine below_set ?_ GE297.out) | exact HB.out)) hb)
                                clear HO291
                                clear BK275
                                clear BK288
                                clear BK297
                                clear HB
                                have HO291 := n0_
                                have BK275 := n1_
                                have BK288 := n2_
                                have BK297 := n3_
                                have HB := n4_
                                clear n0_ n1_ n2_ n3_ n4_
                                (try clear hb)
                                (try clear hb2)
                                (try clear hk)
                                (try clear hi)
                                refine hK.out _ _ trivial (fun hHeld => ?_)
                                clear hK K
                                refine norm_ (a' := ?_) ?_ ?_
                                rotate_left
                                · show Act.put _ (some 72) _ = _
                                  simp only [Act.put, List.setIfInBounds_toArray, List.set_cons_zero, List.set_cons_succ, i64_w, i32_w]
                                  rfl
                                refine pure_ (i := 13) (N := some 59) (v := ?_) (a' := ?_) #[true, true, true, true, true, true, true, true, true, true, true, true, true, true, false, false, true, false, false] rfl rfl (any_of HT_.out (by kernel_rfl)) (fun _ _ _ h => h) (Or.inl ⟨by rfl, ?_⟩) ?_ ?_
                                rotate_left
                                · intro w'
                                  go_simp
                                  with_reducible rfl
                                rotate_left
                                · simp only [Act.put, List.setIfInBounds_toArray, List.set_cons_zero, List.set_cons_succ, i64_w, i32_w]
                                  rfl
                                refine pure_ (i := 14) (N := some 73) (v := ?_) (a' := ?_) #[true, true, true, true, true, true, true, true, true, true, true, true, true, true, true, false, true, false, false] rfl rfl (any_of HT_.out (by kernel_rfl)) (fun _ _ _ h => h) (Or.inl ⟨by rfl, ?_⟩) ?_ ?_
                                rotate_left
                                · intro w'
                                  go_simp
                                  with_reducible rfl
                                rotate_left
                                · simp only [Act.put, List.setIfInBounds_toArray, List.set_cons_zero, List.set_cons_succ, i64_w, i32_w]
                                  rfl
                                refine pure_ (i := 15) (N := some 74) (v := ?_) (a' := ?_) #[true, true, true, true, true, true, true, true, true, true, true, true, true, true, true, true, true, false, false] rfl rfl (any_of HT_.out (by kernel_rfl)) (fun _ _ _ h => h) (Or.inl ⟨by rfl, ?_⟩) ?_ ?_
                                rotate_left
                                · intro w'
                                  go_simp
                                  with_reducible rfl
                                rotate_left
                                · simp only [Act.put, List.setIfInBounds_toArray, List.set_cons_zero, List.set_cons_succ, i64_w, i32_w]
                                  rfl
                                exact norm_ (by simp only [putAll, Act.put, List.setIfInBounds_toArray, List.set_cons_zero, List.set_cons_succ]) (hCont (v290, gb297) _ ⟨(by (with_reducible repeat (first | apply Kd.R_alloc | apply Kd.R_drewN | apply Kd.R_drew)); exact HO291.out), (by (with_reducible repeat (first | refine blk_drewN ?_ _ | refine blk_drew ?_ | refine blk_alloc ?_ _)); exact BK275.out), (by (with_reducible repeat (first | refine blk_drewN ?_ _ | refine blk_drew ?_ | refine blk_alloc ?_ _)); exact BK288.out), (by (with_reducible repeat (first | refine blk_drewN ?_ _ | refine blk_drew ?_ | refine blk_alloc ?_ _)); exact BK297.out), GW297.out, GE297.out, NB275_297.out, NB297_275.out, NB288_297.out, NB297_288.out, (by repeat (first | (with_reducible first | exact HB.out | apply below_alloc | apply pw_below_drewN | apply below_drew1 | refine below_set ?_ GE275.out | refine below_set ?_ GE288.out | refine below_set ?_ GE297.out) | exact HB.out))⟩)
                            · skip
                              refine box_step ?hg (N := 12) ?hd (cs := #[.int .i64 0, .string (⟨#[]⟩ : ByteArray), .int .i64 0, .int .i64 0]) (t := 23) ?hr ?_; (case hd => rfl); (case hg => rfl); (case hr => first | (go_simp; done) | (go_simp; rfl))
                              intro gb297 hg w47 hbox hb
                              have n0_ := Aside0.mk (blk_below (g := gb275) (o := .cells #[.int .i64 t276, .string t277, .int .i64 t278, .int .i64 t279] 23 (0, 0)) (by (with_reducible repeat (first | refine blk_drewN ?_ _ | refine blk_drew ?_ | refine blk_alloc ?_ _)); exact BK275.out) hb)
                              have n1_ := Aside0.mk (blk_below (g := gb288) (o := .cells #[.int .i64 t283, .string t284, .int .i64 t285, .int .i64 t286] 23 (0, 0)) (by (with_reducible repeat (first | refine blk_drewN ?_ _ | refine blk_drew ?_ | refine blk_alloc ?_ _)); exact BK288.out) hb)
                              have n2_ := Aside0.mk (below_step (by repeat (first | (with_reducible first | exact HB.out | apply below_alloc | apply pw_below_drewN | apply below_drew1 | refine below_set ?_ GE275.out | refine below_set ?_ GE288.out) | exact HB.out)) hb)
                              have n3_ := Aside0.mk (hbox)
                              have n4_ := Aside0.mk ((by rw [hg]; exact (below_size (by repeat (first | (with_reducible first | exact HB.out | apply below_alloc | apply pw_below_drewN | apply below_drew1 | refine below_set ?_ GE275.out | refine below_set ?_ GE288.out) | exact HB.out))) : w.heap.size ≤ gb297))
                              have n5_ := Aside0.mk ((by rw [hg]; exact (below_size (by repeat (first | (with_reducible first | exact HB.out | apply below_alloc | apply pw_below_drewN | apply below_drew1 | refine below_set ?_ GE275.out | refine below_set ?_ GE288.out) | exact HB.out))) : w.heap.size ≤ gb297))
                              have n6_ := Aside0.mk ((by rw [hg]; exact Nat.ne_of_lt (blk_lt (g := gb275) (o := .cells #[.int .i64 t276, .string t277, .int .i64 t278, .int .i64 t279] 23 (0, 0)) (by (with_reducible repeat (first | refine blk_drewN ?_ _ | refine blk_drew ?_ | refine blk_alloc ?_ _)); exact BK275.out)) : gb275 ≠ gb297))
                              have n7_ := Aside0.mk ((by rw [hg]; exact Nat.ne_of_gt (blk_lt (g := gb275) (o := .cells #[.int .i64 t276, .string t277, .int .i64 t278, .int .i64 t279] 23 (0, 0)) (by (with_reducible repeat (first | refine blk_drewN ?_ _ | refine blk_drew ?_ | refine blk_alloc ?_ _)); exact BK275.out)) : gb297 ≠ gb275))
                              have n8_ := Aside0.mk ((by rw [hg]; exact Nat.ne_of_lt (blk_lt (g := gb288) (o := .cells #[.int .i64 t283, .string t284, .int .i64 t285, .int .i64 t286] 23 (0, 0)) (by (with_reducible repeat (first | refine blk_drewN ?_ _ | refine blk_drew ?_ | refine blk_alloc ?_ _)); exact BK288.out)) : gb288 ≠ gb297))
                              have n9_ := Aside0.mk ((by rw [hg]; exact Nat.ne_of_gt (blk_lt (g := gb288) (o := .cells #[.int .i64 t283, .string t284, .int .i64 t285, .int .i64 t286] 23 (0, 0)) (by (with_reducible repeat (first | refine blk_drewN ?_ _ | refine blk_drew ?_ | refine blk_alloc ?_ _)); exact BK288.out)) : gb297 ≠ gb288))
                              clear BK275
                              clear BK288
                              clear HB
                              have BK275 := n0_
                              have BK288 := n1_
                              have HB := n2_
                              have BK297 := n3_
                              have GW297 := n4_
                              have GE297 := n5_
                              have NB275_297 := n6_
                              have NB297_275 := n7_
                              have NB288_297 := n8_
                              have NB297_288 := n9_
                              clear n0_ n1_ n2_ n3_ n4_ n5_ n6_ n7_ n8_ n9_
                              clear hb hbox hg
                              refine hK.out _ _ trivial (fun hHeld => ?_)
                              clear hK K
                              refine norm_ (a' := ?_) ?_ ?_
                              rotate_left
                              · show Act.put _ (some 12) _ = _
                                simp only [Act.put, List.setIfInBounds_toArray, List.set_cons_zero, List.set_cons_succ, i64_w, i32_w]
                                rfl
                              refine one_ (i := 4) (N := some 64) #[true, true, true, true, true, false, false, true, true, true, true, false, false, false, false, false, true, false, false] rfl rfl (one_of HT_.out (by kernel_rfl)) (by decide) (fun K hK => ?_)
                              refine Kd.R_lit_step (Kd.int .u8) _ 5 ?hg (N := 64) ?hd (xs := ([a2] : List Int)) (inner := [.int .u8 a2]) (ok := fun _ => True) (okp := fun _ => True) ?hr ?hp (fun _ hk => hk) trivial (Below.refl _ _) (Nat.le_refl _) (by simp) ?_; (case hd => rfl); (case hg => rfl); (case hr => first | (go_simp; done) | (go_simp; rfl)); (case hp => exact (Reps.one (show Kd.M (Kd.int .u8) _ _ _ a2 [.int .u8 a2] from rfl) (Reps.none _ _)))
                              intro v290 w48 ho49 hb hg_ hnew_
                              clear hg_ hnew_
                              (first | rw [← Ny289.out] at ho49 | (simp only [Int.reduceToNat] at ho49; rw [← Ny289.out] at ho49))
                              have n0_ := Aside0.mk (Kd.R_lower ho49 (below_size (by repeat (first | (with_reducible first | exact HB.out | apply below_alloc | apply pw_below_drewN | apply below_drew1 | refine below_set ?_ GE275.out | refine below_set ?_ GE288.out | refine below_set ?_ GE297.out) | exact HB.out))))
                              have n1_ := Aside0.mk (blk_below (g := gb275) (o := .cells #[.int .i64 t276, .string t277, .int .i64 t278, .int .i64 t279] 23 (0, 0)) (by (with_reducible repeat (first | refine blk_drewN ?_ _ | refine blk_drew ?_ | refine blk_alloc ?_ _)); exact BK275.out) hb)
                              have n2_ := Aside0.mk (blk_below (g := gb288) (o := .cells #[.int .i64 t283, .string t284, .int .i64 t285, .int .i64 t286] 23 (0, 0)) (by (with_reducible repeat (first | refine blk_drewN ?_ _ | refine blk_drew ?_ | refine blk_alloc ?_ _)); exact BK288.out) hb)
                              have n3_ := Aside0.mk (blk_below (g := gb297) (o := .cells #[.int .i64 0, .string (⟨#[]⟩ : ByteArray), .int .i64 0, .int .i64 0] 23 (0, 0)) (by (with_reducible repeat (first | refine blk_drewN ?_ _ | refine blk_drew ?_ | refine blk_alloc ?_ _)); exact BK297.out) hb)
                              have n4_ := Aside0.mk (below_step (by repeat (first | (with_reducible first | exact HB.out | apply below_alloc | apply pw_below_drewN | apply below_drew1 | refine below_set ?_ GE275.out | refine below_set ?_ GE288.out | refine below_set ?_ GE297.out) | exact HB.out)) hb)
                              clear BK275
                              clear BK288
                              clear BK297
                              clear HB
                              have HO291 := n0_
                              have BK275 := n1_
                              have BK288 := n2_
                              have BK297 := n3_
                              have HB := n4_
                              clear n0_ n1_ n2_ n3_ n4_
                              clear hb ho49
                              refine hK.out _ _ trivial (fun hHeld => ?_)
                              clear hK K
                              refine norm_ (a' := ?_) ?_ ?_
                              rotate_left
                              · show Act.put _ (some 64) _ = _
                                simp only [Act.put, List.setIfInBounds_toArray, List.set_cons_zero, List.set_cons_succ, i64_w, i32_w]
                                rfl
                              refine one_ (i := 5) (N := some 65) #[true, true, true, true, true, true, false, true, true, true, true, false, false, false, false, false, true, false, false] rfl rfl (one_of HT_.out (by kernel_rfl)) (by decide) (fun K hK => ?_)
                              have hcv50 := own_string (P := Tryd.prog) Tryd.underlying36 Tryd.underlying5 Tryd.underlying9 (Kd.own_of_R HO291.out)
                              refine value_ (w1 := ?_) (v := ?_) (by rfl) rfl ?_ ?_
                              rotate_left 2
                              · go_simp
                                constructor
                                · rfl
                                · rfl
                              clear hcv50
                              refine hK.out _ _ trivial (fun hHeld => ?_)
                              clear hK K
                              refine norm_ (a' := ?_) ?_ ?_
                              rotate_left
                              · show Act.put _ (some 65) _ = _
                                simp only [Act.put, List.setIfInBounds_toArray, List.set_cons_zero, List.set_cons_succ, i64_w, i32_w]
                                rfl
                              refine pure_ (i := 6) (N := some 66) (v := ?_) (a' := ?_) #[true, true, true, true, true, true, true, true, true, true, true, false, false, false, false, false, true, false, false] rfl rfl (any_of HT_.out (by kernel_rfl)) (fun _ _ _ h => h) (Or.inl ⟨by rfl, ?_⟩) ?_ ?_
                              rotate_left
                              · intro w'
                                go_simp
                                with_reducible rfl
                              rotate_left
                              · simp only [Act.put, List.setIfInBounds_toArray, List.set_cons_zero, List.set_cons_succ, i64_w, i32_w]
                                rfl
                              refine pure_ (i := 11) (N := some 71) (v := ?_) (a' := ?_) #[true, true, true, true, true, true, true, true, true, true, true, true, false, false, false, false, true, false, false] rfl rfl (any_of HT_.out (by kernel_rfl)) (fun _ _ _ h => h) (Or.inl ⟨by rfl, ?_⟩) ?_ ?_
                              rotate_left
                              · intro w'
                                go_simp
                                with_reducible rfl
                              rotate_left
                              · simp only [Act.put, List.setIfInBounds_toArray, List.set_cons_zero, List.set_cons_succ, i64_w, i32_w]
                                rfl
                              refine one_ (i := 12) (N := some 72) #[true, true, true, true, true, true, true, true, true, true, true, true, true, false, false, false, true, false, false] rfl rfl (one_of HT_.out (by kernel_rfl)) (by decide) (fun K hK => ?_)
                              refine goes_ Tryd.func9 (by kernel_rfl) rfl #[.string (((t280.extract 0 ((ji31) : Int).toNat) ++ (strOfNums y289)) ++ (t280.extract ((ji35) : Int).toNat t280.size))] (by rfl) rfl rfl (by (try simp only [List.map_toArray, List.map_cons, List.map_nil]); first | done | (simp only [hji31, hji35]; rfl) | rfl | (simp only [List.length_drop, List.length_take]; rfl)) ?_
                              with_reducible refine Calls.mono (ticket_Open.callsT (((t280.extract 0 ((ji31) : Int).toNat) ++ (strOfNums y289)) ++ (t280.extract ((ji35) : Int).toNat t280.size)) t292 t293 t294 t295 t296 _ ?_ A39.out) ?_
                              focus exact HTG.out.below (by repeat (first | (with_reducible first | exact HB.out | apply below_alloc | apply pw_below_drewN | apply below_drew1 | refine below_set ?_ GE275.out | refine below_set ?_ GE288.out | refine below_set ?_ GE297.out) | exact HB.out))
                              rintro e w51 ⟨rfl, hb⟩
                              refine ⟨_, rfl, ?_⟩
                              have n0_ := Aside0.mk (Kd.R_below (by (with_reducible repeat (first | apply Kd.R_alloc | apply Kd.R_drewN | apply Kd.R_drew)); exact HO291.out) hb)
                              have n1_ := Aside0.mk (blk_below (g := gb275) (o := .cells #[.int .i64 t276, .string t277, .int .i64 t278, .int .i64 t279] 23 (0, 0)) (by (with_reducible repeat (first | refine blk_drewN ?_ _ | refine blk_drew ?_ | refine blk_alloc ?_ _)); exact BK275.out) hb)
                              have n2_ := Aside0.mk (blk_below (g := gb288) (o := .cells #[.int .i64 t283, .string t284, .int .i64 t285, .int .i64 t286] 23 (0, 0)) (by (with_reducible repeat (first | refine blk_drewN ?_ _ | refine blk_drew ?_ | refine blk_alloc ?_ _)); exact BK288.out) hb)
                              have n3_ := Aside0.mk (blk_below (g := gb297) (o := .cells #[.int .i64 0, .string (⟨#[]⟩ : ByteArray), .int .i64 0, .int .i64 0] 23 (0, 0)) (by (with_reducible repeat (first | refine blk_drewN ?_ _ | refine blk_drew ?_ | refine blk_alloc ?_ _)); exact BK297.out) hb)
                              have n4_ := Aside0.mk (below_step (by repeat (first | (with_reducible first | exact HB.out | apply below_alloc | apply pw_below_drewN | apply below_drew1 | refine below_set ?_ GE275.out | refine below_set ?_ GE288.out | refine below_set ?_ GE297.out) | exact HB.out)) hb)
                              clear HO291
                              clear BK275
                              clear BK288
                              clear BK297
                              clear HB
                              have HO291 := n0_
                              have BK275 := n1_
                              have BK288 := n2_
                              have BK297 := n3_
                              have HB := n4_
                              clear n0_ n1_ n2_ n3_ n4_
                              (try clear hb)
                              (try clear hb2)
                              (try clear hk)
                              (try clear hi)
                              refine hK.out _ _ trivial (fun hHeld => ?_)
                              clear hK K
                              refine norm_ (a' := ?_) ?_ ?_
                              rotate_left
                              · show Act.put _ (some 72) _ = _
                                simp only [Act.put, List.setIfInBounds_toArray, List.set_cons_zero, List.set_cons_succ, i64_w, i32_w]
                                rfl
                              refine pure_ (i := 13) (N := some 59) (v := ?_) (a' := ?_) #[true, true, true, true, true, true, true, true, true, true, true, true, true, true, false, false, true, false, false] rfl rfl (any_of HT_.out (by kernel_rfl)) (fun _ _ _ h => h) (Or.inl ⟨by rfl, ?_⟩) ?_ ?_
                              rotate_left
                              · intro w'
                                go_simp
                                with_reducible rfl
                              rotate_left
                              · simp only [Act.put, List.setIfInBounds_toArray, List.set_cons_zero, List.set_cons_succ, i64_w, i32_w]
                                rfl
                              refine pure_ (i := 14) (N := some 73) (v := ?_) (a' := ?_) #[true, true, true, true, true, true, true, true, true, true, true, true, true, true, true, false, true, false, false] rfl rfl (any_of HT_.out (by kernel_rfl)) (fun _ _ _ h => h) (Or.inl ⟨by rfl, ?_⟩) ?_ ?_
                              rotate_left
                              · intro w'
                                go_simp
                                with_reducible rfl
                              rotate_left
                              · simp only [Act.put, List.setIfInBounds_toArray, List.set_cons_zero, List.set_cons_succ, i64_w, i32_w]
                                rfl
                              refine pure_ (i := 15) (N := some 74) (v := ?_) (a' := ?_) #[true, true, true, true, true, true, true, true, true, true, true, true, true, true, true, true, true, false, false] rfl rfl (any_of HT_.out (by kernel_rfl)) (fun _ _ _ h => h) (Or.inl ⟨by rfl, ?_⟩) ?_ ?_
                              rotate_left
                              · intro w'
                                go_simp
                                with_reducible rfl
                              rotate_left
                              · simp only [Act.put, List.setIfInBounds_toArray, List.set_cons_zero, List.set_cons_succ, i64_w, i32_w]
                                rfl
                              exact norm_ (by simp only [putAll, Act.put, List.setIfInBounds_toArray, List.set_cons_zero, List.set_cons_succ]) (hCont (v290, gb297) _ ⟨(by (with_reducible repeat (first | apply Kd.R_alloc | apply Kd.R_drewN | apply Kd.R_drew)); exact HO291.out), (by (with_reducible repeat (first | refine blk_drewN ?_ _ | refine blk_drew ?_ | refine blk_alloc ?_ _)); exact BK275.out), (by (with_reducible repeat (first | refine blk_drewN ?_ _ | refine blk_drew ?_ | refine blk_alloc ?_ _)); exact BK288.out), (by (with_reducible repeat (first | refine blk_drewN ?_ _ | refine blk_drew ?_ | refine blk_alloc ?_ _)); exact BK297.out), GW297.out, GE297.out, NB275_297.out, NB297_275.out, NB288_297.out, NB297_288.out, (by repeat (first | (with_reducible first | exact HB.out | apply below_alloc | apply pw_below_drewN | apply below_drew1 | refine below_set ?_ GE275.out | refine below_set ?_ GE288.out | refine below_set ?_ GE297.out) | exact HB.out))⟩)
                          rintro ⟨v290, gb297⟩ w52 ⟨h0_, h1_, h2_, h3_, h4_, h5_, h6_, h7_, h8_, h9_, h10_⟩
                          have n0_ : Aside0 (Kd.R (Kd.int .u8) 5 w52 w.heap.size (fun _ => True) v290 y289) := ⟨h0_⟩
                          have n1_ : Aside0 (w52.heap[gb275]? = some (.cells #[.int .i64 t276, .string t277, .int .i64 t278, .int .i64 t279] 23 (0, 0))) := ⟨h1_⟩
                          have n2_ : Aside0 (w52.heap[gb288]? = some (.cells #[.int .i64 t283, .string t284, .int .i64 t285, .int .i64 t286] 23 (0, 0))) := ⟨h2_⟩
                          have n3_ : Aside0 (w52.heap[gb297]? = some (.cells #[.int .i64 0, .string (⟨#[]⟩ : ByteArray), .int .i64 0, .int .i64 0] 23 (0, 0))) := ⟨h3_⟩
                          have n4_ : Aside0 (w.heap.size ≤ gb297) := ⟨h4_⟩
                          have n5_ : Aside0 (w.heap.size ≤ gb297) := ⟨h5_⟩
                          have n6_ : Aside0 (gb275 ≠ gb297) := ⟨h6_⟩
                          have n7_ : Aside0 (gb297 ≠ gb275) := ⟨h7_⟩
                          have n8_ : Aside0 (gb288 ≠ gb297) := ⟨h8_⟩
                          have n9_ : Aside0 (gb297 ≠ gb288) := ⟨h9_⟩
                          have n10_ : Aside0 (Below w.heap.size w w52) := ⟨h10_⟩
                          clear BK275
                          clear BK288
                          clear HB
                          clear h0_ h1_ h2_ h3_ h4_ h5_ h6_ h7_ h8_ h9_ h10_
                          have HO291 := n0_
                          have BK275 := n1_
                          have BK288 := n2_
                          have BK297 := n3_
                          have GW297 := n4_
                          have GE297 := n5_
                          have NB275_297 := n6_
                          have NB297_275 := n7_
                          have NB288_297 := n8_
                          have NB297_288 := n9_
                          have HB := n10_
                          clear n0_ n1_ n2_ n3_ n4_ n5_ n6_ n7_ n8_ n9_ n10_
                          have hHeld := trivial
                          refine norm_ (a' := ?_) ?_ ?_
                          rotate_left
                          · simp only [putAll, Act.put, List.setIfInBounds_toArray, List.set_cons_zero, List.set_cons_succ]
                            rfl
                          refine one_ (i := 17) (N := none) #[true, true, true, true, true, true, true, true, true, true, true, true, true, true, true, true, true, true, false] rfl rfl (one_of HT_.out (by kernel_rfl)) (by decide) (fun K hK => ?_)
                          have hs53 : w52.cell? ⟨gb297, 0, none⟩ = some (.int .i64 0) := (blk_cell BK297.out 0).trans rfl
                          have hfs53 := blk_frozen BK297.out 0
                          have hns53_0 := NB275_297.out
                          have hns53_1 := NB288_297.out
                          have hms53_0 := NB297_275.out
                          have hms53_1 := NB297_288.out
                          have hs54 : w52.cell? ⟨gb297, 1, none⟩ = some (.string (⟨#[]⟩ : ByteArray)) := (blk_cell BK297.out 1).trans rfl
                          have hfs54 := blk_frozen BK297.out 1
                          have hns54_0 := NB275_297.out
                          have hns54_1 := NB288_297.out
                          have hms54_0 := NB297_275.out
                          have hms54_1 := NB297_288.out
                          have hs55 : w52.cell? ⟨gb297, 2, none⟩ = some (.int .i64 0) := (blk_cell BK297.out 2).trans rfl
                          have hfs55 := blk_frozen BK297.out 2
                          have hns55_0 := NB275_297.out
                          have hns55_1 := NB288_297.out
                          have hms55_0 := NB297_275.out
                          have hms55_1 := NB297_288.out
                          have hs56 : w52.cell? ⟨gb297, 3, none⟩ = some (.int .i64 0) := (blk_cell BK297.out 3).trans rfl
                          have hfs56 := blk_frozen BK297.out 3
                          have hns56_0 := NB275_297.out
                          have hns56_1 := NB288_297.out
                          have hms56_0 := NB297_275.out
                          have hms56_1 := NB297_288.out
                          refine skip_ (w1 := ?_) (by rfl) rfl ?_ ?_
                          rotate_left
                          · go_simp
                            rfl
                          refine hK.out _ _ trivial (fun hHeld => ?_)
                          clear hK K
                          refine pure_ (i := 18) (N := some 13) (v := ?_) (a' := ?_) #[true, true, true, true, true, true, true, true, true, true, true, true, true, true, true, true, true, true, true] rfl rfl (any_of HT_.out (by kernel_rfl)) (fun _ _ _ h => h) (Or.inl ⟨by rfl, ?_⟩) ?_ ?_
                          rotate_left
                          · intro w'
                            go_simp
                            with_reducible rfl
                          rotate_left
                          · simp only [Act.put, List.setIfInBounds_toArray, List.set_cons_zero, List.set_cons_succ, i64_w, i32_w]
                            rfl
                          refine done_ (done_of HT_.out (by kernel_rfl)) ?_
                          go_upto_region 12 with (first | ((with_reducible refine gate_callee (f := 9) rfl ?_); refine goesL_ (some 79) rfl rfl Tryd.func9 (by kernel_rfl) rfl #[.string (t280.extract 0 ((ji31) : Int).toNat)] rfl (by (try simp only [List.map_toArray, List.map_cons, List.map_nil]); first | done | (simp only [hji31]; rfl) | rfl | (simp only [List.length_drop, List.length_take]; rfl)) ?_; (with_reducible refine Calls.mono (ticket_Open.callsT (t280.extract 0 ((ji31) : Int).toNat) t298 t299 t300 t301 t302 _ ?_ A42.out) ?_); (focus exact HTG.out.below (by repeat (first | (with_reducible first | exact HB.out | apply below_alloc | apply pw_below_drewN | apply below_drew1 | refine below_set ?_ GE275.out | refine below_set ?_ GE288.out | refine below_set ?_ GE297.out) | exact HB.out))); rintro e w57 ⟨rfl, hb⟩; refine ⟨_, rfl, ?_⟩; have n0_ := Aside0.mk (Kd.R_below (by (with_reducible repeat (first | apply Kd.R_alloc | apply Kd.R_drewN | apply Kd.R_drew)); exact (Kd.R_mono (Kd.R_far (p := ⟨gb297, 3, none⟩) (Kd.R_far (p := ⟨gb297, 2, none⟩) (Kd.R_far (p := ⟨gb297, 1, none⟩) (Kd.R_far (p := ⟨gb297, 0, none⟩) (Kd.R_types HO291.out BK297.out (by decide)) (fun _ hk => hk.2) (.int .i64 t292)) (fun _ hk => hk.2) (.string t293)) (fun _ hk => hk.2) (.int .i64 t294)) (fun _ hk => hk.2) (.int .i64 t295)) (fun _ h_ => h_.1))) hb); have n1_ := Aside0.mk (blk_below (g := gb275) (o := .cells #[.int .i64 t276, .string t277, .int .i64 t278, .int .i64 t279] 23 (0, 0)) (by (with_reducible repeat (first | refine blk_drewN ?_ _ | refine blk_drew ?_ | refine blk_alloc ?_ _)); refine blk_far ?_ NB275_297.out _; (with_reducible repeat (first | refine blk_drewN ?_ _ | refine blk_drew ?_ | refine blk_alloc ?_ _)); refine blk_far ?_ NB275_297.out _; (with_reducible repeat (first | refine blk_drewN ?_ _ | refine blk_drew ?_ | refine blk_alloc ?_ _)); refine blk_far ?_ NB275_297.out _; (with_reducible repeat (first | refine blk_drewN ?_ _ | refine blk_drew ?_ | refine blk_alloc ?_ _)); refine blk_far ?_ NB275_297.out _; (with_reducible repeat (first | refine blk_drewN ?_ _ | refine blk_drew ?_ | refine blk_alloc ?_ _)); exact BK275.out) hb); have n2_ := Aside0.mk (blk_below (g := gb288) (o := .cells #[.int .i64 t283, .string t284, .int .i64 t285, .int .i64 t286] 23 (0, 0)) (by (with_reducible repeat (first | refine blk_drewN ?_ _ | refine blk_drew ?_ | refine blk_alloc ?_ _)); refine blk_far ?_ NB288_297.out _; (with_reducible repeat (first | refine blk_drewN ?_ _ | refine blk_drew ?_ | refine blk_alloc ?_ _)); refine blk_far ?_ NB288_297.out _; (with_reducible repeat (first | refine blk_drewN ?_ _ | refine blk_drew ?_ | refine blk_alloc ?_ _)); refine blk_far ?_ NB288_297.out _; (with_reducible repeat (first | refine blk_drewN ?_ _ | refine blk_drew ?_ | refine blk_alloc ?_ _)); refine blk_far ?_ NB288_297.out _; (with_reducible repeat (first | refine blk_drewN ?_ _ | refine blk_drew ?_ | refine blk_alloc ?_ _)); exact BK288.out) hb); have n3_ := Aside0.mk (blk_below (g := gb297) (o := .cells #[.int .i64 t292, .string t293, .int .i64 t294, .int .i64 t295] 23 (0, 0)) (by (with_reducible repeat (first | refine blk_drewN ?_ _ | refine blk_drew ?_ | refine blk_alloc ?_ _)); refine blk_put (cs := #[.int .i64 t292, .string t293, .int .i64 t294, .int .i64 0]) ?_ 3 _ rfl; (with_reducible repeat (first | refine blk_drewN ?_ _ | refine blk_drew ?_ | refine blk_alloc ?_ _)); refine blk_put (cs := #[.int .i64 t292, .string t293, .int .i64 0, .int .i64 0]) ?_ 2 _ rfl; (with_reducible repeat (first | refine blk_drewN ?_ _ | refine blk_drew ?_ | refine blk_alloc ?_ _)); refine blk_put (cs := #[.int .i64 t292, .string (⟨#[]⟩ : ByteArray), .int .i64 0, .int .i64 0]) ?_ 1 _ rfl; (with_reducible repeat (first | refine blk_drewN ?_ _ | refine blk_drew ?_ | refine blk_alloc ?_ _)); refine blk_put (cs := #[.int .i64 0, .string (⟨#[]⟩ : ByteArray), .int .i64 0, .int .i64 0]) ?_ 0 _ rfl; (with_reducible repeat (first | refine blk_drewN ?_ _ | refine blk_drew ?_ | refine blk_alloc ?_ _)); exact BK297.out) hb); have n4_ := Aside0.mk (below_step (by repeat (first | (with_reducible first | exact HB.out | apply below_alloc | apply pw_below_drewN | apply below_drew1 | refine below_set ?_ GE275.out | refine below_set ?_ GE288.out | refine below_set ?_ GE297.out) | exact HB.out)) hb); clear HO291; clear BK275; clear BK288; clear BK297; clear HB; have HO291 := n0_; have BK275 := n1_; have BK288 := n2_; have BK297 := n3_; have HB := n4_; clear n0_ n1_ n2_ n3_ n4_; (try clear hb); (try clear hb2); (try clear hk); (try clear hi)) | ((with_reducible refine gate_dst (N := 14) rfl ?_); (try (refine gate_guard (by rfl) ?_; dsimp only)); refine box_event ?hg (N := 14) ?hd (cs := #[.int .i64 0, .string (⟨#[]⟩ : ByteArray), .int .i64 0, .int .i64 0]) (t := 23) ?hr ?_; (case hd => rfl); (case hg => rfl); (case hr => first | (go_simp; done) | (go_simp; rfl)); intro gb303 hg w58 hbox hb; have n0_ := Aside0.mk (Kd.R_below (by (with_reducible repeat (first | apply Kd.R_alloc | apply Kd.R_drewN | apply Kd.R_drew)); exact HO291.out) hb); have n1_ := Aside0.mk (blk_below (g := gb275) (o := .cells #[.int .i64 t276, .string t277, .int .i64 t278, .int .i64 t279] 23 (0, 0)) (by (with_reducible repeat (first | refine blk_drewN ?_ _ | refine blk_drew ?_ | refine blk_alloc ?_ _)); exact BK275.out) hb); have n2_ := Aside0.mk (blk_below (g := gb288) (o := .cells #[.int .i64 t283, .string t284, .int .i64 t285, .int .i64 t286] 23 (0, 0)) (by (with_reducible repeat (first | refine blk_drewN ?_ _ | refine blk_drew ?_ | refine blk_alloc ?_ _)); exact BK288.out) hb); have n3_ := Aside0.mk (blk_below (g := gb297) (o := .cells #[.int .i64 t292, .string t293, .int .i64 t294, .int .i64 t295] 23 (0, 0)) (by (with_reducible repeat (first | refine blk_drewN ?_ _ | refine blk_drew ?_ | refine blk_alloc ?_ _)); exact BK297.out) hb); have n4_ := Aside0.mk (below_step (by repeat (first | (with_reducible first | exact HB.out | apply below_alloc | apply pw_below_drewN | apply below_drew1 | refine below_set ?_ GE275.out | refine below_set ?_ GE288.out | refine below_set ?_ GE297.out) | exact HB.out)) hb); have n5_ := Aside0.mk (hbox); have n6_ := Aside0.mk ((by rw [hg]; exact (below_size (by repeat (first | (with_reducible first | exact HB.out | apply below_alloc | apply pw_below_drewN | apply below_drew1 | refine below_set ?_ GE275.out | refine below_set ?_ GE288.out | refine below_set ?_ GE297.out) | exact HB.out))) : w.heap.size ≤ gb303)); have n7_ := Aside0.mk ((by rw [hg]; exact (below_size (by repeat (first | (with_reducible first | exact HB.out | apply below_alloc | apply pw_below_drewN | apply below_drew1 | refine below_set ?_ GE275.out | refine below_set ?_ GE288.out | refine below_set ?_ GE297.out) | exact HB.out))) : w.heap.size ≤ gb303)); have n8_ := Aside0.mk ((by rw [hg]; exact Nat.ne_of_lt (blk_lt (g := gb275) (o := .cells #[.int .i64 t276, .string t277, .int .i64 t278, .int .i64 t279] 23 (0, 0)) (by (with_reducible repeat (first | refine blk_drewN ?_ _ | refine blk_drew ?_ | refine blk_alloc ?_ _)); exact BK275.out)) : gb275 ≠ gb303)); have n9_ := Aside0.mk ((by rw [hg]; exact Nat.ne_of_gt (blk_lt (g := gb275) (o := .cells #[.int .i64 t276, .string t277, .int .i64 t278, .int .i64 t279] 23 (0, 0)) (by (with_reducible repeat (first | refine blk_drewN ?_ _ | refine blk_drew ?_ | refine blk_alloc ?_ _)); exact BK275.out)) : gb303 ≠ gb275)); have n10_ := Aside0.mk ((by rw [hg]; exact Nat.ne_of_lt (blk_lt (g := gb288) (o := .cells #[.int .i64 t283, .string t284, .int .i64 t285, .int .i64 t286] 23 (0, 0)) (by (with_reducible repeat (first | refine blk_drewN ?_ _ | refine blk_drew ?_ | refine blk_alloc ?_ _)); exact BK288.out)) : gb288 ≠ gb303)); have n11_ := Aside0.mk ((by rw [hg]; exact Nat.ne_of_gt (blk_lt (g := gb288) (o := .cells #[.int .i64 t283, .string t284, .int .i64 t285, .int .i64 t286] 23 (0, 0)) (by (with_reducible repeat (first | refine blk_drewN ?_ _ | refine blk_drew ?_ | refine blk_alloc ?_ _)); exact BK288.out)) : gb303 ≠ gb288)); have n12_ := Aside0.mk ((by rw [hg]; exact Nat.ne_of_lt (blk_lt (g := gb297) (o := .cells #[.int .i64 t292, .string t293, .int .i64 t294, .int .i64 t295] 23 (0, 0)) (by (with_reducible repeat (first | refine blk_drewN ?_ _ | refine blk_drew ?_ | refine blk_alloc ?_ _)); exact BK297.out)) : gb297 ≠ gb303)); have n13_ := Aside0.mk ((by rw [hg]; exact Nat.ne_of_gt (blk_lt (g := gb297) (o := .cells #[.int .i64 t292, .string t293, .int .i64 t294, .int .i64 t295] 23 (0, 0)) (by (with_reducible repeat (first | refine blk_drewN ?_ _ | refine blk_drew ?_ | refine blk_alloc ?_ _)); exact BK297.out)) : gb303 ≠ gb297)); clear HO291; clear BK275; clear BK288; clear BK297; clear HB; have HO291 := n0_; have BK275 := n1_; have BK288 := n2_; have BK297 := n3_; have HB := n4_; have BK303 := n5_; have GW303 := n6_; have GE303 := n7_; have NB275_303 := n8_; have NB303_275 := n9_; have NB288_303 := n10_; have NB303_288 := n11_; have NB297_303 := n12_; have NB303_297 := n13_; clear n0_ n1_ n2_ n3_ n4_ n5_ n6_ n7_ n8_ n9_ n10_ n11_ n12_ n13_; clear hb hbox hg; have hnb59 := NB303_275.out; have hnc59 := NB275_303.out; have hnb60 := NB303_288.out; have hnc60 := NB288_303.out; have hnb61 := NB303_297.out; have hnc61 := NB297_303.out; have hcz62_0 : w58.cell? ⟨gb303, 0, none⟩ = some (.int .i64 0) := (blk_cell BK303.out 0).trans rfl; have hcz62_1 : w58.cell? ⟨gb303, 1, none⟩ = some (.string (⟨#[]⟩ : ByteArray)) := (blk_cell BK303.out 1).trans rfl; have hcz62_2 : w58.cell? ⟨gb303, 2, none⟩ = some (.int .i64 0) := (blk_cell BK303.out 2).trans rfl; have hcz62_3 : w58.cell? ⟨gb303, 3, none⟩ = some (.int .i64 0) := (blk_cell BK303.out 3).trans rfl; have hfz62_0 := blk_frozen BK303.out 0; have hfz62_1 := blk_frozen BK303.out 1; have hfz62_2 := blk_frozen BK303.out 2; have hfz62_3 := blk_frozen BK303.out 3) | ((with_reducible refine gate_callee (f := 9) rfl ?_); refine goesL_ (some 85) rfl rfl Tryd.func9 (by kernel_rfl) rfl #[.string (t280 ++ (⟨#[65, 65, 65, 65]⟩ : ByteArray))] rfl (by (try simp only [List.map_toArray, List.map_cons, List.map_nil]); first | done | rfl | (simp only [List.length_drop, List.length_take]; rfl)) ?_; (with_reducible refine Calls.mono (ticket_Open.callsT (t280 ++ (⟨#[65, 65, 65, 65]⟩ : ByteArray)) t304 t305 t306 t307 t308 _ ?_ A44.out) ?_); (focus exact HTG.out.below (by repeat (first | (with_reducible first | exact HB.out | apply below_alloc | apply pw_below_drewN | apply below_drew1 | refine below_set ?_ GE275.out | refine below_set ?_ GE288.out | refine below_set ?_ GE297.out | refine below_set ?_ GE303.out) | exact HB.out))); rintro e w63 ⟨rfl, hb⟩; refine ⟨_, rfl, ?_⟩; have n0_ := Aside0.mk (Kd.R_below (by (with_reducible repeat (first | apply Kd.R_alloc | apply Kd.R_drewN | apply Kd.R_drew)); exact (Kd.R_mono (Kd.R_far (p := ⟨gb303, 3, none⟩) (Kd.R_far (p := ⟨gb303, 2, none⟩) (Kd.R_far (p := ⟨gb303, 1, none⟩) (Kd.R_far (p := ⟨gb303, 0, none⟩) (Kd.R_types HO291.out BK303.out (by decide)) (fun _ hk => hk.2) (.int .i64 t298)) (fun _ hk => hk.2) (.string t299)) (fun _ hk => hk.2) (.int .i64 t300)) (fun _ hk => hk.2) (.int .i64 t301)) (fun _ h_ => h_.1))) hb); have n1_ := Aside0.mk (blk_below (g := gb275) (o := .cells #[.int .i64 t276, .string t277, .int .i64 t278, .int .i64 t279] 23 (0, 0)) (by (with_reducible repeat (first | refine blk_drewN ?_ _ | refine blk_drew ?_ | refine blk_alloc ?_ _)); refine blk_far ?_ NB275_303.out _; (with_reducible repeat (first | refine blk_drewN ?_ _ | refine blk_drew ?_ | refine blk_alloc ?_ _)); refine blk_far ?_ NB275_303.out _; (with_reducible repeat (first | refine blk_drewN ?_ _ | refine blk_drew ?_ | refine blk_alloc ?_ _)); refine blk_far ?_ NB275_303.out _; (with_reducible repeat (first | refine blk_drewN ?_ _ | refine blk_drew ?_ | refine blk_alloc ?_ _)); refine blk_far ?_ NB275_303.out _; (with_reducible repeat (first | refine blk_drewN ?_ _ | refine blk_drew ?_ | refine blk_alloc ?_ _)); exact BK275.out) hb); have n2_ := Aside0.mk (blk_below (g := gb288) (o := .cells #[.int .i64 t283, .string t284, .int .i64 t285, .int .i64 t286] 23 (0, 0)) (by (with_reducible repeat (first | refine blk_drewN ?_ _ | refine blk_drew ?_ | refine blk_alloc ?_ _)); refine blk_far ?_ NB288_303.out _; (with_reducible repeat (first | refine blk_drewN ?_ _ | refine blk_drew ?_ | refine blk_alloc ?_ _)); refine blk_far ?_ NB288_303.out _; (with_reducible repeat (first | refine blk_drewN ?_ _ | refine blk_drew ?_ | refine blk_alloc ?_ _)); refine blk_far ?_ NB288_303.out _; (with_reducible repeat (first | refine blk_drewN ?_ _ | refine blk_drew ?_ | refine blk_alloc ?_ _)); refine blk_far ?_ NB288_303.out _; (with_reducible repeat (first | refine blk_drewN ?_ _ | refine blk_drew ?_ | refine blk_alloc ?_ _)); exact BK288.out) hb); have n3_ := Aside0.mk (blk_below (g := gb297) (o := .cells #[.int .i64 t292, .string t293, .int .i64 t294, .int .i64 t295] 23 (0, 0)) (by (with_reducible repeat (first | refine blk_drewN ?_ _ | refine blk_drew ?_ | refine blk_alloc ?_ _)); refine blk_far ?_ NB297_303.out _; (with_reducible repeat (first | refine blk_drewN ?_ _ | refine blk_drew ?_ | refine blk_alloc ?_ _)); refine blk_far ?_ NB297_303.out _; (with_reducible repeat (first | refine blk_drewN ?_ _ | refine blk_drew ?_ | refine blk_alloc ?_ _)); refine blk_far ?_ NB297_303.out _; (with_reducible repeat (first | refine blk_drewN ?_ _ | refine blk_drew ?_ | refine blk_alloc ?_ _)); refine blk_far ?_ NB297_303.out _; (with_reducible repeat (first | refine blk_drewN ?_ _ | refine blk_drew ?_ | refine blk_alloc ?_ _)); exact BK297.out) hb); have n4_ := Aside0.mk (blk_below (g := gb303) (o := .cells #[.int .i64 t298, .string t299, .int .i64 t300, .int .i64 t301] 23 (0, 0)) (by (with_reducible repeat (first | refine blk_drewN ?_ _ | refine blk_drew ?_ | refine blk_alloc ?_ _)); refine blk_put (cs := #[.int .i64 t298, .string t299, .int .i64 t300, .int .i64 0]) ?_ 3 _ rfl; (with_reducible repeat (first | refine blk_drewN ?_ _ | refine blk_drew ?_ | refine blk_alloc ?_ _)); refine blk_put (cs := #[.int .i64 t298, .string t299, .int .i64 0, .int .i64 0]) ?_ 2 _ rfl; (with_reducible repeat (first | refine blk_drewN ?_ _ | refine blk_drew ?_ | refine blk_alloc ?_ _)); refine blk_put (cs := #[.int .i64 t298, .string (⟨#[]⟩ : ByteArray), .int .i64 0, .int .i64 0]) ?_ 1 _ rfl; (with_reducible repeat (first | refine blk_drewN ?_ _ | refine blk_drew ?_ | refine blk_alloc ?_ _)); refine blk_put (cs := #[.int .i64 0, .string (⟨#[]⟩ : ByteArray), .int .i64 0, .int .i64 0]) ?_ 0 _ rfl; (with_reducible repeat (first | refine blk_drewN ?_ _ | refine blk_drew ?_ | refine blk_alloc ?_ _)); exact BK303.out) hb); have n5_ := Aside0.mk (below_step (by repeat (first | (with_reducible first | exact HB.out | apply below_alloc | apply pw_below_drewN | apply below_drew1 | refine below_set ?_ GE275.out | refine below_set ?_ GE288.out | refine below_set ?_ GE297.out | refine below_set ?_ GE303.out) | exact HB.out)) hb); clear HO291; clear BK275; clear BK288; clear BK297; clear BK303; clear HB; have HO291 := n0_; have BK275 := n1_; have BK288 := n2_; have BK297 := n3_; have BK303 := n4_; have HB := n5_; clear n0_ n1_ n2_ n3_ n4_ n5_; (try clear hb); (try clear hb2); (try clear hk); (try clear hi)) | ((with_reducible refine gate_dst (N := 16) rfl ?_); (try (refine gate_guard (by rfl) ?_; dsimp only)); refine box_event ?hg (N := 16) ?hd (cs := #[.int .i64 0, .string (⟨#[]⟩ : ByteArray), .int .i64 0, .int .i64 0]) (t := 23) ?hr ?_; (case hd => rfl); (case hg => rfl); (case hr => first | (go_simp; done) | (go_simp; rfl)); intro gb309 hg w64 hbox hb; have n0_ := Aside0.mk (Kd.R_below (by (with_reducible repeat (first | apply Kd.R_alloc | apply Kd.R_drewN | apply Kd.R_drew)); exact HO291.out) hb); have n1_ := Aside0.mk (blk_below (g := gb275) (o := .cells #[.int .i64 t276, .string t277, .int .i64 t278, .int .i64 t279] 23 (0, 0)) (by (with_reducible repeat (first | refine blk_drewN ?_ _ | refine blk_drew ?_ | refine blk_alloc ?_ _)); exact BK275.out) hb); have n2_ := Aside0.mk (blk_below (g := gb288) (o := .cells #[.int .i64 t283, .string t284, .int .i64 t285, .int .i64 t286] 23 (0, 0)) (by (with_reducible repeat (first | refine blk_drewN ?_ _ | refine blk_drew ?_ | refine blk_alloc ?_ _)); exact BK288.out) hb); have n3_ := Aside0.mk (blk_below (g := gb297) (o := .cells #[.int .i64 t292, .string t293, .int .i64 t294, .int .i64 t295] 23 (0, 0)) (by (with_reducible repeat (first | refine blk_drewN ?_ _ | refine blk_drew ?_ | refine blk_alloc ?_ _)); exact BK297.out) hb); have n4_ := Aside0.mk (blk_below (g := gb303) (o := .cells #[.int .i64 t298, .string t299, .int .i64 t300, .int .i64 t301] 23 (0, 0)) (by (with_reducible repeat (first | refine blk_drewN ?_ _ | refine blk_drew ?_ | refine blk_alloc ?_ _)); exact BK303.out) hb); have n5_ := Aside0.mk (below_step (by repeat (first | (with_reducible first | exact HB.out | apply below_alloc | apply pw_below_drewN | apply below_drew1 | refine below_set ?_ GE275.out | refine below_set ?_ GE288.out | refine below_set ?_ GE297.out | refine below_set ?_ GE303.out) | exact HB.out)) hb); have n6_ := Aside0.mk (hbox); have n7_ := Aside0.mk ((by rw [hg]; exact (below_size (by repeat (first | (with_reducible first | exact HB.out | apply below_alloc | apply pw_below_drewN | apply below_drew1 | refine below_set ?_ GE275.out | refine below_set ?_ GE288.out | refine below_set ?_ GE297.out | refine below_set ?_ GE303.out) | exact HB.out))) : w.heap.size ≤ gb309)); have n8_ := Aside0.mk ((by rw [hg]; exact (below_size (by repeat (first | (with_reducible first | exact HB.out | apply below_alloc | apply pw_below_drewN | apply below_drew1 | refine below_set ?_ GE275.out | refine below_set ?_ GE288.out | refine below_set ?_ GE297.out | refine below_set ?_ GE303.out) | exact HB.out))) : w.heap.size ≤ gb309)); have n9_ := Aside0.mk ((by rw [hg]; exact Nat.ne_of_lt (blk_lt (g := gb275) (o := .cells #[.int .i64 t276, .string t277, .int .i64 t278, .int .i64 t279] 23 (0, 0)) (by (with_reducible repeat (first | refine blk_drewN ?_ _ | refine blk_drew ?_ | refine blk_alloc ?_ _)); exact BK275.out)) : gb275 ≠ gb309)); have n10_ := Aside0.mk ((by rw [hg]; exact Nat.ne_of_gt (blk_lt (g := gb275) (o := .cells #[.int .i64 t276, .string t277, .int .i64 t278, .int .i64 t279] 23 (0, 0)) (by (with_reducible repeat (first | refine blk_drewN ?_ _ | refine blk_drew ?_ | refine blk_alloc ?_ _)); exact BK275.out)) : gb309 ≠ gb275)); have n11_ := Aside0.mk ((by rw [hg]; exact Nat.ne_of_lt (blk_lt (g := gb288) (o := .cells #[.int .i64 t283, .string t284, .int .i64 t285, .int .i64 t286] 23 (0, 0)) (by (with_reducible repeat (first | refine blk_drewN ?_ _ | refine blk_drew ?_ | refine blk_alloc ?_ _)); exact BK288.out)) : gb288 ≠ gb309)); have n12_ := Aside0.mk ((by rw [hg]; exact Nat.ne_of_gt (blk_lt (g := gb288) (o := .cells #[.int .i64 t283, .string t284, .int .i64 t285, .int .i64 t286] 23 (0, 0)) (by (with_reducible repeat (first | refine blk_drewN ?_ _ | refine blk_drew ?_ | refine blk_alloc ?_ _)); exact BK288.out)) : gb309 ≠ gb288)); have n13_ := Aside0.mk ((by rw [hg]; exact Nat.ne_of_lt (blk_lt (g := gb297) (o := .cells #[.int .i64 t292, .string t293, .int .i64 t294, .int .i64 t295] 23 (0, 0)) (by (with_reducible repeat (first | refine blk_drewN ?_ _ | refine blk_drew ?_ | refine blk_alloc ?_ _)); exact BK297.out)) : gb297 ≠ gb309)); have n14_ := Aside0.mk ((by rw [hg]; exact Nat.ne_of_gt (blk_lt (g := gb297) (o := .cells #[.int .i64 t292, .string t293, .int .i64 t294, .int .i64 t295] 23 (0, 0)) (by (with_reducible repeat (first | refine blk_drewN ?_ _ | refine blk_drew ?_ | refine blk_alloc ?_ _)); exact BK297.out)) : gb309 ≠ gb297)); have n15_ := Aside0.mk ((by rw [hg]; exact Nat.ne_of_lt (blk_lt (g := gb303) (o := .cells #[.int .i64 t298, .string t299, .int .i64 t300, .int .i64 t301] 23 (0, 0)) (by (with_reducible repeat (first | refine blk_drewN ?_ _ | refine blk_drew ?_ | refine blk_alloc ?_ _)); exact BK303.out)) : gb303 ≠ gb309)); have n16_ := Aside0.mk ((by rw [hg]; exact Nat.ne_of_gt (blk_lt (g := gb303) (o := .cells #[.int .i64 t298, .string t299, .int .i64 t300, .int .i64 t301] 23 (0, 0)) (by (with_reducible repeat (first | refine blk_drewN ?_ _ | refine blk_drew ?_ | refine blk_alloc ?_ _)); exact BK303.out)) : gb309 ≠ gb303)); clear HO291; clear BK275; clear BK288; clear BK297; clear BK303; clear HB; have HO291 := n0_; have BK275 := n1_; have BK288 := n2_; have BK297 := n3_; have BK303 := n4_; have HB := n5_; have BK309 := n6_; have GW309 := n7_; have GE309 := n8_; have NB275_309 := n9_; have NB309_275 := n10_; have NB288_309 := n11_; have NB309_288 := n12_; have NB297_309 := n13_; have NB309_297 := n14_; have NB303_309 := n15_; have NB309_303 := n16_; clear n0_ n1_ n2_ n3_ n4_ n5_ n6_ n7_ n8_ n9_ n10_ n11_ n12_ n13_ n14_ n15_ n16_; clear hb hbox hg; have hnb65 := NB309_275.out; have hnc65 := NB275_309.out; have hnb66 := NB309_288.out; have hnc66 := NB288_309.out; have hnb67 := NB309_297.out; have hnc67 := NB297_309.out; have hnb68 := NB309_303.out; have hnc68 := NB303_309.out; have hcz69_0 : w64.cell? ⟨gb309, 0, none⟩ = some (.int .i64 0) := (blk_cell BK309.out 0).trans rfl; have hcz69_1 : w64.cell? ⟨gb309, 1, none⟩ = some (.string (⟨#[]⟩ : ByteArray)) := (blk_cell BK309.out 1).trans rfl; have hcz69_2 : w64.cell? ⟨gb309, 2, none⟩ = some (.int .i64 0) := (blk_cell BK309.out 2).trans rfl; have hcz69_3 : w64.cell? ⟨gb309, 3, none⟩ = some (.int .i64 0) := (blk_cell BK309.out 3).trans rfl; have hfz69_0 := blk_frozen BK309.out 0; have hfz69_1 := blk_frozen BK309.out 1; have hfz69_2 := blk_frozen BK309.out 2; have hfz69_3 := blk_frozen BK309.out 3))
                          (try simp only [Act.put, List.setIfInBounds_toArray, List.set_cons_zero, List.set_cons_succ])
                          go_cut [109] (fun v109 wc => ∃ (kq : Nat) (x109_44 : Bool), v109 = .bool x109_44 ∧ Aside0 (racewaylaw27_TicketBack.j1 kq x109_44 t298 t299 t300 t301 t304 t305 t306 t307 = some r) ∧ Aside0 (kq ≤ kj7) ∧ Aside0 (wc.heap[gb275]? = some (.cells #[.int .i64 t276, .string t277, .int .i64 t278, .int .i64 t279] 23 (0, 0))) ∧ Aside0 (wc.heap[gb288]? = some (.cells #[.int .i64 t283, .string t284, .int .i64 t285, .int .i64 t286] 23 (0, 0))) ∧ Aside0 (wc.heap[gb297]? = some (.cells #[.int .i64 t292, .string t293, .int .i64 t294, .int .i64 t295] 23 (0, 0))) ∧ Aside0 (wc.heap[gb303]? = some (.cells #[.int .i64 t298, .string t299, .int .i64 t300, .int .i64 t301] 23 (0, 0))) ∧ Aside0 (wc.heap[gb309]? = some (.cells #[.int .i64 t304, .string t305, .int .i64 t306, .int .i64 t307] 23 (0, 0))) ∧ Aside0 (Below w.heap.size w wc))
                          case first =>
                            have H := HC45.out
                            clear HC45
                            by_cases c70 : (ji31) < (t280.size : Int)
                            · rw [if_pos c70] at H
                              have c70b0 : decide ((ji31) < (t280.size : Int)) = true := decide_eq_true c70
                              clear c70
                              (first | rw [c70b0] | (simp only [i64_w, i32_w]; rw [c70b0]) | skip)
                              by_cases c72 : a2 = (bt t280 (ji31))
                              · rw [if_pos c72] at H
                                have c72b0 : (a2 == (bt t280 (ji31))) = true := beq_iff_eq.mpr c72
                                have c72b1 : (a2 != (bt t280 (ji31))) = false := bne_eq_false_iff_eq.mpr c72
                                clear c72
                                by_cases c73 : t302 = 12
                                · rw [if_pos c73] at H
                                  have c73b0 : (t302 == 12) = true := beq_iff_eq.mpr c73
                                  have c73b1 : (t302 != 12) = false := bne_eq_false_iff_eq.mpr c73
                                  clear c73
                                  have H' := Aside0.mk H
                                  clear H
                                  have p71 : 0 ≤ ((ji31) : Int) := of_decide_eq_true (by first | (with_reducible assumption) | assumption)
                                  have q71 : (ji31) < (t280.size : Int) := of_decide_eq_true (by first | (with_reducible assumption) | assumption)
                                  have hx71 := bt_at t280 (ji31)
                                  replace p71 := eq_true p71
                                  replace q71 := eq_true q71
                                  go_wp2
                                  go_meet
                                  case rel => exact ⟨_, ((t308 != 12)), (by first | rfl | (simp; done) | (simp [*]; done)), H', ⟨by have := HJ7.out; first | omega | exact Nat.le_refl _⟩, ⟨by (with_reducible repeat (first | refine blk_drewN ?_ _ | refine blk_drew ?_ | refine blk_alloc ?_ _)); refine blk_far ?_ NB275_309.out _; (with_reducible repeat (first | refine blk_drewN ?_ _ | refine blk_drew ?_ | refine blk_alloc ?_ _)); refine blk_far ?_ NB275_309.out _; (with_reducible repeat (first | refine blk_drewN ?_ _ | refine blk_drew ?_ | refine blk_alloc ?_ _)); refine blk_far ?_ NB275_309.out _; (with_reducible repeat (first | refine blk_drewN ?_ _ | refine blk_drew ?_ | refine blk_alloc ?_ _)); refine blk_far ?_ NB275_309.out _; (with_reducible repeat (first | refine blk_drewN ?_ _ | refine blk_drew ?_ | refine blk_alloc ?_ _)); exact BK275.out⟩, ⟨by (with_reducible repeat (first | refine blk_drewN ?_ _ | refine blk_drew ?_ | refine blk_alloc ?_ _)); refine blk_far ?_ NB288_309.out _; (with_reducible repeat (first | refine blk_drewN ?_ _ | refine blk_drew ?_ | refine blk_alloc ?_ _)); refine blk_far ?_ NB288_309.out _; (with_reducible repeat (first | refine blk_drewN ?_ _ | refine blk_drew ?_ | refine blk_alloc ?_ _)); refine blk_far ?_ NB288_309.out _; (with_reducible repeat (first | refine blk_drewN ?_ _ | refine blk_drew ?_ | refine blk_alloc ?_ _)); refine blk_far ?_ NB288_309.out _; (with_reducible repeat (first | refine blk_drewN ?_ _ | refine blk_drew ?_ | refine blk_alloc ?_ _)); exact BK288.out⟩, ⟨by (with_reducible repeat (first | refine blk_drewN ?_ _ | refine blk_drew ?_ | refine blk_alloc ?_ _)); refine blk_far ?_ NB297_309.out _; (with_reducible repeat (first | refine blk_drewN ?_ _ | refine blk_drew ?_ | refine blk_alloc ?_ _)); refine blk_far ?_ NB297_309.out _; (with_reducible repeat (first | refine blk_drewN ?_ _ | refine blk_drew ?_ | refine blk_alloc ?_ _)); refine blk_far ?_ NB297_309.out _; (with_reducible repeat (first | refine blk_drewN ?_ _ | refine blk_drew ?_ | refine blk_alloc ?_ _)); refine blk_far ?_ NB297_309.out _; (with_reducible repeat (first | refine blk_drewN ?_ _ | refine blk_drew ?_ | refine blk_alloc ?_ _)); exact BK297.out⟩, ⟨by (with_reducible repeat (first | refine blk_drewN ?_ _ | refine blk_drew ?_ | refine blk_alloc ?_ _)); refine blk_far ?_ NB303_309.out _; (with_reducible repeat (first | refine blk_drewN ?_ _ | refine blk_drew ?_ | refine blk_alloc ?_ _)); refine blk_far ?_ NB303_309.out _; (with_reducible repeat (first | refine blk_drewN ?_ _ | refine blk_drew ?_ | refine blk_alloc ?_ _)); refine blk_far ?_ NB303_309.out _; (with_reducible repeat (first | refine blk_drewN ?_ _ | refine blk_drew ?_ | refine blk_alloc ?_ _)); refine blk_far ?_ NB303_309.out _; (with_reducible repeat (first | refine blk_drewN ?_ _ | refine blk_drew ?_ | refine blk_alloc ?_ _)); exact BK303.out⟩, ⟨by (with_reducible repeat (first | refine blk_drewN ?_ _ | refine blk_drew ?_ | refine blk_alloc ?_ _)); refine blk_put (cs := #[.int .i64 t304, .string t305, .int .i64 t306, .int .i64 0]) ?_ 3 _ rfl; (with_reducible repeat (first | refine blk_drewN ?_ _ | refine blk_drew ?_ | refine blk_alloc ?_ _)); refine blk_put (cs := #[.int .i64 t304, .string t305, .int .i64 0, .int .i64 0]) ?_ 2 _ rfl; (with_reducible repeat (first | refine blk_drewN ?_ _ | refine blk_drew ?_ | refine blk_alloc ?_ _)); refine blk_put (cs := #[.int .i64 t304, .string (⟨#[]⟩ : ByteArray), .int .i64 0, .int .i64 0]) ?_ 1 _ rfl; (with_reducible repeat (first | refine blk_drewN ?_ _ | refine blk_drew ?_ | refine blk_alloc ?_ _)); refine blk_put (cs := #[.int .i64 0, .string (⟨#[]⟩ : ByteArray), .int .i64 0, .int .i64 0]) ?_ 0 _ rfl; (with_reducible repeat (first | refine blk_drewN ?_ _ | refine blk_drew ?_ | refine blk_alloc ?_ _)); exact BK309.out⟩, ⟨by repeat (first | (with_reducible first | exact HB.out | apply below_alloc | apply pw_below_drewN | apply below_drew1 | refine below_set ?_ GE275.out | refine below_set ?_ GE288.out | refine below_set ?_ GE297.out | refine below_set ?_ GE303.out | refine below_set ?_ GE309.out) | exact HB.out)⟩⟩
                                · rw [if_neg c73] at H
                                  have c73b0 : (t302 == 12) = false := beq_eq_false_iff_ne.mpr c73
                                  have c73b1 : (t302 != 12) = true := bne_iff_ne.mpr c73
                                  have H' := Aside0.mk H
                                  clear H
                                  have p71 : 0 ≤ ((ji31) : Int) := of_decide_eq_true (by first | (with_reducible assumption) | assumption)
                                  have q71 : (ji31) < (t280.size : Int) := of_decide_eq_true (by first | (with_reducible assumption) | assumption)
                                  have hx71 := bt_at t280 (ji31)
                                  replace p71 := eq_true p71
                                  replace q71 := eq_true q71
                                  go_wp2
                                  go_meet
                                  case rel => exact ⟨_, (true), (by first | rfl | (simp; done) | (simp [*]; done)), H', ⟨by have := HJ7.out; first | omega | exact Nat.le_refl _⟩, ⟨by (with_reducible repeat (first | refine blk_drewN ?_ _ | refine blk_drew ?_ | refine blk_alloc ?_ _)); refine blk_far ?_ NB275_309.out _; (with_reducible repeat (first | refine blk_drewN ?_ _ | refine blk_drew ?_ | refine blk_alloc ?_ _)); refine blk_far ?_ NB275_309.out _; (with_reducible repeat (first | refine blk_drewN ?_ _ | refine blk_drew ?_ | refine blk_alloc ?_ _)); refine blk_far ?_ NB275_309.out _; (with_reducible repeat (first | refine blk_drewN ?_ _ | refine blk_drew ?_ | refine blk_alloc ?_ _)); refine blk_far ?_ NB275_309.out _; (with_reducible repeat (first | refine blk_drewN ?_ _ | refine blk_drew ?_ | refine blk_alloc ?_ _)); exact BK275.out⟩, ⟨by (with_reducible repeat (first | refine blk_drewN ?_ _ | refine blk_drew ?_ | refine blk_alloc ?_ _)); refine blk_far ?_ NB288_309.out _; (with_reducible repeat (first | refine blk_drewN ?_ _ | refine blk_drew ?_ | refine blk_alloc ?_ _)); refine blk_far ?_ NB288_309.out _; (with_reducible repeat (first | refine blk_drewN ?_ _ | refine blk_drew ?_ | refine blk_alloc ?_ _)); refine blk_far ?_ NB288_309.out _; (with_reducible repeat (first | refine blk_drewN ?_ _ | refine blk_drew ?_ | refine blk_alloc ?_ _)); refine blk_far ?_ NB288_309.out _; (with_reducible repeat (first | refine blk_drewN ?_ _ | refine blk_drew ?_ | refine blk_alloc ?_ _)); exact BK288.out⟩, ⟨by (with_reducible repeat (first | refine blk_drewN ?_ _ | refine blk_drew ?_ | refine blk_alloc ?_ _)); refine blk_far ?_ NB297_309.out _; (with_reducible repeat (first | refine blk_drewN ?_ _ | refine blk_drew ?_ | refine blk_alloc ?_ _)); refine blk_far ?_ NB297_309.out _; (with_reducible repeat (first | refine blk_drewN ?_ _ | refine blk_drew ?_ | refine blk_alloc ?_ _)); refine blk_far ?_ NB297_309.out _; (with_reducible repeat (first | refine blk_drewN ?_ _ | refine blk_drew ?_ | refine blk_alloc ?_ _)); refine blk_far ?_ NB297_309.out _; (with_reducible repeat (first | refine blk_drewN ?_ _ | refine blk_drew ?_ | refine blk_alloc ?_ _)); exact BK297.out⟩, ⟨by (with_reducible repeat (first | refine blk_drewN ?_ _ | refine blk_drew ?_ | refine blk_alloc ?_ _)); refine blk_far ?_ NB303_309.out _; (with_reducible repeat (first | refine blk_drewN ?_ _ | refine blk_drew ?_ | refine blk_alloc ?_ _)); refine blk_far ?_ NB303_309.out _; (with_reducible repeat (first | refine blk_drewN ?_ _ | refine blk_drew ?_ | refine blk_alloc ?_ _)); refine blk_far ?_ NB303_309.out _; (with_reducible repeat (first | refine blk_drewN ?_ _ | refine blk_drew ?_ | refine blk_alloc ?_ _)); refine blk_far ?_ NB303_309.out _; (with_reducible repeat (first | refine blk_drewN ?_ _ | refine blk_drew ?_ | refine blk_alloc ?_ _)); exact BK303.out⟩, ⟨by (with_reducible repeat (first | refine blk_drewN ?_ _ | refine blk_drew ?_ | refine blk_alloc ?_ _)); refine blk_put (cs := #[.int .i64 t304, .string t305, .int .i64 t306, .int .i64 0]) ?_ 3 _ rfl; (with_reducible repeat (first | refine blk_drewN ?_ _ | refine blk_drew ?_ | refine blk_alloc ?_ _)); refine blk_put (cs := #[.int .i64 t304, .string t305, .int .i64 0, .int .i64 0]) ?_ 2 _ rfl; (with_reducible repeat (first | refine blk_drewN ?_ _ | refine blk_drew ?_ | refine blk_alloc ?_ _)); refine blk_put (cs := #[.int .i64 t304, .string (⟨#[]⟩ : ByteArray), .int .i64 0, .int .i64 0]) ?_ 1 _ rfl; (with_reducible repeat (first | refine blk_drewN ?_ _ | refine blk_drew ?_ | refine blk_alloc ?_ _)); refine blk_put (cs := #[.int .i64 0, .string (⟨#[]⟩ : ByteArray), .int .i64 0, .int .i64 0]) ?_ 0 _ rfl; (with_reducible repeat (first | refine blk_drewN ?_ _ | refine blk_drew ?_ | refine blk_alloc ?_ _)); exact BK309.out⟩, ⟨by repeat (first | (with_reducible first | exact HB.out | apply below_alloc | apply pw_below_drewN | apply below_drew1 | refine below_set ?_ GE275.out | refine below_set ?_ GE288.out | refine below_set ?_ GE297.out | refine below_set ?_ GE303.out | refine below_set ?_ GE309.out) | exact HB.out)⟩⟩
                              · rw [if_neg c72] at H
                                have c72b0 : (a2 == (bt t280 (ji31))) = false := beq_eq_false_iff_ne.mpr c72
                                have c72b1 : (a2 != (bt t280 (ji31))) = true := bne_iff_ne.mpr c72
                                by_cases c74 : t296 = 0
                                · rw [if_pos c74] at H
                                  have c74b0 : (t296 == 0) = true := beq_iff_eq.mpr c74
                                  have c74b1 : (t296 != 0) = false := bne_eq_false_iff_eq.mpr c74
                                  clear c74
                                  by_cases c75 : (t292 == t276 && (t293.toList == t277.toList && (t294 == t278 && (t295 == t279)))) = true
                                  · rw [if_pos c75] at H
                                    have c75b0 : (t292 == t276 && (t293.toList == t277.toList && (t294 == t278 && (t295 == t279)))) = true := c75
                                    (try (have c75b1 : decide (t292 = t276 && (t293.toList == t277.toList && (t294 == t278 && (t295 == t279)))) = true := by simpa using c75))
                                    (try (have c75b2 : (t292 == t276 && (t293.toList == t277.toList && (t294 == t278 && (t295 == t279)))) = true := by simpa using c75))
                                    clear c75
                                    have H' := Aside0.mk H
                                    clear H
                                    have p71 : 0 ≤ ((ji31) : Int) := of_decide_eq_true (by first | (with_reducible assumption) | assumption)
                                    have q71 : (ji31) < (t280.size : Int) := of_decide_eq_true (by first | (with_reducible assumption) | assumption)
                                    have hx71 := bt_at t280 (ji31)
                                    replace p71 := eq_true p71
                                    replace q71 := eq_true q71
                                    have hnb76 := NB297_275.out
                                    have hnc76 := NB275_297.out
                                    have hnb77 := NB297_288.out
                                    have hnc77 := NB288_297.out
                                    have hnb78 := NB297_303.out
                                    have hnc78 := NB303_297.out
                                    have hnb79 := NB297_309.out
                                    have hnc79 := NB309_297.out
                                    have hcz80_0 : w64.cell? ⟨gb297, 0, none⟩ = some (.int .i64 t292) := (blk_cell BK297.out 0).trans rfl
                                    have hcz80_1 : w64.cell? ⟨gb297, 1, none⟩ = some (.string t293) := (blk_cell BK297.out 1).trans rfl
                                    have hcz80_2 : w64.cell? ⟨gb297, 2, none⟩ = some (.int .i64 t294) := (blk_cell BK297.out 2).trans rfl
                                    have hcz80_3 : w64.cell? ⟨gb297, 3, none⟩ = some (.int .i64 t295) := (blk_cell BK297.out 3).trans rfl
                                    have hfz80_0 := blk_frozen BK297.out 0
                                    have hfz80_1 := blk_frozen BK297.out 1
                                    have hfz80_2 := blk_frozen BK297.out 2
                                    have hfz80_3 := blk_frozen BK297.out 3
                                    have hnb81 := NB275_288.out
                                    have hnc81 := NB288_275.out
                                    have hnb82 := NB275_303.out
                                    have hnc82 := NB303_275.out
                                    have hnb83 := NB275_309.out
                                    have hnc83 := NB309_275.out
                                    have hcz84_0 : w64.cell? ⟨gb275, 0, none⟩ = some (.int .i64 t276) := (blk_cell BK275.out 0).trans rfl
                                    have hcz84_1 : w64.cell? ⟨gb275, 1, none⟩ = some (.string t277) := (blk_cell BK275.out 1).trans rfl
                                    have hcz84_2 : w64.cell? ⟨gb275, 2, none⟩ = some (.int .i64 t278) := (blk_cell BK275.out 2).trans rfl
                                    have hcz84_3 : w64.cell? ⟨gb275, 3, none⟩ = some (.int .i64 t279) := (blk_cell BK275.out 3).trans rfl
                                    have hfz84_0 := blk_frozen BK275.out 0
                                    have hfz84_1 := blk_frozen BK275.out 1
                                    have hfz84_2 := blk_frozen BK275.out 2
                                    have hfz84_3 := blk_frozen BK275.out 3
                                    go_wp2
                                    go_meet
                                    case rel => exact ⟨_, (true), (by first | rfl | (simp; done) | (simp [*]; done)), H', ⟨by have := HJ7.out; first | omega | exact Nat.le_refl _⟩, ⟨by (with_reducible repeat (first | refine blk_drewN ?_ _ | refine blk_drew ?_ | refine blk_alloc ?_ _)); refine blk_far ?_ NB275_309.out _; (with_reducible repeat (first | refine blk_drewN ?_ _ | refine blk_drew ?_ | refine blk_alloc ?_ _)); refine blk_far ?_ NB275_309.out _; (with_reducible repeat (first | refine blk_drewN ?_ _ | refine blk_drew ?_ | refine blk_alloc ?_ _)); refine blk_far ?_ NB275_309.out _; (with_reducible repeat (first | refine blk_drewN ?_ _ | refine blk_drew ?_ | refine blk_alloc ?_ _)); refine blk_far ?_ NB275_309.out _; (with_reducible repeat (first | refine blk_drewN ?_ _ | refine blk_drew ?_ | refine blk_alloc ?_ _)); exact BK275.out⟩, ⟨by (with_reducible repeat (first | refine blk_drewN ?_ _ | refine blk_drew ?_ | refine blk_alloc ?_ _)); refine blk_far ?_ NB288_309.out _; (with_reducible repeat (first | refine blk_drewN ?_ _ | refine blk_drew ?_ | refine blk_alloc ?_ _)); refine blk_far ?_ NB288_309.out _; (with_reducible repeat (first | refine blk_drewN ?_ _ | refine blk_drew ?_ | refine blk_alloc ?_ _)); refine blk_far ?_ NB288_309.out _; (with_reducible repeat (first | refine blk_drewN ?_ _ | refine blk_drew ?_ | refine blk_alloc ?_ _)); refine blk_far ?_ NB288_309.out _; (with_reducible repeat (first | refine blk_drewN ?_ _ | refine blk_drew ?_ | refine blk_alloc ?_ _)); exact BK288.out⟩, ⟨by (with_reducible repeat (first | refine blk_drewN ?_ _ | refine blk_drew ?_ | refine blk_alloc ?_ _)); refine blk_far ?_ NB297_309.out _; (with_reducible repeat (first | refine blk_drewN ?_ _ | refine blk_drew ?_ | refine blk_alloc ?_ _)); refine blk_far ?_ NB297_309.out _; (with_reducible repeat (first | refine blk_drewN ?_ _ | refine blk_drew ?_ | refine blk_alloc ?_ _)); refine blk_far ?_ NB297_309.out _; (with_reducible repeat (first | refine blk_drewN ?_ _ | refine blk_drew ?_ | refine blk_alloc ?_ _)); refine blk_far ?_ NB297_309.out _; (with_reducible repeat (first | refine blk_drewN ?_ _ | refine blk_drew ?_ | refine blk_alloc ?_ _)); exact BK297.out⟩, ⟨by (with_reducible repeat (first | refine blk_drewN ?_ _ | refine blk_drew ?_ | refine blk_alloc ?_ _)); refine blk_far ?_ NB303_309.out _; (with_reducible repeat (first | refine blk_drewN ?_ _ | refine blk_drew ?_ | refine blk_alloc ?_ _)); refine blk_far ?_ NB303_309.out _; (with_reducible repeat (first | refine blk_drewN ?_ _ | refine blk_drew ?_ | refine blk_alloc ?_ _)); refine blk_far ?_ NB303_309.out _; (with_reducible repeat (first | refine blk_drewN ?_ _ | refine blk_drew ?_ | refine blk_alloc ?_ _)); refine blk_far ?_ NB303_309.out _; (with_reducible repeat (first | refine blk_drewN ?_ _ | refine blk_drew ?_ | refine blk_alloc ?_ _)); exact BK303.out⟩, ⟨by (with_reducible repeat (first | refine blk_drewN ?_ _ | refine blk_drew ?_ | refine blk_alloc ?_ _)); refine blk_put (cs := #[.int .i64 t304, .string t305, .int .i64 t306, .int .i64 0]) ?_ 3 _ rfl; (with_reducible repeat (first | refine blk_drewN ?_ _ | refine blk_drew ?_ | refine blk_alloc ?_ _)); refine blk_put (cs := #[.int .i64 t304, .string t305, .int .i64 0, .int .i64 0]) ?_ 2 _ rfl; (with_reducible repeat (first | refine blk_drewN ?_ _ | refine blk_drew ?_ | refine blk_alloc ?_ _)); refine blk_put (cs := #[.int .i64 t304, .string (⟨#[]⟩ : ByteArray), .int .i64 0, .int .i64 0]) ?_ 1 _ rfl; (with_reducible repeat (first | refine blk_drewN ?_ _ | refine blk_drew ?_ | refine blk_alloc ?_ _)); refine blk_put (cs := #[.int .i64 0, .string (⟨#[]⟩ : ByteArray), .int .i64 0, .int .i64 0]) ?_ 0 _ rfl; (with_reducible repeat (first | refine blk_drewN ?_ _ | refine blk_drew ?_ | refine blk_alloc ?_ _)); exact BK309.out⟩, ⟨by repeat (first | (with_reducible first | exact HB.out | apply below_alloc | apply pw_below_drewN | apply below_drew1 | refine below_set ?_ GE275.out | refine below_set ?_ GE288.out | refine below_set ?_ GE297.out | refine below_set ?_ GE303.out | refine below_set ?_ GE309.out) | exact HB.out)⟩⟩
                                  · rw [if_neg c75] at H
                                    have c75b0 : (t292 == t276 && (t293.toList == t277.toList && (t294 == t278 && (t295 == t279)))) = false := by simpa using c75
                                    (try (have c75b1 : decide (t292 = t276 && (t293.toList == t277.toList && (t294 == t278 && (t295 == t279)))) = false := by simpa using c75))
                                    (try (have c75b2 : (t292 == t276 && (t293.toList == t277.toList && (t294 == t278 && (t295 == t279)))) = false := by simpa using c75))
                                    (try (have c75b3 : ¬ (t292 = t276 && (t293.toList == t277.toList && (t294 == t278 && (t295 == t279)))) := by simpa using c75))
                                    clear c75
                                    by_cases c85 : t302 = 12
                                    · rw [if_pos c85] at H
                                      have c85b0 : (t302 == 12) = true := beq_iff_eq.mpr c85
                                      have c85b1 : (t302 != 12) = false := bne_eq_false_iff_eq.mpr c85
                                      clear c85
                                      have H' := Aside0.mk H
                                      clear H
                                      have p71 : 0 ≤ ((ji31) : Int) := of_decide_eq_true (by first | (with_reducible assumption) | assumption)
                                      have q71 : (ji31) < (t280.size : Int) := of_decide_eq_true (by first | (with_reducible assumption) | assumption)
                                      have hx71 := bt_at t280 (ji31)
                                      replace p71 := eq_true p71
                                      replace q71 := eq_true q71
                                      have hnb86 := NB297_275.out
                                      have hnc86 := NB275_297.out
                                      have hnb87 := NB297_288.out
                                      have hnc87 := NB288_297.out
                                      have hnb88 := NB297_303.out
                                      have hnc88 := NB303_297.out
                                      have hnb89 := NB297_309.out
                                      have hnc89 := NB309_297.out
                                      have hcz90_0 : w64.cell? ⟨gb297, 0, none⟩ = some (.int .i64 t292) := (blk_cell BK297.out 0).trans rfl
                                      have hcz90_1 : w64.cell? ⟨gb297, 1, none⟩ = some (.string t293) := (blk_cell BK297.out 1).trans rfl
                                      have hcz90_2 : w64.cell? ⟨gb297, 2, none⟩ = some (.int .i64 t294) := (blk_cell BK297.out 2).trans rfl
                                      have hcz90_3 : w64.cell? ⟨gb297, 3, none⟩ = some (.int .i64 t295) := (blk_cell BK297.out 3).trans rfl
                                      have hfz90_0 := blk_frozen BK297.out 0
                                      have hfz90_1 := blk_frozen BK297.out 1
                                      have hfz90_2 := blk_frozen BK297.out 2
                                      have hfz90_3 := blk_frozen BK297.out 3
                                      have hnb91 := NB275_288.out
                                      have hnc91 := NB288_275.out
                                      have hnb92 := NB275_303.out
                                      have hnc92 := NB303_275.out
                                      have hnb93 := NB275_309.out
                                      have hnc93 := NB309_275.out
                                      have hcz94_0 : w64.cell? ⟨gb275, 0, none⟩ = some (.int .i64 t276) := (blk_cell BK275.out 0).trans rfl
                                      have hcz94_1 : w64.cell? ⟨gb275, 1, none⟩ = some (.string t277) := (blk_cell BK275.out 1).trans rfl
                                      have hcz94_2 : w64.cell? ⟨gb275, 2, none⟩ = some (.int .i64 t278) := (blk_cell BK275.out 2).trans rfl
                                      have hcz94_3 : w64.cell? ⟨gb275, 3, none⟩ = some (.int .i64 t279) := (blk_cell BK275.out 3).trans rfl
                                      have hfz94_0 := blk_frozen BK275.out 0
                                      have hfz94_1 := blk_frozen BK275.out 1
                                      have hfz94_2 := blk_frozen BK275.out 2
                                      have hfz94_3 := blk_frozen BK275.out 3
                                      go_wp2
                                      go_meet
                                      case rel => exact ⟨_, ((t308 != 12)), (by first | rfl | (simp; done) | (simp [*]; done)), H', ⟨by have := HJ7.out; first | omega | exact Nat.le_refl _⟩, ⟨by (with_reducible repeat (first | refine blk_drewN ?_ _ | refine blk_drew ?_ | refine blk_alloc ?_ _)); refine blk_far ?_ NB275_309.out _; (with_reducible repeat (first | refine blk_drewN ?_ _ | refine blk_drew ?_ | refine blk_alloc ?_ _)); refine blk_far ?_ NB275_309.out _; (with_reducible repeat (first | refine blk_drewN ?_ _ | refine blk_drew ?_ | refine blk_alloc ?_ _)); refine blk_far ?_ NB275_309.out _; (with_reducible repeat (first | refine blk_drewN ?_ _ | refine blk_drew ?_ | refine blk_alloc ?_ _)); refine blk_far ?_ NB275_309.out _; (with_reducible repeat (first | refine blk_drewN ?_ _ | refine blk_drew ?_ | refine blk_alloc ?_ _)); exact BK275.out⟩, ⟨by (with_reducible repeat (first | refine blk_drewN ?_ _ | refine blk_drew ?_ | refine blk_alloc ?_ _)); refine blk_far ?_ NB288_309.out _; (with_reducible repeat (first | refine blk_drewN ?_ _ | refine blk_drew ?_ | refine blk_alloc ?_ _)); refine blk_far ?_ NB288_309.out _; (with_reducible repeat (first | refine blk_drewN ?_ _ | refine blk_drew ?_ | refine blk_alloc ?_ _)); refine blk_far ?_ NB288_309.out _; (with_reducible repeat (first | refine blk_drewN ?_ _ | refine blk_drew ?_ | refine blk_alloc ?_ _)); refine blk_far ?_ NB288_309.out _; (with_reducible repeat (first | refine blk_drewN ?_ _ | refine blk_drew ?_ | refine blk_alloc ?_ _)); exact BK288.out⟩, ⟨by (with_reducible repeat (first | refine blk_drewN ?_ _ | refine blk_drew ?_ | refine blk_alloc ?_ _)); refine blk_far ?_ NB297_309.out _; (with_reducible repeat (first | refine blk_drewN ?_ _ | refine blk_drew ?_ | refine blk_alloc ?_ _)); refine blk_far ?_ NB297_309.out _; (with_reducible repeat (first | refine blk_drewN ?_ _ | refine blk_drew ?_ | refine blk_alloc ?_ _)); refine blk_far ?_ NB297_309.out _; (with_reducible repeat (first | refine blk_drewN ?_ _ | refine blk_drew ?_ | refine blk_alloc ?_ _)); refine blk_far ?_ NB297_309.out _; (with_reducible repeat (first | refine blk_drewN ?_ _ | refine blk_drew ?_ | refine blk_alloc ?_ _)); exact BK297.out⟩, ⟨by (with_reducible repeat (first | refine blk_drewN ?_ _ | refine blk_drew ?_ | refine blk_alloc ?_ _)); refine blk_far ?_ NB303_309.out _; (with_reducible repeat (first | refine blk_drewN ?_ _ | refine blk_drew ?_ | refine blk_alloc ?_ _)); refine blk_far ?_ NB303_309.out _; (with_reducible repeat (first | refine blk_drewN ?_ _ | refine blk_drew ?_ | refine blk_alloc ?_ _)); refine blk_far ?_ NB303_309.out _; (with_reducible repeat (first | refine blk_drewN ?_ _ | refine blk_drew ?_ | refine blk_alloc ?_ _)); refine blk_far ?_ NB303_309.out _; (with_reducible repeat (first | refine blk_drewN ?_ _ | refine blk_drew ?_ | refine blk_alloc ?_ _)); exact BK303.out⟩, ⟨by (with_reducible repeat (first | refine blk_drewN ?_ _ | refine blk_drew ?_ | refine blk_alloc ?_ _)); refine blk_put (cs := #[.int .i64 t304, .string t305, .int .i64 t306, .int .i64 0]) ?_ 3 _ rfl; (with_reducible repeat (first | refine blk_drewN ?_ _ | refine blk_drew ?_ | refine blk_alloc ?_ _)); refine blk_put (cs := #[.int .i64 t304, .string t305, .int .i64 0, .int .i64 0]) ?_ 2 _ rfl; (with_reducible repeat (first | refine blk_drewN ?_ _ | refine blk_drew ?_ | refine blk_alloc ?_ _)); refine blk_put (cs := #[.int .i64 t304, .string (⟨#[]⟩ : ByteArray), .int .i64 0, .int .i64 0]) ?_ 1 _ rfl; (with_reducible repeat (first | refine blk_drewN ?_ _ | refine blk_drew ?_ | refine blk_alloc ?_ _)); refine blk_put (cs := #[.int .i64 0, .string (⟨#[]⟩ : ByteArray), .int .i64 0, .int .i64 0]) ?_ 0 _ rfl; (with_reducible repeat (first | refine blk_drewN ?_ _ | refine blk_drew ?_ | refine blk_alloc ?_ _)); exact BK309.out⟩, ⟨by repeat (first | (with_reducible first | exact HB.out | apply below_alloc | apply pw_below_drewN | apply below_drew1 | refine below_set ?_ GE275.out | refine below_set ?_ GE288.out | refine below_set ?_ GE297.out | refine below_set ?_ GE303.out | refine below_set ?_ GE309.out) | exact HB.out)⟩⟩
                                    · rw [if_neg c85] at H
                                      have c85b0 : (t302 == 12) = false := beq_eq_false_iff_ne.mpr c85
                                      have c85b1 : (t302 != 12) = true := bne_iff_ne.mpr c85
                                      have H' := Aside0.mk H
                                      clear H
                                      have p71 : 0 ≤ ((ji31) : Int) := of_decide_eq_true (by first | (with_reducible assumption) | assumption)
                                      have q71 : (ji31) < (t280.size : Int) := of_decide_eq_true (by first | (with_reducible assumption) | assumption)
                                      have hx71 := bt_at t280 (ji31)
                                      replace p71 := eq_true p71
                                      replace q71 := eq_true q71
                                      have hnb95 := NB297_275.out
                                      have hnc95 := NB275_297.out
                                      have hnb96 := NB297_288.out
                                      have hnc96 := NB288_297.out
                                      have hnb97 := NB297_303.out
                                      have hnc97 := NB303_297.out
                                      have hnb98 := NB297_309.out
                                      have hnc98 := NB309_297.out
                                      have hcz99_0 : w64.cell? ⟨gb297, 0, none⟩ = some (.int .i64 t292) := (blk_cell BK297.out 0).trans rfl
                                      have hcz99_1 : w64.cell? ⟨gb297, 1, none⟩ = some (.string t293) := (blk_cell BK297.out 1).trans rfl
                                      have hcz99_2 : w64.cell? ⟨gb297, 2, none⟩ = some (.int .i64 t294) := (blk_cell BK297.out 2).trans rfl
                                      have hcz99_3 : w64.cell? ⟨gb297, 3, none⟩ = some (.int .i64 t295) := (blk_cell BK297.out 3).trans rfl
                                      have hfz99_0 := blk_frozen BK297.out 0
                                      have hfz99_1 := blk_frozen BK297.out 1
                                      have hfz99_2 := blk_frozen BK297.out 2
                                      have hfz99_3 := blk_frozen BK297.out 3
                                      have hnb100 := NB275_288.out
                                      have hnc100 := NB288_275.out
                                      have hnb101 := NB275_303.out
                                      have hnc101 := NB303_275.out
                                      have hnb102 := NB275_309.out
                                      have hnc102 := NB309_275.out
                                      have hcz103_0 : w64.cell? ⟨gb275, 0, none⟩ = some (.int .i64 t276) := (blk_cell BK275.out 0).trans rfl
                                      have hcz103_1 : w64.cell? ⟨gb275, 1, none⟩ = some (.string t277) := (blk_cell BK275.out 1).trans rfl
                                      have hcz103_2 : w64.cell? ⟨gb275, 2, none⟩ = some (.int .i64 t278) := (blk_cell BK275.out 2).trans rfl
                                      have hcz103_3 : w64.cell? ⟨gb275, 3, none⟩ = some (.int .i64 t279) := (blk_cell BK275.out 3).trans rfl
                                      have hfz103_0 := blk_frozen BK275.out 0
                                      have hfz103_1 := blk_frozen BK275.out 1
                                      have hfz103_2 := blk_frozen BK275.out 2
                                      have hfz103_3 := blk_frozen BK275.out 3
                                      go_wp2
                                      go_meet
                                      case rel => exact ⟨_, (true), (by first | rfl | (simp; done) | (simp [*]; done)), H', ⟨by have := HJ7.out; first | omega | exact Nat.le_refl _⟩, ⟨by (with_reducible repeat (first | refine blk_drewN ?_ _ | refine blk_drew ?_ | refine blk_alloc ?_ _)); refine blk_far ?_ NB275_309.out _; (with_reducible repeat (first | refine blk_drewN ?_ _ | refine blk_drew ?_ | refine blk_alloc ?_ _)); refine blk_far ?_ NB275_309.out _; (with_reducible repeat (first | refine blk_drewN ?_ _ | refine blk_drew ?_ | refine blk_alloc ?_ _)); refine blk_far ?_ NB275_309.out _; (with_reducible repeat (first | refine blk_drewN ?_ _ | refine blk_drew ?_ | refine blk_alloc ?_ _)); refine blk_far ?_ NB275_309.out _; (with_reducible repeat (first | refine blk_drewN ?_ _ | refine blk_drew ?_ | refine blk_alloc ?_ _)); exact BK275.out⟩, ⟨by (with_reducible repeat (first | refine blk_drewN ?_ _ | refine blk_drew ?_ | refine blk_alloc ?_ _)); refine blk_far ?_ NB288_309.out _; (with_reducible repeat (first | refine blk_drewN ?_ _ | refine blk_drew ?_ | refine blk_alloc ?_ _)); refine blk_far ?_ NB288_309.out _; (with_reducible repeat (first | refine blk_drewN ?_ _ | refine blk_drew ?_ | refine blk_alloc ?_ _)); refine blk_far ?_ NB288_309.out _; (with_reducible repeat (first | refine blk_drewN ?_ _ | refine blk_drew ?_ | refine blk_alloc ?_ _)); refine blk_far ?_ NB288_309.out _; (with_reducible repeat (first | refine blk_drewN ?_ _ | refine blk_drew ?_ | refine blk_alloc ?_ _)); exact BK288.out⟩, ⟨by (with_reducible repeat (first | refine blk_drewN ?_ _ | refine blk_drew ?_ | refine blk_alloc ?_ _)); refine blk_far ?_ NB297_309.out _; (with_reducible repeat (first | refine blk_drewN ?_ _ | refine blk_drew ?_ | refine blk_alloc ?_ _)); refine blk_far ?_ NB297_309.out _; (with_reducible repeat (first | refine blk_drewN ?_ _ | refine blk_drew ?_ | refine blk_alloc ?_ _)); refine blk_far ?_ NB297_309.out _; (with_reducible repeat (first | refine blk_drewN ?_ _ | refine blk_drew ?_ | refine blk_alloc ?_ _)); refine blk_far ?_ NB297_309.out _; (with_reducible repeat (first | refine blk_drewN ?_ _ | refine blk_drew ?_ | refine blk_alloc ?_ _)); exact BK297.out⟩, ⟨by (with_reducible repeat (first | refine blk_drewN ?_ _ | refine blk_drew ?_ | refine blk_alloc ?_ _)); refine blk_far ?_ NB303_309.out _; (with_reducible repeat (first | refine blk_drewN ?_ _ | refine blk_drew ?_ | refine blk_alloc ?_ _)); refine blk_far ?_ NB303_309.out _; (with_reducible repeat (first | refine blk_drewN ?_ _ | refine blk_drew ?_ | refine blk_alloc ?_ _)); refine blk_far ?_ NB303_309.out _; (with_reducible repeat (first | refine blk_drewN ?_ _ | refine blk_drew ?_ | refine blk_alloc ?_ _)); refine blk_far ?_ NB303_309.out _; (with_reducible repeat (first | refine blk_drewN ?_ _ | refine blk_drew ?_ | refine blk_alloc ?_ _)); exact BK303.out⟩, ⟨by (with_reducible repeat (first | refine blk_drewN ?_ _ | refine blk_drew ?_ | refine blk_alloc ?_ _)); refine blk_put (cs := #[.int .i64 t304, .string t305, .int .i64 t306, .int .i64 0]) ?_ 3 _ rfl; (with_reducible repeat (first | refine blk_drewN ?_ _ | refine blk_drew ?_ | refine blk_alloc ?_ _)); refine blk_put (cs := #[.int .i64 t304, .string t305, .int .i64 0, .int .i64 0]) ?_ 2 _ rfl; (with_reducible repeat (first | refine blk_drewN ?_ _ | refine blk_drew ?_ | refine blk_alloc ?_ _)); refine blk_put (cs := #[.int .i64 t304, .string (⟨#[]⟩ : ByteArray), .int .i64 0, .int .i64 0]) ?_ 1 _ rfl; (with_reducible repeat (first | refine blk_drewN ?_ _ | refine blk_drew ?_ | refine blk_alloc ?_ _)); refine blk_put (cs := #[.int .i64 0, .string (⟨#[]⟩ : ByteArray), .int .i64 0, .int .i64 0]) ?_ 0 _ rfl; (with_reducible repeat (first | refine blk_drewN ?_ _ | refine blk_drew ?_ | refine blk_alloc ?_ _)); exact BK309.out⟩, ⟨by repeat (first | (with_reducible first | exact HB.out | apply below_alloc | apply pw_below_drewN | apply below_drew1 | refine below_set ?_ GE275.out | refine below_set ?_ GE288.out | refine below_set ?_ GE297.out | refine below_set ?_ GE303.out | refine below_set ?_ GE309.out) | exact HB.out)⟩⟩
                                · rw [if_neg c74] at H
                                  have c74b0 : (t296 == 0) = false := beq_eq_false_iff_ne.mpr c74
                                  have c74b1 : (t296 != 0) = true := bne_iff_ne.mpr c74
                                  by_cases c104 : t302 = 12
                                  · rw [if_pos c104] at H
                                    have c104b0 : (t302 == 12) = true := beq_iff_eq.mpr c104
                                    have c104b1 : (t302 != 12) = false := bne_eq_false_iff_eq.mpr c104
                                    clear c104
                                    have H' := Aside0.mk H
                                    clear H
                                    have p71 : 0 ≤ ((ji31) : Int) := of_decide_eq_true (by first | (with_reducible assumption) | assumption)
                                    have q71 : (ji31) < (t280.size : Int) := of_decide_eq_true (by first | (with_reducible assumption) | assumption)
                                    have hx71 := bt_at t280 (ji31)
                                    replace p71 := eq_true p71
                                    replace q71 := eq_true q71
                                    go_wp2
                                    go_meet
                                    case rel => exact ⟨_, ((t308 != 12)), (by first | rfl | (simp; done) | (simp [*]; done)), H', ⟨by have := HJ7.out; first | omega | exact Nat.le_refl _⟩, ⟨by (with_reducible repeat (first | refine blk_drewN ?_ _ | refine blk_drew ?_ | refine blk_alloc ?_ _)); refine blk_far ?_ NB275_309.out _; (with_reducible repeat (first | refine blk_drewN ?_ _ | refine blk_drew ?_ | refine blk_alloc ?_ _)); refine blk_far ?_ NB275_309.out _; (with_reducible repeat (first | refine blk_drewN ?_ _ | refine blk_drew ?_ | refine blk_alloc ?_ _)); refine blk_far ?_ NB275_309.out _; (with_reducible repeat (first | refine blk_drewN ?_ _ | refine blk_drew ?_ | refine blk_alloc ?_ _)); refine blk_far ?_ NB275_309.out _; (with_reducible repeat (first | refine blk_drewN ?_ _ | refine blk_drew ?_ | refine blk_alloc ?_ _)); exact BK275.out⟩, ⟨by (with_reducible repeat (first | refine blk_drewN ?_ _ | refine blk_drew ?_ | refine blk_alloc ?_ _)); refine blk_far ?_ NB288_309.out _; (with_reducible repeat (first | refine blk_drewN ?_ _ | refine blk_drew ?_ | refine blk_alloc ?_ _)); refine blk_far ?_ NB288_309.out _; (with_reducible repeat (first | refine blk_drewN ?_ _ | refine blk_drew ?_ | refine blk_alloc ?_ _)); refine blk_far ?_ NB288_309.out _; (with_reducible repeat (first | refine blk_drewN ?_ _ | refine blk_drew ?_ | refine blk_alloc ?_ _)); refine blk_far ?_ NB288_309.out _; (with_reducible repeat (first | refine blk_drewN ?_ _ | refine blk_drew ?_ | refine blk_alloc ?_ _)); exact BK288.out⟩, ⟨by (with_reducible repeat (first | refine blk_drewN ?_ _ | refine blk_drew ?_ | refine blk_alloc ?_ _)); refine blk_far ?_ NB297_309.out _; (with_reducible repeat (first | refine blk_drewN ?_ _ | refine blk_drew ?_ | refine blk_alloc ?_ _)); refine blk_far ?_ NB297_309.out _; (with_reducible repeat (first | refine blk_drewN ?_ _ | refine blk_drew ?_ | refine blk_alloc ?_ _)); refine blk_far ?_ NB297_309.out _; (with_reducible repeat (first | refine blk_drewN ?_ _ | refine blk_drew ?_ | refine blk_alloc ?_ _)); refine blk_far ?_ NB297_309.out _; (with_reducible repeat (first | refine blk_drewN ?_ _ | refine blk_drew ?_ | refine blk_alloc ?_ _)); exact BK297.out⟩, ⟨by (with_reducible repeat (first | refine blk_drewN ?_ _ | refine blk_drew ?_ | refine blk_alloc ?_ _)); refine blk_far ?_ NB303_309.out _; (with_reducible repeat (first | refine blk_drewN ?_ _ | refine blk_drew ?_ | refine blk_alloc ?_ _)); refine blk_far ?_ NB303_309.out _; (with_reducible repeat (first | refine blk_drewN ?_ _ | refine blk_drew ?_ | refine blk_alloc ?_ _)); refine blk_far ?_ NB303_309.out _; (with_reducible repeat (first | refine blk_drewN ?_ _ | refine blk_drew ?_ | refine blk_alloc ?_ _)); refine blk_far ?_ NB303_309.out _; (with_reducible repeat (first | refine blk_drewN ?_ _ | refine blk_drew ?_ | refine blk_alloc ?_ _)); exact BK303.out⟩, ⟨by (with_reducible repeat (first | refine blk_drewN ?_ _ | refine blk_drew ?_ | refine blk_alloc ?_ _)); refine blk_put (cs := #[.int .i64 t304, .string t305, .int .i64 t306, .int .i64 0]) ?_ 3 _ rfl; (with_reducible repeat (first | refine blk_drewN ?_ _ | refine blk_drew ?_ | refine blk_alloc ?_ _)); refine blk_put (cs := #[.int .i64 t304, .string t305, .int .i64 0, .int .i64 0]) ?_ 2 _ rfl; (with_reducible repeat (first | refine blk_drewN ?_ _ | refine blk_drew ?_ | refine blk_alloc ?_ _)); refine blk_put (cs := #[.int .i64 t304, .string (⟨#[]⟩ : ByteArray), .int .i64 0, .int .i64 0]) ?_ 1 _ rfl; (with_reducible repeat (first | refine blk_drewN ?_ _ | refine blk_drew ?_ | refine blk_alloc ?_ _)); refine blk_put (cs := #[.int .i64 0, .string (⟨#[]⟩ : ByteArray), .int .i64 0, .int .i64 0]) ?_ 0 _ rfl; (with_reducible repeat (first | refine blk_drewN ?_ _ | refine blk_drew ?_ | refine blk_alloc ?_ _)); exact BK309.out⟩, ⟨by repeat (first | (with_reducible first | exact HB.out | apply below_alloc | apply pw_below_drewN | apply below_drew1 | refine below_set ?_ GE275.out | refine below_set ?_ GE288.out | refine below_set ?_ GE297.out | refine below_set ?_ GE303.out | refine below_set ?_ GE309.out) | exact HB.out)⟩⟩
                                  · rw [if_neg c104] at H
                                    have c104b0 : (t302 == 12) = false := beq_eq_false_iff_ne.mpr c104
                                    have c104b1 : (t302 != 12) = true := bne_iff_ne.mpr c104
                                    have H' := Aside0.mk H
                                    clear H
                                    have p71 : 0 ≤ ((ji31) : Int) := of_decide_eq_true (by first | (with_reducible assumption) | assumption)
                                    have q71 : (ji31) < (t280.size : Int) := of_decide_eq_true (by first | (with_reducible assumption) | assumption)
                                    have hx71 := bt_at t280 (ji31)
                                    replace p71 := eq_true p71
                                    replace q71 := eq_true q71
                                    go_wp2
                                    go_meet
                                    case rel => exact ⟨_, (true), (by first | rfl | (simp; done) | (simp [*]; done)), H', ⟨by have := HJ7.out; first | omega | exact Nat.le_refl _⟩, ⟨by (with_reducible repeat (first | refine blk_drewN ?_ _ | refine blk_drew ?_ | refine blk_alloc ?_ _)); refine blk_far ?_ NB275_309.out _; (with_reducible repeat (first | refine blk_drewN ?_ _ | refine blk_drew ?_ | refine blk_alloc ?_ _)); refine blk_far ?_ NB275_309.out _; (with_reducible repeat (first | refine blk_drewN ?_ _ | refine blk_drew ?_ | refine blk_alloc ?_ _)); refine blk_far ?_ NB275_309.out _; (with_reducible repeat (first | refine blk_drewN ?_ _ | refine blk_drew ?_ | refine blk_alloc ?_ _)); refine blk_far ?_ NB275_309.out _; (with_reducible repeat (first | refine blk_drewN ?_ _ | refine blk_drew ?_ | refine blk_alloc ?_ _)); exact BK275.out⟩, ⟨by (with_reducible repeat (first | refine blk_drewN ?_ _ | refine blk_drew ?_ | refine blk_alloc ?_ _)); refine blk_far ?_ NB288_309.out _; (with_reducible repeat (first | refine blk_drewN ?_ _ | refine blk_drew ?_ | refine blk_alloc ?_ _)); refine blk_far ?_ NB288_309.out _; (with_reducible repeat (first | refine blk_drewN ?_ _ | refine blk_drew ?_ | refine blk_alloc ?_ _)); refine blk_far ?_ NB288_309.out _; (with_reducible repeat (first | refine blk_drewN ?_ _ | refine blk_drew ?_ | refine blk_alloc ?_ _)); refine blk_far ?_ NB288_309.out _; (with_reducible repeat (first | refine blk_drewN ?_ _ | refine blk_drew ?_ | refine blk_alloc ?_ _)); exact BK288.out⟩, ⟨by (with_reducible repeat (first | refine blk_drewN ?_ _ | refine blk_drew ?_ | refine blk_alloc ?_ _)); refine blk_far ?_ NB297_309.out _; (with_reducible repeat (first | refine blk_drewN ?_ _ | refine blk_drew ?_ | refine blk_alloc ?_ _)); refine blk_far ?_ NB297_309.out _; (with_reducible repeat (first | refine blk_drewN ?_ _ | refine blk_drew ?_ | refine blk_alloc ?_ _)); refine blk_far ?_ NB297_309.out _; (with_reducible repeat (first | refine blk_drewN ?_ _ | refine blk_drew ?_ | refine blk_alloc ?_ _)); refine blk_far ?_ NB297_309.out _; (with_reducible repeat (first | refine blk_drewN ?_ _ | refine blk_drew ?_ | refine blk_alloc ?_ _)); exact BK297.out⟩, ⟨by (with_reducible repeat (first | refine blk_drewN ?_ _ | refine blk_drew ?_ | refine blk_alloc ?_ _)); refine blk_far ?_ NB303_309.out _; (with_reducible repeat (first | refine blk_drewN ?_ _ | refine blk_drew ?_ | refine blk_alloc ?_ _)); refine blk_far ?_ NB303_309.out _; (with_reducible repeat (first | refine blk_drewN ?_ _ | refine blk_drew ?_ | refine blk_alloc ?_ _)); refine blk_far ?_ NB303_309.out _; (with_reducible repeat (first | refine blk_drewN ?_ _ | refine blk_drew ?_ | refine blk_alloc ?_ _)); refine blk_far ?_ NB303_309.out _; (with_reducible repeat (first | refine blk_drewN ?_ _ | refine blk_drew ?_ | refine blk_alloc ?_ _)); exact BK303.out⟩, ⟨by (with_reducible repeat (first | refine blk_drewN ?_ _ | refine blk_drew ?_ | refine blk_alloc ?_ _)); refine blk_put (cs := #[.int .i64 t304, .string t305, .int .i64 t306, .int .i64 0]) ?_ 3 _ rfl; (with_reducible repeat (first | refine blk_drewN ?_ _ | refine blk_drew ?_ | refine blk_alloc ?_ _)); refine blk_put (cs := #[.int .i64 t304, .string t305, .int .i64 0, .int .i64 0]) ?_ 2 _ rfl; (with_reducible repeat (first | refine blk_drewN ?_ _ | refine blk_drew ?_ | refine blk_alloc ?_ _)); refine blk_put (cs := #[.int .i64 t304, .string (⟨#[]⟩ : ByteArray), .int .i64 0, .int .i64 0]) ?_ 1 _ rfl; (with_reducible repeat (first | refine blk_drewN ?_ _ | refine blk_drew ?_ | refine blk_alloc ?_ _)); refine blk_put (cs := #[.int .i64 0, .string (⟨#[]⟩ : ByteArray), .int .i64 0, .int .i64 0]) ?_ 0 _ rfl; (with_reducible repeat (first | refine blk_drewN ?_ _ | refine blk_drew ?_ | refine blk_alloc ?_ _)); exact BK309.out⟩, ⟨by repeat (first | (with_reducible first | exact HB.out | apply below_alloc | apply pw_below_drewN | apply below_drew1 | refine below_set ?_ GE275.out | refine below_set ?_ GE288.out | refine below_set ?_ GE297.out | refine below_set ?_ GE303.out | refine below_set ?_ GE309.out) | exact HB.out)⟩⟩
                            · rw [if_neg c70] at H
                              exact absurd H (by simp)
                          case rest =>
                            clear HC45
                            try clear c1
                            try clear p2
                            try clear c5
                            try clear hcv5
                            try clear c6
                            try clear c7
                            try clear p7
                            try clear q7
                            try clear hx7
                            try clear c8
                            try clear c9
                            try clear c10
                            try clear hcv50
                            try clear c59
                            try clear c60
                            try clear c61
                            try clear c65
                            try clear c66
                            try clear c67
                            try clear c68
                            try clear c70
                            try clear c70b0
                            try clear p71
                            try clear q71
                            try clear hx71
                            try clear c72
                            try clear c72b0
                            try clear c72b1
                            try clear c73
                            try clear c73b0
                            try clear c73b1
                            try clear c74
                            try clear c74b0
                            try clear c74b1
                            try clear c75
                            try clear c75b0
                            try clear c75b1
                            try clear c75b2
                            try clear c76
                            try clear c77
                            try clear c78
                            try clear c79
                            try clear c81
                            try clear c82
                            try clear c83
                            try clear c85
                            try clear c85b0
                            try clear c85b1
                            try clear c86
                            try clear c87
                            try clear c88
                            try clear c89
                            try clear c91
                            try clear c92
                            try clear c93
                            try clear c95
                            try clear c96
                            try clear c97
                            try clear c98
                            try clear c100
                            try clear c101
                            try clear c102
                            try clear c104
                            try clear c104b0
                            try clear c104b1
                            try clear hcz103_0
                            try clear hcz103_1
                            try clear hcz103_2
                            try clear hcz103_3
                            try clear hcz62_0
                            try clear hcz62_1
                            try clear hcz62_2
                            try clear hcz62_3
                            try clear hcz69_0
                            try clear hcz69_1
                            try clear hcz69_2
                            try clear hcz69_3
                            try clear hcz80_0
                            try clear hcz80_1
                            try clear hcz80_2
                            try clear hcz80_3
                            try clear hcz84_0
                            try clear hcz84_1
                            try clear hcz84_2
                            try clear hcz84_3
                            try clear hcz90_0
                            try clear hcz90_1
                            try clear hcz90_2
                            try clear hcz90_3
                            try clear hcz94_0
                            try clear hcz94_1
                            try clear hcz94_2
                            try clear hcz94_3
                            try clear hcz99_0
                            try clear hcz99_1
                            try clear hcz99_2
                            try clear hcz99_3
                            try clear hfz103_0
                            try clear hfz103_1
                            try clear hfz103_2
                            try clear hfz103_3
                            try clear hfz62_0
                            try clear hfz62_1
                            try clear hfz62_2
                            try clear hfz62_3
                            try clear hfz69_0
                            try clear hfz69_1
                            try clear hfz69_2
                            try clear hfz69_3
                            try clear hfz80_0
                            try clear hfz80_1
                            try clear hfz80_2
                            try clear hfz80_3
                            try clear hfz84_0
                            try clear hfz84_1
                            try clear hfz84_2
                            try clear hfz84_3
                            try clear hfz90_0
                            try clear hfz90_1
                            try clear hfz90_2
                            try clear hfz90_3
                            try clear hfz94_0
                            try clear hfz94_1
                            try clear hfz94_2
                            try clear hfz94_3
                            try clear hfz99_0
                            try clear hfz99_1
                            try clear hfz99_2
                            try clear hfz99_3
                            try clear p71
                            try clear q71
                            obtain ⟨kq, x109_44, rfl, HA, HJ44, BK275, BK288, BK297, BK303, BK309, HB⟩ := hcut
                            cases kq with
                            | zero => exact absurd HA.out (by simp [racewaylaw27_TicketBack.j1])
                            | succ kj44 =>
                              have H := HA.out
                              clear HA
                              simp only [racewaylaw27_TicketBack.j1] at H
                              by_cases c105 : x109_44 = true
                              · subst c105
                                have H1 : (none) = some r := by rw [if_pos rfl] at H; exact H
                                clear H
                                have H := H1
                                clear H1
                                exact absurd H (by simp)
                              · replace c105 := Bool.eq_false_iff.mpr c105
                                subst c105
                                have H1 : (if (t298 == 0 && (t299.toList == ([] : List UInt8) && (t300 == 0 && (t301 == 0)))) = true then (if (t304 == 0 && (t305.toList == ([] : List UInt8) && (t306 == 0 && (t307 == 0)))) = true then ((racewaylaw27_works.f).bind fun t310 => (some t310)) else (none)) else (none)) = some r := by rw [if_neg (show ¬ (false = true) by decide)] at H; exact H
                                clear H
                                have H := H1
                                clear H1
                                by_cases c106 : (t298 == 0 && (t299.toList == ([] : List UInt8) && (t300 == 0 && (t301 == 0)))) = true
                                · rw [if_pos c106] at H
                                  have c106b0 : (t298 == 0 && (t299.toList == ([] : List UInt8) && (t300 == 0 && (t301 == 0)))) = true := c106
                                  (try (have c106b1 : decide (t298 = 0 && (t299.toList == ([] : List UInt8) && (t300 == 0 && (t301 == 0)))) = true := by simpa using c106))
                                  have c106w : (t298 = 0 ∧ t299.toList = [] ∧ t300 = 0 ∧ t301 = 0) = True := eq_true (by simpa using c106)
                                  (try (have c106b2 : (t298 == 0 && (t299.toList == ([] : List UInt8) && (t300 == 0 && (t301 == 0)))) = true := by simpa using c106))
                                  clear c106
                                  by_cases c107 : (t304 == 0 && (t305.toList == ([] : List UInt8) && (t306 == 0 && (t307 == 0)))) = true
                                  · rw [if_pos c107] at H
                                    have c107b0 : (t304 == 0 && (t305.toList == ([] : List UInt8) && (t306 == 0 && (t307 == 0)))) = true := c107
                                    (try (have c107b1 : decide (t304 = 0 && (t305.toList == ([] : List UInt8) && (t306 == 0 && (t307 == 0)))) = true := by simpa using c107))
                                    have c107w : (t304 = 0 ∧ t305.toList = [] ∧ t306 = 0 ∧ t307 = 0) = True := eq_true (by simpa using c107)
                                    (try (have c107b2 : (t304 == 0 && (t305.toList == ([] : List UInt8) && (t306 == 0 && (t307 == 0)))) = true := by simpa using c107))
                                    clear c107
                                    replace H := Option.bind_eq_some_iff.mp H
                                    obtain ⟨t310, A1080, H⟩ := H
                                    replace H : (some t310) = some r := H
                                    have A108 := Aside0.mk A1080
                                    clear A1080
                                    obtain rfl := Option.some.inj H
                                    have hnb109 := NB303_275.out
                                    have hnc109 := NB275_303.out
                                    have hnb110 := NB303_288.out
                                    have hnc110 := NB288_303.out
                                    have hnb111 := NB303_297.out
                                    have hnc111 := NB297_303.out
                                    have hnb112 := NB303_309.out
                                    have hnc112 := NB309_303.out
                                    have hcz113_0 : wc.cell? ⟨gb303, 0, none⟩ = some (.int .i64 t298) := (blk_cell BK303.out 0).trans rfl
                                    have hcz113_1 : wc.cell? ⟨gb303, 1, none⟩ = some (.string t299) := (blk_cell BK303.out 1).trans rfl
                                    have hcz113_2 : wc.cell? ⟨gb303, 2, none⟩ = some (.int .i64 t300) := (blk_cell BK303.out 2).trans rfl
                                    have hcz113_3 : wc.cell? ⟨gb303, 3, none⟩ = some (.int .i64 t301) := (blk_cell BK303.out 3).trans rfl
                                    have hfz113_0 := blk_frozen BK303.out 0
                                    have hfz113_1 := blk_frozen BK303.out 1
                                    have hfz113_2 := blk_frozen BK303.out 2
                                    have hfz113_3 := blk_frozen BK303.out 3
                                    have hnb114 := NB309_275.out
                                    have hnc114 := NB275_309.out
                                    have hnb115 := NB309_288.out
                                    have hnc115 := NB288_309.out
                                    have hnb116 := NB309_297.out
                                    have hnc116 := NB297_309.out
                                    have hcz117_0 : wc.cell? ⟨gb309, 0, none⟩ = some (.int .i64 t304) := (blk_cell BK309.out 0).trans rfl
                                    have hcz117_1 : wc.cell? ⟨gb309, 1, none⟩ = some (.string t305) := (blk_cell BK309.out 1).trans rfl
                                    have hcz117_2 : wc.cell? ⟨gb309, 2, none⟩ = some (.int .i64 t306) := (blk_cell BK309.out 2).trans rfl
                                    have hcz117_3 : wc.cell? ⟨gb309, 3, none⟩ = some (.int .i64 t307) := (blk_cell BK309.out 3).trans rfl
                                    have hfz117_0 := blk_frozen BK309.out 0
                                    have hfz117_1 := blk_frozen BK309.out 1
                                    have hfz117_2 := blk_frozen BK309.out 2
                                    have hfz117_3 := blk_frozen BK309.out 3
                                    go_wp2_with (first | (go_at_call 11; (with_reducible refine (racewaylaw27_works.calls  t310 _ A108.out).mono ?_); rintro e w118 ⟨rfl, hb⟩; have n0_ := Aside0.mk (blk_below (g := gb275) (o := .cells #[.int .i64 t276, .string t277, .int .i64 t278, .int .i64 t279] 23 (0, 0)) (by (with_reducible repeat (first | refine blk_drewN ?_ _ | refine blk_drew ?_ | refine blk_alloc ?_ _)); exact BK275.out) hb); have n1_ := Aside0.mk (blk_below (g := gb288) (o := .cells #[.int .i64 t283, .string t284, .int .i64 t285, .int .i64 t286] 23 (0, 0)) (by (with_reducible repeat (first | refine blk_drewN ?_ _ | refine blk_drew ?_ | refine blk_alloc ?_ _)); exact BK288.out) hb); have n2_ := Aside0.mk (blk_below (g := gb297) (o := .cells #[.int .i64 t292, .string t293, .int .i64 t294, .int .i64 t295] 23 (0, 0)) (by (with_reducible repeat (first | refine blk_drewN ?_ _ | refine blk_drew ?_ | refine blk_alloc ?_ _)); exact BK297.out) hb); have n3_ := Aside0.mk (blk_below (g := gb303) (o := .cells #[.int .i64 t298, .string t299, .int .i64 t300, .int .i64 t301] 23 (0, 0)) (by (with_reducible repeat (first | refine blk_drewN ?_ _ | refine blk_drew ?_ | refine blk_alloc ?_ _)); exact BK303.out) hb); have n4_ := Aside0.mk (blk_below (g := gb309) (o := .cells #[.int .i64 t304, .string t305, .int .i64 t306, .int .i64 t307] 23 (0, 0)) (by (with_reducible repeat (first | refine blk_drewN ?_ _ | refine blk_drew ?_ | refine blk_alloc ?_ _)); exact BK309.out) hb); have n5_ := Aside0.mk (below_step (by repeat (first | (with_reducible first | exact HB.out | apply below_alloc | apply pw_below_drewN | apply below_drew1 | refine below_set ?_ GE275.out | refine below_set ?_ GE288.out | refine below_set ?_ GE297.out | refine below_set ?_ GE303.out | refine below_set ?_ GE309.out) | exact HB.out)) hb); clear BK275; clear BK288; clear BK297; clear BK303; clear BK309; clear HB; have BK275 := n0_; have BK288 := n1_; have BK297 := n2_; have BK303 := n3_; have BK309 := n4_; have HB := n5_; clear n0_ n1_ n2_ n3_ n4_ n5_; (try clear hb); (try clear hb2); (try clear hk); (try clear hi)))
                                    go_ret
                                    exact ⟨by first | rfl | (simp [errW_none, errW_some] <;> rfl) | (simp only [← hji31, ← hji35]; first | rfl | (simp [errW_none, errW_some] <;> rfl)) | (simp [*, errW_none, errW_some] <;> rfl), by repeat (first | (with_reducible first | exact HB.out | apply below_alloc | apply pw_below_drewN | apply below_drew1 | refine below_set ?_ GE275.out | refine below_set ?_ GE288.out | refine below_set ?_ GE297.out | refine below_set ?_ GE303.out | refine below_set ?_ GE309.out) | exact HB.out)⟩
                                  · rw [if_neg c107] at H
                                    exact absurd H (by simp)
                                · rw [if_neg c106] at H
                                  exact absurd H (by simp)
                        · rw [if_neg c43] at H
                          exact absurd H (by simp)
                      · rw [if_neg c38] at H
                        exact absurd H (by simp)
                    · rw [if_neg c37] at H
                      exact absurd H (by simp)
                  · rw [if_neg c36] at H
                    exact absurd H (by simp)
                · rw [if_neg c34] at H
                  exact absurd H (by simp)
              · rw [if_neg c33] at H
                exact absurd H (by simp)
            · rw [if_neg c32] at H
              exact absurd H (by simp)
  · rw [if_neg c6] at H
    have c6b0 : (t281 == 0) = false := beq_eq_false_iff_ne.mpr c6
    have c6b1 : (t281 != 0) = true := bne_iff_ne.mpr c6
    by_cases c119 : t280.toList = ([] : List UInt8)
    · rw [if_pos c119] at H
      have c119b0 : (t280.toList == ([] : List UInt8)) = true := beq_iff_eq.mpr c119
      have c119b1 : (t280.toList != ([] : List UInt8)) = false := bne_eq_false_iff_eq.mpr c119
      clear c119
      replace H := Option.bind_eq_some_iff.mp H
      obtain ⟨t282, A1200, H⟩ := H
      replace H : (some t282) = some r := H
      have A120 := Aside0.mk A1200
      clear A1200
      obtain rfl := Option.some.inj H
      go_enter Tryd.func4, Tryd.ntmps4
      go_wp2_with (first | ((with_reducible refine gate_dst (N := 3) rfl ?_); (try (refine gate_guard (by rfl) ?_; dsimp only)); refine box_event ?hg (N := 3) ?hd (cs := #[.int .i64 a0_0, .string a0_1, .int .i64 a0_2, .int .i64 a0_3]) (t := 23) ?hr ?_; (case hd => rfl); (case hg => rfl); (case hr => first | (go_simp; done) | (go_simp; rfl)); intro gb275 hg w121 hbox hb; have n0_ := Aside0.mk (below_step (by repeat (first | (with_reducible first | exact HB.out | apply below_alloc | apply pw_below_drewN | apply below_drew1) | exact HB.out)) hb); have n1_ := Aside0.mk (hbox); have n2_ := Aside0.mk ((by rw [hg]; exact (below_size (by repeat (first | (with_reducible first | exact HB.out | apply below_alloc | apply pw_below_drewN | apply below_drew1) | exact HB.out))) : w.heap.size ≤ gb275)); have n3_ := Aside0.mk ((by rw [hg]; exact (below_size (by repeat (first | (with_reducible first | exact HB.out | apply below_alloc | apply pw_below_drewN | apply below_drew1) | exact HB.out))) : w.heap.size ≤ gb275)); clear HB; have HB := n0_; have BK275 := n1_; have GW275 := n2_; have GE275 := n3_; clear n0_ n1_ n2_ n3_; clear hb hbox hg; have hcz122_0 : w121.cell? ⟨gb275, 0, none⟩ = some (.int .i64 a0_0) := (blk_cell BK275.out 0).trans rfl; have hcz122_1 : w121.cell? ⟨gb275, 1, none⟩ = some (.string a0_1) := (blk_cell BK275.out 1).trans rfl; have hcz122_2 : w121.cell? ⟨gb275, 2, none⟩ = some (.int .i64 a0_2) := (blk_cell BK275.out 2).trans rfl; have hcz122_3 : w121.cell? ⟨gb275, 3, none⟩ = some (.int .i64 a0_3) := (blk_cell BK275.out 3).trans rfl; have hfz122_0 := blk_frozen BK275.out 0; have hfz122_1 := blk_frozen BK275.out 1; have hfz122_2 := blk_frozen BK275.out 2; have hfz122_3 := blk_frozen BK275.out 3) | ((with_reducible refine gate_callee (f := 6) rfl ?_); refine goesL_ (some 19) rfl rfl Tryd.func6 (by kernel_rfl) rfl #[.agg #[.int .i64 a0_0, .string a0_1, .int .i64 a0_2, .int .i64 a0_3]] rfl (by (try simp only [List.map_toArray, List.map_cons, List.map_nil]); first | done | rfl | (simp only [List.length_drop, List.length_take]; rfl)) ?_; (with_reducible refine (racewaylaw27_few.calls a0_0 a0_1 a0_2 a0_3 t276 t277 t278 t279 _ A4.out).mono ?_); rintro e w123 ⟨rfl, hb⟩; refine ⟨_, rfl, ?_⟩; have n0_ := Aside0.mk (blk_below (g := gb275) (o := .cells #[.int .i64 a0_0, .string a0_1, .int .i64 a0_2, .int .i64 a0_3] 23 (0, 0)) (by (with_reducible repeat (first | refine blk_drewN ?_ _ | refine blk_drew ?_ | refine blk_alloc ?_ _)); exact BK275.out) hb); have n1_ := Aside0.mk (below_step (by repeat (first | (with_reducible first | exact HB.out | apply below_alloc | apply pw_below_drewN | apply below_drew1 | refine below_set ?_ GE275.out) | exact HB.out)) hb); clear BK275; clear HB; have BK275 := n0_; have HB := n1_; clear n0_ n1_; (try clear hb); (try clear hb2); (try clear hk); (try clear hi); have hcz124_0 : w123.cell? ⟨gb275, 0, none⟩ = some (.int .i64 a0_0) := (blk_cell BK275.out 0).trans rfl; have hcz124_1 : w123.cell? ⟨gb275, 1, none⟩ = some (.string a0_1) := (blk_cell BK275.out 1).trans rfl; have hcz124_2 : w123.cell? ⟨gb275, 2, none⟩ = some (.int .i64 a0_2) := (blk_cell BK275.out 2).trans rfl; have hcz124_3 : w123.cell? ⟨gb275, 3, none⟩ = some (.int .i64 a0_3) := (blk_cell BK275.out 3).trans rfl; have hfz124_0 := blk_frozen BK275.out 0; have hfz124_1 := blk_frozen BK275.out 1; have hfz124_2 := blk_frozen BK275.out 2; have hfz124_3 := blk_frozen BK275.out 3) | ((with_reducible refine gate_callee (f := 7) rfl ?_); refine goesL_ (some 22) rfl rfl Tryd.func7 (by kernel_rfl) rfl #[.agg #[.int .i64 t276, .string t277, .int .i64 t278, .int .i64 t279]] rfl (by (try simp only [List.map_toArray, List.map_cons, List.map_nil]); first | done | rfl | (simp only [List.length_drop, List.length_take]; rfl)) ?_; (with_reducible refine Calls.mono (ticket_Handle.callsT t276 t277 t278 t279 t280 t281 _ ?_ A5.out) ?_); (focus exact HTG.out.below (by repeat (first | (with_reducible first | exact HB.out | apply below_alloc | apply pw_below_drewN | apply below_drew1 | refine below_set ?_ GE275.out) | exact HB.out))); rintro e w125 ⟨rfl, hb⟩; refine ⟨_, rfl, ?_⟩; have n0_ := Aside0.mk (blk_below (g := gb275) (o := .cells #[.int .i64 t276, .string t277, .int .i64 t278, .int .i64 t279] 23 (0, 0)) (by (with_reducible repeat (first | refine blk_drewN ?_ _ | refine blk_drew ?_ | refine blk_alloc ?_ _)); refine blk_put (cs := #[.int .i64 t276, .string t277, .int .i64 t278, .int .i64 a0_3]) ?_ 3 _ rfl; (with_reducible repeat (first | refine blk_drewN ?_ _ | refine blk_drew ?_ | refine blk_alloc ?_ _)); refine blk_put (cs := #[.int .i64 t276, .string t277, .int .i64 a0_2, .int .i64 a0_3]) ?_ 2 _ rfl; (with_reducible repeat (first | refine blk_drewN ?_ _ | refine blk_drew ?_ | refine blk_alloc ?_ _)); refine blk_put (cs := #[.int .i64 t276, .string a0_1, .int .i64 a0_2, .int .i64 a0_3]) ?_ 1 _ rfl; (with_reducible repeat (first | refine blk_drewN ?_ _ | refine blk_drew ?_ | refine blk_alloc ?_ _)); refine blk_put (cs := #[.int .i64 a0_0, .string a0_1, .int .i64 a0_2, .int .i64 a0_3]) ?_ 0 _ rfl; (with_reducible repeat (first | refine blk_drewN ?_ _ | refine blk_drew ?_ | refine blk_alloc ?_ _)); exact BK275.out) hb); have n1_ := Aside0.mk (below_step (by repeat (first | (with_reducible first | exact HB.out | apply below_alloc | apply pw_below_drewN | apply below_drew1 | refine below_set ?_ GE275.out) | exact HB.out)) hb); clear BK275; clear HB; have BK275 := n0_; have HB := n1_; clear n0_ n1_; (try clear hb); (try clear hb2); (try clear hk); (try clear hi)) | (go_at_call 11; (with_reducible refine (racewaylaw27_works.calls  t282 _ A120.out).mono ?_); rintro e w126 ⟨rfl, hb⟩; have n0_ := Aside0.mk (blk_below (g := gb275) (o := .cells #[.int .i64 t276, .string t277, .int .i64 t278, .int .i64 t279] 23 (0, 0)) (by (with_reducible repeat (first | refine blk_drewN ?_ _ | refine blk_drew ?_ | refine blk_alloc ?_ _)); exact BK275.out) hb); have n1_ := Aside0.mk (below_step (by repeat (first | (with_reducible first | exact HB.out | apply below_alloc | apply pw_below_drewN | apply below_drew1 | refine below_set ?_ GE275.out) | exact HB.out)) hb); clear BK275; clear HB; have BK275 := n0_; have HB := n1_; clear n0_ n1_; (try clear hb); (try clear hb2); (try clear hk); (try clear hi)))
      go_ret
      exact ⟨by first | rfl | (simp [errW_none, errW_some] <;> rfl) | (simp [*, errW_none, errW_some] <;> rfl), by repeat (first | (with_reducible first | exact HB.out | apply below_alloc | apply pw_below_drewN | apply below_drew1 | refine below_set ?_ GE275.out) | exact HB.out)⟩
    · rw [if_neg c119] at H
      exact absurd H (by simp)
end Go.Proofs.YteajidciahoboaaDoor.P
