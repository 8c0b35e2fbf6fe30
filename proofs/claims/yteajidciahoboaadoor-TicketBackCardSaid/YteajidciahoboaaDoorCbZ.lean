/- For any receipt r, any place at and any byte c the law racewaylaw27.TicketBack returns true: a receipt's handle opens to it; with one sign of it another one, cut, or with something behind, to none, or not to it. No condition beyond the given card's own: the package variable crc.half starts as the program's text lays it. -/
import Derived.Test.YteajidciahoboaaDoorCb5
import Derived.Test.YteajidciahoboaaDoorCards
import Derived.Test.YteajidciahoboaaDoorTie
import Derived.WalkKit
import Derived.ProofKit
import Derived.OpenShut
import Derived.ShutString
import Derived.ChangeOld
import Derived.Below
import Derived.SizedLaws
import Derived.Lib.SmallJoins
import Derived.Deep.DeepHandedRow
import Derived.Lib.LaidTab
set_option linter.unusedVariables false
namespace Go.Proofs.YteajidciahoboaaDoor.ticketBack
open Go.ChangeShapes Go.WideShapes Go.ChangeAt Go.RowKit Go.Joins
open Go.ChangeMaps (open_string shut_string)
open Go.Proofs.YteajidciahoboaaDoor.H

theorem own : ownKnob Tryd.prog.godebug = none := by kernel_rfl
theorem gHalf : Tryd.prog.globalNamed "raceway/crc.half" = some 0 := by kernel_rfl
theorem cellsHalf : Tryd.prog.cellsOf 124 = 16 := by kernel_rfl
theorem cellsU32 : Tryd.prog.cellsOf 81 = 1 := by kernel_rfl
theorem cellsRc : Tryd.prog.cellsOf 23 = 4 := by kernel_rfl
def halfInts : List Int := M.halfTab.map fun (n : Nat) => (n : Int)

/-- What the row's list gives: the table's cells. -/
theorem table {W : World} (h : laidMetH Tryd.prog Rows.ticketBackRow.laid W) : Lib.TabIs Tryd.prog W "raceway/crc.half" .u32 halfInts :=
  Lib.tabIs_of_head (rest := []) gHalf (by kernel_rfl) Tryd.underlying124 Tryd.underlying81 cellsU32 cellsHalf h
theorem half_at {W : World} (h : laidMetH Tryd.prog Rows.ticketBackRow.laid W) : HalfAt W := fun c hc => by
  have := (table h).cell gHalf c (by show c < 16; exact hc)
  rw [this]
  have e : halfInts.getD c 0 = ((M.halfTab.getD c 0 : Nat) : Int) := by
    unfold halfInts
    rw [List.getD_eq_getElem?_getD, List.getD_eq_getElem?_getD, List.getElem?_map]
    cases M.halfTab[c]? <;> rfl
  rw [e]

set_option maxRecDepth 100000 in
theorem contract (H : Type) (enc : TypeId × Value → H) (W : World) (base : Nat) (args : Array Value) (ds gs : List (DataW H)) (before : List MemPlace)
    (hval : ∀ (j : Nat) t v, Tryd.f4.params[j]? = some t → args[j]? = some v → Value.okWide Tryd.prog W .any base t v)
    (hW : DataW.Whole enc Tryd.prog Tryd.f4.params.toList Rows.ticketBackSpec.vars false W args.toList ds gs before) (hL : laidMetH Tryd.prog Rows.ticketBackRow.laid W) :
    Calls Tryd.prog 4 args W fun e W' => ∃ v, e = .returned v ∧ Rows.ticketBackSpec.post enc Tryd.prog Tryd.f4 false true false false W args v W' := by
  have hW' := hW
  obtain ⟨p, q, hA0, hV, rfl, hfz, hnd⟩ := hW
  have hA : DataW.TrodAll enc Tryd.prog W 0 (fun _ => true) true Tryd.f4.params.toList args.toList ds p := hA0
  rw [Tryd.params4] at hA hval
  obtain ⟨v0, vs0, d0, ds0, p0, q0, hargs, rfl, rfl, h0, r0⟩ := trodAll_cons hA
  obtain ⟨v1, vs1, d1, ds1, p1, q1, rfl, rfl, rfl, h1, r1⟩ := trodAll_cons r0
  obtain ⟨v2, vs2, d2, ds2, p2, q2, rfl, rfl, rfl, h2, r2⟩ := trodAll_cons r1
  obtain ⟨rfl, rfl, rfl⟩ := trodAll_nil r2
  obtain rfl : args = #[v0, v1, v2] := by cases args; simp_all
  obtain ⟨rfl, rfl⟩ := trodVars_none hV
  obtain ⟨c0, c1, c2, c3, y0, y1, y2, y3, m, rfl, rfl, rfl, hy0, hy1, hy2, hy3⟩ := open_agg4 Tryd.underlying23 (by kernel_rfl) cellsRc (hval 0 23 v0 rfl rfl) h0
  obtain ⟨rq, e0, rfl, w0⟩ := DataW.trod_int Tryd.underlying3 hy0
  obtain ⟨rg, e1, rfl, w1⟩ := DataW.trod_string Tryd.underlying9 hy1
  obtain ⟨rs, e2, rfl, w2⟩ := DataW.trod_int Tryd.underlying3 hy2
  obtain ⟨rc, e3, rfl, w3⟩ := DataW.trod_int Tryd.underlying3 hy3
  simp only [List.cons.injEq, and_true] at e0 e1 e2 e3
  subst e0 e1 e2 e3
  obtain ⟨ra, rfl, rfl, rfl, z1⟩ := open_int Tryd.underlying3 (hval 1 3 v1 rfl rfl) h1
  obtain ⟨rb, rfl, rfl, rfl, z2⟩ := open_int Tryd.underlying5 (hval 2 5 v2 rfl rfl) h2
  clear hA0
  have zb := bounds_u8 z2
  obtain ⟨k, hk⟩ := back_pure rq rg rs rc ra rb (bounds_i64 z1).1 (bounds_i64 z1).2 ⟨zb.1, by omega⟩
  refine (P.racewaylaw27_TicketBack.calls k rq rg rs rc ra rb true W (half_at hL) hk).mono fun e W' ⟨he, bel⟩ => ?_
  subst he
  exact ⟨_, rfl, _, _, _, [], _, [], hW', trodAll_mk1 (shut_bool Tryd.underlying4 _),
    (trodAll_cons_mk (shut_agg4 (y0 := (.lit (.int .i64 rq), [])) (y1 := (.lit (.string rg.data.toList), [])) (y2 := (.lit (.int .i64 rs), [])) (y3 := (.lit (.int .i64 rc), [])) Tryd.underlying23 (by kernel_rfl) cellsRc
        ⟨1, by simp [DataW.trod, Tryd.underlying3, w0]⟩ ⟨1, by simp [DataW.trod, Tryd.underlying9, w1]⟩ ⟨1, by simp [DataW.trod, Tryd.underlying3, w2]⟩ ⟨1, by simp [DataW.trod, Tryd.underlying3, w3]⟩)
      (trodAll_cons_mk (shut_int Tryd.underlying3 z1) (trodAll_cons_mk (shut_int Tryd.underlying5 z2) trodAll_mk0))), rfl, bel.frame _, fun h => by cases h⟩

/-- A world for the witness: the settled one, the table as its initialiser lays it. -/
noncomputable def laidWorld (os : Os) : World :=
  { World.holding Tryd.prog os ⟨#[], #[], []⟩ with heap := (World.holding Tryd.prog os ⟨#[], #[], []⟩).heap.modify 0 fun
      | .cells _ t frozen => .cells #[.int .u32 0, .int .u32 498536548, .int .u32 997073096, .int .u32 651767980, .int .u32 1994146192, .int .u32 1802195444, .int .u32 1303535960, .int .u32 1342533948, .int .u32 3988292384, .int .u32 4027552580, .int .u32 3604390888, .int .u32 3412177804, .int .u32 2607071920, .int .u32 2262029012, .int .u32 2685067896, .int .u32 3183342108] t frozen
      | o => o }
def wit : Array Value := #[.agg #[.int .i64 0, .string ByteArray.empty, .int .i64 0, .int .i64 0], .int .i64 0, .int .u8 0]
theorem laid_met (os : Os) : laidMet Tryd.prog Rows.ticketBackRow.laid ((laidWorld os).forCall (fun _ _ => 0) ⟨#[], wit, []⟩).memory :=
  laidMet_of_run' 24 (by kernel_rfl) (by kernel_rfl)
theorem reads (os : Os) {H : Type} (enc : TypeId × Value → H) : ∃ ds places, DataW.whole enc Tryd.prog ((laidWorld os).forCall (fun _ _ => 0) ⟨#[], wit, []⟩).memory Tryd.f4.params.toList Rows.ticketBackSpec.vars false wit.toList 8 = some (ds, [], places) :=
  ⟨[.agg [.lit (.int .i64 0), .lit (.string []), .lit (.int .i64 0), .lit (.int .i64 0)], .lit (.int .i64 0), .lit (.int .u8 0)], [], by kernel_rfl⟩

set_option maxRecDepth 100000 in
theorem lifted (os : Os) (started : os.Started) (H : Type) (enc : TypeId × Value → H) (F : Stop.Interp) :
    ReturnsInHanded {} Tryd.checked os 4 .any ((OpenSpec.ofChange Rows.ticketBackSpec).preRow enc Tryd.prog Tryd.f4 Rows.ticketBackRow.domain false Rows.ticketBackRow.laid) (((OpenSpec.ofChange Rows.ticketBackSpec).at F).post enc Tryd.prog Tryd.f4 false true false false) := by
  obtain ⟨ds, places, hx⟩ := reads os enc
  refine returnsInHanded_of_row (C := Tryd.checked) (s := OpenSpec.ofChange Rows.ticketBackSpec) own started (by kernel_rfl) Tryd.func4
    (witness_row_at (enc := enc) (C := Tryd.checked) false (laidWorld os) wit rfl (by kernel_rfl) (by kernel_rfl) (by kernel_rfl)
      (OpenSpec.preRow_of_cond 8 hx (by kernel_rfl) (fun k hk => by cases hk) (by kernel_rfl) (laid_met os))) ?_
  intro W base args ds gs before hval hW _ _ _ hL _ _
  exact contract H enc W base args ds gs before hval hW hL
theorem said : Rows.TicketBackSaid :=
  OpenClaim.holds_of_cond 4 Tryd.f4 rfl rfl rfl rfl rfl rfl rfl ⟨rfl, rfl, rfl, rfl, rfl⟩ rfl rfl rfl rfl rfl (by kernel_rfl) Tryd.func4 (by kernel_rfl)
    (of_decide_eq_true (by kernel_rfl)) (by unfold Func.isWrapper; first | (rw [if_pos (by decide +kernel)]; kernel_rfl) | (rw [if_neg (by decide +kernel)]; exact ⟨rfl, rfl⟩))
    (fun os started H enc _ F => by rw [OpenClaim.pre_eq_preRow]; exact lifted os started H enc F)
theorem plain (f : FuncId) (fn : Func) (hf : Tryd.pinned.checked.prog.funcNamed "raceway/racewaylaw27.TicketBack" = some f) (hfn : Tryd.pinned.checked.prog.funcs[f]? = some fn) :
    false = Tryd.pinned.checked.prog.looks [] ∧ ∀ (j : Nat) t, fn.params[j]? = some t → Tryd.pinned.checked.prog.wantsStandIn t = false := by
  obtain rfl : f = 4 := Option.some.inj ((show Tryd.prog.funcNamed "raceway/racewaylaw27.TicketBack" = some 4 by kernel_rfl).symm.trans hf) |>.symm
  obtain rfl : fn = Tryd.f4 := (Option.some.inj (Tryd.func4.symm.trans hfn)).symm
  refine ⟨by kernel_rfl, fun j t ht => ?_⟩
  rw [Tryd.params4] at ht
  have hm := Array.mem_of_getElem? ht
  simp only [List.mem_toArray, List.mem_cons, List.not_mem_nil, or_false] at hm
  rcases hm with rfl | rfl | rfl
  · exact (show Tryd.prog.wantsStandIn 23 = false by kernel_rfl)
  · exact (show Tryd.prog.wantsStandIn 3 = false by kernel_rfl)
  · exact (show Tryd.prog.wantsStandIn 5 = false by kernel_rfl)
theorem card : Rows.TicketBackCardSaid :=
  Claim7.holds_tied_plain_at .later [] _ _ _ _ said (fun _ h => by cases h) (by kernel_rfl) (fun _ h => by cases h) ticketBack_row_tie rfl ⟨rfl, rfl⟩ (by kernel_rfl) rfl plain (by kernel_rfl)
#print axioms card
end Go.Proofs.YteajidciahoboaaDoor.ticketBack
namespace Go.Proofs.YteajidciahoboaaDoor
/-- The card, under a short name, for the claim. -/
theorem ticketBack_card : Rows.TicketBackCardSaid := ticketBack.card
end Go.Proofs.YteajidciahoboaaDoor
