import Derived.Test.YteajidciahoboaaDoorProg
import Derived.Below
import Derived.Deep.Draws
import Derived.Deep.AppendLies
import Derived.Maps.AppendAt
import Derived.OwnWalk
import Derived.Laws.BytesArg
import Derived.Laws.MakeOwn
import Derived.Laws.OwnMore
import Derived.Deep.OwnRows
import Derived.Tactics
import Derived.Lib.ConvBytes
import Derived.Laws.Slices
import Derived.WalkKit
import Derived.KernelRfl
import Derived.RowKit3
import Derived.Deep.LoopGhost
import Derived.Deep.QuietTactic
import Derived.BigQuiet
import Derived.WideLaws
import Derived.Deep.DeepCutAuto
import Derived.Deep.CutBlock
import Derived.Deep.RegionHeld3
import Derived.Laws.Rows
import Derived.Lib.AppendStr
import Derived.ArgAppend
import Derived.Laws.IdiomCopy
import Derived.OrdersHeld
import Derived.Laws.BitsLemmas
import Derived.RowKit
import Derived.Test.YteajidciahoboaaDoorWWords
import Derived.Test.YteajidciahoboaaDoorWLast
import Derived.Test.YteajidciahoboaaDoorWTab
import Derived.Test.YteajidciahoboaaDoorWFour
import Derived.Test.YteajidciahoboaaDoorWQPut
import Derived.Test.YteajidciahoboaaDoorWApart
import Derived.Test.YteajidciahoboaaDoorWArr
import Derived.Test.YteajidciahoboaaDoorWZeros
import Derived.Test.YteajidciahoboaaDoorWFoot
import Derived.Test.YteajidciahoboaaDoorWKept
import Derived.Test.YteajidciahoboaaDoorWShare
import Derived.Test.YteajidciahoboaaDoorWN
import Derived.Test.YteajidciahoboaaDoorWFootNe
import Derived.Test.YteajidciahoboaaDoorWAt
import Derived.Test.YteajidciahoboaaDoorWEqStruct
import Derived.Test.YteajidciahoboaaDoorWRepsOne
import Derived.Test.YteajidciahoboaaDoorWInv
import Derived.Test.YteajidciahoboaaDoorWInvWords
import Derived.Test.YteajidciahoboaaDoorWGuard
import Derived.Test.YteajidciahoboaaDoorWNEv
import Derived.Test.YteajidciahoboaaDoorWMore
import Derived.WalkSpells
import Derived.Lib.OthersKept
import Derived.Lib.FrozenHead2
import Derived.Lib.Builder
import Derived.Shelf.Strings.Builder1
import Derived.RangeFuncNested
import Derived.RangeFuncBound
import Derived.RangeFuncCalls
import Derived.RangeFuncLeaves
import Derived.Shelf.Abstract
import Derived.OwnWalkIn
import Derived.TacticsInMore
import Derived.LoopNIn
import Derived.LoopIn
import Derived.Shelf.Strings.Builder2
import Derived.Shelf.Strings.OnBuilder
import Derived.Shelf.Strings.Trim
import Derived.Shelf.Small.Utf8
import Derived.Shelf.Small.Strs
import Derived.Shelf.Small.Wraps
import Derived.Shelf.Strings.BuilderF
import Derived.Shelf.Strings.BuilderK
import Derived.Shelf.Strings.Builder2Cap
import Derived.Shelf.Strings.Search1
import Derived.Shelf.Strings.Prefix
import Derived.Shelf.Strings.Runes
import Derived.Shelf.Strings.AsciiSet
import Derived.Shelf.Bits.Mul64
import Derived.Shelf.Strings.Repeat
import Derived.Shelf.Unicode.DecodeSlow
import Derived.Shelf.Unicode.DecodeAny
import Derived.Shelf.Strings.BuilderCap
-- Pz0
-- PRINTED by print.py (a twelfth state) out of the translation. Not trusted: Lean checks it.
namespace Go.Proofs.YteajidciahoboaaDoor.P
open Go.RowKit Go.Proofs.YteajidciahoboaaDoorW.PrintWords Go.Proofs.YteajidciahoboaaDoorW.PrintLast Go.Proofs.YteajidciahoboaaDoorW.PrintMore
attribute [local go_sem] max2_int min2_int max_two min_two max_three min_three max_four min_four   -- for this text's walks alone
set_option linter.unusedVariables false
set_option linter.unusedSimpArgs false



def errW : Option Int → Value
  | none => .nilIface
  | some c => .iface 0 (.int .i64 c)
theorem errW_none : errW none = .nilIface := rfl
theorem errW_some (c : Int) : errW (some c) = .iface 0 (.int .i64 c) := rfl

theorem info5 : (Tryd.prog.info? 5).map (fun i => (i.zero, i.size, i.bytes)) = some (some (.int .u8 0), 1, 1) := by kernel_rfl
-- the values' own types
end Go.Proofs.YteajidciahoboaaDoor.P
-- Pzoctetnum
-- PRINTED by print.py (a twelfth state) out of the translation. Not trusted: Lean checks it.
namespace Go.Proofs.YteajidciahoboaaDoor.P
open Go.RowKit Go.Proofs.YteajidciahoboaaDoorW.PrintWords Go.Proofs.YteajidciahoboaaDoorW.PrintLast Go.Proofs.YteajidciahoboaaDoorW.PrintMore
attribute [local go_sem] max2_int min2_int max_two min_two max_three min_three max_four min_four   -- for this text's walks alone
set_option linter.unusedVariables false
set_option linter.unusedSimpArgs false

/-! ### octet_num: function 49 -/
def octet_num.l0 : Nat → List Int → Int → Option (List Int)
  | 0, _, _ => none
  | k + 1, x0, x1 => if x1 ≥ 128 then (if x0.length < 140737488355328 then (octet_num.l0 k (x0 ++ [Go.bits .or .u8 ((x1) % 256) 128]) (x1 / 128)) else (none)) else (if x0.length < 140737488355328 then (some (x0 ++ [(x1) % 256])) else (none))
def octet_num.f (k : Nat) (l0 : List Int) (a1 : Int) : Option (List Int) := octet_num.l0 k l0 a1
set_option maxHeartbeats 8000000 in
set_option maxRecDepth 100000 in
theorem octet_num.calls (k : Nat) (P0_ : Nat → Prop) (u9000_ : Value) (l0 : List Int) (a1 : Int) (r : List Int) (w0 w : World) (hB : Below w0.heap.size w0 w) (ho0 : Kd.R (Kd.int .u8) 5 w w0.heap.size P0_ u9000_ l0) (h : octet_num.f k l0 a1 = some r) :
    Calls Tryd.prog 49 #[u9000_, .int .u64 a1] w fun e w' => ∃ v0_ : Value, e = .returned (v0_) ∧ Kd.R (Kd.int .u8) 5 w' w0.heap.size (fun k_ => (P0_ k_ ∨ w.heap.size ≤ k_)) v0_ r ∧ Below w0.heap.size w0 w' ∧ Kept w w' (fun k_ => P0_ k_) := by
  have HO0 := Aside0.mk (show Kd.R (Kd.int .u8) 5 w w0.heap.size (fun k_ => (P0_ k_ ∨ w.heap.size ≤ k_)) u9000_ l0 from Kd.R_mono ho0 (fun k_ hk => (.inl hk)))
  have HK := Aside0.mk (Kept.refl w (fun k_ => P0_ k_))
  have HW0 := Aside0.mk hB.size
  have HB := Aside0.mk hB
  clear hB
  have H : (octet_num.l0 k l0 a1) = some r := h
  clear h
  have H' := Aside0.mk H
  clear H
  go_enter Tryd.func49, Tryd.ntmps49
  go_wp2
  go_loopg [0, 1] k (fun kq v0 v1 w' => ∃ (x0_1 : List Int) (x1_1 : Int), v1 = .int .u64 x1_1 ∧ Aside0 (octet_num.l0 kq x0_1 x1_1 = some r) ∧ Aside0 (kq ≤ k) ∧ Aside0 (Kd.R (Kd.int .u8) 5 w' w0.heap.size (fun k_ => (P0_ k_ ∨ w.heap.size ≤ k_)) v0 x0_1) ∧ Aside0 (Kept w w' (fun k_ => P0_ k_)) ∧ Aside0 (Below w0.heap.size w0 w'))
  case atStart => exact ⟨(l0), (a1), (by first | rfl | (simp; done) | (simp [*]; done)), H', ⟨Nat.le_refl _⟩, ⟨by (with_reducible repeat (first | apply Kd.R_alloc | apply Kd.R_drewN | apply Kd.R_drew)); exact HO0.out⟩, ⟨by repeat (first | (with_reducible first | exact HK.out | apply Kept.alloc | apply Kept.drewN | apply Kept.drew) | exact HK.out)⟩, ⟨by repeat (first | (with_reducible first | exact HB.out | apply below_alloc | apply pw_below_drewN | apply below_drew1) | exact HB.out)⟩⟩
  case round =>
    clear H'
    try clear p2
    obtain ⟨x0_1, x1_1, rfl, HA, HK1, HO_0, HK, HB⟩ := hrel
    cases gk with
    | zero => exact absurd HA.out (by simp [octet_num.l0])
    | succ k1 =>
      have H := HA.out
      clear HA
      simp only [octet_num.l0] at H
      by_cases c3 : x1_1 ≥ 128
      · rw [if_pos c3] at H
        have c3b0 : decide (128 ≤ x1_1) = true := decide_eq_true c3
        clear c3
        by_cases c4 : x0_1.length < 140737488355328
        · rw [if_pos c4] at H
          have LMc4 := Aside0.mk c4
          clear c4
          obtain ⟨y103, hy103⟩ : ∃ y_ : List Int, y_ = (x0_1 ++ [Go.bits .or .u8 ((x1_1) % 256) 128]) := ⟨_, rfl⟩
          replace H : (octet_num.l0 k1 y103 (x1_1 / 128)) = some r := by first | (rw [hy103]; with_reducible exact H) | (have H2_ := (Option.bind_some _ _).symm.trans H; rw [hy103]; with_reducible exact H2_) | (have H2_ := (Option.bind_some _ _).symm.trans H; with_reducible exact H2_) | with_reducible exact H | (rw [hy103]; exact H) | exact H
          have Ny103 := Aside0.mk hy103
          clear hy103
          have H' := Aside0.mk H
          clear H
          go_wp2_with (first | ((with_reducible refine gate_builtin (b := .append) (xs := #[.tmp 9, .tmp 13]) rfl ?_); at_builtin; refine Kd.R_append (Kd.int .u8) (w0 := w0) w0.heap.size rfl (.tmp 9) (.tmp 13) 36 5 (.int .u8 0) 1 rfl Tryd.underlying36 info5 rfl (by decide) (by omega) u0 x0_1 (Go.bits .or .u8 ((x1_1) % 256) 128) [.int .u8 (Go.bits .or .u8 ((x1_1) % 256) 128)] (fun k_ => (P0_ k_ ∨ w.heap.size ≤ k_)) (fun _ => False) rfl rfl ?aP (fun _ hk => hk.elim) ?aF ?aO ?aB ?aS ?aL ?_; (case aP => exact rfl); (case aB => exact (by repeat (first | (with_reducible first | exact HB.out | apply below_alloc | apply pw_below_drewN | apply below_drew1) | exact HB.out))); (case aF => exact (fun k_ hk => (.inr (Nat.le_trans (by first | exact HK.out.1 | exact (show Kept w _ (fun k_ => P0_ k_) from by repeat (first | (with_reducible first | exact HK.out | apply Kept.alloc | apply Kept.drewN | apply Kept.drew) | exact HK.out)).1) hk)))); (case aO => exact (by (with_reducible repeat (first | apply Kd.R_alloc | apply Kd.R_drewN | apply Kd.R_drew)); exact HO_0.out)); (case aS => exact (below_size (by repeat (first | (with_reducible first | exact HB.out | apply below_alloc | apply pw_below_drewN | apply below_drew1) | exact HB.out)))); (case aL => have := LMc4.out; omega); intro v104 w5 ho hb hg hat; rw [← Ny103.out] at ho; have n0_ := Aside0.mk (hb); have n1_ := Aside0.mk (Kept.of_grown (S := (fun k_ => P0_ k_)) hg (by repeat (first | (with_reducible first | exact HK.out | apply Kept.alloc | apply Kept.drewN | apply Kept.drew) | exact HK.out)) (fun k_ e_ => (HO_0.out.1 k_ e_))); have n2_ := Aside0.mk (ho); clear HB; clear HK; clear HO_0; have HB := n0_; have HK := n1_; have HO105 := n2_; clear n0_ n1_ n2_; clear ho hb hg hat))
          go_roundg k1
          case measure => have := HK1.out; omega
          case rel => exact ⟨(y103), (x1_1 / 128), (by first | rfl | (simp; done) | (simp [*]; done)), H', ⟨by have := HK1.out; omega⟩, ⟨by (with_reducible repeat (first | apply Kd.R_alloc | apply Kd.R_drewN | apply Kd.R_drew)); exact HO105.out⟩, ⟨by repeat (first | (with_reducible first | exact HK.out | apply Kept.alloc | apply Kept.drewN | apply Kept.drew) | exact HK.out)⟩, ⟨by repeat (first | (with_reducible first | exact HB.out | apply below_alloc | apply pw_below_drewN | apply below_drew1) | exact HB.out)⟩⟩
        · rw [if_neg c4] at H
          exact absurd H (by simp)
      · rw [if_neg c3] at H
        have c3b0 : decide (128 ≤ x1_1) = false := decide_eq_false c3
        clear c3
        by_cases c6 : x0_1.length < 140737488355328
        · rw [if_pos c6] at H
          have LMc6 := Aside0.mk c6
          clear c6
          obtain ⟨y106, hy106⟩ : ∃ y_ : List Int, y_ = (x0_1 ++ [(x1_1) % 256]) := ⟨_, rfl⟩
          replace H : (some y106) = some r := by first | (rw [hy106]; with_reducible exact H) | (have H2_ := (Option.bind_some _ _).symm.trans H; rw [hy106]; with_reducible exact H2_) | (have H2_ := (Option.bind_some _ _).symm.trans H; with_reducible exact H2_) | with_reducible exact H | (rw [hy106]; exact H) | exact H
          have Ny106 := Aside0.mk hy106
          clear hy106
          obtain rfl := Option.some.inj H
          go_wp2_with (first | ((with_reducible refine gate_builtin (b := .append) (xs := #[.tmp 15, .tmp 18]) rfl ?_); at_builtin; refine Kd.R_append (Kd.int .u8) (w0 := w0) w0.heap.size rfl (.tmp 15) (.tmp 18) 36 5 (.int .u8 0) 1 rfl Tryd.underlying36 info5 rfl (by decide) (by omega) u0 x0_1 ((x1_1) % 256) [.int .u8 ((x1_1) % 256)] (fun k_ => (P0_ k_ ∨ w.heap.size ≤ k_)) (fun _ => False) rfl rfl ?aP (fun _ hk => hk.elim) ?aF ?aO ?aB ?aS ?aL ?_; (case aP => exact rfl); (case aB => exact (by repeat (first | (with_reducible first | exact HB.out | apply below_alloc | apply pw_below_drewN | apply below_drew1) | exact HB.out))); (case aF => exact (fun k_ hk => (.inr (Nat.le_trans (by first | exact HK.out.1 | exact (show Kept w _ (fun k_ => P0_ k_) from by repeat (first | (with_reducible first | exact HK.out | apply Kept.alloc | apply Kept.drewN | apply Kept.drew) | exact HK.out)).1) hk)))); (case aO => exact (by (with_reducible repeat (first | apply Kd.R_alloc | apply Kd.R_drewN | apply Kd.R_drew)); exact HO_0.out)); (case aS => exact (below_size (by repeat (first | (with_reducible first | exact HB.out | apply below_alloc | apply pw_below_drewN | apply below_drew1) | exact HB.out)))); (case aL => have := LMc6.out; omega); intro v107 w7 ho hb hg hat; rw [← Ny106.out] at ho; have n0_ := Aside0.mk (hb); have n1_ := Aside0.mk (Kept.of_grown (S := (fun k_ => P0_ k_)) hg (by repeat (first | (with_reducible first | exact HK.out | apply Kept.alloc | apply Kept.drewN | apply Kept.drew) | exact HK.out)) (fun k_ e_ => (HO_0.out.1 k_ e_))); have n2_ := Aside0.mk (ho); clear HB; clear HK; clear HO_0; have HB := n0_; have HK := n1_; have HO108 := n2_; clear n0_ n1_ n2_; clear ho hb hg hat))
          go_ret
          exact ⟨_, by first | rfl | (simp [errW_none, errW_some] <;> rfl) | (simp [*, errW_none, errW_some] <;> rfl), by (with_reducible repeat (first | apply Kd.R_alloc | apply Kd.R_drewN | apply Kd.R_drew)); exact HO108.out, by repeat (first | (with_reducible first | exact HB.out | apply below_alloc | apply pw_below_drewN | apply below_drew1) | exact HB.out), by repeat (first | (with_reducible first | exact HK.out | apply Kept.alloc | apply Kept.drewN | apply Kept.drew) | exact HK.out)⟩
        · rw [if_neg c6] at H
          exact absurd H (by simp)

end Go.Proofs.YteajidciahoboaaDoor.P
-- M1
set_option linter.unusedVariables false
set_option linter.unusedSimpArgs false
namespace Go.Proofs.YteajidciahoboaaDoor.M
open Go Go.RowKit Go.Proofs.YteajidciahoboaaDoorW.PrintWords

/-- a number, seven bits a byte -/
def leb (n : Nat) : List Int := if n < 128 then [(n : Int)] else ((n % 128 + 128 : Nat) : Int) :: leb (n / 128)
theorem leb_len (k : Nat) : ∀ n : Nat, n < 128 ^ (k + 1) → (leb n).length ≤ k + 1 := by
  induction k with
  | zero => intro n h; unfold leb; rw [if_pos (by simpa using h)]; simp
  | succ k ih =>
    intro n h
    unfold leb
    split
    · simp
    · have : n / 128 < 128 ^ (k + 1) := by rw [Nat.div_lt_iff_lt_mul (by decide)]; rw [Nat.pow_succ] at h; exact h
      have := ih _ this
      simp
      omega
theorem or128 : ∀ a : Fin 256, (a.val ||| 128) = a.val % 128 + 128 := by decide +kernel
theorem u8_or_128 (a : Nat) (h : a < 256) : Go.bits .or .u8 (a : Int) 128 = ((a % 128 + 128 : Nat) : Int) := by
  have := (bits_nat .u8 8 (by decide) wraps_u8 a 128 h (by decide)).2
  rw [show ((128 : Nat) : Int) = 128 from rfl] at this
  rw [this, or128 ⟨a, h⟩]
theorem octet_num_leb (m : Nat) : ∀ (n : Nat) (xs : List Int), n ≤ m → xs.length + (leb n).length < 140737488355328 → P.octet_num.l0 (m + 1) xs (n : Int) = some (xs ++ leb n) := by
  induction m with
  | zero =>
    intro n xs hn hl
    have : n = 0 := by omega
    subst this
    unfold leb at hl ⊢
    simp at hl
    rw [P.octet_num.l0, if_neg (by omega), if_pos (by omega)]
    simp
  | succ m ih =>
    intro n xs hn hl
    rw [leb] at hl ⊢
    rw [P.octet_num.l0]
    by_cases h : n < 128
    · rw [if_pos h] at hl ⊢
      simp at hl
      rw [if_neg (by omega), if_pos (by omega), Int.emod_eq_of_lt (by omega) (by omega)]
    · rw [if_neg h] at hl ⊢
      simp at hl
      rw [if_pos (by omega), if_pos (by omega)]
      have e1 : ((n : Int) % 256) = ((n % 256 : Nat) : Int) := by omega
      have e2 : ((n : Int) / 128) = ((n / 128 : Nat) : Int) := by omega
      rw [e1, u8_or_128 _ (Nat.mod_lt _ (by decide)), e2, show n % 256 % 128 = n % 128 by omega]
      rw [ih (n / 128) _ (by omega) (by simp; omega)]
      simp
end Go.Proofs.YteajidciahoboaaDoor.M
-- H1
set_option linter.unusedVariables false
set_option linter.unusedSimpArgs false
namespace Go.Proofs.YteajidciahoboaaDoor.H
open Go.RowKit Go.Proofs.YteajidciahoboaaDoorW.PrintWords Go.Proofs.YteajidciahoboaaDoorW.PrintLast Go.Proofs.YteajidciahoboaaDoorW.PrintMore Go.Proofs.YteajidciahoboaaDoor.M

theorem eqnil (w : World) (a : Option Addr) (n c n' c' : Nat) : (binOp .eql 36 (.slice a n c) (.slice none n' c')).run Tryd.prog w = .ok (.bool a.isNone) w := Lib.run_eql_slice_nil w _ _ a n c n' c' Tryd.underlying36

set_option maxHeartbeats 4000000 in
set_option maxRecDepth 100000 in
/-- slices.Clone of bytes: of what is nil, nil. -/
theorem clone_nil (w : World) : Calls Tryd.prog 50 #[.slice none 0 0] w fun e w' => e = .returned (.slice none 0 0) ∧ w = w' := by
  have hq := fun w => eqnil w none 0 0 0 0
  simp only [Option.isNone_none] at hq
  go_enter Tryd.func50, Tryd.ntmps50
  go_wp2
  go_ret
  exact ⟨rfl, rfl⟩

set_option maxHeartbeats 4000000 in
set_option maxRecDepth 100000 in
/-- slices.Clone of bytes: a row of its own. -/
theorem clone_some (a : Addr) (c : Nat) (xs : List Int) (w : World) (hr : Kd.C (Kd.int .u8) w (some a) xs.length xs) (hc : xs.length ≤ c) (hl : xs.length < 140737488355328) :
    Calls Tryd.prog 50 #[.slice (some a) xs.length c] w fun e w' => ∃ v : Value, e = .returned v ∧ Kd.R (Kd.int .u8) 5 w' w.heap.size (fun _ => True) v xs ∧ Below w.heap.size w w' := by
  have hq := fun w => eqnil w (some a) xs.length c 0 0
  simp only [Option.isNone_some] at hq
  have HR := Aside0.mk hr
  have HL := Aside0.mk hl
  clear hr hl
  go_enter Tryd.func50, Tryd.ntmps50
  go_wp2_with (first
    | ((with_reducible refine gate_dst (N := 5) rfl ?_); refine Kd.R_lit (Kd.int .u8) _ 5 ?hg (N := 5) ?hd (xs := ([] : List Int)) (inner := []) (ok := fun _ => True) (okp := fun _ => True) ?hr ?hp (fun _ hk => hk) trivial (Below.refl _ _) (Nat.le_refl _) (by simp) ?_; (case hd => rfl); (case hg => rfl); (case hr => first | (go_simp; done) | (go_simp; rfl)); (case hp => exact (Reps.none _ _)); intro v1 w1 ho hb hg_ hn_; have HO := Aside0.mk ho; have HB := Aside0.mk hb; clear ho hb hg_ hn_)
    | ((with_reducible refine gate_builtin (b := .append) (xs := #[.tmp 5, .tmp 6]) rfl ?_); at_builtin; refine Kd.R_append_rows (Kd.int .u8) (w0 := w) w.heap.size rfl (.tmp 5) (.tmp 6) 36 5 (.int .u8 0) 1 rfl Tryd.underlying36 P.info5 rfl (by decide) (by omega) v1 [] xs _ _ _ (fun _ => True) (fun _ => False) rfl rfl HO.out (Kd.C_below HR.out HB.out) (fun _ _ h => h) (fun _ h => h.elim) (fun _ _ => trivial) HB.out HB.out.size (by have := HL.out; simp; omega) ?_; intro v2 w2 ho hb hg_ hn_; have HO2 := Aside0.mk ho; have HB2 := Aside0.mk hb; clear ho hb hg_ hn_))
  go_ret
  exact ⟨_, rfl, by simpa using HO2.out, HB2.out⟩

set_option maxHeartbeats 4000000 in
set_option maxRecDepth 100000 in
/-- octet.Num onto nothing. -/
theorem num_nil (n : Nat) (w : World) (hn : n ≤ 4611686018427387904) :
    Calls Tryd.prog 18 #[.slice none 0 0, .int .i64 n] w fun e w' => ∃ v : Value, e = .returned (.tuple #[v, .int .i64 0]) ∧ Kd.R (Kd.int .u8) 5 w' w.heap.size (fun _ => True) v (leb n) ∧ Below w.heap.size w w' := by
  have hl : ([] : List Int).length + (leb n).length < 140737488355328 := by have := leb_len 9 n (by omega); simp; omega
  have HH := Aside0.mk (octet_num_leb n n [] (Nat.le_refl _) hl)
  clear hl
  go_enter Tryd.func18, Tryd.ntmps18
  go_wp2_with (first
    | (go_at_call 50; refine (clone_nil _).mono ?_; rintro e w' ⟨rfl, rfl⟩)
    | (go_at_call 49; refine (P.octet_num.calls (n + 1) (fun _ => True) _ [] n _ w w (Below.refl _ _) (Kd.R_nil _ _ _ _ _) HH.out).mono ?_; rintro e w' ⟨v, rfl, ho, hb, _⟩; have HO := Aside0.mk ho; have HB := Aside0.mk hb; clear ho hb))
  go_ret2
  exact ⟨_, rfl, Kd.R_mono HO.out (fun _ _ => trivial), HB.out⟩

set_option maxHeartbeats 4000000 in
set_option maxRecDepth 100000 in
/-- octet.Num behind something. -/
theorem num_some (a : Addr) (c : Nat) (xs : List Int) (n : Nat) (w : World) (hr : Kd.C (Kd.int .u8) w (some a) xs.length xs) (hc : xs.length ≤ c) (hl : xs.length < 100000) (hn : n ≤ 4611686018427387904) :
    Calls Tryd.prog 18 #[.slice (some a) xs.length c, .int .i64 n] w fun e w' => ∃ v : Value, e = .returned (.tuple #[v, .int .i64 0]) ∧ Kd.R (Kd.int .u8) 5 w' w.heap.size (fun _ => True) v (xs ++ leb n) ∧ Below w.heap.size w w' := by
  have hl' : xs.length + (leb n).length < 140737488355328 := by have := leb_len 9 n (by omega); omega
  have HH := Aside0.mk (octet_num_leb n n xs (Nat.le_refl _) hl')
  have HR := Aside0.mk hr
  clear hl' hr
  go_enter Tryd.func18, Tryd.ntmps18
  go_wp2_with (first
    | (go_at_call 50; refine (clone_some a c xs _ HR.out hc (by omega)).mono ?_; rintro e w1 ⟨v1, rfl, ho, hb⟩; have HO := Aside0.mk ho; have HB := Aside0.mk hb; clear ho hb)
    | (go_at_call 49; refine (P.octet_num.calls (n + 1) (fun _ => True) _ xs n _ w _ HB.out HO.out HH.out).mono ?_; rintro e w2 ⟨v2, rfl, ho, hb, _⟩; have HO2 := Aside0.mk ho; have HB2 := Aside0.mk hb; clear ho hb))
  go_ret2
  exact ⟨_, rfl, Kd.R_mono HO2.out (fun _ _ => trivial), HB2.out⟩

set_option maxHeartbeats 4000000 in
set_option maxRecDepth 100000 in
/-- octet.Text behind something. -/
theorem text_some (a : Addr) (c : Nat) (xs : List Int) (s : ByteArray) (w : World) (hr : Kd.C (Kd.int .u8) w (some a) xs.length xs) (hc : xs.length ≤ c) (hl : xs.length < 100000) (hs : s.size ≤ 4096) :
    Calls Tryd.prog 19 #[.slice (some a) xs.length c, .string s] w fun e w' => ∃ v : Value, e = .returned (.tuple #[v, .int .i64 0]) ∧ Kd.R (Kd.int .u8) 5 w' w.heap.size (fun _ => True) v (xs ++ leb s.size ++ bytesOf s) ∧ Below w.heap.size w w' := by
  have hle := leb_len 9 s.size (by omega)
  have HH := Aside0.mk (octet_num_leb s.size s.size xs (Nat.le_refl _) (by omega))
  have HR := Aside0.mk hr
  clear hr
  go_enter Tryd.func19, Tryd.ntmps19
  go_wp2_with (first
    | (go_at_call 50; refine (clone_some a c xs _ HR.out hc (by omega)).mono ?_; rintro e w1 ⟨v1, rfl, ho, hb⟩; have HO := Aside0.mk ho; have HB := Aside0.mk hb; clear ho hb)
    | (go_at_call 49; refine (P.octet_num.calls (s.size + 1) (fun _ => True) _ xs s.size _ w _ HB.out HO.out HH.out).mono ?_; rintro e w2 ⟨v2, rfl, ho, hb, _⟩; have HO2 := Aside0.mk (Kd.R_mono (ok' := fun _ => True) ho (fun _ _ => trivial)); have HB2 := Aside0.mk hb; clear ho hb)
    | (at_builtin; refine print_append_str (w0 := w) w.heap.size rfl (.tmp 14) _ 36 9 5 rfl Tryd.underlying36 Tryd.underlying9 P.info5 v2 (xs ++ leb s.size) s rfl rfl (Kd.own_of_R HO2.out) HB2.out HB2.out.size (by simp; omega) ?_; intro v3 w3 ho hb hg; have HO3 := Aside0.mk (Kd.R_of_own (h1 := fun _ => rfl) (ok := fun _ => True) ho (fun _ _ => trivial)); have HB3 := Aside0.mk hb; clear ho hb hg))
  go_ret2
  exact ⟨_, rfl, HO3.out, HB3.out⟩
end Go.Proofs.YteajidciahoboaaDoor.H
-- M2
set_option linter.unusedVariables false
set_option linter.unusedSimpArgs false
namespace Go.Proofs.YteajidciahoboaaDoor.M
open Go Go.RowKit Go.Proofs.YteajidciahoboaaDoorW.PrintWords

/-- one bit of the register -/
def crcStep (r : Nat) : Nat := if r % 2 = 1 then (r / 2) ^^^ 3988292384 else r / 2
def crc4 (r : Nat) : Nat := crcStep (crcStep (crcStep (crcStep r)))
def crcByte (r x : Nat) : Nat := crc4 (crc4 (r ^^^ x))
def crcFold (r : Nat) (l : List Nat) : Nat := l.foldl crcByte r
def crcSum (l : List Nat) : Nat := crcFold 4294967295 l ^^^ 4294967295
def halfTab : List Nat := [0x00000000, 0x1db71064, 0x3b6e20c8, 0x26d930ac, 0x76dc4190, 0x6b6b51f4, 0x4db26158, 0x5005713c, 0xedb88320, 0xf00f9344, 0xd6d6a3e8, 0xcb61b38c, 0x9b64c2b0, 0x86d3d2d4, 0xa00ae278, 0xbdbdf21c]

theorem crcStep_xor (a b : Nat) : crcStep (a ^^^ b) = crcStep a ^^^ crcStep b := by
  have h := @Nat.xor_mod_two_eq_one a b
  have d : (a ^^^ b) / 2 = a / 2 ^^^ b / 2 := Nat.xor_div_two
  unfold crcStep
  rw [d]
  by_cases ha : a % 2 = 1 <;> by_cases hb : b % 2 = 1 <;> simp only [ha, hb, h, if_true, if_false, iff_self, not_true, not_false_iff, iff_false, iff_true, true_iff, false_iff]
  · rw [Nat.xor_assoc, Nat.xor_comm (b / 2), ← Nat.xor_assoc 3988292384, Nat.xor_self, Nat.zero_xor]
  · rw [Nat.xor_assoc, Nat.xor_assoc, Nat.xor_comm (b / 2)]
  · rw [Nat.xor_assoc]
theorem crcStep_two (m : Nat) : crcStep (2 * m) = m := by
  unfold crcStep
  rw [if_neg (by omega)]
  omega
theorem crc4_xor (a b : Nat) : crc4 (a ^^^ b) = crc4 a ^^^ crc4 b := by
  unfold crc4
  rw [crcStep_xor, crcStep_xor, crcStep_xor, crcStep_xor]
theorem crc4_sixteen (q : Nat) : crc4 (16 * q) = q := by
  unfold crc4
  rw [show 16 * q = 2 * (2 * (2 * (2 * q))) by omega, crcStep_two, crcStep_two, crcStep_two, crcStep_two]
theorem sixteen_xor (q c : Nat) (hc : c < 16) : 16 * q + c = 16 * q ^^^ c := by
  apply Nat.eq_of_testBit_eq
  intro j
  have h := Nat.testBit_two_pow_mul_add q (i := 4) (b := c) (by simpa using hc) j
  rw [show (2 : Nat) ^ 4 = 16 from rfl] at h
  rw [h, Nat.testBit_xor]
  have h2 := Nat.testBit_two_pow_mul (i := 4) (a := q) (j := j)
  rw [show (2 : Nat) ^ 4 = 16 from rfl] at h2
  rw [h2]
  by_cases hj : j < 4
  · simp [hj, Nat.not_le.2 hj]
  · have : c.testBit j = false := Nat.testBit_lt_two_pow (Nat.lt_of_lt_of_le (by simpa using hc) (Nat.pow_le_pow_right (by decide) (by omega : 4 ≤ j)))
    simp [hj, this]
    omega
theorem crc4_half : ∀ c : Nat, c < 16 → crc4 c = halfTab.getD c 0 := by decide
theorem crc4_tab (r : Nat) : crc4 r = r / 16 ^^^ halfTab.getD (r % 16) 0 := by
  have h : r = 16 * (r / 16) + r % 16 := by omega
  have hc : r % 16 < 16 := Nat.mod_lt _ (by decide)
  rw [← crc4_half _ hc]
  conv => lhs; rw [h, sixteen_xor _ _ hc, crc4_xor, crc4_sixteen]
theorem xor_lt {a b : Nat} (ha : a < 4294967296) (hb : b < 4294967296) : a ^^^ b < 4294967296 :=
  Nat.xor_lt_two_pow (n := 32) ha hb
theorem crcStep_lt (r : Nat) (h : r < 4294967296) : crcStep r < 4294967296 := by
  unfold crcStep
  split
  · exact xor_lt (by omega) (by decide)
  · omega
theorem crc4_lt (r : Nat) (h : r < 4294967296) : crc4 r < 4294967296 :=
  crcStep_lt _ (crcStep_lt _ (crcStep_lt _ (crcStep_lt _ h)))
theorem crcByte_lt (r x : Nat) (h : r < 4294967296) (hx : x < 4294967296) : crcByte r x < 4294967296 :=
  crc4_lt _ (crc4_lt _ (xor_lt h hx))
theorem crcFold_lt (l : List Nat) : ∀ r, r < 4294967296 → (∀ x ∈ l, x < 256) → crcFold r l < 4294967296 := by
  induction l with
  | nil => intro r h _; exact h
  | cons x l ih =>
    intro r h hl
    have hx := hl x (by simp)
    exact ih _ (crcByte_lt r x h (by omega)) (fun y hy => hl y (by simp [hy]))
theorem crcSum_lt (l : List Nat) (hl : ∀ x ∈ l, x < 256) : crcSum l < 4294967296 := xor_lt (crcFold_lt l _ (by decide) hl) (by decide)

def nats (xs : List Int) : List Nat := xs.map Int.toNat
def isBytes (xs : List Int) : Prop := ∀ x ∈ xs, 0 ≤ x ∧ x < 256
theorem isBytes.nats {xs : List Int} (h : isBytes xs) : ∀ x ∈ nats xs, x < 256 := by
  intro x hx
  obtain ⟨y, hy, rfl⟩ := List.mem_map.1 hx
  have := h y hy
  omega
theorem bits_xor_nat (k : IntKind) (j : Nat) (hj : j ≤ k.bits) (hk : ∀ n : Int, 0 ≤ n → n < 2 ^ j → k.wrap n = n) (a b : Nat) (ha : a < 2 ^ j) (hb : b < 2 ^ j) :
    Go.bits .xor k a b = ((a ^^^ b : Nat) : Int) := by
  have hp : 2 ^ j ≤ 2 ^ k.bits := Nat.pow_le_pow_right (by decide) hj
  have ha' : a % 2 ^ k.bits = a := Nat.mod_eq_of_lt (Nat.lt_of_lt_of_le ha hp)
  have hb' : b % 2 ^ k.bits = b := Nat.mod_eq_of_lt (Nat.lt_of_lt_of_le hb hp)
  have cast : ∀ n : Nat, n < 2 ^ j → ((n : Nat) : Int) < 2 ^ j := fun n h => by exact_mod_cast h
  simp only [Go.bits, BitVec.ofInt_natCast, BitVec.toNat_xor, BitVec.toNat_ofNat, ha', hb']
  exact hk _ (Int.natCast_nonneg _) (cast _ (Nat.xor_lt_two_pow ha hb))
theorem wraps_u32 (n : Int) (h₀ : 0 ≤ n) (h₁ : n < 2 ^ 32) : IntKind.u32.wrap n = n := by rw [IntKind.wrap_u32]; omega
theorem n32_xor (a b : Nat) (ha : a < 4294967296) (hb : b < 4294967296) : Go.bits .xor .u32 a b = ((a ^^^ b : Nat) : Int) := bits_xor_nat .u32 32 (by decide) wraps_u32 a b ha hb
theorem n32_and (a b : Nat) (ha : a < 4294967296) (hb : b < 4294967296) : Go.bits .and .u32 a b = ((a &&& b : Nat) : Int) := (bits_nat .u32 32 (by decide) wraps_u32 a b ha hb).1
theorem n32_or (a b : Nat) (ha : a < 4294967296) (hb : b < 4294967296) : Go.bits .or .u32 a b = ((a ||| b : Nat) : Int) := (bits_nat .u32 32 (by decide) wraps_u32 a b ha hb).2
theorem n32_and15 (a : Nat) (ha : a < 4294967296) : Go.bits .and .u32 a 15 = ((a % 16 : Nat) : Int) := by
  have := n32_and a 15 ha (by decide)
  rw [show ((15 : Nat) : Int) = 15 from rfl] at this
  rw [this, show (15 : Nat) = 2 ^ 4 - 1 from rfl, Nat.and_two_pow_sub_one_eq_mod]
theorem n32_not (n : Nat) (hn : n < 4294967296) : Go.bits .xor .u32 IntKind.u32.max n = ((n ^^^ 4294967295 : Nat) : Int) := by
  rw [show IntKind.u32.max = ((4294967295 : Nat) : Int) from rfl, n32_xor _ _ (by decide) hn, Nat.xor_comm]
theorem halfTab_lt : ∀ c : Nat, c < 16 → halfTab.getD c 0 < 4294967296 := by decide
theorem crcFold_snoc (r : Nat) (l : List Nat) (x : Nat) : crcFold r (l ++ [x]) = crcByte (crcFold r l) x := by simp [crcFold]
theorem nats_take_snoc (xs : List Int) (k : Nat) (h : k < xs.length) : nats (xs.take (k + 1)) = nats (xs.take k) ++ [(xs.getD k 0).toNat] := by
  unfold nats
  rw [List.take_succ_eq_append_getElem h, List.map_append]
  simp [h]
end Go.Proofs.YteajidciahoboaaDoor.M
-- Pzcrcfour
-- PRINTED by print.py (a twelfth state) out of the translation. Not trusted: Lean checks it.
namespace Go.Proofs.YteajidciahoboaaDoor.P
open Go.RowKit Go.Proofs.YteajidciahoboaaDoorW.PrintWords Go.Proofs.YteajidciahoboaaDoorW.PrintLast Go.Proofs.YteajidciahoboaaDoorW.PrintMore
attribute [local go_sem] max2_int min2_int max_two min_two max_three min_three max_four min_four   -- for this text's walks alone
set_option linter.unusedVariables false
set_option linter.unusedSimpArgs false

/-! ### crc_four: function 51 -/
def crc_four.f (a0 : Int) : Option (List Int) := some (([(a0) % 256, (a0 / 256) % 256, (a0 / 65536) % 256, (a0 / 16777216) % 256] : List Int))
set_option maxHeartbeats 8000000 in
set_option maxRecDepth 100000 in
theorem crc_four.calls (a0 : Int) (r : List Int) (w : World) (h : crc_four.f a0 = some r) :
    Calls Tryd.prog 51 #[.int .u32 a0] w fun e w' => ∃ v0_ : Value, e = .returned (v0_) ∧ Kd.R (Kd.int .u8) 5 w' w.heap.size (fun _ => True) v0_ r ∧ Below w.heap.size w w' := by
  have HB := Aside0.mk (Below.refl w.heap.size w)
  have H : (some (([(a0) % 256, (a0 / 256) % 256, (a0 / 65536) % 256, (a0 / 16777216) % 256] : List Int))) = some r := h
  clear h
  obtain ⟨y109, hy109⟩ : ∃ y_ : List Int, y_ = (([(a0) % 256, (a0 / 256) % 256, (a0 / 65536) % 256, (a0 / 16777216) % 256] : List Int)) := ⟨_, rfl⟩
  replace H : (some y109) = some r := by first | (rw [hy109]; with_reducible exact H) | (have H2_ := (Option.bind_some _ _).symm.trans H; rw [hy109]; with_reducible exact H2_) | (have H2_ := (Option.bind_some _ _).symm.trans H; with_reducible exact H2_) | with_reducible exact H | (rw [hy109]; exact H) | exact H
  have Ny109 := Aside0.mk hy109
  clear hy109
  obtain rfl := Option.some.inj H
  go_enter Tryd.func51, Tryd.ntmps51
  go_wp2_with (first | ((with_reducible refine gate_dst (N := 14) rfl ?_); refine Kd.R_lit (Kd.int .u8) _ 5 ?hg (N := 14) ?hd (xs := ([(a0) % 256, (a0 / 256) % 256, (a0 / 65536) % 256, (a0 / 16777216) % 256] : List Int)) (inner := [.int .u8 ((a0) % 256), .int .u8 ((a0 / 256) % 256), .int .u8 ((a0 / 65536) % 256), .int .u8 ((a0 / 16777216) % 256)]) (ok := fun _ => True) (okp := fun _ => True) ?hr ?hp (fun _ hk => hk) trivial (Below.refl _ _) (Nat.le_refl _) (by simp) ?_; (case hd => rfl); (case hg => rfl); (case hr => first | (go_simp; done) | (go_simp; rfl)); (case hp => exact (Reps.one (show Kd.M (Kd.int .u8) _ _ _ ((a0) % 256) [.int .u8 ((a0) % 256)] from rfl) (Reps.one (show Kd.M (Kd.int .u8) _ _ _ ((a0 / 256) % 256) [.int .u8 ((a0 / 256) % 256)] from rfl) (Reps.one (show Kd.M (Kd.int .u8) _ _ _ ((a0 / 65536) % 256) [.int .u8 ((a0 / 65536) % 256)] from rfl) (Reps.one (show Kd.M (Kd.int .u8) _ _ _ ((a0 / 16777216) % 256) [.int .u8 ((a0 / 16777216) % 256)] from rfl) (Reps.none _ _)))))); intro v110 w2 ho3 hb hg_ hnew_; clear hg_ hnew_; (first | rw [← Ny109.out] at ho3 | (simp only [Int.reduceToNat] at ho3; rw [← Ny109.out] at ho3)); have n0_ := Aside0.mk (Kd.R_lower ho3 (below_size (by repeat (first | (with_reducible first | exact HB.out | apply below_alloc | apply pw_below_drewN | apply below_drew1) | exact HB.out)))); have n1_ := Aside0.mk (below_step (by repeat (first | (with_reducible first | exact HB.out | apply below_alloc | apply pw_below_drewN | apply below_drew1) | exact HB.out)) hb); clear HB; have HO111 := n0_; have HB := n1_; clear n0_ n1_; clear hb ho3))
  go_ret
  exact ⟨_, by first | rfl | (simp [errW_none, errW_some] <;> rfl) | (simp [*, errW_none, errW_some] <;> rfl), by (with_reducible repeat (first | apply Kd.R_alloc | apply Kd.R_drewN | apply Kd.R_drew)); exact HO111.out, by repeat (first | (with_reducible first | exact HB.out | apply below_alloc | apply pw_below_drewN | apply below_drew1) | exact HB.out)⟩

end Go.Proofs.YteajidciahoboaaDoor.P
-- H2
set_option linter.unusedVariables false
set_option linter.unusedSimpArgs false
namespace Go.Proofs.YteajidciahoboaaDoor.H
open Go.RowKit Go.Proofs.YteajidciahoboaaDoorW.PrintWords Go.Proofs.YteajidciahoboaaDoorW.PrintLast Go.Proofs.YteajidciahoboaaDoorW.PrintMore Go.Proofs.YteajidciahoboaaDoor.M

/-- The table of the sums, where it lies. -/
def HalfAt (w : World) : Prop := ∀ c : Nat, c < 16 → w.cell? ⟨0, c, none⟩ = some (.int .u32 (halfTab.getD c 0 : Nat))

theorem sum_steps {w : World} (hT : HalfAt w) (n x : Nat) (hn : n < 4294967296) (hx : x < 4294967296) :
    ∃ r1 c1 t1 r2 c2 t2 r3 : Nat, Go.bits .xor .u32 n x = (r1 : Int) ∧ Go.bits .and .u32 r1 15 = (c1 : Int) ∧ c1 < 16 ∧ w.cell? ⟨0, c1, none⟩ = some (.int .u32 t1) ∧ Go.bits .xor .u32 ((r1 : Int) / 16) t1 = (r2 : Int) ∧
      Go.bits .and .u32 r2 15 = (c2 : Int) ∧ c2 < 16 ∧ w.cell? ⟨0, c2, none⟩ = some (.int .u32 t2) ∧ Go.bits .xor .u32 ((r2 : Int) / 16) t2 = (r3 : Int) ∧ r3 = crcByte n x := by
  have h1 : n ^^^ x < 4294967296 := xor_lt hn hx
  have h2 : crc4 (n ^^^ x) < 4294967296 := crc4_lt _ h1
  refine ⟨n ^^^ x, (n ^^^ x) % 16, _, crc4 (n ^^^ x), crc4 (n ^^^ x) % 16, _, crc4 (crc4 (n ^^^ x)), n32_xor _ _ hn hx, n32_and15 _ h1, Nat.mod_lt _ (by decide), hT _ (Nat.mod_lt _ (by decide)), ?_, n32_and15 _ h2, Nat.mod_lt _ (by decide), hT _ (Nat.mod_lt _ (by decide)), ?_, rfl⟩
  · rw [show (((n ^^^ x : Nat) : Int) / 16) = (((n ^^^ x) / 16 : Nat) : Int) by omega, n32_xor _ _ (by omega) (halfTab_lt _ (Nat.mod_lt _ (by decide))), ← crc4_tab]
  · rw [show (((crc4 (n ^^^ x) : Nat) : Int) / 16) = ((crc4 (n ^^^ x) / 16 : Nat) : Int) by omega, n32_xor _ _ (by omega) (halfTab_lt _ (Nat.mod_lt _ (by decide))), ← crc4_tab]

set_option maxHeartbeats 4000000 in
set_option maxRecDepth 100000 in
/-- crc.Sum of one part. -/
theorem sum_one (g : Nat) (A : Option Addr) (c : Nat) (xs : List Int) (w : World) (hT : HalfAt w) (hg : w.cell? ⟨g, 0, none⟩ = some (.slice A xs.length c)) (hr : Kd.C (Kd.int .u8) w A xs.length xs) (hx : isBytes xs) (hl : xs.length < 140737488355328) :
    Calls Tryd.prog 53 #[.slice (some ⟨g, 0, none⟩) 1 1] w fun e w' => e = .returned (.int .u32 (crcSum (nats xs) : Nat)) ∧ w = w' := by
  have HT := Aside0.mk hT
  have HR := Aside0.mk hr
  have HX := Aside0.mk hx
  clear hT hr hx
  go_enter Tryd.func53, Tryd.ntmps53
  go_wp2
  go_loop [3, 10] (fun r i => (i = .int .i64 0 ∧ r = .int .u32 4294967295) ∨ (i = .int .i64 1 ∧ r = .int .u32 (crcFold 4294967295 (nats xs) : Nat))) (fun _ i => 1 - (intOf i).toNat)
  case atStart => exact .inl ⟨rfl, rfl⟩
  case round =>
    rcases hrel with ⟨rfl, rfl⟩ | ⟨rfl, rfl⟩
    · go_wp2
      go_loop [3, 16] (fun r i => ∃ k n : Nat, k ≤ xs.length ∧ n = crcFold 4294967295 (nats (xs.take k)) ∧ i = .int .i64 k ∧ r = .int .u32 n) (fun _ i => xs.length - (intOf i).toNat)
      case atStart => exact ⟨0, _, Nat.zero_le _, rfl, rfl, rfl⟩
      case round =>
        obtain ⟨k, n, hk, hn, rfl, rfl⟩ := hrel
        have hnb : n < 4294967296 := by rw [hn]; exact crcFold_lt _ _ (by decide) (fun x hx => by obtain ⟨y, hy, rfl⟩ := List.mem_map.1 hx; have := HX.out y (List.mem_of_mem_take hy); omega)
        have HN := Aside0.mk hn
        clear hn
        by_cases hlt : k < xs.length
        · obtain ⟨ad, rfl, hcell⟩ := Kd.at_int HR.out (k : Int) (by omega) (by omega)
          obtain ⟨x, hxe⟩ : ∃ x : Nat, rd xs (k : Int) = (x : Int) ∧ x < 256 ∧ x = (xs.getD k 0).toNat := by
            have h1 : rd xs (k : Int) = xs.getD k 0 := rfl
            have h2 := HX.out (xs.getD k 0) (by simp [hlt])
            exact ⟨(xs.getD k 0).toNat, by rw [h1]; omega, by omega, rfl⟩
          obtain ⟨hxe, hxl, hxd⟩ := hxe
          rw [hxe] at hcell
          simp only [Int.toNat_natCast] at hcell
          have HXD := Aside0.mk hxd
          clear hxd hxe
          obtain ⟨r1, c1, t1, r2, c2, t2, r3, e1, e2, l1, g1, e3, e4, l2, g2, e5, hr3⟩ := sum_steps HT.out n x hnb (by omega)
          have HR3 := Aside0.mk hr3
          clear hr3 hnb
          go_wp2
          go_round
          case rel => exact ⟨k + 1, r3, by omega, by rw [nats_take_snoc xs k hlt, crcFold_snoc, ← HN.out, ← HXD.out, HR3.out], by go_num, rfl⟩
          case measure => simp [intOf]; omega
        · have hke : k = xs.length := by omega
          go_wp2
          go_round
          case rel => exact .inr ⟨rfl, by rw [HN.out, hke, List.take_length]⟩
          case measure => simp [intOf]
    · obtain ⟨n, hn, hnb⟩ : ∃ n, crcFold 4294967295 (nats xs) = n ∧ n < 4294967296 := ⟨_, rfl, crcFold_lt _ _ (by decide) HX.out.nats⟩
      rw [hn]
      have HN := Aside0.mk hn
      clear hn
      have hnot := n32_not n hnb
      go_wp2
      go_ret
      exact ⟨by rw [← HN.out]; rfl, rfl⟩
end Go.Proofs.YteajidciahoboaaDoor.H
-- H3
set_option linter.unusedVariables false
set_option linter.unusedSimpArgs false
namespace Go.Proofs.YteajidciahoboaaDoor.H
open Go.RowKit Go.Proofs.YteajidciahoboaaDoorW.PrintWords Go.Proofs.YteajidciahoboaaDoorW.PrintLast Go.Proofs.YteajidciahoboaaDoorW.PrintMore Go.Proofs.YteajidciahoboaaDoor.M

set_option maxHeartbeats 4000000 in
set_option maxRecDepth 100000 in
/-- slices.Grow of nothing. -/
theorem grow_nil (n : Nat) (w : World) (hn : 0 < n) (hm : n ≤ 140737488355328) :
    Calls Tryd.prog 81 #[.slice none 0 0, .int .i64 n] w fun e w' => ∃ v : Value, e = .returned v ∧ Kd.R (Kd.int .u8) 5 w' w.heap.size (fun _ => True) v [] ∧ Below w.heap.size w w' := by
  go_enter Tryd.func81, Tryd.ntmps81
  go_wp2_with (first
    | ((with_reducible refine gate_builtin (b := .append) (xs := #[.tmp 20, .tmp 21]) rfl ?_); at_builtin; refine Kd.R_append_zeros (Kd.int .u8) (w0 := w) w.heap.size rfl (.tmp 20) (.tmp 21) 36 3 5 (.int .u8 0) 1 rfl Tryd.underlying36 Tryd.underlying3 P.info5 rfl (by decide) (by omega) (.slice none 0 0) [] 0 n (fun _ => True) rfl rfl rfl (fun _ _ => trivial) (Kd.R_nil _ _ _ _ _) (by omega) (Below.refl _ _) (Nat.le_refl _) (by simp; omega) ?_; intro v2 w2 ho hb hg_ hn_; obtain ⟨A2, c2, rfl⟩ := Kd.R_slice ho; have HO2 := Aside0.mk ho; have HB2 := Aside0.mk hb; clear ho hb hg_ hn_))
  go_ret
  exact ⟨_, rfl, Kd.R_take (m := 0) HO2.out (Nat.zero_le _), HB2.out⟩

/-- A row of rows, read at a place. -/
theorem at_rows {w : World} {A : Option Addr} {n : Nat} {xs : List (List Int)} (h : Kd.C (Kd.slice 5 (Kd.int .u8)) w A n xs) (i : Nat) (h1 : i < n) : ∃ ad A0 c0, A = some ad ∧ w.cell? (ad.add i) = some (.slice A0 (xs.getD i []).length c0) ∧ (xs.getD i []).length ≤ c0 ∧ (Kd.int .u8).C w A0 (xs.getD i []).length (xs.getD i []) := by
  obtain ⟨ad, c, e, _, hK, hc0⟩ := Kd.C_get h ([] : List Int) (i : Int) (by omega) (by omega)
  have hc : ∀ j u, c[j]? = some u → w.cell? (ad.add ((i : Int).toNat * 1 + j)) = some u := hc0
  simp only [Int.toNat_natCast] at hK hc
  obtain ⟨A0, c0, rfl, l0, g0⟩ := hK
  exact ⟨ad, A0, c0, e, by have hq := hc 0 _ rfl; rwa [Nat.mul_one, Nat.add_zero] at hq, l0, g0⟩
theorem total_snoc (ls : List (List Int)) (k : Nat) (h : k < ls.length) : (ls.take (k + 1)).flatten = (ls.take k).flatten ++ ls.getD k [] := by
  rw [List.take_succ_eq_append_getElem h, List.flatten_append]
  simp [h]
theorem total_le (ls : List (List Int)) (k : Nat) : (ls.take k).flatten.length ≤ ls.flatten.length := by
  conv => rhs; rw [← List.take_append_drop k ls, List.flatten_append, List.length_append]
  omega

set_option maxHeartbeats 4000000 in
set_option maxRecDepth 100000 in
/-- slices.Concat of rows of bytes. -/
theorem concat_any (a : Addr) (n : Nat) (ls : List (List Int)) (w : World) (hn : n = ls.length) (hr : Kd.C (Kd.slice 5 (Kd.int .u8)) w (some a) n ls) (h0 : 0 < ls.flatten.length) (hm : ls.flatten.length ≤ 100000000) :
    Calls Tryd.prog 52 #[.slice (some a) n n] w fun e w' => ∃ v : Value, e = .returned v ∧ Kd.R (Kd.int .u8) 5 w' w.heap.size (fun _ => True) v ls.flatten ∧ Below w.heap.size w w' := by
  have HR := Aside0.mk hr
  have HN := Aside0.mk hn
  clear hr hn
  have hnb := HR.out.2.1
  go_enter Tryd.func52, Tryd.ntmps52
  go_wp2
  go_loop [3, 11] (fun s i => ∃ k m : Nat, k ≤ n ∧ i = .int .i64 k ∧ s = .int .i64 m ∧ Aside0 (m = (ls.take k).flatten.length)) (fun _ i => n - (intOf i).toNat)
  case atStart => exact ⟨0, 0, Nat.zero_le _, rfl, rfl, ⟨rfl⟩⟩
  case round =>
    obtain ⟨k, m, hk, rfl, rfl, HM⟩ := hrel
    by_cases hlt : k < n
    · obtain ⟨ad, A0, c0, he, hcell, hc0, _⟩ := at_rows HR.out k hlt
      obtain rfl := Option.some.inj he
      clear he
      have hsn := total_snoc ls k (by rw [← HN.out]; exact hlt)
      have hle2 := total_le ls (k + 1)
      obtain ⟨y, hy⟩ : ∃ y, y = ls.getD k [] := ⟨_, rfl⟩
      rw [← hy] at hcell hc0
      have HS : Aside0 ((ls.take (k + 1)).flatten.length = m + y.length) := ⟨by rw [hsn, List.length_append, ← HM.out, ← hy]⟩
      rw [HS.out] at hle2
      clear hsn hy
      go_wp2
      go_round
      case rel => exact ⟨k + 1, m + y.length, by omega, by go_num, by go_num, ⟨HS.out.symm⟩⟩
      case measure => simp [intOf]; omega
    · have hke : k = n := by omega
      have hm0 : m = ls.flatten.length := by rw [HM.out, hke, HN.out, List.take_length]
      have HM0 := Aside0.mk hm0
      have hmp : 0 < m := by omega
      have hmm : m ≤ 140737488355328 := by omega
      have HL := Aside0.mk hm
      clear hm0 HM h0 hm hke
      go_wp2_with (go_at_call 81; refine (grow_nil m _ hmp hmm).mono ?_; rintro e w1 ⟨v1, rfl, ho, hb⟩; have HO := Aside0.mk ho; have HB := Aside0.mk hb; clear ho hb)
      go_loopw [6, 27] (fun v i wr => ∃ k : Nat, k ≤ n ∧ i = .int .i64 k ∧ Aside0 (Kd.R (Kd.int .u8) 5 wr w.heap.size (fun _ => True) v (ls.take k).flatten) ∧ Aside0 (Below w.heap.size w wr)) (fun _ i _ => n - (intOf i).toNat)
      case atStart => exact ⟨0, Nat.zero_le _, rfl, HO, HB⟩
      case round =>
        obtain ⟨k, hk, rfl, HO1, HB1⟩ := hrel
        by_cases hlt : k < n
        · obtain ⟨ad, A0, c0, he, hcell, hc0, hc⟩ := at_rows (Kd.C_below HR.out HB1.out) k hlt
          obtain rfl := Option.some.inj he
          clear he
          have hsn := total_snoc ls k (by rw [← HN.out]; exact hlt)
          have hle2 := total_le ls (k + 1)
          obtain ⟨y, hy⟩ : ∃ y, y = ls.getD k [] := ⟨_, rfl⟩
          rw [← hy] at hcell hc0 hc hsn
          have HC := Aside0.mk hc
          have HS := Aside0.mk hsn
          have HLE : Aside0 ((ls.take k).flatten.length + y.length ≤ 140737488355328) := ⟨by rw [hsn, List.length_append] at hle2; have := HL.out; omega⟩
          clear hsn hy hc hle2
          go_wp2_with (first
            | ((with_reducible refine gate_builtin (b := .append) (xs := #[.tmp 31, .tmp 32]) rfl ?_); at_builtin; refine Kd.R_append_rows (Kd.int .u8) (w0 := w) w.heap.size rfl (.tmp 31) (.tmp 32) 36 5 (.int .u8 0) 1 rfl Tryd.underlying36 P.info5 rfl (by decide) (by omega) _ _ y _ _ _ (fun _ => True) (fun _ => False) rfl rfl HO1.out HC.out (fun _ _ h => h) (fun _ h => h.elim) (fun _ _ => trivial) HB1.out HB1.out.size (by have := HLE.out; omega) ?_; intro v2 w2 ho hb hg_ hn_; have HO2 := Aside0.mk ho; have HB2 := Aside0.mk hb; clear ho hb hg_ hn_))
          go_roundw
          case rel => exact ⟨k + 1, by omega, by go_num, ⟨by rw [HS.out]; exact HO2.out⟩, HB2⟩
          case measure => simp [intOf]; omega
        · have hke : k = n := by omega
          subst hke
          go_wp2
          go_ret
          exact ⟨_, rfl, by have := HO1.out; rw [HN.out, List.take_length] at this; exact this, HB1.out⟩
end Go.Proofs.YteajidciahoboaaDoor.H
-- Pzcrcnumber
-- PRINTED by print.py (a twelfth state) out of the translation. Not trusted: Lean checks it.
namespace Go.Proofs.YteajidciahoboaaDoor.P
open Go.RowKit Go.Proofs.YteajidciahoboaaDoorW.PrintWords Go.Proofs.YteajidciahoboaaDoorW.PrintLast Go.Proofs.YteajidciahoboaaDoorW.PrintMore
attribute [local go_sem] max2_int min2_int max_two min_two max_three min_three max_four min_four   -- for this text's walks alone
set_option linter.unusedVariables false
set_option linter.unusedSimpArgs false

/-! ### crc_number: function 62 -/
def crc_number.f (l0 : List Int) : Option (Int) := if 0 < (l0.length : Int) then (if 1 < (l0.length : Int) then (if 2 < (l0.length : Int) then (if 3 < (l0.length : Int) then (some (Go.bits .or .u32 (Go.bits .or .u32 (Go.bits .or .u32 ((rd l0 0) % 4294967296) ((((rd l0 1) % 4294967296) * 256) % 4294967296)) ((((rd l0 2) % 4294967296) * 65536) % 4294967296)) ((((rd l0 3) % 4294967296) * 16777216) % 4294967296))) else (none)) else (none)) else (none)) else (none)
set_option maxHeartbeats 8000000 in
set_option maxRecDepth 100000 in
theorem crc_number.calls (A0 : Option Addr) (c0 : Nat) (l0 : List Int) (r : Int) (w : World) (hr0 : Kd.C (Kd.int .u8) w A0 l0.length l0) (hc0 : l0.length ≤ c0) (h : crc_number.f l0 = some r) :
    Calls Tryd.prog 62 #[.slice A0 l0.length c0] w fun e w' => e = .returned (.int .u32 r) ∧ Drawn0 w w' := by
  have HR0 := Aside0.mk hr0
  have HC0 := Aside0.mk hc0
  clear hr0 hc0
  have H : (if 0 < (l0.length : Int) then (if 1 < (l0.length : Int) then (if 2 < (l0.length : Int) then (if 3 < (l0.length : Int) then (some (Go.bits .or .u32 (Go.bits .or .u32 (Go.bits .or .u32 ((rd l0 0) % 4294967296) ((((rd l0 1) % 4294967296) * 256) % 4294967296)) ((((rd l0 2) % 4294967296) * 65536) % 4294967296)) ((((rd l0 3) % 4294967296) * 16777216) % 4294967296))) else (none)) else (none)) else (none)) else (none)) = some r := h
  clear h
  by_cases c2 : 0 < (l0.length : Int)
  · rw [if_pos c2] at H
    have c2b0 : decide (0 < (l0.length : Int)) = true := decide_eq_true c2
    have c2b1 : decide (0 < l0.length) = true := decide_eq_true (by omega)
    clear c2
    by_cases c3 : 1 < (l0.length : Int)
    · rw [if_pos c3] at H
      have c3b0 : decide (1 < (l0.length : Int)) = true := decide_eq_true c3
      have c3b1 : decide (1 < l0.length) = true := decide_eq_true (by omega)
      clear c3
      by_cases c4 : 2 < (l0.length : Int)
      · rw [if_pos c4] at H
        have c4b0 : decide (2 < (l0.length : Int)) = true := decide_eq_true c4
        have c4b1 : decide (2 < l0.length) = true := decide_eq_true (by omega)
        clear c4
        by_cases c5 : 3 < (l0.length : Int)
        · rw [if_pos c5] at H
          have c5b0 : decide (3 < (l0.length : Int)) = true := decide_eq_true c5
          have c5b1 : decide (3 < l0.length) = true := decide_eq_true (by omega)
          clear c5
          obtain rfl := Option.some.inj H
          have p204 : 0 ≤ (0 : Int) := (by omega)
          have q204 : 0 < (l0.length : Int) := of_decide_eq_true (by first | (with_reducible assumption) | assumption)
          obtain ⟨ad204, e204, hx204_0⟩ := Kd.at_int HR0.out 0 p204 q204
          cases e204
          have qi204 : (0 < l0.length) = True := eq_true (by omega)
          (try rw [show ((0 : Int)).toNat = 0 from rfl] at hx204_0)
          (try rw [Addr.add_zero'] at hx204_0)
          replace p204 := eq_true p204
          replace q204 := eq_true q204
          have p205 : 0 ≤ (1 : Int) := (by omega)
          have q205 : 1 < (l0.length : Int) := of_decide_eq_true (by first | (with_reducible assumption) | assumption)
          obtain ⟨ad205, e205, hx205_0⟩ := Kd.at_int HR0.out 1 p205 q205
          obtain rfl : ad204 = ad205 := (by injection e205)
          (try simp only [show (1 : Int).toNat = 1 from rfl, Nat.reduceMul, Nat.reduceEqDiff, Go.Addr.add, ↓reduceIte] at hx205_0)
          have qi205 : (1 < l0.length) = True := eq_true (by omega)
          (try rw [show ((1 : Int)).toNat = 1 from rfl] at hx205_0)
          replace p205 := eq_true p205
          replace q205 := eq_true q205
          have p206 : 0 ≤ (2 : Int) := (by omega)
          have q206 : 2 < (l0.length : Int) := of_decide_eq_true (by first | (with_reducible assumption) | assumption)
          obtain ⟨ad206, e206, hx206_0⟩ := Kd.at_int HR0.out 2 p206 q206
          obtain rfl : ad204 = ad206 := (by injection e206)
          (try simp only [show (2 : Int).toNat = 2 from rfl, Nat.reduceMul, Nat.reduceEqDiff, Go.Addr.add, ↓reduceIte] at hx206_0)
          have qi206 : (2 < l0.length) = True := eq_true (by omega)
          (try rw [show ((2 : Int)).toNat = 2 from rfl] at hx206_0)
          replace p206 := eq_true p206
          replace q206 := eq_true q206
          have p207 : 0 ≤ (3 : Int) := (by omega)
          have q207 : 3 < (l0.length : Int) := of_decide_eq_true (by first | (with_reducible assumption) | assumption)
          obtain ⟨ad207, e207, hx207_0⟩ := Kd.at_int HR0.out 3 p207 q207
          obtain rfl : ad204 = ad207 := (by injection e207)
          (try simp only [show (3 : Int).toNat = 3 from rfl, Nat.reduceMul, Nat.reduceEqDiff, Go.Addr.add, ↓reduceIte] at hx207_0)
          have qi207 : (3 < l0.length) = True := eq_true (by omega)
          (try rw [show ((3 : Int)).toNat = 3 from rfl] at hx207_0)
          replace p207 := eq_true p207
          replace q207 := eq_true q207
          go_enter Tryd.func62, Tryd.ntmps62
          go_wp2
          repeat (go_quiet (fail); try go_wp2)
          go_ret
          exact ⟨by first | rfl | (simp; done) | (simp [*]; done), by repeat (first | exact Drawn0.refl _ | apply Drawn0.step)⟩
        · rw [if_neg c5] at H
          exact absurd H (by simp)
      · rw [if_neg c4] at H
        exact absurd H (by simp)
    · rw [if_neg c3] at H
      exact absurd H (by simp)
  · rw [if_neg c2] at H
    exact absurd H (by simp)

end Go.Proofs.YteajidciahoboaaDoor.P
-- H4
set_option linter.unusedVariables false
set_option linter.unusedSimpArgs false
namespace Go.Proofs.YteajidciahoboaaDoor.H
open Go.RowKit Go.Proofs.YteajidciahoboaaDoorW.PrintWords Go.Proofs.YteajidciahoboaaDoorW.PrintLast Go.Proofs.YteajidciahoboaaDoorW.PrintMore Go.Proofs.YteajidciahoboaaDoor.M

def four (n : Nat) : List Int := [((n % 256 : Nat) : Int), ((n / 256 % 256 : Nat) : Int), ((n / 65536 % 256 : Nat) : Int), ((n / 16777216 % 256 : Nat) : Int)]
theorem four_bytes (n : Nat) : isBytes (four n) := by
  intro x hx
  simp only [four, List.mem_cons, List.mem_nil_iff, or_false] at hx
  omega
theorem crc_four_eq (n : Nat) : P.crc_four.f n = some (four n) := by
  unfold P.crc_four.f four
  simp only [Option.some.injEq, List.cons.injEq, and_true]
  omega
theorem four_any (n : Nat) (w : World) : Calls Tryd.prog 51 #[.int .u32 n] w fun e w' => ∃ a c, e = .returned (.slice (some a) 4 c) ∧ Aside0 (4 ≤ c) ∧ Aside0 (Kd.C (Kd.int .u8) w' (some a) 4 (four n)) ∧ Aside0 (Below w.heap.size w w') := by
  refine (P.crc_four.calls n _ w (crc_four_eq n)).mono ?_
  rintro e w' ⟨v, rfl, ho, hb⟩
  obtain ⟨A, c, rfl, hl, hr⟩ := Kd.R_reads ho
  obtain ⟨ad, hA, _⟩ := hr.2.2 (by simp [four])
  subst hA
  exact ⟨ad, c, rfl, ⟨hl⟩, ⟨hr⟩, ⟨hb⟩⟩
theorem HalfAt.below {w w' : World} (h : HalfAt w) (hb : Below w.heap.size w w') : HalfAt w' := fun c hc => pw_cell_below hb (h c hc)
def frame (xs : List Int) : List Int := four xs.length ++ (four (crcSum (nats (four xs.length))) ++ (four (crcSum (nats xs)) ++ xs))
/-- A literal of rows is read as these rows. -/
theorem lit_rows (W : World) (vs : Array Value) (ls : List (List Int)) (hn : vs.size = ls.length) (hl : ls.length ≤ 1000) (h : ∀ (j : Nat) (p : List Int), ls[j]? = some p → ∃ A c, vs[j]? = some (Value.slice A p.length c) ∧ p.length ≤ c ∧ Kd.C (Kd.int .u8) W A p.length p) :
    Kd.C (Kd.slice 5 (Kd.int .u8)) (W.alloc (.cells vs 36)) (some ⟨W.heap.size, 0, none⟩) ls.length ls := by
  refine ⟨rfl, by omega, fun _ => ⟨_, rfl, fun j p hj => ?_⟩⟩
  obtain ⟨A, c, hv, hc, hr⟩ := h j p hj
  refine ⟨[.slice A p.length c], rfl, ⟨A, c, rfl, hc, Kd.C_below hr (below_alloc (Below.refl _ _) _)⟩, fun i u hi => ?_⟩
  have hi0 : i = 0 := by
    rcases i with _ | i
    · rfl
    · simp at hi
  subst hi0
  have hu : Value.slice A p.length c = u := by simpa using hi
  subst hu
  rw [add_plain, World.cell?_alloc_new]
  simpa [Kd.slice] using hv
theorem sum_lit (A : Option Addr) (n c : Nat) (xs : List Int) (W : World) (hn : xs.length = n) (hT : HalfAt W) (hr : Kd.C (Kd.int .u8) W A n xs) (hx : isBytes xs) (hl : n ≤ 65536) :
    Calls Tryd.prog 53 #[.slice (some ⟨W.heap.size, 0, none⟩) 1 1] (W.alloc (.cells #[.slice A n c] 36)) fun e w' => e = .returned (.int .u32 (crcSum (nats xs) : Nat)) ∧ W.alloc (.cells #[.slice A n c] 36) = w' := by
  subst hn
  have hb := below_alloc (Below.refl W.heap.size W) (.cells #[.slice A xs.length c] 36)
  exact sum_one _ A c xs _ (hT.below hb) (World.cell?_alloc_new ..) (Kd.C_below hr hb) hx (by omega)

set_option maxHeartbeats 4000000 in
set_option maxRecDepth 100000 in
/-- crc.Frame. -/
theorem frame_any (A : Option Addr) (c : Nat) (xs : List Int) (w : World) (hT : HalfAt w) (hr : Kd.C (Kd.int .u8) w A xs.length xs) (hc : xs.length ≤ c) (hx : isBytes xs) (hl : xs.length ≤ 65536) :
    Calls Tryd.prog 20 #[.slice A xs.length c] w fun e w' => ∃ v : Value, e = .returned (.tuple #[v, .int .i64 0]) ∧ Kd.R (Kd.int .u8) 5 w' w.heap.size (fun _ => True) v (frame xs) ∧ Below w.heap.size w w' := by
  have HT := Aside0.mk hT
  have HR := Aside0.mk hr
  have HX := Aside0.mk hx
  clear hT hr hx
  go_enter Tryd.func20, Tryd.ntmps20
  go_wp2_with (go_at_call 51; refine (four_any xs.length _).mono ?_; rintro e w1 ⟨a1, c1, rfl, HC1, HR1, HB1⟩)
  go_wp2_with (go_at_call 53; refine (sum_lit (some a1) 4 c1 (four xs.length) w1 rfl (HT.out.below HB1.out) HR1.out (four_bytes _) (by omega)).mono ?_; rintro e w' ⟨rfl, rfl⟩)
  go_wp2_with (go_at_call 51; refine (four_any (crcSum (nats (four xs.length))) _).mono ?_; rintro e w2 ⟨a2, c2, rfl, HC2, HR2, HB2⟩)
  have HB2' : Aside0 (Below w.heap.size w w2) := ⟨below_step (below_alloc HB1.out _) HB2.out⟩
  go_wp2_with (go_at_call 53; refine (sum_lit A xs.length c xs w2 rfl (HT.out.below HB2'.out) (Kd.C_below HR.out HB2'.out) HX.out hl).mono ?_; rintro e w' ⟨rfl, rfl⟩)
  go_wp2_with (go_at_call 51; refine (four_any (crcSum (nats xs)) _).mono ?_; rintro e w3 ⟨a3, c3, rfl, HC3, HR3, HB3⟩)
  have HB3' : Aside0 (Below w2.heap.size w2 w3) := ⟨below_step (below_alloc (Below.refl _ _) _) HB3.out⟩
  have HB2'' : Aside0 (Below w1.heap.size w1 w2) := ⟨below_step (below_alloc (Below.refl _ _) _) HB2.out⟩
  have HRS : Aside0 (Kd.C (Kd.slice 5 (Kd.int .u8)) (w3.alloc (.cells #[.slice (some a1) 4 c1, .slice (some a2) 4 c2, .slice (some a3) 4 c3, .slice A xs.length c] 36)) (some ⟨w3.heap.size, 0, none⟩) 4 [four xs.length, four (crcSum (nats (four xs.length))), four (crcSum (nats xs)), xs]) := by
    refine ⟨lit_rows w3 _ [four xs.length, four (crcSum (nats (four xs.length))), four (crcSum (nats xs)), xs] rfl (by simp) fun j p hj => ?_⟩
    rcases j with _ | _ | _ | _ | j
    · obtain rfl := Option.some.inj hj
      exact ⟨_, _, rfl, HC1.out, Kd.C_below (Kd.C_below HR1.out HB2''.out) HB3'.out⟩
    · obtain rfl := Option.some.inj hj
      exact ⟨_, _, rfl, HC2.out, Kd.C_below HR2.out HB3'.out⟩
    · obtain rfl := Option.some.inj hj
      exact ⟨_, _, rfl, HC3.out, HR3.out⟩
    · obtain rfl := Option.some.inj hj
      exact ⟨_, _, rfl, hc, Kd.C_below HR.out (below_step HB2'.out HB3'.out)⟩
    · simp at hj
  go_wp2_with (go_at_call 52; refine (concat_any _ 4 _ _ rfl HRS.out (by simp [four]) (by simp [four]; omega)).mono ?_; rintro e w4 ⟨v4, rfl, ho, hb⟩; have HO4 := Aside0.mk ho; have HB4 := Aside0.mk hb; clear ho hb)
  go_ret2
  have hb5 := below_alloc (below_step HB2'.out HB3'.out) (.cells #[.slice (some a1) 4 c1, .slice (some a2) 4 c2, .slice (some a3) 4 c3, .slice A xs.length c] 36)
  have ho5 := Kd.R_lower HO4.out hb5.size
  exact ⟨_, rfl, by simpa [frame] using ho5, below_step hb5 HB4.out⟩
end Go.Proofs.YteajidciahoboaaDoor.H
-- H5
set_option linter.unusedVariables false
set_option linter.unusedSimpArgs false
namespace Go.Proofs.YteajidciahoboaaDoor.H
open Go.RowKit Go.Proofs.YteajidciahoboaaDoorW.PrintWords Go.Proofs.YteajidciahoboaaDoorW.PrintLast Go.Proofs.YteajidciahoboaaDoorW.PrintMore Go.Proofs.YteajidciahoboaaDoor.M

/-- The number of the first four bytes. -/
def le4 (l : List Int) : Nat := (l.getD 0 0).toNat + 256 * (l.getD 1 0).toNat + 65536 * (l.getD 2 0).toNat + 16777216 * (l.getD 3 0).toNat
theorem or_mul (i a b : Nat) (hb : b < 2 ^ i) : b ||| 2 ^ i * a = b + 2 ^ i * a := by
  rw [Nat.or_comm, ← Nat.two_pow_add_eq_or_of_lt hb, Nat.add_comm]
theorem crc_number_eq (l : List Int) (hl : 4 ≤ l.length) (hb : isBytes l) : P.crc_number.f l = some ((le4 l : Nat) : Int) := by
  have get : ∀ i, i < l.length → ∃ x : Nat, x < 256 ∧ l.getD i 0 = (x : Int) := by
    intro i hi
    have := hb (l.getD i 0) (by simp [hi])
    exact ⟨(l.getD i 0).toNat, by omega, by omega⟩
  obtain ⟨a, ha, ea⟩ := get 0 (by omega)
  obtain ⟨b, hb', eb⟩ := get 1 (by omega)
  obtain ⟨c, hc, ec⟩ := get 2 (by omega)
  obtain ⟨d, hd, ed⟩ := get 3 (by omega)
  unfold P.crc_number.f le4 rd
  rw [if_pos (by omega), if_pos (by omega), if_pos (by omega), if_pos (by omega)]
  simp only [Int.reduceToNat]
  rw [ea, eb, ec, ed]
  have e0 : ((a : Int) % 4294967296) = ((a : Nat) : Int) := by omega
  have e1 : ((b : Int) % 4294967296 * 256 % 4294967296) = ((2 ^ 8 * b : Nat) : Int) := by omega
  have e2 : ((c : Int) % 4294967296 * 65536 % 4294967296) = ((2 ^ 16 * c : Nat) : Int) := by omega
  have e3 : ((d : Int) % 4294967296 * 16777216 % 4294967296) = ((2 ^ 24 * d : Nat) : Int) := by omega
  rw [e0, e1, e2, e3, n32_or _ _ (by omega) (by omega), or_mul 8 b a (by omega), n32_or _ _ (by omega) (by omega), or_mul 16 c _ (by omega), n32_or _ _ (by omega) (by omega), or_mul 24 d _ (by omega)]
  simp only [Int.toNat_natCast]
theorem number_any (A : Option Addr) (n c : Nat) (l : List Int) (w : World) (hn : l.length = n) (hr : Kd.C (Kd.int .u8) w A n l) (hc : n ≤ c) (hl : 4 ≤ n) (hb : isBytes l) :
    Calls Tryd.prog 62 #[.slice A n c] w fun e w' => e = .returned (.int .u32 (le4 l : Nat)) ∧ ∃ k, w' = w.drewN k := by
  subst hn
  refine (P.crc_number.calls A c l _ w hr hc (crc_number_eq l hl hb)).mono ?_
  rintro e w' ⟨rfl, hd⟩
  exact ⟨rfl, hd.out⟩
/-- The body of the frame at the begin, if there is one. -/
def unframe (xs : List Int) : Option (List Int) :=
  if 12 ≤ xs.length ∧ crcSum (nats (xs.take 4)) = le4 (xs.drop 4) ∧ le4 xs ≤ 65536 ∧ le4 xs ≤ xs.length - 12 ∧ crcSum (nats ((xs.drop 12).take (le4 xs))) = le4 (xs.drop 8) then some ((xs.drop 12).take (le4 xs)) else none

set_option maxHeartbeats 4000000 in
set_option maxRecDepth 100000 in
/-- crc.Next at the begin: too short. -/
theorem next_short (A : Option Addr) (n c : Nat) (w : World) (hn : n < 12) :
    Calls Tryd.prog 28 #[.slice A n c, .int .i64 0] w fun e w' => e = .returned (.tuple #[.slice none 0 0, .int .i64 0, .int .i64 4]) ∧ w = w' := by
  go_enter Tryd.func28, Tryd.ntmps28
  go_wp2
  go_ret3
  exact ⟨rfl, rfl⟩

theorem sum_at (g : Nat) (A : Option Addr) (n c : Nat) (xs : List Int) (w : World) (hn : xs.length = n) (hT : HalfAt w) (hr : Kd.C (Kd.int .u8) w A n xs) (hx : isBytes xs) (hl : n ≤ 65536) (hg : w.cell? ⟨g, 0, none⟩ = some (.slice A n c)) :
    Calls Tryd.prog 53 #[.slice (some ⟨g, 0, none⟩) 1 1] w fun e w' => e = .returned (.int .u32 (crcSum (nats xs) : Nat)) ∧ w = w' := by
  subst hn
  exact sum_one g A c xs w hT hg hr hx (by omega)
theorem C_len {w : World} {A : Option Addr} {n : Nat} {xs : List Int} (h : Kd.C (Kd.int .u8) w A n xs) : xs.length = n := h.1
/-- b[lo:] -/
theorem cut_lo (a : Addr) (n c lo : Nat) (h1 : lo ≤ n) (hc : n ≤ c) : ∃ a', (∀ W, (Instr.slice 36 (.slice (some a) n c) (some (.int .i64 lo)) none none).run Tryd.prog W = .ok (.slice (some a') (n - lo) (c - lo)) W) ∧
    ∀ w xs, Kd.C (Kd.int .u8) w (some a) n xs → Kd.C (Kd.int .u8) w (some a') (n - lo) (xs.drop lo) := by
  have he : (if c = lo then some a else (some a).map (·.add (lo * 1))) = some (if c = lo then a else a.add (lo * 1)) := by split <;> rfl
  obtain ⟨i, hi0, _, hsz, _⟩ := info_parts P.info5
  refine ⟨if c = lo then a else a.add (lo * 1), ?_, ?_⟩
  · intro W
    have := cut_from (P := Tryd.prog) 36 5 .i64 Tryd.underlying36 hi0 1 hsz (some a) n c lo (by omega) (by omega) W
    rw [Int.toNat_natCast, he] at this
    exact this
  · intro w xs h
    obtain rfl := C_len h
    have := Kd.C_drop (c := c) h h1 hc
    rw [List.length_drop] at this
    rw [← he]
    exact this
/-- b[:hi] -/
theorem cut_hi (A : Option Addr) (n c hi : Nat) (h1 : hi ≤ n) (hc : n ≤ c) : (∀ W, (Instr.slice 36 (.slice A n c) none (some (.int .i64 hi)) none).run Tryd.prog W = .ok (.slice A hi c) W) ∧
    ∀ w xs, Kd.C (Kd.int .u8) w A n xs → Kd.C (Kd.int .u8) w A hi (xs.take hi) := by
  obtain ⟨i, hi0, _, hsz, _⟩ := info_parts P.info5
  refine ⟨?_, ?_⟩
  · intro W
    have := cut_to (P := Tryd.prog) 36 5 .i64 Tryd.underlying36 hi0 A n c hi (by omega) (by omega) hc W
    simpa using this
  · intro w xs h
    obtain rfl := C_len h
    have := Kd.C_take h h1
    rw [List.length_take, Nat.min_eq_left h1] at this
    exact this
theorem isBytes.take {xs : List Int} (h : isBytes xs) (n : Nat) : isBytes (xs.take n) := fun x hx => h x (List.mem_of_mem_take hx)
theorem isBytes.drop {xs : List Int} (h : isBytes xs) (n : Nat) : isBytes (xs.drop n) := fun x hx => h x (List.mem_of_mem_drop hx)
theorem le4_take (xs : List Int) (n : Nat) (h : 4 ≤ n) : le4 (xs.take n) = le4 xs := by
  have e : ∀ i, i < 4 → (xs.take n).getD i 0 = xs.getD i 0 := fun i hi => by
    rw [List.getD_eq_getElem?_getD, List.getD_eq_getElem?_getD, List.getElem?_take_of_lt (by omega)]
  unfold le4
  rw [e 0 (by omega), e 1 (by omega), e 2 (by omega), e 3 (by omega)]

set_option maxHeartbeats 4000000 in
set_option maxRecDepth 100000 in
/-- crc.Next at the begin: a frame. -/
theorem next_good (a : Addr) (c : Nat) (xs : List Int) (w : World) (hT : HalfAt w) (hr : Kd.C (Kd.int .u8) w (some a) xs.length xs) (hc : xs.length ≤ c) (hx : isBytes xs) (hl : xs.length ≤ 1000000) (body : List Int) (hu : unframe xs = some body) :
    Calls Tryd.prog 28 #[.slice (some a) xs.length c, .int .i64 0] w fun e w' => ∃ v : Value, e = .returned (.tuple #[v, .int .i64 (12 + (body.length : Int)), .int .i64 0]) ∧ Kd.R (Kd.int .u8) 5 w' w.heap.size (fun _ => True) v body ∧ Below w.heap.size w w' := by
  unfold unframe at hu
  split at hu
  rotate_left
  · cases hu
  rename_i hg
  obtain rfl := Option.some.inj hu
  obtain ⟨h1, h2, h3, h4, h5⟩ := hg
  clear hu
  have HT := Aside0.mk hT
  have HR := Aside0.mk hr
  have HX := Aside0.mk hx
  have H2 := Aside0.mk h2
  have H5 := Aside0.mk h5
  clear hT hr hx h2 h5
  obtain ⟨hs1, hq1⟩ := cut_hi (some a) xs.length c 12 h1 hc
  obtain ⟨a2, hs2, hq2⟩ := cut_lo a xs.length c 12 h1 hc
  obtain ⟨hs3, hq3⟩ := cut_hi (some a) 12 c 4 (by omega) (by omega)
  obtain ⟨a4, hs4, hq4⟩ := cut_lo a 12 c 4 (by omega) (by omega)
  obtain ⟨hs5, hq5⟩ := cut_hi (some a2) (xs.length - 12) (c - 12) (le4 xs) h4 (by omega)
  obtain ⟨a6, hs6, hq6⟩ := cut_lo a 12 c 8 (by omega) (by omega)
  simp only [Int.cast_ofNat_Int] at hs1 hs2 hs3 hs4 hs6
  have N2 := fun W (h : Below w.heap.size w W) => number_any (some a4) 8 (c - 4) ((xs.take 12).drop 4) W (by rw [List.length_drop, List.length_take]; omega) (hq4 _ _ (hq1 _ _ (Kd.C_below HR.out h))) (by omega) (by omega) (isBytes.drop (isBytes.take HX.out 12) 4)
  have N3 := fun W (h : Below w.heap.size w W) => number_any (some a6) 4 (c - 8) ((xs.take 12).drop 8) W (by rw [List.length_drop, List.length_take]; omega) (hq6 _ _ (hq1 _ _ (Kd.C_below HR.out h))) (by omega) (by omega) (isBytes.drop (isBytes.take HX.out 12) 8)
  have S1 := fun g W (h : Below w.heap.size w W) => sum_at g (some a) 4 c (xs.take 4) W (by rw [List.length_take]; omega) (HT.out.below h) (by have := hq3 _ _ (hq1 _ _ (Kd.C_below HR.out h)); rwa [List.take_take, Nat.min_eq_left (by omega)] at this) (isBytes.take HX.out 4) (by omega)
  have S2 := fun g W (h : Below w.heap.size w W) => sum_at g (some a2) (le4 xs) (c - 12) ((xs.drop 12).take (le4 xs)) W (by rw [List.length_take, List.length_drop]; omega) (HT.out.below h) (hq5 _ _ (hq2 _ _ (Kd.C_below HR.out h))) (isBytes.take (isBytes.drop HX.out 12) _) h3
  have e4 : le4 ((xs.take 12).drop 4) = le4 (xs.drop 4) := by rw [List.drop_take, le4_take _ _ (by omega)]
  have e8 : le4 ((xs.take 12).drop 8) = le4 (xs.drop 8) := by rw [List.drop_take, le4_take _ _ (by omega)]
  rw [e4] at N2
  rw [e8] at N3
  clear e4 e8
  have N1 := fun W (h : Below w.heap.size w W) => number_any (some a) 12 c (xs.take 12) W (by rw [List.length_take]; omega) (hq1 _ _ (Kd.C_below HR.out h)) (by omega) (by omega) (isBytes.take HX.out 12)
  rw [le4_take xs 12 (by omega)] at N1
  go_enter Tryd.func28, Tryd.ntmps28
  go_wp2
  go_quiet (fail)
  have HB1 := Aside0.mk (pw_below_drewN (Below.refl w.heap.size w) nq)
  obtain ⟨W1, hW1⟩ : ∃ W1, w.drewN nq = W1 := ⟨_, rfl⟩
  rw [hW1] at HB1 ⊢
  clear hW1
  go_wp2_with (go_at_call 62; refine (N1 _ HB1.out).mono ?_; rintro e w1 ⟨rfl, n1, rfl⟩)
  have HB2 := Aside0.mk (pw_below_drewN HB1.out n1)
  obtain ⟨W2, hW2⟩ : ∃ W2, W1.drewN n1 = W2 := ⟨_, rfl⟩
  rw [hW2] at HB2 ⊢
  clear hW2 HB1 W1
  go_region_held3 (fun w' => Aside0 (Below w.heap.size w w')) (exact ⟨by repeat (first | exact HB2.out | apply below_alloc | apply below_drew | apply pw_below_drewN)⟩)
    (first
      | (go_at_call 53; refine (S1 W2.heap.size _ (by repeat (first | exact HB2.out | apply below_alloc | apply below_drew | apply pw_below_drewN)) (World.cell?_alloc_new ..)).mono ?_; rintro e w' ⟨rfl, rfl⟩)
      | (go_at_call 62; refine (N2 _ (by repeat (first | exact HB2.out | apply below_alloc | apply below_drew | apply pw_below_drewN))).mono ?_; rintro e w' ⟨rfl, n2, rfl⟩))
  have HB3 : Aside0 (Below w.heap.size w ((W2.alloc (.cells #[.slice (some a) 4 c] 36)).drewN (1 + n2))) := ⟨by repeat (first | exact HB2.out | apply below_alloc | apply below_drew | apply pw_below_drewN)⟩
  obtain ⟨W3, hW3⟩ : ∃ W3, (W2.alloc (.cells #[.slice (some a) 4 c] 36)).drewN (1 + n2) = W3 := ⟨_, rfl⟩
  rw [hW3] at HB3 ⊢
  clear hW3
  have hne1 : (((crcSum (nats (xs.take 4)) : Nat) : Int) != ((le4 (xs.drop 4) : Nat) : Int)) = false := by rw [H2.out]; simp
  go_wp2
  go_region_held3 (fun w' => Aside0 (Below w.heap.size w w')) (exact ⟨by repeat (first | exact HB3.out | apply below_alloc | apply below_drew | apply pw_below_drewN)⟩)
    (first
      | (go_at_call 53; refine (S2 W3.heap.size _ (by repeat (first | exact HB3.out | apply below_alloc | apply below_drew | apply pw_below_drewN)) (World.cell?_alloc_new ..)).mono ?_; rintro e w' ⟨rfl, rfl⟩)
      | (go_at_call 62; refine (N3 _ (by repeat (first | exact HB3.out | apply below_alloc | apply below_drew | apply pw_below_drewN))).mono ?_; rintro e w' ⟨rfl, n3, rfl⟩))
  have HB4 : Aside0 (Below w.heap.size w ((W3.alloc (.cells #[.slice (some a2) (le4 xs) (c - 12)] 36)).drewN (1 + n3))) := ⟨by repeat (first | exact HB3.out | apply below_alloc | apply below_drew | apply pw_below_drewN)⟩
  obtain ⟨W4, hW4⟩ : ∃ W4, (W3.alloc (.cells #[.slice (some a2) (le4 xs) (c - 12)] 36)).drewN (1 + n3) = W4 := ⟨_, rfl⟩
  rw [hW4] at HB4 ⊢
  clear hW4
  have hne2 : (((crcSum (nats ((xs.drop 12).take (le4 xs))) : Nat) : Int) != ((le4 (xs.drop 8) : Nat) : Int)) = false := by rw [H5.out]; simp
  have hbl : ((xs.drop 12).take (le4 xs)).length = le4 xs := by rw [List.length_take, List.length_drop]; omega
  have HBL := Aside0.mk hbl
  have CL := fun W (h : Below w.heap.size w W) => clone_some a2 (c - 12) ((xs.drop 12).take (le4 xs)) W (by rw [hbl]; exact hq5 _ _ (hq2 _ _ (Kd.C_below HR.out h))) (by omega) (by omega)
  rw [hbl] at CL
  clear hbl
  go_wp2_with (go_at_call 50; refine (CL _ HB4.out).mono ?_; rintro e w5 ⟨v5, rfl, ho, hb⟩; have HO5 := Aside0.mk ho; have HB5 := Aside0.mk hb; clear ho hb)
  go_ret3
  exact ⟨v5, by rw [HBL.out]; rfl, Kd.R_lower HO5.out HB4.out.size, below_step HB4.out HB5.out⟩

theorem le4_lt (xs : List Int) (h : isBytes xs) : le4 xs < 4294967296 := by
  have g : ∀ i, (xs.getD i 0).toNat < 256 := fun i => by
    by_cases hi : i < xs.length
    · have := h (xs.getD i 0) (by simp [hi]); omega
    · simp [Nat.not_lt.1 hi]
  unfold le4
  have := g 0; have := g 1; have := g 2; have := g 3
  omega
/-- crc.Next has failed: nothing, and an error. -/
def NextBad (w : World) (e : Ending) (w' : World) : Prop := ∃ code : Int, code ≠ 0 ∧ e = .returned (.tuple #[.slice none 0 0, .int .i64 0, .int .i64 code]) ∧ Below w.heap.size w w'

set_option maxHeartbeats 4000000 in
set_option maxRecDepth 100000 in
/-- crc.Next at the begin: no frame. -/
theorem next_bad (a : Addr) (c : Nat) (xs : List Int) (w : World) (hT : HalfAt w) (hr : Kd.C (Kd.int .u8) w (some a) xs.length xs) (hc : xs.length ≤ c) (hx : isBytes xs) (hl : xs.length ≤ 1000000) (h1 : 12 ≤ xs.length) (hu : unframe xs = none) :
    Calls Tryd.prog 28 #[.slice (some a) xs.length c, .int .i64 0] w (NextBad w) := by
  have HT := Aside0.mk hT
  have HR := Aside0.mk hr
  have HX := Aside0.mk hx
  have HU := Aside0.mk hu
  have hle4 := le4_lt xs HX.out
  clear hT hr hx hu
  obtain ⟨hs1, hq1⟩ := cut_hi (some a) xs.length c 12 h1 hc
  obtain ⟨a2, hs2, hq2⟩ := cut_lo a xs.length c 12 h1 hc
  obtain ⟨hs3, hq3⟩ := cut_hi (some a) 12 c 4 (by omega) (by omega)
  obtain ⟨a4, hs4, hq4⟩ := cut_lo a 12 c 4 (by omega) (by omega)
  obtain ⟨a6, hs6, hq6⟩ := cut_lo a 12 c 8 (by omega) (by omega)
  simp only [Int.cast_ofNat_Int] at hs1 hs2 hs3 hs4 hs6
  have N2 := fun W (h : Below w.heap.size w W) => number_any (some a4) 8 (c - 4) ((xs.take 12).drop 4) W (by rw [List.length_drop, List.length_take]; omega) (hq4 _ _ (hq1 _ _ (Kd.C_below HR.out h))) (by omega) (by omega) (isBytes.drop (isBytes.take HX.out 12) 4)
  have N3 := fun W (h : Below w.heap.size w W) => number_any (some a6) 4 (c - 8) ((xs.take 12).drop 8) W (by rw [List.length_drop, List.length_take]; omega) (hq6 _ _ (hq1 _ _ (Kd.C_below HR.out h))) (by omega) (by omega) (isBytes.drop (isBytes.take HX.out 12) 8)
  have S1 := fun g W (h : Below w.heap.size w W) => sum_at g (some a) 4 c (xs.take 4) W (by rw [List.length_take]; omega) (HT.out.below h) (by have := hq3 _ _ (hq1 _ _ (Kd.C_below HR.out h)); rwa [List.take_take, Nat.min_eq_left (by omega)] at this) (isBytes.take HX.out 4) (by omega)
  have e4 : le4 ((xs.take 12).drop 4) = le4 (xs.drop 4) := by rw [List.drop_take, le4_take _ _ (by omega)]
  have e8 : le4 ((xs.take 12).drop 8) = le4 (xs.drop 8) := by rw [List.drop_take, le4_take _ _ (by omega)]
  rw [e4] at N2
  rw [e8] at N3
  clear e4 e8
  have N1 := fun W (h : Below w.heap.size w W) => number_any (some a) 12 c (xs.take 12) W (by rw [List.length_take]; omega) (hq1 _ _ (Kd.C_below HR.out h)) (by omega) (by omega) (isBytes.take HX.out 12)
  rw [le4_take xs 12 (by omega)] at N1
  go_enter Tryd.func28, Tryd.ntmps28
  go_wp2
  go_quiet (fail)
  have HB1 := Aside0.mk (pw_below_drewN (Below.refl w.heap.size w) nq)
  obtain ⟨W1, hW1⟩ : ∃ W1, w.drewN nq = W1 := ⟨_, rfl⟩
  rw [hW1] at HB1 ⊢
  clear hW1
  go_wp2_with (go_at_call 62; refine (N1 _ HB1.out).mono ?_; rintro e w1 ⟨rfl, n1, rfl⟩)
  have HB2 := Aside0.mk (pw_below_drewN HB1.out n1)
  obtain ⟨W2, hW2⟩ : ∃ W2, W1.drewN n1 = W2 := ⟨_, rfl⟩
  rw [hW2] at HB2 ⊢
  clear hW2 HB1 W1
  go_region_held3 (fun w' => Aside0 (Below w.heap.size w w')) (exact ⟨by repeat (first | exact HB2.out | apply below_alloc | apply below_drew | apply pw_below_drewN)⟩)
    (first
      | (go_at_call 53; refine (S1 W2.heap.size _ (by repeat (first | exact HB2.out | apply below_alloc | apply below_drew | apply pw_below_drewN)) (World.cell?_alloc_new ..)).mono ?_; rintro e w' ⟨rfl, rfl⟩)
      | (go_at_call 62; refine (N2 _ (by repeat (first | exact HB2.out | apply below_alloc | apply below_drew | apply pw_below_drewN))).mono ?_; rintro e w' ⟨rfl, n2, rfl⟩))
  have HB3 : Aside0 (Below w.heap.size w ((W2.alloc (.cells #[.slice (some a) 4 c] 36)).drewN (1 + n2))) := ⟨by repeat (first | exact HB2.out | apply below_alloc | apply below_drew | apply pw_below_drewN)⟩
  obtain ⟨W3, hW3⟩ : ∃ W3, (W2.alloc (.cells #[.slice (some a) 4 c] 36)).drewN (1 + n2) = W3 := ⟨_, rfl⟩
  rw [hW3] at HB3 ⊢
  clear hW3
  by_cases h2 : crcSum (nats (xs.take 4)) = le4 (xs.drop 4)
  rotate_left
  · have hne1 : (((crcSum (nats (xs.take 4)) : Nat) : Int) != ((le4 (xs.drop 4) : Nat) : Int)) = true := by simp; omega
    clear h2
    go_wp2
    go_ret3
    exact ⟨6, by decide, rfl, HB3.out⟩
  have hne1 : (((crcSum (nats (xs.take 4)) : Nat) : Int) != ((le4 (xs.drop 4) : Nat) : Int)) = false := by rw [h2]; simp
  have H2 := Aside0.mk h2
  clear h2
  by_cases h3 : le4 xs ≤ 65536
  rotate_left
  · go_wp2
    go_ret3
    exact ⟨3, by decide, rfl, HB3.out⟩
  by_cases h4 : le4 xs ≤ xs.length - 12
  rotate_left
  · go_wp2
    go_ret3
    exact ⟨4, by decide, rfl, HB3.out⟩
  have h5 : crcSum (nats ((xs.drop 12).take (le4 xs))) ≠ le4 (xs.drop 8) := by
    intro h5
    have := HU.out
    unfold unframe at this
    rw [if_pos ⟨h1, H2.out, h3, h4, h5⟩] at this
    cases this
  have hne2 : (((crcSum (nats ((xs.drop 12).take (le4 xs))) : Nat) : Int) != ((le4 (xs.drop 8) : Nat) : Int)) = true := by simp; omega
  clear h5
  obtain ⟨hs5, hq5⟩ := cut_hi (some a2) (xs.length - 12) (c - 12) (le4 xs) h4 (by omega)
  have S2 := fun g W (h : Below w.heap.size w W) => sum_at g (some a2) (le4 xs) (c - 12) ((xs.drop 12).take (le4 xs)) W (by rw [List.length_take, List.length_drop]; omega) (HT.out.below h) (hq5 _ _ (hq2 _ _ (Kd.C_below HR.out h))) (isBytes.take (isBytes.drop HX.out 12) _) h3
  go_wp2
  go_region_held3 (fun w' => Aside0 (Below w.heap.size w w')) (exact ⟨by repeat (first | exact HB3.out | apply below_alloc | apply below_drew | apply pw_below_drewN)⟩)
    (first
      | (go_at_call 53; refine (S2 W3.heap.size _ (by repeat (first | exact HB3.out | apply below_alloc | apply below_drew | apply pw_below_drewN)) (World.cell?_alloc_new ..)).mono ?_; rintro e w' ⟨rfl, rfl⟩)
      | (go_at_call 62; refine (N3 _ (by repeat (first | exact HB3.out | apply below_alloc | apply below_drew | apply pw_below_drewN))).mono ?_; rintro e w' ⟨rfl, n3, rfl⟩))
  have HB4 : Aside0 (Below w.heap.size w ((W3.alloc (.cells #[.slice (some a2) (le4 xs) (c - 12)] 36)).drewN (1 + n3))) := ⟨by repeat (first | exact HB3.out | apply below_alloc | apply below_drew | apply pw_below_drewN)⟩
  go_wp2
  go_ret3
  exact ⟨6, by decide, rfl, HB4.out⟩
end Go.Proofs.YteajidciahoboaaDoor.H
-- B1
set_option linter.unusedVariables false
set_option linter.unusedSimpArgs false
namespace Go.Proofs.YteajidciahoboaaDoor.H
open Go.RowKit Go.Proofs.YteajidciahoboaaDoorW.PrintWords Go.Proofs.YteajidciahoboaaDoorW.PrintLast Go.Proofs.YteajidciahoboaaDoorW.PrintMore

theorem ptr_underlying : Tryd.prog.underlying 84 = some (.pointer 86) := by kernel_rfl
theorem unsafe_underlying : Tryd.prog.underlying 143 = some .unsafePointer := by kernel_rfl
theorem size_builder : (Tryd.prog.info? 86).map (·.size) = some 2 := by kernel_rfl
theorem lies_builder : liesAt Tryd.prog Tryd.prog.depth 86 (2 / Tryd.prog.cellsOf 86) 0 86 1 = true := by kernel_rfl

set_option maxHeartbeats 1000000 in
set_option maxRecDepth 100000 in
theorem copyCheck_fresh (b : Nat) (w : World) (h0 : w.cell? ⟨b, 0, none⟩ = some (.pointer none)) (hsh : w.shape? b = some (86, 2)) (hfz : w.frozen? ⟨b, 0, none⟩ = false) :
    Calls Tryd.prog 83 #[.pointer (some ⟨b, 0, none⟩)] w fun e w' => e = .returned (.tuple #[]) ∧ w' = w.setCell ⟨b, 0, none⟩ (.pointer (some ⟨b, 0, none⟩)) := by
  obtain ⟨j, hj, hjs⟩ := Option.map_eq_some_iff.1 size_builder
  go_enter Tryd.func83, Tryd.ntmps83
  go_wp2
  rw [Lib.run_to_unsafe w ⟨b, 0, none⟩ ptr_underlying unsafe_underlying hj (by rw [hjs]; decide) hsh (Nat.zero_lt_succ 1)]
  simp only [Result.andThen]
  rw [Oper.upon_value]
  go_wp2
  rw [run_callFunc_extern Tryd.func100 (by kernel_rfl) (by kernel_rfl) (by kernel_rfl) (e := Extern.AbiNoEscape.same) (by kernel_rfl)]
  rw [Lib.run_noEscape]
  simp only [Result.andThen]
  rw [Oper.upon_value]
  go_wp2
  rw [Lib.run_from_unsafe w ⟨b, 0, none⟩ unsafe_underlying ptr_underlying hj hsh lies_builder]
  simp only [Result.andThen]
  rw [Oper.upon_value]
  go_wp2
  go_end0
  exact ⟨rfl, rfl⟩

set_option maxHeartbeats 1000000 in
set_option maxRecDepth 100000 in
theorem copyCheck_used (b : Nat) (w : World) (h0 : w.cell? ⟨b, 0, none⟩ = some (.pointer (some ⟨b, 0, none⟩))) :
    Calls Tryd.prog 83 #[.pointer (some ⟨b, 0, none⟩)] w fun e w' => e = .returned (.tuple #[]) ∧ w = w' := by
  obtain ⟨j, hj, _⟩ := Option.map_eq_some_iff.1 size_builder
  go_enter Tryd.func83, Tryd.ntmps83
  go_wp2
  rw [Lib.run_neq_ptr_same w _ ptr_underlying hj]
  go_wp2
  go_end0
  exact ⟨rfl, rfl⟩
theorem copyCheck_any (B b : Nat) (bs : List Value) (w : World) (h : Lib.IsBuilder 86 5 B b bs w) :
    Calls Tryd.prog 83 #[.pointer (some ⟨b, 0, none⟩)] w fun e w' => e = .returned (.tuple #[]) ∧ (Lib.BuilderAt 86 5 B b (.pointer (some ⟨b, 0, none⟩)) bs w' ∧ Below B w w' ∧ Lib.OthersKept 5 (some b) w w') := by
  rcases h with h | h
  · refine (copyCheck_fresh b w h.cell0 h.shape h.frozen0).mono ?_
    rintro e w' ⟨rfl, rfl⟩
    exact ⟨rfl, h.used _, (Below.refl B w).setCell (p := ⟨b, 0, none⟩) h.1 _, (Lib.OthersKept.refl _ _ w).setCell ⟨b, 0, none⟩ rfl _⟩
  · refine (copyCheck_used b w h.cell0).mono ?_
    rintro e w' ⟨rfl, rfl⟩
    exact ⟨rfl, h, Below.refl B _, Lib.OthersKept.refl _ _ _⟩

set_option maxHeartbeats 2000000 in
set_option maxRecDepth 100000 in
theorem writeByte_any (B b : Nat) (bs : List Value) (c : Int) (w : World) (h : Lib.IsBuilder 86 5 B b bs w) (hlen : bs.length + 1 ≤ 140737488355328) (hBw : B ≤ w.heap.size) :
    Calls Tryd.prog 55 #[.pointer (some ⟨b, 0, none⟩), .int .u8 c] w fun e w' => e = .returned .nilIface ∧ (Lib.BuilderAt 86 5 B b (.pointer (some ⟨b, 0, none⟩)) (bs ++ [.int .u8 c]) w' ∧ Below B w w' ∧ Lib.OthersKept 5 (some b) w w') := by
  obtain ⟨i0, hi, hz0, hz1, hz2⟩ := info_parts P.info5
  go_enter Tryd.func55, Tryd.ntmps55
  go_wp2_with (go_at_call 83; refine (copyCheck_any B b bs _ h).mono ?_)
  rintro e w1 ⟨rfl, h1, hb1, hk1⟩
  obtain ⟨hB, v, hbk, hown, hne⟩ := h1
  have c0 : w1.cell? ⟨b, 0, none⟩ = some (.pointer (some ⟨b, 0, none⟩)) := by rw [Lib.cell_of_heap hbk]; rfl
  have c1 : w1.cell? ⟨b, 1, none⟩ = some v := by rw [Lib.cell_of_heap hbk]; rfl
  go_wp2_with (at_builtin; refine wpList_append_own _ rfl _ _ 36 rfl B 5 i0 (.int .u8 0) 1 1 Tryd.underlying36 hi hz0 hz1 hz2 rfl (by decide) _ _ _ rfl (hown.alloc _) ⟨w1.heap.size, 0, none⟩ 1 1 [.int .u8 c] rfl rfl ?c1 ?c2 ?c3 ?c4 ?c5 ?_)
  case c1 =>
    intro j u hj
    match j, hj with
    | 0, hj => simp at hj; subst hj; simp [Addr.add]
  case c2 => intro u hu; simp at hu; subst hu; rfl
  case c3 => unfold maxLen; omega
  case c4 => omega
  case c5 => have := hb1.size; simp; omega
  intro v' w2 hown' hgrow _
  have hlt : b < w1.heap.size := by
    rcases Nat.lt_or_ge b w1.heap.size with h' | h'
    · exact h'
    · simp [Array.getElem?_eq_none h'] at hbk
  have hb2 : w2.heap[b]? = some (.cells #[.pointer (some ⟨b, 0, none⟩), v] 86 (0, 0)) := by
    rw [hgrow.block b (by simp; omega) (fun e => hne e.symm), Lib.alloc_old w1 _ b hlt]
    exact hbk
  have d0 : w2.cell? ⟨b, 0, none⟩ = some (.pointer (some ⟨b, 0, none⟩)) := by rw [Lib.cell_of_heap hb2]; rfl
  have d1 : w2.cell? ⟨b, 1, none⟩ = some v := by rw [Lib.cell_of_heap hb2]; rfl
  have f1 : w2.frozen? ⟨b, 1, none⟩ = false := Lib.frozen_of_heap hb2 1
  obtain ⟨g, cap, rfl⟩ : ∃ g cap, v' = .slice (some ⟨g, 0, none⟩) (bs.length + 1) cap := by
    rcases hown'.2 with ⟨_, h0⟩ | ⟨g, cap, cur, hv, _⟩
    · omega
    · exact ⟨g, cap, hv⟩
  go_wp2
  go_ret
  refine ⟨rfl, ?_, ?_, ((hk1.alloc _).grown hgrow (Lib.ownsRowF_kind (World.ownsRowF_of (hown.alloc _)))).setCell ⟨b, 1, none⟩ rfl _⟩
  · exact Lib.BuilderAt.put (T := 86) (e := 5) hB hb2 (bs' := bs ++ [.int .u8 c]) (by simpa using hown') (by decide)
  · exact ((hb1.alloc (by have := hb1.size; omega) _).grown hgrow (by have := hb1.size; simp; omega) (fun k hk => (hown.lt k hk).1)).setCell (p := ⟨b, 1, none⟩) hB _
end Go.Proofs.YteajidciahoboaaDoor.H
-- E1
set_option linter.unusedVariables false
set_option linter.unusedSimpArgs false
namespace Go.Proofs.YteajidciahoboaaDoor.H
open Go.RowKit Go.Shelf Go.Proofs.YteajidciahoboaaDoorW.PrintWords Go.Proofs.YteajidciahoboaaDoorW.PrintLast Go.Proofs.YteajidciahoboaaDoorW.PrintMore Go.Proofs.YteajidciahoboaaDoor.M
attribute [local go_sem] Oper.semAt_some
attribute [local go_sem] max2_int min2_int max_two min_two max_three min_three max_four min_four

/-- Three by three. -/
def chunks3 : List Int → List (List Int)
  | [] => []
  | [a] => [[a]]
  | [a, b] => [[a, b]]
  | a :: b :: c :: r => [a, b, c] :: chunks3 r
theorem chunks3_step (r : List Int) (h : r ≠ []) : chunks3 r = r.take 3 :: chunks3 (r.drop 3) := by
  match r, h with
  | [a], _ => rfl
  | [a, b], _ => rfl
  | a :: b :: c :: r, _ => rfl
/-- A piece: where it lies, and what it is. -/
def PieceOk (w0 : World) (x : Addr × List Int) : Prop := Kd.C (Kd.int .u8) w0 (some x.1) x.2.length x.2 ∧ 1 ≤ x.2.length ∧ x.2.length ≤ 3 ∧ isBytes x.2
abbrev Pc (w0 : World) := { x : Addr × List Int // PieceOk w0 x }
def encPc {w0 : World} (x : Pc w0) : Array Value := #[.slice (some x.1.1) x.1.2.length x.1.2.length]
def lenAt (B1 : Nat) (W : World) : Nat := match W.cell? ⟨B1, 0, none⟩ with | some (.slice _ n _) => n | _ => 0
def KeepBoxes (B1 B2 : Nat) (W W' : World) : Prop := W'.heap[B1]? = W.heap[B1]? ∧ W'.heap[B2]? = W.heap[B2]?
/-- What the iterator holds between two rounds. -/
def AtRest (w0 : World) (B1 B2 : Nat) (rest : List Int) (W : World) : Prop :=
  ∃ (A : Option Addr) (c : Nat), W.heap[B1]? = some (.cells #[.slice A rest.length c] 36 (0, 0)) ∧ W.heap[B2]? = some (.cells #[.int .i64 3] 3 (0, 0)) ∧ rest.length ≤ c ∧ Kd.C (Kd.int .u8) w0 A rest.length rest

set_option maxRecDepth 100000 in
set_option maxHeartbeats 4000000 in
theorem pieces1_in (F : Fence) (n : Nat) (hf : F.fn 82) (hro : F.round = none) (hn : 1 ≤ n) (l B1 B2 : Nat) (w0 : World) (xs : List Int) (hx : isBytes xs) (hl : xs.length ≤ 1000000) (hB : B1 ≠ B2) (J : List (Pc w0) → World → Prop)
    (hJ : ∀ s W v, J s W → J s (W.setCell ⟨B1, 0, none⟩ v))
    (hY : ∀ pre x W, J pre W → (pre.map (·.1.2)).flatten.length ≤ xs.length → YieldAt F (n - 1) Tryd.prog l (encPc x) W fun e W' => e = .returned (.bool true) ∧ J (pre ++ [x]) W' ∧ KeepBoxes B1 B2 W W')
    (W : World) (hA : AtRest w0 B1 B2 xs W) (h0 : J [] W) :
    CallsIn F n Tryd.prog 82 #[.func (.yield l) #[] #[], .pointer (some ⟨B1, 0, none⟩), .pointer (some ⟨B2, 0, none⟩)] W fun e W' => (∃ v, e = .returned v) ∧ ∃ ys, ys.map (·.1.2) = chunks3 xs ∧ J ys W' := by
  refine callsIn_of_wp Tryd.func82 rfl hf ?_ hro
  simp only [Tryd.ntmps82, List.size_toArray, List.length_cons, List.length_nil, Nat.reduceAdd, Nat.reduceSub, Array.replicate_succ, Array.replicate_zero, List.push_toArray, List.append_toArray, List.nil_append, List.cons_append]
  gi_wp2
  gi_loopw [] (fun wr => ∃ (pre : List (Pc w0)) (rest : List Int), Aside0 (pre.map (·.1.2) ++ chunks3 rest = chunks3 xs) ∧ Aside0 (AtRest w0 B1 B2 rest wr) ∧ Aside0 (J pre wr) ∧ Aside0 ((pre.map (·.1.2)).flatten ++ rest = xs)) (fun wr => lenAt B1 wr)
  case atStart => exact ⟨[], xs, ⟨rfl⟩, ⟨hA⟩, ⟨h0⟩, ⟨rfl⟩⟩
  case round =>
    obtain ⟨pre, rest, HE, HA, HJ, HF⟩ := hrel
    obtain ⟨A, c, hb1, hb2, hc, hr⟩ := HA.out
    have hc1 : wr.cell? ⟨B1, 0, none⟩ = some (.slice A rest.length c) := by rw [Lib.cell_of_heap hb1]; rfl
    have hc2 : wr.cell? ⟨B2, 0, none⟩ = some (.int .i64 3) := by rw [Lib.cell_of_heap hb2]; rfl
    have hlen : lenAt B1 wr = rest.length := by unfold lenAt; rw [hc1]
    have hrl : rest.length ≤ 1000000 := by have := congrArg List.length HF.out; simp only [List.length_append] at this; omega
    have HR := Aside0.mk hr
    have HC1 := Aside0.mk hb1
    have HC2 := Aside0.mk hb2
    have HLEN := Aside0.mk hlen
    clear hb1 hb2 hr hlen
    by_cases he : rest = []
    · subst he
      gi_wp2
      go_end0
      exact ⟨⟨_, rfl⟩, pre, by simpa [chunks3] using HE.out, HJ.out⟩
    · have hpos : 0 < rest.length := List.length_pos_iff.2 he
      obtain ⟨a, rfl, _⟩ := HR.out.2.2 hpos
      have hxb : isBytes rest := fun y hy => hx y (by rw [← HF.out]; simp [hy])
      obtain ⟨k, hk3, hkl, hkr, ht, hd, hk1, hkm⟩ : ∃ k : Nat, k ≤ 3 ∧ (rest.take 3).length = k ∧ k ≤ rest.length ∧ rest.take 3 = rest.take k ∧ rest.drop 3 = rest.drop k ∧ 1 ≤ k ∧ (rest.length < 3 ∧ k = rest.length ∨ 3 ≤ rest.length ∧ k = 3) := by
        by_cases h3 : rest.length < 3
        · exact ⟨rest.length, by omega, by rw [List.length_take]; omega, Nat.le_refl _, by rw [List.take_length, List.take_of_length_le (by omega)], by rw [List.drop_length, List.drop_of_length_le (by omega)], hpos, .inl ⟨h3, rfl⟩⟩
        · exact ⟨3, by omega, by rw [List.length_take]; omega, by omega, rfl, rfl, by omega, .inr ⟨by omega, rfl⟩⟩
      have hxo : PieceOk w0 (a, rest.take 3) := by
        refine ⟨?_, by show 1 ≤ (rest.take 3).length; omega, by show (rest.take 3).length ≤ 3; omega, isBytes.take hxb 3⟩
        have := Kd.C_take (m := k) HR.out hkr
        show Kd.C (Kd.int .u8) w0 (some a) (rest.take 3).length (rest.take 3)
        rw [ht]
        exact this
      have hst := chunks3_step rest he
      obtain ⟨a2, hcut, hcr⟩ := cut_lo a rest.length c k hkr hc
      obtain ⟨px, hpx1, hpx2⟩ : ∃ px : Pc w0, px.1.1 = a ∧ px.1.2 = rest.take 3 := ⟨⟨(a, rest.take 3), hxo⟩, rfl, rfl⟩
      have hyy := hY pre px wr HJ.out (by have := congrArg List.length HF.out; simp only [List.length_append] at this; omega)
      unfold encPc at hyy
      rw [hpx1, hpx2, hkl] at hyy
      have HE2 : Aside0 ((pre ++ [px]).map (·.1.2) ++ chunks3 (rest.drop k) = chunks3 xs) := ⟨by rw [← HE.out, hst, ← hd]; simp [hpx2]⟩
      have HF2 : Aside0 (((pre ++ [px]).map (·.1.2)).flatten ++ rest.drop k = xs) := ⟨by
        have e : rest.take 3 ++ rest.drop k = rest := by rw [← hd, List.take_append_drop]
        rw [← HF.out]
        simp only [List.map_append, List.flatten_append, List.map_cons, List.map_nil, List.flatten_cons, List.flatten_nil, List.append_nil, List.append_assoc, hpx2]
        rw [e]⟩
      have hdl : (rest.drop k).length = rest.length - k := List.length_drop
      have HCR := Aside0.mk (hcr w0 rest HR.out)
      obtain ⟨fn, tmps, assign, body, hy, hR⟩ := hyy
      have HDL := Aside0.mk hdl
      clear hcr hst ht hd hkl hdl hxb he hpx1 hpx2 hxo
      obtain ⟨J2, hJ2⟩ : ∃ J2 : World → Prop, J2 = J (pre ++ [px]) := ⟨_, rfl⟩
      have HJ2 := Aside0.mk hJ2
      rw [← hJ2] at hR
      clear hJ2
      rcases hkm with ⟨h3, rfl⟩ | ⟨h3, rfl⟩
      · simp only [Nat.sub_self] at hcut
        gi_wp2
        refine hR.mono ?_
        rintro e W3 ⟨rfl, hj3, hk1', hk2'⟩
        have hb1 := hk1'.trans HC1.out
        have hb2 := hk2'.trans HC2.out
        have d1 : W3.cell? ⟨B1, 0, none⟩ = some (.slice (some a) rest.length c) := by rw [Lib.cell_of_heap hb1]; rfl
        have d2 : W3.frozen? ⟨B1, 0, none⟩ = false := Lib.frozen_of_heap hb1 0
        have HB1 := Aside0.mk hb1
        have HB2 := Aside0.mk hb2
        have HJ3 := Aside0.mk hj3
        clear hb1 hb2 hj3 hk1' hk2' hc1 hc2
        gi_wp2
        go_roundw
        case rel =>
          refine ⟨pre ++ [px], rest.drop rest.length, HE2, ⟨some a2, c - rest.length, ?_, ?_, by rw [HDL.out]; omega, by rw [HDL.out]; exact HCR.out⟩, ⟨?_⟩, HF2⟩
          · rw [HDL.out, Nat.sub_self]; exact blk_set HB1.out 0 _
          · rw [blk_far HB2.out (p := ⟨B1, 0, none⟩) (Ne.symm hB)]
          · have := hJ _ W3 (.slice (some a2) 0 (c - rest.length)) (by rw [← HJ2.out]; exact HJ3.out)
            exact this
        case measure =>
          have e1 : lenAt B1 (W3.setCell ⟨B1, 0, none⟩ (.slice (some a2) 0 (c - rest.length))) = 0 := by
            unfold lenAt
            rw [Lib.cell_of_heap (blk_set HB1.out 0 _)]
            rfl
          have e2 := HLEN.out
          rw [e2, e1]
          omega
      · simp only [Int.cast_ofNat_Int] at hcut
        gi_wp2
        refine hR.mono ?_
        rintro e W3 ⟨rfl, hj3, hk1', hk2'⟩
        have hb1 := hk1'.trans HC1.out
        have hb2 := hk2'.trans HC2.out
        have d1 : W3.cell? ⟨B1, 0, none⟩ = some (.slice (some a) rest.length c) := by rw [Lib.cell_of_heap hb1]; rfl
        have d2 : W3.frozen? ⟨B1, 0, none⟩ = false := Lib.frozen_of_heap hb1 0
        have HB1 := Aside0.mk hb1
        have HB2 := Aside0.mk hb2
        have HJ3 := Aside0.mk hj3
        clear hb1 hb2 hj3 hk1' hk2' hc1 hc2
        gi_wp2
        go_roundw
        case rel =>
          refine ⟨pre ++ [px], rest.drop 3, HE2, ⟨some a2, c - 3, ?_, ?_, by rw [HDL.out]; omega, by rw [HDL.out]; exact HCR.out⟩, ⟨?_⟩, HF2⟩
          · rw [HDL.out]; exact blk_set HB1.out 0 _
          · rw [blk_far HB2.out (p := ⟨B1, 0, none⟩) (Ne.symm hB)]
          · have := hJ _ W3 (.slice (some a2) (rest.length - 3) (c - 3)) (by rw [← HJ2.out]; exact HJ3.out)
            exact this
        case measure =>
          have e1 : lenAt B1 (W3.setCell ⟨B1, 0, none⟩ (.slice (some a2) (rest.length - 3) (c - 3))) = rest.length - 3 := by
            unfold lenAt
            rw [Lib.cell_of_heap (blk_set HB1.out 0 _)]
            rfl
          have e2 := HLEN.out
          rw [e2, e1]
          omega
end Go.Proofs.YteajidciahoboaaDoor.H
-- E2
set_option linter.unusedVariables false
set_option linter.unusedSimpArgs false
namespace Go.Proofs.YteajidciahoboaaDoor.H
open Go.RowKit Go.Shelf Go.Proofs.YteajidciahoboaaDoorW.PrintWords Go.Proofs.YteajidciahoboaaDoorW.PrintLast Go.Proofs.YteajidciahoboaaDoorW.PrintMore Go.Proofs.YteajidciahoboaaDoor.M

/-- How a round over the pieces ends. -/
def pcPost {w0 : World} (B1 B2 : Nat) (I : List (Pc w0) → World → Prop) (xs : List (Pc w0)) (W : World) : Exit → Act → World → Prop
  | .normal, _, W' => KeepsOthers W W' ∧ KeepBoxes B1 B2 W W' ∧ I xs W'
  | _, _, _ => False

/-- A range over the pieces, whose iterator keeps what is left in a variable of its own. -/
theorem range_pieces {F : Fence} {n : Nat} {g : Operand} {ps : Array Tmp} {assign body : Code} {Q : Exit → Act → World → Prop} {a : Act} {w w0 : World} {B1 B2 : Nat} {xs : List Int}
    (hro : F.round = none) (h1 : 2 ≤ n) (hg : a.eval g = .func (.func 82) #[] #[.pointer (some ⟨B1, 0, none⟩), .pointer (some ⟨B2, 0, none⟩)]) (hF : F.fn 82) (hps : ps.size = 1)
    (hx : isBytes xs) (hl : xs.length ≤ 1000000) (hB : B1 ≠ B2) (hB1 : B1 < w.heap.size) (hB2 : B2 < w.heap.size) (hA : AtRest w0 B1 B2 xs w)
    (I : List (Pc w0) → World → Prop) (hI1 : ∀ s W v, I s W → I s (W.setCell ⟨B1, 0, none⟩ v))
    (hI2 : ∀ s W l o o', I s W → w.heap.size ≤ l → W.heap[l]? = some o → o.isCells = false → I s (W.putObj l o')) (hI3 : ∀ s W o, I s W → I s (W.alloc o)) (h0 : I [] w) (a₁ : Pc w0 → Act)
    (hassign : ∀ (l : Nat) (x : Pc w0) (W : World) (K : Act → World → Prop), K (a₁ x) W →
      assign.wpIn (F.inRound l) (n - 1 - 1) Tryd.prog (Exit.then K (fun _ _ _ => False)) { tmps := (ps.zip (encPc x)).foldl (fun t (p, v) => t.setIfInBounds p v) a.tmps, defers := [] } W)
    (hbody : ∀ (l : Nat) (pre : List (Pc w0)) (x : Pc w0) (W : World), I pre W → (pre.map (·.1.2)).flatten.length ≤ xs.length → body.wpIn (F.inRound l) (n - 1 - 1) Tryd.prog (pcPost B1 B2 I (pre ++ [x]) W) (a₁ x) W)
    (hdone : ∀ (D : Nat) (ys : List (Pc w0)) (W : World), w.heap.size ≤ D → ys.map (·.1.2) = chunks3 xs → I ys W → W.heap[D]? = some (.deferred (some [])) → Q .normal { a with defers := { target := .collected D, args := #[] } :: a.defers } W) :
    (Code.rangeFunc g ps assign body).wpIn F n Tryd.prog Q a w := by
  refine wpIn_rangeFunc ?_
  intro fn hfn
  rw [hro]
  obtain ⟨rec, hrec⟩ : ∃ rec : LoopState → Option Code → Loop, rec = fun st pe => { state := st, pending := pe, fn, tmps := a.tmps, params := ps, assign, body, defers := w.heap.size } := ⟨_, rfl⟩
  obtain ⟨W1, hW1⟩ : ∃ W1, (w.alloc (.deferred (some []))).alloc (.loop (rec .ready none)) = W1 := ⟨_, rfl⟩
  have hL1 : W1.heap[w.heap.size + 1]? = some (.loop (rec .ready none)) := by
    rw [← hW1]; have := World.alloc_heap_new (w.alloc (.deferred (some []))) (.loop (rec .ready none)); rwa [World.size_alloc] at this
  have hK1 : W1.heap[w.heap.size]? = some (.deferred (some [])) := by
    rw [← hW1]; exact (Below.heap_alloc _ _ _ (by simp)).trans (World.alloc_heap_new w _)
  have hI : I [] W1 := by rw [← hW1]; exact hI3 _ _ _ (hI3 _ _ _ h0)
  have old : ∀ k, k < w.heap.size → W1.heap[k]? = w.heap[k]? := fun k hk => by rw [← hW1]; exact (Below.heap_alloc _ _ _ (by simp; omega)).trans (Below.heap_alloc _ _ _ hk)
  have hA1 : AtRest w0 B1 B2 xs W1 := by
    obtain ⟨A, c, b1, b2, r⟩ := hA
    exact ⟨A, c, (old _ hB1).trans b1, (old _ hB2).trans b2, r⟩
  refine ⟨w.heap.size + 1, [{ target := .collected w.heap.size, args := #[] }], W1, { target := .fn (.func 82) #[.pointer (some ⟨B1, 0, none⟩), .pointer (some ⟨B2, 0, none⟩)], args := #[.func (.yield (w.heap.size + 1)) #[] #[]] }, W1, 82,
    #[.func (.yield (w.heap.size + 1)) #[] #[], .pointer (some ⟨B1, 0, none⟩), .pointer (some ⟨B2, 0, none⟩)], W1, ?_, ?_, ?_, ?_, fun _ => by omega, ?_⟩
  · rw [← hW1, hrec]; exact run_enterLoop_outer _ _ _ _ _
  · simp only [resolve, hg]
    simp [go_sem]
  · intro f' hf'; simp [Target.leads] at hf'; subst hf'; exact hF
  · have eg : ∀ args w, (callFunc 82 args).run Tryd.prog w = .ok (.enter 82 args) w := enters_of Tryd.func82 (by kernel_rfl) rfl
    simp [invoke, go_sem, eg]
  · refine (pieces1_in F (n - 1) hF hro (by omega) (w.heap.size + 1) B1 B2 w0 xs hx hl hB
      (fun pre W => I pre W ∧ W.heap[w.heap.size + 1]? = some (.loop (rec .ready none)) ∧ W.heap[w.heap.size]? = some (.deferred (some [])))
      (fun s W v hs => ⟨hI1 s W v hs.1, (Below.heap_setCell _ _ _ _ (by simp; omega)).trans hs.2.1, (Below.heap_setCell _ _ _ _ (by simp; omega)).trans hs.2.2⟩) ?_ W1 hA1 ⟨hI, hL1, hK1⟩).mono ?_
    · rintro pre x W ⟨hi, hl', hk⟩ hlen
      have hlt : w.heap.size + 1 < W.heap.size := (Array.getElem?_eq_some_iff.1 hl').1
      have hy := run_yield (P := Tryd.prog) (args := encPc x) hl' (by rw [hrec]; simp [encPc, hps])
      rw [hrec] at hy
      refine ⟨fn, _, assign, body, hy, roundIn_of_wpIn hfn (hassign _ x W _ ⟨_, run_beginRound hl' (by rw [hrec]), ?_⟩)⟩
      have hl2 : (W.putObj (w.heap.size + 1) (.loop { rec .ready none with state := .busy })).heap[w.heap.size + 1]? = some (.loop { rec .ready none with state := .busy }) := World.putObj_heap_same hlt
      have hk2 : (W.putObj (w.heap.size + 1) (.loop { rec .ready none with state := .busy })).heap[w.heap.size]? = some (.deferred (some [])) := (World.putObj_heap_other (by omega)).trans hk
      have hbx : KeepBoxes B1 B2 W (W.putObj (w.heap.size + 1) (.loop { rec .ready none with state := .busy })) := ⟨World.putObj_heap_other (by omega), World.putObj_heap_other (by omega)⟩
      refine wpIn_mono (hbody _ pre x _ (hI2 _ _ _ _ _ hi (by omega) hl' rfl) hlen) ?_
      rintro e a3 W3 hp
      cases e with
      | normal =>
        obtain ⟨hk3, hkp3, hi3⟩ := hp
        have hl3 := hk3.same _ _ hl2 rfl
        have hr := run_endRound (P := Tryd.prog) none hl3
        have hb3 : KeepBoxes B1 B2 W3 (W3.putObj (w.heap.size + 1) (.loop (rec .ready none))) := ⟨World.putObj_heap_other (by omega), World.putObj_heap_other (by omega)⟩
        rw [hrec] at hr hl3 hb3 ⊢
        refine ⟨_, _, hr, rfl, ⟨hI2 _ _ _ _ _ hi3 (by omega) hl3 rfl, World.putObj_heap_same (Array.getElem?_eq_some_iff.1 hl3).1, (World.putObj_heap_other (by omega)).trans (hk3.same _ _ hk2 rfl)⟩, ?_⟩
        exact ⟨hb3.1.trans (hkp3.1.trans hbx.1), hb3.2.trans (hkp3.2.trans hbx.2)⟩
      | _ => exact hp.elim
    · rintro e W2 ⟨⟨v, rfl⟩, ys, hS, hi, hl', hk⟩
      exact ⟨none, _, by have := run_endLoop (P := Tryd.prog) hl' (by rw [hrec]; simp); rw [hrec] at this; exact this, hdone _ ys _ (Nat.le_refl _) hS (hI2 _ _ _ _ _ hi (by omega) hl' rfl) ((World.putObj_heap_other (by omega)).trans hk)⟩
end Go.Proofs.YteajidciahoboaaDoor.H
-- Sh
/-
  DERIVED: THE SHELF's CONTRACTS AT THIS DUMP, IN PLAIN WORDS (tools/lay-plain.mjs out of 'TrydShelf.lean', which tools/lay-shelf.mjs wrote): THE SAME DECLARATIONS UNDER THE SAME NAMES: 'import', 'namespace', 'open', 'def', 'theorem' AND NOTHING ELSE: no command of the shelf's: FOR A HAND-IN. Each laying: the table of numbers ('.._ren') and one theorem, a field a fact of the dump's own or the kernel's comparison; each contract: ONE APPLICATION.
-/
namespace Go.Proofs
open Go.Shelf
def Tryd.lays169_ren : Go.Shelf.Ren := ⟨fun | 169 => 56 | n => n, fun | 70 => 84 | 9 => 9 | 0 => 0 | 72 => 86 | 37 => 36 | 127 => 126 | 3 => 3 | 5 => 5 | n => n, fun | n => n⟩
theorem Tryd.lays169 : Go.Proofs.Lays.n169 Tryd.prog Tryd.lays169_ren := {
  mixed := by kernel_rfl
  f169 := Tryd.func56.trans (congrArg some (by kernel_rfl))
  t0 := Tryd.underlying0
  a0 := Tryd.isAgg0
  z0 := Tryd.sizeOf0
  v0 := Tryd.zeroValue0
  t3 := Tryd.underlying3
  a3 := Tryd.isAgg3
  z3 := Tryd.sizeOf3
  v3 := Tryd.zeroValue3
  t9 := Tryd.underlying9
  a9 := Tryd.isAgg9
  z9 := Tryd.sizeOf9
  v9 := Tryd.zeroValue9
  t37 := Tryd.underlying36
  a37 := Tryd.isAgg36
  z37 := Tryd.sizeOf36
  v37 := Tryd.zeroValue36
  t70 := Tryd.underlying84
  a70 := Tryd.isAgg84
  z70 := Tryd.sizeOf84
  v70 := Tryd.zeroValue84
  t72 := Tryd.underlying86
  a72 := Tryd.isAgg86
  z72 := Tryd.sizeOf86
  v72 := Tryd.zeroValue86
  t127 := Tryd.underlying126
  a127 := Tryd.isAgg126
  z127 := Tryd.sizeOf126
  v127 := Tryd.zeroValue126 }
theorem Tryd.Builder_Extra_169 : Builder.Extra Tryd.prog Tryd.lays169_ren := {
  sizeBuilder := by kernel_rfl
  liesBuilder := by kernel_rfl
  t5 := Tryd.underlying5
  a5 := Tryd.isAgg5
  z5 := Tryd.sizeOf5
  v5 := Tryd.zeroValue5
  infoByte := by kernel_rfl
  cellsByte := by kernel_rfl
  sizeByte := by kernel_rfl
  neB5 := by decide }
def Tryd.lays156_ren : Go.Shelf.Ren := ⟨fun | 156 => 75 | 165 => 95 | 166 => 96 | 169 => 56 | 240 => 83 | 241 => 107 | 276 => 100 | 277 => 114 | n => n, fun | 31 => 114 | 9 => 9 | 3 => 3 | 4 => 4 | 0 => 0 | 20 => 20 | 72 => 86 | 76 => 139 | 70 => 84 | 37 => 36 | 75 => 94 | 127 => 126 | 164 => 143 | 5 => 5 | 80 => 96 | n => n, fun | n => n⟩
theorem Tryd.lays156 : Go.Proofs.Lays.n156 Tryd.prog Tryd.lays156_ren := {
  mixed := by kernel_rfl
  f156 := Tryd.func75.trans (congrArg some (by kernel_rfl))
  f165 := Tryd.func95.trans (congrArg some (by kernel_rfl))
  f166 := Tryd.func96.trans (congrArg some (by kernel_rfl))
  f169 := Tryd.func56.trans (congrArg some (by kernel_rfl))
  f240 := Tryd.func83.trans (congrArg some (by kernel_rfl))
  f241 := Tryd.func107.trans (congrArg some (by kernel_rfl))
  f276 := Tryd.func100.trans (congrArg some (by kernel_rfl))
  f277 := Tryd.func114.trans (congrArg some (by kernel_rfl))
  t0 := Tryd.underlying0
  a0 := Tryd.isAgg0
  z0 := Tryd.sizeOf0
  v0 := Tryd.zeroValue0
  t3 := Tryd.underlying3
  a3 := Tryd.isAgg3
  z3 := Tryd.sizeOf3
  v3 := Tryd.zeroValue3
  t4 := Tryd.underlying4
  a4 := Tryd.isAgg4
  z4 := Tryd.sizeOf4
  v4 := Tryd.zeroValue4
  t9 := Tryd.underlying9
  a9 := Tryd.isAgg9
  z9 := Tryd.sizeOf9
  v9 := Tryd.zeroValue9
  t20 := Tryd.underlying20
  a20 := Tryd.isAgg20
  z20 := Tryd.sizeOf20
  v20 := Tryd.zeroValue20
  t31 := Tryd.underlying114
  a31 := Tryd.isAgg114
  z31 := Tryd.sizeOf114
  v31 := Tryd.zeroValue114
  t37 := Tryd.underlying36
  a37 := Tryd.isAgg36
  z37 := Tryd.sizeOf36
  v37 := Tryd.zeroValue36
  t70 := Tryd.underlying84
  a70 := Tryd.isAgg84
  z70 := Tryd.sizeOf84
  v70 := Tryd.zeroValue84
  t72 := Tryd.underlying86
  a72 := Tryd.isAgg86
  z72 := Tryd.sizeOf86
  v72 := Tryd.zeroValue86
  t75 := Tryd.underlying94
  a75 := Tryd.isAgg94
  z75 := Tryd.sizeOf94
  v75 := Tryd.zeroValue94
  t76 := Tryd.underlying139
  a76 := Tryd.isAgg139
  z76 := Tryd.sizeOf139
  v76 := Tryd.zeroValue139
  t127 := Tryd.underlying126
  a127 := Tryd.isAgg126
  z127 := Tryd.sizeOf126
  v127 := Tryd.zeroValue126
  t164 := Tryd.underlying143
  a164 := Tryd.isAgg143
  z164 := Tryd.sizeOf143
  v164 := Tryd.zeroValue143 }
theorem Tryd.Builder_Extra_156 : Builder.Extra Tryd.prog Tryd.lays156_ren := {
  sizeBuilder := by kernel_rfl
  liesBuilder := by kernel_rfl
  t5 := Tryd.underlying5
  a5 := Tryd.isAgg5
  z5 := Tryd.sizeOf5
  v5 := Tryd.zeroValue5
  infoByte := by kernel_rfl
  cellsByte := by kernel_rfl
  sizeByte := by kernel_rfl
  neB5 := by decide }
open Go.RowKit in
/-- strings.Join: "Join concatenates the elements of its first argument to create a single string. The separator string sep is placed between elements in the resulting string.": HOWEVER MANY ELEMENTS. Below the heap's end the world is as it was. (LAID: no walk: one application.) -/
theorem Tryd.strings_Join (bk o c : Nat) (xs : List ByteArray) (sep : ByteArray) (w : World) (hcells : ∀ (j : Nat) x, xs[j]? = some x → w.cell? ⟨bk, o + j, none⟩ = some (.string x)) (hbk : bk < w.heap.size) (hN : xs.length ≤ 140737488355328) (hcap : xs.length ≤ c) (hlen : (Lib.join (xs.map (·.data.toList)) sep.data.toList).length ≤ 140737488355328) :
    Calls Tryd.prog 75 #[.slice (some ⟨bk, o, none⟩) xs.length c, .string sep] w fun e w' => e = .returned (.string ⟨(Lib.join (xs.map (·.data.toList)) sep.data.toList).toArray⟩) ∧ Below w.heap.size w w' := Any.strings_Join Tryd.lays156 Tryd.Builder_Extra_156 bk o c xs sep w hcells hbk hN hcap hlen
def Tryd.lays137_ren : Go.Shelf.Ren := ⟨fun | 137 => 101 | 217 => 110 | 266 => 115 | n => n, fun | 9 => 9 | 5 => 5 | 3 => 3 | n => n, fun | n => n⟩
theorem Tryd.lays137 : Go.Proofs.Lays.n137 Tryd.prog Tryd.lays137_ren := {
  mixed := by kernel_rfl
  f137 := Tryd.func101.trans (congrArg some (by kernel_rfl))
  f217 := Tryd.func110.trans (congrArg some (by kernel_rfl))
  f266 := Tryd.func115.trans (congrArg some (by kernel_rfl))
  t3 := Tryd.underlying3
  a3 := Tryd.isAgg3
  z3 := Tryd.sizeOf3
  v3 := Tryd.zeroValue3
  t5 := Tryd.underlying5
  a5 := Tryd.isAgg5
  z5 := Tryd.sizeOf5
  v5 := Tryd.zeroValue5
  t9 := Tryd.underlying9
  a9 := Tryd.isAgg9
  z9 := Tryd.sizeOf9
  v9 := Tryd.zeroValue9 }
open Go.RowKit in
/-- strings.IndexByte: "IndexByte returns the index of the first instance of c in s, or -1 if c is not present in s.": IT RETURNS 'Lib.indexByte s c'; the world is as it was. (LAID: no walk: one application.) -/
theorem Tryd.strings_IndexByte (s : ByteArray) (c : Int) (w : World) :
    Calls Tryd.prog 101 #[.string s, .int .u8 c] w fun e w' => e = .returned (.int .i64 (Lib.indexByte s.data.toList c.toNat.toUInt8)) ∧ w' = w := Any.strings_IndexByte Tryd.lays137 s c w
def Tryd.lays104_ren : Go.Shelf.Ren := ⟨fun | 104 => 87 | 211 => 102 | 207 => 85 | n => n, fun | 9 => 9 | 4 => 4 | 24 => 128 | 3 => 3 | n => n, fun | n => n⟩
theorem Tryd.lays104 : Go.Proofs.Lays.n104 Tryd.prog Tryd.lays104_ren := {
  mixed := by kernel_rfl
  f104 := Tryd.func87.trans (congrArg some (by kernel_rfl))
  f207 := Tryd.func85.trans (congrArg some (by kernel_rfl))
  f211 := Tryd.func102.trans (congrArg some (by kernel_rfl))
  t3 := Tryd.underlying3
  a3 := Tryd.isAgg3
  z3 := Tryd.sizeOf3
  v3 := Tryd.zeroValue3
  t4 := Tryd.underlying4
  a4 := Tryd.isAgg4
  z4 := Tryd.sizeOf4
  v4 := Tryd.zeroValue4
  t9 := Tryd.underlying9
  a9 := Tryd.isAgg9
  z9 := Tryd.sizeOf9
  v9 := Tryd.zeroValue9
  t24 := Tryd.underlying128
  a24 := Tryd.isAgg128
  z24 := Tryd.sizeOf128
  v24 := Tryd.zeroValue128 }
open Go.RowKit in
/-- strings.CutSuffix: "CutSuffix returns s without the provided ending suffix string and reports whether it found the suffix. If s doesn't end with suffix, CutSuffix returns s, false. If suffix is the empty string, CutSuffix returns s, true.": IT RETURNS '(Lib.trimSuffix s p, Lib.hasSuffix s p)'; the world is as it was. (LAID: no walk: one application.) -/
theorem Tryd.strings_CutSuffix (s p : ByteArray) (w : World) (hs : s.size ≤ 9223372036854775807) :
    Calls Tryd.prog 87 #[.string s, .string p] w fun e w' => e = .returned (.tuple #[.string ⟨(Lib.trimSuffix s.data.toList p.data.toList).toArray⟩, .bool (Lib.hasSuffix s.data.toList p.data.toList)]) ∧ w' = w := Any.strings_CutSuffix Tryd.lays104 s p w hs
open Go.RowKit in
/-- (*strings.Builder).String: "String returns the accumulated string.": WHATEVER THE BUILDER HOLDS; THE FORM '_k': OVER 'Lib.IsBuilderF' (a builder that 'String()' may have read), AND WITH THE FRAME THAT REACHES ABOVE THE BUILDER: 'Lib.OthersKept': every block that is not b and is no row of uint8's stands as it stood: the iterator of a range among them. (LAID: no walk: one application.) -/
theorem Tryd.Builder_String_any_k (B b : Nat) (l : List UInt8) (w : World) (h : Lib.IsBuilderF 86 5 B b (Lib.byteCells l) w) (hBw : B ≤ w.heap.size) :
    Calls Tryd.prog 56 #[.pointer (some ⟨b, 0, none⟩)] w fun e w' => e = .returned (.string ⟨l.toArray⟩) ∧ (Lib.IsBuilderF 86 5 B b (Lib.byteCells l) w' ∧ Below B w w' ∧ Lib.OthersKept 5 (some b) w w') := Any.Builder_String_any_k Tryd.lays169 Tryd.Builder_Extra_169 B b l w h hBw
def Tryd.lays207_ren : Go.Shelf.Ren := ⟨fun | 207 => 85 | n => n, fun | 9 => 9 | 4 => 4 | 3 => 3 | n => n, fun | n => n⟩
theorem Tryd.lays207 : Go.Proofs.Lays.n207 Tryd.prog Tryd.lays207_ren := {
  mixed := by kernel_rfl
  f207 := Tryd.func85.trans (congrArg some (by kernel_rfl))
  t3 := Tryd.underlying3
  a3 := Tryd.isAgg3
  z3 := Tryd.sizeOf3
  v3 := Tryd.zeroValue3
  t4 := Tryd.underlying4
  a4 := Tryd.isAgg4
  z4 := Tryd.sizeOf4
  v4 := Tryd.zeroValue4
  t9 := Tryd.underlying9
  a9 := Tryd.isAgg9
  z9 := Tryd.sizeOf9
  v9 := Tryd.zeroValue9 }
open Go.RowKit Go.Lib in
/-- internal/stringslite.HasSuffix (what strings.HasSuffix calls). (LAID: no walk: one application.) -/
theorem Tryd.stringslite_HasSuffix (s p : ByteArray) (w : World) (hs : s.size ≤ 9223372036854775807) :
    Calls Tryd.prog 85 #[.string s, .string p] w fun e w' => e = .returned (.bool (Lib.hasSuffix s.data.toList p.data.toList)) ∧ w' = w := Any.stringslite_HasSuffix Tryd.lays207 s p w hs
def Tryd.lays100_ren : Go.Shelf.Ren := ⟨fun | 100 => 60 | 207 => 85 | n => n, fun | 9 => 9 | 4 => 4 | 3 => 3 | n => n, fun | n => n⟩
theorem Tryd.lays100 : Go.Proofs.Lays.n100 Tryd.prog Tryd.lays100_ren := {
  mixed := by kernel_rfl
  f100 := Tryd.func60.trans (congrArg some (by kernel_rfl))
  f207 := Tryd.func85.trans (congrArg some (by kernel_rfl))
  t3 := Tryd.underlying3
  a3 := Tryd.isAgg3
  z3 := Tryd.sizeOf3
  v3 := Tryd.zeroValue3
  t4 := Tryd.underlying4
  a4 := Tryd.isAgg4
  z4 := Tryd.sizeOf4
  v4 := Tryd.zeroValue4
  t9 := Tryd.underlying9
  a9 := Tryd.isAgg9
  z9 := Tryd.sizeOf9
  v9 := Tryd.zeroValue9 }
open Go.RowKit Go.Lib in
/-- strings.HasSuffix: "HasSuffix reports whether the string s ends with suffix.": IT RETURNS 'Lib.hasSuffix s suffix'; the world is as it was. ('hs': no Go string is longer: a caller has it of every string that it was handed.) (LAID: no walk: one application.) -/
theorem Tryd.strings_HasSuffix (s p : ByteArray) (w : World) (hs : s.size ≤ 9223372036854775807) :
    Calls Tryd.prog 60 #[.string s, .string p] w fun e w' => e = .returned (.bool (Lib.hasSuffix s.data.toList p.data.toList)) ∧ w' = w := Any.strings_HasSuffix Tryd.lays100 s p w hs
def Tryd.lays209_ren : Go.Shelf.Ren := ⟨fun | 209 => 84 | 207 => 85 | n => n, fun | 9 => 9 | 4 => 4 | 3 => 3 | n => n, fun | n => n⟩
theorem Tryd.lays209 : Go.Proofs.Lays.n209 Tryd.prog Tryd.lays209_ren := {
  mixed := by kernel_rfl
  f207 := Tryd.func85.trans (congrArg some (by kernel_rfl))
  f209 := Tryd.func84.trans (congrArg some (by kernel_rfl))
  t3 := Tryd.underlying3
  a3 := Tryd.isAgg3
  z3 := Tryd.sizeOf3
  v3 := Tryd.zeroValue3
  t4 := Tryd.underlying4
  a4 := Tryd.isAgg4
  z4 := Tryd.sizeOf4
  v4 := Tryd.zeroValue4
  t9 := Tryd.underlying9
  a9 := Tryd.isAgg9
  z9 := Tryd.sizeOf9
  v9 := Tryd.zeroValue9 }
open Go.RowKit Go.Lib in
/-- internal/stringslite.TrimSuffix (what strings.TrimSuffix calls). (LAID: no walk: one application.) -/
theorem Tryd.stringslite_TrimSuffix (s p : ByteArray) (w : World) (hs : s.size ≤ 9223372036854775807) :
    Calls Tryd.prog 84 #[.string s, .string p] w fun e w' => e = .returned (.string ⟨(Lib.trimSuffix s.data.toList p.data.toList).toArray⟩) ∧ w' = w := Any.stringslite_TrimSuffix Tryd.lays209 s p w hs
def Tryd.lays102_ren : Go.Shelf.Ren := ⟨fun | 102 => 59 | 209 => 84 | 207 => 85 | n => n, fun | 9 => 9 | 4 => 4 | 3 => 3 | n => n, fun | n => n⟩
theorem Tryd.lays102 : Go.Proofs.Lays.n102 Tryd.prog Tryd.lays102_ren := {
  mixed := by kernel_rfl
  f102 := Tryd.func59.trans (congrArg some (by kernel_rfl))
  f207 := Tryd.func85.trans (congrArg some (by kernel_rfl))
  f209 := Tryd.func84.trans (congrArg some (by kernel_rfl))
  t3 := Tryd.underlying3
  a3 := Tryd.isAgg3
  z3 := Tryd.sizeOf3
  v3 := Tryd.zeroValue3
  t4 := Tryd.underlying4
  a4 := Tryd.isAgg4
  z4 := Tryd.sizeOf4
  v4 := Tryd.zeroValue4
  t9 := Tryd.underlying9
  a9 := Tryd.isAgg9
  z9 := Tryd.sizeOf9
  v9 := Tryd.zeroValue9 }
open Go.RowKit Go.Lib in
/-- strings.TrimSuffix: "TrimSuffix returns s without the provided trailing suffix string. If s doesn't end with suffix, s is returned unchanged.": IT RETURNS 'Lib.trimSuffix s suffix'; the world is as it was. (LAID: no walk: one application.) -/
theorem Tryd.strings_TrimSuffix (s p : ByteArray) (w : World) (hs : s.size ≤ 9223372036854775807) :
    Calls Tryd.prog 59 #[.string s, .string p] w fun e w' => e = .returned (.string ⟨(Lib.trimSuffix s.data.toList p.data.toList).toArray⟩) ∧ w' = w := Any.strings_TrimSuffix Tryd.lays102 s p w hs
def Tryd.lays105_ren : Go.Shelf.Ren := ⟨fun | 105 => 80 | 212 => 97 | 99 => 98 | 165 => 95 | 166 => 96 | 170 => 99 | 169 => 56 | 263 => 108 | 264 => 109 | 206 => 105 | 240 => 83 | 241 => 107 | 276 => 100 | 277 => 114 | n => n, fun | 9 => 9 | 3 => 3 | 4 => 4 | 20 => 20 | 0 => 0 | 46 => 91 | 109 => 141 | 5 => 5 | 72 => 86 | 76 => 139 | 51 => 81 | 146 => 147 | 53 => 79 | 148 => 149 | 70 => 84 | 37 => 36 | 75 => 94 | 127 => 126 | 164 => 143 | 80 => 96 | n => n, fun | n => n⟩
theorem Tryd.lays105 : Go.Proofs.Lays.n105 Tryd.prog Tryd.lays105_ren := {
  mixed := by kernel_rfl
  f99 := Tryd.func98.trans (congrArg some (by kernel_rfl))
  f105 := Tryd.func80.trans (congrArg some (by kernel_rfl))
  f165 := Tryd.func95.trans (congrArg some (by kernel_rfl))
  f166 := Tryd.func96.trans (congrArg some (by kernel_rfl))
  f169 := Tryd.func56.trans (congrArg some (by kernel_rfl))
  f170 := Tryd.func99.trans (congrArg some (by kernel_rfl))
  f206 := Tryd.func105.trans (congrArg some (by kernel_rfl))
  f212 := Tryd.func97.trans (congrArg some (by kernel_rfl))
  f240 := Tryd.func83.trans (congrArg some (by kernel_rfl))
  f241 := Tryd.func107.trans (congrArg some (by kernel_rfl))
  f263 := Tryd.func108.trans (congrArg some (by kernel_rfl))
  f264 := Tryd.func109.trans (congrArg some (by kernel_rfl))
  f276 := Tryd.func100.trans (congrArg some (by kernel_rfl))
  f277 := Tryd.func114.trans (congrArg some (by kernel_rfl))
  t0 := Tryd.underlying0
  a0 := Tryd.isAgg0
  z0 := Tryd.sizeOf0
  v0 := Tryd.zeroValue0
  t3 := Tryd.underlying3
  a3 := Tryd.isAgg3
  z3 := Tryd.sizeOf3
  v3 := Tryd.zeroValue3
  t4 := Tryd.underlying4
  a4 := Tryd.isAgg4
  z4 := Tryd.sizeOf4
  v4 := Tryd.zeroValue4
  t5 := Tryd.underlying5
  a5 := Tryd.isAgg5
  z5 := Tryd.sizeOf5
  v5 := Tryd.zeroValue5
  t9 := Tryd.underlying9
  a9 := Tryd.isAgg9
  z9 := Tryd.sizeOf9
  v9 := Tryd.zeroValue9
  t20 := Tryd.underlying20
  a20 := Tryd.isAgg20
  z20 := Tryd.sizeOf20
  v20 := Tryd.zeroValue20
  t37 := Tryd.underlying36
  a37 := Tryd.isAgg36
  z37 := Tryd.sizeOf36
  v37 := Tryd.zeroValue36
  t46 := Tryd.underlying91
  a46 := Tryd.isAgg91
  z46 := Tryd.sizeOf91
  v46 := Tryd.zeroValue91
  t51 := Tryd.underlying81
  a51 := Tryd.isAgg81
  z51 := Tryd.sizeOf81
  v51 := Tryd.zeroValue81
  t53 := Tryd.underlying79
  a53 := Tryd.isAgg79
  z53 := Tryd.sizeOf79
  v53 := Tryd.zeroValue79
  t70 := Tryd.underlying84
  a70 := Tryd.isAgg84
  z70 := Tryd.sizeOf84
  v70 := Tryd.zeroValue84
  t72 := Tryd.underlying86
  a72 := Tryd.isAgg86
  z72 := Tryd.sizeOf86
  v72 := Tryd.zeroValue86
  t75 := Tryd.underlying94
  a75 := Tryd.isAgg94
  z75 := Tryd.sizeOf94
  v75 := Tryd.zeroValue94
  t76 := Tryd.underlying139
  a76 := Tryd.isAgg139
  z76 := Tryd.sizeOf139
  v76 := Tryd.zeroValue139
  t109 := Tryd.underlying141
  a109 := Tryd.isAgg141
  z109 := Tryd.sizeOf141
  v109 := Tryd.zeroValue141
  t127 := Tryd.underlying126
  a127 := Tryd.isAgg126
  z127 := Tryd.sizeOf126
  v127 := Tryd.zeroValue126
  t146 := Tryd.underlying147
  a146 := Tryd.isAgg147
  z146 := Tryd.sizeOf147
  v146 := Tryd.zeroValue147
  t148 := Tryd.underlying149
  a148 := Tryd.isAgg149
  z148 := Tryd.sizeOf149
  v148 := Tryd.zeroValue149
  t164 := Tryd.underlying143
  a164 := Tryd.isAgg143
  z164 := Tryd.sizeOf143
  v164 := Tryd.zeroValue143 }
theorem Tryd.Builder_Extra_105 : Builder.Extra Tryd.prog Tryd.lays105_ren := {
  sizeBuilder := by kernel_rfl
  liesBuilder := by kernel_rfl
  t5 := Tryd.underlying5
  a5 := Tryd.isAgg5
  z5 := Tryd.sizeOf5
  v5 := Tryd.zeroValue5
  infoByte := by kernel_rfl
  cellsByte := by kernel_rfl
  sizeByte := by kernel_rfl
  neB5 := by decide }
open Go.RowKit Go.Lib in
/-- THE MAIN CASE: at least two copies of a string that is not empty. (LAID: no walk: one application.) -/
theorem Tryd.strings_Repeat_main (s : ByteArray) (c : Nat) (w : World) (hc2 : 2 ≤ c) (hc : c ≤ 9223372036854775807) (hlen : s.size * c ≤ 140737488355328) (h0 : 0 < s.size) :
    Calls Tryd.prog 80 #[.string s, .int .i64 c] w fun e w' => e = .returned (.string ⟨(Lib.repeatL s.data.toList c).toArray⟩) ∧ Below w.heap.size w w' := Any.strings_Repeat_main Tryd.lays105 Tryd.Builder_Extra_105 s c w hc2 hc hlen h0
open Go.RowKit Go.Lib in
theorem Tryd.strings_Repeat_zero (s : ByteArray) (w : World) :
    Calls Tryd.prog 80 #[.string s, .int .i64 0] w fun e w' => e = .returned (.string ⟨#[]⟩) ∧ w' = w := Any.strings_Repeat_zero Tryd.lays105 s w
open Go.RowKit Go.Lib in
theorem Tryd.strings_Repeat_one (s : ByteArray) (w : World) :
    Calls Tryd.prog 80 #[.string s, .int .i64 1] w fun e w' => e = .returned (.string s) ∧ w' = w := Any.strings_Repeat_one Tryd.lays105 s w
end Go.Proofs
-- E3
set_option linter.unusedVariables false
set_option linter.unusedSimpArgs false
namespace Go.Proofs.YteajidciahoboaaDoor.H
open Go.RowKit Go.Shelf Go.Proofs.YteajidciahoboaaDoorW.PrintWords Go.Proofs.YteajidciahoboaaDoorW.PrintLast Go.Proofs.YteajidciahoboaaDoorW.PrintMore Go.Proofs.YteajidciahoboaaDoor.M
attribute [local go_sem] Oper.semAt_some

theorem pieces_in (F : Fence) (n : Nat) (hf : F.fn 54) (hro : F.round = none) (A : Option Addr) (m c : Nat) (w : World) :
    CallsIn F n Tryd.prog 54 #[.slice A m c, .int .i64 3] w fun e w' => e = .returned (.func (.func 82) #[] #[.pointer (some ⟨w.heap.size, 0, none⟩), .pointer (some ⟨w.heap.size + 1, 0, none⟩)]) ∧ w' = (w.alloc (.cells #[.slice A m c] 36)).alloc (.cells #[.int .i64 3] 3) := by
  have hmf : ∀ (fn : Fn) (first cap : Array Value) (w : World), (Instr.makeFunc fn first cap).run Tryd.prog w = .ok (.func fn first cap) w := fun _ _ _ _ => rfl
  refine callsIn_of_wp Tryd.func54 rfl hf ?_ hro
  simp only [Tryd.ntmps54, List.size_toArray, List.length_cons, List.length_nil, Nat.reduceAdd, Nat.reduceSub, Array.replicate_succ, Array.replicate_zero, List.push_toArray, List.append_toArray, List.nil_append, List.cons_append]
  gi_wp2
  go_ret
  exact ⟨rfl, rfl⟩

/-- The three bytes of a piece, noughts behind. -/
def three (p : List Int) : Array Value := #[.int .u8 (p.getD 0 0), .int .u8 (p.getD 1 0), .int .u8 (p.getD 2 0)]
theorem copy_piece (a : Addr) (p : List Int) (k : Nat) (W : World) (hk : p.length = k) (h1 : 1 ≤ k) (h3 : k ≤ 3) (hr : Kd.C (Kd.int .u8) W (some a) k p) (ty : TypeId) :
    (Builtin.copy_ #[36, 36] ty #[.slice (some ⟨W.heap.size, 0, none⟩) 3 3, .slice (some a) k k]).run Tryd.prog (W.alloc (.cells #[.int .u8 0, .int .u8 0, .int .u8 0] 90)) = .ok (.int .i64 k) (W.alloc (.cells (three p) 90)) := by
  have hcell : ∀ j v, (nums .u8 p)[j]? = some v → (W.alloc (.cells #[.int .u8 0, .int .u8 0, .int .u8 0] 90)).cell? (a.add j) = some v := by
    intro j v hj
    have hjl : j < p.length := by
      have := (List.getElem?_eq_some_iff.1 hj).1
      simpa [nums] using this
    obtain ⟨ad, he, hc⟩ := Kd.at_int (Kd.C_below hr (below_alloc (Below.refl _ _) (.cells #[.int .u8 0, .int .u8 0, .int .u8 0] 90))) (j : Int) (by omega) (by omega)
    obtain rfl := Option.some.inj he
    rw [Int.toNat_natCast] at hc
    rw [hc]
    simp [nums, rd] at hj ⊢
    obtain ⟨x, hx, rfl⟩ := hj
    simp [hx]
  have hsz : (Tryd.prog.info? 5).map (·.size) = some 1 := by kernel_rfl
  have := run_copy_cells (P := Tryd.prog) (W.alloc (.cells #[.int .u8 0, .int .u8 0, .int .u8 0] 90)) 36 36 ty 5 W.heap.size 0 3 3 a k k (nums .u8 p) Tryd.underlying36 hsz (by rw [nums_length, hk]; exact (Nat.min_eq_left h3).symm) hcell
    (by intro j hj; rw [nums_length, hk] at hj; have h : j = 0 ∨ j = 1 ∨ j = 2 := by omega
        rw [World.cell?_alloc_new]; rcases h with rfl | rfl | rfl <;> rfl)
    (by intro j hj; exact World.frozen?_alloc_at _ _ _ _ rfl)
    (by intro v hv; simp [nums] at hv; obtain ⟨x, _, rfl⟩ := hv; rfl)
  rw [this]
  match p, hk with
  | [x], hk => subst hk; simp [nums, World.setCells, three, World.setCell_alloc_new, goInt]
  | [x, y], hk => subst hk; simp [nums, World.setCells, three, World.setCell_alloc_new, goInt]
  | [x, y, z], hk => subst hk; simp [nums, World.setCells, three, World.setCell_alloc_new, goInt]
  | [], hk => simp at hk; omega
  | x :: y :: z :: u :: r, hk => simp at hk; omega

def signsTab : List Nat := [65, 66, 67, 68, 69, 70, 71, 72, 73, 74, 75, 76, 77, 78, 79, 80, 81, 82, 83, 84, 85, 86, 87, 88, 89, 90, 97, 98, 99, 100, 101, 102, 103, 104, 105, 106, 107, 108, 109, 110, 111, 112, 113, 114, 115, 116, 117, 118, 119, 120, 121, 122, 48, 49, 50, 51, 52, 53, 54, 55, 56, 57, 43, 47]
def sgn (k : Nat) : Int := ((signsTab.getD k 0 : Nat) : Int)
theorem sgn_at : ∀ z : Fin 64, ((⟨#[65, 66, 67, 68, 69, 70, 71, 72, 73, 74, 75, 76, 77, 78, 79, 80, 81, 82, 83, 84, 85, 86, 87, 88, 89, 90, 97, 98, 99, 100, 101, 102, 103, 104, 105, 106, 107, 108, 109, 110, 111, 112, 113, 114, 115, 116, 117, 118, 119, 120, 121, 122, 48, 49, 50, 51, 52, 53, 54, 55, 56, 57, 43, 47]⟩ : ByteArray)[z.val]?).map (fun b => (b.toNat : Int)) = some (sgn z.val) := by decide +kernel
theorem sign_ix (z : Nat) (hz : z < 64) (W : World) : (Instr.index 9 (.string ⟨#[65, 66, 67, 68, 69, 70, 71, 72, 73, 74, 75, 76, 77, 78, 79, 80, 81, 82, 83, 84, 85, 86, 87, 88, 89, 90, 97, 98, 99, 100, 101, 102, 103, 104, 105, 106, 107, 108, 109, 110, 111, 112, 113, 114, 115, 116, 117, 118, 119, 120, 121, 122, 48, 49, 50, 51, 52, 53, 54, 55, 56, 57, 43, 47]⟩) (.int .u8 z)).run Tryd.prog W = .ok (.int .u8 (sgn z)) W := by
  rw [run_index_string W _ _ _ _ Tryd.underlying9, dif_pos ⟨by omega, by show (z : Int) < 64; omega⟩]
  have h := sgn_at ⟨z, hz⟩
  simp only [Int.toNat_natCast]
  rw [getElem?_pos _ _ (by show z < 64; exact hz)] at h
  simpa using h
theorem four_ix (y0 y1 y2 y3 : Int) (i : Nat) (hi : i < 4) (W : World) : (Instr.index 92 (.agg #[.int .u8 y0, .int .u8 y1, .int .u8 y2, .int .u8 y3]) (.int .i64 i)).run Tryd.prog W = .ok (.int .u8 ([y0, y1, y2, y3].getD i 0)) W := by
  have h : i = 0 ∨ i = 1 ∨ i = 2 ∨ i = 3 := by omega
  rcases h with rfl | rfl | rfl | rfl <;> simp [Instr.index, run_underlying Tryd.underlying92, asIntOf, go_sem]
theorem wraps_u8 (n : Int) (h₀ : 0 ≤ n) (h₁ : n < 2 ^ 8) : IntKind.u8.wrap n = n := by rw [IntKind.wrap_u8]; omega
theorem n8_or (a b : Nat) (ha : a < 256) (hb : b < 256) : Go.bits .or .u8 a b = ((a ||| b : Nat) : Int) := (bits_nat .u8 8 (by decide) wraps_u8 a b ha hb).2
theorem n8_mask (a k : Nat) (ha : a < 256) (hk : k ≤ 8) : Go.bits .and .u8 a ((2 ^ k - 1 : Nat) : Int) = ((a % 2 ^ k : Nat) : Int) := by
  have h2 : 2 ^ k ≤ 2 ^ 8 := Nat.pow_le_pow_right (by decide) hk
  rw [(bits_nat .u8 8 (by decide) wraps_u8 a (2 ^ k - 1) ha (by have := Nat.two_pow_pos k; omega)).1, Nat.and_two_pow_sub_one_eq_mod]
theorem n8_glue (a b k : Nat) (ha : a * 2 ^ k < 256) (hb : b < 2 ^ k) (hb' : b < 256) : Go.bits .or .u8 ((a * 2 ^ k : Nat) : Int) b = ((a * 2 ^ k + b : Nat) : Int) := by
  rw [n8_or _ _ ha hb', Nat.mul_comm, ← Nat.two_pow_add_eq_or_of_lt hb]
/-- The four signs' places of a piece. -/
def four6 (p : List Int) : List Nat := [(p.getD 0 0).toNat / 4, (p.getD 0 0).toNat % 4 * 16 + (p.getD 1 0).toNat / 16, (p.getD 1 0).toNat % 16 * 4 + (p.getD 2 0).toNat / 64, (p.getD 2 0).toNat % 64]
def encAt (p : List Int) (i : Nat) : Int := if i > p.length then 61 else sgn ((four6 p).getD i 0)
def enc3 (p : List Int) : List Int := [encAt p 0, encAt p 1, encAt p 2, encAt p 3]
def encode (xs : List Int) : List Int := ((chunks3 xs).map enc3).flatten

theorem enc3_take (p : List Int) (i : Nat) (h : i < 4) : (enc3 p).take (i + 1) = (enc3 p).take i ++ [encAt p i] := by
  have h : i = 0 ∨ i = 1 ∨ i = 2 ∨ i = 3 := by omega
  rcases h with rfl | rfl | rfl | rfl <;> rfl
theorem enc3_all (p : List Int) : (enc3 p).take 4 = enc3 p := rfl
theorem nums_append (k : IntKind) (a b : List Int) : nums k (a ++ b) = nums k a ++ nums k b := by simp [nums]
theorem enc_len (l : List (List Int)) : ((l.map enc3).flatten).length = 4 * l.length := by
  induction l with
  | nil => rfl
  | cons a l ih => simp only [List.map_cons, List.flatten_cons, List.length_append, ih, List.length_cons]; show 4 + _ = _; omega
theorem pre_len {w0 : World} (pre : List (Pc w0)) : pre.length ≤ (pre.map (·.1.2)).flatten.length := by
  induction pre with
  | nil => simp
  | cons a l ih => have := a.2.2.1; simp only [List.map_cons, List.flatten_cons, List.length_append, List.length_cons]; omega
theorem sgn_lt (k : Nat) : 0 ≤ sgn k ∧ sgn k < 256 := by
  unfold sgn
  by_cases h : k < 64
  · have := (by decide +kernel : ∀ z : Fin 64, signsTab.getD z.val 0 < 256) ⟨k, h⟩
    simp only at this
    omega
  · rw [List.getD_eq_getElem?_getD, List.getElem?_eq_none (by show 64 ≤ k; omega)]
    decide
theorem encode_bytes (xs : List Int) : isBytes (encode xs) := by
  intro y hy
  unfold encode at hy
  obtain ⟨l, hl, hyl⟩ := List.mem_flatten.1 hy
  obtain ⟨p, _, rfl⟩ := List.mem_map.1 hl
  have one : ∀ i, 0 ≤ encAt p i ∧ encAt p i < 256 := fun i => by unfold encAt; split; decide; exact sgn_lt _
  simp only [enc3, List.mem_cons, List.not_mem_nil, or_false] at hyl
  rcases hyl with rfl | rfl | rfl | rfl <;> exact one _
theorem nums_bytes (xs : List Int) (h : isBytes xs) : nums .u8 xs = Lib.byteCells (xs.map fun x => UInt8.ofNat x.toNat) := by
  unfold nums Lib.byteCells
  rw [List.map_map]
  refine List.map_congr_left fun x hx => ?_
  have := h x hx
  simp only [Function.comp_apply, UInt8.toNat_ofNat']
  congr 1
  omega
theorem six_bits (p : List Int) (x0 x1 x2 : Int) (h0 : p.getD 0 0 = x0) (h1 : p.getD 1 0 = x1) (h2 : p.getD 2 0 = x2) (hb : isBytes p) : ∃ y0 y1 y2 y3 : Nat, y0 < 64 ∧ y1 < 64 ∧ y2 < 64 ∧ y3 < 64 ∧ x0 / 4 = (y0 : Int) ∧ Go.bits .or .u8 (Go.bits .and .u8 x0 3 * 16 % 256) (x1 / 16) = (y1 : Int) ∧ Go.bits .or .u8 (Go.bits .and .u8 x1 15 * 4 % 256) (x2 / 64) = (y2 : Int) ∧ Go.bits .and .u8 x2 63 = (y3 : Int) ∧ four6 p = [y0, y1, y2, y3] := by
  have at' : ∀ i, ∃ n : Nat, p.getD i 0 = (n : Int) ∧ n < 256 := fun i => by
    by_cases h : i < p.length
    · have := hb (p.getD i 0) (by simp [h])
      exact ⟨(p.getD i 0).toNat, by omega, by omega⟩
    · exact ⟨0, by simp [List.getElem?_eq_none (Nat.le_of_not_lt h)], by decide⟩
  obtain ⟨n0, e0, b0⟩ := at' 0
  obtain ⟨n1, e1, b1⟩ := at' 1
  obtain ⟨n2, e2, b2⟩ := at' 2
  rw [e0] at h0
  rw [e1] at h1
  rw [e2] at h2
  subst h0 h1 h2
  have m3 := n8_mask n0 2 b0 (by decide)
  have m15 := n8_mask n1 4 b1 (by decide)
  have m63 := n8_mask n2 6 b2 (by decide)
  have g1 := n8_glue (n0 % 4) (n1 / 16) 4 (by omega) (by omega) (by omega)
  have g2 := n8_glue (n1 % 16) (n2 / 64) 2 (by omega) (by omega) (by omega)
  have c3 : ((2 ^ 2 - 1 : Nat) : Int) = 3 := rfl
  have c15 : ((2 ^ 4 - 1 : Nat) : Int) = 15 := rfl
  have c63 : ((2 ^ 6 - 1 : Nat) : Int) = 63 := rfl
  rw [c3] at m3
  rw [c15] at m15
  rw [c63] at m63
  refine ⟨n0 / 4, n0 % 4 * 16 + n1 / 16, n1 % 16 * 4 + n2 / 64, n2 % 64, by omega, by omega, by omega, by omega, by omega, ?_, ?_, m63, ?_⟩
  · rw [m3, show ((n0 % 2 ^ 2 : Nat) : Int) * 16 % 256 = ((n0 % 4 * 2 ^ 4 : Nat) : Int) by omega, show (n1 : Int) / 16 = ((n1 / 16 : Nat) : Int) by omega]
    exact g1
  · rw [m15, show ((n1 % 2 ^ 4 : Nat) : Int) * 4 % 256 = ((n1 % 16 * 2 ^ 2 : Nat) : Int) by omega, show (n2 : Int) / 64 = ((n2 / 64 : Nat) : Int) by omega]
    exact g2
  · unfold four6
    rw [e0, e1, e2]
    simp only [Int.toNat_natCast]

/-- What the caller keeps between two rounds. -/
def EncI (w : World) (w0 : World) (pre : List (Pc w0)) (W : World) : Prop :=
  Lib.IsBuilder 86 5 w.heap.size w.heap.size (nums .u8 ((pre.map (·.1.2)).map enc3).flatten) W ∧ Below w.heap.size w W ∧
    (∃ v, W.heap[w.heap.size + 1]? = some (.cells #[v] 36 (0, 0))) ∧ (∃ v, W.heap[w.heap.size + 2]? = some (.cells #[v] 3 (0, 0)))
theorem keepsOthers_of {b : Nat} {W W' : World} (hs : W.heap.size ≤ W'.heap.size) (h : Lib.OthersKept 5 (some b) W W') (hb : ∀ o, W.heap[b]? = some o → o.isCells = true) : KeepsOthers W W' := by
  refine ⟨hs, fun k o hk ho => h k o hk (fun e => ?_) (fun c fz e => ?_)⟩
  · cases e
    rw [hb o hk] at ho
    cases ho
  · subst e
    cases ho
theorem isBuilder_kept {b B : Nat} {bs : List Value} {W W' : World} (h : Lib.IsBuilder 86 5 B b bs W) (hk : ∀ k c t fz, W.heap[k]? = some (.cells c t fz) → (k = b ∨ t = 5) → W'.heap[k]? = W.heap[k]?) : Lib.IsBuilder 86 5 B b bs W' := by
  have step : ∀ p, Lib.BuilderAt 86 5 B b p bs W → Lib.BuilderAt 86 5 B b p bs W' := by
    rintro p ⟨hB, v, hb, hown, hne⟩
    refine ⟨hB, v, (hk b _ _ _ hb (.inl rfl)).trans hb, own_move hown (fun k hv => ?_), hne⟩
    obtain ⟨cells, hc⟩ := own_typed hown k hv
    exact hk k _ _ _ hc (.inr rfl)
  rcases h with h | h
  · exact .inl (step _ h)
  · exact .inr (step _ h)
theorem heap_new (w : World) (o : Obj) : (w.alloc o).heap[w.heap.size]? = some o := World.alloc_heap_new w o
theorem heap_old (w : World) (o : Obj) (k : Nat) (hk : k < w.heap.size) : (w.alloc o).heap[k]? = w.heap[k]? := Below.heap_alloc _ _ _ hk
theorem heap_new1 (w : World) (a b : Obj) : ((w.alloc a).alloc b).heap[w.heap.size + 1]? = some b := by have := heap_new (w.alloc a) b; rwa [World.size_alloc] at this
theorem heap_new2 (w : World) (a b c : Obj) : (((w.alloc a).alloc b).alloc c).heap[w.heap.size + 2]? = some c := by have := heap_new ((w.alloc a).alloc b) c; rwa [World.size_alloc, World.size_alloc] at this
theorem cells_lt {W : World} {k : Nat} {o : Obj} (h : W.heap[k]? = some o) : k < W.heap.size := (Array.getElem?_eq_some_iff.1 h).1
theorem EncI.alloc {w w0 : World} {pre : List (Pc w0)} {W : World} (h : EncI w w0 pre W) (o : Obj) : EncI w w0 pre (W.alloc o) := by
  obtain ⟨h1, h2, ⟨v, h3⟩, ⟨u, h4⟩⟩ := h
  exact ⟨isBuilder_kept h1 (fun k c t fz hk _ => heap_old _ _ _ (cells_lt hk)), below_alloc h2 _, ⟨v, (heap_old _ _ _ (cells_lt h3)).trans h3⟩, ⟨u, (heap_old _ _ _ (cells_lt h4)).trans h4⟩⟩
theorem EncI.putObj {w w0 : World} {pre : List (Pc w0)} {W : World} (h : EncI w w0 pre W) {l : Nat} {o o' : Obj} (hl : w.heap.size ≤ l) (hlo : W.heap[l]? = some o) (ho : o.isCells = false) : EncI w w0 pre (W.putObj l o') := by
  obtain ⟨h1, h2, ⟨v, h3⟩, ⟨u, h4⟩⟩ := h
  have ne : ∀ k c t fz, W.heap[k]? = some (.cells c t fz) → k ≠ l := fun k c t fz hk e => by
    subst e
    rw [hlo] at hk
    cases hk
    cases ho
  exact ⟨isBuilder_kept h1 (fun k c t fz hk _ => World.putObj_heap_other (ne _ _ _ _ hk)), h2.grown (grownBy_putObj' W l o') h2.size (fun k e => by cases e; exact hl), ⟨v, (World.putObj_heap_other (ne _ _ _ _ h3)).trans h3⟩, ⟨u, (World.putObj_heap_other (ne _ _ _ _ h4)).trans h4⟩⟩
theorem EncI.box {w w0 : World} {pre : List (Pc w0)} {W : World} (h : EncI w w0 pre W) (v : Value) : EncI w w0 pre (W.setCell ⟨w.heap.size + 1, 0, none⟩ v) := by
  obtain ⟨h1, h2, ⟨u, h3⟩, ⟨x, h4⟩⟩ := h
  refine ⟨isBuilder_kept h1 (fun k c t fz hk ht => Below.heap_setCell _ _ _ _ (fun e => ?_)), h2.setCell (p := ⟨w.heap.size + 1, 0, none⟩) (by simp) _, ⟨_, blk_set h3 0 v⟩, ⟨x, blk_far h4 (p := ⟨w.heap.size + 1, 0, none⟩) (by simp) v⟩⟩
  have e' : k = w.heap.size + 1 := e
  subst e'
  rw [h3] at hk
  cases hk
  rcases ht with ht | ht
  · omega
  · exact absurd ht (by decide)

set_option maxRecDepth 100000 in
set_option maxHeartbeats 4000000 in
theorem encode_in (n : Nat) (hn : 6 ≤ n) (A : Option Addr) (c : Nat) (xs : List Int) (w : World) (hr : Kd.C (Kd.int .u8) w A xs.length xs) (hc : xs.length ≤ c) (hx : isBytes xs) (hl : xs.length ≤ 1000000) :
    CallsIn Fence.wide n Tryd.prog 21 #[.slice A xs.length c] w fun e w' => e = .returned (.string (strOfNums (encode xs))) ∧ Below w.heap.size w w' := by
  have hro : Fence.wide.round = none := rfl
  have h1 : 1 ≤ n := by omega
  have hf1 : Fence.wide.fn 54 := trivial
  have hf2 : Fence.wide.fn 82 := trivial
  have HR := Aside0.mk hr
  have HX := Aside0.mk hx
  clear hr hx
  refine callsIn_of_wp_marks Tryd.func21 rfl trivial ?_ hro
  simp only [Tryd.ntmps21, List.size_toArray, List.length_cons, List.length_nil, Nat.reduceAdd, Nat.reduceSub, Array.replicate_succ, Array.replicate_zero, List.push_toArray, List.append_toArray, List.nil_append, List.cons_append]
  gi_wp2_with (gi_at_call 54; refine (pieces_in _ _ hf1 hro A xs.length c _).mono ?_; rintro e w' ⟨rfl, rfl⟩)
  have hB0 : Below w.heap.size w (((w.alloc (.cells #[.pointer none, .slice none 0 0] 86)).alloc (.cells #[.slice A xs.length c] 36)).alloc (.cells #[.int .i64 3] 3)) := below_alloc (below_alloc (below_alloc (Below.refl _ _) _) _) _
  refine range_pieces (w0 := w) (xs := xs) (B1 := w.heap.size + 1) (B2 := w.heap.size + 2) hro (by omega) rfl hf2 rfl HX.out hl (by omega) (by simp) (by simp) ?atRest (EncI w w) ?i1 ?i2 ?i3 ?i0
    (fun x => { tmps := #[.slice A xs.length c, undef, .string ⟨#[]⟩, .pointer (some ⟨w.heap.size, 0, none⟩), .slice (some x.1.1) x.1.2.length x.1.2.length, undef, undef, undef, undef, undef, .slice A xs.length c, .func (.func 82) #[] #[.pointer (some ⟨w.heap.size + 1, 0, none⟩), .pointer (some ⟨w.heap.size + 2, 0, none⟩)], .slice (some x.1.1) x.1.2.length x.1.2.length,
      undef, undef, undef, undef, undef, undef, undef, undef, undef, undef, undef, undef, undef, undef, undef, undef, undef, undef, undef, undef, undef, undef, undef, undef, undef, undef, undef, undef, undef, undef, undef, undef, undef, undef, undef, undef, undef, undef, undef, undef], defers := [] }) ?assign ?body ?done
  case assign =>
    intro l x W K hK
    unfold encPc
    gi_wp2
    exact hK
  case atRest =>
    exact ⟨A, c, (heap_old _ _ _ (by simp)).trans (heap_new1 _ _ _), heap_new2 _ _ _ _, hc, HR.out⟩
  case i1 => exact fun s W v h => h.box v
  case i2 => exact fun s W l o o' h hl hlo ho => h.putObj (Nat.le_trans hB0.size hl) hlo ho
  case i3 => exact fun s W o h => h.alloc o
  case i0 =>
    refine ⟨?_, hB0, ⟨_, (heap_old _ _ _ (by simp)).trans (heap_new1 _ _ _)⟩, ⟨_, heap_new2 _ _ _ _⟩⟩
    refine isBuilder_kept (isBuilder_kept (Lib.fresh_isBuilder 86 5 w) (fun k c t fz hk _ => heap_old _ _ _ (cells_lt hk))) (fun k c t fz hk _ => heap_old _ _ _ (cells_lt hk))
  case done =>
    rintro D ys W hD hS ⟨hb, hB, _⟩ hK
    rw [hS] at hb
    have hbytes : nums .u8 ((chunks3 xs).map enc3).flatten = Lib.byteCells ((encode xs).map fun x => UInt8.ofNat x.toNat) := nums_bytes _ (encode_bytes xs)
    rw [hbytes] at hb
    have HBF := Aside0.mk (Lib.IsBuilderF.of hb)
    have HB := Aside0.mk hB
    clear hb hbytes
    gi_wp2_with (refine ⟨trivial, ?_⟩; gi_at_call 56; refine (callsIn_wide.2 (Tryd.Builder_String_any_k w.heap.size w.heap.size _ W HBF.out HB.out.size)).mono ?_; rintro e W2 ⟨rfl, _, hb2, hk2⟩)
    have hDb : W.heap[w.heap.size]? ≠ some (.deferred (some [])) := by
      intro h
      rcases HBF.out with ⟨_, v, hv, _⟩ | ⟨_, v, hv, _⟩
      · rw [hv] at h; cases h
      · rw [hv] at h; cases h
    have hK2 : W2.heap[D]? = some (.deferred (some [])) := hk2 D _ hK (fun e => by cases e; exact hDb hK) (fun c fz e => by cases e)
    refine ⟨by simp, .inl ⟨_, _, rfl, run_takeDeferred hK2, ?_⟩⟩
    refine ⟨_, results_tmp rfl _ _ _, ?_, (HB.out.trans hb2).grown (grownBy_putObj' W2 D _) (HB.out.trans hb2).size (fun k e => by cases e; exact Nat.le_trans hB0.size hD)⟩
    rfl
  case body =>
    rintro l pre X W hI hlen
    obtain ⟨a, ha⟩ : ∃ a, X.1.1 = a := ⟨_, rfl⟩
    obtain ⟨p, hpe⟩ : ∃ p, X.1.2 = p := ⟨_, rfl⟩
    have hp := X.2
    have HXE := Aside0.mk hpe
    unfold PieceOk at hp
    rw [ha, hpe] at hp
    rw [ha, hpe]
    obtain ⟨hab, hp1, hp3, hpx⟩ := hp
    have HI := Aside0.mk hI
    have HXS := Aside0.mk HX.out
    obtain ⟨x0, hx0⟩ : ∃ x, p.getD 0 0 = x := ⟨_, rfl⟩
    obtain ⟨x1, hx1⟩ : ∃ x, p.getD 1 0 = x := ⟨_, rfl⟩
    obtain ⟨x2, hx2⟩ : ∃ x, p.getD 2 0 = x := ⟨_, rfl⟩
    obtain ⟨k, hk⟩ : ∃ k, p.length = k := ⟨_, rfl⟩
    have hcp := copy_piece a p k W hk (by rw [← hk]; exact hp1) (by rw [← hk]; exact hp3) (by rw [← hk]; exact Kd.C_below hab hI.2.1) 3
    unfold three at hcp
    rw [hx0, hx1, hx2] at hcp
    have HPB := Aside0.mk (And.intro hab hpx)
    have HL := Aside0.mk hlen
    rw [hk] at hp1 hp3 ⊢
    clear hI hab hpx hlen ha hpe
    have HX0 := Aside0.mk hx0
    have HX1 := Aside0.mk hx1
    have HX2 := Aside0.mk hx2
    have HK := Aside0.mk hk
    clear hx0 hx1 hx2
    gi_wp2
    have hidx : ∃ y0 y1 y2 y3 : Nat, y0 < 64 ∧ y1 < 64 ∧ y2 < 64 ∧ y3 < 64 ∧ x0 / 4 = (y0 : Int) ∧ Go.bits .or .u8 (Go.bits .and .u8 x0 3 * 16 % 256) (x1 / 16) = (y1 : Int) ∧ Go.bits .or .u8 (Go.bits .and .u8 x1 15 * 4 % 256) (x2 / 64) = (y2 : Int) ∧ Go.bits .and .u8 x2 63 = (y3 : Int) ∧ four6 p = [y0, y1, y2, y3] := six_bits p x0 x1 x2 HX0.out HX1.out HX2.out HPB.out.2
    obtain ⟨y0, y1, y2, y3, l0, l1, l2, l3, e0, e1, e2, e3, hf6⟩ := hidx
    rw [e0, e1, e2, e3]
    have HF6 := Aside0.mk hf6
    clear e0 e1 e2 e3 hf6 hcp
    gi_loopw [40] (fun i wr => ∃ k : Nat, k ≤ 4 ∧ i = .int .i64 k ∧ Aside0 (Lib.IsBuilder 86 5 w.heap.size w.heap.size (nums .u8 (((pre.map (·.1.2)).map enc3).flatten ++ (enc3 p).take k)) wr) ∧ Aside0 (Below w.heap.size w wr) ∧ Aside0 (Lib.OthersKept 5 (some w.heap.size) W wr) ∧ Aside0 (W.heap.size ≤ wr.heap.size)) (fun i _ => 4 - (intOf i).toNat)
    case atStart =>
      have h2 := (HI.out.alloc (.cells #[.int .u8 x0, .int .u8 x1, .int .u8 x2] 90)).alloc (.cells #[.agg #[.int .u8 y0, .int .u8 y1, .int .u8 y2, .int .u8 y3]] 92)
      exact ⟨0, by decide, rfl, ⟨by simpa using (HI.out.alloc _).alloc _ |>.1⟩, ⟨((HI.out.alloc _).alloc _).2.1⟩, ⟨((Lib.OthersKept.refl _ _ _).alloc _).alloc _⟩, ⟨by simp; omega⟩⟩
    case round =>
      obtain ⟨i, hi, rfl, HB, HBw, HO, HSZ⟩ := hrel
      by_cases hlt : i < 4
      · obtain ⟨z, hz, hzl, hze⟩ : ∃ z : Nat, [(y0 : Int), y1, y2, y3].getD i 0 = (z : Int) ∧ z < 64 ∧ (four6 p).getD i 0 = z := by
          rw [HF6.out]
          have h : i = 0 ∨ i = 1 ∨ i = 2 ∨ i = 3 := by omega
          rcases h with rfl | rfl | rfl | rfl
          · exact ⟨y0, rfl, l0, rfl⟩
          · exact ⟨y1, rfl, l1, rfl⟩
          · exact ⟨y2, rfl, l2, rfl⟩
          · exact ⟨y3, rfl, l3, rfl⟩
        have hix := four_ix y0 y1 y2 y3 i hlt
        rw [hz] at hix
        have hsg := sign_ix z hzl
        have HZ := Aside0.mk hze
        have HLT := Aside0.mk hlt
        clear hz hze
        have hsz : (nums .u8 (((pre.map (·.1.2)).map enc3).flatten ++ (enc3 p).take i)).length + 1 ≤ 140737488355328 := by
          rw [nums_length, List.length_append, List.length_take, enc_len, List.length_map]
          have := pre_len pre
          have := HL.out
          omega
        have N1 : ∀ W', Below w.heap.size w W' → Lib.IsBuilder 86 5 w.heap.size w.heap.size (nums .u8 (((pre.map (·.1.2)).map enc3).flatten ++ (enc3 p).take i)) W' → _ := fun W' h1 h2 => fun c => writeByte_any w.heap.size w.heap.size _ c W' h2 hsz h1.size
        by_cases hgt : k < i
        · gi_wp2
          refine ⟨trivial, fun _ => by omega, ?_⟩
          refine (CallsIn.inRound l (callsIn_wide.2 (N1 _ HBw.out HB.out (61)))).mono ?_
          rintro e w1 ⟨rfl, hb1, hB1, hO1⟩
          have HB1 := Aside0.mk hb1
          have HB2 := Aside0.mk (HBw.out.trans hB1)
          have HO1 := Aside0.mk hO1
          have HS1 := Aside0.mk hB1.size
          clear hb1 hB1 hO1
          gi_wp2
          go_roundw
          case rel =>
            refine ⟨i + 1, by omega, by go_num, ⟨?_⟩, HB2, ⟨HO.out.trans HO1.out⟩, ⟨Nat.le_trans HSZ.out HS1.out⟩⟩
            rw [enc3_take p i HLT.out, ← List.append_assoc, nums_append]
            have e : encAt p i = 61 := by unfold encAt; rw [HK.out]; exact if_pos hgt
            rw [e]
            exact .inr HB1.out
          case measure => simp [intOf]; omega
        · gi_wp2
          refine ⟨trivial, fun _ => by omega, ?_⟩
          refine (CallsIn.inRound l (callsIn_wide.2 (N1 _ HBw.out HB.out (sgn z)))).mono ?_
          rintro e w1 ⟨rfl, hb1, hB1, hO1⟩
          have HB1 := Aside0.mk hb1
          have HB2 := Aside0.mk (HBw.out.trans hB1)
          have HO1 := Aside0.mk hO1
          have HS1 := Aside0.mk hB1.size
          clear hb1 hB1 hO1
          gi_wp2
          go_roundw
          case rel =>
            refine ⟨i + 1, by omega, by go_num, ⟨?_⟩, HB2, ⟨HO.out.trans HO1.out⟩, ⟨Nat.le_trans HSZ.out HS1.out⟩⟩
            rw [enc3_take p i HLT.out, ← List.append_assoc, nums_append]
            have e : encAt p i = sgn z := by unfold encAt; rw [HK.out, if_neg (by omega), HZ.out]
            rw [e]
            exact .inr HB1.out
          case measure => simp [intOf]; omega
      · have hie : i = 4 := by omega
        subst hie
        gi_wp2
        have h0 := HI.out
        obtain ⟨q1, q2, ⟨v, q3⟩, ⟨u, q4⟩⟩ := h0
        have r3 := HO.out _ _ q3 (fun e => by have := Option.some.inj e; omega) (fun c fz e => by cases e)
        have r4 := HO.out _ _ q4 (fun e => by have := Option.some.inj e; omega) (fun c fz e => by cases e)
        refine ⟨keepsOthers_of HSZ.out HO.out ?_, ⟨r3.trans q3.symm, r4.trans q4.symm⟩, ?_, HBw.out, ⟨v, r3⟩, ⟨u, r4⟩⟩
        · intro o ho
          rcases q1 with ⟨_, v, hv, _⟩ | ⟨_, v, hv, _⟩
          · rw [hv] at ho; cases ho; rfl
          · rw [hv] at ho; cases ho; rfl
        · have := HB.out
          rw [enc3_all] at this
          rw [List.map_append, List.map_append, List.flatten_append]
          simp only [List.map_cons, List.map_nil, List.flatten_cons, List.flatten_nil, List.append_nil]
          rw [HXE.out]
          exact this
/-- basic.Encode. -/
theorem Encode_any (A : Option Addr) (c : Nat) (xs : List Int) (w : World) (hr : Kd.C (Kd.int .u8) w A xs.length xs) (hc : xs.length ≤ c) (hx : isBytes xs) (hl : xs.length ≤ 1000000) :
    Calls Tryd.prog 21 #[.slice A xs.length c] w fun e w' => e = .returned (.string (strOfNums (encode xs))) ∧ Below w.heap.size w w' :=
  callsIn_wide.1 (encode_in 6 (Nat.le_refl _) A c xs w hr hc hx hl)
end Go.Proofs.YteajidciahoboaaDoor.H
-- P1
set_option linter.unusedVariables false
set_option linter.unusedSimpArgs false
namespace Go.Proofs.YteajidciahoboaaDoor.H
open Go.RowKit Go.Shelf Go.Proofs.YteajidciahoboaaDoorW.PrintWords Go.Proofs.YteajidciahoboaaDoorW.PrintLast Go.Proofs.YteajidciahoboaaDoorW.PrintMore Go.Proofs.YteajidciahoboaaDoor.M

/-- With rounds enough it answers so. -/
def Ev {α : Type} (f : Nat → Option α) (r : α) : Prop := ∃ K, ∀ k, K ≤ k → f k = some r
theorem Ev.step {α : Type} {f g : Nat → Option α} {r : α} (h : ∀ k, f (k + 1) = g k) (hg : Ev g r) : Ev f r := by
  obtain ⟨K, hK⟩ := hg
  refine ⟨K + 1, fun k hk => ?_⟩
  obtain ⟨j, rfl⟩ : ∃ j, k = j + 1 := ⟨k - 1, by omega⟩
  rw [h, hK j (by omega)]
theorem Ev.now {α : Type} {f : Nat → Option α} {r : α} (h : ∀ k, f (k + 1) = some r) : Ev f r := Ev.step (g := fun _ => some r) h ⟨0, fun _ _ => rfl⟩
theorem Ev.const {α : Type} (r : α) : Ev (fun _ => some r) r := ⟨0, fun _ _ => rfl⟩
theorem Ev.eq {α : Type} {f g : Nat → Option α} {r : α} (hg : Ev g r) (h : ∀ k, f k = g k) : Ev f r := by
  obtain ⟨K, hK⟩ := hg
  exact ⟨K, fun k hk => by rw [h, hK k hk]⟩
theorem Ev.bind {α β : Type} {f : Nat → Option α} {g : Nat → α → Option β} {a : α} {r : β} (hf : Ev f a) (hg : Ev (fun k => g k a) r) : Ev (fun k => (f k).bind (g k)) r := by
  obtain ⟨K, hK⟩ := hf
  obtain ⟨L, hL⟩ := hg
  exact ⟨K + L, fun k hk => by simp only [hK k (by omega), Option.bind_some]; exact hL k (by omega)⟩
theorem Ev.get {α : Type} {f : Nat → Option α} {r : α} (h : Ev f r) : ∃ k, f k = some r := by obtain ⟨K, hK⟩ := h; exact ⟨K, hK K (Nat.le_refl _)⟩

theorem Ev.stepB {α β : Type} {f : Nat → Option β} {h : Nat → Option α} {g : Nat → α → Option β} {a : α} {r : β} (hh : Ev h a) (e : ∀ k, f (k + 1) = (h k).bind (g k)) (hg : Ev (fun k => g k a) r) : Ev f r := Ev.step e (Ev.bind hh hg)
theorem strOfNums_append (a b : List Int) : strOfNums (a ++ b) = strOfNums a ++ strOfNums b := by
  apply ByteArray.ext
  simp [strOfNums, ByteArray.data_append]
theorem strOfNums_size (a : List Int) : (strOfNums a).size = a.length := by simp [strOfNums, ByteArray.size]
theorem w64 {n : Int} (h : -9223372036854775808 ≤ n) (h2 : n < 9223372036854775808) : wrap64 n = n := by unfold wrap64; omega

end Go.Proofs.YteajidciahoboaaDoor.H
-- PzstringsliteHasSuffix
-- PRINTED by print.py (a twelfth state) out of the translation. Not trusted: Lean checks it.
namespace Go.Proofs.YteajidciahoboaaDoor.P
open Go.RowKit Go.Proofs.YteajidciahoboaaDoorW.PrintWords Go.Proofs.YteajidciahoboaaDoorW.PrintLast Go.Proofs.YteajidciahoboaaDoorW.PrintMore
attribute [local go_sem] max2_int min2_int max_two min_two max_three min_three max_four min_four   -- for this text's walks alone
set_option linter.unusedVariables false
set_option linter.unusedSimpArgs false

/-! ### stringslite_HasSuffix: function 85 -/
def stringslite_HasSuffix.f (a0 : ByteArray) (a1 : ByteArray) : Option (Bool) := if (a0.size : Int) ≥ (a1.size : Int) then (if 0 ≤ (wrap64 ((a0.size : Int) - (a1.size : Int))) then (if (wrap64 ((a0.size : Int) - (a1.size : Int))) ≤ (a0.size : Int) then (some ((a0.extract ((wrap64 ((a0.size : Int) - (a1.size : Int))) : Int).toNat a0.size).toList == a1.toList)) else (none)) else (none)) else (some false)
set_option maxHeartbeats 8000000 in
set_option maxRecDepth 100000 in
theorem stringslite_HasSuffix.calls (a0 : ByteArray) (a1 : ByteArray) (r : Bool) (w : World) (h : stringslite_HasSuffix.f a0 a1 = some r) :
    Calls Tryd.prog 85 #[.string a0, .string a1] w fun e w' => e = .returned (.bool r) ∧ Drawn0 w w' := by
  have H : (if (a0.size : Int) ≥ (a1.size : Int) then (if 0 ≤ (wrap64 ((a0.size : Int) - (a1.size : Int))) then (if (wrap64 ((a0.size : Int) - (a1.size : Int))) ≤ (a0.size : Int) then (some ((a0.extract ((wrap64 ((a0.size : Int) - (a1.size : Int))) : Int).toNat a0.size).toList == a1.toList)) else (none)) else (none)) else (some false)) = some r := h
  clear h
  by_cases c3 : (a0.size : Int) ≥ (a1.size : Int)
  · rw [if_pos c3] at H
    have c3b0 : decide ((a1.size : Int) ≤ (a0.size : Int)) = true := decide_eq_true c3
    have c3b1 : decide (a1.size ≤ a0.size) = true := decide_eq_true (Int.ofNat_le.mp c3)
    clear c3
    obtain ⟨ji4, hji4⟩ : ∃ j_ : Int, (wrap64 ((a0.size : Int) - (a1.size : Int))) = j_ := ⟨_, rfl⟩
    replace H : (if 0 ≤ (ji4) then (if (ji4) ≤ (a0.size : Int) then (some ((a0.extract ((ji4) : Int).toNat a0.size).toList == a1.toList)) else (none)) else (none)) = some r := by first | (rw [hji4] at H; exact H) | (simp only [hji4] at H ⊢; exact H)
    have hji4w : (IntKind.i64.wrap ((a0.size : Int) - (a1.size : Int))) = ji4 := (i64_w _).trans hji4
    by_cases c5 : 0 ≤ (ji4)
    · rw [if_pos c5] at H
      have c5b0 := eq_true c5
      have c5b1 : decide (0 ≤ (ji4)) = true := decide_eq_true c5
      clear c5
      by_cases c6 : (ji4) ≤ (a0.size : Int)
      · rw [if_pos c6] at H
        have c6b0 := eq_true c6
        have c6b1 : decide ((ji4) ≤ (a0.size : Int)) = true := decide_eq_true c6
        clear c6
        obtain rfl := Option.some.inj H
        go_enter Tryd.func85, Tryd.ntmps85
        go_wp2
        go_ret
        exact ⟨by first | rfl | (simp; done) | (simp only [← hji4] <;> (first | rfl | simp)) | (simp [*]; done), by repeat (first | exact Drawn0.refl _ | apply Drawn0.step)⟩
      · rw [if_neg c6] at H
        exact absurd H (by simp)
    · rw [if_neg c5] at H
      exact absurd H (by simp)
  · rw [if_neg c3] at H
    have c3b0 : decide ((a1.size : Int) ≤ (a0.size : Int)) = false := decide_eq_false c3
    have c3b1 : decide (a1.size ≤ a0.size) = false := decide_eq_false (fun h => c3 (Int.ofNat_le.mpr h))
    clear c3
    obtain rfl := Option.some.inj H
    go_enter Tryd.func85, Tryd.ntmps85
    go_wp2
    go_ret
    exact ⟨by first | rfl | (simp; done) | (simp [*]; done), by repeat (first | exact Drawn0.refl _ | apply Drawn0.step)⟩

end Go.Proofs.YteajidciahoboaaDoor.P
-- PzstringsliteTrimSuffix
-- PRINTED by print.py (a twelfth state) out of the translation. Not trusted: Lean checks it.
namespace Go.Proofs.YteajidciahoboaaDoor.P
open Go.RowKit Go.Proofs.YteajidciahoboaaDoorW.PrintWords Go.Proofs.YteajidciahoboaaDoorW.PrintLast Go.Proofs.YteajidciahoboaaDoorW.PrintMore
attribute [local go_sem] max2_int min2_int max_two min_two max_three min_three max_four min_four   -- for this text's walks alone
set_option linter.unusedVariables false
set_option linter.unusedSimpArgs false

/-! ### stringslite_TrimSuffix: function 84 -/
def stringslite_TrimSuffix.f (a0 : ByteArray) (a1 : ByteArray) : Option (ByteArray) := (stringslite_HasSuffix.f a0 a1).bind fun t194 => (if t194 = true then (if 0 ≤ (wrap64 ((a0.size : Int) - (a1.size : Int))) then (if (wrap64 ((a0.size : Int) - (a1.size : Int))) ≤ (a0.size : Int) then (some (a0.extract 0 ((wrap64 ((a0.size : Int) - (a1.size : Int))) : Int).toNat)) else (none)) else (none)) else (some a0))
set_option maxHeartbeats 8000000 in
set_option maxRecDepth 100000 in
theorem stringslite_TrimSuffix.calls (a0 : ByteArray) (a1 : ByteArray) (r : ByteArray) (w : World) (h : stringslite_TrimSuffix.f a0 a1 = some r) :
    Calls Tryd.prog 84 #[.string a0, .string a1] w fun e w' => e = .returned (.string r) ∧ Drawn0 w w' := by
  have H : ((stringslite_HasSuffix.f a0 a1).bind fun t194 => (if t194 = true then (if 0 ≤ (wrap64 ((a0.size : Int) - (a1.size : Int))) then (if (wrap64 ((a0.size : Int) - (a1.size : Int))) ≤ (a0.size : Int) then (some (a0.extract 0 ((wrap64 ((a0.size : Int) - (a1.size : Int))) : Int).toNat)) else (none)) else (none)) else (some a0))) = some r := h
  clear h
  replace H := Option.bind_eq_some_iff.mp H
  obtain ⟨t194, A30, H⟩ := H
  replace H : (if t194 = true then (if 0 ≤ (wrap64 ((a0.size : Int) - (a1.size : Int))) then (if (wrap64 ((a0.size : Int) - (a1.size : Int))) ≤ (a0.size : Int) then (some (a0.extract 0 ((wrap64 ((a0.size : Int) - (a1.size : Int))) : Int).toNat)) else (none)) else (none)) else (some a0)) = some r := H
  have A3 := Aside0.mk A30
  clear A30
  by_cases c4 : t194 = true
  · subst c4
    have H1 : (if 0 ≤ (wrap64 ((a0.size : Int) - (a1.size : Int))) then (if (wrap64 ((a0.size : Int) - (a1.size : Int))) ≤ (a0.size : Int) then (some (a0.extract 0 ((wrap64 ((a0.size : Int) - (a1.size : Int))) : Int).toNat)) else (none)) else (none)) = some r := by rw [if_pos rfl] at H; exact H
    clear H
    have H := H1
    clear H1
    obtain ⟨ji5, hji5⟩ : ∃ j_ : Int, (wrap64 ((a0.size : Int) - (a1.size : Int))) = j_ := ⟨_, rfl⟩
    replace H : (if 0 ≤ (ji5) then (if (ji5) ≤ (a0.size : Int) then (some (a0.extract 0 ((ji5) : Int).toNat)) else (none)) else (none)) = some r := by first | (rw [hji5] at H; exact H) | (simp only [hji5] at H ⊢; exact H)
    (try rw [hji5] at A3)
    have hji5w : (IntKind.i64.wrap ((a0.size : Int) - (a1.size : Int))) = ji5 := (i64_w _).trans hji5
    by_cases c6 : 0 ≤ (ji5)
    · rw [if_pos c6] at H
      have c6b0 := eq_true c6
      have c6b1 : decide (0 ≤ (ji5)) = true := decide_eq_true c6
      clear c6
      by_cases c7 : (ji5) ≤ (a0.size : Int)
      · rw [if_pos c7] at H
        have c7b0 := eq_true c7
        have c7b1 : decide ((ji5) ≤ (a0.size : Int)) = true := decide_eq_true c7
        clear c7
        obtain rfl := Option.some.inj H
        go_enter Tryd.func84, Tryd.ntmps84
        go_wp2_with (first | ((with_reducible refine gate_callee (f := 85) rfl ?_); refine goesL_ (some 7) rfl rfl Tryd.func85 (by kernel_rfl) rfl #[.string a0, .string a1] rfl (by (try simp only [List.map_toArray, List.map_cons, List.map_nil]); first | done | rfl | (simp only [List.length_drop, List.length_take]; rfl)) ?_; (with_reducible refine (stringslite_HasSuffix.calls a0 a1 true _ A3.out).mono ?_); rintro e w' ⟨rfl, ⟨nd, rfl⟩⟩; refine ⟨_, rfl, ?_⟩))
        go_ret
        exact ⟨by first | rfl | (simp; done) | (simp only [← hji5] <;> (first | rfl | simp)) | (simp [*]; done), by repeat (first | exact Drawn0.refl _ | apply Drawn0.step)⟩
      · rw [if_neg c7] at H
        exact absurd H (by simp)
    · rw [if_neg c6] at H
      exact absurd H (by simp)
  · replace c4 := Bool.eq_false_iff.mpr c4
    subst c4
    have H1 : (some a0) = some r := by rw [if_neg (show ¬ (false = true) by decide)] at H; exact H
    clear H
    have H := H1
    clear H1
    obtain rfl := Option.some.inj H
    go_enter Tryd.func84, Tryd.ntmps84
    go_wp2_with (first | ((with_reducible refine gate_callee (f := 85) rfl ?_); refine goesL_ (some 7) rfl rfl Tryd.func85 (by kernel_rfl) rfl #[.string a0, .string a1] rfl (by (try simp only [List.map_toArray, List.map_cons, List.map_nil]); first | done | rfl | (simp only [List.length_drop, List.length_take]; rfl)) ?_; (with_reducible refine (stringslite_HasSuffix.calls a0 a1 false _ A3.out).mono ?_); rintro e w' ⟨rfl, ⟨nd, rfl⟩⟩; refine ⟨_, rfl, ?_⟩))
    go_ret
    exact ⟨by first | rfl | (simp; done) | (simp [*]; done), by repeat (first | exact Drawn0.refl _ | apply Drawn0.step)⟩

end Go.Proofs.YteajidciahoboaaDoor.P
