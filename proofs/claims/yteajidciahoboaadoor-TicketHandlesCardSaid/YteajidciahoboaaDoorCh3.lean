import Derived.Test.YteajidciahoboaaDoorCh1
import Derived.Test.YteajidciahoboaaDoorCh2
import Derived.Laws.StructEq
-- Pzracewayref22at
-- PRINTED by print.py (a twelfth state) out of the translation. Not trusted: Lean checks it.
namespace Go.Proofs.YteajidciahoboaaDoor.P
open Go.RowKit Go.Proofs.YteajidciahoboaaDoorW.PrintWords Go.Proofs.YteajidciahoboaaDoorW.PrintLast Go.Proofs.YteajidciahoboaaDoorW.PrintMore
attribute [local go_sem] max2_int min2_int max_two min_two max_three min_three max_four min_four   -- for this text's walks alone
set_option linter.unusedVariables false
set_option linter.unusedSimpArgs false

/-! ### racewayref22_at: function 63 -/
def racewayref22_at.l0 : Nat → ByteArray → Int → Int → Option (Int)
  | 0, _, _, _ => none
  | k + 1, x0, x1, x5 => if x5 < (x0.size : Int) then (if 0 ≤ x5 then (if (bt x0 x5) = x1 then (some x5) else (racewayref22_at.l0 k x0 x1 (wrap64 (x5 + 1)))) else (none)) else (some (-1))
def racewayref22_at.f (k : Nat) (a0 : ByteArray) (a1 : Int) : Option (Int) := racewayref22_at.l0 k a0 a1 0
theorem racewayref22_at.mono_l : ∀ k, (∀ y0 y1 y2, LeO (racewayref22_at.l0 k y0 y1 y2) (racewayref22_at.l0 (k + 1) y0 y1 y2))
  | 0 => fun _ _ _ r h => by simp [racewayref22_at.l0] at h
  | k + 1 => by
    have ih0 := racewayref22_at.mono_l k
    · intro y0 y1 y2
      unfold racewayref22_at.l0
      repeat' first
      | (with_reducible exact ih0 _ _ _)
      | (with_reducible exact LeO.refl _)
      | (with_reducible exact LeO.none _)
      | (with_reducible refine LeO.ite ?_ ?_)
      | (with_reducible refine LeO.bind ?_ (fun _ => ?_))
      | exact ih0 _ _ _
      | exact LeO.none _
      | refine LeO.ite ?_ ?_
      | refine LeO.bind ?_ (fun _ => ?_)
theorem racewayref22_at.mono : ∀ a0 a1 k, LeO (racewayref22_at.f k a0 a1) (racewayref22_at.f (k + 1) a0 a1) := by
  intro a0 a1 k
  have ih0 := racewayref22_at.mono_l k
  unfold racewayref22_at.f
  repeat' first
      | (with_reducible exact ih0 _ _ _)
      | (with_reducible exact LeO.refl _)
      | (with_reducible exact LeO.none _)
      | (with_reducible refine LeO.ite ?_ ?_)
      | (with_reducible refine LeO.bind ?_ (fun _ => ?_))
      | exact ih0 _ _ _
      | exact LeO.none _
      | refine LeO.ite ?_ ?_
      | refine LeO.bind ?_ (fun _ => ?_)
set_option maxHeartbeats 8000000 in
set_option maxRecDepth 100000 in
theorem racewayref22_at.calls (k : Nat) (a0 : ByteArray) (a1 : Int) (r : Int) (w : World) (h : racewayref22_at.f k a0 a1 = some r) :
    Calls Tryd.prog 63 #[.string a0, .int .u8 a1] w fun e w' => e = .returned (.int .i64 r) ∧ Drawn0 w w' := by
  have H : (racewayref22_at.l0 k a0 a1 0) = some r := h
  clear h
  have H' := Aside0.mk H
  clear H
  go_enter Tryd.func63, Tryd.ntmps63
  go_wp2
  go_loopg [5] k (fun kq v5 w' => ∃ (x5_1 : Int), v5 = .int .i64 x5_1 ∧ Aside0 (racewayref22_at.l0 kq a0 a1 x5_1 = some r) ∧ Aside0 (kq ≤ k) ∧ Drawn0 w w')
  case atStart => exact ⟨(0), (by first | rfl | (simp; done) | (simp [*]; done)), H', ⟨Nat.le_refl _⟩, by repeat (first | exact Drawn0.refl _ | apply Drawn0.step)⟩
  case round =>
    clear H'
    try clear p2
    obtain ⟨x5_1, rfl, HA, HK1, ⟨m1, rfl⟩⟩ := hrel
    cases gk with
    | zero => exact absurd HA.out (by simp [racewayref22_at.l0])
    | succ k1 =>
      have H := HA.out
      clear HA
      simp only [racewayref22_at.l0] at H
      by_cases c3 : x5_1 < (a0.size : Int)
      · rw [if_pos c3] at H
        have c3b0 : decide (x5_1 < (a0.size : Int)) = true := decide_eq_true c3
        clear c3
        by_cases c4 : 0 ≤ x5_1
        · rw [if_pos c4] at H
          have c4b0 : decide (0 ≤ x5_1) = true := decide_eq_true c4
          clear c4
          by_cases c6 : (bt a0 x5_1) = a1
          · rw [if_pos c6] at H
            have c6b0 : ((bt a0 x5_1) == a1) = true := beq_iff_eq.mpr c6
            have c6b1 : ((bt a0 x5_1) != a1) = false := bne_eq_false_iff_eq.mpr c6
            clear c6
            obtain rfl := Option.some.inj H
            have p5 : 0 ≤ (x5_1 : Int) := of_decide_eq_true (by first | (with_reducible assumption) | assumption)
            have q5 : x5_1 < (a0.size : Int) := of_decide_eq_true (by first | (with_reducible assumption) | assumption)
            have hx5 := bt_at a0 x5_1
            replace p5 := eq_true p5
            replace q5 := eq_true q5
            go_wp2
            go_ret
            exact ⟨by first | rfl | (simp; done) | (simp [*]; done), by repeat (first | exact Drawn0.refl _ | apply Drawn0.step)⟩
          · rw [if_neg c6] at H
            have c6b0 : ((bt a0 x5_1) == a1) = false := beq_eq_false_iff_ne.mpr c6
            have c6b1 : ((bt a0 x5_1) != a1) = true := bne_iff_ne.mpr c6
            have H' := Aside0.mk H
            clear H
            have p5 : 0 ≤ (x5_1 : Int) := of_decide_eq_true (by first | (with_reducible assumption) | assumption)
            have q5 : x5_1 < (a0.size : Int) := of_decide_eq_true (by first | (with_reducible assumption) | assumption)
            have hx5 := bt_at a0 x5_1
            replace p5 := eq_true p5
            replace q5 := eq_true q5
            go_wp2
            go_roundg k1
            case measure => have := HK1.out; omega
            case rel => exact ⟨(wrap64 (x5_1 + 1)), (by first | rfl | (simp; done) | (simp [*]; done)), H', ⟨by have := HK1.out; omega⟩, by repeat (first | exact Drawn0.refl _ | apply Drawn0.step)⟩
        · rw [if_neg c4] at H
          exact absurd H (by simp)
      · rw [if_neg c3] at H
        have c3b0 : decide (x5_1 < (a0.size : Int)) = false := decide_eq_false c3
        clear c3
        obtain rfl := Option.some.inj H
        go_wp2
        go_ret
        exact ⟨by first | rfl | (simp; done) | (simp [*]; done), by repeat (first | exact Drawn0.refl _ | apply Drawn0.step)⟩

end Go.Proofs.YteajidciahoboaaDoor.P
-- Pzracewayref22Decode
-- PRINTED by print.py (a twelfth state) out of the translation. Not trusted: Lean checks it.
namespace Go.Proofs.YteajidciahoboaaDoor.P
open Go.RowKit Go.Proofs.YteajidciahoboaaDoorW.PrintWords Go.Proofs.YteajidciahoboaaDoorW.PrintLast Go.Proofs.YteajidciahoboaaDoorW.PrintMore
attribute [local go_sem] max2_int min2_int max_two min_two max_three min_three max_four min_four   -- for this text's walks alone
set_option linter.unusedVariables false
set_option linter.unusedSimpArgs false

/-! ### racewayref22_Decode: function 32 -/
mutual
def racewayref22_Decode.j1 : Nat → ByteArray → List Int → Int → Option (List Int × Int)
  | 0, _, _, _ => none
  | k + 1, x0, x4, x5 => racewayref22_Decode.l1 k x0 x4 x5 0
def racewayref22_Decode.l1 : Nat → ByteArray → List Int → Int → Int → Option (List Int × Int)
  | 0, _, _, _, _ => none
  | k + 1, x0, x4, x5, x6 => if x6 < x5 then (if 0 ≤ x6 then (if x6 < (x0.size : Int) then ((racewayref22_at.f k (⟨#[65, 66, 67, 68, 69, 70, 71, 72, 73, 74, 75, 76, 77, 78, 79, 80, 81, 82, 83, 84, 85, 86, 87, 88, 89, 90, 97, 98, 99, 100, 101, 102, 103, 104, 105, 106, 107, 108, 109, 110, 111, 112, 113, 114, 115, 116, 117, 118, 119, 120, 121, 122, 48, 49, 50, 51, 52, 53, 54, 55, 56, 57, 43, 47]⟩ : ByteArray) (bt x0 x6)).bind fun t237 => (if t237 < 0 then (some (([] : List Int), 5)) else (racewayref22_Decode.l2 k x0 x4 x5 x6 t237 32))) else (none)) else (none)) else (racewayref22_Decode.l3 k x0 x4 ([] : List Int) 0)
def racewayref22_Decode.l2 : Nat → ByteArray → List Int → Int → Int → Int → Int → Option (List Int × Int)
  | 0, _, _, _, _, _, _ => none
  | k + 1, x0, x4, x5, x6, x7, x8 => if x8 > 0 then (if x8 = 0 then (none) else (if x4.length < 17592186044416 then (racewayref22_Decode.l2 k x0 (x4 ++ [Int.tmod (wrap64 (Int.tdiv x7 x8)) 2]) x5 x6 x7 (wrap64 (Int.tdiv x8 2))) else (none))) else (racewayref22_Decode.l1 k x0 x4 x5 (wrap64 (x6 + 1)))
def racewayref22_Decode.l3 : Nat → ByteArray → List Int → List Int → Int → Option (List Int × Int)
  | 0, _, _, _, _ => none
  | k + 1, x0, x4, x9, x10 => if (wrap64 (x10 + 8)) ≤ (x4.length : Int) then (racewayref22_Decode.l4 k x0 x4 x9 x10 0 0) else ((racewayref22_Encode.f k x9).bind fun t241 => (if t241.toList = x0.toList then (some (x9, 0)) else (some (([] : List Int), 5))))
def racewayref22_Decode.l4 : Nat → ByteArray → List Int → List Int → Int → Int → Int → Option (List Int × Int)
  | 0, _, _, _, _, _, _ => none
  | k + 1, x0, x4, x9, x10, x11, x12 => if x12 < 8 then (if 0 ≤ (wrap64 (x10 + x12)) then (if (wrap64 (x10 + x12)) < (x4.length : Int) then (racewayref22_Decode.l4 k x0 x4 x9 x10 (wrap64 ((wrap64 (2 * x11)) + (rd x4 (wrap64 (x10 + x12))))) (wrap64 (x12 + 1))) else (none)) else (none)) else (if x9.length < 140737488355328 then (racewayref22_Decode.l3 k x0 x4 (x9 ++ [(x11) % 256]) (wrap64 (x10 + 8))) else (none))
def racewayref22_Decode.l0 : Nat → ByteArray → Int → Option (List Int × Int)
  | 0, _, _ => none
  | k + 1, x0, x5 => if x5 > 0 then (if 0 ≤ (wrap64 (x5 - 1)) then (if (wrap64 (x5 - 1)) < (x0.size : Int) then (if (bt x0 (wrap64 (x5 - 1))) = 61 then (racewayref22_Decode.l0 k x0 (wrap64 (x5 - 1))) else (racewayref22_Decode.j1 k x0 ([] : List Int) x5)) else (none)) else (none)) else (racewayref22_Decode.j1 k x0 ([] : List Int) x5)
end
def racewayref22_Decode.f (k : Nat) (a0 : ByteArray) : Option (List Int × Int) := if (a0.size : Int) > 131072 then (some (([] : List Int), 3)) else (racewayref22_Decode.l0 k a0 (a0.size : Int))
theorem racewayref22_Decode.mono_l : ∀ k, (∀ y0 y1 y2, LeO (racewayref22_Decode.j1 k y0 y1 y2) (racewayref22_Decode.j1 (k + 1) y0 y1 y2)) ∧ (∀ y0 y1 y2 y3, LeO (racewayref22_Decode.l1 k y0 y1 y2 y3) (racewayref22_Decode.l1 (k + 1) y0 y1 y2 y3)) ∧ (∀ y0 y1 y2 y3 y4 y5, LeO (racewayref22_Decode.l2 k y0 y1 y2 y3 y4 y5) (racewayref22_Decode.l2 (k + 1) y0 y1 y2 y3 y4 y5)) ∧ (∀ y0 y1 y2 y3, LeO (racewayref22_Decode.l3 k y0 y1 y2 y3) (racewayref22_Decode.l3 (k + 1) y0 y1 y2 y3)) ∧ (∀ y0 y1 y2 y3 y4 y5, LeO (racewayref22_Decode.l4 k y0 y1 y2 y3 y4 y5) (racewayref22_Decode.l4 (k + 1) y0 y1 y2 y3 y4 y5)) ∧ (∀ y0 y1, LeO (racewayref22_Decode.l0 k y0 y1) (racewayref22_Decode.l0 (k + 1) y0 y1))
  | 0 => ⟨fun _ _ _ r h => by simp [racewayref22_Decode.j1] at h, fun _ _ _ _ r h => by simp [racewayref22_Decode.l1] at h, fun _ _ _ _ _ _ r h => by simp [racewayref22_Decode.l2] at h, fun _ _ _ _ r h => by simp [racewayref22_Decode.l3] at h, fun _ _ _ _ _ _ r h => by simp [racewayref22_Decode.l4] at h, fun _ _ r h => by simp [racewayref22_Decode.l0] at h⟩
  | k + 1 => by
    obtain ⟨ih0, ih1, ih2, ih3, ih4, ih5⟩ := racewayref22_Decode.mono_l k
    refine ⟨?_, ?_, ?_, ?_, ?_, ?_⟩
    · intro y0 y1 y2
      unfold racewayref22_Decode.j1
      repeat' first
      | (with_reducible exact ih0 _ _ _)
      | (with_reducible exact ih1 _ _ _ _)
      | (with_reducible exact ih2 _ _ _ _ _ _)
      | (with_reducible exact ih3 _ _ _ _)
      | (with_reducible exact ih4 _ _ _ _ _ _)
      | (with_reducible exact ih5 _ _)
      | (with_reducible exact racewayref22_Encode.mono _ _)
      | (with_reducible exact racewayref22_at.mono _ _ _)
      | (with_reducible exact LeO.refl _)
      | (with_reducible exact LeO.none _)
      | (with_reducible refine LeO.ite ?_ ?_)
      | (with_reducible refine LeO.bind ?_ (fun _ => ?_))
      | exact ih0 _ _ _
      | exact ih1 _ _ _ _
      | exact ih2 _ _ _ _ _ _
      | exact ih3 _ _ _ _
      | exact ih4 _ _ _ _ _ _
      | exact ih5 _ _
      | exact racewayref22_Encode.mono _ _
      | exact racewayref22_at.mono _ _ _
      | exact LeO.none _
      | refine LeO.ite ?_ ?_
      | refine LeO.bind ?_ (fun _ => ?_)
    · intro y0 y1 y2 y3
      unfold racewayref22_Decode.l1
      repeat' first
      | (with_reducible exact ih0 _ _ _)
      | (with_reducible exact ih1 _ _ _ _)
      | (with_reducible exact ih2 _ _ _ _ _ _)
      | (with_reducible exact ih3 _ _ _ _)
      | (with_reducible exact ih4 _ _ _ _ _ _)
      | (with_reducible exact ih5 _ _)
      | (with_reducible exact racewayref22_Encode.mono _ _)
      | (with_reducible exact racewayref22_at.mono _ _ _)
      | (with_reducible exact LeO.refl _)
      | (with_reducible exact LeO.none _)
      | (with_reducible refine LeO.ite ?_ ?_)
      | (with_reducible refine LeO.bind ?_ (fun _ => ?_))
      | exact ih0 _ _ _
      | exact ih1 _ _ _ _
      | exact ih2 _ _ _ _ _ _
      | exact ih3 _ _ _ _
      | exact ih4 _ _ _ _ _ _
      | exact ih5 _ _
      | exact racewayref22_Encode.mono _ _
      | exact racewayref22_at.mono _ _ _
      | exact LeO.none _
      | refine LeO.ite ?_ ?_
      | refine LeO.bind ?_ (fun _ => ?_)
    · intro y0 y1 y2 y3 y4 y5
      unfold racewayref22_Decode.l2
      repeat' first
      | (with_reducible exact ih0 _ _ _)
      | (with_reducible exact ih1 _ _ _ _)
      | (with_reducible exact ih2 _ _ _ _ _ _)
      | (with_reducible exact ih3 _ _ _ _)
      | (with_reducible exact ih4 _ _ _ _ _ _)
      | (with_reducible exact ih5 _ _)
      | (with_reducible exact racewayref22_Encode.mono _ _)
      | (with_reducible exact racewayref22_at.mono _ _ _)
      | (with_reducible exact LeO.refl _)
      | (with_reducible exact LeO.none _)
      | (with_reducible refine LeO.ite ?_ ?_)
      | (with_reducible refine LeO.bind ?_ (fun _ => ?_))
      | exact ih0 _ _ _
      | exact ih1 _ _ _ _
      | exact ih2 _ _ _ _ _ _
      | exact ih3 _ _ _ _
      | exact ih4 _ _ _ _ _ _
      | exact ih5 _ _
      | exact racewayref22_Encode.mono _ _
      | exact racewayref22_at.mono _ _ _
      | exact LeO.none _
      | refine LeO.ite ?_ ?_
      | refine LeO.bind ?_ (fun _ => ?_)
    · intro y0 y1 y2 y3
      unfold racewayref22_Decode.l3
      repeat' first
      | (with_reducible exact ih0 _ _ _)
      | (with_reducible exact ih1 _ _ _ _)
      | (with_reducible exact ih2 _ _ _ _ _ _)
      | (with_reducible exact ih3 _ _ _ _)
      | (with_reducible exact ih4 _ _ _ _ _ _)
      | (with_reducible exact ih5 _ _)
      | (with_reducible exact racewayref22_Encode.mono _ _)
      | (with_reducible exact racewayref22_at.mono _ _ _)
      | (with_reducible exact LeO.refl _)
      | (with_reducible exact LeO.none _)
      | (with_reducible refine LeO.ite ?_ ?_)
      | (with_reducible refine LeO.bind ?_ (fun _ => ?_))
      | exact ih0 _ _ _
      | exact ih1 _ _ _ _
      | exact ih2 _ _ _ _ _ _
      | exact ih3 _ _ _ _
      | exact ih4 _ _ _ _ _ _
      | exact ih5 _ _
      | exact racewayref22_Encode.mono _ _
      | exact racewayref22_at.mono _ _ _
      | exact LeO.none _
      | refine LeO.ite ?_ ?_
      | refine LeO.bind ?_ (fun _ => ?_)
    · intro y0 y1 y2 y3 y4 y5
      unfold racewayref22_Decode.l4
      repeat' first
      | (with_reducible exact ih0 _ _ _)
      | (with_reducible exact ih1 _ _ _ _)
      | (with_reducible exact ih2 _ _ _ _ _ _)
      | (with_reducible exact ih3 _ _ _ _)
      | (with_reducible exact ih4 _ _ _ _ _ _)
      | (with_reducible exact ih5 _ _)
      | (with_reducible exact racewayref22_Encode.mono _ _)
      | (with_reducible exact racewayref22_at.mono _ _ _)
      | (with_reducible exact LeO.refl _)
      | (with_reducible exact LeO.none _)
      | (with_reducible refine LeO.ite ?_ ?_)
      | (with_reducible refine LeO.bind ?_ (fun _ => ?_))
      | exact ih0 _ _ _
      | exact ih1 _ _ _ _
      | exact ih2 _ _ _ _ _ _
      | exact ih3 _ _ _ _
      | exact ih4 _ _ _ _ _ _
      | exact ih5 _ _
      | exact racewayref22_Encode.mono _ _
      | exact racewayref22_at.mono _ _ _
      | exact LeO.none _
      | refine LeO.ite ?_ ?_
      | refine LeO.bind ?_ (fun _ => ?_)
    · intro y0 y1
      unfold racewayref22_Decode.l0
      repeat' first
      | (with_reducible exact ih0 _ _ _)
      | (with_reducible exact ih1 _ _ _ _)
      | (with_reducible exact ih2 _ _ _ _ _ _)
      | (with_reducible exact ih3 _ _ _ _)
      | (with_reducible exact ih4 _ _ _ _ _ _)
      | (with_reducible exact ih5 _ _)
      | (with_reducible exact racewayref22_Encode.mono _ _)
      | (with_reducible exact racewayref22_at.mono _ _ _)
      | (with_reducible exact LeO.refl _)
      | (with_reducible exact LeO.none _)
      | (with_reducible refine LeO.ite ?_ ?_)
      | (with_reducible refine LeO.bind ?_ (fun _ => ?_))
      | exact ih0 _ _ _
      | exact ih1 _ _ _ _
      | exact ih2 _ _ _ _ _ _
      | exact ih3 _ _ _ _
      | exact ih4 _ _ _ _ _ _
      | exact ih5 _ _
      | exact racewayref22_Encode.mono _ _
      | exact racewayref22_at.mono _ _ _
      | exact LeO.none _
      | refine LeO.ite ?_ ?_
      | refine LeO.bind ?_ (fun _ => ?_)
theorem racewayref22_Decode.mono : ∀ a0 k, LeO (racewayref22_Decode.f k a0) (racewayref22_Decode.f (k + 1) a0) := by
  intro a0 k
  obtain ⟨ih0, ih1, ih2, ih3, ih4, ih5⟩ := racewayref22_Decode.mono_l k
  unfold racewayref22_Decode.f
  repeat' first
      | (with_reducible exact ih0 _ _ _)
      | (with_reducible exact ih1 _ _ _ _)
      | (with_reducible exact ih2 _ _ _ _ _ _)
      | (with_reducible exact ih3 _ _ _ _)
      | (with_reducible exact ih4 _ _ _ _ _ _)
      | (with_reducible exact ih5 _ _)
      | (with_reducible exact racewayref22_Encode.mono _ _)
      | (with_reducible exact racewayref22_at.mono _ _ _)
      | (with_reducible exact LeO.refl _)
      | (with_reducible exact LeO.none _)
      | (with_reducible refine LeO.ite ?_ ?_)
      | (with_reducible refine LeO.bind ?_ (fun _ => ?_))
      | exact ih0 _ _ _
      | exact ih1 _ _ _ _
      | exact ih2 _ _ _ _ _ _
      | exact ih3 _ _ _ _
      | exact ih4 _ _ _ _ _ _
      | exact ih5 _ _
      | exact racewayref22_Encode.mono _ _
      | exact racewayref22_at.mono _ _ _
      | exact LeO.none _
      | refine LeO.ite ?_ ?_
      | refine LeO.bind ?_ (fun _ => ?_)
set_option maxHeartbeats 8000000 in
set_option maxRecDepth 100000 in
theorem racewayref22_Decode.calls (k : Nat) (a0 : ByteArray) (r1 : List Int) (r2 : Int) (w : World) (h : racewayref22_Decode.f k a0 = some (r1, r2)) :
    Calls Tryd.prog 32 #[.string a0] w fun e w' => ∃ v0_ : Value, e = .returned (.tuple #[v0_, .int .i64 r2]) ∧ Kd.R (Kd.int .u8) 5 w' w.heap.size (fun _ => True) v0_ r1 ∧ Below w.heap.size w w' := by
  have HB := Aside0.mk (Below.refl w.heap.size w)
  have H : (if (a0.size : Int) > 131072 then (some (([] : List Int), 3)) else (racewayref22_Decode.l0 k a0 (a0.size : Int))) = some (r1, r2) := h
  clear h
  by_cases c2 : (a0.size : Int) > 131072
  · rw [if_pos c2] at H
    have c2b0 : decide (131072 < (a0.size : Int)) = true := decide_eq_true c2
    have c2b1 : decide (131072 < a0.size) = true := decide_eq_true (by omega)
    clear c2
    simp only [Option.some.injEq, Prod.mk.injEq] at H
    obtain ⟨rfl, rfl⟩ := H
    go_enter Tryd.func32, Tryd.ntmps32
    go_wp2
    go_ret2
    exact ⟨_, by first | rfl | (simp [errW_none, errW_some] <;> rfl) | (simp [*, errW_none, errW_some] <;> rfl), by first | exact Kd.R_nil _ _ _ _ _ | exact Kd.N_nil _ _ _ _ _ | exact Kd.V_nil _ _ _ _ _ | exact Kd.Q_nil _ _ _ _ _ | exact Kd.S_nil _ _ _ _ _, by repeat (first | (with_reducible first | exact HB.out | apply below_alloc | apply pw_below_drewN | apply below_drew1) | exact HB.out)⟩
  · rw [if_neg c2] at H
    have c2b0 : decide (131072 < (a0.size : Int)) = false := decide_eq_false c2
    have c2b1 : decide (131072 < a0.size) = false := decide_eq_false (by omega)
    clear c2
    have HC3 := Aside0.mk H
    clear H
    go_enter Tryd.func32, Tryd.ntmps32
    go_upto_block 0 with (fail)
    go_cut [5] (fun v5 wc => ∃ (kq : Nat) (x5_2 : Int), v5 = .int .i64 x5_2 ∧ Aside0 (racewayref22_Decode.j1 kq a0 ([] : List Int) x5_2 = some (r1, r2)) ∧ Aside0 (kq ≤ k) ∧ Aside0 (Kd.R (Kd.int .i64) 3 wc w.heap.size (fun _ => True) (.slice none 0 0) ([] : List Int)) ∧ Aside0 (Below w.heap.size w wc))
    case first =>
      have H := HC3.out
      clear HC3
      have H' := Aside0.mk H
      clear H
      go_wp2
      go_loopg [5] k (fun kq v5 w' => ∃ (x5_1 : Int), v5 = .int .i64 x5_1 ∧ Aside0 (racewayref22_Decode.l0 kq a0 x5_1 = some (r1, r2)) ∧ Aside0 (kq ≤ k) ∧ Aside0 (Below w.heap.size w w'))
      case atStart => exact ⟨((a0.size : Int)), (by first | rfl | (simp; done) | (simp [*]; done)), H', ⟨Nat.le_refl _⟩, ⟨by repeat (first | (with_reducible first | exact HB.out | apply below_alloc | apply pw_below_drewN | apply below_drew1) | exact HB.out)⟩⟩
      case round =>
        clear H'
        try clear c2
        try clear c2b0
        try clear c2b1
        try clear p2
        try clear c3
        obtain ⟨x5_1, rfl, HA, HK1, HB⟩ := hrel
        cases gk with
        | zero => exact absurd HA.out (by simp [racewayref22_Decode.l0])
        | succ k1 =>
          have H := HA.out
          clear HA
          simp only [racewayref22_Decode.l0] at H
          by_cases c4 : x5_1 > 0
          · rw [if_pos c4] at H
            have c4b0 : decide (0 < x5_1) = true := decide_eq_true c4
            clear c4
            (first | rw [c4b0] | (simp only [i64_w, i32_w]; rw [c4b0]) | skip)
            obtain ⟨ji5, hji5⟩ : ∃ j_ : Int, (wrap64 (x5_1 - 1)) = j_ := ⟨_, rfl⟩
            replace H : (if 0 ≤ (ji5) then (if (ji5) < (a0.size : Int) then (if (bt a0 (ji5)) = 61 then (racewayref22_Decode.l0 k1 a0 ji5) else (racewayref22_Decode.j1 k1 a0 ([] : List Int) x5_1)) else (none)) else (none)) = some (r1, r2) := by first | (rw [hji5] at H; exact H) | (simp only [hji5] at H ⊢; exact H)
            have hji5w : (IntKind.i64.wrap (x5_1 - 1)) = ji5 := (i64_w _).trans hji5
            by_cases c6 : 0 ≤ (ji5)
            · rw [if_pos c6] at H
              have c6b0 : decide (0 ≤ (ji5)) = true := decide_eq_true c6
              clear c6
              by_cases c7 : (ji5) < (a0.size : Int)
              · rw [if_pos c7] at H
                have c7b0 : decide ((ji5) < (a0.size : Int)) = true := decide_eq_true c7
                clear c7
                by_cases c9 : (bt a0 (ji5)) = 61
                · rw [if_pos c9] at H
                  have c9b0 : ((bt a0 (ji5)) == 61) = true := beq_iff_eq.mpr c9
                  have c9b1 : ((bt a0 (ji5)) != 61) = false := bne_eq_false_iff_eq.mpr c9
                  clear c9
                  have H' := Aside0.mk H
                  clear H
                  have p8 : 0 ≤ ((ji5) : Int) := of_decide_eq_true (by first | (with_reducible assumption) | assumption)
                  have q8 : (ji5) < (a0.size : Int) := of_decide_eq_true (by first | (with_reducible assumption) | assumption)
                  have hx8 := bt_at a0 (ji5)
                  replace p8 := eq_true p8
                  replace q8 := eq_true q8
                  go_wp2
                  go_roundg k1
                  case measure => have := HK1.out; omega
                  case rel => exact ⟨(ji5), (by first | rfl | (simp; done) | (simp only [← hji5] <;> (first | rfl | simp)) | (simp [*]; done)), H', ⟨by have := HK1.out; omega⟩, ⟨by repeat (first | (with_reducible first | exact HB.out | apply below_alloc | apply pw_below_drewN | apply below_drew1) | exact HB.out)⟩⟩
                · rw [if_neg c9] at H
                  have c9b0 : ((bt a0 (ji5)) == 61) = false := beq_eq_false_iff_ne.mpr c9
                  have c9b1 : ((bt a0 (ji5)) != 61) = true := bne_iff_ne.mpr c9
                  have H' := Aside0.mk H
                  clear H
                  have p8 : 0 ≤ ((ji5) : Int) := of_decide_eq_true (by first | (with_reducible assumption) | assumption)
                  have q8 : (ji5) < (a0.size : Int) := of_decide_eq_true (by first | (with_reducible assumption) | assumption)
                  have hx8 := bt_at a0 (ji5)
                  replace p8 := eq_true p8
                  replace q8 := eq_true q8
                  go_wp2
                  go_meet
                  case rel => exact ⟨_, (x5_1), (by first | rfl | (simp; done) | (simp [*]; done)), H', ⟨by have := HK1.out; first | omega | exact Nat.le_refl _⟩, ⟨by first | exact Kd.R_nil _ _ _ _ _ | exact Kd.N_nil _ _ _ _ _ | exact Kd.V_nil _ _ _ _ _ | exact Kd.Q_nil _ _ _ _ _ | exact Kd.S_nil _ _ _ _ _⟩, ⟨by repeat (first | (with_reducible first | exact HB.out | apply below_alloc | apply pw_below_drewN | apply below_drew1) | exact HB.out)⟩⟩
              · rw [if_neg c7] at H
                exact absurd H (by simp)
            · rw [if_neg c6] at H
              exact absurd H (by simp)
          · rw [if_neg c4] at H
            have c4b0 : decide (0 < x5_1) = false := decide_eq_false c4
            clear c4
            (first | rw [c4b0] | (simp only [i64_w, i32_w]; rw [c4b0]) | skip)
            have H' := Aside0.mk H
            clear H
            go_wp2
            go_meet
            case rel => exact ⟨_, (x5_1), (by first | rfl | (simp; done) | (simp [*]; done)), H', ⟨by have := HK1.out; first | omega | exact Nat.le_refl _⟩, ⟨by first | exact Kd.R_nil _ _ _ _ _ | exact Kd.N_nil _ _ _ _ _ | exact Kd.V_nil _ _ _ _ _ | exact Kd.Q_nil _ _ _ _ _ | exact Kd.S_nil _ _ _ _ _⟩, ⟨by repeat (first | (with_reducible first | exact HB.out | apply below_alloc | apply pw_below_drewN | apply below_drew1) | exact HB.out)⟩⟩
    case rest =>
      clear HC3
      try clear c2
      try clear c2b0
      try clear c2b1
      try clear p2
      try clear c3
      try clear c4
      try clear c4b0
      try clear c6
      try clear c6b0
      try clear p6
      try clear c7
      try clear c7b0
      try clear p8
      try clear q8
      try clear hx8
      try clear c9
      try clear c9b0
      try clear c9b1
      try clear p2
      try clear p8
      try clear q8
      obtain ⟨kq, x5_2, rfl, HA, HJ2, HO_4, HB⟩ := hcut
      cases kq with
      | zero => exact absurd HA.out (by simp [racewayref22_Decode.j1])
      | succ kj2 =>
        have H := HA.out
        clear HA
        simp only [racewayref22_Decode.j1] at H
        have H' := Aside0.mk H
        clear H
        go_wp2
        go_loopg [4, 6] kj2 (fun kq v4 v6 w' => ∃ (x4_2 : List Int) (x6_2 : Int), v6 = .int .i64 x6_2 ∧ Aside0 (racewayref22_Decode.l1 kq a0 x4_2 x5_2 x6_2 = some (r1, r2)) ∧ Aside0 (kq ≤ kj2) ∧ Aside0 (Kd.R (Kd.int .i64) 3 w' w.heap.size (fun _ => True) v4 x4_2) ∧ Aside0 (Below w.heap.size w w'))
        case atStart => exact ⟨(([] : List Int)), (0), (by first | rfl | (simp; done) | (simp [*]; done)), H', ⟨Nat.le_refl _⟩, ⟨by (with_reducible repeat (first | apply Kd.R_alloc | apply Kd.R_drewN | apply Kd.R_drew)); exact HO_4.out⟩, ⟨by repeat (first | (with_reducible first | exact HB.out | apply below_alloc | apply pw_below_drewN | apply below_drew1) | exact HB.out)⟩⟩
        case round =>
          clear H'
          try clear c2
          try clear c2b0
          try clear c2b1
          try clear p2
          try clear c3
          try clear c4
          try clear c4b0
          try clear c6
          try clear c6b0
          try clear p6
          try clear c7
          try clear c7b0
          try clear p8
          try clear q8
          try clear hx8
          try clear c9
          try clear c9b0
          try clear c9b1
          try clear p2
          try clear p6
          try clear p8
          try clear q8
          obtain ⟨x4_2, x6_2, rfl, HA, HK2, HO_4, HB⟩ := hrel
          cases gk with
          | zero => exact absurd HA.out (by simp [racewayref22_Decode.l1])
          | succ k2 =>
            have H := HA.out
            clear HA
            simp only [racewayref22_Decode.l1] at H
            by_cases c10 : x6_2 < x5_2
            · rw [if_pos c10] at H
              have c10b0 : decide (x6_2 < x5_2) = true := decide_eq_true c10
              clear c10
              by_cases c11 : 0 ≤ x6_2
              · rw [if_pos c11] at H
                have c11b0 : decide (0 ≤ x6_2) = true := decide_eq_true c11
                clear c11
                by_cases c12 : x6_2 < (a0.size : Int)
                · rw [if_pos c12] at H
                  have c12b0 : decide (x6_2 < (a0.size : Int)) = true := decide_eq_true c12
                  clear c12
                  replace H := Option.bind_eq_some_iff.mp H
                  obtain ⟨t237, A140, H⟩ := H
                  replace H : (if t237 < 0 then (some (([] : List Int), 5)) else (racewayref22_Decode.l2 k2 a0 x4_2 x5_2 x6_2 t237 32)) = some (r1, r2) := H
                  have A14 := Aside0.mk A140
                  clear A140
                  by_cases c15 : t237 < 0
                  · rw [if_pos c15] at H
                    have c15b0 : decide (t237 < 0) = true := decide_eq_true c15
                    clear c15
                    simp only [Option.some.injEq, Prod.mk.injEq] at H
                    obtain ⟨rfl, rfl⟩ := H
                    have p13 : 0 ≤ (x6_2 : Int) := of_decide_eq_true (by first | (with_reducible assumption) | assumption)
                    have q13 : x6_2 < (a0.size : Int) := of_decide_eq_true (by first | (with_reducible assumption) | assumption)
                    have hx13 := bt_at a0 x6_2
                    replace p13 := eq_true p13
                    replace q13 := eq_true q13
                    go_wp2_with (first | ((with_reducible refine gate_callee (f := 63) rfl ?_); refine goesL_ (some 37) rfl rfl Tryd.func63 (by kernel_rfl) rfl #[.string (⟨#[65, 66, 67, 68, 69, 70, 71, 72, 73, 74, 75, 76, 77, 78, 79, 80, 81, 82, 83, 84, 85, 86, 87, 88, 89, 90, 97, 98, 99, 100, 101, 102, 103, 104, 105, 106, 107, 108, 109, 110, 111, 112, 113, 114, 115, 116, 117, 118, 119, 120, 121, 122, 48, 49, 50, 51, 52, 53, 54, 55, 56, 57, 43, 47]⟩ : ByteArray), .int .u8 (bt a0 x6_2)] rfl (by (try simp only [List.map_toArray, List.map_cons, List.map_nil]); first | done | rfl | (simp only [List.length_drop, List.length_take]; rfl)) ?_; (with_reducible refine (racewayref22_at.calls k2 (⟨#[65, 66, 67, 68, 69, 70, 71, 72, 73, 74, 75, 76, 77, 78, 79, 80, 81, 82, 83, 84, 85, 86, 87, 88, 89, 90, 97, 98, 99, 100, 101, 102, 103, 104, 105, 106, 107, 108, 109, 110, 111, 112, 113, 114, 115, 116, 117, 118, 119, 120, 121, 122, 48, 49, 50, 51, 52, 53, 54, 55, 56, 57, 43, 47]⟩ : ByteArray) (bt a0 x6_2) t237 _ A14.out).mono ?_); rintro e w' ⟨rfl, ⟨nd, rfl⟩⟩; refine ⟨_, rfl, ?_⟩))
                    go_ret2
                    exact ⟨_, by first | rfl | (simp [errW_none, errW_some] <;> rfl) | (simp [*, errW_none, errW_some] <;> rfl), by first | exact Kd.R_nil _ _ _ _ _ | exact Kd.N_nil _ _ _ _ _ | exact Kd.V_nil _ _ _ _ _ | exact Kd.Q_nil _ _ _ _ _ | exact Kd.S_nil _ _ _ _ _, by repeat (first | (with_reducible first | exact HB.out | apply below_alloc | apply pw_below_drewN | apply below_drew1) | exact HB.out)⟩
                  · rw [if_neg c15] at H
                    have c15b0 : decide (t237 < 0) = false := decide_eq_false c15
                    clear c15
                    have H' := Aside0.mk H
                    clear H
                    have p13 : 0 ≤ (x6_2 : Int) := of_decide_eq_true (by first | (with_reducible assumption) | assumption)
                    have q13 : x6_2 < (a0.size : Int) := of_decide_eq_true (by first | (with_reducible assumption) | assumption)
                    have hx13 := bt_at a0 x6_2
                    replace p13 := eq_true p13
                    replace q13 := eq_true q13
                    go_wp2_with (first | ((with_reducible refine gate_callee (f := 63) rfl ?_); refine goesL_ (some 37) rfl rfl Tryd.func63 (by kernel_rfl) rfl #[.string (⟨#[65, 66, 67, 68, 69, 70, 71, 72, 73, 74, 75, 76, 77, 78, 79, 80, 81, 82, 83, 84, 85, 86, 87, 88, 89, 90, 97, 98, 99, 100, 101, 102, 103, 104, 105, 106, 107, 108, 109, 110, 111, 112, 113, 114, 115, 116, 117, 118, 119, 120, 121, 122, 48, 49, 50, 51, 52, 53, 54, 55, 56, 57, 43, 47]⟩ : ByteArray), .int .u8 (bt a0 x6_2)] rfl (by (try simp only [List.map_toArray, List.map_cons, List.map_nil]); first | done | rfl | (simp only [List.length_drop, List.length_take]; rfl)) ?_; (with_reducible refine (racewayref22_at.calls k2 (⟨#[65, 66, 67, 68, 69, 70, 71, 72, 73, 74, 75, 76, 77, 78, 79, 80, 81, 82, 83, 84, 85, 86, 87, 88, 89, 90, 97, 98, 99, 100, 101, 102, 103, 104, 105, 106, 107, 108, 109, 110, 111, 112, 113, 114, 115, 116, 117, 118, 119, 120, 121, 122, 48, 49, 50, 51, 52, 53, 54, 55, 56, 57, 43, 47]⟩ : ByteArray) (bt a0 x6_2) t237 _ A14.out).mono ?_); rintro e w' ⟨rfl, ⟨nd, rfl⟩⟩; refine ⟨_, rfl, ?_⟩))
                    go_loopg [4, 8] k2 (fun kq v4 v8 w' => ∃ (x4_3 : List Int) (x8_3 : Int), v8 = .int .i64 x8_3 ∧ Aside0 (racewayref22_Decode.l2 kq a0 x4_3 x5_2 x6_2 t237 x8_3 = some (r1, r2)) ∧ Aside0 (kq ≤ k2) ∧ Aside0 (Kd.R (Kd.int .i64) 3 w' w.heap.size (fun _ => True) v4 x4_3) ∧ Aside0 (Below w.heap.size w w'))
                    case atStart => exact ⟨(x4_2), (32), (by first | rfl | (simp; done) | (simp [*]; done)), H', ⟨Nat.le_refl _⟩, ⟨by (with_reducible repeat (first | apply Kd.R_alloc | apply Kd.R_drewN | apply Kd.R_drew)); exact HO_4.out⟩, ⟨by repeat (first | (with_reducible first | exact HB.out | apply below_alloc | apply pw_below_drewN | apply below_drew1) | exact HB.out)⟩⟩
                    case round =>
                      clear H'
                      try clear c1
                      try clear p1
                      try clear q1
                      try clear hx1
                      try clear c2
                      try clear c2b0
                      try clear c2b1
                      try clear p2
                      try clear c3
                      try clear c4
                      try clear c4b0
                      try clear c6
                      try clear c6b0
                      try clear p6
                      try clear c7
                      try clear c7b0
                      try clear p8
                      try clear q8
                      try clear hx8
                      try clear c9
                      try clear c9b0
                      try clear c9b1
                      try clear c10
                      try clear c10b0
                      try clear c11
                      try clear c11b0
                      try clear c12
                      try clear c12b0
                      try clear p13
                      try clear q13
                      try clear hx13
                      try clear c15
                      try clear c15b0
                      try clear p13
                      try clear p2
                      try clear p6
                      try clear p8
                      try clear q13
                      try clear q8
                      obtain ⟨x4_3, x8_3, rfl, HA, HK3, HO_4, HB⟩ := hrel
                      cases gk with
                      | zero => exact absurd HA.out (by simp [racewayref22_Decode.l2])
                      | succ k3 =>
                        have H := HA.out
                        clear HA
                        simp only [racewayref22_Decode.l2] at H
                        by_cases c16 : x8_3 > 0
                        · rw [if_pos c16] at H
                          have c16b0 : decide (0 < x8_3) = true := decide_eq_true c16
                          clear c16
                          by_cases c17 : x8_3 = 0
                          · rw [if_pos c17] at H
                            exact absurd H (by simp)
                          · rw [if_neg c17] at H
                            have c17b0 : (x8_3 == 0) = false := beq_eq_false_iff_ne.mpr c17
                            have c17b1 : (x8_3 != 0) = true := bne_iff_ne.mpr c17
                            by_cases c18 : x4_3.length < 17592186044416
                            · rw [if_pos c18] at H
                              have LMc18 := Aside0.mk c18
                              clear c18
                              obtain ⟨y238, hy238⟩ : ∃ y_ : List Int, y_ = (x4_3 ++ [Int.tmod (wrap64 (Int.tdiv t237 x8_3)) 2]) := ⟨_, rfl⟩
                              replace H : (racewayref22_Decode.l2 k3 a0 y238 x5_2 x6_2 t237 (wrap64 (Int.tdiv x8_3 2))) = some (r1, r2) := by first | (rw [hy238]; with_reducible exact H) | (have H2_ := (Option.bind_some _ _).symm.trans H; rw [hy238]; with_reducible exact H2_) | (have H2_ := (Option.bind_some _ _).symm.trans H; with_reducible exact H2_) | with_reducible exact H | (rw [hy238]; exact H) | exact H
                              have Ny238 := Aside0.mk hy238
                              clear hy238
                              have H' := Aside0.mk H
                              clear H
                              go_wp2_with (first | ((with_reducible refine gate_builtin (b := .append) (xs := #[.tmp 44, .tmp 49]) rfl ?_); at_builtin; refine Kd.R_append (Kd.int .i64) (w0 := w) w.heap.size rfl (.tmp 44) (.tmp 49) 45 3 (.int .i64 0) 8 rfl Tryd.underlying45 info3 rfl (by decide) (by omega) u4 x4_3 (Int.tmod (wrap64 (Int.tdiv t237 x8_3)) 2) [.int .i64 (Int.tmod (wrap64 (Int.tdiv t237 x8_3)) 2)] (fun _ => True) (fun _ => False) rfl rfl ?aP (fun _ hk => hk.elim) ?aF ?aO ?aB ?aS ?aL ?_; (case aP => exact rfl); (case aB => exact (by repeat (first | (with_reducible first | exact HB.out | apply below_alloc | apply pw_below_drewN | apply below_drew1) | exact HB.out))); (case aF => exact (fun _ _ => trivial)); (case aO => exact (by (with_reducible repeat (first | apply Kd.R_alloc | apply Kd.R_drewN | apply Kd.R_drew)); exact HO_4.out)); (case aS => exact (below_size (by repeat (first | (with_reducible first | exact HB.out | apply below_alloc | apply pw_below_drewN | apply below_drew1) | exact HB.out)))); (case aL => have := LMc18.out; omega); intro v239 w19 ho hb hg hat; rw [← Ny238.out] at ho; have n0_ := Aside0.mk (hb); have n1_ := Aside0.mk (ho); clear HB; clear HO_4; have HB := n0_; have HO240 := n1_; clear n0_ n1_; clear ho hb hg hat))
                              go_roundg k3
                              case measure => have := HJ2.out; have := HK2.out; have := HK3.out; omega
                              case rel => exact ⟨(y238), (wrap64 (Int.tdiv x8_3 2)), (by first | rfl | (simp; done) | (simp [*]; done)), H', ⟨by have := HJ2.out; have := HK2.out; have := HK3.out; omega⟩, ⟨by (with_reducible repeat (first | apply Kd.R_alloc | apply Kd.R_drewN | apply Kd.R_drew)); exact HO240.out⟩, ⟨by repeat (first | (with_reducible first | exact HB.out | apply below_alloc | apply pw_below_drewN | apply below_drew1) | exact HB.out)⟩⟩
                            · rw [if_neg c18] at H
                              exact absurd H (by simp)
                        · rw [if_neg c16] at H
                          have c16b0 : decide (0 < x8_3) = false := decide_eq_false c16
                          clear c16
                          have H' := Aside0.mk H
                          clear H
                          go_wp2
                          go_roundg k3
                          case measure => have := HJ2.out; have := HK2.out; have := HK3.out; omega
                          case rel => exact ⟨(x4_3), (wrap64 (x6_2 + 1)), (by first | rfl | (simp; done) | (simp [*]; done)), H', ⟨by have := HJ2.out; have := HK2.out; have := HK3.out; omega⟩, ⟨by (with_reducible repeat (first | apply Kd.R_alloc | apply Kd.R_drewN | apply Kd.R_drew)); exact HO_4.out⟩, ⟨by repeat (first | (with_reducible first | exact HB.out | apply below_alloc | apply pw_below_drewN | apply below_drew1) | exact HB.out)⟩⟩
                · rw [if_neg c12] at H
                  exact absurd H (by simp)
              · rw [if_neg c11] at H
                exact absurd H (by simp)
            · rw [if_neg c10] at H
              have c10b0 : decide (x6_2 < x5_2) = false := decide_eq_false c10
              clear c10
              have H' := Aside0.mk H
              clear H
              go_wp2
              go_loopg [9, 10] k2 (fun kq v9 v10 w' => ∃ (x9_3 : List Int) (x10_3 : Int), v10 = .int .i64 x10_3 ∧ Aside0 (racewayref22_Decode.l3 kq a0 x4_2 x9_3 x10_3 = some (r1, r2)) ∧ Aside0 (kq ≤ k2) ∧ Aside0 (Kd.R (Kd.int .i64) 3 w' w.heap.size (fun _ => True) u4 x4_2) ∧ Aside0 (Kd.R (Kd.int .u8) 5 w' w.heap.size (fun _ => True) v9 x9_3) ∧ Aside0 (Below w.heap.size w w'))
              case atStart => exact ⟨(([] : List Int)), (0), (by first | rfl | (simp; done) | (simp [*]; done)), H', ⟨Nat.le_refl _⟩, ⟨by (with_reducible repeat (first | apply Kd.R_alloc | apply Kd.R_drewN | apply Kd.R_drew)); exact HO_4.out⟩, ⟨by first | exact Kd.R_nil _ _ _ _ _ | exact Kd.N_nil _ _ _ _ _ | exact Kd.V_nil _ _ _ _ _ | exact Kd.Q_nil _ _ _ _ _ | exact Kd.S_nil _ _ _ _ _⟩, ⟨by repeat (first | (with_reducible first | exact HB.out | apply below_alloc | apply pw_below_drewN | apply below_drew1) | exact HB.out)⟩⟩
              case round =>
                clear H'
                try clear c1
                try clear p1
                try clear q1
                try clear hx1
                try clear c2
                try clear c2b0
                try clear c2b1
                try clear p2
                try clear c3
                try clear c4
                try clear c4b0
                try clear c6
                try clear c6b0
                try clear p6
                try clear c7
                try clear c7b0
                try clear p8
                try clear q8
                try clear hx8
                try clear c9
                try clear c9b0
                try clear c9b1
                try clear c10
                try clear c10b0
                try clear c11
                try clear c11b0
                try clear c12
                try clear c12b0
                try clear p13
                try clear q13
                try clear hx13
                try clear c15
                try clear c15b0
                try clear c16
                try clear c16b0
                try clear c17
                try clear c17b0
                try clear c17b1
                try clear c18
                try clear p1
                try clear p13
                try clear p2
                try clear p6
                try clear p8
                try clear q1
                try clear q13
                try clear q8
                obtain ⟨x9_3, x10_3, rfl, HA, HK3, HO_4, HO_9, HB⟩ := hrel
                cases gk with
                | zero => exact absurd HA.out (by simp [racewayref22_Decode.l3])
                | succ k3 =>
                  have H := HA.out
                  clear HA
                  simp only [racewayref22_Decode.l3] at H
                  by_cases c20 : (wrap64 (x10_3 + 8)) ≤ (x4_2.length : Int)
                  · rw [if_pos c20] at H
                    have c20b0 : decide ((wrap64 (x10_3 + 8)) ≤ (x4_2.length : Int)) = true := decide_eq_true c20
                    clear c20
                    have H' := Aside0.mk H
                    clear H
                    obtain ⟨Ao21, co21, eo21⟩ := Kd.R_slice HO_4.out
                    subst eo21
                    go_wp2
                    go_loopg [11, 12] k3 (fun kq v11 v12 w' => ∃ (x11_4 : Int) (x12_4 : Int), v11 = .int .i64 x11_4 ∧ v12 = .int .i64 x12_4 ∧ Aside0 (racewayref22_Decode.l4 kq a0 x4_2 x9_3 x10_3 x11_4 x12_4 = some (r1, r2)) ∧ Aside0 (kq ≤ k3) ∧ Aside0 (Kd.R (Kd.int .i64) 3 w' w.heap.size (fun _ => True) (.slice Ao21 x4_2.length co21) x4_2) ∧ Aside0 (Kd.R (Kd.int .u8) 5 w' w.heap.size (fun _ => True) u9 x9_3) ∧ Aside0 (Below w.heap.size w w'))
                    case atStart => exact ⟨(0), (0), (by first | rfl | (simp; done) | (simp [*]; done)), (by first | rfl | (simp; done) | (simp [*]; done)), H', ⟨Nat.le_refl _⟩, ⟨by (with_reducible repeat (first | apply Kd.R_alloc | apply Kd.R_drewN | apply Kd.R_drew)); exact HO_4.out⟩, ⟨by (with_reducible repeat (first | apply Kd.R_alloc | apply Kd.R_drewN | apply Kd.R_drew)); exact HO_9.out⟩, ⟨by repeat (first | (with_reducible first | exact HB.out | apply below_alloc | apply pw_below_drewN | apply below_drew1) | exact HB.out)⟩⟩
                    case round =>
                      clear H'
                      try clear c1
                      try clear p1
                      try clear q1
                      try clear hx1
                      try clear c2
                      try clear c2b0
                      try clear c2b1
                      try clear p2
                      try clear c3
                      try clear c4
                      try clear c4b0
                      try clear c6
                      try clear c6b0
                      try clear p6
                      try clear c7
                      try clear c7b0
                      try clear p8
                      try clear q8
                      try clear hx8
                      try clear c9
                      try clear c9b0
                      try clear c9b1
                      try clear c10
                      try clear c10b0
                      try clear c11
                      try clear c11b0
                      try clear c12
                      try clear c12b0
                      try clear p13
                      try clear q13
                      try clear hx13
                      try clear c15
                      try clear c15b0
                      try clear c16
                      try clear c16b0
                      try clear c17
                      try clear c17b0
                      try clear c17b1
                      try clear c18
                      try clear c20
                      try clear c20b0
                      try clear p1
                      try clear p13
                      try clear p2
                      try clear p6
                      try clear p8
                      try clear q1
                      try clear q13
                      try clear q8
                      obtain ⟨x11_4, x12_4, rfl, rfl, HA, HK4, HO_4, HO_9, HB⟩ := hrel
                      cases gk with
                      | zero => exact absurd HA.out (by simp [racewayref22_Decode.l4])
                      | succ k4 =>
                        have H := HA.out
                        clear HA
                        simp only [racewayref22_Decode.l4] at H
                        by_cases c22 : x12_4 < 8
                        · rw [if_pos c22] at H
                          have c22b0 : decide (x12_4 < 8) = true := decide_eq_true c22
                          clear c22
                          obtain ⟨ji23, hji23⟩ : ∃ j_ : Int, (wrap64 (x10_3 + x12_4)) = j_ := ⟨_, rfl⟩
                          replace H : (if 0 ≤ (ji23) then (if (ji23) < (x4_2.length : Int) then (racewayref22_Decode.l4 k4 a0 x4_2 x9_3 x10_3 (wrap64 ((wrap64 (2 * x11_4)) + (rd x4_2 (ji23)))) (wrap64 (x12_4 + 1))) else (none)) else (none)) = some (r1, r2) := by first | (rw [hji23] at H; exact H) | (simp only [hji23] at H ⊢; exact H)
                          have hji23w : (IntKind.i64.wrap (x10_3 + x12_4)) = ji23 := (i64_w _).trans hji23
                          by_cases c24 : 0 ≤ (ji23)
                          · rw [if_pos c24] at H
                            have c24b0 : decide (0 ≤ (ji23)) = true := decide_eq_true c24
                            clear c24
                            by_cases c25 : (ji23) < (x4_2.length : Int)
                            · rw [if_pos c25] at H
                              have c25b0 : decide ((ji23) < (x4_2.length : Int)) = true := decide_eq_true c25
                              clear c25
                              have H' := Aside0.mk H
                              clear H
                              have p242 : 0 ≤ ((ji23) : Int) := of_decide_eq_true (by first | (with_reducible assumption) | assumption)
                              have q242 : (ji23) < (x4_2.length : Int) := of_decide_eq_true (by first | (with_reducible assumption) | assumption)
                              obtain ⟨ad242, e242, hx242_0⟩ := Kd.at_int (Kd.R_reads' HO_4.out).2.2 (ji23) p242 q242
                              cases e242
                              replace p242 := eq_true p242
                              replace q242 := eq_true q242
                              go_wp2
                              go_roundg k4
                              case measure => have := HJ2.out; have := HK2.out; have := HK3.out; have := HK4.out; omega
                              case rel => exact ⟨(wrap64 ((wrap64 (2 * x11_4)) + (rd x4_2 (ji23)))), (wrap64 (x12_4 + 1)), (by first | rfl | (simp; done) | (simp only [← hji23] <;> (first | rfl | simp)) | (simp [*]; done)), (by first | rfl | (simp; done) | (simp [*]; done)), H', ⟨by have := HJ2.out; have := HK2.out; have := HK3.out; have := HK4.out; omega⟩, ⟨by (with_reducible repeat (first | apply Kd.R_alloc | apply Kd.R_drewN | apply Kd.R_drew)); exact HO_4.out⟩, ⟨by (with_reducible repeat (first | apply Kd.R_alloc | apply Kd.R_drewN | apply Kd.R_drew)); exact HO_9.out⟩, ⟨by repeat (first | (with_reducible first | exact HB.out | apply below_alloc | apply pw_below_drewN | apply below_drew1) | exact HB.out)⟩⟩
                            · rw [if_neg c25] at H
                              exact absurd H (by simp)
                          · rw [if_neg c24] at H
                            exact absurd H (by simp)
                        · rw [if_neg c22] at H
                          have c22b0 : decide (x12_4 < 8) = false := decide_eq_false c22
                          clear c22
                          by_cases c26 : x9_3.length < 140737488355328
                          · rw [if_pos c26] at H
                            have LMc26 := Aside0.mk c26
                            clear c26
                            obtain ⟨y243, hy243⟩ : ∃ y_ : List Int, y_ = (x9_3 ++ [(x11_4) % 256]) := ⟨_, rfl⟩
                            replace H : (racewayref22_Decode.l3 k4 a0 x4_2 y243 (wrap64 (x10_3 + 8))) = some (r1, r2) := by first | (rw [hy243]; with_reducible exact H) | (have H2_ := (Option.bind_some _ _).symm.trans H; rw [hy243]; with_reducible exact H2_) | (have H2_ := (Option.bind_some _ _).symm.trans H; with_reducible exact H2_) | with_reducible exact H | (rw [hy243]; exact H) | exact H
                            have Ny243 := Aside0.mk hy243
                            clear hy243
                            have H' := Aside0.mk H
                            clear H
                            go_wp2_with (first | ((with_reducible refine gate_builtin (b := .append) (xs := #[.tmp 71, .tmp 74]) rfl ?_); at_builtin; refine Kd.R_append (Kd.int .u8) (w0 := w) w.heap.size rfl (.tmp 71) (.tmp 74) 36 5 (.int .u8 0) 1 rfl Tryd.underlying36 info5 rfl (by decide) (by omega) u9 x9_3 ((x11_4) % 256) [.int .u8 ((x11_4) % 256)] (fun _ => True) (fun _ => False) rfl rfl ?aP (fun _ hk => hk.elim) ?aF ?aO ?aB ?aS ?aL ?_; (case aP => exact rfl); (case aB => exact (by repeat (first | (with_reducible first | exact HB.out | apply below_alloc | apply pw_below_drewN | apply below_drew1) | exact HB.out))); (case aF => exact (fun _ _ => trivial)); (case aO => exact (by (with_reducible repeat (first | apply Kd.R_alloc | apply Kd.R_drewN | apply Kd.R_drew)); exact HO_9.out)); (case aS => exact (below_size (by repeat (first | (with_reducible first | exact HB.out | apply below_alloc | apply pw_below_drewN | apply below_drew1) | exact HB.out)))); (case aL => have := LMc26.out; omega); intro v244 w27 ho hb hg hat; rw [← Ny243.out] at ho; have n0_ := Aside0.mk (Kd.R_over' (by (with_reducible repeat (first | apply Kd.R_alloc | apply Kd.R_drewN | apply Kd.R_drew)); exact HO_4.out) (Kd.R_typed (by (with_reducible repeat (first | apply Kd.R_alloc | apply Kd.R_drewN | apply Kd.R_drew)); exact HO_9.out)) (by decide) hg); have n1_ := Aside0.mk (hb); have n2_ := Aside0.mk (ho); clear HO_4; clear HB; clear HO_9; have HO_4 := n0_; have HB := n1_; have HO245 := n2_; clear n0_ n1_ n2_; clear ho hb hg hat))
                            go_roundg k4
                            case measure => have := HJ2.out; have := HK2.out; have := HK3.out; have := HK4.out; omega
                            case rel => exact ⟨(y243), (wrap64 (x10_3 + 8)), (by first | rfl | (simp; done) | (simp [*]; done)), H', ⟨by have := HJ2.out; have := HK2.out; have := HK3.out; have := HK4.out; omega⟩, ⟨by (with_reducible repeat (first | apply Kd.R_alloc | apply Kd.R_drewN | apply Kd.R_drew)); exact HO_4.out⟩, ⟨by (with_reducible repeat (first | apply Kd.R_alloc | apply Kd.R_drewN | apply Kd.R_drew)); exact HO245.out⟩, ⟨by repeat (first | (with_reducible first | exact HB.out | apply below_alloc | apply pw_below_drewN | apply below_drew1) | exact HB.out)⟩⟩
                          · rw [if_neg c26] at H
                            exact absurd H (by simp)
                  · rw [if_neg c20] at H
                    have c20b0 : decide ((wrap64 (x10_3 + 8)) ≤ (x4_2.length : Int)) = false := decide_eq_false c20
                    clear c20
                    replace H := Option.bind_eq_some_iff.mp H
                    obtain ⟨t241, A280, H⟩ := H
                    replace H : (if t241.toList = a0.toList then (some (x9_3, 0)) else (some (([] : List Int), 5))) = some (r1, r2) := H
                    have A28 := Aside0.mk A280
                    clear A280
                    by_cases c29 : t241.toList = a0.toList
                    · rw [if_pos c29] at H
                      have c29b0 : (t241.toList == a0.toList) = true := beq_iff_eq.mpr c29
                      have c29b1 : (t241.toList != a0.toList) = false := bne_eq_false_iff_eq.mpr c29
                      clear c29
                      simp only [Option.some.injEq, Prod.mk.injEq] at H
                      obtain ⟨rfl, rfl⟩ := H
                      obtain ⟨Ao30, co30, eo30⟩ := Kd.R_slice HO_4.out
                      subst eo30
                      obtain ⟨Ao31, co31, eo31⟩ := Kd.R_slice HO_9.out
                      subst eo31
                      go_wp2_with (first | ((with_reducible refine gate_callee (f := 26) rfl ?_); refine goesL_ (some 77) rfl rfl Tryd.func26 (by kernel_rfl) rfl #[.slice Ao31 x9_3.length co31] rfl (by (try simp only [List.map_toArray, List.map_cons, List.map_nil]); first | done | rfl | (simp only [List.length_drop, List.length_take]; rfl)) ?_; (with_reducible refine (racewayref22_Encode.calls k3 _ _ x9_3 t241 _ ?side1 ?side2 A28.out).mono ?_); (case side1 => repeat (first | exact (Kd.R_reads' HO_9.out).2.2 | (with_reducible refine Kd.C_alloc ?_ _) | (with_reducible refine Kd.C_drewN ?_ _) | (with_reducible refine Kd.C_drew ?_))); (case side2 => exact (Kd.R_reads' HO_9.out).2.1); rintro e w32 ⟨rfl, hb⟩; refine ⟨_, rfl, ?_⟩; have n0_ := Aside0.mk (Kd.R_below (by (with_reducible repeat (first | apply Kd.R_alloc | apply Kd.R_drewN | apply Kd.R_drew)); exact HO_4.out) hb); have n1_ := Aside0.mk (Kd.R_below (by (with_reducible repeat (first | apply Kd.R_alloc | apply Kd.R_drewN | apply Kd.R_drew)); exact HO_9.out) hb); have n2_ := Aside0.mk (below_step (by repeat (first | (with_reducible first | exact HB.out | apply below_alloc | apply pw_below_drewN | apply below_drew1) | exact HB.out)) hb); clear HO_4; clear HO_9; clear HB; have HO_4 := n0_; have HO_9 := n1_; have HB := n2_; clear n0_ n1_ n2_; (try clear hb); (try clear hb2); (try clear hk); (try clear hi)))
                      go_ret2
                      exact ⟨_, by first | rfl | (simp [errW_none, errW_some] <;> rfl) | (simp [*, errW_none, errW_some] <;> rfl), by (with_reducible repeat (first | apply Kd.R_alloc | apply Kd.R_drewN | apply Kd.R_drew)); exact HO_9.out, by repeat (first | (with_reducible first | exact HB.out | apply below_alloc | apply pw_below_drewN | apply below_drew1) | exact HB.out)⟩
                    · rw [if_neg c29] at H
                      have c29b0 : (t241.toList == a0.toList) = false := beq_eq_false_iff_ne.mpr c29
                      have c29b1 : (t241.toList != a0.toList) = true := bne_iff_ne.mpr c29
                      simp only [Option.some.injEq, Prod.mk.injEq] at H
                      obtain ⟨rfl, rfl⟩ := H
                      obtain ⟨Ao33, co33, eo33⟩ := Kd.R_slice HO_4.out
                      subst eo33
                      obtain ⟨Ao34, co34, eo34⟩ := Kd.R_slice HO_9.out
                      subst eo34
                      go_wp2_with (first | ((with_reducible refine gate_callee (f := 26) rfl ?_); refine goesL_ (some 77) rfl rfl Tryd.func26 (by kernel_rfl) rfl #[.slice Ao34 x9_3.length co34] rfl (by (try simp only [List.map_toArray, List.map_cons, List.map_nil]); first | done | rfl | (simp only [List.length_drop, List.length_take]; rfl)) ?_; (with_reducible refine (racewayref22_Encode.calls k3 _ _ x9_3 t241 _ ?side1 ?side2 A28.out).mono ?_); (case side1 => repeat (first | exact (Kd.R_reads' HO_9.out).2.2 | (with_reducible refine Kd.C_alloc ?_ _) | (with_reducible refine Kd.C_drewN ?_ _) | (with_reducible refine Kd.C_drew ?_))); (case side2 => exact (Kd.R_reads' HO_9.out).2.1); rintro e w35 ⟨rfl, hb⟩; refine ⟨_, rfl, ?_⟩; have n0_ := Aside0.mk (Kd.R_below (by (with_reducible repeat (first | apply Kd.R_alloc | apply Kd.R_drewN | apply Kd.R_drew)); exact HO_4.out) hb); have n1_ := Aside0.mk (Kd.R_below (by (with_reducible repeat (first | apply Kd.R_alloc | apply Kd.R_drewN | apply Kd.R_drew)); exact HO_9.out) hb); have n2_ := Aside0.mk (below_step (by repeat (first | (with_reducible first | exact HB.out | apply below_alloc | apply pw_below_drewN | apply below_drew1) | exact HB.out)) hb); clear HO_4; clear HO_9; clear HB; have HO_4 := n0_; have HO_9 := n1_; have HB := n2_; clear n0_ n1_ n2_; (try clear hb); (try clear hb2); (try clear hk); (try clear hi)))
                      go_ret2
                      exact ⟨_, by first | rfl | (simp [errW_none, errW_some] <;> rfl) | (simp [*, errW_none, errW_some] <;> rfl), by first | exact Kd.R_nil _ _ _ _ _ | exact Kd.N_nil _ _ _ _ _ | exact Kd.V_nil _ _ _ _ _ | exact Kd.Q_nil _ _ _ _ _ | exact Kd.S_nil _ _ _ _ _, by repeat (first | (with_reducible first | exact HB.out | apply below_alloc | apply pw_below_drewN | apply below_drew1) | exact HB.out)⟩

end Go.Proofs.YteajidciahoboaaDoor.P
-- PzstringsliteHasSuffix
-- PRINTED by print.py (a twelfth state) out of the translation. Not trusted: Lean checks it.
namespace Go.Proofs.YteajidciahoboaaDoor.P
open Go.RowKit Go.Proofs.YteajidciahoboaaDoorW.PrintWords Go.Proofs.YteajidciahoboaaDoorW.PrintLast Go.Proofs.YteajidciahoboaaDoorW.PrintMore
attribute [local go_sem] max2_int min2_int max_two min_two max_three min_three max_four min_four   -- for this text's walks alone
set_option linter.unusedVariables false
set_option linter.unusedSimpArgs false

/-! ### stringslite_HasSuffix: function 85 -/
def stringslite_HasSuffix.f (a0 : ByteArray) (a1 : ByteArray) : Option (Bool) := if (a0.size : Int) ≥ (a1.size : Int) then (if 0 ≤ (wrap64 ((a0.size : Int) - (a1.size : Int))) then (if (wrap64 ((a0.size : Int) - (a1.size : Int))) ≤ (a0.size : Int) then (some ((a0.extract ((wrap64 ((a0.size : Int) - (a1.size : Int))) : Int).toNat a0.size).toList == a1.toList)) else (none)) else (none)) else (some false)
set_option maxHeartbeats 8000000 in
set_option maxRecDepth 100000 in
theorem stringslite_HasSuffix.calls (a0 : ByteArray) (a1 : ByteArray) (r : Bool) (w : World) (h : stringslite_HasSuffix.f a0 a1 = some r) :
    Calls Tryd.prog 85 #[.string a0, .string a1] w fun e w' => e = .returned (.bool r) ∧ Drawn0 w w' := by
  have H : (if (a0.size : Int) ≥ (a1.size : Int) then (if 0 ≤ (wrap64 ((a0.size : Int) - (a1.size : Int))) then (if (wrap64 ((a0.size : Int) - (a1.size : Int))) ≤ (a0.size : Int) then (some ((a0.extract ((wrap64 ((a0.size : Int) - (a1.size : Int))) : Int).toNat a0.size).toList == a1.toList)) else (none)) else (none)) else (some false)) = some r := h
  clear h
  by_cases c3 : (a0.size : Int) ≥ (a1.size : Int)
  · rw [if_pos c3] at H
    have c3b0 : decide ((a1.size : Int) ≤ (a0.size : Int)) = true := decide_eq_true c3
    have c3b1 : decide (a1.size ≤ a0.size) = true := decide_eq_true (Int.ofNat_le.mp c3)
    clear c3
    obtain ⟨ji4, hji4⟩ : ∃ j_ : Int, (wrap64 ((a0.size : Int) - (a1.size : Int))) = j_ := ⟨_, rfl⟩
    replace H : (if 0 ≤ (ji4) then (if (ji4) ≤ (a0.size : Int) then (some ((a0.extract ((ji4) : Int).toNat a0.size).toList == a1.toList)) else (none)) else (none)) = some r := by first | (rw [hji4] at H; exact H) | (simp only [hji4] at H ⊢; exact H)
    have hji4w : (IntKind.i64.wrap ((a0.size : Int) - (a1.size : Int))) = ji4 := (i64_w _).trans hji4
    by_cases c5 : 0 ≤ (ji4)
    · rw [if_pos c5] at H
      have c5b0 := eq_true c5
      have c5b1 : decide (0 ≤ (ji4)) = true := decide_eq_true c5
      clear c5
      by_cases c6 : (ji4) ≤ (a0.size : Int)
      · rw [if_pos c6] at H
        have c6b0 := eq_true c6
        have c6b1 : decide ((ji4) ≤ (a0.size : Int)) = true := decide_eq_true c6
        clear c6
        obtain rfl := Option.some.inj H
        go_enter Tryd.func85, Tryd.ntmps85
        go_wp2
        go_ret
        exact ⟨by first | rfl | (simp; done) | (simp only [← hji4] <;> (first | rfl | simp)) | (simp [*]; done), by repeat (first | exact Drawn0.refl _ | apply Drawn0.step)⟩
      · rw [if_neg c6] at H
        exact absurd H (by simp)
    · rw [if_neg c5] at H
      exact absurd H (by simp)
  · rw [if_neg c3] at H
    have c3b0 : decide ((a1.size : Int) ≤ (a0.size : Int)) = false := decide_eq_false c3
    have c3b1 : decide (a1.size ≤ a0.size) = false := decide_eq_false (fun h => c3 (Int.ofNat_le.mpr h))
    clear c3
    obtain rfl := Option.some.inj H
    go_enter Tryd.func85, Tryd.ntmps85
    go_wp2
    go_ret
    exact ⟨by first | rfl | (simp; done) | (simp [*]; done), by repeat (first | exact Drawn0.refl _ | apply Drawn0.step)⟩

end Go.Proofs.YteajidciahoboaaDoor.P
-- PzstringsliteTrimSuffix
-- PRINTED by print.py (a twelfth state) out of the translation. Not trusted: Lean checks it.
namespace Go.Proofs.YteajidciahoboaaDoor.P
open Go.RowKit Go.Proofs.YteajidciahoboaaDoorW.PrintWords Go.Proofs.YteajidciahoboaaDoorW.PrintLast Go.Proofs.YteajidciahoboaaDoorW.PrintMore
attribute [local go_sem] max2_int min2_int max_two min_two max_three min_three max_four min_four   -- for this text's walks alone
set_option linter.unusedVariables false
set_option linter.unusedSimpArgs false

/-! ### stringslite_TrimSuffix: function 84 -/
def stringslite_TrimSuffix.f (a0 : ByteArray) (a1 : ByteArray) : Option (ByteArray) := (stringslite_HasSuffix.f a0 a1).bind fun t194 => (if t194 = true then (if 0 ≤ (wrap64 ((a0.size : Int) - (a1.size : Int))) then (if (wrap64 ((a0.size : Int) - (a1.size : Int))) ≤ (a0.size : Int) then (some (a0.extract 0 ((wrap64 ((a0.size : Int) - (a1.size : Int))) : Int).toNat)) else (none)) else (none)) else (some a0))
set_option maxHeartbeats 8000000 in
set_option maxRecDepth 100000 in
theorem stringslite_TrimSuffix.calls (a0 : ByteArray) (a1 : ByteArray) (r : ByteArray) (w : World) (h : stringslite_TrimSuffix.f a0 a1 = some r) :
    Calls Tryd.prog 84 #[.string a0, .string a1] w fun e w' => e = .returned (.string r) ∧ Drawn0 w w' := by
  have H : ((stringslite_HasSuffix.f a0 a1).bind fun t194 => (if t194 = true then (if 0 ≤ (wrap64 ((a0.size : Int) - (a1.size : Int))) then (if (wrap64 ((a0.size : Int) - (a1.size : Int))) ≤ (a0.size : Int) then (some (a0.extract 0 ((wrap64 ((a0.size : Int) - (a1.size : Int))) : Int).toNat)) else (none)) else (none)) else (some a0))) = some r := h
  clear h
  replace H := Option.bind_eq_some_iff.mp H
  obtain ⟨t194, A30, H⟩ := H
  replace H : (if t194 = true then (if 0 ≤ (wrap64 ((a0.size : Int) - (a1.size : Int))) then (if (wrap64 ((a0.size : Int) - (a1.size : Int))) ≤ (a0.size : Int) then (some (a0.extract 0 ((wrap64 ((a0.size : Int) - (a1.size : Int))) : Int).toNat)) else (none)) else (none)) else (some a0)) = some r := H
  have A3 := Aside0.mk A30
  clear A30
  by_cases c4 : t194 = true
  · subst c4
    have H1 : (if 0 ≤ (wrap64 ((a0.size : Int) - (a1.size : Int))) then (if (wrap64 ((a0.size : Int) - (a1.size : Int))) ≤ (a0.size : Int) then (some (a0.extract 0 ((wrap64 ((a0.size : Int) - (a1.size : Int))) : Int).toNat)) else (none)) else (none)) = some r := by rw [if_pos rfl] at H; exact H
    clear H
    have H := H1
    clear H1
    obtain ⟨ji5, hji5⟩ : ∃ j_ : Int, (wrap64 ((a0.size : Int) - (a1.size : Int))) = j_ := ⟨_, rfl⟩
    replace H : (if 0 ≤ (ji5) then (if (ji5) ≤ (a0.size : Int) then (some (a0.extract 0 ((ji5) : Int).toNat)) else (none)) else (none)) = some r := by first | (rw [hji5] at H; exact H) | (simp only [hji5] at H ⊢; exact H)
    (try rw [hji5] at A3)
    have hji5w : (IntKind.i64.wrap ((a0.size : Int) - (a1.size : Int))) = ji5 := (i64_w _).trans hji5
    by_cases c6 : 0 ≤ (ji5)
    · rw [if_pos c6] at H
      have c6b0 := eq_true c6
      have c6b1 : decide (0 ≤ (ji5)) = true := decide_eq_true c6
      clear c6
      by_cases c7 : (ji5) ≤ (a0.size : Int)
      · rw [if_pos c7] at H
        have c7b0 := eq_true c7
        have c7b1 : decide ((ji5) ≤ (a0.size : Int)) = true := decide_eq_true c7
        clear c7
        obtain rfl := Option.some.inj H
        go_enter Tryd.func84, Tryd.ntmps84
        go_wp2_with (first | ((with_reducible refine gate_callee (f := 85) rfl ?_); refine goesL_ (some 7) rfl rfl Tryd.func85 (by kernel_rfl) rfl #[.string a0, .string a1] rfl (by (try simp only [List.map_toArray, List.map_cons, List.map_nil]); first | done | rfl | (simp only [List.length_drop, List.length_take]; rfl)) ?_; (with_reducible refine (stringslite_HasSuffix.calls a0 a1 true _ A3.out).mono ?_); rintro e w' ⟨rfl, ⟨nd, rfl⟩⟩; refine ⟨_, rfl, ?_⟩))
        go_ret
        exact ⟨by first | rfl | (simp; done) | (simp only [← hji5] <;> (first | rfl | simp)) | (simp [*]; done), by repeat (first | exact Drawn0.refl _ | apply Drawn0.step)⟩
      · rw [if_neg c7] at H
        exact absurd H (by simp)
    · rw [if_neg c6] at H
      exact absurd H (by simp)
  · replace c4 := Bool.eq_false_iff.mpr c4
    subst c4
    have H1 : (some a0) = some r := by rw [if_neg (show ¬ (false = true) by decide)] at H; exact H
    clear H
    have H := H1
    clear H1
    obtain rfl := Option.some.inj H
    go_enter Tryd.func84, Tryd.ntmps84
    go_wp2_with (first | ((with_reducible refine gate_callee (f := 85) rfl ?_); refine goesL_ (some 7) rfl rfl Tryd.func85 (by kernel_rfl) rfl #[.string a0, .string a1] rfl (by (try simp only [List.map_toArray, List.map_cons, List.map_nil]); first | done | rfl | (simp only [List.length_drop, List.length_take]; rfl)) ?_; (with_reducible refine (stringslite_HasSuffix.calls a0 a1 false _ A3.out).mono ?_); rintro e w' ⟨rfl, ⟨nd, rfl⟩⟩; refine ⟨_, rfl, ?_⟩))
    go_ret
    exact ⟨by first | rfl | (simp; done) | (simp [*]; done), by repeat (first | exact Drawn0.refl _ | apply Drawn0.step)⟩

end Go.Proofs.YteajidciahoboaaDoor.P
-- PzstringsTrimSuffix
-- PRINTED by print.py (a twelfth state) out of the translation. Not trusted: Lean checks it.
namespace Go.Proofs.YteajidciahoboaaDoor.P
open Go.RowKit Go.Proofs.YteajidciahoboaaDoorW.PrintWords Go.Proofs.YteajidciahoboaaDoorW.PrintLast Go.Proofs.YteajidciahoboaaDoorW.PrintMore
attribute [local go_sem] max2_int min2_int max_two min_two max_three min_three max_four min_four   -- for this text's walks alone
set_option linter.unusedVariables false
set_option linter.unusedSimpArgs false

/-! ### strings_TrimSuffix: function 59 -/
def strings_TrimSuffix.f (a0 : ByteArray) (a1 : ByteArray) : Option (ByteArray) := (stringslite_TrimSuffix.f a0 a1).bind fun t195 => (some t195)
set_option maxHeartbeats 8000000 in
set_option maxRecDepth 100000 in
theorem strings_TrimSuffix.calls (a0 : ByteArray) (a1 : ByteArray) (r : ByteArray) (w : World) (h : strings_TrimSuffix.f a0 a1 = some r) :
    Calls Tryd.prog 59 #[.string a0, .string a1] w fun e w' => e = .returned (.string r) ∧ Drawn0 w w' := by
  have H : ((stringslite_TrimSuffix.f a0 a1).bind fun t195 => (some t195)) = some r := h
  clear h
  replace H := Option.bind_eq_some_iff.mp H
  obtain ⟨t195, A30, H⟩ := H
  replace H : (some t195) = some r := H
  have A3 := Aside0.mk A30
  clear A30
  obtain rfl := Option.some.inj H
  go_enter Tryd.func59, Tryd.ntmps59
  go_wp2_with (first | ((with_reducible refine gate_callee (f := 84) rfl ?_); refine goesL_ (some 7) rfl rfl Tryd.func84 (by kernel_rfl) rfl #[.string a0, .string a1] rfl (by (try simp only [List.map_toArray, List.map_cons, List.map_nil]); first | done | rfl | (simp only [List.length_drop, List.length_take]; rfl)) ?_; (with_reducible refine (stringslite_TrimSuffix.calls a0 a1 t195 _ A3.out).mono ?_); rintro e w' ⟨rfl, ⟨nd, rfl⟩⟩; refine ⟨_, rfl, ?_⟩))
  go_ret
  exact ⟨by first | rfl | (simp; done) | (simp [*]; done), by repeat (first | exact Drawn0.refl _ | apply Drawn0.step)⟩

end Go.Proofs.YteajidciahoboaaDoor.P
-- PzstringsHasSuffix
-- PRINTED by print.py (a twelfth state) out of the translation. Not trusted: Lean checks it.
namespace Go.Proofs.YteajidciahoboaaDoor.P
open Go.RowKit Go.Proofs.YteajidciahoboaaDoorW.PrintWords Go.Proofs.YteajidciahoboaaDoorW.PrintLast Go.Proofs.YteajidciahoboaaDoorW.PrintMore
attribute [local go_sem] max2_int min2_int max_two min_two max_three min_three max_four min_four   -- for this text's walks alone
set_option linter.unusedVariables false
set_option linter.unusedSimpArgs false

/-! ### strings_HasSuffix: function 60 -/
def strings_HasSuffix.f (a0 : ByteArray) (a1 : ByteArray) : Option (Bool) := (stringslite_HasSuffix.f a0 a1).bind fun t196 => (some t196)
set_option maxHeartbeats 8000000 in
set_option maxRecDepth 100000 in
theorem strings_HasSuffix.calls (a0 : ByteArray) (a1 : ByteArray) (r : Bool) (w : World) (h : strings_HasSuffix.f a0 a1 = some r) :
    Calls Tryd.prog 60 #[.string a0, .string a1] w fun e w' => e = .returned (.bool r) ∧ Drawn0 w w' := by
  have H : ((stringslite_HasSuffix.f a0 a1).bind fun t196 => (some t196)) = some r := h
  clear h
  replace H := Option.bind_eq_some_iff.mp H
  obtain ⟨t196, A30, H⟩ := H
  replace H : (some t196) = some r := H
  have A3 := Aside0.mk A30
  clear A30
  obtain rfl := Option.some.inj H
  go_enter Tryd.func60, Tryd.ntmps60
  go_wp2_with (first | ((with_reducible refine gate_callee (f := 85) rfl ?_); refine goesL_ (some 7) rfl rfl Tryd.func85 (by kernel_rfl) rfl #[.string a0, .string a1] rfl (by (try simp only [List.map_toArray, List.map_cons, List.map_nil]); first | done | rfl | (simp only [List.length_drop, List.length_take]; rfl)) ?_; (with_reducible refine (stringslite_HasSuffix.calls a0 a1 t196 _ A3.out).mono ?_); rintro e w' ⟨rfl, ⟨nd, rfl⟩⟩; refine ⟨_, rfl, ?_⟩))
  go_ret
  exact ⟨by first | rfl | (simp; done) | (simp [*]; done), by repeat (first | exact Drawn0.refl _ | apply Drawn0.step)⟩

end Go.Proofs.YteajidciahoboaaDoor.P
-- Pzbasicsix
-- PRINTED by print.py (a twelfth state) out of the translation. Not trusted: Lean checks it.
namespace Go.Proofs.YteajidciahoboaaDoor.P
open Go.RowKit Go.Proofs.YteajidciahoboaaDoorW.PrintWords Go.Proofs.YteajidciahoboaaDoorW.PrintLast Go.Proofs.YteajidciahoboaaDoorW.PrintMore
attribute [local go_sem] max2_int min2_int max_two min_two max_three min_three max_four min_four   -- for this text's walks alone
set_option linter.unusedVariables false
set_option linter.unusedSimpArgs false

/-! ### basic_six: function 61 -/
mutual
def basic_six.j0 : Nat → Int → Bool → Option (Int)
  | 0, _, _ => none
  | k + 1, x0, x3 => if x3 = true then (some ((x0 - 65) % 256)) else (if x0 ≥ 97 then (basic_six.j1 k x0 (decide (x0 ≤ 122))) else (basic_six.j1 k x0 false))
def basic_six.j1 : Nat → Int → Bool → Option (Int)
  | 0, _, _ => none
  | k + 1, x0, x13 => if x13 = true then (some (((x0 - 97) % 256) + 26)) else (if x0 ≥ 48 then (basic_six.j2 k x0 (decide (x0 ≤ 57))) else (basic_six.j2 k x0 false))
def basic_six.j2 : Nat → Int → Bool → Option (Int)
  | 0, _, _ => none
  | k + 1, x0, x24 => if x24 = true then (some (((x0 - 48) % 256) + 52)) else (if x0 = 43 then (some 62) else (if x0 = 47 then (some 63) else (some (-1))))
end
def basic_six.f (k : Nat) (a0 : Int) : Option (Int) := if a0 ≥ 65 then (basic_six.j0 k a0 (decide (a0 ≤ 90))) else (basic_six.j0 k a0 false)
theorem basic_six.mono_l : ∀ k, (∀ y0 y1, LeO (basic_six.j0 k y0 y1) (basic_six.j0 (k + 1) y0 y1)) ∧ (∀ y0 y1, LeO (basic_six.j1 k y0 y1) (basic_six.j1 (k + 1) y0 y1)) ∧ (∀ y0 y1, LeO (basic_six.j2 k y0 y1) (basic_six.j2 (k + 1) y0 y1))
  | 0 => ⟨fun _ _ r h => by simp [basic_six.j0] at h, fun _ _ r h => by simp [basic_six.j1] at h, fun _ _ r h => by simp [basic_six.j2] at h⟩
  | k + 1 => by
    obtain ⟨ih0, ih1, ih2⟩ := basic_six.mono_l k
    refine ⟨?_, ?_, ?_⟩
    · intro y0 y1
      unfold basic_six.j0
      repeat' first
      | (with_reducible exact ih0 _ _)
      | (with_reducible exact ih1 _ _)
      | (with_reducible exact ih2 _ _)
      | (with_reducible exact LeO.refl _)
      | (with_reducible exact LeO.none _)
      | (with_reducible refine LeO.ite ?_ ?_)
      | (with_reducible refine LeO.bind ?_ (fun _ => ?_))
      | exact ih0 _ _
      | exact ih1 _ _
      | exact ih2 _ _
      | exact LeO.none _
      | refine LeO.ite ?_ ?_
      | refine LeO.bind ?_ (fun _ => ?_)
    · intro y0 y1
      unfold basic_six.j1
      repeat' first
      | (with_reducible exact ih0 _ _)
      | (with_reducible exact ih1 _ _)
      | (with_reducible exact ih2 _ _)
      | (with_reducible exact LeO.refl _)
      | (with_reducible exact LeO.none _)
      | (with_reducible refine LeO.ite ?_ ?_)
      | (with_reducible refine LeO.bind ?_ (fun _ => ?_))
      | exact ih0 _ _
      | exact ih1 _ _
      | exact ih2 _ _
      | exact LeO.none _
      | refine LeO.ite ?_ ?_
      | refine LeO.bind ?_ (fun _ => ?_)
    · intro y0 y1
      unfold basic_six.j2
      repeat' first
      | (with_reducible exact ih0 _ _)
      | (with_reducible exact ih1 _ _)
      | (with_reducible exact ih2 _ _)
      | (with_reducible exact LeO.refl _)
      | (with_reducible exact LeO.none _)
      | (with_reducible refine LeO.ite ?_ ?_)
      | (with_reducible refine LeO.bind ?_ (fun _ => ?_))
      | exact ih0 _ _
      | exact ih1 _ _
      | exact ih2 _ _
      | exact LeO.none _
      | refine LeO.ite ?_ ?_
      | refine LeO.bind ?_ (fun _ => ?_)
theorem basic_six.mono : ∀ a0 k, LeO (basic_six.f k a0) (basic_six.f (k + 1) a0) := by
  intro a0 k
  obtain ⟨ih0, ih1, ih2⟩ := basic_six.mono_l k
  unfold basic_six.f
  repeat' first
      | (with_reducible exact ih0 _ _)
      | (with_reducible exact ih1 _ _)
      | (with_reducible exact ih2 _ _)
      | (with_reducible exact LeO.refl _)
      | (with_reducible exact LeO.none _)
      | (with_reducible refine LeO.ite ?_ ?_)
      | (with_reducible refine LeO.bind ?_ (fun _ => ?_))
      | exact ih0 _ _
      | exact ih1 _ _
      | exact ih2 _ _
      | exact LeO.none _
      | refine LeO.ite ?_ ?_
      | refine LeO.bind ?_ (fun _ => ?_)
set_option maxHeartbeats 8000000 in
set_option maxRecDepth 100000 in
theorem basic_six.calls (k : Nat) (a0 : Int) (r : Int) (w : World) (h : basic_six.f k a0 = some r) :
    Calls Tryd.prog 61 #[.int .u8 a0] w fun e w' => e = .returned (.int .i64 r) ∧ Drawn0 w w' := by
  have H : (if a0 ≥ 65 then (basic_six.j0 k a0 (decide (a0 ≤ 90))) else (basic_six.j0 k a0 false)) = some r := h
  clear h
  have HC2 := Aside0.mk H
  clear H
  go_enter Tryd.func61, Tryd.ntmps61
  go_upto_region 1 with (fail)
  go_cut [3] (fun v3 wc => ∃ (kq : Nat) (x3_1 : Bool), v3 = .bool x3_1 ∧ Aside0 (basic_six.j0 kq a0 x3_1 = some r) ∧ Aside0 (kq ≤ k) ∧ Drawn0 w wc)
  case first =>
    have H := HC2.out
    clear HC2
    by_cases c3 : a0 ≥ 65
    · rw [if_pos c3] at H
      have c3b0 : decide (65 ≤ a0) = true := decide_eq_true c3
      clear c3
      (first | rw [c3b0] | (simp only [i64_w, i32_w]; rw [c3b0]) | skip)
      have H' := Aside0.mk H
      clear H
      go_wp2
      go_meet
      case rel => exact ⟨_, (decide (a0 ≤ 90)), (by first | rfl | (simp; done) | (simp [*]; done)), H', ⟨by first | omega | exact Nat.le_refl _⟩, by repeat (first | exact Drawn0.refl _ | apply Drawn0.step)⟩
    · rw [if_neg c3] at H
      have c3b0 : decide (65 ≤ a0) = false := decide_eq_false c3
      clear c3
      (first | rw [c3b0] | (simp only [i64_w, i32_w]; rw [c3b0]) | skip)
      have H' := Aside0.mk H
      clear H
      go_wp2
      go_meet
      case rel => exact ⟨_, (false), (by first | rfl | (simp; done) | (simp [*]; done)), H', ⟨by first | omega | exact Nat.le_refl _⟩, by repeat (first | exact Drawn0.refl _ | apply Drawn0.step)⟩
  case rest =>
    clear HC2
    try clear p2
    try clear c3
    try clear c3b0
    obtain ⟨kq, x3_1, rfl, HA, HJ1, ⟨mc1, rfl⟩⟩ := hcut
    cases kq with
    | zero => exact absurd HA.out (by simp [basic_six.j0])
    | succ kj1 =>
      have H := HA.out
      clear HA
      simp only [basic_six.j0] at H
      by_cases c4 : x3_1 = true
      · subst c4
        have H1 : (some ((a0 - 65) % 256)) = some r := by rw [if_pos rfl] at H; exact H
        clear H
        have H := H1
        clear H1
        obtain rfl := Option.some.inj H
        go_wp2
        go_ret
        exact ⟨by first | rfl | (simp; done) | (simp [*]; done), by repeat (first | exact Drawn0.refl _ | apply Drawn0.step)⟩
      · replace c4 := Bool.eq_false_iff.mpr c4
        subst c4
        have H1 : (if a0 ≥ 97 then (basic_six.j1 kj1 a0 (decide (a0 ≤ 122))) else (basic_six.j1 kj1 a0 false)) = some r := by rw [if_neg (show ¬ (false = true) by decide)] at H; exact H
        clear H
        have H := H1
        clear H1
        have HC5 := Aside0.mk H
        clear H
        go_upto_region 3 with (fail)
        go_cut [13] (fun v13 wc => ∃ (kq : Nat) (x13_4 : Bool), v13 = .bool x13_4 ∧ Aside0 (basic_six.j1 kq a0 x13_4 = some r) ∧ Aside0 (kq ≤ kj1) ∧ Drawn0 w wc)
        case first =>
          have H := HC5.out
          clear HC5
          by_cases c6 : a0 ≥ 97
          · rw [if_pos c6] at H
            have c6b0 : decide (97 ≤ a0) = true := decide_eq_true c6
            clear c6
            (first | rw [c6b0] | (simp only [i64_w, i32_w]; rw [c6b0]) | skip)
            have H' := Aside0.mk H
            clear H
            go_wp2
            go_meet
            case rel => exact ⟨_, (decide (a0 ≤ 122)), (by first | rfl | (simp; done) | (simp [*]; done)), H', ⟨by have := HJ1.out; first | omega | exact Nat.le_refl _⟩, by repeat (first | exact Drawn0.refl _ | apply Drawn0.step)⟩
          · rw [if_neg c6] at H
            have c6b0 : decide (97 ≤ a0) = false := decide_eq_false c6
            clear c6
            (first | rw [c6b0] | (simp only [i64_w, i32_w]; rw [c6b0]) | skip)
            have H' := Aside0.mk H
            clear H
            go_wp2
            go_meet
            case rel => exact ⟨_, (false), (by first | rfl | (simp; done) | (simp [*]; done)), H', ⟨by have := HJ1.out; first | omega | exact Nat.le_refl _⟩, by repeat (first | exact Drawn0.refl _ | apply Drawn0.step)⟩
        case rest =>
          clear HC5
          try clear c1
          try clear p2
          try clear c3
          try clear c3b0
          try clear c4
          try clear c6
          try clear c6b0
          try clear p2
          obtain ⟨kq, x13_4, rfl, HA, HJ4, ⟨mc4, rfl⟩⟩ := hcut
          cases kq with
          | zero => exact absurd HA.out (by simp [basic_six.j1])
          | succ kj4 =>
            have H := HA.out
            clear HA
            simp only [basic_six.j1] at H
            by_cases c7 : x13_4 = true
            · subst c7
              have H1 : (some (((a0 - 97) % 256) + 26)) = some r := by rw [if_pos rfl] at H; exact H
              clear H
              have H := H1
              clear H1
              obtain rfl := Option.some.inj H
              go_wp2
              go_ret
              exact ⟨by first | rfl | (simp; done) | (simp [*]; done), by repeat (first | exact Drawn0.refl _ | apply Drawn0.step)⟩
            · replace c7 := Bool.eq_false_iff.mpr c7
              subst c7
              have H1 : (if a0 ≥ 48 then (basic_six.j2 kj4 a0 (decide (a0 ≤ 57))) else (basic_six.j2 kj4 a0 false)) = some r := by rw [if_neg (show ¬ (false = true) by decide)] at H; exact H
              clear H
              have H := H1
              clear H1
              have HC8 := Aside0.mk H
              clear H
              go_upto_region 5 with (fail)
              go_cut [24] (fun v24 wc => ∃ (kq : Nat) (x24_7 : Bool), v24 = .bool x24_7 ∧ Aside0 (basic_six.j2 kq a0 x24_7 = some r) ∧ Aside0 (kq ≤ kj4) ∧ Drawn0 w wc)
              case first =>
                have H := HC8.out
                clear HC8
                by_cases c9 : a0 ≥ 48
                · rw [if_pos c9] at H
                  have c9b0 : decide (48 ≤ a0) = true := decide_eq_true c9
                  clear c9
                  (first | rw [c9b0] | (simp only [i64_w, i32_w]; rw [c9b0]) | skip)
                  have H' := Aside0.mk H
                  clear H
                  go_wp2
                  go_meet
                  case rel => exact ⟨_, (decide (a0 ≤ 57)), (by first | rfl | (simp; done) | (simp [*]; done)), H', ⟨by have := HJ1.out; have := HJ4.out; first | omega | exact Nat.le_refl _⟩, by repeat (first | exact Drawn0.refl _ | apply Drawn0.step)⟩
                · rw [if_neg c9] at H
                  have c9b0 : decide (48 ≤ a0) = false := decide_eq_false c9
                  clear c9
                  (first | rw [c9b0] | (simp only [i64_w, i32_w]; rw [c9b0]) | skip)
                  have H' := Aside0.mk H
                  clear H
                  go_wp2
                  go_meet
                  case rel => exact ⟨_, (false), (by first | rfl | (simp; done) | (simp [*]; done)), H', ⟨by have := HJ1.out; have := HJ4.out; first | omega | exact Nat.le_refl _⟩, by repeat (first | exact Drawn0.refl _ | apply Drawn0.step)⟩
              case rest =>
                clear HC8
                try clear c1
                try clear p2
                try clear c3
                try clear c3b0
                try clear c4
                try clear c6
                try clear c6b0
                try clear c7
                try clear c9
                try clear c9b0
                try clear p2
                obtain ⟨kq, x24_7, rfl, HA, HJ7, ⟨mc7, rfl⟩⟩ := hcut
                cases kq with
                | zero => exact absurd HA.out (by simp [basic_six.j2])
                | succ kj7 =>
                  have H := HA.out
                  clear HA
                  simp only [basic_six.j2] at H
                  by_cases c10 : x24_7 = true
                  · subst c10
                    have H1 : (some (((a0 - 48) % 256) + 52)) = some r := by rw [if_pos rfl] at H; exact H
                    clear H
                    have H := H1
                    clear H1
                    obtain rfl := Option.some.inj H
                    go_wp2
                    go_ret
                    exact ⟨by first | rfl | (simp; done) | (simp [*]; done), by repeat (first | exact Drawn0.refl _ | apply Drawn0.step)⟩
                  · replace c10 := Bool.eq_false_iff.mpr c10
                    subst c10
                    have H1 : (if a0 = 43 then (some 62) else (if a0 = 47 then (some 63) else (some (-1)))) = some r := by rw [if_neg (show ¬ (false = true) by decide)] at H; exact H
                    clear H
                    have H := H1
                    clear H1
                    by_cases c11 : a0 = 43
                    · rw [if_pos c11] at H
                      have c11b0 : (a0 == 43) = true := beq_iff_eq.mpr c11
                      have c11b1 : (a0 != 43) = false := bne_eq_false_iff_eq.mpr c11
                      clear c11
                      obtain rfl := Option.some.inj H
                      go_wp2
                      go_ret
                      exact ⟨by first | rfl | (simp; done) | (simp [*]; done), by repeat (first | exact Drawn0.refl _ | apply Drawn0.step)⟩
                    · rw [if_neg c11] at H
                      have c11b0 : (a0 == 43) = false := beq_eq_false_iff_ne.mpr c11
                      have c11b1 : (a0 != 43) = true := bne_iff_ne.mpr c11
                      by_cases c12 : a0 = 47
                      · rw [if_pos c12] at H
                        have c12b0 : (a0 == 47) = true := beq_iff_eq.mpr c12
                        have c12b1 : (a0 != 47) = false := bne_eq_false_iff_eq.mpr c12
                        clear c12
                        obtain rfl := Option.some.inj H
                        go_wp2
                        go_ret
                        exact ⟨by first | rfl | (simp; done) | (simp [*]; done), by repeat (first | exact Drawn0.refl _ | apply Drawn0.step)⟩
                      · rw [if_neg c12] at H
                        have c12b0 : (a0 == 47) = false := beq_eq_false_iff_ne.mpr c12
                        have c12b1 : (a0 != 47) = true := bne_iff_ne.mpr c12
                        obtain rfl := Option.some.inj H
                        go_wp2
                        go_ret
                        exact ⟨by first | rfl | (simp; done) | (simp [*]; done), by repeat (first | exact Drawn0.refl _ | apply Drawn0.step)⟩

end Go.Proofs.YteajidciahoboaaDoor.P
-- PzbasicDecode
-- PRINTED by print.py (a twelfth state) out of the translation. Not trusted: Lean checks it.
namespace Go.Proofs.YteajidciahoboaaDoor.P
open Go.RowKit Go.Proofs.YteajidciahoboaaDoorW.PrintWords Go.Proofs.YteajidciahoboaaDoorW.PrintLast Go.Proofs.YteajidciahoboaaDoorW.PrintMore
attribute [local go_sem] max2_int min2_int max_two min_two max_three min_three max_four min_four   -- for this text's walks alone
set_option linter.unusedVariables false
set_option linter.unusedSimpArgs false

/-! ### basic_Decode: function 27 -/
mutual
def basic_Decode.j0 : Nat → ByteArray → Bool → Option (List Int × Int)
  | 0, _, _ => none
  | k + 1, x4, x42 => if x42 = true then (some (([] : List Int), 5)) else (basic_Decode.l0 k x4 ([] : List Int) 0 0 (x4.size : Int) 0)
def basic_Decode.l0 : Nat → ByteArray → List Int → Int → Int → Int → Int → Option (List Int × Int)
  | 0, _, _, _, _, _, _ => none
  | k + 1, x4, x5, x6, x7, x44, x45 => if x45 < x44 then (if 0 ≤ x45 then (if x45 < (x4.size : Int) then ((basic_six.f k (bt x4 x45)).bind fun t200 => (if t200 < 0 then (some (([] : List Int), 5)) else (if (wrap64 (x7 + 6)) ≥ 8 then (if 0 ≤ (wrap64 ((wrap64 (x7 + 6)) - 8)) then (if x5.length < 140737488355328 then (basic_Decode.l0 k x4 (x5 ++ [(shr .i64 (Go.bits .or .i64 (wrap64 (x6 * 64)) t200) (wrap64 ((wrap64 (x7 + 6)) - 8))) % 256]) (Go.bits .and .i64 (Go.bits .or .i64 (wrap64 (x6 * 64)) t200) (wrap64 ((shl .i64 1 (wrap64 ((wrap64 (x7 + 6)) - 8))) - 1))) (wrap64 ((wrap64 (x7 + 6)) - 8)) x44 (wrap64 (x45 + 1))) else (none)) else (none)) else (basic_Decode.l0 k x4 x5 (Go.bits .or .i64 (wrap64 (x6 * 64)) t200) (wrap64 (x7 + 6)) x44 (wrap64 (x45 + 1)))))) else (none)) else (none)) else (if x6 = 0 then (some (x5, 0)) else (some (([] : List Int), 5)))
end
def basic_Decode.f (k : Nat) (a0 : ByteArray) : Option (List Int × Int) := if (a0.size : Int) > 131072 then (some (([] : List Int), 3)) else (if ((a0.size : Int) % 4) = 0 then ((strings_TrimSuffix.f a0 (⟨#[61]⟩ : ByteArray)).bind fun t197 => ((strings_TrimSuffix.f t197 (⟨#[61]⟩ : ByteArray)).bind fun t198 => (if ((t198.size : Int) % 4) = 1 then (basic_Decode.j0 k t198 true) else ((strings_HasSuffix.f t198 (⟨#[61]⟩ : ByteArray)).bind fun t199 => (if t199 = true then (basic_Decode.j0 k t198 true) else (basic_Decode.j0 k t198 ((wrap64 ((a0.size : Int) - (t198.size : Int))) != ((4 - ((t198.size : Int) % 4)) % 4)))))))) else (some (([] : List Int), 5)))
theorem basic_Decode.mono_l : ∀ k, (∀ y0 y1, LeO (basic_Decode.j0 k y0 y1) (basic_Decode.j0 (k + 1) y0 y1)) ∧ (∀ y0 y1 y2 y3 y4 y5, LeO (basic_Decode.l0 k y0 y1 y2 y3 y4 y5) (basic_Decode.l0 (k + 1) y0 y1 y2 y3 y4 y5))
  | 0 => ⟨fun _ _ r h => by simp [basic_Decode.j0] at h, fun _ _ _ _ _ _ r h => by simp [basic_Decode.l0] at h⟩
  | k + 1 => by
    obtain ⟨ih0, ih1⟩ := basic_Decode.mono_l k
    refine ⟨?_, ?_⟩
    · intro y0 y1
      unfold basic_Decode.j0
      repeat' first
      | (with_reducible exact ih0 _ _)
      | (with_reducible exact ih1 _ _ _ _ _ _)
      | (with_reducible exact basic_six.mono _ _)
      | (with_reducible exact LeO.refl _)
      | (with_reducible exact LeO.none _)
      | (with_reducible refine LeO.ite ?_ ?_)
      | (with_reducible refine LeO.bind ?_ (fun _ => ?_))
      | exact ih0 _ _
      | exact ih1 _ _ _ _ _ _
      | exact basic_six.mono _ _
      | exact LeO.none _
      | refine LeO.ite ?_ ?_
      | refine LeO.bind ?_ (fun _ => ?_)
    · intro y0 y1 y2 y3 y4 y5
      unfold basic_Decode.l0
      repeat' first
      | (with_reducible exact ih0 _ _)
      | (with_reducible exact ih1 _ _ _ _ _ _)
      | (with_reducible exact basic_six.mono _ _)
      | (with_reducible exact LeO.refl _)
      | (with_reducible exact LeO.none _)
      | (with_reducible refine LeO.ite ?_ ?_)
      | (with_reducible refine LeO.bind ?_ (fun _ => ?_))
      | exact ih0 _ _
      | exact ih1 _ _ _ _ _ _
      | exact basic_six.mono _ _
      | exact LeO.none _
      | refine LeO.ite ?_ ?_
      | refine LeO.bind ?_ (fun _ => ?_)
theorem basic_Decode.mono : ∀ a0 k, LeO (basic_Decode.f k a0) (basic_Decode.f (k + 1) a0) := by
  intro a0 k
  obtain ⟨ih0, ih1⟩ := basic_Decode.mono_l k
  unfold basic_Decode.f
  repeat' first
      | (with_reducible exact ih0 _ _)
      | (with_reducible exact ih1 _ _ _ _ _ _)
      | (with_reducible exact basic_six.mono _ _)
      | (with_reducible exact LeO.refl _)
      | (with_reducible exact LeO.none _)
      | (with_reducible refine LeO.ite ?_ ?_)
      | (with_reducible refine LeO.bind ?_ (fun _ => ?_))
      | exact ih0 _ _
      | exact ih1 _ _ _ _ _ _
      | exact basic_six.mono _ _
      | exact LeO.none _
      | refine LeO.ite ?_ ?_
      | refine LeO.bind ?_ (fun _ => ?_)
set_option maxHeartbeats 8000000 in
set_option maxRecDepth 100000 in
theorem basic_Decode.calls (k : Nat) (a0 : ByteArray) (r1 : List Int) (r2 : Int) (w : World) (h : basic_Decode.f k a0 = some (r1, r2)) :
    Calls Tryd.prog 27 #[.string a0] w fun e w' => ∃ v0_ : Value, e = .returned (.tuple #[v0_, .int .i64 r2]) ∧ Kd.R (Kd.int .u8) 5 w' w.heap.size (fun _ => True) v0_ r1 ∧ Below w.heap.size w w' := by
  have HB := Aside0.mk (Below.refl w.heap.size w)
  have H : (if (a0.size : Int) > 131072 then (some (([] : List Int), 3)) else (if ((a0.size : Int) % 4) = 0 then ((strings_TrimSuffix.f a0 (⟨#[61]⟩ : ByteArray)).bind fun t197 => ((strings_TrimSuffix.f t197 (⟨#[61]⟩ : ByteArray)).bind fun t198 => (if ((t198.size : Int) % 4) = 1 then (basic_Decode.j0 k t198 true) else ((strings_HasSuffix.f t198 (⟨#[61]⟩ : ByteArray)).bind fun t199 => (if t199 = true then (basic_Decode.j0 k t198 true) else (basic_Decode.j0 k t198 ((wrap64 ((a0.size : Int) - (t198.size : Int))) != ((4 - ((t198.size : Int) % 4)) % 4)))))))) else (some (([] : List Int), 5)))) = some (r1, r2) := h
  clear h
  by_cases c2 : (a0.size : Int) > 131072
  · rw [if_pos c2] at H
    have c2b0 : decide (131072 < (a0.size : Int)) = true := decide_eq_true c2
    have c2b1 : decide (131072 < a0.size) = true := decide_eq_true (by omega)
    clear c2
    simp only [Option.some.injEq, Prod.mk.injEq] at H
    obtain ⟨rfl, rfl⟩ := H
    go_enter Tryd.func27, Tryd.ntmps27
    go_wp2
    go_ret2
    exact ⟨_, by first | rfl | (simp [errW_none, errW_some] <;> rfl) | (simp [*, errW_none, errW_some] <;> rfl), by first | exact Kd.R_nil _ _ _ _ _ | exact Kd.N_nil _ _ _ _ _ | exact Kd.V_nil _ _ _ _ _ | exact Kd.Q_nil _ _ _ _ _ | exact Kd.S_nil _ _ _ _ _, by repeat (first | (with_reducible first | exact HB.out | apply below_alloc | apply pw_below_drewN | apply below_drew1) | exact HB.out)⟩
  · rw [if_neg c2] at H
    have c2b0 : decide (131072 < (a0.size : Int)) = false := decide_eq_false c2
    have c2b1 : decide (131072 < a0.size) = false := decide_eq_false (by omega)
    clear c2
    by_cases c3 : ((a0.size : Int) % 4) = 0
    · rw [if_pos c3] at H
      have c3b0 : (((a0.size : Int) % 4) == 0) = true := beq_iff_eq.mpr c3
      have c3b1 : (((a0.size : Int) % 4) != 0) = false := bne_eq_false_iff_eq.mpr c3
      clear c3
      replace H := Option.bind_eq_some_iff.mp H
      obtain ⟨t197, A40, H⟩ := H
      replace H : ((strings_TrimSuffix.f t197 (⟨#[61]⟩ : ByteArray)).bind fun t198 => (if ((t198.size : Int) % 4) = 1 then (basic_Decode.j0 k t198 true) else ((strings_HasSuffix.f t198 (⟨#[61]⟩ : ByteArray)).bind fun t199 => (if t199 = true then (basic_Decode.j0 k t198 true) else (basic_Decode.j0 k t198 ((wrap64 ((a0.size : Int) - (t198.size : Int))) != ((4 - ((t198.size : Int) % 4)) % 4))))))) = some (r1, r2) := H
      have A4 := Aside0.mk A40
      clear A40
      replace H := Option.bind_eq_some_iff.mp H
      obtain ⟨t198, A50, H⟩ := H
      replace H : (if ((t198.size : Int) % 4) = 1 then (basic_Decode.j0 k t198 true) else ((strings_HasSuffix.f t198 (⟨#[61]⟩ : ByteArray)).bind fun t199 => (if t199 = true then (basic_Decode.j0 k t198 true) else (basic_Decode.j0 k t198 ((wrap64 ((a0.size : Int) - (t198.size : Int))) != ((4 - ((t198.size : Int) % 4)) % 4)))))) = some (r1, r2) := H
      have A5 := Aside0.mk A50
      clear A50
      have HC6 := Aside0.mk H
      clear H
      go_enter Tryd.func27, Tryd.ntmps27
      go_upto_region 6 with (first | ((with_reducible refine gate_callee (f := 59) rfl ?_); refine goesL_ (some 20) rfl rfl Tryd.func59 (by kernel_rfl) rfl #[.string a0, .string (⟨#[61]⟩ : ByteArray)] rfl (by (try simp only [List.map_toArray, List.map_cons, List.map_nil]); first | done | rfl | (simp only [List.length_drop, List.length_take]; rfl)) ?_; (with_reducible refine (strings_TrimSuffix.calls a0 (⟨#[61]⟩ : ByteArray) t197 _ A4.out).mono ?_); rintro e w' ⟨rfl, ⟨nd, rfl⟩⟩; refine ⟨_, rfl, ?_⟩) | ((with_reducible refine gate_callee (f := 59) rfl ?_); refine goesL_ (some 21) rfl rfl Tryd.func59 (by kernel_rfl) rfl #[.string t197, .string (⟨#[61]⟩ : ByteArray)] rfl (by (try simp only [List.map_toArray, List.map_cons, List.map_nil]); first | done | rfl | (simp only [List.length_drop, List.length_take]; rfl)) ?_; (with_reducible refine (strings_TrimSuffix.calls t197 (⟨#[61]⟩ : ByteArray) t198 _ A5.out).mono ?_); rintro e w' ⟨rfl, ⟨nd, rfl⟩⟩; refine ⟨_, rfl, ?_⟩))
      (try simp only [Act.put, List.setIfInBounds_toArray, List.set_cons_zero, List.set_cons_succ])
      go_cut [42] (fun v42 wc => ∃ (kq : Nat) (x42_5 : Bool), v42 = .bool x42_5 ∧ Aside0 (basic_Decode.j0 kq t198 x42_5 = some (r1, r2)) ∧ Aside0 (kq ≤ k) ∧ Aside0 (Below w.heap.size w wc))
      case first =>
        have H := HC6.out
        clear HC6
        by_cases c7 : ((t198.size : Int) % 4) = 1
        · rw [if_pos c7] at H
          have c7b0 : (((t198.size : Int) % 4) == 1) = true := beq_iff_eq.mpr c7
          have c7b1 : (((t198.size : Int) % 4) != 1) = false := bne_eq_false_iff_eq.mpr c7
          clear c7
          (first | rw [c7b0] | (simp only [i64_w, i32_w]; rw [c7b0]) | skip)
          have H' := Aside0.mk H
          clear H
          go_wp2
          go_meet
          case rel => exact ⟨_, (true), (by first | rfl | (simp; done) | (simp [*]; done)), H', ⟨by first | omega | exact Nat.le_refl _⟩, ⟨by repeat (first | (with_reducible first | exact HB.out | apply below_alloc | apply pw_below_drewN | apply below_drew1) | exact HB.out)⟩⟩
        · rw [if_neg c7] at H
          have c7b0 : (((t198.size : Int) % 4) == 1) = false := beq_eq_false_iff_ne.mpr c7
          have c7b1 : (((t198.size : Int) % 4) != 1) = true := bne_iff_ne.mpr c7
          (first | rw [c7b0] | (simp only [i64_w, i32_w]; rw [c7b0]) | skip)
          replace H := Option.bind_eq_some_iff.mp H
          obtain ⟨t199, A80, H⟩ := H
          replace H : (if t199 = true then (basic_Decode.j0 k t198 true) else (basic_Decode.j0 k t198 ((wrap64 ((a0.size : Int) - (t198.size : Int))) != ((4 - ((t198.size : Int) % 4)) % 4)))) = some (r1, r2) := H
          have A8 := Aside0.mk A80
          clear A80
          by_cases c9 : t199 = true
          · subst c9
            have H1 : (basic_Decode.j0 k t198 true) = some (r1, r2) := by rw [if_pos rfl] at H; exact H
            clear H
            have H := H1
            clear H1
            have H' := Aside0.mk H
            clear H
            go_wp2_with (first | (go_at_call 60; (with_reducible refine (strings_HasSuffix.calls t198 (⟨#[61]⟩ : ByteArray) true _ A8.out).mono ?_); rintro e w' ⟨rfl, ⟨nd, rfl⟩⟩))
            go_meet
            case rel => exact ⟨_, (true), (by first | rfl | (simp; done) | (simp [*]; done)), H', ⟨by first | omega | exact Nat.le_refl _⟩, ⟨by repeat (first | (with_reducible first | exact HB.out | apply below_alloc | apply pw_below_drewN | apply below_drew1) | exact HB.out)⟩⟩
          · replace c9 := Bool.eq_false_iff.mpr c9
            subst c9
            have H1 : (basic_Decode.j0 k t198 ((wrap64 ((a0.size : Int) - (t198.size : Int))) != ((4 - ((t198.size : Int) % 4)) % 4))) = some (r1, r2) := by rw [if_neg (show ¬ (false = true) by decide)] at H; exact H
            clear H
            have H := H1
            clear H1
            have H' := Aside0.mk H
            clear H
            go_wp2_with (first | (go_at_call 60; (with_reducible refine (strings_HasSuffix.calls t198 (⟨#[61]⟩ : ByteArray) false _ A8.out).mono ?_); rintro e w' ⟨rfl, ⟨nd, rfl⟩⟩))
            go_meet
            case rel => exact ⟨_, (((wrap64 ((a0.size : Int) - (t198.size : Int))) != ((4 - ((t198.size : Int) % 4)) % 4))), (by first | rfl | (simp; done) | (simp [*]; done)), H', ⟨by first | omega | exact Nat.le_refl _⟩, ⟨by repeat (first | (with_reducible first | exact HB.out | apply below_alloc | apply pw_below_drewN | apply below_drew1) | exact HB.out)⟩⟩
      case rest =>
        clear HC6
        try clear c2
        try clear c2b0
        try clear c2b1
        try clear p2
        try clear c3
        try clear c3b0
        try clear c3b1
        try clear c5
        try clear p6
        try clear c7
        try clear c7b0
        try clear c7b1
        try clear c9
        obtain ⟨kq, x42_5, rfl, HA, HJ5, HB⟩ := hcut
        cases kq with
        | zero => exact absurd HA.out (by simp [basic_Decode.j0])
        | succ kj5 =>
          have H := HA.out
          clear HA
          simp only [basic_Decode.j0] at H
          by_cases c10 : x42_5 = true
          · subst c10
            have H1 : (some (([] : List Int), 5)) = some (r1, r2) := by rw [if_pos rfl] at H; exact H
            clear H
            have H := H1
            clear H1
            simp only [Option.some.injEq, Prod.mk.injEq] at H
            obtain ⟨rfl, rfl⟩ := H
            go_wp2
            go_ret2
            exact ⟨_, by first | rfl | (simp [errW_none, errW_some] <;> rfl) | (simp [*, errW_none, errW_some] <;> rfl), by first | exact Kd.R_nil _ _ _ _ _ | exact Kd.N_nil _ _ _ _ _ | exact Kd.V_nil _ _ _ _ _ | exact Kd.Q_nil _ _ _ _ _ | exact Kd.S_nil _ _ _ _ _, by repeat (first | (with_reducible first | exact HB.out | apply below_alloc | apply pw_below_drewN | apply below_drew1) | exact HB.out)⟩
          · replace c10 := Bool.eq_false_iff.mpr c10
            subst c10
            have H1 : (basic_Decode.l0 kj5 t198 ([] : List Int) 0 0 (t198.size : Int) 0) = some (r1, r2) := by rw [if_neg (show ¬ (false = true) by decide)] at H; exact H
            clear H
            have H := H1
            clear H1
            have H' := Aside0.mk H
            clear H
            go_wp2
            go_loopg [5, 6, 7, 45] kj5 (fun kq v5 v6 v7 v45 w' => ∃ (x5_2 : List Int) (x6_2 : Int) (x7_2 : Int) (x45_2 : Int), v6 = .int .i64 x6_2 ∧ v7 = .int .i64 x7_2 ∧ v45 = .int .i64 x45_2 ∧ Aside0 (basic_Decode.l0 kq t198 x5_2 x6_2 x7_2 (t198.size : Int) x45_2 = some (r1, r2)) ∧ Aside0 (kq ≤ kj5) ∧ Aside0 (Kd.R (Kd.int .u8) 5 w' w.heap.size (fun _ => True) v5 x5_2) ∧ Aside0 (Below w.heap.size w w'))
            case atStart => exact ⟨(([] : List Int)), (0), (0), (0), (by first | rfl | (simp; done) | (simp [*]; done)), (by first | rfl | (simp; done) | (simp [*]; done)), (by first | rfl | (simp; done) | (simp [*]; done)), H', ⟨Nat.le_refl _⟩, ⟨by first | exact Kd.R_nil _ _ _ _ _ | exact Kd.N_nil _ _ _ _ _ | exact Kd.V_nil _ _ _ _ _ | exact Kd.Q_nil _ _ _ _ _ | exact Kd.S_nil _ _ _ _ _⟩, ⟨by repeat (first | (with_reducible first | exact HB.out | apply below_alloc | apply pw_below_drewN | apply below_drew1) | exact HB.out)⟩⟩
            case round =>
              clear H'
              try clear c1
              try clear c2
              try clear c2b0
              try clear c2b1
              try clear p2
              try clear c3
              try clear c3b0
              try clear c3b1
              try clear c5
              try clear p6
              try clear c7
              try clear c7b0
              try clear c7b1
              try clear c9
              try clear c10
              try clear p2
              try clear p6
              obtain ⟨x5_2, x6_2, x7_2, x45_2, rfl, rfl, rfl, HA, HK2, HO_5, HB⟩ := hrel
              cases gk with
              | zero => exact absurd HA.out (by simp [basic_Decode.l0])
              | succ k2 =>
                have H := HA.out
                clear HA
                simp only [basic_Decode.l0] at H
                by_cases c11 : x45_2 < (t198.size : Int)
                · rw [if_pos c11] at H
                  have c11b0 : decide (x45_2 < (t198.size : Int)) = true := decide_eq_true c11
                  clear c11
                  by_cases c12 : 0 ≤ x45_2
                  · rw [if_pos c12] at H
                    have c12b0 : decide (0 ≤ x45_2) = true := decide_eq_true c12
                    clear c12
                    by_cases c13 : x45_2 < (t198.size : Int)
                    · rw [if_pos c13] at H
                      have c13b0 : decide (x45_2 < (t198.size : Int)) = true := decide_eq_true c13
                      clear c13
                      replace H := Option.bind_eq_some_iff.mp H
                      obtain ⟨t200, A150, H⟩ := H
                      replace H : (if t200 < 0 then (some (([] : List Int), 5)) else (if (wrap64 (x7_2 + 6)) ≥ 8 then (if 0 ≤ (wrap64 ((wrap64 (x7_2 + 6)) - 8)) then (if x5_2.length < 140737488355328 then (basic_Decode.l0 k2 t198 (x5_2 ++ [(shr .i64 (Go.bits .or .i64 (wrap64 (x6_2 * 64)) t200) (wrap64 ((wrap64 (x7_2 + 6)) - 8))) % 256]) (Go.bits .and .i64 (Go.bits .or .i64 (wrap64 (x6_2 * 64)) t200) (wrap64 ((shl .i64 1 (wrap64 ((wrap64 (x7_2 + 6)) - 8))) - 1))) (wrap64 ((wrap64 (x7_2 + 6)) - 8)) (t198.size : Int) (wrap64 (x45_2 + 1))) else (none)) else (none)) else (basic_Decode.l0 k2 t198 x5_2 (Go.bits .or .i64 (wrap64 (x6_2 * 64)) t200) (wrap64 (x7_2 + 6)) (t198.size : Int) (wrap64 (x45_2 + 1))))) = some (r1, r2) := H
                      have A15 := Aside0.mk A150
                      clear A150
                      by_cases c16 : t200 < 0
                      · rw [if_pos c16] at H
                        have c16b0 : decide (t200 < 0) = true := decide_eq_true c16
                        clear c16
                        simp only [Option.some.injEq, Prod.mk.injEq] at H
                        obtain ⟨rfl, rfl⟩ := H
                        have p14 : 0 ≤ (x45_2 : Int) := of_decide_eq_true (by first | (with_reducible assumption) | assumption)
                        have q14 : x45_2 < (t198.size : Int) := of_decide_eq_true (by first | (with_reducible assumption) | assumption)
                        have hx14 := bt_at t198 x45_2
                        replace p14 := eq_true p14
                        replace q14 := eq_true q14
                        go_wp2_with (first | ((with_reducible refine gate_callee (f := 61) rfl ?_); refine goesL_ (some 51) rfl rfl Tryd.func61 (by kernel_rfl) rfl #[.int .u8 (bt t198 x45_2)] rfl (by (try simp only [List.map_toArray, List.map_cons, List.map_nil]); first | done | rfl | (simp only [List.length_drop, List.length_take]; rfl)) ?_; (with_reducible refine (basic_six.calls k2 (bt t198 x45_2) t200 _ A15.out).mono ?_); rintro e w' ⟨rfl, ⟨nd, rfl⟩⟩; refine ⟨_, rfl, ?_⟩))
                        go_ret2
                        exact ⟨_, by first | rfl | (simp [errW_none, errW_some] <;> rfl) | (simp [*, errW_none, errW_some] <;> rfl), by first | exact Kd.R_nil _ _ _ _ _ | exact Kd.N_nil _ _ _ _ _ | exact Kd.V_nil _ _ _ _ _ | exact Kd.Q_nil _ _ _ _ _ | exact Kd.S_nil _ _ _ _ _, by repeat (first | (with_reducible first | exact HB.out | apply below_alloc | apply pw_below_drewN | apply below_drew1) | exact HB.out)⟩
                      · rw [if_neg c16] at H
                        have c16b0 : decide (t200 < 0) = false := decide_eq_false c16
                        clear c16
                        by_cases c17 : (wrap64 (x7_2 + 6)) ≥ 8
                        · rw [if_pos c17] at H
                          have c17b0 : decide (8 ≤ (wrap64 (x7_2 + 6))) = true := decide_eq_true c17
                          clear c17
                          obtain ⟨ji18, hji18⟩ : ∃ j_ : Int, (wrap64 ((wrap64 (x7_2 + 6)) - 8)) = j_ := ⟨_, rfl⟩
                          replace H : (if 0 ≤ (ji18) then (if x5_2.length < 140737488355328 then (basic_Decode.l0 k2 t198 (x5_2 ++ [(shr .i64 (Go.bits .or .i64 (wrap64 (x6_2 * 64)) t200) (ji18)) % 256]) (Go.bits .and .i64 (Go.bits .or .i64 (wrap64 (x6_2 * 64)) t200) (wrap64 ((shl .i64 1 (ji18)) - 1))) ji18 (t198.size : Int) (wrap64 (x45_2 + 1))) else (none)) else (none)) = some (r1, r2) := by first | (rw [hji18] at H; exact H) | (simp only [hji18] at H ⊢; exact H)
                          (try rw [hji18] at A15)
                          have hji18w : (IntKind.i64.wrap ((wrap64 (x7_2 + 6)) - 8)) = ji18 := (i64_w _).trans hji18
                          by_cases c19 : 0 ≤ (ji18)
                          · rw [if_pos c19] at H
                            have c19b0 := eq_true c19
                            have c19b1 : decide (0 ≤ (ji18)) = true := decide_eq_true c19
                            clear c19
                            obtain ⟨ji20, hji20⟩ : ∃ j_ : Int, (shr .i64 (Go.bits .or .i64 (wrap64 (x6_2 * 64)) t200) (ji18)) = j_ := ⟨_, rfl⟩
                            replace H : (if x5_2.length < 140737488355328 then (basic_Decode.l0 k2 t198 (x5_2 ++ [(ji20) % 256]) (Go.bits .and .i64 (Go.bits .or .i64 (wrap64 (x6_2 * 64)) t200) (wrap64 ((shl .i64 1 (ji18)) - 1))) ji18 (t198.size : Int) (wrap64 (x45_2 + 1))) else (none)) = some (r1, r2) := by first | (rw [hji20] at H; exact H) | (simp only [hji20] at H ⊢; exact H)
                            (try rw [hji20] at A15)
                            have hji20_ : ((Go.bits .or .i64 (wrap64 (x6_2 * 64)) t200) / 2 ^ min (ji18).toNat 64) = ji20 := hji20
                            have hji20z : (ji18) ≤ 64 → ((Go.bits .or .i64 (wrap64 (x6_2 * 64)) t200) / 2 ^ (ji18).toNat) = ji20 := shr_small hji20
                            by_cases c21 : x5_2.length < 140737488355328
                            · rw [if_pos c21] at H
                              have LMc21 := Aside0.mk c21
                              clear c21
                              obtain ⟨y201, hy201⟩ : ∃ y_ : List Int, y_ = (x5_2 ++ [(ji20) % 256]) := ⟨_, rfl⟩
                              replace H : (basic_Decode.l0 k2 t198 y201 (Go.bits .and .i64 (Go.bits .or .i64 (wrap64 (x6_2 * 64)) t200) (wrap64 ((shl .i64 1 (ji18)) - 1))) ji18 (t198.size : Int) (wrap64 (x45_2 + 1))) = some (r1, r2) := by first | (rw [hy201]; with_reducible exact H) | (have H2_ := (Option.bind_some _ _).symm.trans H; rw [hy201]; with_reducible exact H2_) | (have H2_ := (Option.bind_some _ _).symm.trans H; with_reducible exact H2_) | with_reducible exact H | (rw [hy201]; exact H) | exact H
                              have Ny201 := Aside0.mk hy201
                              clear hy201
                              have c22b0 := eq_true (of_decide_eq_true (by first | (with_reducible assumption) | assumption) : 0 ≤ (ji18))
                              obtain ⟨ji23, hji23⟩ : ∃ j_ : Int, (shl .i64 1 (ji18)) = j_ := ⟨_, rfl⟩
                              replace H : (basic_Decode.l0 k2 t198 y201 (Go.bits .and .i64 (Go.bits .or .i64 (wrap64 (x6_2 * 64)) t200) (wrap64 ((ji23) - 1))) ji18 (t198.size : Int) (wrap64 (x45_2 + 1))) = some (r1, r2) := by first | (rw [hji23] at H; exact H) | (simp only [hji23] at H ⊢; exact H)
                              (try rw [hji23] at A15)
                              have hji23_ : (IntKind.i64.wrap (1 * 2 ^ min (ji18).toNat 64)) = ji23 := hji23
                              have hji23z : (ji18) ≤ 64 → (IntKind.i64.wrap (1 * 2 ^ (ji18).toNat)) = ji23 := shl_small hji23
                              have hji23u : (IntKind.i64.wrap (2 ^ min (ji18).toNat 64)) = ji23 := by have h_ := hji23_; rw [Int.one_mul] at h_; exact h_
                              have hji23v : (ji18) ≤ 64 → (IntKind.i64.wrap (2 ^ (ji18).toNat)) = ji23 := fun hle_ => by have h_ := hji23z hle_; rw [Int.one_mul] at h_; exact h_
                              have hji23y : (wrap64 (1 * 2 ^ min (ji18).toNat 64)) = ji23 := (i64_w _).symm.trans hji23_
                              have hji23x : (ji18) ≤ 64 → (wrap64 (1 * 2 ^ (ji18).toNat)) = ji23 := fun h_ => (i64_w _).symm.trans (hji23z h_)
                              have H' := Aside0.mk H
                              clear H
                              have p14 : 0 ≤ (x45_2 : Int) := of_decide_eq_true (by first | (with_reducible assumption) | assumption)
                              have q14 : x45_2 < (t198.size : Int) := of_decide_eq_true (by first | (with_reducible assumption) | assumption)
                              have hx14 := bt_at t198 x45_2
                              replace p14 := eq_true p14
                              replace q14 := eq_true q14
                              go_wp2_with (first | ((with_reducible refine gate_callee (f := 61) rfl ?_); refine goesL_ (some 51) rfl rfl Tryd.func61 (by kernel_rfl) rfl #[.int .u8 (bt t198 x45_2)] rfl (by (try simp only [List.map_toArray, List.map_cons, List.map_nil]); first | done | rfl | (simp only [List.length_drop, List.length_take]; rfl)) ?_; (with_reducible refine (basic_six.calls k2 (bt t198 x45_2) t200 _ A15.out).mono ?_); rintro e w' ⟨rfl, ⟨nd, rfl⟩⟩; refine ⟨_, rfl, ?_⟩) | ((with_reducible refine gate_builtin (b := .append) (xs := #[.tmp 64, .tmp 69]) rfl ?_); (try (refine gate_guard (by rfl) ?_; dsimp only)); at_builtin; refine Kd.R_append (Kd.int .u8) (w0 := w) w.heap.size rfl (.tmp 64) (.tmp 69) 36 5 (.int .u8 0) 1 rfl Tryd.underlying36 info5 rfl (by decide) (by omega) u5 x5_2 ((ji20) % 256) [.int .u8 ((ji20) % 256)] (fun _ => True) (fun _ => False) rfl rfl ?aP (fun _ hk => hk.elim) ?aF ?aO ?aB ?aS ?aL ?_; (case aP => exact rfl); (case aB => exact (by repeat (first | (with_reducible first | exact HB.out | apply below_alloc | apply pw_below_drewN | apply below_drew1) | exact HB.out))); (case aF => exact (fun _ _ => trivial)); (case aO => exact (by (with_reducible repeat (first | apply Kd.R_alloc | apply Kd.R_drewN | apply Kd.R_drew)); exact HO_5.out)); (case aS => exact (below_size (by repeat (first | (with_reducible first | exact HB.out | apply below_alloc | apply pw_below_drewN | apply below_drew1) | exact HB.out)))); (case aL => have := LMc21.out; omega); intro v202 w24 ho hb hg hat; rw [← Ny201.out] at ho; have n0_ := Aside0.mk (hb); have n1_ := Aside0.mk (ho); clear HB; clear HO_5; have HB := n0_; have HO203 := n1_; clear n0_ n1_; clear ho hb hg hat))
                              go_roundg k2
                              case measure => have := HJ5.out; have := HK2.out; omega
                              case rel => exact ⟨(y201), (Go.bits .and .i64 (Go.bits .or .i64 (wrap64 (x6_2 * 64)) t200) (wrap64 ((ji23) - 1))), (ji18), (wrap64 (x45_2 + 1)), (by first | rfl | (simp; done) | (simp only [← hji23] <;> (first | rfl | simp)) | (simp [*]; done)), (by first | rfl | (simp; done) | (simp only [← hji18] <;> (first | rfl | simp)) | (simp [*]; done)), (by first | rfl | (simp; done) | (simp [*]; done)), H', ⟨by have := HJ5.out; have := HK2.out; omega⟩, ⟨by (with_reducible repeat (first | apply Kd.R_alloc | apply Kd.R_drewN | apply Kd.R_drew)); exact HO203.out⟩, ⟨by repeat (first | (with_reducible first | exact HB.out | apply below_alloc | apply pw_below_drewN | apply below_drew1) | exact HB.out)⟩⟩
                            · rw [if_neg c21] at H
                              exact absurd H (by simp)
                          · rw [if_neg c19] at H
                            exact absurd H (by simp)
                        · rw [if_neg c17] at H
                          have c17b0 : decide (8 ≤ (wrap64 (x7_2 + 6))) = false := decide_eq_false c17
                          clear c17
                          have H' := Aside0.mk H
                          clear H
                          have p14 : 0 ≤ (x45_2 : Int) := of_decide_eq_true (by first | (with_reducible assumption) | assumption)
                          have q14 : x45_2 < (t198.size : Int) := of_decide_eq_true (by first | (with_reducible assumption) | assumption)
                          have hx14 := bt_at t198 x45_2
                          replace p14 := eq_true p14
                          replace q14 := eq_true q14
                          go_wp2_with (first | ((with_reducible refine gate_callee (f := 61) rfl ?_); refine goesL_ (some 51) rfl rfl Tryd.func61 (by kernel_rfl) rfl #[.int .u8 (bt t198 x45_2)] rfl (by (try simp only [List.map_toArray, List.map_cons, List.map_nil]); first | done | rfl | (simp only [List.length_drop, List.length_take]; rfl)) ?_; (with_reducible refine (basic_six.calls k2 (bt t198 x45_2) t200 _ A15.out).mono ?_); rintro e w' ⟨rfl, ⟨nd, rfl⟩⟩; refine ⟨_, rfl, ?_⟩))
                          go_roundg k2
                          case measure => have := HJ5.out; have := HK2.out; omega
                          case rel => exact ⟨(x5_2), (Go.bits .or .i64 (wrap64 (x6_2 * 64)) t200), (wrap64 (x7_2 + 6)), (wrap64 (x45_2 + 1)), (by first | rfl | (simp; done) | (simp [*]; done)), (by first | rfl | (simp; done) | (simp [*]; done)), (by first | rfl | (simp; done) | (simp [*]; done)), H', ⟨by have := HJ5.out; have := HK2.out; omega⟩, ⟨by (with_reducible repeat (first | apply Kd.R_alloc | apply Kd.R_drewN | apply Kd.R_drew)); exact HO_5.out⟩, ⟨by repeat (first | (with_reducible first | exact HB.out | apply below_alloc | apply pw_below_drewN | apply below_drew1) | exact HB.out)⟩⟩
                    · rw [if_neg c13] at H
                      exact absurd H (by simp)
                  · rw [if_neg c12] at H
                    exact absurd H (by simp)
                · rw [if_neg c11] at H
                  have c11b0 : decide (x45_2 < (t198.size : Int)) = false := decide_eq_false c11
                  clear c11
                  by_cases c25 : x6_2 = 0
                  · rw [if_pos c25] at H
                    have c25b0 : (x6_2 == 0) = true := beq_iff_eq.mpr c25
                    have c25b1 : (x6_2 != 0) = false := bne_eq_false_iff_eq.mpr c25
                    clear c25
                    simp only [Option.some.injEq, Prod.mk.injEq] at H
                    obtain ⟨rfl, rfl⟩ := H
                    go_wp2
                    go_ret2
                    exact ⟨_, by first | rfl | (simp [errW_none, errW_some] <;> rfl) | (simp [*, errW_none, errW_some] <;> rfl), by (with_reducible repeat (first | apply Kd.R_alloc | apply Kd.R_drewN | apply Kd.R_drew)); exact HO_5.out, by repeat (first | (with_reducible first | exact HB.out | apply below_alloc | apply pw_below_drewN | apply below_drew1) | exact HB.out)⟩
                  · rw [if_neg c25] at H
                    have c25b0 : (x6_2 == 0) = false := beq_eq_false_iff_ne.mpr c25
                    have c25b1 : (x6_2 != 0) = true := bne_iff_ne.mpr c25
                    simp only [Option.some.injEq, Prod.mk.injEq] at H
                    obtain ⟨rfl, rfl⟩ := H
                    go_wp2
                    go_ret2
                    exact ⟨_, by first | rfl | (simp [errW_none, errW_some] <;> rfl) | (simp [*, errW_none, errW_some] <;> rfl), by first | exact Kd.R_nil _ _ _ _ _ | exact Kd.N_nil _ _ _ _ _ | exact Kd.V_nil _ _ _ _ _ | exact Kd.Q_nil _ _ _ _ _ | exact Kd.S_nil _ _ _ _ _, by repeat (first | (with_reducible first | exact HB.out | apply below_alloc | apply pw_below_drewN | apply below_drew1) | exact HB.out)⟩
    · rw [if_neg c3] at H
      have c3b0 : (((a0.size : Int) % 4) == 0) = false := beq_eq_false_iff_ne.mpr c3
      have c3b1 : (((a0.size : Int) % 4) != 0) = true := bne_iff_ne.mpr c3
      simp only [Option.some.injEq, Prod.mk.injEq] at H
      obtain ⟨rfl, rfl⟩ := H
      go_enter Tryd.func27, Tryd.ntmps27
      go_wp2
      go_ret2
      exact ⟨_, by first | rfl | (simp [errW_none, errW_some] <;> rfl) | (simp [*, errW_none, errW_some] <;> rfl), by first | exact Kd.R_nil _ _ _ _ _ | exact Kd.N_nil _ _ _ _ _ | exact Kd.V_nil _ _ _ _ _ | exact Kd.Q_nil _ _ _ _ _ | exact Kd.S_nil _ _ _ _ _, by repeat (first | (with_reducible first | exact HB.out | apply below_alloc | apply pw_below_drewN | apply below_drew1) | exact HB.out)⟩

end Go.Proofs.YteajidciahoboaaDoor.P
-- P2
set_option linter.unusedVariables false
set_option linter.unusedSimpArgs false
namespace Go.Proofs.YteajidciahoboaaDoor.H
open Go.RowKit Go.Shelf Go.Proofs.YteajidciahoboaaDoorW.PrintWords Go.Proofs.YteajidciahoboaaDoorW.PrintLast Go.Proofs.YteajidciahoboaaDoorW.PrintMore Go.Proofs.YteajidciahoboaaDoor.M

/-! ### Texts as lists of numbers -/
theorem str_ext {a b : ByteArray} (h : a.data.toList = b.data.toList) : a = b := ByteArray.ext (Array.ext' h)
theorem strOf_data (xs : List Int) : (strOfNums xs).data.toList = xs.map fun n => UInt8.ofNat n.toNat := by simp [strOfNums]
theorem strOf_bytesOf (s : ByteArray) : strOfNums (bytesOf s) = s := by
  apply str_ext
  rw [strOf_data, bytesOf, List.map_map]
  conv => rhs; rw [← List.map_id s.data.toList]
  refine List.map_congr_left fun b _ => ?_
  simp
theorem bytesOf_bytes (s : ByteArray) : isBytes (bytesOf s) := by
  intro x hx
  obtain ⟨b, _, rfl⟩ := List.mem_map.1 hx
  have := b.toNat_lt
  omega
theorem bytesOf_strOf (xs : List Int) (h : isBytes xs) : bytesOf (strOfNums xs) = xs := by
  rw [bytesOf, strOf_data, List.map_map]
  conv => rhs; rw [← List.map_id xs]
  refine List.map_congr_left fun x hx => ?_
  have := h x hx
  simp only [Function.comp_apply, UInt8.toNat_ofNat', id_eq]
  omega
theorem bt_strOf (xs : List Int) (h : isBytes xs) (i : Int) : bt (strOfNums xs) i = rd xs i := by rw [← rd_bytesOf, bytesOf_strOf xs h]
theorem strOf_inj {a b : List Int} (ha : isBytes a) (hb : isBytes b) (h : strOfNums a = strOfNums b) : a = b := by rw [← bytesOf_strOf a ha, h, bytesOf_strOf b hb]
theorem strOf_cut (xs : List Int) (a b : Nat) : (strOfNums xs).extract a b = strOfNums ((xs.take b).drop a) := by
  apply str_ext
  rw [strOf_data, ByteArray.data_extract, Array.toList_extract, strOf_data, List.extract_eq_take_drop, List.map_drop, List.map_take, List.drop_take]
theorem toList_iff (a b : ByteArray) : a.toList = b.toList ↔ a = b := by
  rw [ByteArray.toList_eq, ByteArray.toList_eq]
  exact ⟨str_ext, fun h => by rw [h]⟩
theorem toList_beq (a b : ByteArray) : (a.toList == b.toList) = decide (a = b) := by
  rw [Bool.eq_iff_iff, beq_iff_eq, decide_eq_true_iff, toList_iff]
theorem isBytes_append {a b : List Int} (ha : isBytes a) (hb : isBytes b) : isBytes (a ++ b) := fun x hx => (List.mem_append.1 hx).elim (ha x) (hb x)
theorem isBytes_take {a : List Int} (n : Nat) (ha : isBytes a) : isBytes (a.take n) := fun x hx => ha x (List.mem_of_mem_take hx)
theorem isBytes_drop {a : List Int} (n : Nat) (ha : isBytes a) : isBytes (a.drop n) := fun x hx => ha x (List.mem_of_mem_drop hx)
theorem isBytes_left {a b : List Int} (h : isBytes (a ++ b)) : isBytes a := fun x hx => h x (List.mem_append_left _ hx)
theorem isBytes_right {a b : List Int} (h : isBytes (a ++ b)) : isBytes b := fun x hx => h x (List.mem_append_right _ hx)
theorem isBytes_nil : isBytes [] := fun x hx => by cases hx

/-! ### Suffixes -/
theorem hasEq (xs : List Int) (hx : isBytes xs) (hl : xs.length < 1000000000) : P.strings_HasSuffix.f (strOfNums xs) (⟨#[61]⟩ : ByteArray) = some (decide (xs.getLast? = some 61)) := by
  unfold P.strings_HasSuffix.f P.stringslite_HasSuffix.f
  rw [show (⟨#[61]⟩ : ByteArray) = strOfNums [61] from rfl, strOfNums_size, strOfNums_size]
  rcases List.eq_nil_or_concat xs with rfl | ⟨ys, y, rfl⟩
  · rw [if_neg (by decide)]; rfl
  · rw [List.concat_eq_append] at hx hl ⊢
    have hy := hx y (by simp)
    have hlen : (ys ++ [y]).length = ys.length + 1 := by simp
    rw [hlen, show (([61] : List Int).length : Nat) = 1 from rfl, if_pos (by omega), w64 (by omega) (by omega), if_pos (by omega), if_pos (by omega), strOf_cut, toList_beq]
    rw [show (((ys.length + 1 : Nat) : Int) - ((1 : Nat) : Int)).toNat = ys.length by omega, show ((ys ++ [y]).take (ys.length + 1)).drop ys.length = [y] by rw [List.take_of_length_le (by omega)]; simp]
    simp only [Option.bind_some, List.getLast?_append, List.getLast?_singleton, Option.some_or, Option.some.injEq]
    refine decide_eq_decide.2 ⟨fun e => ?_, fun e => by rw [e]⟩
    have := strOf_inj (fun x hx => by simp at hx; subst hx; exact hy) (fun x hx => by simp at hx; subst hx; decide) e
    simpa using this
def trim1 (xs : List Int) : List Int := if xs.getLast? = some 61 then xs.dropLast else xs
theorem trimEq (xs : List Int) (hx : isBytes xs) (hl : xs.length < 1000000000) : P.strings_TrimSuffix.f (strOfNums xs) (⟨#[61]⟩ : ByteArray) = some (strOfNums (trim1 xs)) := by
  have h := hasEq xs hx hl
  unfold P.strings_HasSuffix.f at h
  unfold P.strings_TrimSuffix.f P.stringslite_TrimSuffix.f trim1
  cases hh : P.stringslite_HasSuffix.f (strOfNums xs) (⟨#[61]⟩ : ByteArray) with
  | none => rw [hh] at h; cases h
  | some b =>
    rw [hh] at h
    simp only [Option.bind_some, Option.some.injEq] at h
    subst h
    simp only [Option.bind_some, decide_eq_true_eq]
    by_cases hg : xs.getLast? = some 61
    · rw [if_pos hg, if_pos hg, strOfNums_size, show ((⟨#[61]⟩ : ByteArray).size : Int) = 1 from rfl]
      have hpos : 0 < xs.length := by cases xs with | nil => cases hg | cons a l => simp
      rw [w64 (by omega) (by omega), if_pos (by omega), if_pos (by omega), strOf_cut, List.dropLast_eq_take, List.drop_zero, show ((xs.length : Int) - 1).toNat = xs.length - 1 by omega]
      rfl
    · rw [if_neg hg, if_neg hg]
      rfl
end Go.Proofs.YteajidciahoboaaDoor.H
-- P3
set_option linter.unusedVariables false
set_option linter.unusedSimpArgs false
namespace Go.Proofs.YteajidciahoboaaDoor.H
open Go.RowKit Go.Shelf Go.Proofs.YteajidciahoboaaDoorW.PrintWords Go.Proofs.YteajidciahoboaaDoorW.PrintLast Go.Proofs.YteajidciahoboaaDoorW.PrintMore Go.Proofs.YteajidciahoboaaDoor.M

def sixOf (c : Int) : Int := if 65 ≤ c ∧ c ≤ 90 then c - 65 else if 97 ≤ c ∧ c ≤ 122 then c - 97 + 26 else if 48 ≤ c ∧ c ≤ 57 then c - 48 + 52 else if c = 43 then 62 else if c = 47 then 63 else -1
theorem six_ev (c : Int) (h : 0 ≤ c ∧ c < 256) : Ev (fun k => P.basic_six.f k c) (sixOf c) := by
  have e3 : ∀ b, Ev (fun k => P.basic_six.j2 k c b) (if b = true then (c - 48) % 256 + 52 else if c = 43 then 62 else if c = 47 then 63 else -1) := fun b => Ev.now fun k => by rw [P.basic_six.j2]; split <;> (try split) <;> (try split) <;> rfl
  have e2 : ∀ b, Ev (fun k => P.basic_six.j1 k c b) (if b = true then (c - 97) % 256 + 26 else if 48 ≤ c ∧ c ≤ 57 then c - 48 + 52 else if c = 43 then 62 else if c = 47 then 63 else -1) := fun b => by
    by_cases hb : b = true
    · subst hb; exact Ev.now fun k => by rw [P.basic_six.j1, if_pos rfl, if_pos rfl]
    · rw [if_neg hb]
      refine Ev.step (g := fun k => P.basic_six.j2 k c (decide (48 ≤ c ∧ c ≤ 57))) (fun k => ?_) ?_
      · rw [P.basic_six.j1, if_neg hb]
        split
        · rename_i h1; congr 1; simp; omega
        · rename_i h1; congr 1; simp; omega
      · have := e3 (decide (48 ≤ c ∧ c ≤ 57))
        by_cases h1 : 48 ≤ c ∧ c ≤ 57
        · rw [if_pos h1]; rw [if_pos (by simpa using h1)] at this; rw [show c - 48 + 52 = (c - 48) % 256 + 52 by omega]; exact this
        · rw [if_neg h1]; rw [if_neg (by simpa using h1)] at this; exact this
  have e1 : ∀ b, Ev (fun k => P.basic_six.j0 k c b) (if b = true then (c - 65) % 256 else if 97 ≤ c ∧ c ≤ 122 then c - 97 + 26 else if 48 ≤ c ∧ c ≤ 57 then c - 48 + 52 else if c = 43 then 62 else if c = 47 then 63 else -1) := fun b => by
    by_cases hb : b = true
    · subst hb; exact Ev.now fun k => by rw [P.basic_six.j0, if_pos rfl, if_pos rfl]
    · rw [if_neg hb]
      refine Ev.step (g := fun k => P.basic_six.j1 k c (decide (97 ≤ c ∧ c ≤ 122))) (fun k => ?_) ?_
      · rw [P.basic_six.j0, if_neg hb]
        split
        · rename_i h1; congr 1; simp; omega
        · rename_i h1; congr 1; simp; omega
      · have := e2 (decide (97 ≤ c ∧ c ≤ 122))
        by_cases h1 : 97 ≤ c ∧ c ≤ 122
        · rw [if_pos h1]; rw [if_pos (by simpa using h1)] at this; rw [show c - 97 + 26 = (c - 97) % 256 + 26 by omega]; exact this
        · rw [if_neg h1]; rw [if_neg (by simpa using h1)] at this; exact this
  refine Ev.eq (g := fun k => P.basic_six.j0 k c (decide (65 ≤ c ∧ c ≤ 90))) ?_ (fun k => ?_)
  · have := e1 (decide (65 ≤ c ∧ c ≤ 90))
    unfold sixOf
    by_cases h1 : 65 ≤ c ∧ c ≤ 90
    · rw [if_pos h1]; rw [if_pos (by simpa using h1)] at this; rw [show c - 65 = (c - 65) % 256 by omega]; exact this
    · rw [if_neg h1]; rw [if_neg (by simpa using h1)] at this; exact this
  · unfold P.basic_six.f
    split
    · rename_i h1; congr 1; simp; omega
    · rename_i h1; congr 1; simp; omega

theorem sixOf_all : ∀ c : Fin 256, (sixOf (c.val : Int) < 0 ∨ (0 ≤ sixOf (c.val : Int) ∧ sixOf (c.val : Int) < 64 ∧ sgn (sixOf (c.val : Int)).toNat = (c.val : Int))) := by decide +kernel
theorem sixOf_sgn : ∀ z : Fin 64, sixOf (sgn z.val) = (z.val : Int) := by decide +kernel
theorem sixOf_back (c : Int) (h : 0 ≤ c ∧ c < 256) : sixOf c < 0 ∨ ∃ z : Nat, z < 64 ∧ sixOf c = (z : Int) ∧ sgn z = c := by
  have := sixOf_all ⟨c.toNat, by omega⟩
  simp only [show ((c.toNat : Nat) : Int) = c by omega] at this
  rcases this with h | ⟨h1, h2, h3⟩
  · exact .inl h
  · exact .inr ⟨(sixOf c).toNat, by omega, by omega, h3⟩
theorem sgn_not61 : ∀ z : Fin 64, sgn z.val ≠ 61 := by decide +kernel

/-! ### The loop -/
theorem wraps_i64 (n : Int) (h₀ : 0 ≤ n) (h₁ : n < 2 ^ 62) : IntKind.i64.wrap n = n := by rw [IntKind.wrap_i64]; omega
theorem n64_or (a b : Nat) (ha : a < 2 ^ 62) (hb : b < 2 ^ 62) : Go.bits .or .i64 a b = ((a ||| b : Nat) : Int) := (bits_nat .i64 62 (by decide) wraps_i64 a b ha hb).2
theorem n64_glue (a b k : Nat) (ha : a * 2 ^ k < 2 ^ 62) (hb : b < 2 ^ k) (hb' : b < 2 ^ 62) : Go.bits .or .i64 ((a * 2 ^ k : Nat) : Int) b = ((a * 2 ^ k + b : Nat) : Int) := by
  rw [n64_or _ _ ha hb', Nat.mul_comm, ← Nat.two_pow_add_eq_or_of_lt hb]
theorem n64_mask (a k : Nat) (ha : a < 2 ^ 62) (hk : k ≤ 62) : Go.bits .and .i64 a ((2 ^ k - 1 : Nat) : Int) = ((a % 2 ^ k : Nat) : Int) := by
  have h2 : 2 ^ k ≤ 2 ^ 62 := Nat.pow_le_pow_right (by decide) hk
  rw [(bits_nat .i64 62 (by decide) wraps_i64 a (2 ^ k - 1) ha (by have := Nat.two_pow_pos k; omega)).1, Nat.and_two_pow_sub_one_eq_mod]

theorem dec_bad (s : List Int) (hs : isBytes s) (hl : s.length < 1000000) (i : Nat) (hi : i < s.length) (x5 : List Int) (b n : Int) (h : sixOf (s.getD i 0) < 0) : Ev (fun k => P.basic_Decode.l0 k (strOfNums s) x5 b n s.length i) (([] : List Int), 5) := by
  have hc : 0 ≤ s.getD i 0 ∧ s.getD i 0 < 256 := hs _ (by simp [hi])
  refine Ev.stepB (g := ?_) (six_ev _ hc) (fun k => ?_) ?_
  rotate_left
  · rw [P.basic_Decode.l0, if_pos (by omega), if_pos (by omega), strOfNums_size, if_pos (by omega), bt_strOf s hs, show rd s (i : Int) = s.getD i 0 from rfl]
  · simp only [if_pos h]
    exact Ev.const _

theorem dec_first (s : List Int) (hs : isBytes s) (hl : s.length < 1000000) (i : Nat) (hi : i < s.length) (x5 : List Int) (z : Nat) (hz : z < 64) (h : sixOf (s.getD i 0) = z) (r : List Int × Int)
    (hr : Ev (fun k => P.basic_Decode.l0 k (strOfNums s) x5 z 6 s.length (i + 1 : Nat)) r) : Ev (fun k => P.basic_Decode.l0 k (strOfNums s) x5 0 0 s.length i) r := by
  have hc : 0 ≤ s.getD i 0 ∧ s.getD i 0 < 256 := hs _ (by simp [hi])
  refine Ev.stepB (g := ?_) (six_ev _ hc) (fun k => ?_) ?_
  rotate_left
  · rw [P.basic_Decode.l0, if_pos (by omega), if_pos (by omega), strOfNums_size, if_pos (by omega), bt_strOf s hs, show rd s (i : Int) = s.getD i 0 from rfl]
  · rw [h]
    simp only [if_neg (show ¬ ((z : Int) < 0) by omega)]
    rw [show wrap64 (0 + 6) = 6 from by decide +kernel]
    simp only [if_neg (show ¬ ((6 : Int) ≥ 8) by decide)]
    have g := n64_glue 0 z 6 (by decide) hz (by omega)
    rw [show wrap64 (0 * 64) = ((0 * 2 ^ 6 : Nat) : Int) from by decide +kernel, g, w64 (n := (i : Int) + 1) (by omega) (by omega)]
    refine hr.eq fun k => ?_
    simp

theorem dec_next (s : List Int) (hs : isBytes s) (hl : s.length < 1000000) (i : Nat) (hi : i < s.length) (x5 : List Int) (hx : x5.length ≤ s.length) (b m : Nat) (hm : m ≤ 4) (hb : b < 2 ^ (m + 2)) (z : Nat) (hz : z < 64) (h : sixOf (s.getD i 0) = z) (r : List Int × Int)
    (hr : Ev (fun k => P.basic_Decode.l0 k (strOfNums s) (x5 ++ [(((b * 64 + z) / 2 ^ m : Nat) : Int)]) (((b * 64 + z) % 2 ^ m : Nat) : Int) m s.length (i + 1 : Nat)) r) : Ev (fun k => P.basic_Decode.l0 k (strOfNums s) x5 b (m + 2 : Nat) s.length i) r := by
  have hc : 0 ≤ s.getD i 0 ∧ s.getD i 0 < 256 := hs _ (by simp [hi])
  refine Ev.stepB (g := ?_) (six_ev _ hc) (fun k => ?_) ?_
  rotate_left
  · rw [P.basic_Decode.l0, if_pos (by omega), if_pos (by omega), strOfNums_size, if_pos (by omega), bt_strOf s hs, show rd s (i : Int) = s.getD i 0 from rfl]
  · rw [h]
    simp only [if_neg (show ¬ ((z : Int) < 0) by omega)]
    have hm' : m = 0 ∨ m = 1 ∨ m = 2 ∨ m = 3 ∨ m = 4 := by omega
    have hb64 : b * 64 < 4096 := by rcases hm' with rfl | rfl | rfl | rfl | rfl <;> omega
    have g := n64_glue b z 6 (by omega) hz (by omega)
    rw [w64 (n := ((m + 2 : Nat) : Int) + 6) (by omega) (by omega), w64 (n := ((m + 2 : Nat) : Int) + 6 - 8) (by omega) (by omega), w64 (n := (b : Int) * 64) (by omega) (by omega)]
    simp only [if_pos (show ((m + 2 : Nat) : Int) + 6 ≥ 8 by omega), if_pos (show 0 ≤ ((m + 2 : Nat) : Int) + 6 - 8 by omega), if_pos (show x5.length < 140737488355328 by omega)]
    rw [show (b : Int) * 64 = ((b * 2 ^ 6 : Nat) : Int) by omega, g, w64 (n := (i : Int) + 1) (by omega) (by omega), show ((m + 2 : Nat) : Int) + 6 - 8 = (m : Int) by omega]
    have mk := n64_mask (b * 2 ^ 6 + z) m (by omega) (by omega)
    have hv : (b * 2 ^ 6 + z) / 2 ^ m < 256 := by rcases hm' with rfl | rfl | rfl | rfl | rfl <;> omega
    have e1 : shr .i64 ((b * 2 ^ 6 + z : Nat) : Int) m % 256 = (((b * 64 + z) / 2 ^ m : Nat) : Int) := by
      unfold shr
      rcases hm' with rfl | rfl | rfl | rfl | rfl <;> simp [IntKind.bits] <;> omega
    have e2 : wrap64 (shl .i64 1 m - 1) = ((2 ^ m - 1 : Nat) : Int) := by rcases hm' with rfl | rfl | rfl | rfl | rfl <;> decide +kernel
    rw [e1, e2, mk]
    refine hr.eq fun k => ?_
    simp

def unzs : List Nat → Option (List Int)
  | [] => some []
  | [_] => none
  | [x, y] => if y % 16 = 0 then some [((x * 4 + y / 16 : Nat) : Int)] else none
  | [x, y, z] => if z % 4 = 0 then some [((x * 4 + y / 16 : Nat) : Int), ((y % 16 * 16 + z / 4 : Nat) : Int)] else none
  | x :: y :: z :: u :: r => (unzs r).map ([((x * 4 + y / 16 : Nat) : Int), ((y % 16 * 16 + z / 4 : Nat) : Int), ((z % 4 * 64 + u : Nat) : Int)] ++ ·)
def Good (cs o : List Int) : Prop := ∃ zs, cs = zs.map sgn ∧ (∀ z ∈ zs, z < 64) ∧ unzs zs = some o
theorem good_signs {cs o : List Int} (h : Good cs o) : ∀ c ∈ cs, 0 ≤ sixOf c := by
  obtain ⟨zs, rfl, hz, _⟩ := h
  intro c hc
  obtain ⟨z, hzz, rfl⟩ := List.mem_map.1 hc
  have := sixOf_sgn ⟨z, hz z hzz⟩
  simp only at this
  omega
theorem good_tail {x y z u : Nat} {r o : List Int} (h : Good (sgn x :: sgn y :: sgn z :: sgn u :: r) o) : ∃ o', Good r o' := by
  obtain ⟨zs, he, hz, hu⟩ := h
  match zs, he with
  | [], he => cases he
  | [_], he => simp at he
  | [_, _], he => simp at he
  | [_, _, _], he => simp at he
  | a :: b :: c :: d :: zs, he =>
    simp only [List.map_cons, List.cons.injEq] at he
    rw [unzs.eq_def] at hu
    simp only [Option.map_eq_some_iff] at hu
    obtain ⟨o', ho', _⟩ := hu
    exact ⟨o', zs, he.2.2.2.2, fun q hq => hz q (by simp [hq]), ho'⟩
theorem sgn_inj {x y : Nat} (hx : x < 64) (hy : y < 64) (h : sgn x = sgn y) : x = y := by
  have h1 := sixOf_sgn ⟨x, hx⟩
  have h2 := sixOf_sgn ⟨y, hy⟩
  simp only at h1 h2
  rw [h, h2] at h1
  omega
theorem map_sgn_inj : ∀ {zs ys : List Nat}, (∀ z ∈ zs, z < 64) → (∀ z ∈ ys, z < 64) → zs.map sgn = ys.map sgn → zs = ys
  | [], [], _, _, _ => rfl
  | [], _ :: _, _, _, h => by cases h
  | _ :: _, [], _, _, h => by cases h
  | z :: zs, y :: ys, hz, hy, h => by
    simp only [List.map_cons, List.cons.injEq] at h
    rw [sgn_inj (hz z (by simp)) (hy y (by simp)) h.1, map_sgn_inj (fun q hq => hz q (by simp [hq])) (fun q hq => hy q (by simp [hq])) h.2]

theorem dec_end (s : List Int) (x5 : List Int) (b : Nat) (n : Int) : Ev (fun k => P.basic_Decode.l0 k (strOfNums s) x5 b n s.length s.length) (if b = 0 then (x5, 0) else (([] : List Int), 5)) := by
  refine Ev.now fun k => ?_
  rw [P.basic_Decode.l0, if_neg (by omega)]
  by_cases h : b = 0
  · rw [if_pos (by omega), if_pos h]
  · rw [if_neg (by omega), if_neg h]

/-- The loop over the signs, from a whole number of bytes on. -/
theorem dec_loop (s : List Int) (hs : isBytes s) (hl : s.length < 1000000) : ∀ (cs pre out : List Int), s = pre ++ cs → cs.length % 4 ≠ 1 → out.length ≤ pre.length →
    (∃ o, Good cs o ∧ Ev (fun k => P.basic_Decode.l0 k (strOfNums s) out 0 0 s.length pre.length) (out ++ o, 0)) ∨ ((∀ o, ¬ Good cs o) ∧ Ev (fun k => P.basic_Decode.l0 k (strOfNums s) out 0 0 s.length pre.length) (([] : List Int), 5)) := by
  intro cs pre out he hm ho
  have hlen : s.length = pre.length + cs.length := by rw [he]; simp
  have at' : ∀ i, s.getD (pre.length + i) 0 = cs.getD i 0 := fun i => by rw [he, List.getD_eq_getElem?_getD, List.getElem?_append_right (by omega), Nat.add_sub_cancel_left, List.getD_eq_getElem?_getD]
  have hcb : ∀ c ∈ cs, 0 ≤ c ∧ c < 256 := fun c hc => hs c (by rw [he]; simp [hc])
  match cs, he, hlen, at', hcb, hm with
  | [], he, hlen, _, _, _ =>
    refine .inl ⟨[], ⟨[], rfl, by simp, rfl⟩, ?_⟩
    have := dec_end s out 0 0
    rw [if_pos rfl, hlen] at this
    simp only [List.length_nil, Nat.add_zero] at this hlen
    rw [hlen, List.append_nil]
    exact this
  | [_], _, _, _, _, hm => exact absurd rfl hm
  | a :: b :: cs, he, hlen, at', hcb, hm =>
    simp only [List.length_cons] at hlen
    have a0 := at' 0
    have a1 := at' 1
    simp only [Nat.add_zero, List.getD_cons_zero, List.getD_cons_succ] at a0 a1
    rcases sixOf_back a (hcb a (by simp)) with hba | ⟨x, hx, hxa, rfl⟩
    · exact .inr ⟨fun o hg => by have := good_signs hg a (by simp); omega, dec_bad s hs hl pre.length (by omega) out 0 0 (by rw [a0]; exact hba)⟩
    have F := fun r => dec_first s hs hl pre.length (by omega) out x hx (by rw [a0]; exact hxa) r
    rcases sixOf_back b (hcb b (by simp)) with hbb | ⟨y, hy, hyb, rfl⟩
    · exact .inr ⟨fun o hg => by have := good_signs hg b (by simp); omega, F _ (dec_bad s hs hl (pre.length + 1) (by omega) out x 6 (by rw [a1]; exact hbb))⟩
    have G := fun r => dec_next s hs hl (pre.length + 1) (by omega) out (by omega) x 4 (by omega) (by omega) y hy (by rw [a1]; exact hyb) r
    have v1 : (x * 64 + y) / 2 ^ 4 = x * 4 + y / 16 := by omega
    have v2 : (x * 64 + y) % 2 ^ 4 = y % 16 := by omega
    rw [v1, v2] at G
    match cs, he, hlen, at', hcb, hm with
    | [], he, hlen, at', hcb, hm =>
      have E := dec_end s (out ++ [((x * 4 + y / 16 : Nat) : Int)]) (y % 16) 4
      simp only [List.length_nil] at hlen
      rw [show ((s.length : Nat) : Int) = ((pre.length + 1 + 1 : Nat) : Int) by omega] at E
      have E' : Ev (fun k => P.basic_Decode.l0 k (strOfNums s) (out ++ [((x * 4 + y / 16 : Nat) : Int)]) ((y % 16 : Nat) : Int) 4 s.length ((pre.length + 1 + 1 : Nat) : Int)) (if y % 16 = 0 then (out ++ [((x * 4 + y / 16 : Nat) : Int)], 0) else (([] : List Int), 5)) := by
        rw [show ((s.length : Nat) : Int) = ((pre.length + 1 + 1 : Nat) : Int) by omega]; exact E
      by_cases h0 : y % 16 = 0
      · rw [if_pos h0] at E'
        refine .inl ⟨[((x * 4 + y / 16 : Nat) : Int)], ⟨[x, y], rfl, by simp; omega, by rw [unzs.eq_def]; simp [h0]⟩, F _ (G _ E')⟩
      · rw [if_neg h0] at E'
        refine .inr ⟨?_, F _ (G _ E')⟩
        rintro o ⟨zs, hz1, hz2, hz3⟩
        have := map_sgn_inj (zs := [x, y]) (ys := zs) (by simp; omega) hz2 hz1
        subst this
        rw [unzs.eq_def] at hz3
        simp [h0] at hz3
    | c :: cs, he, hlen, at', hcb, hm =>
      simp only [List.length_cons] at hlen
      have a2 := at' 2
      simp only [List.getD_cons_zero, List.getD_cons_succ] at a2
      rcases sixOf_back c (hcb c (by simp)) with hbc | ⟨z, hz, hzc, rfl⟩
      · exact .inr ⟨fun o hg => by have := good_signs hg c (by simp); omega, F _ (G _ (dec_bad s hs hl (pre.length + 1 + 1) (by omega) _ _ _ (by rw [show pre.length + 1 + 1 = pre.length + 2 from rfl, a2]; exact hbc)))⟩
      have G2 := fun r => dec_next s hs hl (pre.length + 1 + 1) (by omega) (out ++ [((x * 4 + y / 16 : Nat) : Int)]) (by simp; omega) (y % 16) 2 (by omega) (by omega) z hz (by rw [show pre.length + 1 + 1 = pre.length + 2 from rfl, a2]; exact hzc) r
      have v3 : (y % 16 * 64 + z) / 2 ^ 2 = y % 16 * 16 + z / 4 := by omega
      have v4 : (y % 16 * 64 + z) % 2 ^ 2 = z % 4 := by omega
      rw [v3, v4] at G2
      match cs, he, hlen, at', hcb, hm with
      | [], he, hlen, at', hcb, hm =>
        simp only [List.length_nil] at hlen
        have E := dec_end s (out ++ [((x * 4 + y / 16 : Nat) : Int)] ++ [((y % 16 * 16 + z / 4 : Nat) : Int)]) (z % 4) 2
        have E' : Ev (fun k => P.basic_Decode.l0 k (strOfNums s) (out ++ [((x * 4 + y / 16 : Nat) : Int)] ++ [((y % 16 * 16 + z / 4 : Nat) : Int)]) ((z % 4 : Nat) : Int) 2 s.length ((pre.length + 1 + 1 + 1 : Nat) : Int)) (if z % 4 = 0 then (out ++ [((x * 4 + y / 16 : Nat) : Int)] ++ [((y % 16 * 16 + z / 4 : Nat) : Int)], 0) else (([] : List Int), 5)) := by
          rw [show ((pre.length + 1 + 1 + 1 : Nat) : Int) = ((s.length : Nat) : Int) by omega]; exact E
        by_cases h0 : z % 4 = 0
        · rw [if_pos h0] at E'
          refine .inl ⟨[((x * 4 + y / 16 : Nat) : Int), ((y % 16 * 16 + z / 4 : Nat) : Int)], ⟨[x, y, z], rfl, by simp; omega, by rw [unzs.eq_def]; simp [h0]⟩, F _ (G _ (G2 _ (by simpa using E')))⟩
        · rw [if_neg h0] at E'
          refine .inr ⟨?_, F _ (G _ (G2 _ E'))⟩
          rintro o ⟨zs, hz1, hz2, hz3⟩
          have := map_sgn_inj (zs := [x, y, z]) (ys := zs) (by simp; omega) hz2 hz1
          subst this
          rw [unzs.eq_def] at hz3
          simp [h0] at hz3
      | d :: cs, he, hlen, at', hcb, hm =>
        simp only [List.length_cons] at hlen
        have a3 := at' 3
        simp only [List.getD_cons_zero, List.getD_cons_succ] at a3
        rcases sixOf_back d (hcb d (by simp)) with hbd | ⟨u, hu, hud, rfl⟩
        · exact .inr ⟨fun o hg => by have := good_signs hg d (by simp); omega, F _ (G _ (G2 _ (dec_bad s hs hl (pre.length + 1 + 1 + 1) (by omega) _ _ _ (by rw [show pre.length + 1 + 1 + 1 = pre.length + 3 from rfl, a3]; exact hbd))))⟩
        have G3 := fun r => dec_next s hs hl (pre.length + 1 + 1 + 1) (by omega) (out ++ [((x * 4 + y / 16 : Nat) : Int)] ++ [((y % 16 * 16 + z / 4 : Nat) : Int)]) (by simp; omega) (z % 4) 0 (by omega) (by omega) u hu (by rw [show pre.length + 1 + 1 + 1 = pre.length + 3 from rfl, a3]; exact hud) r
        have v5 : (z % 4 * 64 + u) / 2 ^ 0 = z % 4 * 64 + u := by omega
        have v6 : (z % 4 * 64 + u) % 2 ^ 0 = 0 := by omega
        rw [v5, v6] at G3
        have hrec := dec_loop s hs hl cs (pre ++ [sgn x, sgn y, sgn z, sgn u]) (out ++ [((x * 4 + y / 16 : Nat) : Int)] ++ [((y % 16 * 16 + z / 4 : Nat) : Int)] ++ [((z % 4 * 64 + u : Nat) : Int)]) (by rw [he]; simp) (by simp only [List.length_cons] at hm; omega) (by simp; omega)
        have hpl : (pre ++ [sgn x, sgn y, sgn z, sgn u]).length = pre.length + 1 + 1 + 1 + 1 := by simp
        rw [hpl] at hrec
        rcases hrec with ⟨o, hg, hev⟩ | ⟨hng, hev⟩
        · refine .inl ⟨[((x * 4 + y / 16 : Nat) : Int), ((y % 16 * 16 + z / 4 : Nat) : Int), ((z % 4 * 64 + u : Nat) : Int)] ++ o, ?_, F _ (G _ (G2 _ (G3 _ (by simpa using hev))))⟩
          obtain ⟨zs, rfl, hz2, hz3⟩ := hg
          exact ⟨x :: y :: z :: u :: zs, rfl, by simp; exact ⟨hx, hy, hz, hu, hz2⟩, by rw [unzs.eq_def]; simp only [hz3, Option.map_some]⟩
        · refine .inr ⟨fun o hg => ?_, F _ (G _ (G2 _ (G3 _ hev)))⟩
          obtain ⟨o', ho'⟩ := good_tail hg
          exact hng o' ho'
  termination_by cs pre => s.length - pre.length
  decreasing_by simp; omega
end Go.Proofs.YteajidciahoboaaDoor.H
