import Derived.Test.YteajidciahoboaaDoorCb1
import Derived.Laws.StructEq
-- PzstringsTrimSuffix
-- PRINTED by print.py (a twelfth state) out of the translation. Not trusted: Lean checks it.
namespace Go.Proofs.YteajidciahoboaaDoor.P
open Go.RowKit Go.Proofs.YteajidciahoboaaDoorW.PrintWords Go.Proofs.YteajidciahoboaaDoorW.PrintLast Go.Proofs.YteajidciahoboaaDoorW.PrintMore
attribute [local go_sem] max2_int min2_int max_two min_two max_three min_three max_four min_four   -- for this text's walks alone
set_option linter.unusedVariables false
set_option linter.unusedSimpArgs false

/-! ### strings_TrimSuffix: function 59 -/
def strings_TrimSuffix.f (a0 : ByteArray) (a1 : ByteArray) : Option (ByteArray) := (stringslite_TrimSuffix.f a0 a1).bind fun t195 => (some t195)
set_option maxHeartbeats 8000000 in
set_option maxRecDepth 100000 in
theorem strings_TrimSuffix.calls (a0 : ByteArray) (a1 : ByteArray) (r : ByteArray) (w : World) (h : strings_TrimSuffix.f a0 a1 = some r) :
    Calls Tryd.prog 59 #[.string a0, .string a1] w fun e w' => e = .returned (.string r) ∧ Drawn0 w w' := by
  have H : ((stringslite_TrimSuffix.f a0 a1).bind fun t195 => (some t195)) = some r := h
  clear h
  replace H := Option.bind_eq_some_iff.mp H
  obtain ⟨t195, A30, H⟩ := H
  replace H : (some t195) = some r := H
  have A3 := Aside0.mk A30
  clear A30
  obtain rfl := Option.some.inj H
  go_enter Tryd.func59, Tryd.ntmps59
  go_wp2_with (first | ((with_reducible refine gate_callee (f := 84) rfl ?_); refine goesL_ (some 7) rfl rfl Tryd.func84 (by kernel_rfl) rfl #[.string a0, .string a1] rfl (by (try simp only [List.map_toArray, List.map_cons, List.map_nil]); first | done | rfl | (simp only [List.length_drop, List.length_take]; rfl)) ?_; (with_reducible refine (stringslite_TrimSuffix.calls a0 a1 t195 _ A3.out).mono ?_); rintro e w' ⟨rfl, ⟨nd, rfl⟩⟩; refine ⟨_, rfl, ?_⟩))
  go_ret
  exact ⟨by first | rfl | (simp; done) | (simp [*]; done), by repeat (first | exact Drawn0.refl _ | apply Drawn0.step)⟩

end Go.Proofs.YteajidciahoboaaDoor.P
-- PzstringsHasSuffix
-- PRINTED by print.py (a twelfth state) out of the translation. Not trusted: Lean checks it.
namespace Go.Proofs.YteajidciahoboaaDoor.P
open Go.RowKit Go.Proofs.YteajidciahoboaaDoorW.PrintWords Go.Proofs.YteajidciahoboaaDoorW.PrintLast Go.Proofs.YteajidciahoboaaDoorW.PrintMore
attribute [local go_sem] max2_int min2_int max_two min_two max_three min_three max_four min_four   -- for this text's walks alone
set_option linter.unusedVariables false
set_option linter.unusedSimpArgs false

/-! ### strings_HasSuffix: function 60 -/
def strings_HasSuffix.f (a0 : ByteArray) (a1 : ByteArray) : Option (Bool) := (stringslite_HasSuffix.f a0 a1).bind fun t196 => (some t196)
set_option maxHeartbeats 8000000 in
set_option maxRecDepth 100000 in
theorem strings_HasSuffix.calls (a0 : ByteArray) (a1 : ByteArray) (r : Bool) (w : World) (h : strings_HasSuffix.f a0 a1 = some r) :
    Calls Tryd.prog 60 #[.string a0, .string a1] w fun e w' => e = .returned (.bool r) ∧ Drawn0 w w' := by
  have H : ((stringslite_HasSuffix.f a0 a1).bind fun t196 => (some t196)) = some r := h
  clear h
  replace H := Option.bind_eq_some_iff.mp H
  obtain ⟨t196, A30, H⟩ := H
  replace H : (some t196) = some r := H
  have A3 := Aside0.mk A30
  clear A30
  obtain rfl := Option.some.inj H
  go_enter Tryd.func60, Tryd.ntmps60
  go_wp2_with (first | ((with_reducible refine gate_callee (f := 85) rfl ?_); refine goesL_ (some 7) rfl rfl Tryd.func85 (by kernel_rfl) rfl #[.string a0, .string a1] rfl (by (try simp only [List.map_toArray, List.map_cons, List.map_nil]); first | done | rfl | (simp only [List.length_drop, List.length_take]; rfl)) ?_; (with_reducible refine (stringslite_HasSuffix.calls a0 a1 t196 _ A3.out).mono ?_); rintro e w' ⟨rfl, ⟨nd, rfl⟩⟩; refine ⟨_, rfl, ?_⟩))
  go_ret
  exact ⟨by first | rfl | (simp; done) | (simp [*]; done), by repeat (first | exact Drawn0.refl _ | apply Drawn0.step)⟩

end Go.Proofs.YteajidciahoboaaDoor.P
-- Pzbasicsix
-- PRINTED by print.py (a twelfth state) out of the translation. Not trusted: Lean checks it.
namespace Go.Proofs.YteajidciahoboaaDoor.P
open Go.RowKit Go.Proofs.YteajidciahoboaaDoorW.PrintWords Go.Proofs.YteajidciahoboaaDoorW.PrintLast Go.Proofs.YteajidciahoboaaDoorW.PrintMore
attribute [local go_sem] max2_int min2_int max_two min_two max_three min_three max_four min_four   -- for this text's walks alone
set_option linter.unusedVariables false
set_option linter.unusedSimpArgs false

/-! ### basic_six: function 61 -/
mutual
def basic_six.j0 : Nat → Int → Bool → Option (Int)
  | 0, _, _ => none
  | k + 1, x0, x3 => if x3 = true then (some ((x0 - 65) % 256)) else (if x0 ≥ 97 then (basic_six.j1 k x0 (decide (x0 ≤ 122))) else (basic_six.j1 k x0 false))
def basic_six.j1 : Nat → Int → Bool → Option (Int)
  | 0, _, _ => none
  | k + 1, x0, x13 => if x13 = true then (some (((x0 - 97) % 256) + 26)) else (if x0 ≥ 48 then (basic_six.j2 k x0 (decide (x0 ≤ 57))) else (basic_six.j2 k x0 false))
def basic_six.j2 : Nat → Int → Bool → Option (Int)
  | 0, _, _ => none
  | k + 1, x0, x24 => if x24 = true then (some (((x0 - 48) % 256) + 52)) else (if x0 = 43 then (some 62) else (if x0 = 47 then (some 63) else (some (-1))))
end
def basic_six.f (k : Nat) (a0 : Int) : Option (Int) := if a0 ≥ 65 then (basic_six.j0 k a0 (decide (a0 ≤ 90))) else (basic_six.j0 k a0 false)
set_option maxHeartbeats 8000000 in
set_option maxRecDepth 100000 in
theorem basic_six.calls (k : Nat) (a0 : Int) (r : Int) (w : World) (h : basic_six.f k a0 = some r) :
    Calls Tryd.prog 61 #[.int .u8 a0] w fun e w' => e = .returned (.int .i64 r) ∧ Drawn0 w w' := by
  have H : (if a0 ≥ 65 then (basic_six.j0 k a0 (decide (a0 ≤ 90))) else (basic_six.j0 k a0 false)) = some r := h
  clear h
  have HC2 := Aside0.mk H
  clear H
  go_enter Tryd.func61, Tryd.ntmps61
  go_upto_region 1 with (fail)
  go_cut [3] (fun v3 wc => ∃ (kq : Nat) (x3_1 : Bool), v3 = .bool x3_1 ∧ Aside0 (basic_six.j0 kq a0 x3_1 = some r) ∧ Aside0 (kq ≤ k) ∧ Drawn0 w wc)
  case first =>
    have H := HC2.out
    clear HC2
    by_cases c3 : a0 ≥ 65
    · rw [if_pos c3] at H
      have c3b0 : decide (65 ≤ a0) = true := decide_eq_true c3
      clear c3
      (first | rw [c3b0] | (simp only [i64_w, i32_w]; rw [c3b0]) | skip)
      have H' := Aside0.mk H
      clear H
      go_wp2
      go_meet
      case rel => exact ⟨_, (decide (a0 ≤ 90)), (by first | rfl | (simp; done) | (simp [*]; done)), H', ⟨by first | omega | exact Nat.le_refl _⟩, by repeat (first | exact Drawn0.refl _ | apply Drawn0.step)⟩
    · rw [if_neg c3] at H
      have c3b0 : decide (65 ≤ a0) = false := decide_eq_false c3
      clear c3
      (first | rw [c3b0] | (simp only [i64_w, i32_w]; rw [c3b0]) | skip)
      have H' := Aside0.mk H
      clear H
      go_wp2
      go_meet
      case rel => exact ⟨_, (false), (by first | rfl | (simp; done) | (simp [*]; done)), H', ⟨by first | omega | exact Nat.le_refl _⟩, by repeat (first | exact Drawn0.refl _ | apply Drawn0.step)⟩
  case rest =>
    clear HC2
    try clear p2
    try clear c3
    try clear c3b0
    obtain ⟨kq, x3_1, rfl, HA, HJ1, ⟨mc1, rfl⟩⟩ := hcut
    cases kq with
    | zero => exact absurd HA.out (by simp [basic_six.j0])
    | succ kj1 =>
      have H := HA.out
      clear HA
      simp only [basic_six.j0] at H
      by_cases c4 : x3_1 = true
      · subst c4
        have H1 : (some ((a0 - 65) % 256)) = some r := by rw [if_pos rfl] at H; exact H
        clear H
        have H := H1
        clear H1
        obtain rfl := Option.some.inj H
        go_wp2
        go_ret
        exact ⟨by first | rfl | (simp; done) | (simp [*]; done), by repeat (first | exact Drawn0.refl _ | apply Drawn0.step)⟩
      · replace c4 := Bool.eq_false_iff.mpr c4
        subst c4
        have H1 : (if a0 ≥ 97 then (basic_six.j1 kj1 a0 (decide (a0 ≤ 122))) else (basic_six.j1 kj1 a0 false)) = some r := by rw [if_neg (show ¬ (false = true) by decide)] at H; exact H
        clear H
        have H := H1
        clear H1
        have HC5 := Aside0.mk H
        clear H
        go_upto_region 3 with (fail)
        go_cut [13] (fun v13 wc => ∃ (kq : Nat) (x13_4 : Bool), v13 = .bool x13_4 ∧ Aside0 (basic_six.j1 kq a0 x13_4 = some r) ∧ Aside0 (kq ≤ kj1) ∧ Drawn0 w wc)
        case first =>
          have H := HC5.out
          clear HC5
          by_cases c6 : a0 ≥ 97
          · rw [if_pos c6] at H
            have c6b0 : decide (97 ≤ a0) = true := decide_eq_true c6
            clear c6
            (first | rw [c6b0] | (simp only [i64_w, i32_w]; rw [c6b0]) | skip)
            have H' := Aside0.mk H
            clear H
            go_wp2
            go_meet
            case rel => exact ⟨_, (decide (a0 ≤ 122)), (by first | rfl | (simp; done) | (simp [*]; done)), H', ⟨by have := HJ1.out; first | omega | exact Nat.le_refl _⟩, by repeat (first | exact Drawn0.refl _ | apply Drawn0.step)⟩
          · rw [if_neg c6] at H
            have c6b0 : decide (97 ≤ a0) = false := decide_eq_false c6
            clear c6
            (first | rw [c6b0] | (simp only [i64_w, i32_w]; rw [c6b0]) | skip)
            have H' := Aside0.mk H
            clear H
            go_wp2
            go_meet
            case rel => exact ⟨_, (false), (by first | rfl | (simp; done) | (simp [*]; done)), H', ⟨by have := HJ1.out; first | omega | exact Nat.le_refl _⟩, by repeat (first | exact Drawn0.refl _ | apply Drawn0.step)⟩
        case rest =>
          clear HC5
          try clear c1
          try clear p2
          try clear c3
          try clear c3b0
          try clear c4
          try clear c6
          try clear c6b0
          try clear p2
          obtain ⟨kq, x13_4, rfl, HA, HJ4, ⟨mc4, rfl⟩⟩ := hcut
          cases kq with
          | zero => exact absurd HA.out (by simp [basic_six.j1])
          | succ kj4 =>
            have H := HA.out
            clear HA
            simp only [basic_six.j1] at H
            by_cases c7 : x13_4 = true
            · subst c7
              have H1 : (some (((a0 - 97) % 256) + 26)) = some r := by rw [if_pos rfl] at H; exact H
              clear H
              have H := H1
              clear H1
              obtain rfl := Option.some.inj H
              go_wp2
              go_ret
              exact ⟨by first | rfl | (simp; done) | (simp [*]; done), by repeat (first | exact Drawn0.refl _ | apply Drawn0.step)⟩
            · replace c7 := Bool.eq_false_iff.mpr c7
              subst c7
              have H1 : (if a0 ≥ 48 then (basic_six.j2 kj4 a0 (decide (a0 ≤ 57))) else (basic_six.j2 kj4 a0 false)) = some r := by rw [if_neg (show ¬ (false = true) by decide)] at H; exact H
              clear H
              have H := H1
              clear H1
              have HC8 := Aside0.mk H
              clear H
              go_upto_region 5 with (fail)
              go_cut [24] (fun v24 wc => ∃ (kq : Nat) (x24_7 : Bool), v24 = .bool x24_7 ∧ Aside0 (basic_six.j2 kq a0 x24_7 = some r) ∧ Aside0 (kq ≤ kj4) ∧ Drawn0 w wc)
              case first =>
                have H := HC8.out
                clear HC8
                by_cases c9 : a0 ≥ 48
                · rw [if_pos c9] at H
                  have c9b0 : decide (48 ≤ a0) = true := decide_eq_true c9
                  clear c9
                  (first | rw [c9b0] | (simp only [i64_w, i32_w]; rw [c9b0]) | skip)
                  have H' := Aside0.mk H
                  clear H
                  go_wp2
                  go_meet
                  case rel => exact ⟨_, (decide (a0 ≤ 57)), (by first | rfl | (simp; done) | (simp [*]; done)), H', ⟨by have := HJ1.out; have := HJ4.out; first | omega | exact Nat.le_refl _⟩, by repeat (first | exact Drawn0.refl _ | apply Drawn0.step)⟩
                · rw [if_neg c9] at H
                  have c9b0 : decide (48 ≤ a0) = false := decide_eq_false c9
                  clear c9
                  (first | rw [c9b0] | (simp only [i64_w, i32_w]; rw [c9b0]) | skip)
                  have H' := Aside0.mk H
                  clear H
                  go_wp2
                  go_meet
                  case rel => exact ⟨_, (false), (by first | rfl | (simp; done) | (simp [*]; done)), H', ⟨by have := HJ1.out; have := HJ4.out; first | omega | exact Nat.le_refl _⟩, by repeat (first | exact Drawn0.refl _ | apply Drawn0.step)⟩
              case rest =>
                clear HC8
                try clear c1
                try clear p2
                try clear c3
                try clear c3b0
                try clear c4
                try clear c6
                try clear c6b0
                try clear c7
                try clear c9
                try clear c9b0
                try clear p2
                obtain ⟨kq, x24_7, rfl, HA, HJ7, ⟨mc7, rfl⟩⟩ := hcut
                cases kq with
                | zero => exact absurd HA.out (by simp [basic_six.j2])
                | succ kj7 =>
                  have H := HA.out
                  clear HA
                  simp only [basic_six.j2] at H
                  by_cases c10 : x24_7 = true
                  · subst c10
                    have H1 : (some (((a0 - 48) % 256) + 52)) = some r := by rw [if_pos rfl] at H; exact H
                    clear H
                    have H := H1
                    clear H1
                    obtain rfl := Option.some.inj H
                    go_wp2
                    go_ret
                    exact ⟨by first | rfl | (simp; done) | (simp [*]; done), by repeat (first | exact Drawn0.refl _ | apply Drawn0.step)⟩
                  · replace c10 := Bool.eq_false_iff.mpr c10
                    subst c10
                    have H1 : (if a0 = 43 then (some 62) else (if a0 = 47 then (some 63) else (some (-1)))) = some r := by rw [if_neg (show ¬ (false = true) by decide)] at H; exact H
                    clear H
                    have H := H1
                    clear H1
                    by_cases c11 : a0 = 43
                    · rw [if_pos c11] at H
                      have c11b0 : (a0 == 43) = true := beq_iff_eq.mpr c11
                      have c11b1 : (a0 != 43) = false := bne_eq_false_iff_eq.mpr c11
                      clear c11
                      obtain rfl := Option.some.inj H
                      go_wp2
                      go_ret
                      exact ⟨by first | rfl | (simp; done) | (simp [*]; done), by repeat (first | exact Drawn0.refl _ | apply Drawn0.step)⟩
                    · rw [if_neg c11] at H
                      have c11b0 : (a0 == 43) = false := beq_eq_false_iff_ne.mpr c11
                      have c11b1 : (a0 != 43) = true := bne_iff_ne.mpr c11
                      by_cases c12 : a0 = 47
                      · rw [if_pos c12] at H
                        have c12b0 : (a0 == 47) = true := beq_iff_eq.mpr c12
                        have c12b1 : (a0 != 47) = false := bne_eq_false_iff_eq.mpr c12
                        clear c12
                        obtain rfl := Option.some.inj H
                        go_wp2
                        go_ret
                        exact ⟨by first | rfl | (simp; done) | (simp [*]; done), by repeat (first | exact Drawn0.refl _ | apply Drawn0.step)⟩
                      · rw [if_neg c12] at H
                        have c12b0 : (a0 == 47) = false := beq_eq_false_iff_ne.mpr c12
                        have c12b1 : (a0 != 47) = true := bne_iff_ne.mpr c12
                        obtain rfl := Option.some.inj H
                        go_wp2
                        go_ret
                        exact ⟨by first | rfl | (simp; done) | (simp [*]; done), by repeat (first | exact Drawn0.refl _ | apply Drawn0.step)⟩

end Go.Proofs.YteajidciahoboaaDoor.P
-- PzbasicDecode
-- PRINTED by print.py (a twelfth state) out of the translation. Not trusted: Lean checks it.
namespace Go.Proofs.YteajidciahoboaaDoor.P
open Go.RowKit Go.Proofs.YteajidciahoboaaDoorW.PrintWords Go.Proofs.YteajidciahoboaaDoorW.PrintLast Go.Proofs.YteajidciahoboaaDoorW.PrintMore
attribute [local go_sem] max2_int min2_int max_two min_two max_three min_three max_four min_four   -- for this text's walks alone
set_option linter.unusedVariables false
set_option linter.unusedSimpArgs false

/-! ### basic_Decode: function 27 -/
mutual
def basic_Decode.j0 : Nat → ByteArray → Bool → Option (List Int × Int)
  | 0, _, _ => none
  | k + 1, x4, x42 => if x42 = true then (some (([] : List Int), 5)) else (basic_Decode.l0 k x4 ([] : List Int) 0 0 (x4.size : Int) 0)
def basic_Decode.l0 : Nat → ByteArray → List Int → Int → Int → Int → Int → Option (List Int × Int)
  | 0, _, _, _, _, _, _ => none
  | k + 1, x4, x5, x6, x7, x44, x45 => if x45 < x44 then (if 0 ≤ x45 then (if x45 < (x4.size : Int) then ((basic_six.f k (bt x4 x45)).bind fun t200 => (if t200 < 0 then (some (([] : List Int), 5)) else (if (wrap64 (x7 + 6)) ≥ 8 then (if 0 ≤ (wrap64 ((wrap64 (x7 + 6)) - 8)) then (if x5.length < 140737488355328 then (basic_Decode.l0 k x4 (x5 ++ [(shr .i64 (Go.bits .or .i64 (wrap64 (x6 * 64)) t200) (wrap64 ((wrap64 (x7 + 6)) - 8))) % 256]) (Go.bits .and .i64 (Go.bits .or .i64 (wrap64 (x6 * 64)) t200) (wrap64 ((shl .i64 1 (wrap64 ((wrap64 (x7 + 6)) - 8))) - 1))) (wrap64 ((wrap64 (x7 + 6)) - 8)) x44 (wrap64 (x45 + 1))) else (none)) else (none)) else (basic_Decode.l0 k x4 x5 (Go.bits .or .i64 (wrap64 (x6 * 64)) t200) (wrap64 (x7 + 6)) x44 (wrap64 (x45 + 1)))))) else (none)) else (none)) else (if x6 = 0 then (some (x5, 0)) else (some (([] : List Int), 5)))
end
def basic_Decode.f (k : Nat) (a0 : ByteArray) : Option (List Int × Int) := if (a0.size : Int) > 131072 then (some (([] : List Int), 3)) else (if ((a0.size : Int) % 4) = 0 then ((strings_TrimSuffix.f a0 (⟨#[61]⟩ : ByteArray)).bind fun t197 => ((strings_TrimSuffix.f t197 (⟨#[61]⟩ : ByteArray)).bind fun t198 => (if ((t198.size : Int) % 4) = 1 then (basic_Decode.j0 k t198 true) else ((strings_HasSuffix.f t198 (⟨#[61]⟩ : ByteArray)).bind fun t199 => (if t199 = true then (basic_Decode.j0 k t198 true) else (basic_Decode.j0 k t198 ((wrap64 ((a0.size : Int) - (t198.size : Int))) != ((4 - ((t198.size : Int) % 4)) % 4)))))))) else (some (([] : List Int), 5)))
set_option maxHeartbeats 8000000 in
set_option maxRecDepth 100000 in
theorem basic_Decode.calls (k : Nat) (a0 : ByteArray) (r1 : List Int) (r2 : Int) (w : World) (h : basic_Decode.f k a0 = some (r1, r2)) :
    Calls Tryd.prog 27 #[.string a0] w fun e w' => ∃ v0_ : Value, e = .returned (.tuple #[v0_, .int .i64 r2]) ∧ Kd.R (Kd.int .u8) 5 w' w.heap.size (fun _ => True) v0_ r1 ∧ Below w.heap.size w w' := by
  have HB := Aside0.mk (Below.refl w.heap.size w)
  have H : (if (a0.size : Int) > 131072 then (some (([] : List Int), 3)) else (if ((a0.size : Int) % 4) = 0 then ((strings_TrimSuffix.f a0 (⟨#[61]⟩ : ByteArray)).bind fun t197 => ((strings_TrimSuffix.f t197 (⟨#[61]⟩ : ByteArray)).bind fun t198 => (if ((t198.size : Int) % 4) = 1 then (basic_Decode.j0 k t198 true) else ((strings_HasSuffix.f t198 (⟨#[61]⟩ : ByteArray)).bind fun t199 => (if t199 = true then (basic_Decode.j0 k t198 true) else (basic_Decode.j0 k t198 ((wrap64 ((a0.size : Int) - (t198.size : Int))) != ((4 - ((t198.size : Int) % 4)) % 4)))))))) else (some (([] : List Int), 5)))) = some (r1, r2) := h
  clear h
  by_cases c2 : (a0.size : Int) > 131072
  · rw [if_pos c2] at H
    have c2b0 : decide (131072 < (a0.size : Int)) = true := decide_eq_true c2
    have c2b1 : decide (131072 < a0.size) = true := decide_eq_true (by omega)
    clear c2
    simp only [Option.some.injEq, Prod.mk.injEq] at H
    obtain ⟨rfl, rfl⟩ := H
    go_enter Tryd.func27, Tryd.ntmps27
    go_wp2
    go_ret2
    exact ⟨_, by first | rfl | (simp [errW_none, errW_some] <;> rfl) | (simp [*, errW_none, errW_some] <;> rfl), by first | exact Kd.R_nil _ _ _ _ _ | exact Kd.N_nil _ _ _ _ _ | exact Kd.V_nil _ _ _ _ _ | exact Kd.Q_nil _ _ _ _ _ | exact Kd.S_nil _ _ _ _ _, by repeat (first | (with_reducible first | exact HB.out | apply below_alloc | apply pw_below_drewN | apply below_drew1) | exact HB.out)⟩
  · rw [if_neg c2] at H
    have c2b0 : decide (131072 < (a0.size : Int)) = false := decide_eq_false c2
    have c2b1 : decide (131072 < a0.size) = false := decide_eq_false (by omega)
    clear c2
    by_cases c3 : ((a0.size : Int) % 4) = 0
    · rw [if_pos c3] at H
      have c3b0 : (((a0.size : Int) % 4) == 0) = true := beq_iff_eq.mpr c3
      have c3b1 : (((a0.size : Int) % 4) != 0) = false := bne_eq_false_iff_eq.mpr c3
      clear c3
      replace H := Option.bind_eq_some_iff.mp H
      obtain ⟨t197, A40, H⟩ := H
      replace H : ((strings_TrimSuffix.f t197 (⟨#[61]⟩ : ByteArray)).bind fun t198 => (if ((t198.size : Int) % 4) = 1 then (basic_Decode.j0 k t198 true) else ((strings_HasSuffix.f t198 (⟨#[61]⟩ : ByteArray)).bind fun t199 => (if t199 = true then (basic_Decode.j0 k t198 true) else (basic_Decode.j0 k t198 ((wrap64 ((a0.size : Int) - (t198.size : Int))) != ((4 - ((t198.size : Int) % 4)) % 4))))))) = some (r1, r2) := H
      have A4 := Aside0.mk A40
      clear A40
      replace H := Option.bind_eq_some_iff.mp H
      obtain ⟨t198, A50, H⟩ := H
      replace H : (if ((t198.size : Int) % 4) = 1 then (basic_Decode.j0 k t198 true) else ((strings_HasSuffix.f t198 (⟨#[61]⟩ : ByteArray)).bind fun t199 => (if t199 = true then (basic_Decode.j0 k t198 true) else (basic_Decode.j0 k t198 ((wrap64 ((a0.size : Int) - (t198.size : Int))) != ((4 - ((t198.size : Int) % 4)) % 4)))))) = some (r1, r2) := H
      have A5 := Aside0.mk A50
      clear A50
      have HC6 := Aside0.mk H
      clear H
      go_enter Tryd.func27, Tryd.ntmps27
      go_upto_region 6 with (first | ((with_reducible refine gate_callee (f := 59) rfl ?_); refine goesL_ (some 20) rfl rfl Tryd.func59 (by kernel_rfl) rfl #[.string a0, .string (⟨#[61]⟩ : ByteArray)] rfl (by (try simp only [List.map_toArray, List.map_cons, List.map_nil]); first | done | rfl | (simp only [List.length_drop, List.length_take]; rfl)) ?_; (with_reducible refine (strings_TrimSuffix.calls a0 (⟨#[61]⟩ : ByteArray) t197 _ A4.out).mono ?_); rintro e w' ⟨rfl, ⟨nd, rfl⟩⟩; refine ⟨_, rfl, ?_⟩) | ((with_reducible refine gate_callee (f := 59) rfl ?_); refine goesL_ (some 21) rfl rfl Tryd.func59 (by kernel_rfl) rfl #[.string t197, .string (⟨#[61]⟩ : ByteArray)] rfl (by (try simp only [List.map_toArray, List.map_cons, List.map_nil]); first | done | rfl | (simp only [List.length_drop, List.length_take]; rfl)) ?_; (with_reducible refine (strings_TrimSuffix.calls t197 (⟨#[61]⟩ : ByteArray) t198 _ A5.out).mono ?_); rintro e w' ⟨rfl, ⟨nd, rfl⟩⟩; refine ⟨_, rfl, ?_⟩))
      (try simp only [Act.put, List.setIfInBounds_toArray, List.set_cons_zero, List.set_cons_succ])
      go_cut [42] (fun v42 wc => ∃ (kq : Nat) (x42_5 : Bool), v42 = .bool x42_5 ∧ Aside0 (basic_Decode.j0 kq t198 x42_5 = some (r1, r2)) ∧ Aside0 (kq ≤ k) ∧ Aside0 (Below w.heap.size w wc))
      case first =>
        have H := HC6.out
        clear HC6
        by_cases c7 : ((t198.size : Int) % 4) = 1
        · rw [if_pos c7] at H
          have c7b0 : (((t198.size : Int) % 4) == 1) = true := beq_iff_eq.mpr c7
          have c7b1 : (((t198.size : Int) % 4) != 1) = false := bne_eq_false_iff_eq.mpr c7
          clear c7
          (first | rw [c7b0] | (simp only [i64_w, i32_w]; rw [c7b0]) | skip)
          have H' := Aside0.mk H
          clear H
          go_wp2
          go_meet
          case rel => exact ⟨_, (true), (by first | rfl | (simp; done) | (simp [*]; done)), H', ⟨by first | omega | exact Nat.le_refl _⟩, ⟨by repeat (first | (with_reducible first | exact HB.out | apply below_alloc | apply pw_below_drewN | apply below_drew1) | exact HB.out)⟩⟩
        · rw [if_neg c7] at H
          have c7b0 : (((t198.size : Int) % 4) == 1) = false := beq_eq_false_iff_ne.mpr c7
          have c7b1 : (((t198.size : Int) % 4) != 1) = true := bne_iff_ne.mpr c7
          (first | rw [c7b0] | (simp only [i64_w, i32_w]; rw [c7b0]) | skip)
          replace H := Option.bind_eq_some_iff.mp H
          obtain ⟨t199, A80, H⟩ := H
          replace H : (if t199 = true then (basic_Decode.j0 k t198 true) else (basic_Decode.j0 k t198 ((wrap64 ((a0.size : Int) - (t198.size : Int))) != ((4 - ((t198.size : Int) % 4)) % 4)))) = some (r1, r2) := H
          have A8 := Aside0.mk A80
          clear A80
          by_cases c9 : t199 = true
          · subst c9
            have H1 : (basic_Decode.j0 k t198 true) = some (r1, r2) := by rw [if_pos rfl] at H; exact H
            clear H
            have H := H1
            clear H1
            have H' := Aside0.mk H
            clear H
            go_wp2_with (first | (go_at_call 60; (with_reducible refine (strings_HasSuffix.calls t198 (⟨#[61]⟩ : ByteArray) true _ A8.out).mono ?_); rintro e w' ⟨rfl, ⟨nd, rfl⟩⟩))
            go_meet
            case rel => exact ⟨_, (true), (by first | rfl | (simp; done) | (simp [*]; done)), H', ⟨by first | omega | exact Nat.le_refl _⟩, ⟨by repeat (first | (with_reducible first | exact HB.out | apply below_alloc | apply pw_below_drewN | apply below_drew1) | exact HB.out)⟩⟩
          · replace c9 := Bool.eq_false_iff.mpr c9
            subst c9
            have H1 : (basic_Decode.j0 k t198 ((wrap64 ((a0.size : Int) - (t198.size : Int))) != ((4 - ((t198.size : Int) % 4)) % 4))) = some (r1, r2) := by rw [if_neg (show ¬ (false = true) by decide)] at H; exact H
            clear H
            have H := H1
            clear H1
            have H' := Aside0.mk H
            clear H
            go_wp2_with (first | (go_at_call 60; (with_reducible refine (strings_HasSuffix.calls t198 (⟨#[61]⟩ : ByteArray) false _ A8.out).mono ?_); rintro e w' ⟨rfl, ⟨nd, rfl⟩⟩))
            go_meet
            case rel => exact ⟨_, (((wrap64 ((a0.size : Int) - (t198.size : Int))) != ((4 - ((t198.size : Int) % 4)) % 4))), (by first | rfl | (simp; done) | (simp [*]; done)), H', ⟨by first | omega | exact Nat.le_refl _⟩, ⟨by repeat (first | (with_reducible first | exact HB.out | apply below_alloc | apply pw_below_drewN | apply below_drew1) | exact HB.out)⟩⟩
      case rest =>
        clear HC6
        try clear c2
        try clear c2b0
        try clear c2b1
        try clear p2
        try clear c3
        try clear c3b0
        try clear c3b1
        try clear c5
        try clear p6
        try clear c7
        try clear c7b0
        try clear c7b1
        try clear c9
        obtain ⟨kq, x42_5, rfl, HA, HJ5, HB⟩ := hcut
        cases kq with
        | zero => exact absurd HA.out (by simp [basic_Decode.j0])
        | succ kj5 =>
          have H := HA.out
          clear HA
          simp only [basic_Decode.j0] at H
          by_cases c10 : x42_5 = true
          · subst c10
            have H1 : (some (([] : List Int), 5)) = some (r1, r2) := by rw [if_pos rfl] at H; exact H
            clear H
            have H := H1
            clear H1
            simp only [Option.some.injEq, Prod.mk.injEq] at H
            obtain ⟨rfl, rfl⟩ := H
            go_wp2
            go_ret2
            exact ⟨_, by first | rfl | (simp [errW_none, errW_some] <;> rfl) | (simp [*, errW_none, errW_some] <;> rfl), by first | exact Kd.R_nil _ _ _ _ _ | exact Kd.N_nil _ _ _ _ _ | exact Kd.V_nil _ _ _ _ _ | exact Kd.Q_nil _ _ _ _ _ | exact Kd.S_nil _ _ _ _ _, by repeat (first | (with_reducible first | exact HB.out | apply below_alloc | apply pw_below_drewN | apply below_drew1) | exact HB.out)⟩
          · replace c10 := Bool.eq_false_iff.mpr c10
            subst c10
            have H1 : (basic_Decode.l0 kj5 t198 ([] : List Int) 0 0 (t198.size : Int) 0) = some (r1, r2) := by rw [if_neg (show ¬ (false = true) by decide)] at H; exact H
            clear H
            have H := H1
            clear H1
            have H' := Aside0.mk H
            clear H
            go_wp2
            go_loopg [5, 6, 7, 45] kj5 (fun kq v5 v6 v7 v45 w' => ∃ (x5_2 : List Int) (x6_2 : Int) (x7_2 : Int) (x45_2 : Int), v6 = .int .i64 x6_2 ∧ v7 = .int .i64 x7_2 ∧ v45 = .int .i64 x45_2 ∧ Aside0 (basic_Decode.l0 kq t198 x5_2 x6_2 x7_2 (t198.size : Int) x45_2 = some (r1, r2)) ∧ Aside0 (kq ≤ kj5) ∧ Aside0 (Kd.R (Kd.int .u8) 5 w' w.heap.size (fun _ => True) v5 x5_2) ∧ Aside0 (Below w.heap.size w w'))
            case atStart => exact ⟨(([] : List Int)), (0), (0), (0), (by first | rfl | (simp; done) | (simp [*]; done)), (by first | rfl | (simp; done) | (simp [*]; done)), (by first | rfl | (simp; done) | (simp [*]; done)), H', ⟨Nat.le_refl _⟩, ⟨by first | exact Kd.R_nil _ _ _ _ _ | exact Kd.N_nil _ _ _ _ _ | exact Kd.V_nil _ _ _ _ _ | exact Kd.Q_nil _ _ _ _ _ | exact Kd.S_nil _ _ _ _ _⟩, ⟨by repeat (first | (with_reducible first | exact HB.out | apply below_alloc | apply pw_below_drewN | apply below_drew1) | exact HB.out)⟩⟩
            case round =>
              clear H'
              try clear c1
              try clear c2
              try clear c2b0
              try clear c2b1
              try clear p2
              try clear c3
              try clear c3b0
              try clear c3b1
              try clear c5
              try clear p6
              try clear c7
              try clear c7b0
              try clear c7b1
              try clear c9
              try clear c10
              try clear p2
              try clear p6
              obtain ⟨x5_2, x6_2, x7_2, x45_2, rfl, rfl, rfl, HA, HK2, HO_5, HB⟩ := hrel
              cases gk with
              | zero => exact absurd HA.out (by simp [basic_Decode.l0])
              | succ k2 =>
                have H := HA.out
                clear HA
                simp only [basic_Decode.l0] at H
                by_cases c11 : x45_2 < (t198.size : Int)
                · rw [if_pos c11] at H
                  have c11b0 : decide (x45_2 < (t198.size : Int)) = true := decide_eq_true c11
                  clear c11
                  by_cases c12 : 0 ≤ x45_2
                  · rw [if_pos c12] at H
                    have c12b0 : decide (0 ≤ x45_2) = true := decide_eq_true c12
                    clear c12
                    by_cases c13 : x45_2 < (t198.size : Int)
                    · rw [if_pos c13] at H
                      have c13b0 : decide (x45_2 < (t198.size : Int)) = true := decide_eq_true c13
                      clear c13
                      replace H := Option.bind_eq_some_iff.mp H
                      obtain ⟨t200, A150, H⟩ := H
                      replace H : (if t200 < 0 then (some (([] : List Int), 5)) else (if (wrap64 (x7_2 + 6)) ≥ 8 then (if 0 ≤ (wrap64 ((wrap64 (x7_2 + 6)) - 8)) then (if x5_2.length < 140737488355328 then (basic_Decode.l0 k2 t198 (x5_2 ++ [(shr .i64 (Go.bits .or .i64 (wrap64 (x6_2 * 64)) t200) (wrap64 ((wrap64 (x7_2 + 6)) - 8))) % 256]) (Go.bits .and .i64 (Go.bits .or .i64 (wrap64 (x6_2 * 64)) t200) (wrap64 ((shl .i64 1 (wrap64 ((wrap64 (x7_2 + 6)) - 8))) - 1))) (wrap64 ((wrap64 (x7_2 + 6)) - 8)) (t198.size : Int) (wrap64 (x45_2 + 1))) else (none)) else (none)) else (basic_Decode.l0 k2 t198 x5_2 (Go.bits .or .i64 (wrap64 (x6_2 * 64)) t200) (wrap64 (x7_2 + 6)) (t198.size : Int) (wrap64 (x45_2 + 1))))) = some (r1, r2) := H
                      have A15 := Aside0.mk A150
                      clear A150
                      by_cases c16 : t200 < 0
                      · rw [if_pos c16] at H
                        have c16b0 : decide (t200 < 0) = true := decide_eq_true c16
                        clear c16
                        simp only [Option.some.injEq, Prod.mk.injEq] at H
                        obtain ⟨rfl, rfl⟩ := H
                        have p14 : 0 ≤ (x45_2 : Int) := of_decide_eq_true (by first | (with_reducible assumption) | assumption)
                        have q14 : x45_2 < (t198.size : Int) := of_decide_eq_true (by first | (with_reducible assumption) | assumption)
                        have hx14 := bt_at t198 x45_2
                        replace p14 := eq_true p14
                        replace q14 := eq_true q14
                        go_wp2_with (first | ((with_reducible refine gate_callee (f := 61) rfl ?_); refine goesL_ (some 51) rfl rfl Tryd.func61 (by kernel_rfl) rfl #[.int .u8 (bt t198 x45_2)] rfl (by (try simp only [List.map_toArray, List.map_cons, List.map_nil]); first | done | rfl | (simp only [List.length_drop, List.length_take]; rfl)) ?_; (with_reducible refine (basic_six.calls k2 (bt t198 x45_2) t200 _ A15.out).mono ?_); rintro e w' ⟨rfl, ⟨nd, rfl⟩⟩; refine ⟨_, rfl, ?_⟩))
                        go_ret2
                        exact ⟨_, by first | rfl | (simp [errW_none, errW_some] <;> rfl) | (simp [*, errW_none, errW_some] <;> rfl), by first | exact Kd.R_nil _ _ _ _ _ | exact Kd.N_nil _ _ _ _ _ | exact Kd.V_nil _ _ _ _ _ | exact Kd.Q_nil _ _ _ _ _ | exact Kd.S_nil _ _ _ _ _, by repeat (first | (with_reducible first | exact HB.out | apply below_alloc | apply pw_below_drewN | apply below_drew1) | exact HB.out)⟩
                      · rw [if_neg c16] at H
                        have c16b0 : decide (t200 < 0) = false := decide_eq_false c16
                        clear c16
                        by_cases c17 : (wrap64 (x7_2 + 6)) ≥ 8
                        · rw [if_pos c17] at H
                          have c17b0 : decide (8 ≤ (wrap64 (x7_2 + 6))) = true := decide_eq_true c17
                          clear c17
                          obtain ⟨ji18, hji18⟩ : ∃ j_ : Int, (wrap64 ((wrap64 (x7_2 + 6)) - 8)) = j_ := ⟨_, rfl⟩
                          replace H : (if 0 ≤ (ji18) then (if x5_2.length < 140737488355328 then (basic_Decode.l0 k2 t198 (x5_2 ++ [(shr .i64 (Go.bits .or .i64 (wrap64 (x6_2 * 64)) t200) (ji18)) % 256]) (Go.bits .and .i64 (Go.bits .or .i64 (wrap64 (x6_2 * 64)) t200) (wrap64 ((shl .i64 1 (ji18)) - 1))) ji18 (t198.size : Int) (wrap64 (x45_2 + 1))) else (none)) else (none)) = some (r1, r2) := by first | (rw [hji18] at H; exact H) | (simp only [hji18] at H ⊢; exact H)
                          (try rw [hji18] at A15)
                          have hji18w : (IntKind.i64.wrap ((wrap64 (x7_2 + 6)) - 8)) = ji18 := (i64_w _).trans hji18
                          by_cases c19 : 0 ≤ (ji18)
                          · rw [if_pos c19] at H
                            have c19b0 := eq_true c19
                            have c19b1 : decide (0 ≤ (ji18)) = true := decide_eq_true c19
                            clear c19
                            obtain ⟨ji20, hji20⟩ : ∃ j_ : Int, (shr .i64 (Go.bits .or .i64 (wrap64 (x6_2 * 64)) t200) (ji18)) = j_ := ⟨_, rfl⟩
                            replace H : (if x5_2.length < 140737488355328 then (basic_Decode.l0 k2 t198 (x5_2 ++ [(ji20) % 256]) (Go.bits .and .i64 (Go.bits .or .i64 (wrap64 (x6_2 * 64)) t200) (wrap64 ((shl .i64 1 (ji18)) - 1))) ji18 (t198.size : Int) (wrap64 (x45_2 + 1))) else (none)) = some (r1, r2) := by first | (rw [hji20] at H; exact H) | (simp only [hji20] at H ⊢; exact H)
                            (try rw [hji20] at A15)
                            have hji20_ : ((Go.bits .or .i64 (wrap64 (x6_2 * 64)) t200) / 2 ^ min (ji18).toNat 64) = ji20 := hji20
                            have hji20z : (ji18) ≤ 64 → ((Go.bits .or .i64 (wrap64 (x6_2 * 64)) t200) / 2 ^ (ji18).toNat) = ji20 := shr_small hji20
                            by_cases c21 : x5_2.length < 140737488355328
                            · rw [if_pos c21] at H
                              have LMc21 := Aside0.mk c21
                              clear c21
                              obtain ⟨y201, hy201⟩ : ∃ y_ : List Int, y_ = (x5_2 ++ [(ji20) % 256]) := ⟨_, rfl⟩
                              replace H : (basic_Decode.l0 k2 t198 y201 (Go.bits .and .i64 (Go.bits .or .i64 (wrap64 (x6_2 * 64)) t200) (wrap64 ((shl .i64 1 (ji18)) - 1))) ji18 (t198.size : Int) (wrap64 (x45_2 + 1))) = some (r1, r2) := by first | (rw [hy201]; with_reducible exact H) | (have H2_ := (Option.bind_some _ _).symm.trans H; rw [hy201]; with_reducible exact H2_) | (have H2_ := (Option.bind_some _ _).symm.trans H; with_reducible exact H2_) | with_reducible exact H | (rw [hy201]; exact H) | exact H
                              have Ny201 := Aside0.mk hy201
                              clear hy201
                              have c22b0 := eq_true (of_decide_eq_true (by first | (with_reducible assumption) | assumption) : 0 ≤ (ji18))
                              obtain ⟨ji23, hji23⟩ : ∃ j_ : Int, (shl .i64 1 (ji18)) = j_ := ⟨_, rfl⟩
                              replace H : (basic_Decode.l0 k2 t198 y201 (Go.bits .and .i64 (Go.bits .or .i64 (wrap64 (x6_2 * 64)) t200) (wrap64 ((ji23) - 1))) ji18 (t198.size : Int) (wrap64 (x45_2 + 1))) = some (r1, r2) := by first | (rw [hji23] at H; exact H) | (simp only [hji23] at H ⊢; exact H)
                              (try rw [hji23] at A15)
                              have hji23_ : (IntKind.i64.wrap (1 * 2 ^ min (ji18).toNat 64)) = ji23 := hji23
                              have hji23z : (ji18) ≤ 64 → (IntKind.i64.wrap (1 * 2 ^ (ji18).toNat)) = ji23 := shl_small hji23
                              have hji23u : (IntKind.i64.wrap (2 ^ min (ji18).toNat 64)) = ji23 := by have h_ := hji23_; rw [Int.one_mul] at h_; exact h_
                              have hji23v : (ji18) ≤ 64 → (IntKind.i64.wrap (2 ^ (ji18).toNat)) = ji23 := fun hle_ => by have h_ := hji23z hle_; rw [Int.one_mul] at h_; exact h_
                              have hji23y : (wrap64 (1 * 2 ^ min (ji18).toNat 64)) = ji23 := (i64_w _).symm.trans hji23_
                              have hji23x : (ji18) ≤ 64 → (wrap64 (1 * 2 ^ (ji18).toNat)) = ji23 := fun h_ => (i64_w _).symm.trans (hji23z h_)
                              have H' := Aside0.mk H
                              clear H
                              have p14 : 0 ≤ (x45_2 : Int) := of_decide_eq_true (by first | (with_reducible assumption) | assumption)
                              have q14 : x45_2 < (t198.size : Int) := of_decide_eq_true (by first | (with_reducible assumption) | assumption)
                              have hx14 := bt_at t198 x45_2
                              replace p14 := eq_true p14
                              replace q14 := eq_true q14
                              go_wp2_with (first | ((with_reducible refine gate_callee (f := 61) rfl ?_); refine goesL_ (some 51) rfl rfl Tryd.func61 (by kernel_rfl) rfl #[.int .u8 (bt t198 x45_2)] rfl (by (try simp only [List.map_toArray, List.map_cons, List.map_nil]); first | done | rfl | (simp only [List.length_drop, List.length_take]; rfl)) ?_; (with_reducible refine (basic_six.calls k2 (bt t198 x45_2) t200 _ A15.out).mono ?_); rintro e w' ⟨rfl, ⟨nd, rfl⟩⟩; refine ⟨_, rfl, ?_⟩) | ((with_reducible refine gate_builtin (b := .append) (xs := #[.tmp 64, .tmp 69]) rfl ?_); (try (refine gate_guard (by rfl) ?_; dsimp only)); at_builtin; refine Kd.R_append (Kd.int .u8) (w0 := w) w.heap.size rfl (.tmp 64) (.tmp 69) 36 5 (.int .u8 0) 1 rfl Tryd.underlying36 info5 rfl (by decide) (by omega) u5 x5_2 ((ji20) % 256) [.int .u8 ((ji20) % 256)] (fun _ => True) (fun _ => False) rfl rfl ?aP (fun _ hk => hk.elim) ?aF ?aO ?aB ?aS ?aL ?_; (case aP => exact rfl); (case aB => exact (by repeat (first | (with_reducible first | exact HB.out | apply below_alloc | apply pw_below_drewN | apply below_drew1) | exact HB.out))); (case aF => exact (fun _ _ => trivial)); (case aO => exact (by (with_reducible repeat (first | apply Kd.R_alloc | apply Kd.R_drewN | apply Kd.R_drew)); exact HO_5.out)); (case aS => exact (below_size (by repeat (first | (with_reducible first | exact HB.out | apply below_alloc | apply pw_below_drewN | apply below_drew1) | exact HB.out)))); (case aL => have := LMc21.out; omega); intro v202 w24 ho hb hg hat; rw [← Ny201.out] at ho; have n0_ := Aside0.mk (hb); have n1_ := Aside0.mk (ho); clear HB; clear HO_5; have HB := n0_; have HO203 := n1_; clear n0_ n1_; clear ho hb hg hat))
                              go_roundg k2
                              case measure => have := HJ5.out; have := HK2.out; omega
                              case rel => exact ⟨(y201), (Go.bits .and .i64 (Go.bits .or .i64 (wrap64 (x6_2 * 64)) t200) (wrap64 ((ji23) - 1))), (ji18), (wrap64 (x45_2 + 1)), (by first | rfl | (simp; done) | (simp only [← hji23] <;> (first | rfl | simp)) | (simp [*]; done)), (by first | rfl | (simp; done) | (simp only [← hji18] <;> (first | rfl | simp)) | (simp [*]; done)), (by first | rfl | (simp; done) | (simp [*]; done)), H', ⟨by have := HJ5.out; have := HK2.out; omega⟩, ⟨by (with_reducible repeat (first | apply Kd.R_alloc | apply Kd.R_drewN | apply Kd.R_drew)); exact HO203.out⟩, ⟨by repeat (first | (with_reducible first | exact HB.out | apply below_alloc | apply pw_below_drewN | apply below_drew1) | exact HB.out)⟩⟩
                            · rw [if_neg c21] at H
                              exact absurd H (by simp)
                          · rw [if_neg c19] at H
                            exact absurd H (by simp)
                        · rw [if_neg c17] at H
                          have c17b0 : decide (8 ≤ (wrap64 (x7_2 + 6))) = false := decide_eq_false c17
                          clear c17
                          have H' := Aside0.mk H
                          clear H
                          have p14 : 0 ≤ (x45_2 : Int) := of_decide_eq_true (by first | (with_reducible assumption) | assumption)
                          have q14 : x45_2 < (t198.size : Int) := of_decide_eq_true (by first | (with_reducible assumption) | assumption)
                          have hx14 := bt_at t198 x45_2
                          replace p14 := eq_true p14
                          replace q14 := eq_true q14
                          go_wp2_with (first | ((with_reducible refine gate_callee (f := 61) rfl ?_); refine goesL_ (some 51) rfl rfl Tryd.func61 (by kernel_rfl) rfl #[.int .u8 (bt t198 x45_2)] rfl (by (try simp only [List.map_toArray, List.map_cons, List.map_nil]); first | done | rfl | (simp only [List.length_drop, List.length_take]; rfl)) ?_; (with_reducible refine (basic_six.calls k2 (bt t198 x45_2) t200 _ A15.out).mono ?_); rintro e w' ⟨rfl, ⟨nd, rfl⟩⟩; refine ⟨_, rfl, ?_⟩))
                          go_roundg k2
                          case measure => have := HJ5.out; have := HK2.out; omega
                          case rel => exact ⟨(x5_2), (Go.bits .or .i64 (wrap64 (x6_2 * 64)) t200), (wrap64 (x7_2 + 6)), (wrap64 (x45_2 + 1)), (by first | rfl | (simp; done) | (simp [*]; done)), (by first | rfl | (simp; done) | (simp [*]; done)), (by first | rfl | (simp; done) | (simp [*]; done)), H', ⟨by have := HJ5.out; have := HK2.out; omega⟩, ⟨by (with_reducible repeat (first | apply Kd.R_alloc | apply Kd.R_drewN | apply Kd.R_drew)); exact HO_5.out⟩, ⟨by repeat (first | (with_reducible first | exact HB.out | apply below_alloc | apply pw_below_drewN | apply below_drew1) | exact HB.out)⟩⟩
                    · rw [if_neg c13] at H
                      exact absurd H (by simp)
                  · rw [if_neg c12] at H
                    exact absurd H (by simp)
                · rw [if_neg c11] at H
                  have c11b0 : decide (x45_2 < (t198.size : Int)) = false := decide_eq_false c11
                  clear c11
                  by_cases c25 : x6_2 = 0
                  · rw [if_pos c25] at H
                    have c25b0 : (x6_2 == 0) = true := beq_iff_eq.mpr c25
                    have c25b1 : (x6_2 != 0) = false := bne_eq_false_iff_eq.mpr c25
                    clear c25
                    simp only [Option.some.injEq, Prod.mk.injEq] at H
                    obtain ⟨rfl, rfl⟩ := H
                    go_wp2
                    go_ret2
                    exact ⟨_, by first | rfl | (simp [errW_none, errW_some] <;> rfl) | (simp [*, errW_none, errW_some] <;> rfl), by (with_reducible repeat (first | apply Kd.R_alloc | apply Kd.R_drewN | apply Kd.R_drew)); exact HO_5.out, by repeat (first | (with_reducible first | exact HB.out | apply below_alloc | apply pw_below_drewN | apply below_drew1) | exact HB.out)⟩
                  · rw [if_neg c25] at H
                    have c25b0 : (x6_2 == 0) = false := beq_eq_false_iff_ne.mpr c25
                    have c25b1 : (x6_2 != 0) = true := bne_iff_ne.mpr c25
                    simp only [Option.some.injEq, Prod.mk.injEq] at H
                    obtain ⟨rfl, rfl⟩ := H
                    go_wp2
                    go_ret2
                    exact ⟨_, by first | rfl | (simp [errW_none, errW_some] <;> rfl) | (simp [*, errW_none, errW_some] <;> rfl), by first | exact Kd.R_nil _ _ _ _ _ | exact Kd.N_nil _ _ _ _ _ | exact Kd.V_nil _ _ _ _ _ | exact Kd.Q_nil _ _ _ _ _ | exact Kd.S_nil _ _ _ _ _, by repeat (first | (with_reducible first | exact HB.out | apply below_alloc | apply pw_below_drewN | apply below_drew1) | exact HB.out)⟩
    · rw [if_neg c3] at H
      have c3b0 : (((a0.size : Int) % 4) == 0) = false := beq_eq_false_iff_ne.mpr c3
      have c3b1 : (((a0.size : Int) % 4) != 0) = true := bne_iff_ne.mpr c3
      simp only [Option.some.injEq, Prod.mk.injEq] at H
      obtain ⟨rfl, rfl⟩ := H
      go_enter Tryd.func27, Tryd.ntmps27
      go_wp2
      go_ret2
      exact ⟨_, by first | rfl | (simp [errW_none, errW_some] <;> rfl) | (simp [*, errW_none, errW_some] <;> rfl), by first | exact Kd.R_nil _ _ _ _ _ | exact Kd.N_nil _ _ _ _ _ | exact Kd.V_nil _ _ _ _ _ | exact Kd.Q_nil _ _ _ _ _ | exact Kd.S_nil _ _ _ _ _, by repeat (first | (with_reducible first | exact HB.out | apply below_alloc | apply pw_below_drewN | apply below_drew1) | exact HB.out)⟩

end Go.Proofs.YteajidciahoboaaDoor.P
-- P2
set_option linter.unusedVariables false
set_option linter.unusedSimpArgs false
namespace Go.Proofs.YteajidciahoboaaDoor.H
open Go.RowKit Go.Shelf Go.Proofs.YteajidciahoboaaDoorW.PrintWords Go.Proofs.YteajidciahoboaaDoorW.PrintLast Go.Proofs.YteajidciahoboaaDoorW.PrintMore Go.Proofs.YteajidciahoboaaDoor.M

/-! ### Texts as lists of numbers -/
theorem str_ext {a b : ByteArray} (h : a.data.toList = b.data.toList) : a = b := ByteArray.ext (Array.ext' h)
theorem strOf_data (xs : List Int) : (strOfNums xs).data.toList = xs.map fun n => UInt8.ofNat n.toNat := by simp [strOfNums]
theorem strOf_bytesOf (s : ByteArray) : strOfNums (bytesOf s) = s := by
  apply str_ext
  rw [strOf_data, bytesOf, List.map_map]
  conv => rhs; rw [← List.map_id s.data.toList]
  refine List.map_congr_left fun b _ => ?_
  simp
theorem bytesOf_bytes (s : ByteArray) : isBytes (bytesOf s) := by
  intro x hx
  obtain ⟨b, _, rfl⟩ := List.mem_map.1 hx
  have := b.toNat_lt
  omega
theorem bytesOf_strOf (xs : List Int) (h : isBytes xs) : bytesOf (strOfNums xs) = xs := by
  rw [bytesOf, strOf_data, List.map_map]
  conv => rhs; rw [← List.map_id xs]
  refine List.map_congr_left fun x hx => ?_
  have := h x hx
  simp only [Function.comp_apply, UInt8.toNat_ofNat', id_eq]
  omega
theorem bt_strOf (xs : List Int) (h : isBytes xs) (i : Int) : bt (strOfNums xs) i = rd xs i := by rw [← rd_bytesOf, bytesOf_strOf xs h]
theorem strOf_inj {a b : List Int} (ha : isBytes a) (hb : isBytes b) (h : strOfNums a = strOfNums b) : a = b := by rw [← bytesOf_strOf a ha, h, bytesOf_strOf b hb]
theorem strOf_cut (xs : List Int) (a b : Nat) : (strOfNums xs).extract a b = strOfNums ((xs.take b).drop a) := by
  apply str_ext
  rw [strOf_data, ByteArray.data_extract, Array.toList_extract, strOf_data, List.extract_eq_take_drop, List.map_drop, List.map_take, List.drop_take]
theorem toList_iff (a b : ByteArray) : a.toList = b.toList ↔ a = b := by
  rw [ByteArray.toList_eq, ByteArray.toList_eq]
  exact ⟨str_ext, fun h => by rw [h]⟩
theorem toList_beq (a b : ByteArray) : (a.toList == b.toList) = decide (a = b) := by
  rw [Bool.eq_iff_iff, beq_iff_eq, decide_eq_true_iff, toList_iff]
theorem isBytes_append {a b : List Int} (ha : isBytes a) (hb : isBytes b) : isBytes (a ++ b) := fun x hx => (List.mem_append.1 hx).elim (ha x) (hb x)
theorem isBytes_drop {a : List Int} (n : Nat) (ha : isBytes a) : isBytes (a.drop n) := fun x hx => ha x (List.mem_of_mem_drop hx)
theorem isBytes_left {a b : List Int} (h : isBytes (a ++ b)) : isBytes a := fun x hx => h x (List.mem_append_left _ hx)
theorem isBytes_right {a b : List Int} (h : isBytes (a ++ b)) : isBytes b := fun x hx => h x (List.mem_append_right _ hx)
theorem isBytes_nil : isBytes [] := fun x hx => by cases hx

/-! ### Suffixes -/
theorem hasEq (xs : List Int) (hx : isBytes xs) (hl : xs.length < 1000000000) : P.strings_HasSuffix.f (strOfNums xs) (⟨#[61]⟩ : ByteArray) = some (decide (xs.getLast? = some 61)) := by
  unfold P.strings_HasSuffix.f P.stringslite_HasSuffix.f
  rw [show (⟨#[61]⟩ : ByteArray) = strOfNums [61] from rfl, strOfNums_size, strOfNums_size]
  rcases List.eq_nil_or_concat xs with rfl | ⟨ys, y, rfl⟩
  · rw [if_neg (by decide)]; rfl
  · rw [List.concat_eq_append] at hx hl ⊢
    have hy := hx y (by simp)
    have hlen : (ys ++ [y]).length = ys.length + 1 := by simp
    rw [hlen, show (([61] : List Int).length : Nat) = 1 from rfl, if_pos (by omega), w64 (by omega) (by omega), if_pos (by omega), if_pos (by omega), strOf_cut, toList_beq]
    rw [show (((ys.length + 1 : Nat) : Int) - ((1 : Nat) : Int)).toNat = ys.length by omega, show ((ys ++ [y]).take (ys.length + 1)).drop ys.length = [y] by rw [List.take_of_length_le (by omega)]; simp]
    simp only [Option.bind_some, List.getLast?_append, List.getLast?_singleton, Option.some_or, Option.some.injEq]
    refine decide_eq_decide.2 ⟨fun e => ?_, fun e => by rw [e]⟩
    have := strOf_inj (fun x hx => by simp at hx; subst hx; exact hy) (fun x hx => by simp at hx; subst hx; decide) e
    simpa using this
def trim1 (xs : List Int) : List Int := if xs.getLast? = some 61 then xs.dropLast else xs
theorem trimEq (xs : List Int) (hx : isBytes xs) (hl : xs.length < 1000000000) : P.strings_TrimSuffix.f (strOfNums xs) (⟨#[61]⟩ : ByteArray) = some (strOfNums (trim1 xs)) := by
  have h := hasEq xs hx hl
  unfold P.strings_HasSuffix.f at h
  unfold P.strings_TrimSuffix.f P.stringslite_TrimSuffix.f trim1
  cases hh : P.stringslite_HasSuffix.f (strOfNums xs) (⟨#[61]⟩ : ByteArray) with
  | none => rw [hh] at h; cases h
  | some b =>
    rw [hh] at h
    simp only [Option.bind_some, Option.some.injEq] at h
    subst h
    simp only [Option.bind_some, decide_eq_true_eq]
    by_cases hg : xs.getLast? = some 61
    · rw [if_pos hg, if_pos hg, strOfNums_size, show ((⟨#[61]⟩ : ByteArray).size : Int) = 1 from rfl]
      have hpos : 0 < xs.length := by cases xs with | nil => cases hg | cons a l => simp
      rw [w64 (by omega) (by omega), if_pos (by omega), if_pos (by omega), strOf_cut, List.dropLast_eq_take, List.drop_zero, show ((xs.length : Int) - 1).toNat = xs.length - 1 by omega]
      rfl
    · rw [if_neg hg, if_neg hg]
      rfl
end Go.Proofs.YteajidciahoboaaDoor.H
-- P3
set_option linter.unusedVariables false
set_option linter.unusedSimpArgs false
namespace Go.Proofs.YteajidciahoboaaDoor.H
open Go.RowKit Go.Shelf Go.Proofs.YteajidciahoboaaDoorW.PrintWords Go.Proofs.YteajidciahoboaaDoorW.PrintLast Go.Proofs.YteajidciahoboaaDoorW.PrintMore Go.Proofs.YteajidciahoboaaDoor.M

def sixOf (c : Int) : Int := if 65 ≤ c ∧ c ≤ 90 then c - 65 else if 97 ≤ c ∧ c ≤ 122 then c - 97 + 26 else if 48 ≤ c ∧ c ≤ 57 then c - 48 + 52 else if c = 43 then 62 else if c = 47 then 63 else -1
theorem six_ev (c : Int) (h : 0 ≤ c ∧ c < 256) : Ev (fun k => P.basic_six.f k c) (sixOf c) := by
  have e3 : ∀ b, Ev (fun k => P.basic_six.j2 k c b) (if b = true then (c - 48) % 256 + 52 else if c = 43 then 62 else if c = 47 then 63 else -1) := fun b => Ev.now fun k => by rw [P.basic_six.j2]; split <;> (try split) <;> (try split) <;> rfl
  have e2 : ∀ b, Ev (fun k => P.basic_six.j1 k c b) (if b = true then (c - 97) % 256 + 26 else if 48 ≤ c ∧ c ≤ 57 then c - 48 + 52 else if c = 43 then 62 else if c = 47 then 63 else -1) := fun b => by
    by_cases hb : b = true
    · subst hb; exact Ev.now fun k => by rw [P.basic_six.j1, if_pos rfl, if_pos rfl]
    · rw [if_neg hb]
      refine Ev.step (g := fun k => P.basic_six.j2 k c (decide (48 ≤ c ∧ c ≤ 57))) (fun k => ?_) ?_
      · rw [P.basic_six.j1, if_neg hb]
        split
        · rename_i h1; congr 1; simp; omega
        · rename_i h1; congr 1; simp; omega
      · have := e3 (decide (48 ≤ c ∧ c ≤ 57))
        by_cases h1 : 48 ≤ c ∧ c ≤ 57
        · rw [if_pos h1]; rw [if_pos (by simpa using h1)] at this; rw [show c - 48 + 52 = (c - 48) % 256 + 52 by omega]; exact this
        · rw [if_neg h1]; rw [if_neg (by simpa using h1)] at this; exact this
  have e1 : ∀ b, Ev (fun k => P.basic_six.j0 k c b) (if b = true then (c - 65) % 256 else if 97 ≤ c ∧ c ≤ 122 then c - 97 + 26 else if 48 ≤ c ∧ c ≤ 57 then c - 48 + 52 else if c = 43 then 62 else if c = 47 then 63 else -1) := fun b => by
    by_cases hb : b = true
    · subst hb; exact Ev.now fun k => by rw [P.basic_six.j0, if_pos rfl, if_pos rfl]
    · rw [if_neg hb]
      refine Ev.step (g := fun k => P.basic_six.j1 k c (decide (97 ≤ c ∧ c ≤ 122))) (fun k => ?_) ?_
      · rw [P.basic_six.j0, if_neg hb]
        split
        · rename_i h1; congr 1; simp; omega
        · rename_i h1; congr 1; simp; omega
      · have := e2 (decide (97 ≤ c ∧ c ≤ 122))
        by_cases h1 : 97 ≤ c ∧ c ≤ 122
        · rw [if_pos h1]; rw [if_pos (by simpa using h1)] at this; rw [show c - 97 + 26 = (c - 97) % 256 + 26 by omega]; exact this
        · rw [if_neg h1]; rw [if_neg (by simpa using h1)] at this; exact this
  refine Ev.eq (g := fun k => P.basic_six.j0 k c (decide (65 ≤ c ∧ c ≤ 90))) ?_ (fun k => ?_)
  · have := e1 (decide (65 ≤ c ∧ c ≤ 90))
    unfold sixOf
    by_cases h1 : 65 ≤ c ∧ c ≤ 90
    · rw [if_pos h1]; rw [if_pos (by simpa using h1)] at this; rw [show c - 65 = (c - 65) % 256 by omega]; exact this
    · rw [if_neg h1]; rw [if_neg (by simpa using h1)] at this; exact this
  · unfold P.basic_six.f
    split
    · rename_i h1; congr 1; simp; omega
    · rename_i h1; congr 1; simp; omega

theorem sixOf_all : ∀ c : Fin 256, (sixOf (c.val : Int) < 0 ∨ (0 ≤ sixOf (c.val : Int) ∧ sixOf (c.val : Int) < 64 ∧ sgn (sixOf (c.val : Int)).toNat = (c.val : Int))) := by decide +kernel
theorem sixOf_sgn : ∀ z : Fin 64, sixOf (sgn z.val) = (z.val : Int) := by decide +kernel
theorem sixOf_back (c : Int) (h : 0 ≤ c ∧ c < 256) : sixOf c < 0 ∨ ∃ z : Nat, z < 64 ∧ sixOf c = (z : Int) ∧ sgn z = c := by
  have := sixOf_all ⟨c.toNat, by omega⟩
  simp only [show ((c.toNat : Nat) : Int) = c by omega] at this
  rcases this with h | ⟨h1, h2, h3⟩
  · exact .inl h
  · exact .inr ⟨(sixOf c).toNat, by omega, by omega, h3⟩
theorem sgn_not61 : ∀ z : Fin 64, sgn z.val ≠ 61 := by decide +kernel

/-! ### The loop -/
theorem wraps_i64 (n : Int) (h₀ : 0 ≤ n) (h₁ : n < 2 ^ 62) : IntKind.i64.wrap n = n := by rw [IntKind.wrap_i64]; omega
theorem n64_or (a b : Nat) (ha : a < 2 ^ 62) (hb : b < 2 ^ 62) : Go.bits .or .i64 a b = ((a ||| b : Nat) : Int) := (bits_nat .i64 62 (by decide) wraps_i64 a b ha hb).2
theorem n64_glue (a b k : Nat) (ha : a * 2 ^ k < 2 ^ 62) (hb : b < 2 ^ k) (hb' : b < 2 ^ 62) : Go.bits .or .i64 ((a * 2 ^ k : Nat) : Int) b = ((a * 2 ^ k + b : Nat) : Int) := by
  rw [n64_or _ _ ha hb', Nat.mul_comm, ← Nat.two_pow_add_eq_or_of_lt hb]
theorem n64_mask (a k : Nat) (ha : a < 2 ^ 62) (hk : k ≤ 62) : Go.bits .and .i64 a ((2 ^ k - 1 : Nat) : Int) = ((a % 2 ^ k : Nat) : Int) := by
  have h2 : 2 ^ k ≤ 2 ^ 62 := Nat.pow_le_pow_right (by decide) hk
  rw [(bits_nat .i64 62 (by decide) wraps_i64 a (2 ^ k - 1) ha (by have := Nat.two_pow_pos k; omega)).1, Nat.and_two_pow_sub_one_eq_mod]

theorem dec_bad (s : List Int) (hs : isBytes s) (hl : s.length < 1000000) (i : Nat) (hi : i < s.length) (x5 : List Int) (b n : Int) (h : sixOf (s.getD i 0) < 0) : Ev (fun k => P.basic_Decode.l0 k (strOfNums s) x5 b n s.length i) (([] : List Int), 5) := by
  have hc : 0 ≤ s.getD i 0 ∧ s.getD i 0 < 256 := hs _ (by simp [hi])
  refine Ev.stepB (g := ?_) (six_ev _ hc) (fun k => ?_) ?_
  rotate_left
  · rw [P.basic_Decode.l0, if_pos (by omega), if_pos (by omega), strOfNums_size, if_pos (by omega), bt_strOf s hs, show rd s (i : Int) = s.getD i 0 from rfl]
  · simp only [if_pos h]
    exact Ev.const _

theorem dec_first (s : List Int) (hs : isBytes s) (hl : s.length < 1000000) (i : Nat) (hi : i < s.length) (x5 : List Int) (z : Nat) (hz : z < 64) (h : sixOf (s.getD i 0) = z) (r : List Int × Int)
    (hr : Ev (fun k => P.basic_Decode.l0 k (strOfNums s) x5 z 6 s.length (i + 1 : Nat)) r) : Ev (fun k => P.basic_Decode.l0 k (strOfNums s) x5 0 0 s.length i) r := by
  have hc : 0 ≤ s.getD i 0 ∧ s.getD i 0 < 256 := hs _ (by simp [hi])
  refine Ev.stepB (g := ?_) (six_ev _ hc) (fun k => ?_) ?_
  rotate_left
  · rw [P.basic_Decode.l0, if_pos (by omega), if_pos (by omega), strOfNums_size, if_pos (by omega), bt_strOf s hs, show rd s (i : Int) = s.getD i 0 from rfl]
  · rw [h]
    simp only [if_neg (show ¬ ((z : Int) < 0) by omega)]
    rw [show wrap64 (0 + 6) = 6 from by decide +kernel]
    simp only [if_neg (show ¬ ((6 : Int) ≥ 8) by decide)]
    have g := n64_glue 0 z 6 (by decide) hz (by omega)
    rw [show wrap64 (0 * 64) = ((0 * 2 ^ 6 : Nat) : Int) from by decide +kernel, g, w64 (n := (i : Int) + 1) (by omega) (by omega)]
    refine hr.eq fun k => ?_
    simp

theorem dec_next (s : List Int) (hs : isBytes s) (hl : s.length < 1000000) (i : Nat) (hi : i < s.length) (x5 : List Int) (hx : x5.length ≤ s.length) (b m : Nat) (hm : m ≤ 4) (hb : b < 2 ^ (m + 2)) (z : Nat) (hz : z < 64) (h : sixOf (s.getD i 0) = z) (r : List Int × Int)
    (hr : Ev (fun k => P.basic_Decode.l0 k (strOfNums s) (x5 ++ [(((b * 64 + z) / 2 ^ m : Nat) : Int)]) (((b * 64 + z) % 2 ^ m : Nat) : Int) m s.length (i + 1 : Nat)) r) : Ev (fun k => P.basic_Decode.l0 k (strOfNums s) x5 b (m + 2 : Nat) s.length i) r := by
  have hc : 0 ≤ s.getD i 0 ∧ s.getD i 0 < 256 := hs _ (by simp [hi])
  refine Ev.stepB (g := ?_) (six_ev _ hc) (fun k => ?_) ?_
  rotate_left
  · rw [P.basic_Decode.l0, if_pos (by omega), if_pos (by omega), strOfNums_size, if_pos (by omega), bt_strOf s hs, show rd s (i : Int) = s.getD i 0 from rfl]
  · rw [h]
    simp only [if_neg (show ¬ ((z : Int) < 0) by omega)]
    have hm' : m = 0 ∨ m = 1 ∨ m = 2 ∨ m = 3 ∨ m = 4 := by omega
    have hb64 : b * 64 < 4096 := by rcases hm' with rfl | rfl | rfl | rfl | rfl <;> omega
    have g := n64_glue b z 6 (by omega) hz (by omega)
    rw [w64 (n := ((m + 2 : Nat) : Int) + 6) (by omega) (by omega), w64 (n := ((m + 2 : Nat) : Int) + 6 - 8) (by omega) (by omega), w64 (n := (b : Int) * 64) (by omega) (by omega)]
    simp only [if_pos (show ((m + 2 : Nat) : Int) + 6 ≥ 8 by omega), if_pos (show 0 ≤ ((m + 2 : Nat) : Int) + 6 - 8 by omega), if_pos (show x5.length < 140737488355328 by omega)]
    rw [show (b : Int) * 64 = ((b * 2 ^ 6 : Nat) : Int) by omega, g, w64 (n := (i : Int) + 1) (by omega) (by omega), show ((m + 2 : Nat) : Int) + 6 - 8 = (m : Int) by omega]
    have mk := n64_mask (b * 2 ^ 6 + z) m (by omega) (by omega)
    have hv : (b * 2 ^ 6 + z) / 2 ^ m < 256 := by rcases hm' with rfl | rfl | rfl | rfl | rfl <;> omega
    have e1 : shr .i64 ((b * 2 ^ 6 + z : Nat) : Int) m % 256 = (((b * 64 + z) / 2 ^ m : Nat) : Int) := by
      unfold shr
      rcases hm' with rfl | rfl | rfl | rfl | rfl <;> simp [IntKind.bits] <;> omega
    have e2 : wrap64 (shl .i64 1 m - 1) = ((2 ^ m - 1 : Nat) : Int) := by rcases hm' with rfl | rfl | rfl | rfl | rfl <;> decide +kernel
    rw [e1, e2, mk]
    refine hr.eq fun k => ?_
    simp

def unzs : List Nat → Option (List Int)
  | [] => some []
  | [_] => none
  | [x, y] => if y % 16 = 0 then some [((x * 4 + y / 16 : Nat) : Int)] else none
  | [x, y, z] => if z % 4 = 0 then some [((x * 4 + y / 16 : Nat) : Int), ((y % 16 * 16 + z / 4 : Nat) : Int)] else none
  | x :: y :: z :: u :: r => (unzs r).map ([((x * 4 + y / 16 : Nat) : Int), ((y % 16 * 16 + z / 4 : Nat) : Int), ((z % 4 * 64 + u : Nat) : Int)] ++ ·)
def Good (cs o : List Int) : Prop := ∃ zs, cs = zs.map sgn ∧ (∀ z ∈ zs, z < 64) ∧ unzs zs = some o
theorem good_signs {cs o : List Int} (h : Good cs o) : ∀ c ∈ cs, 0 ≤ sixOf c := by
  obtain ⟨zs, rfl, hz, _⟩ := h
  intro c hc
  obtain ⟨z, hzz, rfl⟩ := List.mem_map.1 hc
  have := sixOf_sgn ⟨z, hz z hzz⟩
  simp only at this
  omega
theorem good_tail {x y z u : Nat} {r o : List Int} (h : Good (sgn x :: sgn y :: sgn z :: sgn u :: r) o) : ∃ o', Good r o' := by
  obtain ⟨zs, he, hz, hu⟩ := h
  match zs, he with
  | [], he => cases he
  | [_], he => simp at he
  | [_, _], he => simp at he
  | [_, _, _], he => simp at he
  | a :: b :: c :: d :: zs, he =>
    simp only [List.map_cons, List.cons.injEq] at he
    rw [unzs.eq_def] at hu
    simp only [Option.map_eq_some_iff] at hu
    obtain ⟨o', ho', _⟩ := hu
    exact ⟨o', zs, he.2.2.2.2, fun q hq => hz q (by simp [hq]), ho'⟩
theorem sgn_inj {x y : Nat} (hx : x < 64) (hy : y < 64) (h : sgn x = sgn y) : x = y := by
  have h1 := sixOf_sgn ⟨x, hx⟩
  have h2 := sixOf_sgn ⟨y, hy⟩
  simp only at h1 h2
  rw [h, h2] at h1
  omega
theorem map_sgn_inj : ∀ {zs ys : List Nat}, (∀ z ∈ zs, z < 64) → (∀ z ∈ ys, z < 64) → zs.map sgn = ys.map sgn → zs = ys
  | [], [], _, _, _ => rfl
  | [], _ :: _, _, _, h => by cases h
  | _ :: _, [], _, _, h => by cases h
  | z :: zs, y :: ys, hz, hy, h => by
    simp only [List.map_cons, List.cons.injEq] at h
    rw [sgn_inj (hz z (by simp)) (hy y (by simp)) h.1, map_sgn_inj (fun q hq => hz q (by simp [hq])) (fun q hq => hy q (by simp [hq])) h.2]

theorem dec_end (s : List Int) (x5 : List Int) (b : Nat) (n : Int) : Ev (fun k => P.basic_Decode.l0 k (strOfNums s) x5 b n s.length s.length) (if b = 0 then (x5, 0) else (([] : List Int), 5)) := by
  refine Ev.now fun k => ?_
  rw [P.basic_Decode.l0, if_neg (by omega)]
  by_cases h : b = 0
  · rw [if_pos (by omega), if_pos h]
  · rw [if_neg (by omega), if_neg h]

/-- The loop over the signs, from a whole number of bytes on. -/
theorem dec_loop (s : List Int) (hs : isBytes s) (hl : s.length < 1000000) : ∀ (cs pre out : List Int), s = pre ++ cs → cs.length % 4 ≠ 1 → out.length ≤ pre.length →
    (∃ o, Good cs o ∧ Ev (fun k => P.basic_Decode.l0 k (strOfNums s) out 0 0 s.length pre.length) (out ++ o, 0)) ∨ ((∀ o, ¬ Good cs o) ∧ Ev (fun k => P.basic_Decode.l0 k (strOfNums s) out 0 0 s.length pre.length) (([] : List Int), 5)) := by
  intro cs pre out he hm ho
  have hlen : s.length = pre.length + cs.length := by rw [he]; simp
  have at' : ∀ i, s.getD (pre.length + i) 0 = cs.getD i 0 := fun i => by rw [he, List.getD_eq_getElem?_getD, List.getElem?_append_right (by omega), Nat.add_sub_cancel_left, List.getD_eq_getElem?_getD]
  have hcb : ∀ c ∈ cs, 0 ≤ c ∧ c < 256 := fun c hc => hs c (by rw [he]; simp [hc])
  match cs, he, hlen, at', hcb, hm with
  | [], he, hlen, _, _, _ =>
    refine .inl ⟨[], ⟨[], rfl, by simp, rfl⟩, ?_⟩
    have := dec_end s out 0 0
    rw [if_pos rfl, hlen] at this
    simp only [List.length_nil, Nat.add_zero] at this hlen
    rw [hlen, List.append_nil]
    exact this
  | [_], _, _, _, _, hm => exact absurd rfl hm
  | a :: b :: cs, he, hlen, at', hcb, hm =>
    simp only [List.length_cons] at hlen
    have a0 := at' 0
    have a1 := at' 1
    simp only [Nat.add_zero, List.getD_cons_zero, List.getD_cons_succ] at a0 a1
    rcases sixOf_back a (hcb a (by simp)) with hba | ⟨x, hx, hxa, rfl⟩
    · exact .inr ⟨fun o hg => by have := good_signs hg a (by simp); omega, dec_bad s hs hl pre.length (by omega) out 0 0 (by rw [a0]; exact hba)⟩
    have F := fun r => dec_first s hs hl pre.length (by omega) out x hx (by rw [a0]; exact hxa) r
    rcases sixOf_back b (hcb b (by simp)) with hbb | ⟨y, hy, hyb, rfl⟩
    · exact .inr ⟨fun o hg => by have := good_signs hg b (by simp); omega, F _ (dec_bad s hs hl (pre.length + 1) (by omega) out x 6 (by rw [a1]; exact hbb))⟩
    have G := fun r => dec_next s hs hl (pre.length + 1) (by omega) out (by omega) x 4 (by omega) (by omega) y hy (by rw [a1]; exact hyb) r
    have v1 : (x * 64 + y) / 2 ^ 4 = x * 4 + y / 16 := by omega
    have v2 : (x * 64 + y) % 2 ^ 4 = y % 16 := by omega
    rw [v1, v2] at G
    match cs, he, hlen, at', hcb, hm with
    | [], he, hlen, at', hcb, hm =>
      have E := dec_end s (out ++ [((x * 4 + y / 16 : Nat) : Int)]) (y % 16) 4
      simp only [List.length_nil] at hlen
      rw [show ((s.length : Nat) : Int) = ((pre.length + 1 + 1 : Nat) : Int) by omega] at E
      have E' : Ev (fun k => P.basic_Decode.l0 k (strOfNums s) (out ++ [((x * 4 + y / 16 : Nat) : Int)]) ((y % 16 : Nat) : Int) 4 s.length ((pre.length + 1 + 1 : Nat) : Int)) (if y % 16 = 0 then (out ++ [((x * 4 + y / 16 : Nat) : Int)], 0) else (([] : List Int), 5)) := by
        rw [show ((s.length : Nat) : Int) = ((pre.length + 1 + 1 : Nat) : Int) by omega]; exact E
      by_cases h0 : y % 16 = 0
      · rw [if_pos h0] at E'
        refine .inl ⟨[((x * 4 + y / 16 : Nat) : Int)], ⟨[x, y], rfl, by simp; omega, by rw [unzs.eq_def]; simp [h0]⟩, F _ (G _ E')⟩
      · rw [if_neg h0] at E'
        refine .inr ⟨?_, F _ (G _ E')⟩
        rintro o ⟨zs, hz1, hz2, hz3⟩
        have := map_sgn_inj (zs := [x, y]) (ys := zs) (by simp; omega) hz2 hz1
        subst this
        rw [unzs.eq_def] at hz3
        simp [h0] at hz3
    | c :: cs, he, hlen, at', hcb, hm =>
      simp only [List.length_cons] at hlen
      have a2 := at' 2
      simp only [List.getD_cons_zero, List.getD_cons_succ] at a2
      rcases sixOf_back c (hcb c (by simp)) with hbc | ⟨z, hz, hzc, rfl⟩
      · exact .inr ⟨fun o hg => by have := good_signs hg c (by simp); omega, F _ (G _ (dec_bad s hs hl (pre.length + 1 + 1) (by omega) _ _ _ (by rw [show pre.length + 1 + 1 = pre.length + 2 from rfl, a2]; exact hbc)))⟩
      have G2 := fun r => dec_next s hs hl (pre.length + 1 + 1) (by omega) (out ++ [((x * 4 + y / 16 : Nat) : Int)]) (by simp; omega) (y % 16) 2 (by omega) (by omega) z hz (by rw [show pre.length + 1 + 1 = pre.length + 2 from rfl, a2]; exact hzc) r
      have v3 : (y % 16 * 64 + z) / 2 ^ 2 = y % 16 * 16 + z / 4 := by omega
      have v4 : (y % 16 * 64 + z) % 2 ^ 2 = z % 4 := by omega
      rw [v3, v4] at G2
      match cs, he, hlen, at', hcb, hm with
      | [], he, hlen, at', hcb, hm =>
        simp only [List.length_nil] at hlen
        have E := dec_end s (out ++ [((x * 4 + y / 16 : Nat) : Int)] ++ [((y % 16 * 16 + z / 4 : Nat) : Int)]) (z % 4) 2
        have E' : Ev (fun k => P.basic_Decode.l0 k (strOfNums s) (out ++ [((x * 4 + y / 16 : Nat) : Int)] ++ [((y % 16 * 16 + z / 4 : Nat) : Int)]) ((z % 4 : Nat) : Int) 2 s.length ((pre.length + 1 + 1 + 1 : Nat) : Int)) (if z % 4 = 0 then (out ++ [((x * 4 + y / 16 : Nat) : Int)] ++ [((y % 16 * 16 + z / 4 : Nat) : Int)], 0) else (([] : List Int), 5)) := by
          rw [show ((pre.length + 1 + 1 + 1 : Nat) : Int) = ((s.length : Nat) : Int) by omega]; exact E
        by_cases h0 : z % 4 = 0
        · rw [if_pos h0] at E'
          refine .inl ⟨[((x * 4 + y / 16 : Nat) : Int), ((y % 16 * 16 + z / 4 : Nat) : Int)], ⟨[x, y, z], rfl, by simp; omega, by rw [unzs.eq_def]; simp [h0]⟩, F _ (G _ (G2 _ (by simpa using E')))⟩
        · rw [if_neg h0] at E'
          refine .inr ⟨?_, F _ (G _ (G2 _ E'))⟩
          rintro o ⟨zs, hz1, hz2, hz3⟩
          have := map_sgn_inj (zs := [x, y, z]) (ys := zs) (by simp; omega) hz2 hz1
          subst this
          rw [unzs.eq_def] at hz3
          simp [h0] at hz3
      | d :: cs, he, hlen, at', hcb, hm =>
        simp only [List.length_cons] at hlen
        have a3 := at' 3
        simp only [List.getD_cons_zero, List.getD_cons_succ] at a3
        rcases sixOf_back d (hcb d (by simp)) with hbd | ⟨u, hu, hud, rfl⟩
        · exact .inr ⟨fun o hg => by have := good_signs hg d (by simp); omega, F _ (G _ (G2 _ (dec_bad s hs hl (pre.length + 1 + 1 + 1) (by omega) _ _ _ (by rw [show pre.length + 1 + 1 + 1 = pre.length + 3 from rfl, a3]; exact hbd))))⟩
        have G3 := fun r => dec_next s hs hl (pre.length + 1 + 1 + 1) (by omega) (out ++ [((x * 4 + y / 16 : Nat) : Int)] ++ [((y % 16 * 16 + z / 4 : Nat) : Int)]) (by simp; omega) (z % 4) 0 (by omega) (by omega) u hu (by rw [show pre.length + 1 + 1 + 1 = pre.length + 3 from rfl, a3]; exact hud) r
        have v5 : (z % 4 * 64 + u) / 2 ^ 0 = z % 4 * 64 + u := by omega
        have v6 : (z % 4 * 64 + u) % 2 ^ 0 = 0 := by omega
        rw [v5, v6] at G3
        have hrec := dec_loop s hs hl cs (pre ++ [sgn x, sgn y, sgn z, sgn u]) (out ++ [((x * 4 + y / 16 : Nat) : Int)] ++ [((y % 16 * 16 + z / 4 : Nat) : Int)] ++ [((z % 4 * 64 + u : Nat) : Int)]) (by rw [he]; simp) (by simp only [List.length_cons] at hm; omega) (by simp; omega)
        have hpl : (pre ++ [sgn x, sgn y, sgn z, sgn u]).length = pre.length + 1 + 1 + 1 + 1 := by simp
        rw [hpl] at hrec
        rcases hrec with ⟨o, hg, hev⟩ | ⟨hng, hev⟩
        · refine .inl ⟨[((x * 4 + y / 16 : Nat) : Int), ((y % 16 * 16 + z / 4 : Nat) : Int), ((z % 4 * 64 + u : Nat) : Int)] ++ o, ?_, F _ (G _ (G2 _ (G3 _ (by simpa using hev))))⟩
          obtain ⟨zs, rfl, hz2, hz3⟩ := hg
          exact ⟨x :: y :: z :: u :: zs, rfl, by simp; exact ⟨hx, hy, hz, hu, hz2⟩, by rw [unzs.eq_def]; simp only [hz3, Option.map_some]⟩
        · refine .inr ⟨fun o hg => ?_, F _ (G _ (G2 _ (G3 _ hev)))⟩
          obtain ⟨o', ho'⟩ := good_tail hg
          exact hng o' ho'
  termination_by cs pre => s.length - pre.length
  decreasing_by simp; omega
end Go.Proofs.YteajidciahoboaaDoor.H
-- P4
set_option linter.unusedVariables false
set_option linter.unusedSimpArgs false
namespace Go.Proofs.YteajidciahoboaaDoor.H
open Go.RowKit Go.Shelf Go.Proofs.YteajidciahoboaaDoorW.PrintWords Go.Proofs.YteajidciahoboaaDoorW.PrintLast Go.Proofs.YteajidciahoboaaDoorW.PrintMore Go.Proofs.YteajidciahoboaaDoor.M

def zs3 : List Int → List Nat
  | [] => []
  | [a] => [a.toNat / 4, a.toNat % 4 * 16]
  | [a, b] => [a.toNat / 4, a.toNat % 4 * 16 + b.toNat / 16, b.toNat % 16 * 4]
  | a :: b :: c :: r => a.toNat / 4 :: (a.toNat % 4 * 16 + b.toNat / 16) :: (b.toNat % 16 * 4 + c.toNat / 64) :: c.toNat % 64 :: zs3 r
def eqs (n : Nat) : List Int := List.replicate ((4 - n % 4) % 4) 61
theorem encode_zs (f : List Int) : encode f = (zs3 f).map sgn ++ eqs (zs3 f).length := by
  match f with
  | [] => rfl
  | [a] => simp [encode, chunks3, enc3, encAt, four6, zs3, eqs, List.replicate]
  | [a, b] => simp [encode, chunks3, enc3, encAt, four6, zs3, eqs, List.replicate]
  | a :: b :: c :: r =>
    have ih := encode_zs r
    have h1 : encode (a :: b :: c :: r) = enc3 [a, b, c] ++ encode r := rfl
    have h2 : eqs (zs3 (a :: b :: c :: r)).length = eqs (zs3 r).length := by unfold eqs; simp only [zs3, List.length_cons]; congr 1; omega
    rw [h1, ih, h2]
    rfl
theorem zs3_lt (f : List Int) (hf : isBytes f) : ∀ z ∈ zs3 f, z < 64 := by
  match f with
  | [] => intro z hz; cases hz
  | [a] =>
    have := hf a (by simp)
    intro z hz
    simp only [zs3, List.mem_cons, List.not_mem_nil, or_false] at hz
    omega
  | [a, b] =>
    have := hf a (by simp)
    have := hf b (by simp)
    intro z hz
    simp only [zs3, List.mem_cons, List.not_mem_nil, or_false] at hz
    omega
  | a :: b :: c :: r =>
    have ih := zs3_lt r (fun x hx => hf x (by simp [hx]))
    have := hf a (by simp)
    have := hf b (by simp)
    have := hf c (by simp)
    intro z hz
    simp only [zs3, List.mem_cons] at hz
    rcases hz with h | h | h | h | h
    · omega
    · omega
    · omega
    · omega
    · exact ih z h
theorem zs3_mod (f : List Int) : (zs3 f).length % 4 ≠ 1 := by
  match f with
  | [] => decide
  | [a] => simp [zs3]
  | [a, b] => simp [zs3]
  | a :: b :: c :: r =>
    have ih := zs3_mod r
    simp only [zs3, List.length_cons]
    omega
theorem unzs_zs (f : List Int) (hf : isBytes f) : unzs (zs3 f) = some f := by
  match f with
  | [] => rfl
  | [a] =>
    have := hf a (by simp)
    rw [zs3, unzs, if_pos (by omega)]
    congr 2
    omega
  | [a, b] =>
    have := hf a (by simp)
    have := hf b (by simp)
    rw [zs3, unzs, if_pos (by omega)]
    congr 2
    · omega
    · congr 1; omega
  | a :: b :: c :: r =>
    have ih := unzs_zs r (fun x hx => hf x (by simp [hx]))
    have := hf a (by simp)
    have := hf b (by simp)
    have := hf c (by simp)
    rw [zs3, unzs.eq_def]
    simp only [ih, Option.map_some, List.cons_append, List.nil_append, Option.some.injEq, List.cons.injEq, and_true]
    refine ⟨?_, ?_, ?_⟩ <;> omega
theorem zs_unzs (zs : List Nat) (hz : ∀ z ∈ zs, z < 64) (o : List Int) (h : unzs zs = some o) : zs3 o = zs ∧ isBytes o := by
  match zs with
  | [] => rw [unzs] at h; cases h; exact ⟨rfl, isBytes_nil⟩
  | [_] => rw [unzs] at h; cases h
  | [x, y] =>
    have hx := hz x (by simp)
    have hy := hz y (by simp)
    rw [unzs] at h
    split at h
    · cases h
      refine ⟨?_, fun q hq => ?_⟩
      · simp only [zs3, Int.toNat_natCast]
        congr 1
        · omega
        · congr 1; omega
      · simp only [List.mem_cons, List.not_mem_nil, or_false] at hq
        omega
    · cases h
  | [x, y, z] =>
    have hx := hz x (by simp)
    have hy := hz y (by simp)
    have hz' := hz z (by simp)
    rw [unzs] at h
    split at h
    · cases h
      refine ⟨?_, fun q hq => ?_⟩
      · simp only [zs3, Int.toNat_natCast]
        congr 1
        · omega
        · congr 1
          · omega
          · congr 1; omega
      · simp only [List.mem_cons, List.not_mem_nil, or_false] at hq
        omega
    · cases h
  | x :: y :: z :: u :: r =>
    have hx := hz x (by simp)
    have hy := hz y (by simp)
    have hz' := hz z (by simp)
    have hu := hz u (by simp)
    rw [unzs.eq_def] at h
    simp only [Option.map_eq_some_iff] at h
    obtain ⟨o', ho', rfl⟩ := h
    have ih := zs_unzs r (fun q hq => hz q (by simp [hq])) o' ho'
    refine ⟨?_, fun q hq => ?_⟩
    · simp only [List.cons_append, List.nil_append, zs3, Int.toNat_natCast, ih.1, List.cons.injEq, and_true]
      refine ⟨?_, ?_, ?_, ?_⟩ <;> omega
    · simp only [List.cons_append, List.nil_append, List.mem_cons] at hq
      rcases hq with h | h | h | h
      · omega
      · omega
      · omega
      · exact ih.2 q h
theorem good_encode {body o : List Int} (h : Good body o) : encode o = body ++ eqs body.length ∧ isBytes o := by
  obtain ⟨zs, rfl, hz, hu⟩ := h
  obtain ⟨h1, h2⟩ := zs_unzs zs hz o hu
  rw [encode_zs, h1, List.length_map]
  exact ⟨rfl, h2⟩
theorem encode_good (f : List Int) (hf : isBytes f) : ∃ body, encode f = body ++ eqs body.length ∧ Good body f ∧ body.length % 4 ≠ 1 ∧ body.getLast? ≠ some 61 := by
  refine ⟨(zs3 f).map sgn, by rw [encode_zs, List.length_map], ⟨zs3 f, rfl, zs3_lt f hf, unzs_zs f hf⟩, by rw [List.length_map]; exact zs3_mod f, fun h => ?_⟩
  have := List.mem_of_getLast? h
  obtain ⟨z, hz, he⟩ := List.mem_map.1 this
  exact sgn_not61 ⟨z, zs3_lt f hf z hz⟩ he
theorem trim1_eq (l : List Int) : ∃ q : Nat, q ≤ 1 ∧ l = trim1 l ++ List.replicate q 61 ∧ (q = 0 → l.getLast? ≠ some 61) := by
  unfold trim1
  by_cases h : l.getLast? = some 61
  · refine ⟨1, by omega, ?_, by omega⟩
    rw [if_pos h]
    rcases List.eq_nil_or_concat l with rfl | ⟨ys, y, rfl⟩
    · cases h
    · rw [List.concat_eq_append] at h ⊢
      simp only [List.getLast?_append, List.getLast?_singleton, Option.some_or, Option.some.injEq] at h
      subst h
      simp
  · exact ⟨0, by omega, by rw [if_neg h]; simp, fun _ => h⟩
theorem trim1_snoc (l : List Int) : trim1 (l ++ [61]) = l := by
  unfold trim1
  rw [if_pos (by simp)]
  simp
theorem trim1_not (l : List Int) (h : l.getLast? ≠ some 61) : trim1 l = l := by
  unfold trim1
  rw [if_neg h]
theorem trim_body (body : List Int) (h : body.getLast? ≠ some 61) (hm : body.length % 4 ≠ 1) : trim1 (trim1 (body ++ eqs body.length)) = body := by
  unfold eqs
  obtain h0 | h0 | h0 : body.length % 4 = 0 ∨ body.length % 4 = 2 ∨ body.length % 4 = 3 := by omega
  · rw [h0, show (4 - 0) % 4 = 0 from rfl, List.replicate_zero, List.append_nil, trim1_not _ h, trim1_not _ h]
  · rw [h0, show List.replicate ((4 - 2) % 4) (61 : Int) = [61] ++ [61] from rfl, ← List.append_assoc, trim1_snoc, trim1_snoc]
  · rw [h0, show List.replicate ((4 - 3) % 4) (61 : Int) = [61] from rfl, trim1_snoc, trim1_not _ h]
theorem trim1_bytes {l : List Int} (h : isBytes l) : isBytes (trim1 l) := by
  unfold trim1
  split
  · exact fun x hx => h x (List.dropLast_subset _ hx)
  · exact h

theorem encode_inj {f g : List Int} (hf : isBytes f) (hg : isBytes g) (h : encode f = encode g) : f = g := by
  obtain ⟨a, h1, ⟨z1, ha1, ha2, ha3⟩, h3, h4⟩ := encode_good f hf
  obtain ⟨b, k1, ⟨z2, hb1, hb2, hb3⟩, k3, k4⟩ := encode_good g hg
  rw [h1, k1] at h
  have hab : a = b := by rw [← trim_body a h4 h3, h, trim_body b k4 k3]
  have : z1 = z2 := map_sgn_inj ha2 hb2 (by rw [← ha1, ← hb1, hab])
  subst this
  rw [ha3] at hb3
  exact Option.some.inj hb3
/-- What the program reads of a text. -/
theorem prog_dec (cs : List Int) (hb : isBytes cs) (hl : cs.length ≤ 131072) :
    (∃ f, isBytes f ∧ cs = encode f ∧ Ev (fun k => P.basic_Decode.f k (strOfNums cs)) (f, 0)) ∨ ((∀ f, isBytes f → cs ≠ encode f) ∧ Ev (fun k => P.basic_Decode.f k (strOfNums cs)) (([] : List Int), 5)) := by
  obtain ⟨q1, hq1, he1, _⟩ := trim1_eq cs
  obtain ⟨q2, hq2, he2, _⟩ := trim1_eq (trim1 cs)
  have hb1 := trim1_bytes hb
  have hb2 := trim1_bytes hb1
  have hl1 : (trim1 cs).length ≤ cs.length := by have := congrArg List.length he1; simp only [List.length_append, List.length_replicate] at this; omega
  have hl2 : (trim1 (trim1 cs)).length ≤ cs.length := by have := congrArg List.length he2; simp only [List.length_append, List.length_replicate] at this; omega
  obtain ⟨body, hbody⟩ : ∃ body, trim1 (trim1 cs) = body := ⟨_, rfl⟩
  have ht1 := trimEq cs hb (by omega)
  have ht2 := trimEq (trim1 cs) hb1 (by omega)
  rw [hbody] at ht2 hb2 hl2
  have hsuf := hasEq body hb2 (by omega)
  have hcs : cs = body ++ List.replicate (q2 + q1) 61 := by rw [← List.replicate_append_replicate, ← List.append_assoc, ← hbody, ← he2, ← he1]
  -- what an encoding would be
  have hno : (¬ (cs.length % 4 = 0 ∧ body.length % 4 ≠ 1 ∧ body.getLast? ≠ some 61 ∧ cs.length - body.length = (4 - body.length % 4) % 4 ∧ ∃ o, Good body o)) → ∀ f, isBytes f → cs ≠ encode f := by
    intro hn f hf he
    obtain ⟨b2, h1, h2, h3, h4⟩ := encode_good f hf
    rw [← he] at h1
    have : body = b2 := by rw [← hbody, h1, trim_body b2 h4 h3]
    subst this
    refine hn ⟨?_, h3, h4, ?_, f, h2⟩
    · rw [h1, List.length_append]; unfold eqs; rw [List.length_replicate]; omega
    · rw [h1, List.length_append]; unfold eqs; rw [List.length_replicate]; omega
  by_cases c1 : cs.length % 4 = 0
  case neg =>
    refine .inr ⟨hno (fun h => c1 h.1), (Ev.const _).eq fun k => ?_⟩
    unfold P.basic_Decode.f
    rw [strOfNums_size, if_neg (by omega), if_neg (by omega)]
  have start : ∀ r, (Ev (fun k => if ((body.length : Int) % 4) = 1 then P.basic_Decode.j0 k (strOfNums body) true else if decide (body.getLast? = some 61) = true then P.basic_Decode.j0 k (strOfNums body) true else P.basic_Decode.j0 k (strOfNums body) ((wrap64 ((cs.length : Int) - (body.length : Int))) != ((4 - ((body.length : Int) % 4)) % 4))) r) → Ev (fun k => P.basic_Decode.f k (strOfNums cs)) r := fun r h => h.eq fun k => by
    unfold P.basic_Decode.f
    rw [strOfNums_size, if_neg (by omega), if_pos (by omega), ht1]
    simp only [Option.bind_some]
    rw [ht2]
    simp only [Option.bind_some]
    rw [strOfNums_size, hsuf]
    simp only [Option.bind_some]
  have bad : Ev (fun k => P.basic_Decode.j0 k (strOfNums body) true) (([] : List Int), 5) := Ev.now fun k => by rw [P.basic_Decode.j0, if_pos rfl]
  by_cases c2 : body.length % 4 = 1
  · exact .inr ⟨hno (fun h => h.2.1 c2), start _ (bad.eq fun k => by rw [if_pos (by omega)])⟩
  by_cases c3 : body.getLast? = some 61
  · exact .inr ⟨hno (fun h => h.2.2.1 c3), start _ (bad.eq fun k => by rw [if_neg (by omega), if_pos (decide_eq_true c3)])⟩
  have hlen : cs.length = body.length + (q2 + q1) := by rw [hcs]; simp
  by_cases c4 : cs.length - body.length = (4 - body.length % 4) % 4
  case neg =>
    exact .inr ⟨hno (fun h => c4 h.2.2.2.1), start _ (bad.eq fun k => by
      rw [if_neg (by omega), if_neg (by simp [c3]), show ((wrap64 ((cs.length : Int) - (body.length : Int))) != ((4 - ((body.length : Int) % 4)) % 4)) = true from bne_iff_ne.2 (by rw [w64 (by omega) (by omega)]; omega)])⟩
  have go : ∀ r, Ev (fun k => P.basic_Decode.l0 k (strOfNums body) [] 0 0 body.length ([] : List Int).length) r → Ev (fun k => P.basic_Decode.f k (strOfNums cs)) r := fun r h => start _ (Ev.step (fun k => by
    rw [if_neg (by omega), if_neg (by simp [c3]), show ((wrap64 ((cs.length : Int) - (body.length : Int))) != ((4 - ((body.length : Int) % 4)) % 4)) = false from bne_eq_false_iff_eq.2 (by rw [w64 (by omega) (by omega)]; omega), P.basic_Decode.j0, if_neg (by decide), strOfNums_size]; rfl) h)
  rcases dec_loop body hb2 (by omega) body [] [] rfl c2 (Nat.le_refl _) with ⟨o, hg, hev⟩ | ⟨hng, hev⟩
  · obtain ⟨he, hbo⟩ := good_encode hg
    refine .inl ⟨o, hbo, ?_, go _ (by simpa using hev)⟩
    rw [he, hcs]
    unfold eqs
    congr 2
    omega
  · exact .inr ⟨hno (fun h => by obtain ⟨o, ho⟩ := h.2.2.2.2; exact hng o ho), go _ hev⟩
end Go.Proofs.YteajidciahoboaaDoor.H
-- PzoctetReadNum
-- PRINTED by print.py (a twelfth state) out of the translation. Not trusted: Lean checks it.
namespace Go.Proofs.YteajidciahoboaaDoor.P
open Go.RowKit Go.Proofs.YteajidciahoboaaDoorW.PrintWords Go.Proofs.YteajidciahoboaaDoorW.PrintLast Go.Proofs.YteajidciahoboaaDoorW.PrintMore
attribute [local go_sem] max2_int min2_int max_two min_two max_three min_three max_four min_four   -- for this text's walks alone
set_option linter.unusedVariables false
set_option linter.unusedSimpArgs false

/-! ### octet_ReadNum: function 30 -/
mutual
def octet_ReadNum.l0 : Nat → Int → List Int → Int → Int → Option (Int × Int × Int)
  | 0, _, _, _, _ => none
  | k + 1, x2, x7, x8, x9 => if x9 < x8 then (if 0 ≤ x9 then (if x9 < (x7.length : Int) then (if x9 = 9 then (octet_ReadNum.j1 k x2 x9 (rd x7 x9) x7 x8 x9 true) else (if (rd x7 x9) = 0 then (octet_ReadNum.j1 k x2 x9 (rd x7 x9) x7 x8 x9 (decide (x9 > 0))) else (octet_ReadNum.j1 k x2 x9 (rd x7 x9) x7 x8 x9 false))) else (none)) else (none)) else (some (0, 0, 4))
def octet_ReadNum.j1 : Nat → Int → Int → Int → List Int → Int → Int → Bool → Option (Int × Int × Int)
  | 0, _, _, _, _, _, _, _ => none
  | k + 1, x2, x5, x6, x7, x8, x9, x23 => if x23 = true then (some (0, 0, 5)) else (if 0 ≤ (wrap64 (7 * x5)) then (if (Go.bits .or .i64 x2 (shl .i64 (wrap64 (Go.bits .and .u8 x6 127)) (wrap64 (7 * x5)))) > 4611686018427387904 then (octet_ReadNum.j2 k (Go.bits .or .i64 x2 (shl .i64 (wrap64 (Go.bits .and .u8 x6 127)) (wrap64 (7 * x5)))) x5 x6 x7 x8 x9 true) else (octet_ReadNum.j2 k (Go.bits .or .i64 x2 (shl .i64 (wrap64 (Go.bits .and .u8 x6 127)) (wrap64 (7 * x5)))) x5 x6 x7 x8 x9 (decide ((Go.bits .or .i64 x2 (shl .i64 (wrap64 (Go.bits .and .u8 x6 127)) (wrap64 (7 * x5)))) < 0)))) else (none))
def octet_ReadNum.j2 : Nat → Int → Int → Int → List Int → Int → Int → Bool → Option (Int × Int × Int)
  | 0, _, _, _, _, _, _, _ => none
  | k + 1, x2, x5, x6, x7, x8, x9, x37 => if x37 = true then (some (0, 0, 5)) else (if x6 < 128 then (some (x2, wrap64 (x5 + 1), 0)) else (octet_ReadNum.l0 k x2 x7 x8 (wrap64 (x9 + 1))))
end
def octet_ReadNum.f (k : Nat) (l0 : List Int) : Option (Int × Int × Int) := octet_ReadNum.l0 k 0 l0 (l0.length : Int) 0
set_option maxHeartbeats 8000000 in
set_option maxRecDepth 100000 in
theorem octet_ReadNum.calls (k : Nat) (A0 : Option Addr) (c0 : Nat) (l0 : List Int) (r1 : Int) (r2 : Int) (r3 : Int) (w : World) (hr0 : Kd.C (Kd.int .u8) w A0 l0.length l0) (hc0 : l0.length ≤ c0) (h : octet_ReadNum.f k l0 = some (r1, r2, r3)) :
    Calls Tryd.prog 30 #[.slice A0 l0.length c0] w fun e w' => e = .returned (.tuple #[.int .i64 r1, .int .i64 r2, .int .i64 r3]) ∧ Drawn0 w w' := by
  have HR0 := Aside0.mk hr0
  have HC0 := Aside0.mk hc0
  clear hr0 hc0
  have H : (octet_ReadNum.l0 k 0 l0 (l0.length : Int) 0) = some (r1, r2, r3) := h
  clear h
  have H' := Aside0.mk H
  clear H
  go_enter Tryd.func30, Tryd.ntmps30
  go_wp2
  go_loopg [2, 9] k (fun kq v2 v9 w' => ∃ (x2_1 : Int) (x9_1 : Int), v2 = .int .i64 x2_1 ∧ v9 = .int .i64 x9_1 ∧ Aside0 (octet_ReadNum.l0 kq x2_1 l0 (l0.length : Int) x9_1 = some (r1, r2, r3)) ∧ Aside0 (kq ≤ k) ∧ Drawn0 w w')
  case atStart => exact ⟨(0), (0), (by first | rfl | (simp; done) | (simp [*]; done)), (by first | rfl | (simp; done) | (simp [*]; done)), H', ⟨Nat.le_refl _⟩, by repeat (first | exact Drawn0.refl _ | apply Drawn0.step)⟩
  case round =>
    clear H'
    obtain ⟨x2_1, x9_1, rfl, rfl, HA, HK1, ⟨m1, rfl⟩⟩ := hrel
    cases gk with
    | zero => exact absurd HA.out (by simp [octet_ReadNum.l0])
    | succ k1 =>
      have H := HA.out
      clear HA
      simp only [octet_ReadNum.l0] at H
      by_cases c2 : x9_1 < (l0.length : Int)
      · rw [if_pos c2] at H
        have c2b0 : decide (x9_1 < (l0.length : Int)) = true := decide_eq_true c2
        clear c2
        by_cases c3 : 0 ≤ x9_1
        · rw [if_pos c3] at H
          have c3b0 : decide (0 ≤ x9_1) = true := decide_eq_true c3
          clear c3
          by_cases c4 : x9_1 < (l0.length : Int)
          · rw [if_pos c4] at H
            have c4b0 : decide (x9_1 < (l0.length : Int)) = true := decide_eq_true c4
            clear c4
            have HC5 := Aside0.mk H
            clear H
            have p227 : 0 ≤ (x9_1 : Int) := of_decide_eq_true (by first | (with_reducible assumption) | assumption)
            have q227 : x9_1 < (l0.length : Int) := of_decide_eq_true (by first | (with_reducible assumption) | assumption)
            obtain ⟨ad227, e227, hx227_0⟩ := Kd.at_int HR0.out x9_1 p227 q227
            cases e227
            replace p227 := eq_true p227
            replace q227 := eq_true q227
            go_upto_region 4 with (fail)
            go_cut [23] (fun v23 wc => ∃ (kq : Nat) (x23_4 : Bool), v23 = .bool x23_4 ∧ Aside0 (octet_ReadNum.j1 kq x2_1 x9_1 (rd l0 x9_1) l0 (l0.length : Int) x9_1 x23_4 = some (r1, r2, r3)) ∧ Aside0 (kq ≤ k1) ∧ Drawn0 w wc)
            case first =>
              have H := HC5.out
              clear HC5
              by_cases c6 : x9_1 = 9
              · rw [if_pos c6] at H
                have c6b0 : (x9_1 == 9) = true := beq_iff_eq.mpr c6
                have c6b1 : (x9_1 != 9) = false := bne_eq_false_iff_eq.mpr c6
                clear c6
                (first | rw [c6b0] | (simp only [i64_w, i32_w]; rw [c6b0]) | skip)
                have H' := Aside0.mk H
                clear H
                go_wp2
                go_meet
                case rel => exact ⟨_, (true), (by first | rfl | (simp; done) | (simp [*]; done)), H', ⟨by have := HK1.out; first | omega | exact Nat.le_refl _⟩, by repeat (first | exact Drawn0.refl _ | apply Drawn0.step)⟩
              · rw [if_neg c6] at H
                have c6b0 : (x9_1 == 9) = false := beq_eq_false_iff_ne.mpr c6
                have c6b1 : (x9_1 != 9) = true := bne_iff_ne.mpr c6
                (first | rw [c6b0] | (simp only [i64_w, i32_w]; rw [c6b0]) | skip)
                by_cases c7 : (rd l0 x9_1) = 0
                · rw [if_pos c7] at H
                  have c7b0 : ((rd l0 x9_1) == 0) = true := beq_iff_eq.mpr c7
                  have c7b1 : ((rd l0 x9_1) != 0) = false := bne_eq_false_iff_eq.mpr c7
                  clear c7
                  have H' := Aside0.mk H
                  clear H
                  go_wp2
                  go_meet
                  case rel => exact ⟨_, (decide (x9_1 > 0)), (by first | rfl | (simp; done) | (simp [*]; done)), H', ⟨by have := HK1.out; first | omega | exact Nat.le_refl _⟩, by repeat (first | exact Drawn0.refl _ | apply Drawn0.step)⟩
                · rw [if_neg c7] at H
                  have c7b0 : ((rd l0 x9_1) == 0) = false := beq_eq_false_iff_ne.mpr c7
                  have c7b1 : ((rd l0 x9_1) != 0) = true := bne_iff_ne.mpr c7
                  have H' := Aside0.mk H
                  clear H
                  go_wp2
                  go_meet
                  case rel => exact ⟨_, (false), (by first | rfl | (simp; done) | (simp [*]; done)), H', ⟨by have := HK1.out; first | omega | exact Nat.le_refl _⟩, by repeat (first | exact Drawn0.refl _ | apply Drawn0.step)⟩
            case rest =>
              clear HC5
              try clear c2
              try clear c2b0
              try clear p2
              try clear q2
              try clear hx2
              try clear c3
              try clear c3b0
              try clear c4
              try clear c4b0
              try clear c6
              try clear c6b0
              try clear c6b1
              try clear c7
              try clear c7b0
              try clear c7b1
              try clear hx227_0
              try clear p227
              try clear q227
              obtain ⟨kq, x23_4, rfl, HA, HJ4, ⟨mc4, rfl⟩⟩ := hcut
              cases kq with
              | zero => exact absurd HA.out (by simp [octet_ReadNum.j1])
              | succ kj4 =>
                have H := HA.out
                clear HA
                simp only [octet_ReadNum.j1] at H
                by_cases c8 : x23_4 = true
                · subst c8
                  have H1 : (some (0, 0, 5)) = some (r1, r2, r3) := by rw [if_pos rfl] at H; exact H
                  clear H
                  have H := H1
                  clear H1
                  simp only [Option.some.injEq, Prod.mk.injEq] at H
                  obtain ⟨rfl, rfl, rfl⟩ := H
                  go_wp2
                  go_ret3
                  exact ⟨by first | rfl | (simp; done) | (simp [*]; done), by repeat (first | exact Drawn0.refl _ | apply Drawn0.step)⟩
                · replace c8 := Bool.eq_false_iff.mpr c8
                  subst c8
                  have H1 : (if 0 ≤ (wrap64 (7 * x9_1)) then (if (Go.bits .or .i64 x2_1 (shl .i64 (wrap64 (Go.bits .and .u8 (rd l0 x9_1) 127)) (wrap64 (7 * x9_1)))) > 4611686018427387904 then (octet_ReadNum.j2 kj4 (Go.bits .or .i64 x2_1 (shl .i64 (wrap64 (Go.bits .and .u8 (rd l0 x9_1) 127)) (wrap64 (7 * x9_1)))) x9_1 (rd l0 x9_1) l0 (l0.length : Int) x9_1 true) else (octet_ReadNum.j2 kj4 (Go.bits .or .i64 x2_1 (shl .i64 (wrap64 (Go.bits .and .u8 (rd l0 x9_1) 127)) (wrap64 (7 * x9_1)))) x9_1 (rd l0 x9_1) l0 (l0.length : Int) x9_1 (decide ((Go.bits .or .i64 x2_1 (shl .i64 (wrap64 (Go.bits .and .u8 (rd l0 x9_1) 127)) (wrap64 (7 * x9_1)))) < 0)))) else (none)) = some (r1, r2, r3) := by rw [if_neg (show ¬ (false = true) by decide)] at H; exact H
                  clear H
                  have H := H1
                  clear H1
                  obtain ⟨ji9, hji9⟩ : ∃ j_ : Int, (wrap64 (7 * x9_1)) = j_ := ⟨_, rfl⟩
                  replace H : (if 0 ≤ (ji9) then (if (Go.bits .or .i64 x2_1 (shl .i64 (wrap64 (Go.bits .and .u8 (rd l0 x9_1) 127)) (ji9))) > 4611686018427387904 then (octet_ReadNum.j2 kj4 (Go.bits .or .i64 x2_1 (shl .i64 (wrap64 (Go.bits .and .u8 (rd l0 x9_1) 127)) (ji9))) x9_1 (rd l0 x9_1) l0 (l0.length : Int) x9_1 true) else (octet_ReadNum.j2 kj4 (Go.bits .or .i64 x2_1 (shl .i64 (wrap64 (Go.bits .and .u8 (rd l0 x9_1) 127)) (ji9))) x9_1 (rd l0 x9_1) l0 (l0.length : Int) x9_1 (decide ((Go.bits .or .i64 x2_1 (shl .i64 (wrap64 (Go.bits .and .u8 (rd l0 x9_1) 127)) (ji9))) < 0)))) else (none)) = some (r1, r2, r3) := by first | (rw [hji9] at H; exact H) | (simp only [hji9] at H ⊢; exact H)
                  have hji9w : (IntKind.i64.wrap (7 * x9_1)) = ji9 := (i64_w _).trans hji9
                  by_cases c10 : 0 ≤ (ji9)
                  · rw [if_pos c10] at H
                    have c10b0 := eq_true c10
                    have c10b1 : decide (0 ≤ (ji9)) = true := decide_eq_true c10
                    clear c10
                    obtain ⟨ji11, hji11⟩ : ∃ j_ : Int, (shl .i64 (wrap64 (Go.bits .and .u8 (rd l0 x9_1) 127)) (ji9)) = j_ := ⟨_, rfl⟩
                    replace H : (if (Go.bits .or .i64 x2_1 (ji11)) > 4611686018427387904 then (octet_ReadNum.j2 kj4 (Go.bits .or .i64 x2_1 (ji11)) x9_1 (rd l0 x9_1) l0 (l0.length : Int) x9_1 true) else (octet_ReadNum.j2 kj4 (Go.bits .or .i64 x2_1 (ji11)) x9_1 (rd l0 x9_1) l0 (l0.length : Int) x9_1 (decide ((Go.bits .or .i64 x2_1 (ji11)) < 0)))) = some (r1, r2, r3) := by first | (rw [hji11] at H; exact H) | (simp only [hji11] at H ⊢; exact H)
                    have hji11_ : (IntKind.i64.wrap ((wrap64 (Go.bits .and .u8 (rd l0 x9_1) 127)) * 2 ^ min (ji9).toNat 64)) = ji11 := hji11
                    have hji11z : (ji9) ≤ 64 → (IntKind.i64.wrap ((wrap64 (Go.bits .and .u8 (rd l0 x9_1) 127)) * 2 ^ (ji9).toNat)) = ji11 := shl_small hji11
                    have hji11y : (wrap64 ((wrap64 (Go.bits .and .u8 (rd l0 x9_1) 127)) * 2 ^ min (ji9).toNat 64)) = ji11 := (i64_w _).symm.trans hji11_
                    have hji11x : (ji9) ≤ 64 → (wrap64 ((wrap64 (Go.bits .and .u8 (rd l0 x9_1) 127)) * 2 ^ (ji9).toNat)) = ji11 := fun h_ => (i64_w _).symm.trans (hji11z h_)
                    have HC12 := Aside0.mk H
                    clear H
                    go_upto_region 7 with (fail)
                    go_cut [37] (fun v37 wc => ∃ (kq : Nat) (x37_11 : Bool), v37 = .bool x37_11 ∧ Aside0 (octet_ReadNum.j2 kq (Go.bits .or .i64 x2_1 (ji11)) x9_1 (rd l0 x9_1) l0 (l0.length : Int) x9_1 x37_11 = some (r1, r2, r3)) ∧ Aside0 (kq ≤ kj4) ∧ Drawn0 w wc)
                    case first =>
                      have H := HC12.out
                      clear HC12
                      by_cases c13 : (Go.bits .or .i64 x2_1 (ji11)) > 4611686018427387904
                      · rw [if_pos c13] at H
                        have c13b0 : decide (4611686018427387904 < (Go.bits .or .i64 x2_1 (ji11))) = true := decide_eq_true c13
                        clear c13
                        (first | rw [c13b0] | (simp only [i64_w, i32_w]; rw [c13b0]) | skip)
                        have H' := Aside0.mk H
                        clear H
                        go_wp2
                        go_meet
                        case rel => exact ⟨_, (true), (by first | rfl | (simp; done) | (simp [*]; done)), H', ⟨by have := HK1.out; have := HJ4.out; first | omega | exact Nat.le_refl _⟩, by repeat (first | exact Drawn0.refl _ | apply Drawn0.step)⟩
                      · rw [if_neg c13] at H
                        have c13b0 : decide (4611686018427387904 < (Go.bits .or .i64 x2_1 (ji11))) = false := decide_eq_false c13
                        clear c13
                        (first | rw [c13b0] | (simp only [i64_w, i32_w]; rw [c13b0]) | skip)
                        have H' := Aside0.mk H
                        clear H
                        go_wp2
                        go_meet
                        case rel => exact ⟨_, (decide ((Go.bits .or .i64 x2_1 (ji11)) < 0)), (by first | rfl | (simp; done) | (simp only [← hji11] <;> (first | rfl | simp)) | (simp [*]; done)), H', ⟨by have := HK1.out; have := HJ4.out; first | omega | exact Nat.le_refl _⟩, by repeat (first | exact Drawn0.refl _ | apply Drawn0.step)⟩
                    case rest =>
                      clear HC12
                      try clear c1
                      try clear c2
                      try clear c2b0
                      try clear p2
                      try clear q2
                      try clear hx2
                      try clear c3
                      try clear c3b0
                      try clear c4
                      try clear c4b0
                      try clear c6
                      try clear c6b0
                      try clear c6b1
                      try clear p6
                      try clear c7
                      try clear c7b0
                      try clear c7b1
                      try clear c8
                      try clear c10
                      try clear c10b0
                      try clear c10b1
                      try clear c13
                      try clear c13b0
                      try clear hx227_0
                      try clear p2
                      try clear p227
                      try clear q2
                      try clear q227
                      obtain ⟨kq, x37_11, rfl, HA, HJ11, ⟨mc11, rfl⟩⟩ := hcut
                      cases kq with
                      | zero => exact absurd HA.out (by simp [octet_ReadNum.j2])
                      | succ kj11 =>
                        have H := HA.out
                        clear HA
                        simp only [octet_ReadNum.j2] at H
                        by_cases c14 : x37_11 = true
                        · subst c14
                          have H1 : (some (0, 0, 5)) = some (r1, r2, r3) := by rw [if_pos rfl] at H; exact H
                          clear H
                          have H := H1
                          clear H1
                          simp only [Option.some.injEq, Prod.mk.injEq] at H
                          obtain ⟨rfl, rfl, rfl⟩ := H
                          go_wp2
                          go_ret3
                          exact ⟨by first | rfl | (simp; done) | (simp only [← hji9, ← hji11] <;> (first | rfl | simp)) | (simp [*]; done), by repeat (first | exact Drawn0.refl _ | apply Drawn0.step)⟩
                        · replace c14 := Bool.eq_false_iff.mpr c14
                          subst c14
                          have H1 : (if (rd l0 x9_1) < 128 then (some ((Go.bits .or .i64 x2_1 (ji11)), wrap64 (x9_1 + 1), 0)) else (octet_ReadNum.l0 kj11 (Go.bits .or .i64 x2_1 (ji11)) l0 (l0.length : Int) (wrap64 (x9_1 + 1)))) = some (r1, r2, r3) := by rw [if_neg (show ¬ (false = true) by decide)] at H; exact H
                          clear H
                          have H := H1
                          clear H1
                          by_cases c15 : (rd l0 x9_1) < 128
                          · rw [if_pos c15] at H
                            have c15b0 : decide ((rd l0 x9_1) < 128) = true := decide_eq_true c15
                            clear c15
                            simp only [Option.some.injEq, Prod.mk.injEq] at H
                            obtain ⟨rfl, rfl, rfl⟩ := H
                            go_wp2
                            go_ret3
                            exact ⟨by first | rfl | (simp; done) | (simp only [← hji9, ← hji11] <;> (first | rfl | simp)) | (simp [*]; done), by repeat (first | exact Drawn0.refl _ | apply Drawn0.step)⟩
                          · rw [if_neg c15] at H
                            have c15b0 : decide ((rd l0 x9_1) < 128) = false := decide_eq_false c15
                            clear c15
                            have H' := Aside0.mk H
                            clear H
                            go_wp2
                            go_roundg kj11
                            case measure => have := HK1.out; have := HJ4.out; have := HJ11.out; omega
                            case rel => exact ⟨((Go.bits .or .i64 x2_1 (ji11))), (wrap64 (x9_1 + 1)), (by first | rfl | (simp; done) | (simp only [← hji11] <;> (first | rfl | simp)) | (simp [*]; done)), (by first | rfl | (simp; done) | (simp [*]; done)), H', ⟨by have := HK1.out; have := HJ4.out; have := HJ11.out; omega⟩, by repeat (first | exact Drawn0.refl _ | apply Drawn0.step)⟩
                  · rw [if_neg c10] at H
                    exact absurd H (by simp)
          · rw [if_neg c4] at H
            exact absurd H (by simp)
        · rw [if_neg c3] at H
          exact absurd H (by simp)
      · rw [if_neg c2] at H
        have c2b0 : decide (x9_1 < (l0.length : Int)) = false := decide_eq_false c2
        clear c2
        simp only [Option.some.injEq, Prod.mk.injEq] at H
        obtain ⟨rfl, rfl, rfl⟩ := H
        go_wp2
        go_ret3
        exact ⟨by first | rfl | (simp; done) | (simp [*]; done), by repeat (first | exact Drawn0.refl _ | apply Drawn0.step)⟩

end Go.Proofs.YteajidciahoboaaDoor.P
-- PzoctetReadText
-- PRINTED by print.py (a twelfth state) out of the translation. Not trusted: Lean checks it.
namespace Go.Proofs.YteajidciahoboaaDoor.P
open Go.RowKit Go.Proofs.YteajidciahoboaaDoorW.PrintWords Go.Proofs.YteajidciahoboaaDoorW.PrintLast Go.Proofs.YteajidciahoboaaDoorW.PrintMore
attribute [local go_sem] max2_int min2_int max_two min_two max_three min_three max_four min_four   -- for this text's walks alone
set_option linter.unusedVariables false
set_option linter.unusedSimpArgs false

/-! ### octet_ReadText: function 31 -/
def octet_ReadText.f (k : Nat) (l0 : List Int) : Option (ByteArray × Int × Int) := (octet_ReadNum.f k l0).bind fun bt228 => (if bt228.2.2 = 0 then (if bt228.1 > 4096 then (some ((⟨#[]⟩ : ByteArray), 0, 3)) else (if bt228.1 > (wrap64 ((l0.length : Int) - bt228.2.1)) then (some ((⟨#[]⟩ : ByteArray), 0, 4)) else (if 0 ≤ bt228.2.1 then (if bt228.2.1 ≤ (wrap64 (bt228.2.1 + bt228.1)) then (if (wrap64 (bt228.2.1 + bt228.1)) ≤ (l0.length : Int) then (some (strOfNums ((l0.take ((wrap64 (bt228.2.1 + bt228.1)) : Int).toNat).drop (bt228.2.1 : Int).toNat), wrap64 (bt228.2.1 + bt228.1), 0)) else (none)) else (none)) else (none)))) else (some ((⟨#[]⟩ : ByteArray), 0, bt228.2.2)))
set_option maxHeartbeats 8000000 in
set_option maxRecDepth 100000 in
theorem octet_ReadText.calls (k : Nat) (A0 : Option Addr) (c0 : Nat) (l0 : List Int) (r1 : ByteArray) (r2 : Int) (r3 : Int) (w : World) (hr0 : Kd.C (Kd.int .u8) w A0 l0.length l0) (hc0 : l0.length ≤ c0) (h : octet_ReadText.f k l0 = some (r1, r2, r3)) :
    Calls Tryd.prog 31 #[.slice A0 l0.length c0] w fun e w' => e = .returned (.tuple #[.string r1, .int .i64 r2, .int .i64 r3]) ∧ Drawn0 w w' := by
  have HR0 := Aside0.mk hr0
  have HC0 := Aside0.mk hc0
  clear hr0 hc0
  have H : ((octet_ReadNum.f k l0).bind fun bt228 => (if bt228.2.2 = 0 then (if bt228.1 > 4096 then (some ((⟨#[]⟩ : ByteArray), 0, 3)) else (if bt228.1 > (wrap64 ((l0.length : Int) - bt228.2.1)) then (some ((⟨#[]⟩ : ByteArray), 0, 4)) else (if 0 ≤ bt228.2.1 then (if bt228.2.1 ≤ (wrap64 (bt228.2.1 + bt228.1)) then (if (wrap64 (bt228.2.1 + bt228.1)) ≤ (l0.length : Int) then (some (strOfNums ((l0.take ((wrap64 (bt228.2.1 + bt228.1)) : Int).toNat).drop (bt228.2.1 : Int).toNat), wrap64 (bt228.2.1 + bt228.1), 0)) else (none)) else (none)) else (none)))) else (some ((⟨#[]⟩ : ByteArray), 0, bt228.2.2)))) = some (r1, r2, r3) := h
  clear h
  replace H := Option.bind_eq_some_iff.mp H
  obtain ⟨⟨t228, t229, t230⟩, A20, H⟩ := H
  replace H : (if t230 = 0 then (if t228 > 4096 then (some ((⟨#[]⟩ : ByteArray), 0, 3)) else (if t228 > (wrap64 ((l0.length : Int) - t229)) then (some ((⟨#[]⟩ : ByteArray), 0, 4)) else (if 0 ≤ t229 then (if t229 ≤ (wrap64 (t229 + t228)) then (if (wrap64 (t229 + t228)) ≤ (l0.length : Int) then (some (strOfNums ((l0.take ((wrap64 (t229 + t228)) : Int).toNat).drop (t229 : Int).toNat), wrap64 (t229 + t228), 0)) else (none)) else (none)) else (none)))) else (some ((⟨#[]⟩ : ByteArray), 0, t230))) = some (r1, r2, r3) := H
  have A2 := Aside0.mk A20
  clear A20
  by_cases c3 : t230 = 0
  · rw [if_pos c3] at H
    have c3b0 : (t230 == 0) = true := beq_iff_eq.mpr c3
    have c3b1 : (t230 != 0) = false := bne_eq_false_iff_eq.mpr c3
    clear c3
    by_cases c4 : t228 > 4096
    · rw [if_pos c4] at H
      have c4b0 : decide (4096 < t228) = true := decide_eq_true c4
      clear c4
      simp only [Option.some.injEq, Prod.mk.injEq] at H
      obtain ⟨rfl, rfl, rfl⟩ := H
      go_enter Tryd.func31, Tryd.ntmps31
      go_wp2_with (first | ((with_reducible refine gate_callee (f := 30) rfl ?_); refine goesL_ (some 9) rfl rfl Tryd.func30 (by kernel_rfl) rfl #[.slice A0 l0.length c0] rfl (by (try simp only [List.map_toArray, List.map_cons, List.map_nil]); first | done | rfl | (simp only [List.length_drop, List.length_take]; rfl)) ?_; (with_reducible refine (octet_ReadNum.calls k _ _ l0 t228 t229 t230 _ ?side1 ?side2 A2.out).mono ?_); (case side1 => repeat (first | exact HR0.out | (with_reducible refine Kd.C_alloc ?_ _) | (with_reducible refine Kd.C_drewN ?_ _) | (with_reducible refine Kd.C_drew ?_))); (case side2 => exact HC0.out); rintro e w' ⟨rfl, ⟨nd, rfl⟩⟩; refine ⟨_, rfl, ?_⟩))
      go_ret3
      exact ⟨by first | rfl | (simp; done) | (simp [*]; done), by repeat (first | exact Drawn0.refl _ | apply Drawn0.step)⟩
    · rw [if_neg c4] at H
      have c4b0 : decide (4096 < t228) = false := decide_eq_false c4
      clear c4
      by_cases c5 : t228 > (wrap64 ((l0.length : Int) - t229))
      · rw [if_pos c5] at H
        have c5b0 : decide ((wrap64 ((l0.length : Int) - t229)) < t228) = true := decide_eq_true c5
        clear c5
        simp only [Option.some.injEq, Prod.mk.injEq] at H
        obtain ⟨rfl, rfl, rfl⟩ := H
        go_enter Tryd.func31, Tryd.ntmps31
        go_wp2_with (first | ((with_reducible refine gate_callee (f := 30) rfl ?_); refine goesL_ (some 9) rfl rfl Tryd.func30 (by kernel_rfl) rfl #[.slice A0 l0.length c0] rfl (by (try simp only [List.map_toArray, List.map_cons, List.map_nil]); first | done | rfl | (simp only [List.length_drop, List.length_take]; rfl)) ?_; (with_reducible refine (octet_ReadNum.calls k _ _ l0 t228 t229 t230 _ ?side1 ?side2 A2.out).mono ?_); (case side1 => repeat (first | exact HR0.out | (with_reducible refine Kd.C_alloc ?_ _) | (with_reducible refine Kd.C_drewN ?_ _) | (with_reducible refine Kd.C_drew ?_))); (case side2 => exact HC0.out); rintro e w' ⟨rfl, ⟨nd, rfl⟩⟩; refine ⟨_, rfl, ?_⟩))
        go_ret3
        exact ⟨by first | rfl | (simp; done) | (simp [*]; done), by repeat (first | exact Drawn0.refl _ | apply Drawn0.step)⟩
      · rw [if_neg c5] at H
        have c5b0 : decide ((wrap64 ((l0.length : Int) - t229)) < t228) = false := decide_eq_false c5
        clear c5
        by_cases c6 : 0 ≤ t229
        · rw [if_pos c6] at H
          have c6b0 := eq_true c6
          have c6b1 : decide (0 ≤ t229) = true := decide_eq_true c6
          clear c6
          by_cases c7 : t229 ≤ (wrap64 (t229 + t228))
          · rw [if_pos c7] at H
            have c7b0 := eq_true c7
            have c7b1 : decide (t229 ≤ (wrap64 (t229 + t228))) = true := decide_eq_true c7
            by_cases c8 : (wrap64 (t229 + t228)) ≤ (l0.length : Int)
            · rw [if_pos c8] at H
              have c8b0 := eq_true c8
              have c8b1 : decide ((wrap64 (t229 + t228)) ≤ (l0.length : Int)) = true := decide_eq_true c8
              simp only [Option.some.injEq, Prod.mk.injEq] at H
              obtain ⟨rfl, rfl, rfl⟩ := H
              go_enter Tryd.func31, Tryd.ntmps31
              go_wp2_with (first | ((with_reducible refine gate_callee (f := 30) rfl ?_); refine goesL_ (some 9) rfl rfl Tryd.func30 (by kernel_rfl) rfl #[.slice A0 l0.length c0] rfl (by (try simp only [List.map_toArray, List.map_cons, List.map_nil]); first | done | rfl | (simp only [List.length_drop, List.length_take]; rfl)) ?_; (with_reducible refine (octet_ReadNum.calls k _ _ l0 t228 t229 t230 _ ?side1 ?side2 A2.out).mono ?_); (case side1 => repeat (first | exact HR0.out | (with_reducible refine Kd.C_alloc ?_ _) | (with_reducible refine Kd.C_drewN ?_ _) | (with_reducible refine Kd.C_drew ?_))); (case side2 => exact HC0.out); rintro e w' ⟨rfl, ⟨nd, rfl⟩⟩; refine ⟨_, rfl, ?_⟩; obtain ⟨i09, hi09, _, hsz9, _⟩ := info_parts info5; obtain ⟨A9, hcut9, hA9, hC9⟩ := print_mid_of (P := Tryd.prog) (Value.int .u8) 0 36 5 .i64 .i64 Tryd.underlying36 hi09 hsz9 A0 c0 l0 t229 (wrap64 (t229 + t228)) (of_decide_eq_true (by first | (with_reducible assumption) | assumption)) (by first | omega | exact of_decide_eq_true (by first | (with_reducible assumption) | assumption)) (of_decide_eq_true (by first | (with_reducible assumption) | assumption)) HC0.out; have HR231 := Aside0.mk (Kd.C_of_reads (h1 := fun _ => rfl) (hA9 _ (Kd.reads_of_C HR0.out))); have HC231 := Aside0.mk hC9; clear hA9 hC9 hi09 hsz9; have hcv10 := Kd.C_string (P := Tryd.prog) (A := A9) (c := (c0 - t229.toNat)) Tryd.underlying36 Tryd.underlying5 Tryd.underlying9 HR231.out; (try (have hcv10z := hcv10; rw [List.length_drop, List.length_take, Nat.min_eq_left (by omega)] at hcv10z)); (try (have hcv10y := Kd.C_string (P := Tryd.prog) (A := A9) (c := (c0 - t229.toNat)) Tryd.underlying36 Tryd.underlying5 Tryd.underlying9 (Kd.C_drewN HR231.out nd); rw [List.length_drop, List.length_take, Nat.min_eq_left (by omega)] at hcv10y))))
              go_ret3
              exact ⟨by first | rfl | (simp; done) | (simp [*]; done), by repeat (first | exact Drawn0.refl _ | apply Drawn0.step)⟩
            · rw [if_neg c8] at H
              exact absurd H (by simp)
          · rw [if_neg c7] at H
            exact absurd H (by simp)
        · rw [if_neg c6] at H
          exact absurd H (by simp)
  · rw [if_neg c3] at H
    have c3b0 : (t230 == 0) = false := beq_eq_false_iff_ne.mpr c3
    have c3b1 : (t230 != 0) = true := bne_iff_ne.mpr c3
    simp only [Option.some.injEq, Prod.mk.injEq] at H
    obtain ⟨rfl, rfl, rfl⟩ := H
    go_enter Tryd.func31, Tryd.ntmps31
    go_wp2_with (first | ((with_reducible refine gate_callee (f := 30) rfl ?_); refine goesL_ (some 9) rfl rfl Tryd.func30 (by kernel_rfl) rfl #[.slice A0 l0.length c0] rfl (by (try simp only [List.map_toArray, List.map_cons, List.map_nil]); first | done | rfl | (simp only [List.length_drop, List.length_take]; rfl)) ?_; (with_reducible refine (octet_ReadNum.calls k _ _ l0 t228 t229 t230 _ ?side1 ?side2 A2.out).mono ?_); (case side1 => repeat (first | exact HR0.out | (with_reducible refine Kd.C_alloc ?_ _) | (with_reducible refine Kd.C_drewN ?_ _) | (with_reducible refine Kd.C_drew ?_))); (case side2 => exact HC0.out); rintro e w' ⟨rfl, ⟨nd, rfl⟩⟩; refine ⟨_, rfl, ?_⟩))
    go_ret3
    exact ⟨by first | rfl | (simp; done) | (simp [*]; done), by repeat (first | exact Drawn0.refl _ | apply Drawn0.step)⟩

end Go.Proofs.YteajidciahoboaaDoor.P
-- P7
set_option linter.unusedVariables false
set_option linter.unusedSimpArgs false
namespace Go.Proofs.YteajidciahoboaaDoor.H
open Go.RowKit Go.Shelf Go.Proofs.YteajidciahoboaaDoorW.PrintWords Go.Proofs.YteajidciahoboaaDoorW.PrintLast Go.Proofs.YteajidciahoboaaDoorW.PrintMore Go.Proofs.YteajidciahoboaaDoor.M

/-- A number is read, from its i-th byte on. -/
def rn : Nat → Nat → List Int → Int × Int × Int
  | _, _, [] => (0, 0, 4)
  | i, acc, x :: r => if i = 9 ∨ (x = 0 ∧ 0 < i) then (0, 0, 5) else
    if acc + (x.toNat % 128) * 128 ^ i > 4611686018427387904 then (0, 0, 5) else
    if x < 128 then (((acc + (x.toNat % 128) * 128 ^ i : Nat) : Int), ((i + 1 : Nat) : Int), 0) else rn (i + 1) (acc + (x.toNat % 128) * 128 ^ i) r

theorem wraps63 (n : Int) (h₀ : 0 ≤ n) (h₁ : n < 2 ^ 63) : IntKind.i64.wrap n = n := by rw [IntKind.wrap_i64]; omega
theorem n63_glue (a b k : Nat) (ha : a * 2 ^ k < 2 ^ 63) (hb : b < 2 ^ k) (hb' : b < 2 ^ 63) : Go.bits .or .i64 b ((a * 2 ^ k : Nat) : Int) = ((b + a * 2 ^ k : Nat) : Int) := by
  rw [(bits_nat .i64 63 (by decide) wraps63 b (a * 2 ^ k) hb' ha).2, Nat.or_comm, Nat.mul_comm, ← Nat.two_pow_add_eq_or_of_lt hb, Nat.add_comm]
theorem pow7 (i : Nat) : 128 ^ i = 2 ^ (7 * i) := by rw [Nat.pow_mul]
theorem pow_i (i : Nat) (h : i ≤ 8) : 128 ^ i ≤ 72057594037927936 := by
  have := Nat.pow_le_pow_right (n := 128) (by decide) h
  exact this
theorem and127 (x : Nat) (h : x < 256) : Go.bits .and .u8 (x : Int) 127 = ((x % 128 : Nat) : Int) := by
  have := n8_mask x 7 h (by decide)
  exact this
theorem shl7 (d i : Nat) (hd : d < 128) (hi : i ≤ 8) : shl .i64 (d : Int) ((7 * i : Nat) : Int) = ((d * 128 ^ i : Nat) : Int) := by
  unfold shl
  rw [Int.toNat_natCast, Nat.min_eq_left (by show 7 * i ≤ 64; omega), pow7, IntKind.wrap_i64]
  have h1 := pow_i i hi
  rw [pow7] at h1
  have h2 : d * 2 ^ (7 * i) ≤ 127 * 72057594037927936 := Nat.mul_le_mul (by omega) h1
  have h3 : (d : Int) * 2 ^ (7 * i) = ((d * 2 ^ (7 * i) : Nat) : Int) := by push_cast; rfl
  rw [h3]
  omega

/-- One byte, in the program. -/
theorem rnum_step (b : List Int) (hb : isBytes b) (hl : b.length < 1000000000) (i acc : Nat) (hi : i < b.length) (hi9 : i ≤ 9) (hacc : acc < 128 ^ i) (x : Int) (hx : b.getD i 0 = x) (r : Int × Int × Int)
    (h : if i = 9 ∨ (x = 0 ∧ 0 < i) then r = (0, 0, 5) else if acc + (x.toNat % 128) * 128 ^ i > 4611686018427387904 then r = (0, 0, 5) else
      if x < 128 then r = (((acc + (x.toNat % 128) * 128 ^ i : Nat) : Int), ((i + 1 : Nat) : Int), 0) else Ev (fun k => P.octet_ReadNum.l0 k ((acc + (x.toNat % 128) * 128 ^ i : Nat) : Int) b b.length (i + 1 : Nat)) r) :
    Ev (fun k => P.octet_ReadNum.l0 k acc b b.length i) r := by
  have hxb : 0 ≤ x ∧ x < 256 := by rw [← hx]; exact hb _ (by simp [hi])
  have hrd : rd b (i : Int) = x := hx
  by_cases c1 : i = 9 ∨ (x = 0 ∧ 0 < i)
  · rw [if_pos c1] at h
    subst h
    refine Ev.step (g := fun k => P.octet_ReadNum.j1 k acc i x b b.length i true) (fun k => ?_) (Ev.now fun k => by rw [P.octet_ReadNum.j1, if_pos rfl])
    rw [P.octet_ReadNum.l0, if_pos (by omega), if_pos (by omega), if_pos (by omega), hrd]
    rcases c1 with c1 | ⟨c1, c2⟩
    · rw [if_pos (by omega)]
    · by_cases c3 : i = 9
      · rw [if_pos (by omega)]
      · rw [if_neg (by omega), if_pos c1, decide_eq_true (by omega : (i : Int) > 0)]
  · rw [if_neg c1] at h
    have hi8 : i ≤ 8 := by omega
    have hp := pow_i i hi8
    obtain ⟨d, hd⟩ : ∃ d, x.toNat % 128 = d := ⟨_, rfl⟩
    rw [hd] at h
    have hd128 : d < 128 := by omega
    have hdp : d * 128 ^ i ≤ 127 * 72057594037927936 := Nat.mul_le_mul (by omega) hp
    obtain ⟨v, hv⟩ : ∃ v, acc + d * 128 ^ i = v := ⟨_, rfl⟩
    rw [hv] at h
    have hv63 : v < 9223372036854775808 := by omega
    have hval : Go.bits .or .i64 (acc : Int) (shl .i64 (wrap64 (Go.bits .and .u8 x 127)) (wrap64 (7 * (i : Int)))) = (v : Int) := by
      rw [show x = ((x.toNat : Nat) : Int) by omega, and127 _ (by omega), hd, w64 (n := (d : Int)) (by omega) (by omega), w64 (n := 7 * (i : Int)) (by omega) (by omega), show 7 * (i : Int) = ((7 * i : Nat) : Int) by omega, shl7 d i hd128 hi8, pow7,
        n63_glue d acc (7 * i) (by rw [← pow7]; omega) (by rw [← pow7]; exact hacc) (by omega), ← pow7, hv]
    refine Ev.step (g := fun k => P.octet_ReadNum.j1 k acc i x b b.length i false) (fun k => ?_) ?_
    · rw [P.octet_ReadNum.l0, if_pos (by omega), if_pos (by omega), if_pos (by omega), hrd, if_neg (by omega)]
      by_cases c3 : x = 0
      · rw [if_pos c3, decide_eq_false (by omega : ¬ (i : Int) > 0)]
      · rw [if_neg c3]
    by_cases c2 : v > 4611686018427387904
    · rw [if_pos c2] at h
      subst h
      refine Ev.step (g := fun k => P.octet_ReadNum.j2 k v i x b b.length i true) (fun k => ?_) (Ev.now fun k => by rw [P.octet_ReadNum.j2, if_pos rfl])
      rw [P.octet_ReadNum.j1, if_neg (by decide), if_pos (by rw [w64 (by omega) (by omega)]; omega), hval, if_pos (by omega)]
    · rw [if_neg c2] at h
      refine Ev.step (g := fun k => P.octet_ReadNum.j2 k v i x b b.length i false) (fun k => ?_) ?_
      · rw [P.octet_ReadNum.j1, if_neg (by decide), if_pos (by rw [w64 (by omega) (by omega)]; omega), hval, if_neg (by omega), decide_eq_false (by omega)]
      by_cases c3 : x < 128
      · rw [if_pos c3] at h
        subst h
        exact Ev.now fun k => by rw [P.octet_ReadNum.j2, if_neg (by decide), if_pos c3, w64 (by omega) (by omega)]; rfl
      · rw [if_neg c3] at h
        exact Ev.step (fun k => by rw [P.octet_ReadNum.j2, if_neg (by decide), if_neg c3, w64 (by omega) (by omega)]; rfl) h

theorem rn_ev (b : List Int) (hb : isBytes b) (hl : b.length < 1000000000) : ∀ (d i acc : Nat), i + d = b.length → i ≤ 9 → acc < 128 ^ i → Ev (fun k => P.octet_ReadNum.l0 k acc b b.length i) (rn i acc (b.drop i)) := by
  intro d
  induction d with
  | zero =>
    intro i acc hi h9 ha
    rw [List.drop_eq_nil_of_le (by omega)]
    exact Ev.now fun k => by rw [P.octet_ReadNum.l0, if_neg (by omega)]; rfl
  | succ d ih =>
    intro i acc hi h9 ha
    have hlt : i < b.length := by omega
    have hx : b.getD i 0 = b[i] := by rw [List.getD_eq_getElem?_getD, List.getElem?_eq_getElem hlt]; rfl
    rw [List.drop_eq_getElem_cons hlt]
    refine rnum_step b hb hl i acc hlt h9 ha b[i] hx _ ?_
    rw [rn]
    by_cases c1 : i = 9 ∨ (b[i] = 0 ∧ 0 < i)
    · rw [if_pos c1, if_pos c1]
    · rw [if_neg c1, if_neg c1]
      by_cases c2 : acc + (b[i].toNat % 128) * 128 ^ i > 4611686018427387904
      · rw [if_pos c2, if_pos c2]
      · rw [if_neg c2, if_neg c2]
        by_cases c3 : b[i] < 128
        · rw [if_pos c3, if_pos c3]
        · rw [if_neg c3, if_neg c3]
          refine ih (i + 1) _ (by omega) (by omega) ?_
          rw [Nat.pow_succ]
          have : b[i].toNat % 128 ≤ 127 := by omega
          have := Nat.mul_le_mul_right (128 ^ i) this
          omega
theorem octet_rn (b : List Int) (hb : isBytes b) (hl : b.length < 1000000000) : Ev (fun k => P.octet_ReadNum.f k b) (rn 0 0 b) := by
  have := rn_ev b hb hl b.length 0 0 (by omega) (by omega) (by decide)
  rw [List.drop_zero] at this
  exact this

/-! ### What is read -/
theorem leb_small (m : Nat) (h : m < 128) : leb m = [(m : Int)] := by rw [leb, if_pos h]
theorem leb_big (m : Nat) (h : ¬ m < 128) : leb m = ((m % 128 + 128 : Nat) : Int) :: leb (m / 128) := by rw [leb, if_neg h]
theorem leb_ne (m : Nat) : leb m ≠ [] := by rw [leb]; split <;> simp
theorem leb_bytes (m : Nat) : isBytes (leb m) := by
  induction m using Nat.strongRecOn with
  | _ m ih =>
    by_cases h : m < 128
    · rw [leb_small m h]; intro x hx; simp only [List.mem_cons, List.not_mem_nil, or_false] at hx; omega
    · rw [leb_big m h]
      intro x hx
      rcases List.mem_cons.1 hx with h1 | h1
      · omega
      · exact ih (m / 128) (by omega) x h1
theorem mul_pow_le {a b : Nat} (i : Nat) (h : a ≤ b) : a * 128 ^ i ≤ b * 128 ^ i := Nat.mul_le_mul_right _ h
theorem pow_9 : (128 : Nat) ^ 9 = 9223372036854775808 := by decide +kernel
theorem rn_back : ∀ (cs : List Int) (i acc : Nat), isBytes cs → acc < 128 ^ i → i ≤ 9 →
    (∃ m rest, cs = leb m ++ rest ∧ (0 < i → 0 < m) ∧ acc + m * 128 ^ i ≤ 4611686018427387904 ∧ rn i acc cs = (((acc + m * 128 ^ i : Nat) : Int), ((i + (leb m).length : Nat) : Int), 0)) ∨
    ((∀ m rest, cs = leb m ++ rest → (0 < i → 0 < m) → ¬ acc + m * 128 ^ i ≤ 4611686018427387904) ∧ ∃ e, e ≠ 0 ∧ rn i acc cs = (0, 0, e)) := by
  intro cs
  induction cs with
  | nil =>
    intro i acc _ _ _
    refine .inr ⟨fun m rest h => ?_, 4, by decide, rfl⟩
    exact absurd (List.append_eq_nil_iff.1 h.symm).1 (leb_ne m)
  | cons x r ih =>
    intro i acc hb ha h9
    have hx := hb x (by simp)
    have first : ∀ m rest, x :: r = leb m ++ rest → (m < 128 ∧ x = (m : Int) ∧ r = rest) ∨ (¬ m < 128 ∧ x = ((m % 128 + 128 : Nat) : Int) ∧ r = leb (m / 128) ++ rest) := by
      intro m rest h
      by_cases hm : m < 128
      · rw [leb_small m hm] at h
        simp only [List.cons_append, List.nil_append, List.cons.injEq] at h
        exact .inl ⟨hm, h.1, h.2⟩
      · rw [leb_big m hm] at h
        simp only [List.cons_append, List.cons.injEq] at h
        exact .inr ⟨hm, h.1, h.2⟩
    rw [rn]
    by_cases c1 : i = 9 ∨ (x = 0 ∧ 0 < i)
    · rw [if_pos c1]
      refine .inr ⟨fun m rest h hm hle => ?_, 5, by decide, rfl⟩
      rcases c1 with c1 | ⟨c1, c2⟩
      · subst c1
        have := mul_pow_le 9 (hm (by decide))
        rw [pow_9] at hle this
        omega
      · have := hm c2
        rcases first m rest h with ⟨h1, h2, _⟩ | ⟨h1, h2, _⟩ <;> omega
    · rw [if_neg c1]
      by_cases c2 : acc + (x.toNat % 128) * 128 ^ i > 4611686018427387904
      · rw [if_pos c2]
        refine .inr ⟨fun m rest h hm hle => ?_, 5, by decide, rfl⟩
        have : x.toNat % 128 ≤ m := by rcases first m rest h with ⟨h1, h2, _⟩ | ⟨h1, h2, _⟩ <;> omega
        have := mul_pow_le i this
        omega
      · rw [if_neg c2]
        by_cases c3 : x < 128
        · rw [if_pos c3]
          have hm : x.toNat % 128 = x.toNat := by omega
          rw [hm] at c2 ⊢
          refine .inl ⟨x.toNat, r, ?_, fun h => by omega, by omega, ?_⟩
          · rw [leb_small _ (by omega), show ((x.toNat : Nat) : Int) = x by omega]; rfl
          · rw [leb_small _ (by omega)]; rfl
        · rw [if_neg c3]
          have hlt : acc + x.toNat % 128 * 128 ^ i < 128 ^ (i + 1) := by
            rw [Nat.pow_succ]
            have := mul_pow_le i (show x.toNat % 128 ≤ 127 by omega)
            omega
          have val : ∀ m' : Nat, acc + x.toNat % 128 * 128 ^ i + m' * 128 ^ (i + 1) = acc + (m' * 128 + x.toNat % 128) * 128 ^ i := fun m' => by
            rw [Nat.pow_succ, Nat.add_mul, Nat.mul_assoc m' 128, Nat.mul_comm 128 (128 ^ i)]
            omega
          rcases ih (i + 1) (acc + x.toNat % 128 * 128 ^ i) (fun y hy => hb y (by simp [hy])) hlt (by omega) with ⟨m', rest, h1, h2, h3, h4⟩ | ⟨h1, e, he, h2⟩
          · have hm' := h2 (by omega)
            rw [val m'] at h3 h4
            refine .inl ⟨m' * 128 + x.toNat % 128, rest, ?_, fun _ => by omega, h3, ?_⟩
            · rw [leb_big _ (by omega), h1, show ((m' * 128 + x.toNat % 128) / 128) = m' by omega, show (((m' * 128 + x.toNat % 128) % 128 + 128 : Nat) : Int) = x by omega]
              rfl
            · rw [h4, leb_big (m' * 128 + x.toNat % 128) (by omega), show ((m' * 128 + x.toNat % 128) / 128) = m' by omega, List.length_cons]
              congr 2
              omega
          · refine .inr ⟨fun m rest h hm hle => ?_, e, he, h2⟩
            rcases first m rest h with ⟨g1, g2, _⟩ | ⟨g1, g2, g3⟩
            · omega
            · refine h1 (m / 128) rest g3 (fun _ => by omega) ?_
              rw [val, show m / 128 * 128 + x.toNat % 128 = m by omega]
              exact hle
/-- A number read from a beginning. -/
theorem rn_cases (b : List Int) (hb : isBytes b) : (∃ m rest, b = leb m ++ rest ∧ m ≤ 4611686018427387904 ∧ rn 0 0 b = ((m : Int), ((leb m).length : Int), 0)) ∨
    ((∀ m rest, b = leb m ++ rest → ¬ m ≤ 4611686018427387904) ∧ ∃ e, e ≠ 0 ∧ rn 0 0 b = (0, 0, e)) := by
  rcases rn_back b 0 0 hb (by decide) (by decide) with ⟨m, rest, h1, _, h2, h3⟩ | ⟨h1, e, he, h2⟩
  · exact .inl ⟨m, rest, h1, by simpa using h2, by simpa using h3⟩
  · exact .inr ⟨fun m rest h => by simpa using h1 m rest h (fun h => absurd h (by decide)), e, he, h2⟩
end Go.Proofs.YteajidciahoboaaDoor.H
-- P8
set_option linter.unusedVariables false
set_option linter.unusedSimpArgs false
namespace Go.Proofs.YteajidciahoboaaDoor.H
open Go.RowKit Go.Shelf Go.Proofs.YteajidciahoboaaDoorW.PrintWords Go.Proofs.YteajidciahoboaaDoorW.PrintLast Go.Proofs.YteajidciahoboaaDoorW.PrintMore Go.Proofs.YteajidciahoboaaDoor.M

/-! ### The reference's number and text -/
theorem leb_len9 (n : Nat) (h : n ≤ 4611686018427387904) : (leb n).length ≤ 10 := leb_len 9 n (by omega)
/-! ### The reference's frame -/
end Go.Proofs.YteajidciahoboaaDoor.H
-- P9
set_option linter.unusedVariables false
set_option linter.unusedSimpArgs false
namespace Go.Proofs.YteajidciahoboaaDoor.H
open Go.RowKit Go.Shelf Go.Proofs.YteajidciahoboaaDoorW.PrintWords Go.Proofs.YteajidciahoboaaDoorW.PrintLast Go.Proofs.YteajidciahoboaaDoorW.PrintMore Go.Proofs.YteajidciahoboaaDoor.M

/-- A receipt. -/
structure Rc where
  q : Int
  g : ByteArray
  s : Int
  c : Int
def Rc.fine (r : Rc) : Prop := (0 ≤ r.q ∧ r.q ≤ 1099511627776) ∧ (0 ≤ r.s ∧ r.s ≤ 1099511627776) ∧ (0 ≤ r.c ∧ r.c ≤ 1099511627776) ∧ r.g.size ≤ 32
def Rc.body (r : Rc) : List Int := leb r.q.toNat ++ leb r.g.size ++ bytesOf r.g ++ leb r.s.toNat ++ leb r.c.toNat
/-- What stands for a receipt. -/
def handleOf (r : Rc) : ByteArray × Int :=
  if (0 ≤ r.q ∧ r.q ≤ 1099511627776) ∧ (0 ≤ r.s ∧ r.s ≤ 1099511627776) ∧ (0 ≤ r.c ∧ r.c ≤ 1099511627776) then
    if r.g.size ≤ 32 then (strOfNums (encode (frame r.body)), 0) else (⟨#[]⟩, 3)
  else (⟨#[]⟩, 2)
theorem body_bytes (r : Rc) : isBytes r.body := isBytes_append (isBytes_append (isBytes_append (isBytes_append (leb_bytes _) (leb_bytes _)) (bytesOf_bytes _)) (leb_bytes _)) (leb_bytes _)
theorem frame_bytes {xs : List Int} (h : isBytes xs) : isBytes (frame xs) := isBytes_append (four_bytes _) (isBytes_append (four_bytes _) (isBytes_append (four_bytes _) h))
theorem frame_len (xs : List Int) : (frame xs).length = xs.length + 12 := by unfold frame; simp only [List.length_append]; show 4 + (4 + (4 + xs.length)) = _; omega
theorem body_len (r : Rc) (h : r.fine) : r.body.length ≤ 72 := by
  obtain ⟨h1, h2, h3, h4⟩ := h
  have a := leb_len9 r.q.toNat (by omega)
  have b := leb_len9 r.g.size (by omega)
  have c := leb_len9 r.s.toNat (by omega)
  have d := leb_len9 r.c.toNat (by omega)
  unfold Rc.body
  simp only [List.length_append, bytesOf_length]
  omega
end Go.Proofs.YteajidciahoboaaDoor.H
-- H6
set_option linter.unusedVariables false
set_option linter.unusedSimpArgs false
namespace Go.Proofs.YteajidciahoboaaDoor.H
open Go.RowKit Go.Shelf Go.Proofs.YteajidciahoboaaDoorW.PrintWords Go.Proofs.YteajidciahoboaaDoorW.PrintLast Go.Proofs.YteajidciahoboaaDoorW.PrintMore Go.Proofs.YteajidciahoboaaDoor.M

theorem own_some {W : World} {B : Nat} {ok : Nat → Prop} {v : Value} {xs : List Int} (h : Kd.R (Kd.int .u8) 5 W B ok v xs) (hne : xs ≠ []) :
    ∃ a c, v = .slice (some a) xs.length c ∧ xs.length ≤ c ∧ Kd.C (Kd.int .u8) W (some a) xs.length xs := by
  obtain ⟨A, c, rfl, hl, hr⟩ := Kd.R_reads h
  obtain ⟨ad, hA, _⟩ := hr.2.2 (List.length_pos_iff.2 hne)
  subst hA
  exact ⟨ad, c, rfl, hl, hr⟩
/-- A receipt, as the program holds it. -/
def Rc.enc (r : Rc) : Value := .agg #[.int .i64 r.q, .string r.g, .int .i64 r.s, .int .i64 r.c]
def okNum (y : Int) : Prop := 0 ≤ y ∧ y ≤ 1099511627776

set_option maxHeartbeats 8000000 in
set_option maxRecDepth 100000 in
/-- ticket.Handle. -/
theorem handle_any (r : Rc) (w : World) (hT : HalfAt w) :
    Calls Tryd.prog 7 #[r.enc] w fun e w' => e = .returned (.tuple #[.string (handleOf r).1, .int .i64 (handleOf r).2]) ∧ Below w.heap.size w w' := by
  have HT := Aside0.mk hT
  clear hT
  obtain ⟨q, g, s, c⟩ := r
  unfold Rc.enc
  obtain ⟨res, hres⟩ : ∃ res, handleOf ⟨q, g, s, c⟩ = res := ⟨_, rfl⟩
  rw [hres]
  have HRES := Aside0.mk hres
  clear hres
  go_enter Tryd.func7, Tryd.ntmps7
  go_wp2
  go_loop [18] (fun i => ∃ k : Nat, k ≤ 3 ∧ i = .int .i64 k ∧ Aside0 ((1 ≤ k → okNum q) ∧ (2 ≤ k → okNum s) ∧ (3 ≤ k → okNum c))) (fun i => 3 - (intOf i).toNat)
  case atStart => exact ⟨0, by decide, rfl, ⟨fun h => by omega, fun h => by omega, fun h => by omega⟩⟩
  case round =>
    obtain ⟨k, hk, rfl, HK⟩ := hrel
    have hk' : k = 0 ∨ k = 1 ∨ k = 2 ∨ k = 3 := by omega
    rcases hk' with rfl | rfl | rfl | rfl
    · by_cases h0 : q < 0
      · go_wp2
        go_ret2
        exact ⟨by rw [← HRES.out]; unfold handleOf; rw [if_neg (by simp only; omega)]; rfl, below_alloc (below_alloc (Below.refl _ _) _) _⟩
      · by_cases h1 : 1099511627776 < q
        · go_wp2
          go_ret2
          exact ⟨by rw [← HRES.out]; unfold handleOf; rw [if_neg (by simp only; omega)]; rfl, below_alloc (below_alloc (Below.refl _ _) _) _⟩
        · go_wp2
          go_round
          case rel => exact ⟨1, by decide, rfl, ⟨fun _ => ⟨by omega, by omega⟩, fun h => by omega, fun h => by omega⟩⟩
          case measure => simp [intOf]
    · by_cases h0 : s < 0
      · go_wp2
        go_ret2
        exact ⟨by rw [← HRES.out]; unfold handleOf; rw [if_neg (by simp only; omega)]; rfl, below_alloc (below_alloc (Below.refl _ _) _) _⟩
      · by_cases h1 : 1099511627776 < s
        · go_wp2
          go_ret2
          exact ⟨by rw [← HRES.out]; unfold handleOf; rw [if_neg (by simp only; omega)]; rfl, below_alloc (below_alloc (Below.refl _ _) _) _⟩
        · go_wp2
          go_round
          case rel => exact ⟨2, by decide, rfl, ⟨fun _ => HK.out.1 (by decide), fun _ => ⟨by omega, by omega⟩, fun h => by omega⟩⟩
          case measure => simp [intOf]
    · by_cases h0 : c < 0
      · go_wp2
        go_ret2
        exact ⟨by rw [← HRES.out]; unfold handleOf; rw [if_neg (by simp only; omega)]; rfl, below_alloc (below_alloc (Below.refl _ _) _) _⟩
      · by_cases h1 : 1099511627776 < c
        · go_wp2
          go_ret2
          exact ⟨by rw [← HRES.out]; unfold handleOf; rw [if_neg (by simp only; omega)]; rfl, below_alloc (below_alloc (Below.refl _ _) _) _⟩
        · go_wp2
          go_round
          case rel => exact ⟨3, by decide, rfl, ⟨fun _ => HK.out.1 (by decide), fun _ => HK.out.2.1 (by decide), fun _ => ⟨by omega, by omega⟩⟩⟩
          case measure => simp [intOf]
    · have hq := HK.out.1 (by decide)
      have hs := HK.out.2.1 (by decide)
      have hc := HK.out.2.2 (by decide)
      unfold okNum at hq hs hc
      by_cases hg : 32 < g.size
      · have hg' : decide ((32 : Int) < (g.size : Int)) = true := decide_eq_true (by omega)
        go_wp2
        go_ret2
        exact ⟨by rw [← HRES.out]; unfold handleOf; rw [if_pos ⟨hq, hs, hc⟩, if_neg (by simp only; omega)]; rfl, below_alloc (below_alloc (Below.refl _ _) _) _⟩
      · have hg' : decide ((32 : Int) < (g.size : Int)) = false := decide_eq_false (by omega)
        obtain ⟨nq, rfl⟩ : ∃ n : Nat, q = (n : Int) := ⟨q.toNat, by omega⟩
        obtain ⟨ns, rfl⟩ : ∃ n : Nat, s = (n : Int) := ⟨s.toNat, by omega⟩
        obtain ⟨nc, rfl⟩ : ∃ n : Nat, c = (n : Int) := ⟨c.toNat, by omega⟩
        have HL1 := Aside0.mk (leb_len9 nq (by omega))
        have HL2 := Aside0.mk (leb_len9 g.size (by omega))
        have HL3 := Aside0.mk (leb_len9 ns (by omega))
        have HL4 := Aside0.mk (leb_len9 nc (by omega))
        have HQ := Aside0.mk hq
        have HS := Aside0.mk hs
        have HC := Aside0.mk hc
        have HG := Aside0.mk hg
        clear hq hs hc hg
        have hk0 : ((w.alloc (.cells #[.int .i64 nq, .string g, .int .i64 ns, .int .i64 nc] 23)).alloc (.cells #[.int .i64 nq, .int .i64 ns, .int .i64 nc] 3)).heap[w.heap.size]? = some (.cells #[.int .i64 nq, .string g, .int .i64 ns, .int .i64 nc] 23 (0, 0)) := (heap_old _ _ _ (by simp)).trans (heap_new _ _)
        go_wp2_with (
          go_at_call 18
          refine (num_nil nq _ (by have := HQ.out; omega)).mono ?_
          rintro e w1 ⟨v1, rfl, ho1, hb1⟩
          have hk1 : w1.heap[w.heap.size]? = some (.cells #[.int .i64 nq, .string g, .int .i64 ns, .int .i64 nc] 23 (0, 0)) := (hb1.block _ (by simp; omega)).trans hk0
          have d11 : w1.cell? ⟨w.heap.size, 1, none⟩ = some (.string g) := by rw [Lib.cell_of_heap hk1]; rfl
          have d12 : w1.cell? ⟨w.heap.size, 2, none⟩ = some (.int .i64 ns) := by rw [Lib.cell_of_heap hk1]; rfl
          have d13 : w1.cell? ⟨w.heap.size, 3, none⟩ = some (.int .i64 nc) := by rw [Lib.cell_of_heap hk1]; rfl
          obtain ⟨y1, hy1⟩ : ∃ y, leb nq = y := ⟨_, rfl⟩
          rw [hy1] at ho1
          obtain ⟨a1, c1, rfl, hc1, hr1⟩ := own_some ho1 (by rw [← hy1]; exact leb_ne nq)
          have HY1 := Aside0.mk hy1
          have HC1 := Aside0.mk hc1
          have HR1 := Aside0.mk hr1
          have HB1 := Aside0.mk (below_step (below_alloc (below_alloc (Below.refl _ _) _) _) hb1)
          have HLEN1 : Aside0 (y1.length ≤ 100 * 1) := ⟨by rw [← hy1]; (try simp only [List.length_append, bytesOf_length]); have := HL1.out; have := HL2.out; have := HL3.out; have := HL4.out; have := HG.out; omega⟩
          clear hy1 hc1 hr1 hb1 ho1)
        go_wp2_with (
          go_at_call 19
          refine (text_some a1 c1 y1 g w1 HR1.out HC1.out (by have := HLEN1.out; omega) (by have := HG.out; omega)).mono ?_
          rintro e w2 ⟨v2, rfl, ho2, hb2⟩
          have hk2 : w2.heap[w.heap.size]? = some (.cells #[.int .i64 nq, .string g, .int .i64 ns, .int .i64 nc] 23 (0, 0)) := (hb2.block _ (cells_lt hk1)).trans hk1
          have d21 : w2.cell? ⟨w.heap.size, 1, none⟩ = some (.string g) := by rw [Lib.cell_of_heap hk2]; rfl
          have d22 : w2.cell? ⟨w.heap.size, 2, none⟩ = some (.int .i64 ns) := by rw [Lib.cell_of_heap hk2]; rfl
          have d23 : w2.cell? ⟨w.heap.size, 3, none⟩ = some (.int .i64 nc) := by rw [Lib.cell_of_heap hk2]; rfl
          obtain ⟨y2, hy2⟩ : ∃ y, y1 ++ leb g.size ++ bytesOf g = y := ⟨_, rfl⟩
          rw [hy2] at ho2
          obtain ⟨a2, c2, rfl, hc2, hr2⟩ := own_some ho2 (by rw [← hy2]; simp [leb_ne])
          have HY2 := Aside0.mk hy2
          have HC2 := Aside0.mk hc2
          have HR2 := Aside0.mk hr2
          have HB2 := Aside0.mk (below_step HB1.out hb2)
          have HLEN2 : Aside0 (y2.length ≤ 100 * 2) := ⟨by rw [← hy2]; (try simp only [List.length_append, bytesOf_length]); have := HL1.out; have := HL2.out; have := HL3.out; have := HL4.out; have := HG.out; have := HLEN1.out; omega⟩
          clear hy2 hc2 hr2 hb2 ho2)
        go_wp2_with (first
          | (
              go_at_call 18
              refine (num_some a3 c3 y3 nc w3 HR3.out HC3.out (by have := HLEN3.out; omega) (by have := HC.out; omega)).mono ?_
              rintro e w4 ⟨v4, rfl, ho4, hb4⟩
              have hk4 : w4.heap[w.heap.size]? = some (.cells #[.int .i64 nq, .string g, .int .i64 ns, .int .i64 nc] 23 (0, 0)) := (hb4.block _ (cells_lt hk3)).trans hk3
              have d41 : w4.cell? ⟨w.heap.size, 1, none⟩ = some (.string g) := by rw [Lib.cell_of_heap hk4]; rfl
              have d42 : w4.cell? ⟨w.heap.size, 2, none⟩ = some (.int .i64 ns) := by rw [Lib.cell_of_heap hk4]; rfl
              have d43 : w4.cell? ⟨w.heap.size, 3, none⟩ = some (.int .i64 nc) := by rw [Lib.cell_of_heap hk4]; rfl
              obtain ⟨y4, hy4⟩ : ∃ y, y3 ++ leb nc = y := ⟨_, rfl⟩
              rw [hy4] at ho4
              obtain ⟨a4, c4, rfl, hc4, hr4⟩ := own_some ho4 (by rw [← hy4]; simp [leb_ne])
              have HY4 := Aside0.mk hy4
              have HC4 := Aside0.mk hc4
              have HR4 := Aside0.mk hr4
              have HB4 := Aside0.mk (below_step HB3.out hb4)
              have HLEN4 : Aside0 (y4.length ≤ 100 * 4) := ⟨by rw [← hy4]; (try simp only [List.length_append, bytesOf_length]); have := HL1.out; have := HL2.out; have := HL3.out; have := HL4.out; have := HG.out; have := HLEN3.out; omega⟩
              clear hy4 hc4 hr4 hb4 ho4)
          | (
              go_at_call 18
              refine (num_some a2 c2 y2 ns w2 HR2.out HC2.out (by have := HLEN2.out; omega) (by have := HS.out; omega)).mono ?_
              rintro e w3 ⟨v3, rfl, ho3, hb3⟩
              have hk3 : w3.heap[w.heap.size]? = some (.cells #[.int .i64 nq, .string g, .int .i64 ns, .int .i64 nc] 23 (0, 0)) := (hb3.block _ (cells_lt hk2)).trans hk2
              have d31 : w3.cell? ⟨w.heap.size, 1, none⟩ = some (.string g) := by rw [Lib.cell_of_heap hk3]; rfl
              have d32 : w3.cell? ⟨w.heap.size, 2, none⟩ = some (.int .i64 ns) := by rw [Lib.cell_of_heap hk3]; rfl
              have d33 : w3.cell? ⟨w.heap.size, 3, none⟩ = some (.int .i64 nc) := by rw [Lib.cell_of_heap hk3]; rfl
              obtain ⟨y3, hy3⟩ : ∃ y, y2 ++ leb ns = y := ⟨_, rfl⟩
              rw [hy3] at ho3
              obtain ⟨a3, c3, rfl, hc3, hr3⟩ := own_some ho3 (by rw [← hy3]; simp [leb_ne])
              have HY3 := Aside0.mk hy3
              have HC3 := Aside0.mk hc3
              have HR3 := Aside0.mk hr3
              have HB3 := Aside0.mk (below_step HB2.out hb3)
              have HLEN3 : Aside0 (y3.length ≤ 100 * 3) := ⟨by rw [← hy3]; (try simp only [List.length_append, bytesOf_length]); have := HL1.out; have := HL2.out; have := HL3.out; have := HL4.out; have := HG.out; have := HLEN2.out; omega⟩
              clear hy3 hc3 hr3 hb3 ho3))
        have hbody : y4 = Rc.body ⟨nq, g, ns, nc⟩ := by
          rw [← HY4.out, ← HY3.out, ← HY2.out, ← HY1.out]
          unfold Rc.body
          simp only [Int.toNat_natCast]
        have HBY := Aside0.mk (hbody ▸ body_bytes ⟨nq, g, ns, nc⟩ : isBytes y4)
        have HBO := Aside0.mk hbody
        clear hbody
        go_wp2_with (go_at_call 20; refine (frame_any (some a4) c4 y4 w4 (HT.out.below HB4.out) HR4.out HC4.out HBY.out (by have := HLEN4.out; omega)).mono ?_; rintro e w5 ⟨v5, rfl, ho5, hb5⟩)
        have hfl := frame_len y4
        obtain ⟨y5, hy5⟩ : ∃ y, frame y4 = y := ⟨_, rfl⟩
        rw [hy5] at ho5 hfl
        obtain ⟨a5, c5, rfl, hc5, hr5⟩ := own_some ho5 (by intro h; rw [h] at hfl; simp at hfl)
        have HY5 := Aside0.mk hy5
        have HC5 := Aside0.mk hc5
        have HR5 := Aside0.mk hr5
        have HF5 := Aside0.mk hfl
        have HB5 := Aside0.mk (below_step HB4.out hb5)
        have HBY5 := Aside0.mk (hy5 ▸ frame_bytes HBY.out : isBytes y5)
        clear hy5 hc5 hr5 hb5 ho5 hfl
        go_wp2_with (go_at_call 21; refine (Encode_any (some a5) c5 y5 w5 HR5.out HC5.out HBY5.out (by have := HLEN4.out; have := HF5.out; omega)).mono ?_; rintro e w6 ⟨rfl, hb6⟩)
        have HB6 := Aside0.mk (below_step HB5.out hb6)
        clear hb6
        go_wp2
        go_ret2
        refine ⟨?_, HB6.out⟩
        rw [← HRES.out]
        unfold handleOf
        rw [if_pos ⟨HQ.out, HS.out, HC.out⟩, if_pos (by have := HG.out; simp only; omega), ← HBO.out, HY5.out]
        rfl
end Go.Proofs.YteajidciahoboaaDoor.H
-- H7
set_option linter.unusedVariables false
set_option linter.unusedSimpArgs false
namespace Go.Proofs.YteajidciahoboaaDoor.H
open Go.RowKit Go.Shelf Go.Proofs.YteajidciahoboaaDoorW.PrintWords Go.Proofs.YteajidciahoboaaDoorW.PrintLast Go.Proofs.YteajidciahoboaaDoorW.PrintMore Go.Proofs.YteajidciahoboaaDoor.M
attribute [local go_sem] Oper.semAt_some

/-- b[lo:], of a slice that may be none. -/
theorem cut_any (A : Option Addr) (n c lo : Nat) (h1 : lo ≤ n) (hc : n ≤ c) : ∃ A', (∀ W, (Instr.slice 36 (.slice A n c) (some (.int .i64 lo)) none none).run Tryd.prog W = .ok (.slice A' (n - lo) (c - lo)) W) ∧
    ∀ w xs, Kd.C (Kd.int .u8) w A n xs → Kd.C (Kd.int .u8) w A' (n - lo) (xs.drop lo) := by
  obtain ⟨i, hi0, _, hsz, _⟩ := info_parts P.info5
  refine ⟨if c = lo then A else A.map (·.add (lo * 1)), ?_, ?_⟩
  · intro W
    have := cut_from (P := Tryd.prog) 36 5 .i64 Tryd.underlying36 hi0 1 hsz A n c lo (by omega) (by omega) W
    rw [Int.toNat_natCast] at this
    exact this
  · intro w xs h
    obtain rfl := C_len h
    have := Kd.C_drop (c := c) h h1 hc
    rw [List.length_drop] at this
    exact this

set_option maxHeartbeats 4000000 in
set_option maxRecDepth 100000 in
theorem num_open (w0 W : World) (hB : Below w0.heap.size w0 W) (B1 B2 : Nat) (hne : B1 ≠ B2) (A : Option Addr) (c : Nat) (bs : List Int) (good : Bool) (hp : W.heap[B1]? = some (.cells #[.slice A bs.length c] 36 (0, 0))) (hg : W.heap[B2]? = some (.cells #[.bool good] 4 (0, 0)))
    (hr : Kd.C (Kd.int .u8) w0 A bs.length bs) (hc : bs.length ≤ c) (hx : isBytes bs) (hl : bs.length < 1000000) (x : Int) (k : Nat) (e : Int) (hrn : rn 0 0 bs = (x, (k : Int), e)) (hk : k ≤ bs.length) :
    Calls Tryd.prog 29 #[.pointer (some ⟨B1, 0, none⟩), .pointer (some ⟨B2, 0, none⟩)] W fun en W' => en = .returned (.int .i64 x) ∧ ∃ A' nd, W' = ((W.drewN nd).setCell ⟨B2, 0, none⟩ (.bool (good && decide (e = 0) && decide (x ≤ 1099511627776)))).setCell ⟨B1, 0, none⟩ (.slice A' (bs.length - k) (c - k)) ∧ Kd.C (Kd.int .u8) w0 A' (bs.length - k) (bs.drop k) := by
  obtain ⟨K, hK⟩ := (octet_rn bs hx (by omega)).get
  rw [hrn] at hK
  have N1 := fun W' (h : Below w0.heap.size w0 W') => P.octet_ReadNum.calls K A c bs x k e W' (Kd.C_below hr h) hc hK
  obtain ⟨A', hcut, hrest⟩ := cut_any A bs.length c k hk hc
  have HR := Aside0.mk (hrest w0 bs hr)
  have HB := Aside0.mk hB
  have p0 : W.cell? ⟨B1, 0, none⟩ = some (.slice A bs.length c) := by rw [Lib.cell_of_heap hp]; rfl
  have g0 : W.cell? ⟨B2, 0, none⟩ = some (.bool good) := by rw [Lib.cell_of_heap hg]; rfl
  have fp : W.frozen? ⟨B1, 0, none⟩ = false := Lib.frozen_of_heap hp 0
  have fg : W.frozen? ⟨B2, 0, none⟩ = false := Lib.frozen_of_heap hg 0
  clear hr hrest hB hp hg hK hx hrn
  go_enter Tryd.func29, Tryd.ntmps29
  go_wp2_with (go_at_call 30; refine (N1 _ HB.out).mono ?_; rintro en w1 ⟨rfl, nd, rfl⟩)
  all_goals go_ret
  all_goals refine ⟨rfl, A', nd, ?_, HR.out⟩
  all_goals (congr 3; simp_all)
end Go.Proofs.YteajidciahoboaaDoor.H
