import Derived.Test.YteajidciahoboaaDoorCh1
import Derived.Test.YteajidciahoboaaDoorCh4
import Derived.Test.YteajidciahoboaaDoorCh2
-- Pzracewayref01Num
-- PRINTED by print.py (a twelfth state) out of the translation. Not trusted: Lean checks it.
namespace Go.Proofs.YteajidciahoboaaDoor.P
open Go.RowKit Go.Proofs.YteajidciahoboaaDoorW.PrintWords Go.Proofs.YteajidciahoboaaDoorW.PrintLast Go.Proofs.YteajidciahoboaaDoorW.PrintMore
attribute [local go_sem] max2_int min2_int max_two min_two max_three min_three max_four min_four   -- for this text's walks alone
set_option linter.unusedVariables false
set_option linter.unusedSimpArgs false

/-! ### racewayref01_Num: function 23 -/
mutual
def racewayref01_Num.j0 : Nat → List Int → Int → Bool → Option (List Int × Int)
  | 0, _, _, _ => none
  | k + 1, x0, x1, x12 => if x12 = true then (some (([] : List Int), 2)) else ((some (([] : List Int) : List Int)).bind fun y124 => (if y124.length + x0.length < 140737488355328 then (racewayref01_Num.l0 k x1 (y124 ++ x0)) else (none)))
def racewayref01_Num.l0 : Nat → Int → List Int → Option (List Int × Int)
  | 0, _, _ => none
  | k + 1, x1, x6 => if x1 ≥ 128 then (if x6.length < 140737488355328 then (racewayref01_Num.l0 k (wrap64 (Int.tdiv x1 128)) (x6 ++ [(wrap64 ((Int.tmod x1 128) + 128)) % 256])) else (none)) else (if x6.length < 140737488355328 then (some ((x6 ++ [(x1) % 256]), 0)) else (none))
end
def racewayref01_Num.f (k : Nat) (l0 : List Int) (a1 : Int) : Option (List Int × Int) := if a1 < 0 then (racewayref01_Num.j0 k l0 a1 true) else (racewayref01_Num.j0 k l0 a1 (decide (a1 > 4611686018427387904)))
theorem racewayref01_Num.mono_l : ∀ k, (∀ y0 y1 y2, LeO (racewayref01_Num.j0 k y0 y1 y2) (racewayref01_Num.j0 (k + 1) y0 y1 y2)) ∧ (∀ y0 y1, LeO (racewayref01_Num.l0 k y0 y1) (racewayref01_Num.l0 (k + 1) y0 y1))
  | 0 => ⟨fun _ _ _ r h => by simp [racewayref01_Num.j0] at h, fun _ _ r h => by simp [racewayref01_Num.l0] at h⟩
  | k + 1 => by
    obtain ⟨ih0, ih1⟩ := racewayref01_Num.mono_l k
    refine ⟨?_, ?_⟩
    · intro y0 y1 y2
      unfold racewayref01_Num.j0
      repeat' first
      | (with_reducible exact ih0 _ _ _)
      | (with_reducible exact ih1 _ _)
      | (with_reducible exact LeO.refl _)
      | (with_reducible exact LeO.none _)
      | (with_reducible refine LeO.ite ?_ ?_)
      | (with_reducible refine LeO.bind ?_ (fun _ => ?_))
      | exact ih0 _ _ _
      | exact ih1 _ _
      | exact LeO.none _
      | refine LeO.ite ?_ ?_
      | refine LeO.bind ?_ (fun _ => ?_)
    · intro y0 y1
      unfold racewayref01_Num.l0
      repeat' first
      | (with_reducible exact ih0 _ _ _)
      | (with_reducible exact ih1 _ _)
      | (with_reducible exact LeO.refl _)
      | (with_reducible exact LeO.none _)
      | (with_reducible refine LeO.ite ?_ ?_)
      | (with_reducible refine LeO.bind ?_ (fun _ => ?_))
      | exact ih0 _ _ _
      | exact ih1 _ _
      | exact LeO.none _
      | refine LeO.ite ?_ ?_
      | refine LeO.bind ?_ (fun _ => ?_)
theorem racewayref01_Num.mono : ∀ a0 a1 k, LeO (racewayref01_Num.f k a0 a1) (racewayref01_Num.f (k + 1) a0 a1) := by
  intro a0 a1 k
  obtain ⟨ih0, ih1⟩ := racewayref01_Num.mono_l k
  unfold racewayref01_Num.f
  repeat' first
      | (with_reducible exact ih0 _ _ _)
      | (with_reducible exact ih1 _ _)
      | (with_reducible exact LeO.refl _)
      | (with_reducible exact LeO.none _)
      | (with_reducible refine LeO.ite ?_ ?_)
      | (with_reducible refine LeO.bind ?_ (fun _ => ?_))
      | exact ih0 _ _ _
      | exact ih1 _ _
      | exact LeO.none _
      | refine LeO.ite ?_ ?_
      | refine LeO.bind ?_ (fun _ => ?_)
set_option maxHeartbeats 8000000 in
set_option maxRecDepth 100000 in
theorem racewayref01_Num.calls (k : Nat) (A0 : Option Addr) (c0 : Nat) (l0 : List Int) (a1 : Int) (r1 : List Int) (r2 : Int) (w : World) (hr0 : Kd.C (Kd.int .u8) w A0 l0.length l0) (hc0 : l0.length ≤ c0) (h : racewayref01_Num.f k l0 a1 = some (r1, r2)) :
    Calls Tryd.prog 23 #[.slice A0 l0.length c0, .int .i64 a1] w fun e w' => ∃ v0_ : Value, e = .returned (.tuple #[v0_, .int .i64 r2]) ∧ Kd.R (Kd.int .u8) 5 w' w.heap.size (fun _ => True) v0_ r1 ∧ Below w.heap.size w w' := by
  have HR0 := Aside0.mk hr0
  have HC0 := Aside0.mk hc0
  clear hr0 hc0
  have HB := Aside0.mk (Below.refl w.heap.size w)
  have H : (if a1 < 0 then (racewayref01_Num.j0 k l0 a1 true) else (racewayref01_Num.j0 k l0 a1 (decide (a1 > 4611686018427387904)))) = some (r1, r2) := h
  clear h
  have HC3 := Aside0.mk H
  clear H
  go_enter Tryd.func23, Tryd.ntmps23
  go_upto_region 1 with (fail)
  go_cut [12] (fun v12 wc => ∃ (kq : Nat) (x12_2 : Bool), v12 = .bool x12_2 ∧ Aside0 (racewayref01_Num.j0 kq l0 a1 x12_2 = some (r1, r2)) ∧ Aside0 (kq ≤ k) ∧ Aside0 (Below w.heap.size w wc))
  case first =>
    have H := HC3.out
    clear HC3
    by_cases c4 : a1 < 0
    · rw [if_pos c4] at H
      have c4b0 : decide (a1 < 0) = true := decide_eq_true c4
      clear c4
      (first | rw [c4b0] | (simp only [i64_w, i32_w]; rw [c4b0]) | skip)
      have H' := Aside0.mk H
      clear H
      go_wp2
      go_meet
      case rel => exact ⟨_, (true), (by first | rfl | (simp; done) | (simp [*]; done)), H', ⟨by first | omega | exact Nat.le_refl _⟩, ⟨by repeat (first | (with_reducible first | exact HB.out | apply below_alloc | apply pw_below_drewN | apply below_drew1) | exact HB.out)⟩⟩
    · rw [if_neg c4] at H
      have c4b0 : decide (a1 < 0) = false := decide_eq_false c4
      clear c4
      (first | rw [c4b0] | (simp only [i64_w, i32_w]; rw [c4b0]) | skip)
      have H' := Aside0.mk H
      clear H
      go_wp2
      go_meet
      case rel => exact ⟨_, (decide (a1 > 4611686018427387904)), (by first | rfl | (simp; done) | (simp [*]; done)), H', ⟨by first | omega | exact Nat.le_refl _⟩, ⟨by repeat (first | (with_reducible first | exact HB.out | apply below_alloc | apply pw_below_drewN | apply below_drew1) | exact HB.out)⟩⟩
  case rest =>
    clear HC3
    try clear c2
    try clear p2
    try clear c4
    try clear c4b0
    obtain ⟨kq, x12_2, rfl, HA, HJ2, HB⟩ := hcut
    cases kq with
    | zero => exact absurd HA.out (by simp [racewayref01_Num.j0])
    | succ kj2 =>
      have H := HA.out
      clear HA
      simp only [racewayref01_Num.j0] at H
      by_cases c5 : x12_2 = true
      · subst c5
        have H1 : (some (([] : List Int), 2)) = some (r1, r2) := by rw [if_pos rfl] at H; exact H
        clear H
        have H := H1
        clear H1
        simp only [Option.some.injEq, Prod.mk.injEq] at H
        obtain ⟨rfl, rfl⟩ := H
        go_wp2
        go_ret2
        exact ⟨_, by first | rfl | (simp [errW_none, errW_some] <;> rfl) | (simp [*, errW_none, errW_some] <;> rfl), by first | exact Kd.R_nil _ _ _ _ _ | exact Kd.N_nil _ _ _ _ _ | exact Kd.V_nil _ _ _ _ _ | exact Kd.Q_nil _ _ _ _ _ | exact Kd.S_nil _ _ _ _ _, by repeat (first | (with_reducible first | exact HB.out | apply below_alloc | apply pw_below_drewN | apply below_drew1) | exact HB.out)⟩
      · replace c5 := Bool.eq_false_iff.mpr c5
        subst c5
        have H1 : ((some (([] : List Int) : List Int)).bind fun y124 => (if y124.length + l0.length < 140737488355328 then (racewayref01_Num.l0 kj2 a1 (y124 ++ l0)) else (none))) = some (r1, r2) := by rw [if_neg (show ¬ (false = true) by decide)] at H; exact H
        clear H
        have H := H1
        clear H1
        obtain ⟨y124, hy124⟩ : ∃ y_ : List Int, y_ = (([] : List Int)) := ⟨_, rfl⟩
        replace H : (if y124.length + l0.length < 140737488355328 then (racewayref01_Num.l0 kj2 a1 (y124 ++ l0)) else (none)) = some (r1, r2) := by first | (rw [hy124]; with_reducible exact H) | (have H2_ := (Option.bind_some _ _).symm.trans H; rw [hy124]; with_reducible exact H2_) | (have H2_ := (Option.bind_some _ _).symm.trans H; with_reducible exact H2_) | with_reducible exact H | (rw [hy124]; exact H) | exact H
        have Ny124 := Aside0.mk hy124
        clear hy124
        by_cases c6 : y124.length + l0.length < 140737488355328
        · rw [if_pos c6] at H
          have LMc6 := Aside0.mk c6
          clear c6
          obtain ⟨y127, hy127⟩ : ∃ y_ : List Int, y_ = (y124 ++ l0) := ⟨_, rfl⟩
          replace H : (racewayref01_Num.l0 kj2 a1 y127) = some (r1, r2) := by first | (rw [hy127]; with_reducible exact H) | (have H2_ := (Option.bind_some _ _).symm.trans H; rw [hy127]; with_reducible exact H2_) | (have H2_ := (Option.bind_some _ _).symm.trans H; with_reducible exact H2_) | with_reducible exact H | (rw [hy127]; exact H) | exact H
          have Ny127 := Aside0.mk hy127
          clear hy127
          have H' := Aside0.mk H
          clear H
          go_wp2_with (first | ((with_reducible refine gate_dst (N := 13) rfl ?_); refine Kd.R_lit (Kd.int .u8) _ 5 ?hg (N := 13) ?hd (xs := ([] : List Int)) (inner := []) (ok := fun _ => True) (okp := fun _ => True) ?hr ?hp (fun _ hk => hk) trivial (Below.refl _ _) (Nat.le_refl _) (by simp) ?_; (case hd => rfl); (case hg => rfl); (case hr => first | (go_simp; done) | (go_simp; rfl)); (case hp => exact (Reps.none _ _)); intro v125 w7 ho8 hb hg_ hnew_; clear hg_ hnew_; (first | rw [← Ny124.out] at ho8 | (simp only [Int.reduceToNat] at ho8; rw [← Ny124.out] at ho8)); have n0_ := Aside0.mk (Kd.R_lower ho8 (below_size (by repeat (first | (with_reducible first | exact HB.out | apply below_alloc | apply pw_below_drewN | apply below_drew1) | exact HB.out)))); have n1_ := Aside0.mk (below_step (by repeat (first | (with_reducible first | exact HB.out | apply below_alloc | apply pw_below_drewN | apply below_drew1) | exact HB.out)) hb); clear HB; have HO126 := n0_; have HB := n1_; clear n0_ n1_; clear hb ho8) | ((with_reducible refine gate_builtin (b := .append) (xs := #[.tmp 13, .tmp 14]) rfl ?_); at_builtin; refine Kd.R_append_rows (Kd.int .u8) (w0 := w) w.heap.size rfl (.tmp 13) (.tmp 14) 36 5 (.int .u8 0) 1 rfl Tryd.underlying36 info5 rfl (by decide) (by omega) v125 y124 l0 _ _ _ (fun _ => True) (fun _ => False) rfl rfl ?aO ?aR (fun _ _ h => h) (fun _ h => h.elim) ?aF ?aB ?aS ?aL ?_; (case aR => repeat (first | exact (Kd.C_below HR0.out HB.out) | (with_reducible refine Kd.C_alloc ?_ _) | (with_reducible refine Kd.C_drewN ?_ _) | (with_reducible refine Kd.C_drew ?_))); (case aB => exact (by repeat (first | (with_reducible first | exact HB.out | apply below_alloc | apply pw_below_drewN | apply below_drew1) | exact HB.out))); (case aF => exact (fun _ _ => trivial)); (case aO => exact (by (with_reducible repeat (first | apply Kd.R_alloc | apply Kd.R_drewN | apply Kd.R_drew)); exact HO126.out)); (case aS => exact (below_size (by repeat (first | (with_reducible first | exact HB.out | apply below_alloc | apply pw_below_drewN | apply below_drew1) | exact HB.out)))); (case aL => have := LMc6.out; omega); intro v128 w9 ho hb hg hat; rw [← Ny127.out] at ho; have n0_ := Aside0.mk (hb); have n1_ := Aside0.mk (ho); clear HB; clear HO126; have HB := n0_; have HO129 := n1_; clear n0_ n1_; clear ho hb hg hat))
          go_loopg [1, 6] kj2 (fun kq v1 v6 w' => ∃ (x1_2 : Int) (x6_2 : List Int), v1 = .int .i64 x1_2 ∧ Aside0 (racewayref01_Num.l0 kq x1_2 x6_2 = some (r1, r2)) ∧ Aside0 (kq ≤ kj2) ∧ Aside0 (Kd.R (Kd.int .u8) 5 w' w.heap.size (fun _ => True) v6 x6_2) ∧ Aside0 (Below w.heap.size w w'))
          case atStart => exact ⟨(a1), (y127), (by first | rfl | (simp; done) | (simp [*]; done)), H', ⟨Nat.le_refl _⟩, ⟨by (with_reducible repeat (first | apply Kd.R_alloc | apply Kd.R_drewN | apply Kd.R_drew)); exact HO129.out⟩, ⟨by repeat (first | (with_reducible first | exact HB.out | apply below_alloc | apply pw_below_drewN | apply below_drew1) | exact HB.out)⟩⟩
          case round =>
            clear H'
            try clear c2
            try clear p2
            try clear c4
            try clear c4b0
            try clear c5
            try clear c6
            try clear p2
            obtain ⟨x1_2, x6_2, rfl, HA, HK2, HO_6, HB⟩ := hrel
            cases gk with
            | zero => exact absurd HA.out (by simp [racewayref01_Num.l0])
            | succ k2 =>
              have H := HA.out
              clear HA
              simp only [racewayref01_Num.l0] at H
              by_cases c10 : x1_2 ≥ 128
              · rw [if_pos c10] at H
                have c10b0 : decide (128 ≤ x1_2) = true := decide_eq_true c10
                clear c10
                by_cases c11 : x6_2.length < 140737488355328
                · rw [if_pos c11] at H
                  have LMc11 := Aside0.mk c11
                  clear c11
                  obtain ⟨y130, hy130⟩ : ∃ y_ : List Int, y_ = (x6_2 ++ [(wrap64 ((Int.tmod x1_2 128) + 128)) % 256]) := ⟨_, rfl⟩
                  replace H : (racewayref01_Num.l0 k2 (wrap64 (Int.tdiv x1_2 128)) y130) = some (r1, r2) := by first | (rw [hy130]; with_reducible exact H) | (have H2_ := (Option.bind_some _ _).symm.trans H; rw [hy130]; with_reducible exact H2_) | (have H2_ := (Option.bind_some _ _).symm.trans H; with_reducible exact H2_) | with_reducible exact H | (rw [hy130]; exact H) | exact H
                  have Ny130 := Aside0.mk hy130
                  clear hy130
                  have H' := Aside0.mk H
                  clear H
                  go_wp2_with (first | ((with_reducible refine gate_builtin (b := .append) (xs := #[.tmp 18, .tmp 23]) rfl ?_); at_builtin; refine Kd.R_append (Kd.int .u8) (w0 := w) w.heap.size rfl (.tmp 18) (.tmp 23) 36 5 (.int .u8 0) 1 rfl Tryd.underlying36 info5 rfl (by decide) (by omega) u6 x6_2 ((wrap64 ((Int.tmod x1_2 128) + 128)) % 256) [.int .u8 ((wrap64 ((Int.tmod x1_2 128) + 128)) % 256)] (fun _ => True) (fun _ => False) rfl rfl ?aP (fun _ hk => hk.elim) ?aF ?aO ?aB ?aS ?aL ?_; (case aP => exact rfl); (case aB => exact (by repeat (first | (with_reducible first | exact HB.out | apply below_alloc | apply pw_below_drewN | apply below_drew1) | exact HB.out))); (case aF => exact (fun _ _ => trivial)); (case aO => exact (by (with_reducible repeat (first | apply Kd.R_alloc | apply Kd.R_drewN | apply Kd.R_drew)); exact HO_6.out)); (case aS => exact (below_size (by repeat (first | (with_reducible first | exact HB.out | apply below_alloc | apply pw_below_drewN | apply below_drew1) | exact HB.out)))); (case aL => have := LMc11.out; omega); intro v131 w12 ho hb hg hat; rw [← Ny130.out] at ho; have n0_ := Aside0.mk (hb); have n1_ := Aside0.mk (ho); clear HB; clear HO_6; have HB := n0_; have HO132 := n1_; clear n0_ n1_; clear ho hb hg hat))
                  go_roundg k2
                  case measure => have := HJ2.out; have := HK2.out; omega
                  case rel => exact ⟨(wrap64 (Int.tdiv x1_2 128)), (y130), (by first | rfl | (simp; done) | (simp [*]; done)), H', ⟨by have := HJ2.out; have := HK2.out; omega⟩, ⟨by (with_reducible repeat (first | apply Kd.R_alloc | apply Kd.R_drewN | apply Kd.R_drew)); exact HO132.out⟩, ⟨by repeat (first | (with_reducible first | exact HB.out | apply below_alloc | apply pw_below_drewN | apply below_drew1) | exact HB.out)⟩⟩
                · rw [if_neg c11] at H
                  exact absurd H (by simp)
              · rw [if_neg c10] at H
                have c10b0 : decide (128 ≤ x1_2) = false := decide_eq_false c10
                clear c10
                by_cases c13 : x6_2.length < 140737488355328
                · rw [if_pos c13] at H
                  have LMc13 := Aside0.mk c13
                  clear c13
                  obtain ⟨y133, hy133⟩ : ∃ y_ : List Int, y_ = (x6_2 ++ [(x1_2) % 256]) := ⟨_, rfl⟩
                  replace H : (some (y133, 0)) = some (r1, r2) := by first | (rw [hy133]; with_reducible exact H) | (have H2_ := (Option.bind_some _ _).symm.trans H; rw [hy133]; with_reducible exact H2_) | (have H2_ := (Option.bind_some _ _).symm.trans H; with_reducible exact H2_) | with_reducible exact H | (rw [hy133]; exact H) | exact H
                  have Ny133 := Aside0.mk hy133
                  clear hy133
                  simp only [Option.some.injEq, Prod.mk.injEq] at H
                  obtain ⟨rfl, rfl⟩ := H
                  go_wp2_with (first | ((with_reducible refine gate_builtin (b := .append) (xs := #[.tmp 27, .tmp 30]) rfl ?_); at_builtin; refine Kd.R_append (Kd.int .u8) (w0 := w) w.heap.size rfl (.tmp 27) (.tmp 30) 36 5 (.int .u8 0) 1 rfl Tryd.underlying36 info5 rfl (by decide) (by omega) u6 x6_2 ((x1_2) % 256) [.int .u8 ((x1_2) % 256)] (fun _ => True) (fun _ => False) rfl rfl ?aP (fun _ hk => hk.elim) ?aF ?aO ?aB ?aS ?aL ?_; (case aP => exact rfl); (case aB => exact (by repeat (first | (with_reducible first | exact HB.out | apply below_alloc | apply pw_below_drewN | apply below_drew1) | exact HB.out))); (case aF => exact (fun _ _ => trivial)); (case aO => exact (by (with_reducible repeat (first | apply Kd.R_alloc | apply Kd.R_drewN | apply Kd.R_drew)); exact HO_6.out)); (case aS => exact (below_size (by repeat (first | (with_reducible first | exact HB.out | apply below_alloc | apply pw_below_drewN | apply below_drew1) | exact HB.out)))); (case aL => have := LMc13.out; omega); intro v134 w14 ho hb hg hat; rw [← Ny133.out] at ho; have n0_ := Aside0.mk (hb); have n1_ := Aside0.mk (ho); clear HB; clear HO_6; have HB := n0_; have HO135 := n1_; clear n0_ n1_; clear ho hb hg hat))
                  go_ret2
                  exact ⟨_, by first | rfl | (simp [errW_none, errW_some] <;> rfl) | (simp [*, errW_none, errW_some] <;> rfl), by (with_reducible repeat (first | apply Kd.R_alloc | apply Kd.R_drewN | apply Kd.R_drew)); exact HO135.out, by repeat (first | (with_reducible first | exact HB.out | apply below_alloc | apply pw_below_drewN | apply below_drew1) | exact HB.out)⟩
                · rw [if_neg c13] at H
                  exact absurd H (by simp)
        · rw [if_neg c6] at H
          exact absurd H (by simp)

end Go.Proofs.YteajidciahoboaaDoor.P
-- Pzracewayref01Text
-- PRINTED by print.py (a twelfth state) out of the translation. Not trusted: Lean checks it.
namespace Go.Proofs.YteajidciahoboaaDoor.P
open Go.RowKit Go.Proofs.YteajidciahoboaaDoorW.PrintWords Go.Proofs.YteajidciahoboaaDoorW.PrintLast Go.Proofs.YteajidciahoboaaDoorW.PrintMore
attribute [local go_sem] max2_int min2_int max_two min_two max_three min_three max_four min_four   -- for this text's walks alone
set_option linter.unusedVariables false
set_option linter.unusedSimpArgs false

/-! ### racewayref01_Text: function 24 -/
def racewayref01_Text.f (k : Nat) (l0 : List Int) (a1 : ByteArray) : Option (List Int × Int) := if (a1.size : Int) > 4096 then (some (([] : List Int), 3)) else ((racewayref01_Num.f k l0 (a1.size : Int)).bind fun bt136 => (if bt136.1.length + a1.size < 140737488355328 then (some ((bt136.1 ++ bytesOf a1), 0)) else (none)))
theorem racewayref01_Text.mono : ∀ a0 a1 k, LeO (racewayref01_Text.f k a0 a1) (racewayref01_Text.f (k + 1) a0 a1) := by
  intro a0 a1 k
  unfold racewayref01_Text.f
  repeat' first
      | (with_reducible exact racewayref01_Num.mono _ _ _)
      | (with_reducible exact LeO.refl _)
      | (with_reducible exact LeO.none _)
      | (with_reducible refine LeO.ite ?_ ?_)
      | (with_reducible refine LeO.bind ?_ (fun _ => ?_))
      | exact racewayref01_Num.mono _ _ _
      | exact LeO.none _
      | refine LeO.ite ?_ ?_
      | refine LeO.bind ?_ (fun _ => ?_)
set_option maxHeartbeats 8000000 in
set_option maxRecDepth 100000 in
theorem racewayref01_Text.calls (k : Nat) (A0 : Option Addr) (c0 : Nat) (l0 : List Int) (a1 : ByteArray) (r1 : List Int) (r2 : Int) (w : World) (hr0 : Kd.C (Kd.int .u8) w A0 l0.length l0) (hc0 : l0.length ≤ c0) (h : racewayref01_Text.f k l0 a1 = some (r1, r2)) :
    Calls Tryd.prog 24 #[.slice A0 l0.length c0, .string a1] w fun e w' => ∃ v0_ : Value, e = .returned (.tuple #[v0_, .int .i64 r2]) ∧ Kd.R (Kd.int .u8) 5 w' w.heap.size (fun _ => True) v0_ r1 ∧ Below w.heap.size w w' := by
  have HR0 := Aside0.mk hr0
  have HC0 := Aside0.mk hc0
  clear hr0 hc0
  have HB := Aside0.mk (Below.refl w.heap.size w)
  have H : (if (a1.size : Int) > 4096 then (some (([] : List Int), 3)) else ((racewayref01_Num.f k l0 (a1.size : Int)).bind fun bt136 => (if bt136.1.length + a1.size < 140737488355328 then (some ((bt136.1 ++ bytesOf a1), 0)) else (none)))) = some (r1, r2) := h
  clear h
  by_cases c3 : (a1.size : Int) > 4096
  · rw [if_pos c3] at H
    have c3b0 : decide (4096 < (a1.size : Int)) = true := decide_eq_true c3
    have c3b1 : decide (4096 < a1.size) = true := decide_eq_true (by omega)
    clear c3
    simp only [Option.some.injEq, Prod.mk.injEq] at H
    obtain ⟨rfl, rfl⟩ := H
    go_enter Tryd.func24, Tryd.ntmps24
    go_wp2
    go_ret2
    exact ⟨_, by first | rfl | (simp [errW_none, errW_some] <;> rfl) | (simp [*, errW_none, errW_some] <;> rfl), by first | exact Kd.R_nil _ _ _ _ _ | exact Kd.N_nil _ _ _ _ _ | exact Kd.V_nil _ _ _ _ _ | exact Kd.Q_nil _ _ _ _ _ | exact Kd.S_nil _ _ _ _ _, by repeat (first | (with_reducible first | exact HB.out | apply below_alloc | apply pw_below_drewN | apply below_drew1) | exact HB.out)⟩
  · rw [if_neg c3] at H
    have c3b0 : decide (4096 < (a1.size : Int)) = false := decide_eq_false c3
    have c3b1 : decide (4096 < a1.size) = false := decide_eq_false (by omega)
    clear c3
    replace H := Option.bind_eq_some_iff.mp H
    obtain ⟨⟨t136, t137⟩, A40, H⟩ := H
    replace H : (if t136.length + a1.size < 140737488355328 then (some ((t136 ++ bytesOf a1), 0)) else (none)) = some (r1, r2) := H
    have A4 := Aside0.mk A40
    clear A40
    by_cases c5 : t136.length + a1.size < 140737488355328
    · rw [if_pos c5] at H
      have LMc5 := Aside0.mk c5
      clear c5
      obtain ⟨y140, hy140⟩ : ∃ y_ : List Int, y_ = (t136 ++ bytesOf a1) := ⟨_, rfl⟩
      replace H : (some (y140, 0)) = some (r1, r2) := by first | (rw [hy140]; with_reducible exact H) | (have H2_ := (Option.bind_some _ _).symm.trans H; rw [hy140]; with_reducible exact H2_) | (have H2_ := (Option.bind_some _ _).symm.trans H; with_reducible exact H2_) | with_reducible exact H | (rw [hy140]; exact H) | exact H
      have Ny140 := Aside0.mk hy140
      clear hy140
      simp only [Option.some.injEq, Prod.mk.injEq] at H
      obtain ⟨rfl, rfl⟩ := H
      go_enter Tryd.func24, Tryd.ntmps24
      go_wp2_with (first | ((with_reducible refine gate_callee (f := 23) rfl ?_); refine goesL_ (some 15) rfl rfl Tryd.func23 (by kernel_rfl) rfl #[.slice A0 l0.length c0, .int .i64 (a1.size : Int)] rfl (by (try simp only [List.map_toArray, List.map_cons, List.map_nil]); first | done | rfl | (simp only [List.length_drop, List.length_take]; rfl)) ?_; (with_reducible refine (racewayref01_Num.calls k _ _ l0 (a1.size : Int) t136 t137 _ ?side1 ?side2 A4.out).mono ?_); (case side1 => repeat (first | exact HR0.out | (with_reducible refine Kd.C_alloc ?_ _) | (with_reducible refine Kd.C_drewN ?_ _) | (with_reducible refine Kd.C_drew ?_))); (case side2 => exact HC0.out); rintro e w6 ⟨v138, rfl, ho0, hb⟩; refine ⟨_, rfl, ?_⟩; have n0_ := Aside0.mk (Kd.R_lower ho0 (below_size (by repeat (first | (with_reducible first | exact HB.out | apply below_alloc | apply pw_below_drewN | apply below_drew1) | exact HB.out)))); have n1_ := Aside0.mk (below_step (by repeat (first | (with_reducible first | exact HB.out | apply below_alloc | apply pw_below_drewN | apply below_drew1) | exact HB.out)) hb); clear HB; have HO139 := n0_; have HB := n1_; clear n0_ n1_; (try clear hb); (try clear hb2); (try clear hk); (try clear hi); (try clear ho0)) | (at_builtin; refine print_append_str (w0 := w) w.heap.size rfl (.tmp 18) _ 36 9 5 rfl Tryd.underlying36 Tryd.underlying9 info5 v138 t136 a1 rfl rfl ?aO ?aB ?aS ?aL ?_; (case aB => exact (by repeat (first | (with_reducible first | exact HB.out | apply below_alloc | apply pw_below_drewN | apply below_drew1) | exact HB.out))); (case aO => exact (Kd.own_of_R (by (with_reducible repeat (first | apply Kd.R_alloc | apply Kd.R_drewN | apply Kd.R_drew)); exact HO139.out))); (case aS => exact (below_size (by repeat (first | (with_reducible first | exact HB.out | apply below_alloc | apply pw_below_drewN | apply below_drew1) | exact HB.out)))); (case aL => have := LMc5.out; omega); intro v141 w7 ho0 hb hg; have ho := Kd.R_of_own (h1 := fun _ => rfl) (ok := fun _ => True) ho0 (fun _ _ => trivial); clear ho0; have hat := True.intro; rw [← Ny140.out] at ho; change Kd.R (Kd.int .u8) 5 w7 w.heap.size (fun _ => True) v141 y140 at ho; have n0_ := Aside0.mk (hb); have n1_ := Aside0.mk (ho); clear HB; clear HO139; have HB := n0_; have HO142 := n1_; clear n0_ n1_; clear ho hb hg hat))
      go_ret2
      exact ⟨_, by first | rfl | (simp [errW_none, errW_some] <;> rfl) | (simp [*, errW_none, errW_some] <;> rfl), by (with_reducible repeat (first | apply Kd.R_alloc | apply Kd.R_drewN | apply Kd.R_drew)); exact HO142.out, by repeat (first | (with_reducible first | exact HB.out | apply below_alloc | apply pw_below_drewN | apply below_drew1) | exact HB.out)⟩
    · rw [if_neg c5] at H
      exact absurd H (by simp)

end Go.Proofs.YteajidciahoboaaDoor.P
-- Pzracewayref02put
-- PRINTED by print.py (a twelfth state) out of the translation. Not trusted: Lean checks it.
namespace Go.Proofs.YteajidciahoboaaDoor.P
open Go.RowKit Go.Proofs.YteajidciahoboaaDoorW.PrintWords Go.Proofs.YteajidciahoboaaDoorW.PrintLast Go.Proofs.YteajidciahoboaaDoorW.PrintMore
attribute [local go_sem] max2_int min2_int max_two min_two max_three min_three max_four min_four   -- for this text's walks alone
set_option linter.unusedVariables false
set_option linter.unusedSimpArgs false

/-! ### racewayref02_put: function 57 -/
def racewayref02_put.l0 : Nat → List Int → Int → Int → Option (List Int)
  | 0, _, _, _ => none
  | k + 1, x0, x1, x5 => if x5 < 4 then (if x0.length < 140737488355328 then (racewayref02_put.l0 k (x0 ++ [(Int.tmod x1 256) % 256]) ((Int.tdiv x1 256) % 4294967296) (wrap64 (x5 + 1))) else (none)) else (some x0)
def racewayref02_put.f (k : Nat) (l0 : List Int) (a1 : Int) : Option (List Int) := racewayref02_put.l0 k l0 a1 0
theorem racewayref02_put.mono_l : ∀ k, (∀ y0 y1 y2, LeO (racewayref02_put.l0 k y0 y1 y2) (racewayref02_put.l0 (k + 1) y0 y1 y2))
  | 0 => fun _ _ _ r h => by simp [racewayref02_put.l0] at h
  | k + 1 => by
    have ih0 := racewayref02_put.mono_l k
    · intro y0 y1 y2
      unfold racewayref02_put.l0
      repeat' first
      | (with_reducible exact ih0 _ _ _)
      | (with_reducible exact LeO.refl _)
      | (with_reducible exact LeO.none _)
      | (with_reducible refine LeO.ite ?_ ?_)
      | (with_reducible refine LeO.bind ?_ (fun _ => ?_))
      | exact ih0 _ _ _
      | exact LeO.none _
      | refine LeO.ite ?_ ?_
      | refine LeO.bind ?_ (fun _ => ?_)
theorem racewayref02_put.mono : ∀ a0 a1 k, LeO (racewayref02_put.f k a0 a1) (racewayref02_put.f (k + 1) a0 a1) := by
  intro a0 a1 k
  have ih0 := racewayref02_put.mono_l k
  unfold racewayref02_put.f
  repeat' first
      | (with_reducible exact ih0 _ _ _)
      | (with_reducible exact LeO.refl _)
      | (with_reducible exact LeO.none _)
      | (with_reducible refine LeO.ite ?_ ?_)
      | (with_reducible refine LeO.bind ?_ (fun _ => ?_))
      | exact ih0 _ _ _
      | exact LeO.none _
      | refine LeO.ite ?_ ?_
      | refine LeO.bind ?_ (fun _ => ?_)
set_option maxHeartbeats 8000000 in
set_option maxRecDepth 100000 in
theorem racewayref02_put.calls (k : Nat) (P0_ : Nat → Prop) (u9000_ : Value) (l0 : List Int) (a1 : Int) (r : List Int) (w0 w : World) (hB : Below w0.heap.size w0 w) (ho0 : Kd.R (Kd.int .u8) 5 w w0.heap.size P0_ u9000_ l0) (h : racewayref02_put.f k l0 a1 = some r) :
    Calls Tryd.prog 57 #[u9000_, .int .u32 a1] w fun e w' => ∃ v0_ : Value, e = .returned (v0_) ∧ Kd.R (Kd.int .u8) 5 w' w0.heap.size (fun k_ => (P0_ k_ ∨ w.heap.size ≤ k_)) v0_ r ∧ Below w0.heap.size w0 w' ∧ Kept w w' (fun k_ => P0_ k_) := by
  have HO0 := Aside0.mk (show Kd.R (Kd.int .u8) 5 w w0.heap.size (fun k_ => (P0_ k_ ∨ w.heap.size ≤ k_)) u9000_ l0 from Kd.R_mono ho0 (fun k_ hk => (.inl hk)))
  have HK := Aside0.mk (Kept.refl w (fun k_ => P0_ k_))
  have HW0 := Aside0.mk hB.size
  have HB := Aside0.mk hB
  clear hB
  have H : (racewayref02_put.l0 k l0 a1 0) = some r := h
  clear h
  have H' := Aside0.mk H
  clear H
  go_enter Tryd.func57, Tryd.ntmps57
  go_wp2
  go_loopg [0, 1, 5] k (fun kq v0 v1 v5 w' => ∃ (x0_1 : List Int) (x1_1 : Int) (x5_1 : Int), v1 = .int .u32 x1_1 ∧ v5 = .int .i64 x5_1 ∧ Aside0 (racewayref02_put.l0 kq x0_1 x1_1 x5_1 = some r) ∧ Aside0 (kq ≤ k) ∧ Aside0 (Kd.R (Kd.int .u8) 5 w' w0.heap.size (fun k_ => (P0_ k_ ∨ w.heap.size ≤ k_)) v0 x0_1) ∧ Aside0 (Kept w w' (fun k_ => P0_ k_)) ∧ Aside0 (Below w0.heap.size w0 w'))
  case atStart => exact ⟨(l0), (a1), (0), (by first | rfl | (simp; done) | (simp [*]; done)), (by first | rfl | (simp; done) | (simp [*]; done)), H', ⟨Nat.le_refl _⟩, ⟨by (with_reducible repeat (first | apply Kd.R_alloc | apply Kd.R_drewN | apply Kd.R_drew)); exact HO0.out⟩, ⟨by repeat (first | (with_reducible first | exact HK.out | apply Kept.alloc | apply Kept.drewN | apply Kept.drew) | exact HK.out)⟩, ⟨by repeat (first | (with_reducible first | exact HB.out | apply below_alloc | apply pw_below_drewN | apply below_drew1) | exact HB.out)⟩⟩
  case round =>
    clear H'
    try clear p2
    obtain ⟨x0_1, x1_1, x5_1, rfl, rfl, HA, HK1, HO_0, HK, HB⟩ := hrel
    cases gk with
    | zero => exact absurd HA.out (by simp [racewayref02_put.l0])
    | succ k1 =>
      have H := HA.out
      clear HA
      simp only [racewayref02_put.l0] at H
      by_cases c3 : x5_1 < 4
      · rw [if_pos c3] at H
        have c3b0 : decide (x5_1 < 4) = true := decide_eq_true c3
        clear c3
        by_cases c4 : x0_1.length < 140737488355328
        · rw [if_pos c4] at H
          have LMc4 := Aside0.mk c4
          clear c4
          obtain ⟨y143, hy143⟩ : ∃ y_ : List Int, y_ = (x0_1 ++ [(Int.tmod x1_1 256) % 256]) := ⟨_, rfl⟩
          replace H : (racewayref02_put.l0 k1 y143 ((Int.tdiv x1_1 256) % 4294967296) (wrap64 (x5_1 + 1))) = some r := by first | (rw [hy143]; with_reducible exact H) | (have H2_ := (Option.bind_some _ _).symm.trans H; rw [hy143]; with_reducible exact H2_) | (have H2_ := (Option.bind_some _ _).symm.trans H; with_reducible exact H2_) | with_reducible exact H | (rw [hy143]; exact H) | exact H
          have Ny143 := Aside0.mk hy143
          clear hy143
          have H' := Aside0.mk H
          clear H
          go_wp2_with (first | ((with_reducible refine gate_builtin (b := .append) (xs := #[.tmp 10, .tmp 14]) rfl ?_); at_builtin; refine Kd.R_append (Kd.int .u8) (w0 := w0) w0.heap.size rfl (.tmp 10) (.tmp 14) 36 5 (.int .u8 0) 1 rfl Tryd.underlying36 info5 rfl (by decide) (by omega) u0 x0_1 ((Int.tmod x1_1 256) % 256) [.int .u8 ((Int.tmod x1_1 256) % 256)] (fun k_ => (P0_ k_ ∨ w.heap.size ≤ k_)) (fun _ => False) rfl rfl ?aP (fun _ hk => hk.elim) ?aF ?aO ?aB ?aS ?aL ?_; (case aP => exact rfl); (case aB => exact (by repeat (first | (with_reducible first | exact HB.out | apply below_alloc | apply pw_below_drewN | apply below_drew1) | exact HB.out))); (case aF => exact (fun k_ hk => (.inr (Nat.le_trans (by first | exact HK.out.1 | exact (show Kept w _ (fun k_ => P0_ k_) from by repeat (first | (with_reducible first | exact HK.out | apply Kept.alloc | apply Kept.drewN | apply Kept.drew) | exact HK.out)).1) hk)))); (case aO => exact (by (with_reducible repeat (first | apply Kd.R_alloc | apply Kd.R_drewN | apply Kd.R_drew)); exact HO_0.out)); (case aS => exact (below_size (by repeat (first | (with_reducible first | exact HB.out | apply below_alloc | apply pw_below_drewN | apply below_drew1) | exact HB.out)))); (case aL => have := LMc4.out; omega); intro v144 w5 ho hb hg hat; rw [← Ny143.out] at ho; have n0_ := Aside0.mk (hb); have n1_ := Aside0.mk (Kept.of_grown (S := (fun k_ => P0_ k_)) hg (by repeat (first | (with_reducible first | exact HK.out | apply Kept.alloc | apply Kept.drewN | apply Kept.drew) | exact HK.out)) (fun k_ e_ => (HO_0.out.1 k_ e_))); have n2_ := Aside0.mk (ho); clear HB; clear HK; clear HO_0; have HB := n0_; have HK := n1_; have HO145 := n2_; clear n0_ n1_ n2_; clear ho hb hg hat))
          go_roundg k1
          case measure => have := HK1.out; omega
          case rel => exact ⟨(y143), ((Int.tdiv x1_1 256) % 4294967296), (wrap64 (x5_1 + 1)), (by first | rfl | (simp; done) | (simp [*]; done)), (by first | rfl | (simp; done) | (simp [*]; done)), H', ⟨by have := HK1.out; omega⟩, ⟨by (with_reducible repeat (first | apply Kd.R_alloc | apply Kd.R_drewN | apply Kd.R_drew)); exact HO145.out⟩, ⟨by repeat (first | (with_reducible first | exact HK.out | apply Kept.alloc | apply Kept.drewN | apply Kept.drew) | exact HK.out)⟩, ⟨by repeat (first | (with_reducible first | exact HB.out | apply below_alloc | apply pw_below_drewN | apply below_drew1) | exact HB.out)⟩⟩
        · rw [if_neg c4] at H
          exact absurd H (by simp)
      · rw [if_neg c3] at H
        have c3b0 : decide (x5_1 < 4) = false := decide_eq_false c3
        clear c3
        obtain rfl := Option.some.inj H
        go_wp2
        go_ret
        exact ⟨_, by first | rfl | (simp [errW_none, errW_some] <;> rfl) | (simp [*, errW_none, errW_some] <;> rfl), by (with_reducible repeat (first | apply Kd.R_alloc | apply Kd.R_drewN | apply Kd.R_drew)); exact HO_0.out, by repeat (first | (with_reducible first | exact HB.out | apply below_alloc | apply pw_below_drewN | apply below_drew1) | exact HB.out), by repeat (first | (with_reducible first | exact HK.out | apply Kept.alloc | apply Kept.drewN | apply Kept.drew) | exact HK.out)⟩

end Go.Proofs.YteajidciahoboaaDoor.P
-- Pzracewayref02Sum
-- PRINTED by print.py (a twelfth state) out of the translation. Not trusted: Lean checks it.
namespace Go.Proofs.YteajidciahoboaaDoor.P
open Go.RowKit Go.Proofs.YteajidciahoboaaDoorW.PrintWords Go.Proofs.YteajidciahoboaaDoorW.PrintLast Go.Proofs.YteajidciahoboaaDoorW.PrintMore
attribute [local go_sem] max2_int min2_int max_two min_two max_three min_three max_four min_four   -- for this text's walks alone
set_option linter.unusedVariables false
set_option linter.unusedSimpArgs false

/-! ### racewayref02_Sum: function 58 -/
mutual
def racewayref02_Sum.l0 : Nat → List Int → Int → Int → Option (Int)
  | 0, _, _, _ => none
  | k + 1, x0, x3, x4 => if x4 < (x0.length : Int) then (racewayref02_Sum.l1 k x0 x3 x4 0) else (some (Go.bits .xor .u32 x3 4294967295))
def racewayref02_Sum.l1 : Nat → List Int → Int → Int → Int → Option (Int)
  | 0, _, _, _, _ => none
  | k + 1, x0, x3, x4, x5 => if x5 < 8 then (if 0 ≤ x4 then (if x4 < (x0.length : Int) then (if 0 ≤ x5 then (if (Go.bits .and .u32 (Go.bits .xor .u32 x3 (shr .u32 ((rd x0 x4) % 4294967296) x5)) 1) = 1 then (racewayref02_Sum.l1 k x0 (Go.bits .xor .u32 (x3 / 2) 3988292384) x4 (wrap64 (x5 + 1))) else (racewayref02_Sum.l1 k x0 (x3 / 2) x4 (wrap64 (x5 + 1)))) else (none)) else (none)) else (none)) else (racewayref02_Sum.l0 k x0 x3 (wrap64 (x4 + 1)))
end
def racewayref02_Sum.f (k : Nat) (l0 : List Int) : Option (Int) := racewayref02_Sum.l0 k l0 4294967295 0
theorem racewayref02_Sum.mono_l : ∀ k, (∀ y0 y1 y2, LeO (racewayref02_Sum.l0 k y0 y1 y2) (racewayref02_Sum.l0 (k + 1) y0 y1 y2)) ∧ (∀ y0 y1 y2 y3, LeO (racewayref02_Sum.l1 k y0 y1 y2 y3) (racewayref02_Sum.l1 (k + 1) y0 y1 y2 y3))
  | 0 => ⟨fun _ _ _ r h => by simp [racewayref02_Sum.l0] at h, fun _ _ _ _ r h => by simp [racewayref02_Sum.l1] at h⟩
  | k + 1 => by
    obtain ⟨ih0, ih1⟩ := racewayref02_Sum.mono_l k
    refine ⟨?_, ?_⟩
    · intro y0 y1 y2
      unfold racewayref02_Sum.l0
      repeat' first
      | (with_reducible exact ih0 _ _ _)
      | (with_reducible exact ih1 _ _ _ _)
      | (with_reducible exact LeO.refl _)
      | (with_reducible exact LeO.none _)
      | (with_reducible refine LeO.ite ?_ ?_)
      | (with_reducible refine LeO.bind ?_ (fun _ => ?_))
      | exact ih0 _ _ _
      | exact ih1 _ _ _ _
      | exact LeO.none _
      | refine LeO.ite ?_ ?_
      | refine LeO.bind ?_ (fun _ => ?_)
    · intro y0 y1 y2 y3
      unfold racewayref02_Sum.l1
      repeat' first
      | (with_reducible exact ih0 _ _ _)
      | (with_reducible exact ih1 _ _ _ _)
      | (with_reducible exact LeO.refl _)
      | (with_reducible exact LeO.none _)
      | (with_reducible refine LeO.ite ?_ ?_)
      | (with_reducible refine LeO.bind ?_ (fun _ => ?_))
      | exact ih0 _ _ _
      | exact ih1 _ _ _ _
      | exact LeO.none _
      | refine LeO.ite ?_ ?_
      | refine LeO.bind ?_ (fun _ => ?_)
theorem racewayref02_Sum.mono : ∀ a0 k, LeO (racewayref02_Sum.f k a0) (racewayref02_Sum.f (k + 1) a0) := by
  intro a0 k
  obtain ⟨ih0, ih1⟩ := racewayref02_Sum.mono_l k
  unfold racewayref02_Sum.f
  repeat' first
      | (with_reducible exact ih0 _ _ _)
      | (with_reducible exact ih1 _ _ _ _)
      | (with_reducible exact LeO.refl _)
      | (with_reducible exact LeO.none _)
      | (with_reducible refine LeO.ite ?_ ?_)
      | (with_reducible refine LeO.bind ?_ (fun _ => ?_))
      | exact ih0 _ _ _
      | exact ih1 _ _ _ _
      | exact LeO.none _
      | refine LeO.ite ?_ ?_
      | refine LeO.bind ?_ (fun _ => ?_)
set_option maxHeartbeats 8000000 in
set_option maxRecDepth 100000 in
theorem racewayref02_Sum.calls (k : Nat) (A0 : Option Addr) (c0 : Nat) (l0 : List Int) (r : Int) (w : World) (hr0 : Kd.C (Kd.int .u8) w A0 l0.length l0) (hc0 : l0.length ≤ c0) (h : racewayref02_Sum.f k l0 = some r) :
    Calls Tryd.prog 58 #[.slice A0 l0.length c0] w fun e w' => e = .returned (.int .u32 r) ∧ Drawn0 w w' := by
  have HR0 := Aside0.mk hr0
  have HC0 := Aside0.mk hc0
  clear hr0 hc0
  have H : (racewayref02_Sum.l0 k l0 4294967295 0) = some r := h
  clear h
  have H' := Aside0.mk H
  clear H
  go_enter Tryd.func58, Tryd.ntmps58
  go_wp2
  go_loopg [3, 4] k (fun kq v3 v4 w' => ∃ (x3_1 : Int) (x4_1 : Int), v3 = .int .u32 x3_1 ∧ v4 = .int .i64 x4_1 ∧ Aside0 (racewayref02_Sum.l0 kq l0 x3_1 x4_1 = some r) ∧ Aside0 (kq ≤ k) ∧ Drawn0 w w')
  case atStart => exact ⟨(4294967295), (0), (by first | rfl | (simp; done) | (simp [*]; done)), (by first | rfl | (simp; done) | (simp [*]; done)), H', ⟨Nat.le_refl _⟩, by repeat (first | exact Drawn0.refl _ | apply Drawn0.step)⟩
  case round =>
    clear H'
    obtain ⟨x3_1, x4_1, rfl, rfl, HA, HK1, ⟨m1, rfl⟩⟩ := hrel
    cases gk with
    | zero => exact absurd HA.out (by simp [racewayref02_Sum.l0])
    | succ k1 =>
      have H := HA.out
      clear HA
      simp only [racewayref02_Sum.l0] at H
      by_cases c2 : x4_1 < (l0.length : Int)
      · rw [if_pos c2] at H
        have c2b0 : decide (x4_1 < (l0.length : Int)) = true := decide_eq_true c2
        clear c2
        have H' := Aside0.mk H
        clear H
        go_wp2
        go_loopg [3, 5] k1 (fun kq v3 v5 w' => ∃ (x3_2 : Int) (x5_2 : Int), v3 = .int .u32 x3_2 ∧ v5 = .int .i64 x5_2 ∧ Aside0 (racewayref02_Sum.l1 kq l0 x3_2 x4_1 x5_2 = some r) ∧ Aside0 (kq ≤ k1) ∧ Drawn0 w w')
        case atStart => exact ⟨(x3_1), (0), (by first | rfl | (simp; done) | (simp [*]; done)), (by first | rfl | (simp; done) | (simp [*]; done)), H', ⟨Nat.le_refl _⟩, by repeat (first | exact Drawn0.refl _ | apply Drawn0.step)⟩
        case round =>
          clear H'
          try clear c2
          try clear c2b0
          try clear p2
          obtain ⟨x3_2, x5_2, rfl, rfl, HA, HK2, ⟨m2, rfl⟩⟩ := hrel
          cases gk with
          | zero => exact absurd HA.out (by simp [racewayref02_Sum.l1])
          | succ k2 =>
            have H := HA.out
            clear HA
            simp only [racewayref02_Sum.l1] at H
            by_cases c3 : x5_2 < 8
            · rw [if_pos c3] at H
              have c3b0 : decide (x5_2 < 8) = true := decide_eq_true c3
              clear c3
              by_cases c4 : 0 ≤ x4_1
              · rw [if_pos c4] at H
                have c4b0 : decide (0 ≤ x4_1) = true := decide_eq_true c4
                clear c4
                by_cases c5 : x4_1 < (l0.length : Int)
                · rw [if_pos c5] at H
                  have c5b0 : decide (x4_1 < (l0.length : Int)) = true := decide_eq_true c5
                  clear c5
                  by_cases c6 : 0 ≤ x5_2
                  · rw [if_pos c6] at H
                    have c6b0 := eq_true c6
                    have c6b1 : decide (0 ≤ x5_2) = true := decide_eq_true c6
                    clear c6
                    obtain ⟨ji7, hji7⟩ : ∃ j_ : Int, (shr .u32 ((rd l0 x4_1) % 4294967296) x5_2) = j_ := ⟨_, rfl⟩
                    replace H : (if (Go.bits .and .u32 (Go.bits .xor .u32 x3_2 (ji7)) 1) = 1 then (racewayref02_Sum.l1 k2 l0 (Go.bits .xor .u32 (x3_2 / 2) 3988292384) x4_1 (wrap64 (x5_2 + 1))) else (racewayref02_Sum.l1 k2 l0 (x3_2 / 2) x4_1 (wrap64 (x5_2 + 1)))) = some r := by first | (rw [hji7] at H; exact H) | (simp only [hji7] at H ⊢; exact H)
                    have hji7_ : (((rd l0 x4_1) % 4294967296) / 2 ^ min x5_2.toNat 32) = ji7 := hji7
                    have hji7z : x5_2 ≤ 32 → (((rd l0 x4_1) % 4294967296) / 2 ^ x5_2.toNat) = ji7 := shr_small hji7
                    by_cases c8 : (Go.bits .and .u32 (Go.bits .xor .u32 x3_2 (ji7)) 1) = 1
                    · rw [if_pos c8] at H
                      have c8b0 : ((Go.bits .and .u32 (Go.bits .xor .u32 x3_2 (ji7)) 1) == 1) = true := beq_iff_eq.mpr c8
                      have c8b1 : ((Go.bits .and .u32 (Go.bits .xor .u32 x3_2 (ji7)) 1) != 1) = false := bne_eq_false_iff_eq.mpr c8
                      clear c8
                      have H' := Aside0.mk H
                      clear H
                      have p146 : 0 ≤ (x4_1 : Int) := of_decide_eq_true (by first | (with_reducible assumption) | assumption)
                      have q146 : x4_1 < (l0.length : Int) := of_decide_eq_true (by first | (with_reducible assumption) | assumption)
                      obtain ⟨ad146, e146, hx146_0⟩ := Kd.at_int HR0.out x4_1 p146 q146
                      cases e146
                      replace p146 := eq_true p146
                      replace q146 := eq_true q146
                      go_wp2
                      go_roundg k2
                      case measure => have := HK1.out; have := HK2.out; omega
                      case rel => exact ⟨(Go.bits .xor .u32 (x3_2 / 2) 3988292384), (wrap64 (x5_2 + 1)), (by first | rfl | (simp; done) | (simp [*]; done)), (by first | rfl | (simp; done) | (simp [*]; done)), H', ⟨by have := HK1.out; have := HK2.out; omega⟩, by repeat (first | exact Drawn0.refl _ | apply Drawn0.step)⟩
                    · rw [if_neg c8] at H
                      have c8b0 : ((Go.bits .and .u32 (Go.bits .xor .u32 x3_2 (ji7)) 1) == 1) = false := beq_eq_false_iff_ne.mpr c8
                      have c8b1 : ((Go.bits .and .u32 (Go.bits .xor .u32 x3_2 (ji7)) 1) != 1) = true := bne_iff_ne.mpr c8
                      have H' := Aside0.mk H
                      clear H
                      have p146 : 0 ≤ (x4_1 : Int) := of_decide_eq_true (by first | (with_reducible assumption) | assumption)
                      have q146 : x4_1 < (l0.length : Int) := of_decide_eq_true (by first | (with_reducible assumption) | assumption)
                      obtain ⟨ad146, e146, hx146_0⟩ := Kd.at_int HR0.out x4_1 p146 q146
                      cases e146
                      replace p146 := eq_true p146
                      replace q146 := eq_true q146
                      go_wp2
                      go_roundg k2
                      case measure => have := HK1.out; have := HK2.out; omega
                      case rel => exact ⟨(x3_2 / 2), (wrap64 (x5_2 + 1)), (by first | rfl | (simp; done) | (simp [*]; done)), (by first | rfl | (simp; done) | (simp [*]; done)), H', ⟨by have := HK1.out; have := HK2.out; omega⟩, by repeat (first | exact Drawn0.refl _ | apply Drawn0.step)⟩
                  · rw [if_neg c6] at H
                    exact absurd H (by simp)
                · rw [if_neg c5] at H
                  exact absurd H (by simp)
              · rw [if_neg c4] at H
                exact absurd H (by simp)
            · rw [if_neg c3] at H
              have c3b0 : decide (x5_2 < 8) = false := decide_eq_false c3
              clear c3
              have H' := Aside0.mk H
              clear H
              go_wp2
              go_roundg k2
              case measure => have := HK1.out; have := HK2.out; omega
              case rel => exact ⟨(x3_2), (wrap64 (x4_1 + 1)), (by first | rfl | (simp; done) | (simp [*]; done)), (by first | rfl | (simp; done) | (simp [*]; done)), H', ⟨by have := HK1.out; have := HK2.out; omega⟩, by repeat (first | exact Drawn0.refl _ | apply Drawn0.step)⟩
      · rw [if_neg c2] at H
        have c2b0 : decide (x4_1 < (l0.length : Int)) = false := decide_eq_false c2
        clear c2
        obtain rfl := Option.some.inj H
        go_wp2
        go_ret
        exact ⟨by first | rfl | (simp; done) | (simp [*]; done), by repeat (first | exact Drawn0.refl _ | apply Drawn0.step)⟩

end Go.Proofs.YteajidciahoboaaDoor.P
-- Pzracewayref02Frame
-- PRINTED by print.py (a twelfth state) out of the translation. Not trusted: Lean checks it.
namespace Go.Proofs.YteajidciahoboaaDoor.P
open Go.RowKit Go.Proofs.YteajidciahoboaaDoorW.PrintWords Go.Proofs.YteajidciahoboaaDoorW.PrintLast Go.Proofs.YteajidciahoboaaDoorW.PrintMore
attribute [local go_sem] max2_int min2_int max_two min_two max_three min_three max_four min_four   -- for this text's walks alone
set_option linter.unusedVariables false
set_option linter.unusedSimpArgs false

/-! ### racewayref02_Frame: function 25 -/
def racewayref02_Frame.f (k : Nat) (l0 : List Int) : Option (List Int × Int) := if (l0.length : Int) > 65536 then (some (([] : List Int), 3)) else ((racewayref02_put.f k ([] : List Int) (((l0.length : Int)) % 4294967296)).bind fun t147 => ((racewayref02_Sum.f k t147).bind fun t150 => ((racewayref02_put.f k t147 t150).bind fun t151 => ((racewayref02_Sum.f k l0).bind fun t154 => ((racewayref02_put.f k t151 t154).bind fun t155 => (if t155.length + l0.length < 140737488355328 then (some ((t155 ++ l0), 0)) else (none)))))))
theorem racewayref02_Frame.mono : ∀ a0 k, LeO (racewayref02_Frame.f k a0) (racewayref02_Frame.f (k + 1) a0) := by
  intro a0 k
  unfold racewayref02_Frame.f
  repeat' first
      | (with_reducible exact racewayref02_Sum.mono _ _)
      | (with_reducible exact racewayref02_put.mono _ _ _)
      | (with_reducible exact LeO.refl _)
      | (with_reducible exact LeO.none _)
      | (with_reducible refine LeO.ite ?_ ?_)
      | (with_reducible refine LeO.bind ?_ (fun _ => ?_))
      | exact racewayref02_Sum.mono _ _
      | exact racewayref02_put.mono _ _ _
      | exact LeO.none _
      | refine LeO.ite ?_ ?_
      | refine LeO.bind ?_ (fun _ => ?_)
set_option maxHeartbeats 8000000 in
set_option maxRecDepth 100000 in
theorem racewayref02_Frame.calls (k : Nat) (A0 : Option Addr) (c0 : Nat) (l0 : List Int) (r1 : List Int) (r2 : Int) (w : World) (hr0 : Kd.C (Kd.int .u8) w A0 l0.length l0) (hc0 : l0.length ≤ c0) (h : racewayref02_Frame.f k l0 = some (r1, r2)) :
    Calls Tryd.prog 25 #[.slice A0 l0.length c0] w fun e w' => ∃ v0_ : Value, e = .returned (.tuple #[v0_, .int .i64 r2]) ∧ Kd.R (Kd.int .u8) 5 w' w.heap.size (fun _ => True) v0_ r1 ∧ Below w.heap.size w w' := by
  have HR0 := Aside0.mk hr0
  have HC0 := Aside0.mk hc0
  clear hr0 hc0
  have HB := Aside0.mk (Below.refl w.heap.size w)
  have H : (if (l0.length : Int) > 65536 then (some (([] : List Int), 3)) else ((racewayref02_put.f k ([] : List Int) (((l0.length : Int)) % 4294967296)).bind fun t147 => ((racewayref02_Sum.f k t147).bind fun t150 => ((racewayref02_put.f k t147 t150).bind fun t151 => ((racewayref02_Sum.f k l0).bind fun t154 => ((racewayref02_put.f k t151 t154).bind fun t155 => (if t155.length + l0.length < 140737488355328 then (some ((t155 ++ l0), 0)) else (none)))))))) = some (r1, r2) := h
  clear h
  by_cases c2 : (l0.length : Int) > 65536
  · rw [if_pos c2] at H
    have c2b0 : decide (65536 < (l0.length : Int)) = true := decide_eq_true c2
    have c2b1 : decide (65536 < l0.length) = true := decide_eq_true (by omega)
    clear c2
    simp only [Option.some.injEq, Prod.mk.injEq] at H
    obtain ⟨rfl, rfl⟩ := H
    go_enter Tryd.func25, Tryd.ntmps25
    go_wp2
    go_ret2
    exact ⟨_, by first | rfl | (simp [errW_none, errW_some] <;> rfl) | (simp [*, errW_none, errW_some] <;> rfl), by first | exact Kd.R_nil _ _ _ _ _ | exact Kd.N_nil _ _ _ _ _ | exact Kd.V_nil _ _ _ _ _ | exact Kd.Q_nil _ _ _ _ _ | exact Kd.S_nil _ _ _ _ _, by repeat (first | (with_reducible first | exact HB.out | apply below_alloc | apply pw_below_drewN | apply below_drew1) | exact HB.out)⟩
  · rw [if_neg c2] at H
    have c2b0 : decide (65536 < (l0.length : Int)) = false := decide_eq_false c2
    have c2b1 : decide (65536 < l0.length) = false := decide_eq_false (by omega)
    clear c2
    replace H := Option.bind_eq_some_iff.mp H
    obtain ⟨t147, A30, H⟩ := H
    replace H : ((racewayref02_Sum.f k t147).bind fun t150 => ((racewayref02_put.f k t147 t150).bind fun t151 => ((racewayref02_Sum.f k l0).bind fun t154 => ((racewayref02_put.f k t151 t154).bind fun t155 => (if t155.length + l0.length < 140737488355328 then (some ((t155 ++ l0), 0)) else (none)))))) = some (r1, r2) := H
    have A3 := Aside0.mk A30
    clear A30
    replace H := Option.bind_eq_some_iff.mp H
    obtain ⟨t150, A40, H⟩ := H
    replace H : ((racewayref02_put.f k t147 t150).bind fun t151 => ((racewayref02_Sum.f k l0).bind fun t154 => ((racewayref02_put.f k t151 t154).bind fun t155 => (if t155.length + l0.length < 140737488355328 then (some ((t155 ++ l0), 0)) else (none))))) = some (r1, r2) := H
    have A4 := Aside0.mk A40
    clear A40
    replace H := Option.bind_eq_some_iff.mp H
    obtain ⟨t151, A50, H⟩ := H
    replace H : ((racewayref02_Sum.f k l0).bind fun t154 => ((racewayref02_put.f k t151 t154).bind fun t155 => (if t155.length + l0.length < 140737488355328 then (some ((t155 ++ l0), 0)) else (none)))) = some (r1, r2) := H
    have A5 := Aside0.mk A50
    clear A50
    replace H := Option.bind_eq_some_iff.mp H
    obtain ⟨t154, A60, H⟩ := H
    replace H : ((racewayref02_put.f k t151 t154).bind fun t155 => (if t155.length + l0.length < 140737488355328 then (some ((t155 ++ l0), 0)) else (none))) = some (r1, r2) := H
    have A6 := Aside0.mk A60
    clear A60
    replace H := Option.bind_eq_some_iff.mp H
    obtain ⟨t155, A70, H⟩ := H
    replace H : (if t155.length + l0.length < 140737488355328 then (some ((t155 ++ l0), 0)) else (none)) = some (r1, r2) := H
    have A7 := Aside0.mk A70
    clear A70
    by_cases c8 : t155.length + l0.length < 140737488355328
    · rw [if_pos c8] at H
      have LMc8 := Aside0.mk c8
      clear c8
      obtain ⟨y158, hy158⟩ : ∃ y_ : List Int, y_ = (t155 ++ l0) := ⟨_, rfl⟩
      replace H : (some (y158, 0)) = some (r1, r2) := by first | (rw [hy158]; with_reducible exact H) | (have H2_ := (Option.bind_some _ _).symm.trans H; rw [hy158]; with_reducible exact H2_) | (have H2_ := (Option.bind_some _ _).symm.trans H; with_reducible exact H2_) | with_reducible exact H | (rw [hy158]; exact H) | exact H
      have Ny158 := Aside0.mk hy158
      clear hy158
      simp only [Option.some.injEq, Prod.mk.injEq] at H
      obtain ⟨rfl, rfl⟩ := H
      go_enter Tryd.func25, Tryd.ntmps25
      go_wp2_with (first | ((with_reducible refine gate_callee (f := 57) rfl ?_); refine goesL_ (some 11) rfl rfl Tryd.func57 (by kernel_rfl) rfl #[.slice none 0 0, .int .u32 (((l0.length : Int)) % 4294967296)] rfl (by (try simp only [List.map_toArray, List.map_cons, List.map_nil]); first | done | rfl | (simp only [List.length_drop, List.length_take]; rfl)) ?_; (refine (racewayref02_put.calls k (fun k_ => some k_ = (.slice none 0 0 : Value).ownBlock) (.slice none 0 0) ([] : List Int) (((l0.length : Int)) % 4294967296) t147 w _ ?side1 ?side2 A3.out).mono ?_); (case side1 => repeat (first | (with_reducible first | exact HB.out | apply below_alloc | apply pw_below_drewN | apply below_drew1) | exact HB.out)); (case side2 => exact Kd.R_nil _ _ _ _ _); rintro e w9 ⟨v148, rfl, ho0, hb, hkp⟩; refine ⟨_, rfl, ?_⟩; have n0_ := Aside0.mk (Kd.R_mono (ok' := fun k_ => True) ho0 (fun k_ hk_ => trivial)); have n1_ := Aside0.mk (hb); clear HB; have HO149 := n0_; have HB := n1_; clear n0_ n1_; (try clear hb); (try clear hkp); (try clear ho0); obtain ⟨Ao10, co10, eo10⟩ := Kd.R_slice HO149.out; subst eo10) | ((with_reducible refine gate_callee (f := 58) rfl ?_); refine goesL_ (some 14) rfl rfl Tryd.func58 (by kernel_rfl) rfl #[.slice Ao10 t147.length co10] rfl (by (try simp only [List.map_toArray, List.map_cons, List.map_nil]); first | done | rfl | (simp only [List.length_drop, List.length_take]; rfl)) ?_; (with_reducible refine (racewayref02_Sum.calls k _ _ t147 t150 _ ?side1 ?side2 A4.out).mono ?_); (case side1 => repeat (first | exact (Kd.R_reads' HO149.out).2.2 | (with_reducible refine Kd.C_alloc ?_ _) | (with_reducible refine Kd.C_drewN ?_ _) | (with_reducible refine Kd.C_drew ?_))); (case side2 => exact (Kd.R_reads' HO149.out).2.1); rintro e w' ⟨rfl, ⟨nd, rfl⟩⟩; refine ⟨_, rfl, ?_⟩) | ((with_reducible refine gate_callee (f := 57) rfl ?_); refine goesL_ (some 15) rfl rfl Tryd.func57 (by kernel_rfl) rfl #[.slice Ao10 t147.length co10, .int .u32 t150] rfl (by (try simp only [List.map_toArray, List.map_cons, List.map_nil]); first | done | rfl | (simp only [List.length_drop, List.length_take]; rfl)) ?_; (with_reducible refine (racewayref02_put.calls k (fun k_ => some k_ = (.slice Ao10 t147.length co10 : Value).ownBlock) (.slice Ao10 t147.length co10) t147 t150 t151 w _ ?side1 ?side2 A5.out).mono ?_); (case side1 => repeat (first | (with_reducible first | exact HB.out | apply below_alloc | apply pw_below_drewN | apply below_drew1) | exact HB.out)); (case side2 => exact Kd.R_tight rfl HO149.out); rintro e w11 ⟨v152, rfl, ho0, hb, hkp⟩; refine ⟨_, rfl, ?_⟩; have n0_ := Aside0.mk (Kd.R_mono (ok' := fun k_ => True) ho0 (fun k_ hk_ => trivial)); have n1_ := Aside0.mk (hb); clear HB; clear HO149; have HO153 := n0_; have HB := n1_; clear n0_ n1_; (try clear hb); (try clear hkp); (try clear ho0)) | ((with_reducible refine gate_callee (f := 58) rfl ?_); refine goesL_ (some 18) rfl rfl Tryd.func58 (by kernel_rfl) rfl #[.slice A0 l0.length c0] rfl (by (try simp only [List.map_toArray, List.map_cons, List.map_nil]); first | done | rfl | (simp only [List.length_drop, List.length_take]; rfl)) ?_; (with_reducible refine (racewayref02_Sum.calls k _ _ l0 t154 _ ?side1 ?side2 A6.out).mono ?_); (case side1 => repeat (first | exact (Kd.C_below HR0.out HB.out) | (with_reducible refine Kd.C_alloc ?_ _) | (with_reducible refine Kd.C_drewN ?_ _) | (with_reducible refine Kd.C_drew ?_))); (case side2 => exact HC0.out); rintro e w' ⟨rfl, ⟨nd, rfl⟩⟩; refine ⟨_, rfl, ?_⟩; obtain ⟨Ao12, co12, eo12⟩ := Kd.R_slice HO153.out; subst eo12) | ((with_reducible refine gate_callee (f := 57) rfl ?_); refine goesL_ (some 19) rfl rfl Tryd.func57 (by kernel_rfl) rfl #[.slice Ao12 t151.length co12, .int .u32 t154] rfl (by (try simp only [List.map_toArray, List.map_cons, List.map_nil]); first | done | rfl | (simp only [List.length_drop, List.length_take]; rfl)) ?_; (with_reducible refine (racewayref02_put.calls k (fun k_ => some k_ = (.slice Ao12 t151.length co12 : Value).ownBlock) (.slice Ao12 t151.length co12) t151 t154 t155 w _ ?side1 ?side2 A7.out).mono ?_); (case side1 => repeat (first | (with_reducible first | exact HB.out | apply below_alloc | apply pw_below_drewN | apply below_drew1) | exact HB.out)); (case side2 => exact Kd.R_tight rfl HO153.out); rintro e w13 ⟨v156, rfl, ho0, hb, hkp⟩; refine ⟨_, rfl, ?_⟩; have n0_ := Aside0.mk (Kd.R_mono (ok' := fun k_ => True) ho0 (fun k_ hk_ => trivial)); have n1_ := Aside0.mk (hb); clear HB; clear HO153; have HO157 := n0_; have HB := n1_; clear n0_ n1_; (try clear hb); (try clear hkp); (try clear ho0)) | ((with_reducible refine gate_builtin (b := .append) (xs := #[.tmp 20, .tmp 21]) rfl ?_); at_builtin; refine Kd.R_append_rows (Kd.int .u8) (w0 := w) w.heap.size rfl (.tmp 20) (.tmp 21) 36 5 (.int .u8 0) 1 rfl Tryd.underlying36 info5 rfl (by decide) (by omega) v156 t155 l0 _ _ _ (fun _ => True) (fun _ => False) rfl rfl ?aO ?aR (fun _ _ h => h) (fun _ h => h.elim) ?aF ?aB ?aS ?aL ?_; (case aR => repeat (first | exact (Kd.C_below HR0.out HB.out) | (with_reducible refine Kd.C_alloc ?_ _) | (with_reducible refine Kd.C_drewN ?_ _) | (with_reducible refine Kd.C_drew ?_))); (case aB => exact (by repeat (first | (with_reducible first | exact HB.out | apply below_alloc | apply pw_below_drewN | apply below_drew1) | exact HB.out))); (case aF => exact (fun _ _ => trivial)); (case aO => exact (by (with_reducible repeat (first | apply Kd.R_alloc | apply Kd.R_drewN | apply Kd.R_drew)); exact HO157.out)); (case aS => exact (below_size (by repeat (first | (with_reducible first | exact HB.out | apply below_alloc | apply pw_below_drewN | apply below_drew1) | exact HB.out)))); (case aL => have := LMc8.out; omega); intro v159 w14 ho hb hg hat; rw [← Ny158.out] at ho; have n0_ := Aside0.mk (hb); have n1_ := Aside0.mk (ho); clear HB; clear HO157; have HB := n0_; have HO160 := n1_; clear n0_ n1_; clear ho hb hg hat))
      go_ret2
      exact ⟨_, by first | rfl | (simp [errW_none, errW_some] <;> rfl) | (simp [*, errW_none, errW_some] <;> rfl), by (with_reducible repeat (first | apply Kd.R_alloc | apply Kd.R_drewN | apply Kd.R_drew)); exact HO160.out, by repeat (first | (with_reducible first | exact HB.out | apply below_alloc | apply pw_below_drewN | apply below_drew1) | exact HB.out)⟩
    · rw [if_neg c8] at H
      exact absurd H (by simp)

end Go.Proofs.YteajidciahoboaaDoor.P
-- Pzracewayref27Handle
-- PRINTED by print.py (a twelfth state) out of the translation. Not trusted: Lean checks it.
namespace Go.Proofs.YteajidciahoboaaDoor.P
open Go.RowKit Go.Proofs.YteajidciahoboaaDoorW.PrintWords Go.Proofs.YteajidciahoboaaDoorW.PrintLast Go.Proofs.YteajidciahoboaaDoorW.PrintMore
attribute [local go_sem] max2_int min2_int max_two min_two max_three min_three max_four min_four   -- for this text's walks alone
set_option linter.unusedVariables false
set_option linter.unusedSimpArgs false

/-! ### racewayref27_Handle: function 8 -/
def racewayref27_Handle.j0 : Nat → Bool → Int → ByteArray → Int → Int → Option (ByteArray × Int)
  | 0, _, _, _, _, _ => none
  | k + 1, x23, x170000, x170001, x170002, x170003 => if x23 = true then (some ((⟨#[]⟩ : ByteArray), 2)) else (if (x170001.size : Int) > 32 then (some ((⟨#[]⟩ : ByteArray), 3)) else ((racewayref01_Num.f k ([] : List Int) x170000).bind fun bt173 => ((racewayref01_Text.f k bt173.1 x170001).bind fun bt177 => ((racewayref01_Num.f k bt177.1 x170002).bind fun bt181 => ((racewayref01_Num.f k bt181.1 x170003).bind fun bt185 => ((racewayref02_Frame.f k bt185.1).bind fun bt189 => ((racewayref22_Encode.f k bt189.1).bind fun t193 => (some (t193, 0)))))))))
def racewayref27_Handle.f (k : Nat) (a0_0 : Int) (a0_1 : ByteArray) (a0_2 : Int) (a0_3 : Int) : Option (ByteArray × Int) := (racewayref27_num.f a0_0).bind fun t170 => (if t170 = true then ((racewayref27_num.f a0_2).bind fun t171 => (if t171 = true then ((racewayref27_num.f a0_3).bind fun t172 => (racewayref27_Handle.j0 k (!t172) a0_0 a0_1 a0_2 a0_3)) else (racewayref27_Handle.j0 k true a0_0 a0_1 a0_2 a0_3))) else (racewayref27_Handle.j0 k true a0_0 a0_1 a0_2 a0_3))
theorem racewayref27_Handle.mono_l : ∀ k, (∀ y0 y1 y2 y3 y4, LeO (racewayref27_Handle.j0 k y0 y1 y2 y3 y4) (racewayref27_Handle.j0 (k + 1) y0 y1 y2 y3 y4))
  | 0 => fun _ _ _ _ _ r h => by simp [racewayref27_Handle.j0] at h
  | k + 1 => by
    have ih0 := racewayref27_Handle.mono_l k
    · intro y0 y1 y2 y3 y4
      unfold racewayref27_Handle.j0
      repeat' first
      | (with_reducible exact ih0 _ _ _ _ _)
      | (with_reducible exact racewayref01_Num.mono _ _ _)
      | (with_reducible exact racewayref01_Text.mono _ _ _)
      | (with_reducible exact racewayref02_Frame.mono _ _)
      | (with_reducible exact racewayref22_Encode.mono _ _)
      | (with_reducible exact LeO.refl _)
      | (with_reducible exact LeO.none _)
      | (with_reducible refine LeO.ite ?_ ?_)
      | (with_reducible refine LeO.bind ?_ (fun _ => ?_))
      | exact ih0 _ _ _ _ _
      | exact racewayref01_Num.mono _ _ _
      | exact racewayref01_Text.mono _ _ _
      | exact racewayref02_Frame.mono _ _
      | exact racewayref22_Encode.mono _ _
      | exact LeO.none _
      | refine LeO.ite ?_ ?_
      | refine LeO.bind ?_ (fun _ => ?_)
theorem racewayref27_Handle.mono : ∀ a0 a1 a2 a3 k, LeO (racewayref27_Handle.f k a0 a1 a2 a3) (racewayref27_Handle.f (k + 1) a0 a1 a2 a3) := by
  intro a0 a1 a2 a3 k
  have ih0 := racewayref27_Handle.mono_l k
  unfold racewayref27_Handle.f
  repeat' first
      | (with_reducible exact ih0 _ _ _ _ _)
      | (with_reducible exact racewayref01_Num.mono _ _ _)
      | (with_reducible exact racewayref01_Text.mono _ _ _)
      | (with_reducible exact racewayref02_Frame.mono _ _)
      | (with_reducible exact racewayref22_Encode.mono _ _)
      | (with_reducible exact LeO.refl _)
      | (with_reducible exact LeO.none _)
      | (with_reducible refine LeO.ite ?_ ?_)
      | (with_reducible refine LeO.bind ?_ (fun _ => ?_))
      | exact ih0 _ _ _ _ _
      | exact racewayref01_Num.mono _ _ _
      | exact racewayref01_Text.mono _ _ _
      | exact racewayref02_Frame.mono _ _
      | exact racewayref22_Encode.mono _ _
      | exact LeO.none _
      | refine LeO.ite ?_ ?_
      | refine LeO.bind ?_ (fun _ => ?_)
set_option maxHeartbeats 8000000 in
set_option maxRecDepth 100000 in
theorem racewayref27_Handle.calls (k : Nat) (a0_0 : Int) (a0_1 : ByteArray) (a0_2 : Int) (a0_3 : Int) (r1 : ByteArray) (r2 : Int) (w : World) (h : racewayref27_Handle.f k a0_0 a0_1 a0_2 a0_3 = some (r1, r2)) :
    Calls Tryd.prog 8 #[.agg #[.int .i64 a0_0, .string a0_1, .int .i64 a0_2, .int .i64 a0_3]] w fun e w' => e = .returned (.tuple #[.string r1, .int .i64 r2]) ∧ Below w.heap.size w w' := by
  have hu23 := Tryd.underlying23
  have HB := Aside0.mk (Below.refl w.heap.size w)
  have H : ((racewayref27_num.f a0_0).bind fun t170 => (if t170 = true then ((racewayref27_num.f a0_2).bind fun t171 => (if t171 = true then ((racewayref27_num.f a0_3).bind fun t172 => (racewayref27_Handle.j0 k (!t172) a0_0 a0_1 a0_2 a0_3)) else (racewayref27_Handle.j0 k true a0_0 a0_1 a0_2 a0_3))) else (racewayref27_Handle.j0 k true a0_0 a0_1 a0_2 a0_3))) = some (r1, r2) := h
  clear h
  have HC2 := Aside0.mk H
  clear H
  go_enter Tryd.func8, Tryd.ntmps8
  go_upto_region 1 with (first | ((with_reducible refine gate_dst (N := 1) rfl ?_); refine box_event ?hg (N := 1) ?hd (cs := #[.int .i64 a0_0, .string a0_1, .int .i64 a0_2, .int .i64 a0_3]) (t := 23) ?hr ?_; (case hd => rfl); (case hg => rfl); (case hr => first | (go_simp; done) | (go_simp; rfl)); intro gb169 hg w3 hbox hb; have n0_ := Aside0.mk (below_step (by repeat (first | (with_reducible first | exact HB.out | apply below_alloc | apply pw_below_drewN | apply below_drew1) | exact HB.out)) hb); have n1_ := Aside0.mk (hbox); have n2_ := Aside0.mk ((by rw [hg]; exact (below_size (by repeat (first | (with_reducible first | exact HB.out | apply below_alloc | apply pw_below_drewN | apply below_drew1) | exact HB.out))) : w.heap.size ≤ gb169)); have n3_ := Aside0.mk ((by rw [hg]; exact (below_size (by repeat (first | (with_reducible first | exact HB.out | apply below_alloc | apply pw_below_drewN | apply below_drew1) | exact HB.out))) : w.heap.size ≤ gb169)); clear HB; have HB := n0_; have BK169 := n1_; have GW169 := n2_; have GE169 := n3_; clear n0_ n1_ n2_ n3_; clear hb hbox hg))
  (try simp only [Act.put, List.setIfInBounds_toArray, List.set_cons_zero, List.set_cons_succ])
  go_cut [23] (fun v23 wc => ∃ (kq : Nat) (x23_1 : Bool), v23 = .bool x23_1 ∧ Aside0 (racewayref27_Handle.j0 kq x23_1 a0_0 a0_1 a0_2 a0_3 = some (r1, r2)) ∧ Aside0 (kq ≤ k) ∧ Aside0 (wc.heap[gb169]? = some (.cells #[.int .i64 a0_0, .string a0_1, .int .i64 a0_2, .int .i64 a0_3] 23 (0, 0))) ∧ Aside0 (Below w.heap.size w wc))
  case first =>
    have H := HC2.out
    clear HC2
    replace H := Option.bind_eq_some_iff.mp H
    obtain ⟨t170, A40, H⟩ := H
    replace H : (if t170 = true then ((racewayref27_num.f a0_2).bind fun t171 => (if t171 = true then ((racewayref27_num.f a0_3).bind fun t172 => (racewayref27_Handle.j0 k (!t172) a0_0 a0_1 a0_2 a0_3)) else (racewayref27_Handle.j0 k true a0_0 a0_1 a0_2 a0_3))) else (racewayref27_Handle.j0 k true a0_0 a0_1 a0_2 a0_3)) = some (r1, r2) := H
    have A4 := Aside0.mk A40
    clear A40
    by_cases c5 : t170 = true
    · subst c5
      have H1 : ((racewayref27_num.f a0_2).bind fun t171 => (if t171 = true then ((racewayref27_num.f a0_3).bind fun t172 => (racewayref27_Handle.j0 k (!t172) a0_0 a0_1 a0_2 a0_3)) else (racewayref27_Handle.j0 k true a0_0 a0_1 a0_2 a0_3))) = some (r1, r2) := by rw [if_pos rfl] at H; exact H
      clear H
      have H := H1
      clear H1
      replace H := Option.bind_eq_some_iff.mp H
      obtain ⟨t171, A60, H⟩ := H
      replace H : (if t171 = true then ((racewayref27_num.f a0_3).bind fun t172 => (racewayref27_Handle.j0 k (!t172) a0_0 a0_1 a0_2 a0_3)) else (racewayref27_Handle.j0 k true a0_0 a0_1 a0_2 a0_3)) = some (r1, r2) := H
      have A6 := Aside0.mk A60
      clear A60
      by_cases c7 : t171 = true
      · subst c7
        have H1 : ((racewayref27_num.f a0_3).bind fun t172 => (racewayref27_Handle.j0 k (!t172) a0_0 a0_1 a0_2 a0_3)) = some (r1, r2) := by rw [if_pos rfl] at H; exact H
        clear H
        have H := H1
        clear H1
        replace H := Option.bind_eq_some_iff.mp H
        obtain ⟨t172, A80, H⟩ := H
        replace H : (racewayref27_Handle.j0 k (!t172) a0_0 a0_1 a0_2 a0_3) = some (r1, r2) := H
        have A8 := Aside0.mk A80
        clear A80
        have H' := Aside0.mk H
        clear H
        have hcz9_0 : w3.cell? ⟨gb169, 0, none⟩ = some (.int .i64 a0_0) := (blk_cell BK169.out 0).trans rfl
        have hcz9_1 : w3.cell? ⟨gb169, 1, none⟩ = some (.string a0_1) := (blk_cell BK169.out 1).trans rfl
        have hcz9_2 : w3.cell? ⟨gb169, 2, none⟩ = some (.int .i64 a0_2) := (blk_cell BK169.out 2).trans rfl
        have hcz9_3 : w3.cell? ⟨gb169, 3, none⟩ = some (.int .i64 a0_3) := (blk_cell BK169.out 3).trans rfl
        have hfz9_0 := blk_frozen BK169.out 0
        have hfz9_1 := blk_frozen BK169.out 1
        have hfz9_2 := blk_frozen BK169.out 2
        have hfz9_3 := blk_frozen BK169.out 3
        go_wp2_with (first | ((with_reducible refine gate_callee (f := 22) rfl ?_); refine goesL_ (some 10) rfl rfl Tryd.func22 (by kernel_rfl) rfl #[.int .i64 a0_0] rfl (by (try simp only [List.map_toArray, List.map_cons, List.map_nil]); first | done | rfl | (simp only [List.length_drop, List.length_take]; rfl)) ?_; (with_reducible refine (racewayref27_num.calls a0_0 true _ A4.out).mono ?_); rintro e w' ⟨rfl, ⟨nd, rfl⟩⟩; refine ⟨_, rfl, ?_⟩) | (go_at_call 22; (with_reducible refine (racewayref27_num.calls a0_2 true _ A6.out).mono ?_); rintro e w' ⟨rfl, ⟨nd, rfl⟩⟩) | (go_at_call 22; (with_reducible refine (racewayref27_num.calls a0_3 t172 _ A8.out).mono ?_); rintro e w' ⟨rfl, ⟨nd, rfl⟩⟩))
        go_meet
        case rel => exact ⟨_, (!t172), (by first | rfl | (simp; done) | (simp [*]; done)), H', ⟨by first | omega | exact Nat.le_refl _⟩, ⟨by (with_reducible repeat (first | refine blk_drewN ?_ _ | refine blk_drew ?_ | refine blk_alloc ?_ _)); exact BK169.out⟩, ⟨by repeat (first | (with_reducible first | exact HB.out | apply below_alloc | apply pw_below_drewN | apply below_drew1 | refine below_set ?_ GE169.out) | exact HB.out)⟩⟩
      · replace c7 := Bool.eq_false_iff.mpr c7
        subst c7
        have H1 : (racewayref27_Handle.j0 k true a0_0 a0_1 a0_2 a0_3) = some (r1, r2) := by rw [if_neg (show ¬ (false = true) by decide)] at H; exact H
        clear H
        have H := H1
        clear H1
        have H' := Aside0.mk H
        clear H
        have hcz10_0 : w3.cell? ⟨gb169, 0, none⟩ = some (.int .i64 a0_0) := (blk_cell BK169.out 0).trans rfl
        have hcz10_1 : w3.cell? ⟨gb169, 1, none⟩ = some (.string a0_1) := (blk_cell BK169.out 1).trans rfl
        have hcz10_2 : w3.cell? ⟨gb169, 2, none⟩ = some (.int .i64 a0_2) := (blk_cell BK169.out 2).trans rfl
        have hcz10_3 : w3.cell? ⟨gb169, 3, none⟩ = some (.int .i64 a0_3) := (blk_cell BK169.out 3).trans rfl
        have hfz10_0 := blk_frozen BK169.out 0
        have hfz10_1 := blk_frozen BK169.out 1
        have hfz10_2 := blk_frozen BK169.out 2
        have hfz10_3 := blk_frozen BK169.out 3
        go_wp2_with (first | ((with_reducible refine gate_callee (f := 22) rfl ?_); refine goesL_ (some 10) rfl rfl Tryd.func22 (by kernel_rfl) rfl #[.int .i64 a0_0] rfl (by (try simp only [List.map_toArray, List.map_cons, List.map_nil]); first | done | rfl | (simp only [List.length_drop, List.length_take]; rfl)) ?_; (with_reducible refine (racewayref27_num.calls a0_0 true _ A4.out).mono ?_); rintro e w' ⟨rfl, ⟨nd, rfl⟩⟩; refine ⟨_, rfl, ?_⟩) | (go_at_call 22; (with_reducible refine (racewayref27_num.calls a0_2 false _ A6.out).mono ?_); rintro e w' ⟨rfl, ⟨nd, rfl⟩⟩))
        go_meet
        case rel => exact ⟨_, (true), (by first | rfl | (simp; done) | (simp [*]; done)), H', ⟨by first | omega | exact Nat.le_refl _⟩, ⟨by (with_reducible repeat (first | refine blk_drewN ?_ _ | refine blk_drew ?_ | refine blk_alloc ?_ _)); exact BK169.out⟩, ⟨by repeat (first | (with_reducible first | exact HB.out | apply below_alloc | apply pw_below_drewN | apply below_drew1 | refine below_set ?_ GE169.out) | exact HB.out)⟩⟩
    · replace c5 := Bool.eq_false_iff.mpr c5
      subst c5
      have H1 : (racewayref27_Handle.j0 k true a0_0 a0_1 a0_2 a0_3) = some (r1, r2) := by rw [if_neg (show ¬ (false = true) by decide)] at H; exact H
      clear H
      have H := H1
      clear H1
      have H' := Aside0.mk H
      clear H
      have hcz11_0 : w3.cell? ⟨gb169, 0, none⟩ = some (.int .i64 a0_0) := (blk_cell BK169.out 0).trans rfl
      have hcz11_1 : w3.cell? ⟨gb169, 1, none⟩ = some (.string a0_1) := (blk_cell BK169.out 1).trans rfl
      have hcz11_2 : w3.cell? ⟨gb169, 2, none⟩ = some (.int .i64 a0_2) := (blk_cell BK169.out 2).trans rfl
      have hcz11_3 : w3.cell? ⟨gb169, 3, none⟩ = some (.int .i64 a0_3) := (blk_cell BK169.out 3).trans rfl
      have hfz11_0 := blk_frozen BK169.out 0
      have hfz11_1 := blk_frozen BK169.out 1
      have hfz11_2 := blk_frozen BK169.out 2
      have hfz11_3 := blk_frozen BK169.out 3
      go_wp2_with (first | ((with_reducible refine gate_callee (f := 22) rfl ?_); refine goesL_ (some 10) rfl rfl Tryd.func22 (by kernel_rfl) rfl #[.int .i64 a0_0] rfl (by (try simp only [List.map_toArray, List.map_cons, List.map_nil]); first | done | rfl | (simp only [List.length_drop, List.length_take]; rfl)) ?_; (with_reducible refine (racewayref27_num.calls a0_0 false _ A4.out).mono ?_); rintro e w' ⟨rfl, ⟨nd, rfl⟩⟩; refine ⟨_, rfl, ?_⟩))
      go_meet
      case rel => exact ⟨_, (true), (by first | rfl | (simp; done) | (simp [*]; done)), H', ⟨by first | omega | exact Nat.le_refl _⟩, ⟨by (with_reducible repeat (first | refine blk_drewN ?_ _ | refine blk_drew ?_ | refine blk_alloc ?_ _)); exact BK169.out⟩, ⟨by repeat (first | (with_reducible first | exact HB.out | apply below_alloc | apply pw_below_drewN | apply below_drew1 | refine below_set ?_ GE169.out) | exact HB.out)⟩⟩
  case rest =>
    clear HC2
    try clear c2
    try clear p2
    try clear c5
    try clear c7
    try clear c8
    try clear hcz10_0
    try clear hcz10_1
    try clear hcz10_2
    try clear hcz10_3
    try clear hcz11_0
    try clear hcz11_1
    try clear hcz11_2
    try clear hcz11_3
    try clear hcz9_0
    try clear hcz9_1
    try clear hcz9_2
    try clear hcz9_3
    try clear hfz10_0
    try clear hfz10_1
    try clear hfz10_2
    try clear hfz10_3
    try clear hfz11_0
    try clear hfz11_1
    try clear hfz11_2
    try clear hfz11_3
    try clear hfz9_0
    try clear hfz9_1
    try clear hfz9_2
    try clear hfz9_3
    obtain ⟨kq, x23_1, rfl, HA, HJ1, BK169, HB⟩ := hcut
    cases kq with
    | zero => exact absurd HA.out (by simp [racewayref27_Handle.j0])
    | succ kj1 =>
      have H := HA.out
      clear HA
      simp only [racewayref27_Handle.j0] at H
      by_cases c12 : x23_1 = true
      · subst c12
        have H1 : (some ((⟨#[]⟩ : ByteArray), 2)) = some (r1, r2) := by rw [if_pos rfl] at H; exact H
        clear H
        have H := H1
        clear H1
        simp only [Option.some.injEq, Prod.mk.injEq] at H
        obtain ⟨rfl, rfl⟩ := H
        go_wp2
        go_ret2
        exact ⟨by first | rfl | (simp [errW_none, errW_some] <;> rfl) | (simp [*, errW_none, errW_some] <;> rfl), by repeat (first | (with_reducible first | exact HB.out | apply below_alloc | apply pw_below_drewN | apply below_drew1 | refine below_set ?_ GE169.out) | exact HB.out)⟩
      · replace c12 := Bool.eq_false_iff.mpr c12
        subst c12
        have H1 : (if (a0_1.size : Int) > 32 then (some ((⟨#[]⟩ : ByteArray), 3)) else ((racewayref01_Num.f kj1 ([] : List Int) a0_0).bind fun bt173 => ((racewayref01_Text.f kj1 bt173.1 a0_1).bind fun bt177 => ((racewayref01_Num.f kj1 bt177.1 a0_2).bind fun bt181 => ((racewayref01_Num.f kj1 bt181.1 a0_3).bind fun bt185 => ((racewayref02_Frame.f kj1 bt185.1).bind fun bt189 => ((racewayref22_Encode.f kj1 bt189.1).bind fun t193 => (some (t193, 0))))))))) = some (r1, r2) := by rw [if_neg (show ¬ (false = true) by decide)] at H; exact H
        clear H
        have H := H1
        clear H1
        by_cases c13 : (a0_1.size : Int) > 32
        · rw [if_pos c13] at H
          have c13b0 : decide (32 < (a0_1.size : Int)) = true := decide_eq_true c13
          have c13b1 : decide (32 < a0_1.size) = true := decide_eq_true (by omega)
          clear c13
          simp only [Option.some.injEq, Prod.mk.injEq] at H
          obtain ⟨rfl, rfl⟩ := H
          have hcz14_0 : wc.cell? ⟨gb169, 0, none⟩ = some (.int .i64 a0_0) := (blk_cell BK169.out 0).trans rfl
          have hcz14_1 : wc.cell? ⟨gb169, 1, none⟩ = some (.string a0_1) := (blk_cell BK169.out 1).trans rfl
          have hcz14_2 : wc.cell? ⟨gb169, 2, none⟩ = some (.int .i64 a0_2) := (blk_cell BK169.out 2).trans rfl
          have hcz14_3 : wc.cell? ⟨gb169, 3, none⟩ = some (.int .i64 a0_3) := (blk_cell BK169.out 3).trans rfl
          have hfz14_0 := blk_frozen BK169.out 0
          have hfz14_1 := blk_frozen BK169.out 1
          have hfz14_2 := blk_frozen BK169.out 2
          have hfz14_3 := blk_frozen BK169.out 3
          go_wp2
          go_ret2
          exact ⟨by first | rfl | (simp [errW_none, errW_some] <;> rfl) | (simp [*, errW_none, errW_some] <;> rfl), by repeat (first | (with_reducible first | exact HB.out | apply below_alloc | apply pw_below_drewN | apply below_drew1 | refine below_set ?_ GE169.out) | exact HB.out)⟩
        · rw [if_neg c13] at H
          have c13b0 : decide (32 < (a0_1.size : Int)) = false := decide_eq_false c13
          have c13b1 : decide (32 < a0_1.size) = false := decide_eq_false (by omega)
          clear c13
          replace H := Option.bind_eq_some_iff.mp H
          obtain ⟨⟨t173, t174⟩, A150, H⟩ := H
          replace H : ((racewayref01_Text.f kj1 t173 a0_1).bind fun bt177 => ((racewayref01_Num.f kj1 bt177.1 a0_2).bind fun bt181 => ((racewayref01_Num.f kj1 bt181.1 a0_3).bind fun bt185 => ((racewayref02_Frame.f kj1 bt185.1).bind fun bt189 => ((racewayref22_Encode.f kj1 bt189.1).bind fun t193 => (some (t193, 0))))))) = some (r1, r2) := H
          have A15 := Aside0.mk A150
          clear A150
          replace H := Option.bind_eq_some_iff.mp H
          obtain ⟨⟨t177, t178⟩, A160, H⟩ := H
          replace H : ((racewayref01_Num.f kj1 t177 a0_2).bind fun bt181 => ((racewayref01_Num.f kj1 bt181.1 a0_3).bind fun bt185 => ((racewayref02_Frame.f kj1 bt185.1).bind fun bt189 => ((racewayref22_Encode.f kj1 bt189.1).bind fun t193 => (some (t193, 0)))))) = some (r1, r2) := H
          have A16 := Aside0.mk A160
          clear A160
          replace H := Option.bind_eq_some_iff.mp H
          obtain ⟨⟨t181, t182⟩, A170, H⟩ := H
          replace H : ((racewayref01_Num.f kj1 t181 a0_3).bind fun bt185 => ((racewayref02_Frame.f kj1 bt185.1).bind fun bt189 => ((racewayref22_Encode.f kj1 bt189.1).bind fun t193 => (some (t193, 0))))) = some (r1, r2) := H
          have A17 := Aside0.mk A170
          clear A170
          replace H := Option.bind_eq_some_iff.mp H
          obtain ⟨⟨t185, t186⟩, A180, H⟩ := H
          replace H : ((racewayref02_Frame.f kj1 t185).bind fun bt189 => ((racewayref22_Encode.f kj1 bt189.1).bind fun t193 => (some (t193, 0)))) = some (r1, r2) := H
          have A18 := Aside0.mk A180
          clear A180
          replace H := Option.bind_eq_some_iff.mp H
          obtain ⟨⟨t189, t190⟩, A190, H⟩ := H
          replace H : ((racewayref22_Encode.f kj1 t189).bind fun t193 => (some (t193, 0))) = some (r1, r2) := H
          have A19 := Aside0.mk A190
          clear A190
          replace H := Option.bind_eq_some_iff.mp H
          obtain ⟨t193, A200, H⟩ := H
          replace H : (some (t193, 0)) = some (r1, r2) := H
          have A20 := Aside0.mk A200
          clear A200
          simp only [Option.some.injEq, Prod.mk.injEq] at H
          obtain ⟨rfl, rfl⟩ := H
          have hcz21_0 : wc.cell? ⟨gb169, 0, none⟩ = some (.int .i64 a0_0) := (blk_cell BK169.out 0).trans rfl
          have hcz21_1 : wc.cell? ⟨gb169, 1, none⟩ = some (.string a0_1) := (blk_cell BK169.out 1).trans rfl
          have hcz21_2 : wc.cell? ⟨gb169, 2, none⟩ = some (.int .i64 a0_2) := (blk_cell BK169.out 2).trans rfl
          have hcz21_3 : wc.cell? ⟨gb169, 3, none⟩ = some (.int .i64 a0_3) := (blk_cell BK169.out 3).trans rfl
          have hfz21_0 := blk_frozen BK169.out 0
          have hfz21_1 := blk_frozen BK169.out 1
          have hfz21_2 := blk_frozen BK169.out 2
          have hfz21_3 := blk_frozen BK169.out 3
          go_wp2_with (first | ((with_reducible refine gate_callee (f := 23) rfl ?_); refine goesL_ (some 31) rfl rfl Tryd.func23 (by kernel_rfl) rfl #[.slice none 0 0, .int .i64 a0_0] rfl (by (try simp only [List.map_toArray, List.map_cons, List.map_nil]); first | done | rfl | (simp only [List.length_drop, List.length_take]; rfl)) ?_; (refine (racewayref01_Num.calls kj1 _ _ ([] : List Int) a0_0 t173 t174 _ ?side1 ?side2 A15.out).mono ?_); (case side1 => exact Kd.C_nil _ _); (case side2 => exact Nat.le_refl _); rintro e w22 ⟨v175, rfl, ho0, hb⟩; refine ⟨_, rfl, ?_⟩; have n0_ := Aside0.mk (Kd.R_lower ho0 (below_size (by repeat (first | (with_reducible first | exact HB.out | apply below_alloc | apply pw_below_drewN | apply below_drew1 | refine below_set ?_ GE169.out) | exact HB.out)))); have n1_ := Aside0.mk (blk_below (g := gb169) (o := .cells #[.int .i64 a0_0, .string a0_1, .int .i64 a0_2, .int .i64 a0_3] 23 (0, 0)) (by (with_reducible repeat (first | refine blk_drewN ?_ _ | refine blk_drew ?_ | refine blk_alloc ?_ _)); exact BK169.out) hb); have n2_ := Aside0.mk (below_step (by repeat (first | (with_reducible first | exact HB.out | apply below_alloc | apply pw_below_drewN | apply below_drew1 | refine below_set ?_ GE169.out) | exact HB.out)) hb); clear BK169; clear HB; have HO176 := n0_; have BK169 := n1_; have HB := n2_; clear n0_ n1_ n2_; (try clear hb); (try clear hb2); (try clear hk); (try clear hi); (try clear ho0); have hcz23_0 : w22.cell? ⟨gb169, 0, none⟩ = some (.int .i64 a0_0) := (blk_cell BK169.out 0).trans rfl; have hcz23_1 : w22.cell? ⟨gb169, 1, none⟩ = some (.string a0_1) := (blk_cell BK169.out 1).trans rfl; have hcz23_2 : w22.cell? ⟨gb169, 2, none⟩ = some (.int .i64 a0_2) := (blk_cell BK169.out 2).trans rfl; have hcz23_3 : w22.cell? ⟨gb169, 3, none⟩ = some (.int .i64 a0_3) := (blk_cell BK169.out 3).trans rfl; have hfz23_0 := blk_frozen BK169.out 0; have hfz23_1 := blk_frozen BK169.out 1; have hfz23_2 := blk_frozen BK169.out 2; have hfz23_3 := blk_frozen BK169.out 3; obtain ⟨Ao24, co24, eo24⟩ := Kd.R_slice HO176.out; subst eo24) | ((with_reducible refine gate_callee (f := 24) rfl ?_); refine goesL_ (some 38) rfl rfl Tryd.func24 (by kernel_rfl) rfl #[.slice Ao24 t173.length co24, .string a0_1] rfl (by (try simp only [List.map_toArray, List.map_cons, List.map_nil]); first | done | rfl | (simp only [List.length_drop, List.length_take]; rfl)) ?_; (with_reducible refine (racewayref01_Text.calls kj1 _ _ t173 a0_1 t177 t178 _ ?side1 ?side2 A16.out).mono ?_); (case side1 => repeat (first | exact (Kd.R_reads' HO176.out).2.2 | (with_reducible refine Kd.C_alloc ?_ _) | (with_reducible refine Kd.C_drewN ?_ _) | (with_reducible refine Kd.C_drew ?_))); (case side2 => exact (Kd.R_reads' HO176.out).2.1); rintro e w25 ⟨v179, rfl, ho0, hb⟩; refine ⟨_, rfl, ?_⟩; have n0_ := Aside0.mk (Kd.R_elder' (by (with_reducible repeat (first | apply Kd.R_alloc | apply Kd.R_drewN | apply Kd.R_drew)); exact HO176.out) (Kd.R_base ho0) hb); have n1_ := Aside0.mk (Kd.R_lower (Kd.R_new' ho0 (Kd.R_lt (by (with_reducible repeat (first | apply Kd.R_alloc | apply Kd.R_drewN | apply Kd.R_drew)); exact HO176.out))) (below_size (by repeat (first | (with_reducible first | exact HB.out | apply below_alloc | apply pw_below_drewN | apply below_drew1 | refine below_set ?_ GE169.out) | exact HB.out)))); have n2_ := Aside0.mk (blk_below (g := gb169) (o := .cells #[.int .i64 a0_0, .string a0_1, .int .i64 a0_2, .int .i64 a0_3] 23 (0, 0)) (by (with_reducible repeat (first | refine blk_drewN ?_ _ | refine blk_drew ?_ | refine blk_alloc ?_ _)); exact BK169.out) hb); have n3_ := Aside0.mk (below_step (by repeat (first | (with_reducible first | exact HB.out | apply below_alloc | apply pw_below_drewN | apply below_drew1 | refine below_set ?_ GE169.out) | exact HB.out)) hb); clear HO176; clear BK169; clear HB; have HO176 := n0_; have HO180 := n1_; have BK169 := n2_; have HB := n3_; clear n0_ n1_ n2_ n3_; (try clear hb); (try clear hb2); (try clear hk); (try clear hi); (try clear ho0); have hcz26_0 : w25.cell? ⟨gb169, 0, none⟩ = some (.int .i64 a0_0) := (blk_cell BK169.out 0).trans rfl; have hcz26_1 : w25.cell? ⟨gb169, 1, none⟩ = some (.string a0_1) := (blk_cell BK169.out 1).trans rfl; have hcz26_2 : w25.cell? ⟨gb169, 2, none⟩ = some (.int .i64 a0_2) := (blk_cell BK169.out 2).trans rfl; have hcz26_3 : w25.cell? ⟨gb169, 3, none⟩ = some (.int .i64 a0_3) := (blk_cell BK169.out 3).trans rfl; have hfz26_0 := blk_frozen BK169.out 0; have hfz26_1 := blk_frozen BK169.out 1; have hfz26_2 := blk_frozen BK169.out 2; have hfz26_3 := blk_frozen BK169.out 3; obtain ⟨Ao27, co27, eo27⟩ := Kd.R_slice HO180.out; subst eo27) | ((with_reducible refine gate_callee (f := 23) rfl ?_); refine goesL_ (some 45) rfl rfl Tryd.func23 (by kernel_rfl) rfl #[.slice Ao27 t177.length co27, .int .i64 a0_2] rfl (by (try simp only [List.map_toArray, List.map_cons, List.map_nil]); first | done | rfl | (simp only [List.length_drop, List.length_take]; rfl)) ?_; (with_reducible refine (racewayref01_Num.calls kj1 _ _ t177 a0_2 t181 t182 _ ?side1 ?side2 A17.out).mono ?_); (case side1 => repeat (first | exact (Kd.R_reads' HO180.out).2.2 | (with_reducible refine Kd.C_alloc ?_ _) | (with_reducible refine Kd.C_drewN ?_ _) | (with_reducible refine Kd.C_drew ?_))); (case side2 => exact (Kd.R_reads' HO180.out).2.1); rintro e w28 ⟨v183, rfl, ho0, hb⟩; refine ⟨_, rfl, ?_⟩; have n0_ := Aside0.mk (Kd.R_elder' (by (with_reducible repeat (first | apply Kd.R_alloc | apply Kd.R_drewN | apply Kd.R_drew)); exact HO176.out) (Kd.R_base ho0) hb); have n1_ := Aside0.mk (Kd.R_elder' (by (with_reducible repeat (first | apply Kd.R_alloc | apply Kd.R_drewN | apply Kd.R_drew)); exact HO180.out) (Kd.R_base ho0) hb); have n2_ := Aside0.mk (Kd.R_lower (Kd.R_new' (Kd.R_new' ho0 (Kd.R_lt (by (with_reducible repeat (first | apply Kd.R_alloc | apply Kd.R_drewN | apply Kd.R_drew)); exact HO176.out))) (Kd.R_lt (by (with_reducible repeat (first | apply Kd.R_alloc | apply Kd.R_drewN | apply Kd.R_drew)); exact HO180.out))) (below_size (by repeat (first | (with_reducible first | exact HB.out | apply below_alloc | apply pw_below_drewN | apply below_drew1 | refine below_set ?_ GE169.out) | exact HB.out)))); have n3_ := Aside0.mk (blk_below (g := gb169) (o := .cells #[.int .i64 a0_0, .string a0_1, .int .i64 a0_2, .int .i64 a0_3] 23 (0, 0)) (by (with_reducible repeat (first | refine blk_drewN ?_ _ | refine blk_drew ?_ | refine blk_alloc ?_ _)); exact BK169.out) hb); have n4_ := Aside0.mk (below_step (by repeat (first | (with_reducible first | exact HB.out | apply below_alloc | apply pw_below_drewN | apply below_drew1 | refine below_set ?_ GE169.out) | exact HB.out)) hb); clear HO176; clear HO180; clear BK169; clear HB; have HO176 := n0_; have HO180 := n1_; have HO184 := n2_; have BK169 := n3_; have HB := n4_; clear n0_ n1_ n2_ n3_ n4_; (try clear hb); (try clear hb2); (try clear hk); (try clear hi); (try clear ho0); have hcz29_0 : w28.cell? ⟨gb169, 0, none⟩ = some (.int .i64 a0_0) := (blk_cell BK169.out 0).trans rfl; have hcz29_1 : w28.cell? ⟨gb169, 1, none⟩ = some (.string a0_1) := (blk_cell BK169.out 1).trans rfl; have hcz29_2 : w28.cell? ⟨gb169, 2, none⟩ = some (.int .i64 a0_2) := (blk_cell BK169.out 2).trans rfl; have hcz29_3 : w28.cell? ⟨gb169, 3, none⟩ = some (.int .i64 a0_3) := (blk_cell BK169.out 3).trans rfl; have hfz29_0 := blk_frozen BK169.out 0; have hfz29_1 := blk_frozen BK169.out 1; have hfz29_2 := blk_frozen BK169.out 2; have hfz29_3 := blk_frozen BK169.out 3; obtain ⟨Ao30, co30, eo30⟩ := Kd.R_slice HO184.out; subst eo30) | ((with_reducible refine gate_callee (f := 23) rfl ?_); refine goesL_ (some 52) rfl rfl Tryd.func23 (by kernel_rfl) rfl #[.slice Ao30 t181.length co30, .int .i64 a0_3] rfl (by (try simp only [List.map_toArray, List.map_cons, List.map_nil]); first | done | rfl | (simp only [List.length_drop, List.length_take]; rfl)) ?_; (with_reducible refine (racewayref01_Num.calls kj1 _ _ t181 a0_3 t185 t186 _ ?side1 ?side2 A18.out).mono ?_); (case side1 => repeat (first | exact (Kd.R_reads' HO184.out).2.2 | (with_reducible refine Kd.C_alloc ?_ _) | (with_reducible refine Kd.C_drewN ?_ _) | (with_reducible refine Kd.C_drew ?_))); (case side2 => exact (Kd.R_reads' HO184.out).2.1); rintro e w31 ⟨v187, rfl, ho0, hb⟩; refine ⟨_, rfl, ?_⟩; have n0_ := Aside0.mk (Kd.R_elder' (by (with_reducible repeat (first | apply Kd.R_alloc | apply Kd.R_drewN | apply Kd.R_drew)); exact HO176.out) (Kd.R_base ho0) hb); have n1_ := Aside0.mk (Kd.R_elder' (by (with_reducible repeat (first | apply Kd.R_alloc | apply Kd.R_drewN | apply Kd.R_drew)); exact HO180.out) (Kd.R_base ho0) hb); have n2_ := Aside0.mk (Kd.R_elder' (by (with_reducible repeat (first | apply Kd.R_alloc | apply Kd.R_drewN | apply Kd.R_drew)); exact HO184.out) (Kd.R_base ho0) hb); have n3_ := Aside0.mk (Kd.R_lower (Kd.R_new' (Kd.R_new' (Kd.R_new' ho0 (Kd.R_lt (by (with_reducible repeat (first | apply Kd.R_alloc | apply Kd.R_drewN | apply Kd.R_drew)); exact HO176.out))) (Kd.R_lt (by (with_reducible repeat (first | apply Kd.R_alloc | apply Kd.R_drewN | apply Kd.R_drew)); exact HO180.out))) (Kd.R_lt (by (with_reducible repeat (first | apply Kd.R_alloc | apply Kd.R_drewN | apply Kd.R_drew)); exact HO184.out))) (below_size (by repeat (first | (with_reducible first | exact HB.out | apply below_alloc | apply pw_below_drewN | apply below_drew1 | refine below_set ?_ GE169.out) | exact HB.out)))); have n4_ := Aside0.mk (blk_below (g := gb169) (o := .cells #[.int .i64 a0_0, .string a0_1, .int .i64 a0_2, .int .i64 a0_3] 23 (0, 0)) (by (with_reducible repeat (first | refine blk_drewN ?_ _ | refine blk_drew ?_ | refine blk_alloc ?_ _)); exact BK169.out) hb); have n5_ := Aside0.mk (below_step (by repeat (first | (with_reducible first | exact HB.out | apply below_alloc | apply pw_below_drewN | apply below_drew1 | refine below_set ?_ GE169.out) | exact HB.out)) hb); clear HO176; clear HO180; clear HO184; clear BK169; clear HB; have HO176 := n0_; have HO180 := n1_; have HO184 := n2_; have HO188 := n3_; have BK169 := n4_; have HB := n5_; clear n0_ n1_ n2_ n3_ n4_ n5_; (try clear hb); (try clear hb2); (try clear hk); (try clear hi); (try clear ho0); obtain ⟨Ao32, co32, eo32⟩ := Kd.R_slice HO188.out; subst eo32) | ((with_reducible refine gate_callee (f := 25) rfl ?_); refine goesL_ (some 57) rfl rfl Tryd.func25 (by kernel_rfl) rfl #[.slice Ao32 t185.length co32] rfl (by (try simp only [List.map_toArray, List.map_cons, List.map_nil]); first | done | rfl | (simp only [List.length_drop, List.length_take]; rfl)) ?_; (with_reducible refine (racewayref02_Frame.calls kj1 _ _ t185 t189 t190 _ ?side1 ?side2 A19.out).mono ?_); (case side1 => repeat (first | exact (Kd.R_reads' HO188.out).2.2 | (with_reducible refine Kd.C_alloc ?_ _) | (with_reducible refine Kd.C_drewN ?_ _) | (with_reducible refine Kd.C_drew ?_))); (case side2 => exact (Kd.R_reads' HO188.out).2.1); rintro e w33 ⟨v191, rfl, ho0, hb⟩; refine ⟨_, rfl, ?_⟩; have n0_ := Aside0.mk (Kd.R_elder' (by (with_reducible repeat (first | apply Kd.R_alloc | apply Kd.R_drewN | apply Kd.R_drew)); exact HO176.out) (Kd.R_base ho0) hb); have n1_ := Aside0.mk (Kd.R_elder' (by (with_reducible repeat (first | apply Kd.R_alloc | apply Kd.R_drewN | apply Kd.R_drew)); exact HO180.out) (Kd.R_base ho0) hb); have n2_ := Aside0.mk (Kd.R_elder' (by (with_reducible repeat (first | apply Kd.R_alloc | apply Kd.R_drewN | apply Kd.R_drew)); exact HO184.out) (Kd.R_base ho0) hb); have n3_ := Aside0.mk (Kd.R_elder' (by (with_reducible repeat (first | apply Kd.R_alloc | apply Kd.R_drewN | apply Kd.R_drew)); exact HO188.out) (Kd.R_base ho0) hb); have n4_ := Aside0.mk (Kd.R_lower (Kd.R_new' (Kd.R_new' (Kd.R_new' (Kd.R_new' ho0 (Kd.R_lt (by (with_reducible repeat (first | apply Kd.R_alloc | apply Kd.R_drewN | apply Kd.R_drew)); exact HO176.out))) (Kd.R_lt (by (with_reducible repeat (first | apply Kd.R_alloc | apply Kd.R_drewN | apply Kd.R_drew)); exact HO180.out))) (Kd.R_lt (by (with_reducible repeat (first | apply Kd.R_alloc | apply Kd.R_drewN | apply Kd.R_drew)); exact HO184.out))) (Kd.R_lt (by (with_reducible repeat (first | apply Kd.R_alloc | apply Kd.R_drewN | apply Kd.R_drew)); exact HO188.out))) (below_size (by repeat (first | (with_reducible first | exact HB.out | apply below_alloc | apply pw_below_drewN | apply below_drew1 | refine below_set ?_ GE169.out) | exact HB.out)))); have n5_ := Aside0.mk (blk_below (g := gb169) (o := .cells #[.int .i64 a0_0, .string a0_1, .int .i64 a0_2, .int .i64 a0_3] 23 (0, 0)) (by (with_reducible repeat (first | refine blk_drewN ?_ _ | refine blk_drew ?_ | refine blk_alloc ?_ _)); exact BK169.out) hb); have n6_ := Aside0.mk (below_step (by repeat (first | (with_reducible first | exact HB.out | apply below_alloc | apply pw_below_drewN | apply below_drew1 | refine below_set ?_ GE169.out) | exact HB.out)) hb); clear HO176; clear HO180; clear HO184; clear HO188; clear BK169; clear HB; have HO176 := n0_; have HO180 := n1_; have HO184 := n2_; have HO188 := n3_; have HO192 := n4_; have BK169 := n5_; have HB := n6_; clear n0_ n1_ n2_ n3_ n4_ n5_ n6_; (try clear hb); (try clear hb2); (try clear hk); (try clear hi); (try clear ho0); obtain ⟨Ao34, co34, eo34⟩ := Kd.R_slice HO192.out; subst eo34) | ((with_reducible refine gate_callee (f := 26) rfl ?_); refine goesL_ (some 61) rfl rfl Tryd.func26 (by kernel_rfl) rfl #[.slice Ao34 t189.length co34] rfl (by (try simp only [List.map_toArray, List.map_cons, List.map_nil]); first | done | rfl | (simp only [List.length_drop, List.length_take]; rfl)) ?_; (with_reducible refine (racewayref22_Encode.calls kj1 _ _ t189 t193 _ ?side1 ?side2 A20.out).mono ?_); (case side1 => repeat (first | exact (Kd.R_reads' HO192.out).2.2 | (with_reducible refine Kd.C_alloc ?_ _) | (with_reducible refine Kd.C_drewN ?_ _) | (with_reducible refine Kd.C_drew ?_))); (case side2 => exact (Kd.R_reads' HO192.out).2.1); rintro e w35 ⟨rfl, hb⟩; refine ⟨_, rfl, ?_⟩; have n0_ := Aside0.mk (Kd.R_below (by (with_reducible repeat (first | apply Kd.R_alloc | apply Kd.R_drewN | apply Kd.R_drew)); exact HO176.out) hb); have n1_ := Aside0.mk (Kd.R_below (by (with_reducible repeat (first | apply Kd.R_alloc | apply Kd.R_drewN | apply Kd.R_drew)); exact HO180.out) hb); have n2_ := Aside0.mk (Kd.R_below (by (with_reducible repeat (first | apply Kd.R_alloc | apply Kd.R_drewN | apply Kd.R_drew)); exact HO184.out) hb); have n3_ := Aside0.mk (Kd.R_below (by (with_reducible repeat (first | apply Kd.R_alloc | apply Kd.R_drewN | apply Kd.R_drew)); exact HO188.out) hb); have n4_ := Aside0.mk (Kd.R_below (by (with_reducible repeat (first | apply Kd.R_alloc | apply Kd.R_drewN | apply Kd.R_drew)); exact HO192.out) hb); have n5_ := Aside0.mk (blk_below (g := gb169) (o := .cells #[.int .i64 a0_0, .string a0_1, .int .i64 a0_2, .int .i64 a0_3] 23 (0, 0)) (by (with_reducible repeat (first | refine blk_drewN ?_ _ | refine blk_drew ?_ | refine blk_alloc ?_ _)); exact BK169.out) hb); have n6_ := Aside0.mk (below_step (by repeat (first | (with_reducible first | exact HB.out | apply below_alloc | apply pw_below_drewN | apply below_drew1 | refine below_set ?_ GE169.out) | exact HB.out)) hb); clear HO176; clear HO180; clear HO184; clear HO188; clear HO192; clear BK169; clear HB; have HO176 := n0_; have HO180 := n1_; have HO184 := n2_; have HO188 := n3_; have HO192 := n4_; have BK169 := n5_; have HB := n6_; clear n0_ n1_ n2_ n3_ n4_ n5_ n6_; (try clear hb); (try clear hb2); (try clear hk); (try clear hi)))
          go_ret2
          exact ⟨by first | rfl | (simp [errW_none, errW_some] <;> rfl) | (simp [*, errW_none, errW_some] <;> rfl), by repeat (first | (with_reducible first | exact HB.out | apply below_alloc | apply pw_below_drewN | apply below_drew1 | refine below_set ?_ GE169.out) | exact HB.out)⟩

end Go.Proofs.YteajidciahoboaaDoor.P
-- P8
set_option linter.unusedVariables false
set_option linter.unusedSimpArgs false
namespace Go.Proofs.YteajidciahoboaaDoor.H
open Go.RowKit Go.Shelf Go.Proofs.YteajidciahoboaaDoorW.PrintWords Go.Proofs.YteajidciahoboaaDoorW.PrintLast Go.Proofs.YteajidciahoboaaDoorW.PrintMore Go.Proofs.YteajidciahoboaaDoor.M

/-! ### The reference's number and text -/
theorem rnum_loop (n : Nat) : ∀ (xs : List Int), n < 9223372036854775808 → xs.length + (leb n).length < 1000000000 → Ev (fun k => P.racewayref01_Num.l0 k n xs) (xs ++ leb n, 0) := by
  induction n using Nat.strongRecOn with
  | _ n ih =>
    intro xs hn hl
    by_cases h : n < 128
    · rw [leb_small n h] at hl ⊢
      refine Ev.now fun k => ?_
      rw [P.racewayref01_Num.l0, if_neg (by omega), if_pos (by simp at hl; omega), Int.emod_eq_of_lt (by omega) (by omega)]
    · rw [leb_big n h] at hl ⊢
      have := ih (n / 128) (by omega) (xs ++ [((n % 128 + 128 : Nat) : Int)]) (by omega) (by simp at hl ⊢; omega)
      rw [List.append_assoc] at this
      refine Ev.step (fun k => ?_) this
      rw [P.racewayref01_Num.l0, if_pos (by omega), if_pos (by simp at hl; omega), Int.tdiv_eq_ediv_of_nonneg (by omega), Int.tmod_eq_emod_of_nonneg (by omega), w64 (n := (n : Int) / 128) (by omega) (by omega), w64 (by omega) (by omega)]
      congr 1
      congr 2
      omega
theorem leb_len9 (n : Nat) (h : n ≤ 4611686018427387904) : (leb n).length ≤ 10 := leb_len 9 n (by omega)
theorem rnum_ev (xs : List Int) (n : Nat) (hn : n ≤ 4611686018427387904) (hl : xs.length < 100000000) : Ev (fun k => P.racewayref01_Num.f k xs n) (xs ++ leb n, 0) := by
  have hle := leb_len9 n hn
  refine Ev.eq (g := fun k => P.racewayref01_Num.j0 k xs n false) ?_ (fun k => ?_)
  · refine Ev.step (fun k => ?_) (rnum_loop n xs (by omega) (by omega))
    rw [P.racewayref01_Num.j0, if_neg (by decide)]
    simp only [Option.bind_some]
    rw [if_pos (by simp; omega), List.nil_append]
  · unfold P.racewayref01_Num.f
    rw [if_neg (by omega), decide_eq_false (by omega)]
theorem rtext_ev (xs : List Int) (s : ByteArray) (hs : s.size ≤ 4096) (hl : xs.length < 10000000) : Ev (fun k => P.racewayref01_Text.f k xs s) (xs ++ leb s.size ++ bytesOf s, 0) := by
  have hle := leb_len9 s.size (by omega)
  have h1 := rnum_ev xs s.size (by omega) (by omega)
  refine Ev.eq (g := fun k => (P.racewayref01_Num.f k xs (s.size : Int)).bind fun bt136 => (if bt136.1.length + s.size < 140737488355328 then (some ((bt136.1 ++ bytesOf s), (0 : Int))) else none)) (Ev.bind h1 ((Ev.const _).eq fun k => ?_)) (fun k => ?_)
  · simp only
    rw [if_pos (by simp; omega)]
  · unfold P.racewayref01_Text.f
    rw [if_neg (by omega)]

/-! ### The reference's frame -/
theorem rput_ev (xs : List Int) (n : Nat) (hn : n < 4294967296) (hl : xs.length < 10000000) : Ev (fun k => P.racewayref02_put.f k xs n) (xs ++ four n) := by
  have step : ∀ (k : Nat) (ys : List Int) (m i : Nat), i < 4 → m < 4294967296 → ys.length < 20000000 → P.racewayref02_put.l0 (k + 1) ys m i = P.racewayref02_put.l0 k (ys ++ [((m % 256 : Nat) : Int)]) ((m / 256 : Nat) : Int) (i + 1 : Nat) := by
    intro k ys m i hi hm hy
    rw [P.racewayref02_put.l0, if_pos (by omega), if_pos (by omega), Int.tmod_eq_emod_of_nonneg (by omega), Int.tdiv_eq_ediv_of_nonneg (by omega), w64 (by omega) (by omega)]
    congr 1
    · congr 2; omega
    · omega
  have ll : ∀ (l : List Int) (x : Int), (l ++ [x]).length = l.length + 1 := fun l x => by simp
  refine Ev.eq (g := fun k => P.racewayref02_put.l0 k xs n ((0 : Nat) : Int)) ?_ (fun k => rfl)
  refine Ev.step (fun k => step k _ _ _ (by decide) hn (by omega)) ?_
  refine Ev.step (fun k => step k _ _ _ (by decide) (by omega) (by simp only [ll]; omega)) ?_
  refine Ev.step (fun k => step k _ _ _ (by decide) (by omega) (by simp only [ll]; omega)) ?_
  refine Ev.step (fun k => step k _ _ _ (by decide) (by omega) (by simp only [ll]; omega)) ?_
  refine Ev.now fun k => ?_
  rw [P.racewayref02_put.l0, if_neg (by decide)]
  simp only [List.append_assoc, List.cons_append, List.nil_append, four, Option.some.injEq, List.append_cancel_left_eq, List.cons.injEq, and_true]
  refine ⟨trivial, trivial, ?_, ?_⟩ <;> omega

/-- One bit of a byte, as the reference takes it. -/
def refBit (r x i : Nat) : Nat := if (r ^^^ (x / 2 ^ i)) % 2 = 1 then r / 2 ^^^ 3988292384 else r / 2
theorem refBit_step (r x i : Nat) : crcStep (r ^^^ x / 2 ^ i) = refBit r x i ^^^ x / 2 ^ (i + 1) := by
  have d : (r ^^^ x / 2 ^ i) / 2 = r / 2 ^^^ x / 2 ^ i / 2 := Nat.xor_div_two
  have e : x / 2 ^ i / 2 = x / 2 ^ (i + 1) := by rw [Nat.div_div_eq_div_mul, Nat.pow_succ]
  unfold crcStep refBit
  rw [d, e]
  split
  · rw [Nat.xor_assoc, Nat.xor_comm (x / 2 ^ (i + 1)), ← Nat.xor_assoc]
  · rfl
theorem refBit_lt (r x i : Nat) (h : r < 4294967296) : refBit r x i < 4294967296 := by
  unfold refBit
  split
  · exact xor_lt (by omega) (by decide)
  · omega
theorem refByte (r x : Nat) (hx : x < 256) : refBit (refBit (refBit (refBit (refBit (refBit (refBit (refBit r x 0) x 1) x 2) x 3) x 4) x 5) x 6) x 7 = crcByte r x := by
  unfold crcByte crc4
  have e0 : r ^^^ x = r ^^^ x / 2 ^ 0 := by simp
  rw [e0, refBit_step, refBit_step, refBit_step, refBit_step, refBit_step, refBit_step, refBit_step, refBit_step]
  rw [show x / 2 ^ (7 + 1) = 0 from Nat.div_eq_of_lt hx, Nat.xor_zero]
theorem n32_and1 (a : Nat) (ha : a < 4294967296) : Go.bits .and .u32 a 1 = ((a % 2 : Nat) : Int) := by
  have := n32_and a 1 ha (by decide)
  rw [show ((1 : Nat) : Int) = 1 from rfl] at this
  rw [this, show (1 : Nat) = 2 ^ 1 - 1 from rfl, Nat.and_two_pow_sub_one_eq_mod]
theorem rsum_bit (k : Nat) (xs : List Int) (r x i j : Nat) (hr : r < 4294967296) (hi : i < 8) (hj : j < xs.length) (hl : xs.length < 1000000000) (hx : rd xs j = x) (hx2 : x < 256) :
    P.racewayref02_Sum.l1 (k + 1) xs r j i = P.racewayref02_Sum.l1 k xs (refBit r x i : Nat) j (i + 1 : Nat) := by
  have hq : x / 2 ^ i < 256 := Nat.lt_of_le_of_lt (Nat.div_le_self _ _) hx2
  have hsh : shr .u32 ((x : Int) % 4294967296) i = ((x / 2 ^ i : Nat) : Int) := by
    unfold shr
    rw [Int.toNat_natCast, Nat.min_eq_left (by show i ≤ 32; omega), Int.emod_eq_of_lt (by omega) (by omega)]
    push_cast
    rfl
  have hxor : Go.bits .xor .u32 (r : Int) ((x / 2 ^ i : Nat) : Int) = ((r ^^^ x / 2 ^ i : Nat) : Int) := n32_xor _ _ hr (by omega)
  rw [P.racewayref02_Sum.l1, if_pos (by omega), if_pos (by omega), if_pos (by omega), if_pos (by omega), hx, hsh, hxor, n32_and1 _ (xor_lt hr (by omega)), w64 (by omega) (by omega)]
  unfold refBit
  by_cases h : (r ^^^ x / 2 ^ i) % 2 = 1
  · rw [if_pos (by omega), if_pos h, show (r : Int) / 2 = ((r / 2 : Nat) : Int) by omega, show (3988292384 : Int) = ((3988292384 : Nat) : Int) from rfl, n32_xor _ _ (by omega) (by decide)]
    rfl
  · rw [if_neg (by omega), if_neg h, show (r : Int) / 2 = ((r / 2 : Nat) : Int) by omega]
    rfl
theorem rsum_loop (xs : List Int) (hb : isBytes xs) (hl : xs.length < 100000000) : ∀ (d i r : Nat), i + d = xs.length → r < 4294967296 →
    Ev (fun k => P.racewayref02_Sum.l0 k xs r i) ((crcFold r (nats (xs.drop i)) ^^^ 4294967295 : Nat) : Int) := by
  intro d
  induction d with
  | zero =>
    intro i r hi hr
    rw [List.drop_eq_nil_of_le (by omega)]
    refine Ev.now fun k => ?_
    rw [P.racewayref02_Sum.l0, if_neg (by omega), show (4294967295 : Int) = ((4294967295 : Nat) : Int) from rfl, n32_xor _ _ hr (by decide)]
    rfl
  | succ d ih =>
    intro i r hi hr
    have hlt : i < xs.length := by omega
    rw [List.drop_eq_getElem_cons hlt]
    have hxb := hb xs[i] (List.getElem_mem hlt)
    obtain ⟨x, hxe⟩ : ∃ x : Nat, xs[i] = (x : Int) := ⟨xs[i].toNat, by omega⟩
    have hx : rd xs i = (x : Int) := by unfold rd; rw [Int.toNat_natCast, List.getD_eq_getElem?_getD, List.getElem?_eq_getElem hlt]; exact hxe
    have hx2 : x < 256 := by omega
    have B := fun r' (hr' : r' < 4294967296) i' (hi' : i' < 8) k => rsum_bit k xs r' x i' i hr' hi' hlt (by omega) hx hx2
    have l1 := refBit_lt r x 0 hr
    have l2 := refBit_lt _ x 1 l1
    have l3 := refBit_lt _ x 2 l2
    have l4 := refBit_lt _ x 3 l3
    have l5 := refBit_lt _ x 4 l4
    have l6 := refBit_lt _ x 5 l5
    have l7 := refBit_lt _ x 6 l6
    have l8 := refBit_lt _ x 7 l7
    refine Ev.step (g := fun k => P.racewayref02_Sum.l1 k xs r i ((0 : Nat) : Int)) (fun k => by rw [P.racewayref02_Sum.l0, if_pos (by omega)]; rfl) ?_
    refine Ev.step (fun k => B _ hr 0 (by decide) k) ?_
    refine Ev.step (fun k => B _ l1 1 (by decide) k) ?_
    refine Ev.step (fun k => B _ l2 2 (by decide) k) ?_
    refine Ev.step (fun k => B _ l3 3 (by decide) k) ?_
    refine Ev.step (fun k => B _ l4 4 (by decide) k) ?_
    refine Ev.step (fun k => B _ l5 5 (by decide) k) ?_
    refine Ev.step (fun k => B _ l6 6 (by decide) k) ?_
    refine Ev.step (fun k => B _ l7 7 (by decide) k) ?_
    rw [refByte r x hx2] at l8 ⊢
    have := ih (i + 1) (crcByte r x) (by omega) l8
    rw [show crcFold r (nats (xs[i] :: xs.drop (i + 1))) = crcFold (crcByte r x) (nats (xs.drop (i + 1))) by rw [hxe]; rfl]
    refine Ev.step (fun k => ?_) this
    rw [P.racewayref02_Sum.l1, if_neg (by decide), w64 (by omega) (by omega)]
    rfl
theorem rsum_ev (xs : List Int) (hb : isBytes xs) (hl : xs.length < 100000000) : Ev (fun k => P.racewayref02_Sum.f k xs) (crcSum (nats xs) : Nat) := by
  have := rsum_loop xs hb hl xs.length 0 4294967295 (by omega) (by decide)
  rw [List.drop_zero] at this
  exact this
theorem rframe_ev (xs : List Int) (hb : isBytes xs) (hl : xs.length ≤ 65536) : Ev (fun k => P.racewayref02_Frame.f k xs) (frame xs, 0) := by
  have s4 := crcSum_lt _ (isBytes.nats (four_bytes xs.length))
  have sx := crcSum_lt _ (isBytes.nats hb)
  have hfl : ∀ n, (four n).length = 4 := fun n => rfl
  refine Ev.eq (g := fun k => (P.racewayref02_put.f k ([] : List Int) (((xs.length : Int)) % 4294967296)).bind fun t147 => ((P.racewayref02_Sum.f k t147).bind fun t150 => ((P.racewayref02_put.f k t147 t150).bind fun t151 => ((P.racewayref02_Sum.f k xs).bind fun t154 => ((P.racewayref02_put.f k t151 t154).bind fun t155 => (if t155.length + xs.length < 140737488355328 then (some ((t155 ++ xs), (0 : Int))) else (none))))))) ?_ (fun k => ?_)
  · rw [Int.emod_eq_of_lt (by omega) (by omega)]
    refine Ev.bind (rput_ev [] xs.length (by omega) (by simp)) ?_
    rw [List.nil_append]
    refine Ev.bind (rsum_ev _ (four_bytes _) (by rw [hfl]; omega)) ?_
    refine Ev.bind (rput_ev _ _ s4 (by rw [hfl]; omega)) ?_
    refine Ev.bind (rsum_ev xs hb (by omega)) ?_
    refine Ev.bind (rput_ev _ _ sx (by rw [List.length_append, hfl, hfl]; omega)) ((Ev.const _).eq fun k => ?_)
    rw [if_pos (by simp only [List.length_append, hfl]; omega)]
    unfold frame
    simp only [List.append_assoc]
  · unfold P.racewayref02_Frame.f
    rw [if_neg (by omega)]
end Go.Proofs.YteajidciahoboaaDoor.H
-- P9
set_option linter.unusedVariables false
set_option linter.unusedSimpArgs false
namespace Go.Proofs.YteajidciahoboaaDoor.H
open Go.RowKit Go.Shelf Go.Proofs.YteajidciahoboaaDoorW.PrintWords Go.Proofs.YteajidciahoboaaDoorW.PrintLast Go.Proofs.YteajidciahoboaaDoorW.PrintMore Go.Proofs.YteajidciahoboaaDoor.M

/-- A receipt. -/
structure Rc where
  q : Int
  g : ByteArray
  s : Int
  c : Int
def inRange (n : Int) : Bool := decide (0 ≤ n) && decide (n ≤ 1099511627776)
def Rc.fine (r : Rc) : Prop := (0 ≤ r.q ∧ r.q ≤ 1099511627776) ∧ (0 ≤ r.s ∧ r.s ≤ 1099511627776) ∧ (0 ≤ r.c ∧ r.c ≤ 1099511627776) ∧ r.g.size ≤ 32
def Rc.body (r : Rc) : List Int := leb r.q.toNat ++ leb r.g.size ++ bytesOf r.g ++ leb r.s.toNat ++ leb r.c.toNat
/-- What stands for a receipt. -/
def handleOf (r : Rc) : ByteArray × Int :=
  if (0 ≤ r.q ∧ r.q ≤ 1099511627776) ∧ (0 ≤ r.s ∧ r.s ≤ 1099511627776) ∧ (0 ≤ r.c ∧ r.c ≤ 1099511627776) then
    if r.g.size ≤ 32 then (strOfNums (encode (frame r.body)), 0) else (⟨#[]⟩, 3)
  else (⟨#[]⟩, 2)
theorem rnum_in (n : Int) : P.racewayref27_num.f n = some (inRange n) := by
  unfold P.racewayref27_num.f inRange
  by_cases h : n ≥ 0
  · rw [if_pos h, decide_eq_true h, Bool.true_and]
  · rw [if_neg h, decide_eq_false h, Bool.false_and]
theorem inRange_iff (n : Int) : inRange n = true ↔ 0 ≤ n ∧ n ≤ 1099511627776 := by simp [inRange]
theorem body_bytes (r : Rc) : isBytes r.body := isBytes_append (isBytes_append (isBytes_append (isBytes_append (leb_bytes _) (leb_bytes _)) (bytesOf_bytes _)) (leb_bytes _)) (leb_bytes _)
theorem frame_bytes {xs : List Int} (h : isBytes xs) : isBytes (frame xs) := isBytes_append (four_bytes _) (isBytes_append (four_bytes _) (isBytes_append (four_bytes _) h))
theorem frame_len (xs : List Int) : (frame xs).length = xs.length + 12 := by unfold frame; simp only [List.length_append]; show 4 + (4 + (4 + xs.length)) = _; omega
theorem body_len (r : Rc) (h : r.fine) : r.body.length ≤ 72 := by
  obtain ⟨h1, h2, h3, h4⟩ := h
  have a := leb_len9 r.q.toNat (by omega)
  have b := leb_len9 r.g.size (by omega)
  have c := leb_len9 r.s.toNat (by omega)
  have d := leb_len9 r.c.toNat (by omega)
  unfold Rc.body
  simp only [List.length_append, bytesOf_length]
  omega
theorem rhandle_ev (r : Rc) : Ev (fun k => P.racewayref27_Handle.f k r.q r.g r.s r.c) (handleOf r) := by
  have bad : Ev (fun k => P.racewayref27_Handle.j0 k true r.q r.g r.s r.c) (⟨#[]⟩, 2) := Ev.now fun k => by rw [P.racewayref27_Handle.j0, if_pos rfl]
  unfold handleOf
  by_cases h1 : 0 ≤ r.q ∧ r.q ≤ 1099511627776
  case neg =>
    rw [if_neg (fun h => h1 h.1)]
    refine bad.eq fun k => ?_
    unfold P.racewayref27_Handle.f
    rw [rnum_in]
    simp only [Option.bind_some]
    rw [if_neg (fun h => h1 ((inRange_iff _).1 h))]
  by_cases h2 : 0 ≤ r.s ∧ r.s ≤ 1099511627776
  case neg =>
    rw [if_neg (fun h => h2 h.2.1)]
    refine bad.eq fun k => ?_
    unfold P.racewayref27_Handle.f
    rw [rnum_in]
    simp only [Option.bind_some]
    rw [if_pos ((inRange_iff _).2 h1), rnum_in]
    simp only [Option.bind_some]
    rw [if_neg (fun h => h2 ((inRange_iff _).1 h))]
  have start : ∀ x, Ev (fun k => P.racewayref27_Handle.j0 k (!(inRange r.c)) r.q r.g r.s r.c) x → Ev (fun k => P.racewayref27_Handle.f k r.q r.g r.s r.c) x := fun x h => h.eq fun k => by
    unfold P.racewayref27_Handle.f
    rw [rnum_in]
    simp only [Option.bind_some]
    rw [if_pos ((inRange_iff _).2 h1), rnum_in]
    simp only [Option.bind_some]
    rw [if_pos ((inRange_iff _).2 h2), rnum_in]
    simp only [Option.bind_some]
  by_cases h3 : 0 ≤ r.c ∧ r.c ≤ 1099511627776
  case neg =>
    rw [if_neg (fun h => h3 h.2.2)]
    refine start _ (bad.eq fun k => ?_)
    rw [show inRange r.c = false from Bool.eq_false_iff.2 (fun h => h3 ((inRange_iff _).1 h))]
    rfl
  rw [if_pos ⟨h1, h2, h3⟩]
  refine start _ ?_
  rw [(inRange_iff _).2 h3]
  by_cases h4 : r.g.size ≤ 32
  case neg =>
    rw [if_neg h4]
    refine Ev.now fun k => ?_
    rw [P.racewayref27_Handle.j0, if_neg (by decide), if_pos (by omega)]
  rw [if_pos h4]
  have hb := body_bytes r
  have hl := body_len r ⟨h1, h2, h3, h4⟩
  have eq1 : ∀ n : Int, 0 ≤ n → ((n.toNat : Nat) : Int) = n := fun n h => by omega
  have n1 := rnum_ev [] r.q.toNat (by omega) (by simp)
  rw [eq1 _ h1.1, List.nil_append] at n1
  have la := leb_len9 r.q.toNat (by omega)
  have lb := leb_len9 r.g.size (by omega)
  have lc := leb_len9 r.s.toNat (by omega)
  have n2 := rtext_ev (leb r.q.toNat) r.g (by omega) (by omega)
  have n3 := rnum_ev (leb r.q.toNat ++ leb r.g.size ++ bytesOf r.g) r.s.toNat (by omega) (by simp only [List.length_append, bytesOf_length]; omega)
  rw [eq1 _ h2.1] at n3
  have n4 := rnum_ev (leb r.q.toNat ++ leb r.g.size ++ bytesOf r.g ++ leb r.s.toNat) r.c.toNat (by omega) (by simp only [List.length_append, bytesOf_length]; omega)
  rw [eq1 _ h3.1] at n4
  have n5 := rframe_ev r.body hb (by omega)
  have n6 := enc_ev (frame r.body) (frame_bytes hb) (by rw [frame_len]; omega)
  refine Ev.step (g := fun k => (P.racewayref01_Num.f k ([] : List Int) r.q).bind fun bt173 => ((P.racewayref01_Text.f k bt173.1 r.g).bind fun bt177 => ((P.racewayref01_Num.f k bt177.1 r.s).bind fun bt181 => ((P.racewayref01_Num.f k bt181.1 r.c).bind fun bt185 => ((P.racewayref02_Frame.f k bt185.1).bind fun bt189 => ((P.racewayref22_Encode.f k bt189.1).bind fun t193 => (some (t193, (0 : Int)))))))))  (fun k => ?_) ?_
  · rw [P.racewayref27_Handle.j0, if_neg (by decide), if_neg (by omega)]
  refine Ev.bind n1 (Ev.bind n2 (Ev.bind n3 (Ev.bind n4 (Ev.bind n5 (Ev.bind n6 (Ev.const _))))))
end Go.Proofs.YteajidciahoboaaDoor.H
-- H6
set_option linter.unusedVariables false
set_option linter.unusedSimpArgs false
namespace Go.Proofs.YteajidciahoboaaDoor.H
open Go.RowKit Go.Shelf Go.Proofs.YteajidciahoboaaDoorW.PrintWords Go.Proofs.YteajidciahoboaaDoorW.PrintLast Go.Proofs.YteajidciahoboaaDoorW.PrintMore Go.Proofs.YteajidciahoboaaDoor.M

theorem own_some {W : World} {B : Nat} {ok : Nat → Prop} {v : Value} {xs : List Int} (h : Kd.R (Kd.int .u8) 5 W B ok v xs) (hne : xs ≠ []) :
    ∃ a c, v = .slice (some a) xs.length c ∧ xs.length ≤ c ∧ Kd.C (Kd.int .u8) W (some a) xs.length xs := by
  obtain ⟨A, c, rfl, hl, hr⟩ := Kd.R_reads h
  obtain ⟨ad, hA, _⟩ := hr.2.2 (List.length_pos_iff.2 hne)
  subst hA
  exact ⟨ad, c, rfl, hl, hr⟩
/-- A receipt, as the program holds it. -/
def Rc.enc (r : Rc) : Value := .agg #[.int .i64 r.q, .string r.g, .int .i64 r.s, .int .i64 r.c]
def okNum (y : Int) : Prop := 0 ≤ y ∧ y ≤ 1099511627776

set_option maxHeartbeats 8000000 in
set_option maxRecDepth 100000 in
/-- ticket.Handle. -/
theorem handle_any (r : Rc) (w : World) (hT : HalfAt w) :
    Calls Tryd.prog 7 #[r.enc] w fun e w' => e = .returned (.tuple #[.string (handleOf r).1, .int .i64 (handleOf r).2]) ∧ Below w.heap.size w w' := by
  have HT := Aside0.mk hT
  clear hT
  obtain ⟨q, g, s, c⟩ := r
  unfold Rc.enc
  obtain ⟨res, hres⟩ : ∃ res, handleOf ⟨q, g, s, c⟩ = res := ⟨_, rfl⟩
  rw [hres]
  have HRES := Aside0.mk hres
  clear hres
  go_enter Tryd.func7, Tryd.ntmps7
  go_wp2
  go_loop [18] (fun i => ∃ k : Nat, k ≤ 3 ∧ i = .int .i64 k ∧ Aside0 ((1 ≤ k → okNum q) ∧ (2 ≤ k → okNum s) ∧ (3 ≤ k → okNum c))) (fun i => 3 - (intOf i).toNat)
  case atStart => exact ⟨0, by decide, rfl, ⟨fun h => by omega, fun h => by omega, fun h => by omega⟩⟩
  case round =>
    obtain ⟨k, hk, rfl, HK⟩ := hrel
    have hk' : k = 0 ∨ k = 1 ∨ k = 2 ∨ k = 3 := by omega
    rcases hk' with rfl | rfl | rfl | rfl
    · by_cases h0 : q < 0
      · go_wp2
        go_ret2
        exact ⟨by rw [← HRES.out]; unfold handleOf; rw [if_neg (by simp only; omega)]; rfl, below_alloc (below_alloc (Below.refl _ _) _) _⟩
      · by_cases h1 : 1099511627776 < q
        · go_wp2
          go_ret2
          exact ⟨by rw [← HRES.out]; unfold handleOf; rw [if_neg (by simp only; omega)]; rfl, below_alloc (below_alloc (Below.refl _ _) _) _⟩
        · go_wp2
          go_round
          case rel => exact ⟨1, by decide, rfl, ⟨fun _ => ⟨by omega, by omega⟩, fun h => by omega, fun h => by omega⟩⟩
          case measure => simp [intOf]
    · by_cases h0 : s < 0
      · go_wp2
        go_ret2
        exact ⟨by rw [← HRES.out]; unfold handleOf; rw [if_neg (by simp only; omega)]; rfl, below_alloc (below_alloc (Below.refl _ _) _) _⟩
      · by_cases h1 : 1099511627776 < s
        · go_wp2
          go_ret2
          exact ⟨by rw [← HRES.out]; unfold handleOf; rw [if_neg (by simp only; omega)]; rfl, below_alloc (below_alloc (Below.refl _ _) _) _⟩
        · go_wp2
          go_round
          case rel => exact ⟨2, by decide, rfl, ⟨fun _ => HK.out.1 (by decide), fun _ => ⟨by omega, by omega⟩, fun h => by omega⟩⟩
          case measure => simp [intOf]
    · by_cases h0 : c < 0
      · go_wp2
        go_ret2
        exact ⟨by rw [← HRES.out]; unfold handleOf; rw [if_neg (by simp only; omega)]; rfl, below_alloc (below_alloc (Below.refl _ _) _) _⟩
      · by_cases h1 : 1099511627776 < c
        · go_wp2
          go_ret2
          exact ⟨by rw [← HRES.out]; unfold handleOf; rw [if_neg (by simp only; omega)]; rfl, below_alloc (below_alloc (Below.refl _ _) _) _⟩
        · go_wp2
          go_round
          case rel => exact ⟨3, by decide, rfl, ⟨fun _ => HK.out.1 (by decide), fun _ => HK.out.2.1 (by decide), fun _ => ⟨by omega, by omega⟩⟩⟩
          case measure => simp [intOf]
    · have hq := HK.out.1 (by decide)
      have hs := HK.out.2.1 (by decide)
      have hc := HK.out.2.2 (by decide)
      unfold okNum at hq hs hc
      by_cases hg : 32 < g.size
      · have hg' : decide ((32 : Int) < (g.size : Int)) = true := decide_eq_true (by omega)
        go_wp2
        go_ret2
        exact ⟨by rw [← HRES.out]; unfold handleOf; rw [if_pos ⟨hq, hs, hc⟩, if_neg (by simp only; omega)]; rfl, below_alloc (below_alloc (Below.refl _ _) _) _⟩
      · have hg' : decide ((32 : Int) < (g.size : Int)) = false := decide_eq_false (by omega)
        obtain ⟨nq, rfl⟩ : ∃ n : Nat, q = (n : Int) := ⟨q.toNat, by omega⟩
        obtain ⟨ns, rfl⟩ : ∃ n : Nat, s = (n : Int) := ⟨s.toNat, by omega⟩
        obtain ⟨nc, rfl⟩ : ∃ n : Nat, c = (n : Int) := ⟨c.toNat, by omega⟩
        have HL1 := Aside0.mk (leb_len9 nq (by omega))
        have HL2 := Aside0.mk (leb_len9 g.size (by omega))
        have HL3 := Aside0.mk (leb_len9 ns (by omega))
        have HL4 := Aside0.mk (leb_len9 nc (by omega))
        have HQ := Aside0.mk hq
        have HS := Aside0.mk hs
        have HC := Aside0.mk hc
        have HG := Aside0.mk hg
        clear hq hs hc hg
        have hk0 : ((w.alloc (.cells #[.int .i64 nq, .string g, .int .i64 ns, .int .i64 nc] 23)).alloc (.cells #[.int .i64 nq, .int .i64 ns, .int .i64 nc] 3)).heap[w.heap.size]? = some (.cells #[.int .i64 nq, .string g, .int .i64 ns, .int .i64 nc] 23 (0, 0)) := (heap_old _ _ _ (by simp)).trans (heap_new _ _)
        go_wp2_with (
          go_at_call 18
          refine (num_nil nq _ (by have := HQ.out; omega)).mono ?_
          rintro e w1 ⟨v1, rfl, ho1, hb1⟩
          have hk1 : w1.heap[w.heap.size]? = some (.cells #[.int .i64 nq, .string g, .int .i64 ns, .int .i64 nc] 23 (0, 0)) := (hb1.block _ (by simp; omega)).trans hk0
          have d11 : w1.cell? ⟨w.heap.size, 1, none⟩ = some (.string g) := by rw [Lib.cell_of_heap hk1]; rfl
          have d12 : w1.cell? ⟨w.heap.size, 2, none⟩ = some (.int .i64 ns) := by rw [Lib.cell_of_heap hk1]; rfl
          have d13 : w1.cell? ⟨w.heap.size, 3, none⟩ = some (.int .i64 nc) := by rw [Lib.cell_of_heap hk1]; rfl
          obtain ⟨y1, hy1⟩ : ∃ y, leb nq = y := ⟨_, rfl⟩
          rw [hy1] at ho1
          obtain ⟨a1, c1, rfl, hc1, hr1⟩ := own_some ho1 (by rw [← hy1]; exact leb_ne nq)
          have HY1 := Aside0.mk hy1
          have HC1 := Aside0.mk hc1
          have HR1 := Aside0.mk hr1
          have HB1 := Aside0.mk (below_step (below_alloc (below_alloc (Below.refl _ _) _) _) hb1)
          have HLEN1 : Aside0 (y1.length ≤ 100 * 1) := ⟨by rw [← hy1]; (try simp only [List.length_append, bytesOf_length]); have := HL1.out; have := HL2.out; have := HL3.out; have := HL4.out; have := HG.out; omega⟩
          clear hy1 hc1 hr1 hb1 ho1)
        go_wp2_with (
          go_at_call 19
          refine (text_some a1 c1 y1 g w1 HR1.out HC1.out (by have := HLEN1.out; omega) (by have := HG.out; omega)).mono ?_
          rintro e w2 ⟨v2, rfl, ho2, hb2⟩
          have hk2 : w2.heap[w.heap.size]? = some (.cells #[.int .i64 nq, .string g, .int .i64 ns, .int .i64 nc] 23 (0, 0)) := (hb2.block _ (cells_lt hk1)).trans hk1
          have d21 : w2.cell? ⟨w.heap.size, 1, none⟩ = some (.string g) := by rw [Lib.cell_of_heap hk2]; rfl
          have d22 : w2.cell? ⟨w.heap.size, 2, none⟩ = some (.int .i64 ns) := by rw [Lib.cell_of_heap hk2]; rfl
          have d23 : w2.cell? ⟨w.heap.size, 3, none⟩ = some (.int .i64 nc) := by rw [Lib.cell_of_heap hk2]; rfl
          obtain ⟨y2, hy2⟩ : ∃ y, y1 ++ leb g.size ++ bytesOf g = y := ⟨_, rfl⟩
          rw [hy2] at ho2
          obtain ⟨a2, c2, rfl, hc2, hr2⟩ := own_some ho2 (by rw [← hy2]; simp [leb_ne])
          have HY2 := Aside0.mk hy2
          have HC2 := Aside0.mk hc2
          have HR2 := Aside0.mk hr2
          have HB2 := Aside0.mk (below_step HB1.out hb2)
          have HLEN2 : Aside0 (y2.length ≤ 100 * 2) := ⟨by rw [← hy2]; (try simp only [List.length_append, bytesOf_length]); have := HL1.out; have := HL2.out; have := HL3.out; have := HL4.out; have := HG.out; have := HLEN1.out; omega⟩
          clear hy2 hc2 hr2 hb2 ho2)
        go_wp2_with (first
          | (
              go_at_call 18
              refine (num_some a3 c3 y3 nc w3 HR3.out HC3.out (by have := HLEN3.out; omega) (by have := HC.out; omega)).mono ?_
              rintro e w4 ⟨v4, rfl, ho4, hb4⟩
              have hk4 : w4.heap[w.heap.size]? = some (.cells #[.int .i64 nq, .string g, .int .i64 ns, .int .i64 nc] 23 (0, 0)) := (hb4.block _ (cells_lt hk3)).trans hk3
              have d41 : w4.cell? ⟨w.heap.size, 1, none⟩ = some (.string g) := by rw [Lib.cell_of_heap hk4]; rfl
              have d42 : w4.cell? ⟨w.heap.size, 2, none⟩ = some (.int .i64 ns) := by rw [Lib.cell_of_heap hk4]; rfl
              have d43 : w4.cell? ⟨w.heap.size, 3, none⟩ = some (.int .i64 nc) := by rw [Lib.cell_of_heap hk4]; rfl
              obtain ⟨y4, hy4⟩ : ∃ y, y3 ++ leb nc = y := ⟨_, rfl⟩
              rw [hy4] at ho4
              obtain ⟨a4, c4, rfl, hc4, hr4⟩ := own_some ho4 (by rw [← hy4]; simp [leb_ne])
              have HY4 := Aside0.mk hy4
              have HC4 := Aside0.mk hc4
              have HR4 := Aside0.mk hr4
              have HB4 := Aside0.mk (below_step HB3.out hb4)
              have HLEN4 : Aside0 (y4.length ≤ 100 * 4) := ⟨by rw [← hy4]; (try simp only [List.length_append, bytesOf_length]); have := HL1.out; have := HL2.out; have := HL3.out; have := HL4.out; have := HG.out; have := HLEN3.out; omega⟩
              clear hy4 hc4 hr4 hb4 ho4)
          | (
              go_at_call 18
              refine (num_some a2 c2 y2 ns w2 HR2.out HC2.out (by have := HLEN2.out; omega) (by have := HS.out; omega)).mono ?_
              rintro e w3 ⟨v3, rfl, ho3, hb3⟩
              have hk3 : w3.heap[w.heap.size]? = some (.cells #[.int .i64 nq, .string g, .int .i64 ns, .int .i64 nc] 23 (0, 0)) := (hb3.block _ (cells_lt hk2)).trans hk2
              have d31 : w3.cell? ⟨w.heap.size, 1, none⟩ = some (.string g) := by rw [Lib.cell_of_heap hk3]; rfl
              have d32 : w3.cell? ⟨w.heap.size, 2, none⟩ = some (.int .i64 ns) := by rw [Lib.cell_of_heap hk3]; rfl
              have d33 : w3.cell? ⟨w.heap.size, 3, none⟩ = some (.int .i64 nc) := by rw [Lib.cell_of_heap hk3]; rfl
              obtain ⟨y3, hy3⟩ : ∃ y, y2 ++ leb ns = y := ⟨_, rfl⟩
              rw [hy3] at ho3
              obtain ⟨a3, c3, rfl, hc3, hr3⟩ := own_some ho3 (by rw [← hy3]; simp [leb_ne])
              have HY3 := Aside0.mk hy3
              have HC3 := Aside0.mk hc3
              have HR3 := Aside0.mk hr3
              have HB3 := Aside0.mk (below_step HB2.out hb3)
              have HLEN3 : Aside0 (y3.length ≤ 100 * 3) := ⟨by rw [← hy3]; (try simp only [List.length_append, bytesOf_length]); have := HL1.out; have := HL2.out; have := HL3.out; have := HL4.out; have := HG.out; have := HLEN2.out; omega⟩
              clear hy3 hc3 hr3 hb3 ho3))
        have hbody : y4 = Rc.body ⟨nq, g, ns, nc⟩ := by
          rw [← HY4.out, ← HY3.out, ← HY2.out, ← HY1.out]
          unfold Rc.body
          simp only [Int.toNat_natCast]
        have HBY := Aside0.mk (hbody ▸ body_bytes ⟨nq, g, ns, nc⟩ : isBytes y4)
        have HBO := Aside0.mk hbody
        clear hbody
        go_wp2_with (go_at_call 20; refine (frame_any (some a4) c4 y4 w4 (HT.out.below HB4.out) HR4.out HC4.out HBY.out (by have := HLEN4.out; omega)).mono ?_; rintro e w5 ⟨v5, rfl, ho5, hb5⟩)
        have hfl := frame_len y4
        obtain ⟨y5, hy5⟩ : ∃ y, frame y4 = y := ⟨_, rfl⟩
        rw [hy5] at ho5 hfl
        obtain ⟨a5, c5, rfl, hc5, hr5⟩ := own_some ho5 (by intro h; rw [h] at hfl; simp at hfl)
        have HY5 := Aside0.mk hy5
        have HC5 := Aside0.mk hc5
        have HR5 := Aside0.mk hr5
        have HF5 := Aside0.mk hfl
        have HB5 := Aside0.mk (below_step HB4.out hb5)
        have HBY5 := Aside0.mk (hy5 ▸ frame_bytes HBY.out : isBytes y5)
        clear hy5 hc5 hr5 hb5 ho5 hfl
        go_wp2_with (go_at_call 21; refine (Encode_any (some a5) c5 y5 w5 HR5.out HC5.out HBY5.out (by have := HLEN4.out; have := HF5.out; omega)).mono ?_; rintro e w6 ⟨rfl, hb6⟩)
        have HB6 := Aside0.mk (below_step HB5.out hb6)
        clear hb6
        go_wp2
        go_ret2
        refine ⟨?_, HB6.out⟩
        rw [← HRES.out]
        unfold handleOf
        rw [if_pos ⟨HQ.out, HS.out, HC.out⟩, if_pos (by have := HG.out; simp only; omega), ← HBO.out, HY5.out]
        rfl
end Go.Proofs.YteajidciahoboaaDoor.H
-- H7
set_option linter.unusedVariables false
set_option linter.unusedSimpArgs false
namespace Go.Proofs.YteajidciahoboaaDoor.H
open Go.RowKit Go.Shelf Go.Proofs.YteajidciahoboaaDoorW.PrintWords Go.Proofs.YteajidciahoboaaDoorW.PrintLast Go.Proofs.YteajidciahoboaaDoorW.PrintMore Go.Proofs.YteajidciahoboaaDoor.M
attribute [local go_sem] Oper.semAt_some

/-- b[lo:], of a slice that may be none. -/
theorem cut_any (A : Option Addr) (n c lo : Nat) (h1 : lo ≤ n) (hc : n ≤ c) : ∃ A', (∀ W, (Instr.slice 36 (.slice A n c) (some (.int .i64 lo)) none none).run Tryd.prog W = .ok (.slice A' (n - lo) (c - lo)) W) ∧
    ∀ w xs, Kd.C (Kd.int .u8) w A n xs → Kd.C (Kd.int .u8) w A' (n - lo) (xs.drop lo) := by
  obtain ⟨i, hi0, _, hsz, _⟩ := info_parts P.info5
  refine ⟨if c = lo then A else A.map (·.add (lo * 1)), ?_, ?_⟩
  · intro W
    have := cut_from (P := Tryd.prog) 36 5 .i64 Tryd.underlying36 hi0 1 hsz A n c lo (by omega) (by omega) W
    rw [Int.toNat_natCast] at this
    exact this
  · intro w xs h
    obtain rfl := C_len h
    have := Kd.C_drop (c := c) h h1 hc
    rw [List.length_drop] at this
    exact this

set_option maxHeartbeats 4000000 in
set_option maxRecDepth 100000 in
theorem num_open (w0 W : World) (hB : Below w0.heap.size w0 W) (B1 B2 : Nat) (hne : B1 ≠ B2) (A : Option Addr) (c : Nat) (bs : List Int) (good : Bool) (hp : W.heap[B1]? = some (.cells #[.slice A bs.length c] 36 (0, 0))) (hg : W.heap[B2]? = some (.cells #[.bool good] 4 (0, 0)))
    (hr : Kd.C (Kd.int .u8) w0 A bs.length bs) (hc : bs.length ≤ c) (hx : isBytes bs) (hl : bs.length < 1000000) (x : Int) (k : Nat) (e : Int) (hrn : rn 0 0 bs = (x, (k : Int), e)) (hk : k ≤ bs.length) :
    Calls Tryd.prog 29 #[.pointer (some ⟨B1, 0, none⟩), .pointer (some ⟨B2, 0, none⟩)] W fun en W' => en = .returned (.int .i64 x) ∧ ∃ A' nd, W' = ((W.drewN nd).setCell ⟨B2, 0, none⟩ (.bool (good && decide (e = 0) && decide (x ≤ 1099511627776)))).setCell ⟨B1, 0, none⟩ (.slice A' (bs.length - k) (c - k)) ∧ Kd.C (Kd.int .u8) w0 A' (bs.length - k) (bs.drop k) := by
  obtain ⟨K, hK⟩ := (octet_rn bs hx (by omega)).get
  rw [hrn] at hK
  have N1 := fun W' (h : Below w0.heap.size w0 W') => P.octet_ReadNum.calls K A c bs x k e W' (Kd.C_below hr h) hc hK
  obtain ⟨A', hcut, hrest⟩ := cut_any A bs.length c k hk hc
  have HR := Aside0.mk (hrest w0 bs hr)
  have HB := Aside0.mk hB
  have p0 : W.cell? ⟨B1, 0, none⟩ = some (.slice A bs.length c) := by rw [Lib.cell_of_heap hp]; rfl
  have g0 : W.cell? ⟨B2, 0, none⟩ = some (.bool good) := by rw [Lib.cell_of_heap hg]; rfl
  have fp : W.frozen? ⟨B1, 0, none⟩ = false := Lib.frozen_of_heap hp 0
  have fg : W.frozen? ⟨B2, 0, none⟩ = false := Lib.frozen_of_heap hg 0
  clear hr hrest hB hp hg hK hx hrn
  go_enter Tryd.func29, Tryd.ntmps29
  go_wp2_with (go_at_call 30; refine (N1 _ HB.out).mono ?_; rintro en w1 ⟨rfl, nd, rfl⟩)
  all_goals go_ret
  all_goals refine ⟨rfl, A', nd, ?_, HR.out⟩
  all_goals (congr 3; simp_all)
end Go.Proofs.YteajidciahoboaaDoor.H
-- P10
set_option linter.unusedVariables false
set_option linter.unusedSimpArgs false
namespace Go.Proofs.YteajidciahoboaaDoor.H
open Go.RowKit Go.Shelf Go.Proofs.YteajidciahoboaaDoorW.PrintWords Go.Proofs.YteajidciahoboaaDoorW.PrintLast Go.Proofs.YteajidciahoboaaDoorW.PrintMore Go.Proofs.YteajidciahoboaaDoor.M

theorem leb_pre (m : Nat) : ∀ (m' : Nat) (r r' : List Int), leb m ++ r = leb m' ++ r' → m = m' ∧ r = r' := by
  induction m using Nat.strongRecOn with
  | _ m ih =>
    intro m' r r' h
    by_cases h1 : m < 128
    · by_cases h2 : m' < 128
      · rw [leb_small m h1, leb_small m' h2] at h
        simp only [List.cons_append, List.nil_append, List.cons.injEq] at h
        exact ⟨by omega, h.2⟩
      · rw [leb_small m h1, leb_big m' h2] at h
        simp only [List.cons_append, List.nil_append, List.cons.injEq] at h
        omega
    · by_cases h2 : m' < 128
      · rw [leb_big m h1, leb_small m' h2] at h
        simp only [List.cons_append, List.nil_append, List.cons.injEq] at h
        omega
      · rw [leb_big m h1, leb_big m' h2] at h
        simp only [List.cons_append, List.cons.injEq] at h
        obtain ⟨h3, h4⟩ := ih (m / 128) (by omega) _ _ _ h.2
        exact ⟨by omega, h4⟩
theorem rn_leb (m : Nat) (rest : List Int) (hm : m ≤ 4611686018427387904) (hb : isBytes rest) : rn 0 0 (leb m ++ rest) = ((m : Int), ((leb m).length : Int), 0) := by
  rcases rn_cases (leb m ++ rest) (isBytes_append (leb_bytes m) hb) with ⟨m', r', h1, h2, h3⟩ | ⟨h1, _⟩
  · obtain ⟨rfl, rfl⟩ := leb_pre m m' rest r' h1
    exact h3
  · exact absurd hm (h1 m rest rfl)

/-- A text is read. -/
def rt (b : List Int) : ByteArray × Int × Int :=
  if (rn 0 0 b).2.2 = 0 then
    if (rn 0 0 b).1 > 4096 then (⟨#[]⟩, 0, 3) else if (rn 0 0 b).1 > (b.length : Int) - (rn 0 0 b).2.1 then (⟨#[]⟩, 0, 4) else
      (strOfNums ((b.take ((rn 0 0 b).2.1 + (rn 0 0 b).1).toNat).drop (rn 0 0 b).2.1.toNat), (rn 0 0 b).2.1 + (rn 0 0 b).1, 0)
  else (⟨#[]⟩, 0, (rn 0 0 b).2.2)
theorem rn_range (b : List Int) (hb : isBytes b) : 0 ≤ (rn 0 0 b).1 ∧ (rn 0 0 b).1 ≤ 4611686018427387904 ∧ 0 ≤ (rn 0 0 b).2.1 ∧ (rn 0 0 b).2.1 ≤ (b.length : Int) := by
  rcases rn_cases b hb with ⟨m, rest, h1, h2, h3⟩ | ⟨_, e, _, h⟩
  · rw [h3]
    have := congrArg List.length h1
    simp only [List.length_append] at this
    simp only
    omega
  · rw [h]
    simp only
    omega
theorem octet_rt (b : List Int) (hb : isBytes b) (hl : b.length < 1000000000) : Ev (fun k => P.octet_ReadText.f k b) (rt b) := by
  have hr := rn_range b hb
  unfold P.octet_ReadText.f
  refine Ev.bind (octet_rn b hb hl) ((Ev.const (rt b)).eq fun k => ?_)
  unfold rt
  generalize rn 0 0 b = x at hr ⊢
  obtain ⟨n, k, e⟩ := x
  simp only at hr ⊢
  by_cases c1 : e = 0
  · rw [if_pos c1, if_pos c1]
    by_cases c2 : n > 4096
    · rw [if_pos c2, if_pos c2]
    · rw [if_neg c2, if_neg c2, w64 (n := (b.length : Int) - k) (by omega) (by omega)]
      by_cases c3 : n > (b.length : Int) - k
      · rw [if_pos (by omega), if_pos c3]
      · rw [if_neg (by omega), if_neg c3, w64 (by omega) (by omega), if_pos (by omega), if_pos (by omega), if_pos (by omega)]
  · rw [if_neg c1, if_neg c1]
theorem ref_rt (b : List Int) (hb : isBytes b) (hl : b.length < 1000000000) : Ev (fun k => P.racewayref01_ReadText.f k b) (rt b) := by
  have hr := rn_range b hb
  unfold P.racewayref01_ReadText.f
  refine Ev.bind (ref_rn b hb hl) ((Ev.const (rt b)).eq fun k => ?_)
  unfold rt
  generalize rn 0 0 b = x at hr ⊢
  obtain ⟨n, k, e⟩ := x
  simp only at hr ⊢
  by_cases c1 : e = 0
  · rw [if_pos c1, if_pos c1]
    by_cases c2 : n > 4096
    · rw [if_pos c2, if_pos c2]
    · rw [if_neg c2, if_neg c2, w64 (n := (b.length : Int) - k) (by omega) (by omega)]
      by_cases c3 : n > (b.length : Int) - k
      · rw [if_pos (by omega), if_pos c3]
      · rw [if_neg (by omega), if_neg c3, w64 (by omega) (by omega), if_pos (by omega), if_pos (by omega), if_pos (by omega)]
  · rw [if_neg c1, if_neg c1]
theorem rt_cases (b : List Int) (hb : isBytes b) (hl : b.length < 1000000000) : (∃ g rest, b = leb g.length ++ g ++ rest ∧ g.length ≤ 4096 ∧ rt b = (strOfNums g, (((leb g.length).length + g.length : Nat) : Int), 0)) ∨
    ((∀ g rest, b = leb g.length ++ g ++ rest → ¬ g.length ≤ 4096) ∧ ∃ e, e ≠ 0 ∧ rt b = (⟨#[]⟩, 0, e)) := by
  rcases rn_cases b hb with ⟨m, rest, h1, h2, h3⟩ | ⟨h1, e, he, h2⟩
  · have no : (m > 4096 ∨ m > rest.length) → ∀ g rest', b = leb g.length ++ g ++ rest' → ¬ g.length ≤ 4096 := by
      intro hm g rest' hg hle
      rw [h1, List.append_assoc] at hg
      obtain ⟨rfl, rfl⟩ := leb_pre _ _ _ _ hg
      simp only [List.length_append] at hm
      omega
    have hlen : b.length = (leb m).length + rest.length := by rw [h1, List.length_append]
    unfold rt
    rw [h3]
    simp only [if_true]
    by_cases c1 : m > 4096
    · rw [if_pos (by omega)]
      exact .inr ⟨no (.inl c1), 3, by decide, rfl⟩
    · rw [if_neg (by omega)]
      by_cases c2 : m > rest.length
      · rw [if_pos (by omega)]
        exact .inr ⟨no (.inr c2), 4, by decide, rfl⟩
      · rw [if_neg (by omega)]
        have hg : (rest.take m).length = m := by rw [List.length_take]; omega
        refine .inl ⟨rest.take m, rest.drop m, ?_, by omega, ?_⟩
        · rw [hg, List.append_assoc, List.take_append_drop]; exact h1
        · rw [hg]
          congr 1
          · rw [show (((leb m).length : Int) + (m : Int)).toNat = (leb m).length + m by omega, Int.toNat_natCast, h1, List.take_append, List.take_of_length_le (by omega), Nat.add_sub_cancel_left, List.drop_append_of_le_length (Nat.le_refl _), List.drop_length, List.nil_append]
  · refine .inr ⟨fun g rest h hle => h1 g.length (g ++ rest) (by rw [h, List.append_assoc]) (by omega), e, he, ?_⟩
    unfold rt
    rw [h2]
    simp only [if_neg he]
theorem rt_text (g rest : List Int) (hg : g.length ≤ 4096) (hb : isBytes g) (hr : isBytes rest) (hl : rest.length < 100000000) : rt (leb g.length ++ g ++ rest) = (strOfNums g, (((leb g.length).length + g.length : Nat) : Int), 0) := by
  have hle := leb_len9 g.length (by omega)
  rcases rt_cases (leb g.length ++ g ++ rest) (isBytes_append (isBytes_append (leb_bytes _) hb) hr) (by simp only [List.length_append]; omega) with ⟨g', r', h1, h2, h3⟩ | ⟨h1, _⟩
  · rw [List.append_assoc, List.append_assoc] at h1
    obtain ⟨h4, h5⟩ := leb_pre _ _ _ _ h1
    obtain ⟨rfl, _⟩ := List.append_inj h5 h4
    exact h3
  · exact absurd hg (h1 g rest rfl)
theorem rt_range (b : List Int) (hb : isBytes b) (hl : b.length < 1000000000) : 0 ≤ (rt b).2.1 ∧ (rt b).2.1 ≤ (b.length : Int) := by
  rcases rt_cases b hb hl with ⟨g, rest, h1, h2, h3⟩ | ⟨_, e, _, h⟩
  · rw [h3]
    have := congrArg List.length h1
    simp only [List.length_append] at this
    simp only
    omega
  · rw [h]
    simp only
    omega

/-! ### A whole receipt -/
def rest1 (b : List Int) : List Int := b.drop (rn 0 0 b).2.1.toNat
def rest2 (b : List Int) : List Int := (rest1 b).drop (rt (rest1 b)).2.1.toNat
def rest3 (b : List Int) : List Int := (rest2 b).drop (rn 0 0 (rest2 b)).2.1.toNat
def rest4 (b : List Int) : List Int := (rest3 b).drop (rn 0 0 (rest3 b)).2.1.toNat
def readAs (b : List Int) : Rc := ⟨(rn 0 0 b).1, (rt (rest1 b)).1, (rn 0 0 (rest2 b)).1, (rn 0 0 (rest3 b)).1⟩
/-- What the program asks of the parts. -/
def readsWell (b : List Int) : Prop := (rn 0 0 b).2.2 = 0 ∧ (rn 0 0 b).1 ≤ 1099511627776 ∧ (rt (rest1 b)).2.2 = 0 ∧ (rn 0 0 (rest2 b)).2.2 = 0 ∧ (rn 0 0 (rest2 b)).1 ≤ 1099511627776 ∧
  (rn 0 0 (rest3 b)).2.2 = 0 ∧ (rn 0 0 (rest3 b)).1 ≤ 1099511627776 ∧ rest4 b = [] ∧ (rt (rest1 b)).1.size ≤ 32
theorem drop_app (a b : List Int) : (a ++ b).drop ((a.length : Nat) : Int).toNat = b := by rw [Int.toNat_natCast, List.drop_append_of_le_length (Nat.le_refl _), List.drop_length, List.nil_append]
theorem reads_body (r : Rc) (hf : r.fine) : readsWell r.body ∧ readAs r.body = r := by
  obtain ⟨q, g, s, c⟩ := r
  obtain ⟨hq, hs, hc, hg⟩ := hf
  simp only at hq hs hc hg
  obtain ⟨nq, rfl⟩ : ∃ n : Nat, q = (n : Int) := ⟨q.toNat, by omega⟩
  obtain ⟨ns, rfl⟩ : ∃ n : Nat, s = (n : Int) := ⟨s.toNat, by omega⟩
  obtain ⟨nc, rfl⟩ : ∃ n : Nat, c = (n : Int) := ⟨c.toNat, by omega⟩
  have hbody : Rc.body ⟨nq, g, ns, nc⟩ = leb nq ++ (leb (bytesOf g).length ++ bytesOf g ++ (leb ns ++ (leb nc ++ []))) := by
    unfold Rc.body
    simp only [Int.toNat_natCast, List.append_assoc, List.append_nil, bytesOf_length]
  have bg := bytesOf_bytes g
  have lg := bytesOf_length g
  have l1 := leb_len9 ns (by omega)
  have l2 := leb_len9 nc (by omega)
  have b1 : isBytes (leb nc ++ []) := isBytes_append (leb_bytes _) isBytes_nil
  have b2 : isBytes (leb ns ++ (leb nc ++ [])) := isBytes_append (leb_bytes _) b1
  have b3 : isBytes (leb (bytesOf g).length ++ bytesOf g ++ (leb ns ++ (leb nc ++ []))) := isBytes_append (isBytes_append (leb_bytes _) bg) b2
  have e1 := rn_leb nq _ (by omega) b3
  have e2 := rt_text (bytesOf g) _ (by omega) bg b2 (by simp only [List.length_append, List.length_nil]; omega)
  have e3 := rn_leb ns _ (by omega) b1
  have e4 := rn_leb nc [] (by omega) isBytes_nil
  have r1 : rest1 (Rc.body ⟨nq, g, ns, nc⟩) = leb (bytesOf g).length ++ bytesOf g ++ (leb ns ++ (leb nc ++ [])) := by
    unfold rest1
    rw [hbody, e1]
    exact drop_app _ _
  have r2 : rest2 (Rc.body ⟨nq, g, ns, nc⟩) = leb ns ++ (leb nc ++ []) := by
    unfold rest2
    rw [r1, e2]
    have := drop_app (leb (bytesOf g).length ++ bytesOf g) (leb ns ++ (leb nc ++ []))
    rw [List.length_append] at this
    exact this
  have r3 : rest3 (Rc.body ⟨nq, g, ns, nc⟩) = leb nc ++ [] := by
    unfold rest3
    rw [r2, e3]
    exact drop_app _ _
  have r4 : rest4 (Rc.body ⟨nq, g, ns, nc⟩) = [] := by
    unfold rest4
    rw [r3, e4]
    exact drop_app _ _
  unfold readsWell readAs
  rw [r1, r2, r3, r4, e2, e3, e4, hbody, e1, strOf_bytesOf]
  simp only
  exact ⟨⟨trivial, by omega, trivial, trivial, by omega, trivial, by omega, trivial, hg⟩, trivial⟩
theorem body_reads (b : List Int) (hb : isBytes b) (hl : b.length < 1000000) (h : readsWell b) : (readAs b).fine ∧ b = (readAs b).body := by
  obtain ⟨h1, h2, h3, h4, h5, h6, h7, h8, h9⟩ := h
  have hb1 : isBytes (rest1 b) := isBytes_drop _ hb
  have hb2 : isBytes (rest2 b) := isBytes_drop _ hb1
  have hb3 : isBytes (rest3 b) := isBytes_drop _ hb2
  have hl1 : (rest1 b).length ≤ b.length := by unfold rest1; rw [List.length_drop]; omega
  rcases rn_cases b hb with ⟨m, r1, k1, k2, k3⟩ | ⟨_, e, he, k⟩
  case inr => rw [k] at h1; exact absurd h1 he
  rcases rt_cases (rest1 b) hb1 (by omega) with ⟨g, r2, t1, t2, t3⟩ | ⟨_, e, he, k⟩
  case inr => rw [k] at h3; exact absurd h3 he
  rcases rn_cases (rest2 b) hb2 with ⟨n, r3, n1, n2, n3⟩ | ⟨_, e, he, k⟩
  case inr => rw [k] at h4; exact absurd h4 he
  rcases rn_cases (rest3 b) hb3 with ⟨p, r4, p1, p2, p3⟩ | ⟨_, e, he, k⟩
  case inr => rw [k] at h6; exact absurd h6 he
  have e1 : rest1 b = r1 := by
    unfold rest1
    rw [k3]
    have := drop_app (leb m) r1
    rw [← k1] at this
    exact this
  have e2 : rest2 b = r2 := by
    unfold rest2
    rw [t3]
    have := drop_app (leb g.length ++ g) r2
    rw [List.length_append, ← t1] at this
    exact this
  have e3 : rest3 b = r3 := by
    unfold rest3
    rw [n3]
    have := drop_app (leb n) r3
    rw [← n1] at this
    exact this
  have e4 : rest4 b = r4 := by
    unfold rest4
    rw [p3]
    have := drop_app (leb p) r4
    rw [← p1] at this
    exact this
  have hgb : isBytes g := by rw [t1] at hb1; exact isBytes_right (isBytes_left hb1)
  unfold readAs
  rw [k3, t3, n3, p3]
  rw [k3] at h2
  rw [t3] at h9
  rw [n3] at h5
  rw [p3] at h7
  simp only [strOfNums_size] at h2 h5 h7 h9 ⊢
  refine ⟨⟨⟨by simp only; omega, h2⟩, ⟨by simp only; omega, h5⟩, ⟨by simp only; omega, h7⟩, by simp only [strOfNums_size]; exact h9⟩, ?_⟩
  unfold Rc.body
  simp only [Int.toNat_natCast, strOfNums_size, bytesOf_strOf g hgb]
  rw [k1, ← e1, t1, ← e2, n1, ← e3, p1, ← e4, h8]
  simp only [List.append_assoc, List.append_nil]
end Go.Proofs.YteajidciahoboaaDoor.H
-- H8
set_option linter.unusedVariables false
set_option linter.unusedSimpArgs false
namespace Go.Proofs.YteajidciahoboaaDoor.H
open Go.RowKit Go.Shelf Go.Proofs.YteajidciahoboaaDoorW.PrintWords Go.Proofs.YteajidciahoboaaDoorW.PrintLast Go.Proofs.YteajidciahoboaaDoorW.PrintMore Go.Proofs.YteajidciahoboaaDoor.M
attribute [local go_sem] Oper.semAt_some

def zeroRc : Rc := ⟨0, ⟨#[]⟩, 0, 0⟩
/-- An opened handle's answer. -/
def answer (o : Option Rc) : Value := match o with
  | some r => .tuple #[r.enc, .int .i64 0]
  | none => .tuple #[zeroRc.enc, .int .i64 12]

theorem box4 {W : World} {b : Nat} {x0 x1 x2 x3 : Value} {t : TypeId} (h : W.heap[b]? = some (.cells #[x0, x1, x2, x3] t (0, 0))) :
    W.cell? ⟨b, 0, none⟩ = some x0 ∧ W.cell? ⟨b, 1, none⟩ = some x1 ∧ W.cell? ⟨b, 2, none⟩ = some x2 ∧ W.cell? ⟨b, 3, none⟩ = some x3 ∧
    W.frozen? ⟨b, 0, none⟩ = false ∧ W.frozen? ⟨b, 1, none⟩ = false ∧ W.frozen? ⟨b, 2, none⟩ = false ∧ W.frozen? ⟨b, 3, none⟩ = false := by
  refine ⟨?_, ?_, ?_, ?_, Lib.frozen_of_heap h 0, Lib.frozen_of_heap h 1, Lib.frozen_of_heap h 2, Lib.frozen_of_heap h 3⟩ <;> rw [Lib.cell_of_heap h] <;> rfl

def put4 (W : World) (b : Nat) (y0 y1 y2 y3 : Value) : World := (((W.setCell ⟨b, 0, none⟩ y0).setCell ⟨b, 1, none⟩ y1).setCell ⟨b, 2, none⟩ y2).setCell ⟨b, 3, none⟩ y3
theorem put4_heap {W : World} {b : Nat} {x0 x1 x2 x3 : Value} {t : TypeId} (y0 y1 y2 y3 : Value) (h : W.heap[b]? = some (.cells #[x0, x1, x2, x3] t (0, 0))) : (put4 W b y0 y1 y2 y3).heap[b]? = some (.cells #[y0, y1, y2, y3] t (0, 0)) :=
  blk_set (blk_set (blk_set (blk_set h 0 _) 1 _) 2 _) 3 _
theorem put4_below {W : World} {b B : Nat} {w : World} (y0 y1 y2 y3 : Value) (h : Below B w W) (hb : B ≤ b) : Below B w (put4 W b y0 y1 y2 y3) :=
  (((h.setCell (p := ⟨b, 0, none⟩) hb _).setCell (p := ⟨b, 1, none⟩) hb _).setCell (p := ⟨b, 2, none⟩) hb _).setCell (p := ⟨b, 3, none⟩) hb _
set_option maxRecDepth 100000 in
theorem results_open (tmps : Array Value) (W : World) (b : Nat) (x0 x1 x2 x3 u : Value) (h : W.heap[b]? = some (.cells #[x0, x1, x2, x3] 23 (0, 0))) (h2 : tmps.getD 2 undef = .pointer (some ⟨b, 0, none⟩)) (h3 : tmps.getD 3 undef = u) :
    (results Tryd.f9 tmps).run Tryd.prog W = .ok (.tuple #[.agg #[x0, x1, x2, x3], u]) W := by
  obtain ⟨r0, r1, r2, r3, f0, f1, f2, f3⟩ := box4 h
  rw [results_cell_tmp rfl, h2, h3]
  go_simp

set_option maxHeartbeats 4000000 in
set_option maxRecDepth 100000 in
/-- ticket.Open of a text that is no base 64. -/
theorem open_undec (s : ByteArray) (e : Int) (he : e ≠ 0) (K : Nat) (hK : P.basic_Decode.f K s = some (([] : List Int), e)) (w : World) :
    Calls Tryd.prog 9 #[.string s] w fun en w' => en = .returned (answer none) ∧ Below w.heap.size w w' := by
  have he0 : (e != 0) = true := bne_iff_ne.2 he
  have he1 : (e == 0) = false := beq_eq_false_iff_ne.2 he
  have HK := Aside0.mk hK
  clear hK
  go_enter Tryd.func9, Tryd.ntmps9
  have hk0 : (w.alloc (.cells #[.int .i64 0, .string ⟨#[]⟩, .int .i64 0, .int .i64 0] 23)).heap[w.heap.size]? = some (.cells #[.int .i64 0, .string ⟨#[]⟩, .int .i64 0, .int .i64 0] 23 (0, 0)) := heap_new _ _
  go_wp2_with (
    go_at_call 27
    refine (P.basic_Decode.calls K s _ _ _ HK.out).mono ?_
    rintro en w1 ⟨v1, rfl, ho1, hb1⟩
    have hk1 : w1.heap[w.heap.size]? = some (.cells #[.int .i64 0, .string ⟨#[]⟩, .int .i64 0, .int .i64 0] 23 (0, 0)) := (hb1.block _ (by simp)).trans hk0
    have HB1 := Aside0.mk (below_step (below_alloc (Below.refl _ _) _) hb1)
    obtain ⟨r0, r1, r2, r3, f0, f1, f2, f3⟩ := box4 hk1
    clear hb1 ho1)
  refine bodyPost_ret (results_open _ _ w.heap.size (.int .i64 0) (.string ⟨#[]⟩) (.int .i64 0) (.int .i64 0) (.int .i64 12) ?_ rfl rfl) rfl ⟨rfl, ?_⟩
  · exact put4_heap _ _ _ _ hk1
  · exact put4_below _ _ _ _ HB1.out (Nat.le_refl _)
end Go.Proofs.YteajidciahoboaaDoor.H
