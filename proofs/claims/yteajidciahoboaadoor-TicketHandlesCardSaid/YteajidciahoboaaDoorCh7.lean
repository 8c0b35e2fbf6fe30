import Derived.Test.YteajidciahoboaaDoorCh6
-- H11
set_option linter.unusedVariables false
set_option linter.unusedSimpArgs false
namespace Go.Proofs.YteajidciahoboaaDoor.H
open Go.RowKit Go.Shelf Go.Proofs.YteajidciahoboaaDoorW.PrintWords Go.Proofs.YteajidciahoboaaDoorW.PrintLast Go.Proofs.YteajidciahoboaaDoorW.PrintMore Go.Proofs.YteajidciahoboaaDoor.M
attribute [local go_sem] Oper.semAt_some

theorem byte_at {l : List Int} (hb : isBytes l) (i : Nat) : ∃ x : Nat, x < 256 ∧ l.getD i 0 = (x : Int) := by
  by_cases h : i < l.length
  · have := hb (l.getD i 0) (by simp [h])
    exact ⟨(l.getD i 0).toNat, by omega, by omega⟩
  · exact ⟨0, by decide, by simp [List.getElem?_eq_none (Nat.le_of_not_lt h)]⟩

set_option maxHeartbeats 8000000 in
set_option maxRecDepth 100000 in
theorem rnext_head (a : Addr) (c : Nat) (f : List Int) (w : World) (hr : Kd.C (Kd.int .u8) w (some a) f.length f) (hc : f.length ≤ c) (hx : isBytes f) (hl : f.length ≤ 1000000) (h12 : 12 ≤ f.length)
    (hA : crcSum (nats (f.take 4)) ≠ le4 (f.drop 4)) :
    Calls Tryd.prog 33 #[.slice (some a) f.length c, .int .i64 0] w fun e w' => (∃ code : Int, code ≠ 0 ∧ e = .returned (.tuple #[.slice none 0 0, .int .i64 0, .int .i64 code])) ∧ Below w.heap.size w w' := by
  obtain ⟨x0, l0, e0⟩ := byte_at hx 0
  obtain ⟨x1, l1, e1⟩ := byte_at hx 1
  obtain ⟨x2, l2, e2⟩ := byte_at hx 2
  obtain ⟨x3, l3, e3⟩ := byte_at hx 3
  obtain ⟨ad0, he0, hc0⟩ := Kd.at_int hr 0 (by omega) (by omega)
  obtain ⟨ad1, he1, hc1⟩ := Kd.at_int hr 1 (by omega) (by omega)
  obtain ⟨ad2, he2, hc2⟩ := Kd.at_int hr 2 (by omega) (by omega)
  obtain ⟨ad3, he3, hc3⟩ := Kd.at_int hr 3 (by omega) (by omega)
  obtain rfl := Option.some.inj he0
  obtain rfl := Option.some.inj he1
  obtain rfl := Option.some.inj he2
  obtain rfl := Option.some.inj he3
  rw [show rd f 0 = (x0 : Int) from e0] at hc0
  rw [show rd f 1 = (x1 : Int) from e1] at hc1
  rw [show rd f 2 = (x2 : Int) from e2] at hc2
  rw [show rd f 3 = (x3 : Int) from e3] at hc3
  simp [Addr.add] at hc0 hc1 hc2 hc3
  obtain ⟨n, hn⟩ : ∃ n, x0 + 256 * x1 + 65536 * x2 + 16777216 * x3 = n := ⟨_, rfl⟩
  have hle : le4 f = n := by
    unfold le4
    rw [e0, e1, e2, e3]
    simp only [Int.toNat_natCast]
    exact hn
  have HR := Aside0.mk hr
  have HX := Aside0.mk hx
  obtain ⟨s1, hs1⟩ : ∃ s, crcSum (nats (f.take 4)) = s := ⟨_, rfl⟩
  obtain ⟨l04, hl04⟩ : ∃ l, f.take 4 = l := ⟨_, rfl⟩
  obtain ⟨l48, hl48⟩ : ∃ l, (f.drop 4).take 4 = l := ⟨_, rfl⟩
  have hb04 : isBytes l04 := by rw [← hl04]; exact isBytes_take _ hx
  have hn04 : l04.length = 4 := by rw [← hl04, List.length_take]; omega
  have hs1lt : s1 < 4294967296 := by rw [← hs1, hl04]; exact crcSum_lt _ (isBytes.nats hb04)
  obtain ⟨K1, hK1⟩ := (rsum_ev l04 hb04 (by omega)).get
  rw [← hl04, hs1, hl04] at hK1
  obtain ⟨K2, hK2⟩ := (rput_ev [] s1 hs1lt (by simp)).get
  rw [List.nil_append] at hK2
  obtain ⟨a04, hc04, hq04⟩ := cut_lohi a f.length c 0 4 (by omega) (by omega) hc
  obtain ⟨a48, hc48, hq48⟩ := cut_lohi a f.length c 4 8 (by omega) (by omega) hc
  have hd04 : ∀ W, (Instr.slice 36 (.slice (some a) f.length c) (some (.int .i64 0)) (some (.int .i64 4)) none).run Tryd.prog W = .ok (.slice (some a04) 4 c) W := fun W => hc04 W
  have hd48 : ∀ W, (Instr.slice 36 (.slice (some a) f.length c) (some (.int .i64 4)) (some (.int .i64 8)) none).run Tryd.prog W = .ok (.slice (some a48) 4 (c - 4)) W := fun W => hc48 W
  have S1 := fun W (h : Below w.heap.size w W) => P.racewayref02_Sum.calls K1 (some a04) c l04 _ W (by have := hq04 _ _ (Kd.C_below HR.out h); rw [hn04, ← hl04]; exact this) (by omega) hK1
  rw [hn04] at S1
  have hl48' : (f.take 8).drop 4 = l48 := by rw [← hl48, List.drop_take]
  have V1 := fun W (h : Aside0 (Below w.heap.size w W)) => Kd.C_string (P := Tryd.prog) (A := some a48) (c := c - 4) (n := 4) Tryd.underlying36 Tryd.underlying5 Tryd.underlying9 (show Kd.C (Kd.int .u8) W (some a48) 4 l48 by have := hq48 _ _ (Kd.C_below HR.out h.out); rw [hl48'] at this; exact this)
  have P1 := fun W => P.racewayref02_put.calls K2 (fun _ => False) (.slice none 0 0) [] s1 _ W W (Below.refl _ _) (Kd.R_nil _ _ _ _ _) hK2
  have h48 : l48 = four (le4 (f.drop 4)) := by rw [← hl48, four_le4 _ (isBytes_drop _ hx) (by rw [List.length_drop]; omega)]
  have hb48 : isBytes l48 := by rw [h48]; exact four_bytes _
  have hlt48 := le4_lt (f.drop 4) (isBytes_drop _ hx)
  have same48 : strOfNums (four s1) = strOfNums l48 ↔ s1 = le4 (f.drop 4) := by
    constructor
    · intro h
      have h2 := strOf_inj (four_bytes _) hb48 h
      rw [h48] at h2
      have h3 := le4_four s1 [] hs1lt
      rw [h2, le4_four _ [] hlt48] at h3
      exact h3.symm
    · intro h; rw [h48, h]
  rw [hs1] at hA
  have hw4 : IntKind.i64.wrap 4 = 4 := rfl
  have hw8 : IntKind.i64.wrap 8 = 8 := rfl
  have hw12 : IntKind.i64.wrap 12 = 12 := rfl
  have hne : ((strOfNums (four s1)).toList == (strOfNums l48).toList) = false := by rw [toList_beq, decide_eq_false (fun h => hA (same48.1 h))]
  clear same48 hA hle
  clear hc04 hq04 hc48 hq48 hK1 hK2 hr hx e0 e1 e2 e3 he0 he1 he2 he3 h48 hb48 hlt48 hl48 hl48' hs1 hl04 hb04 hn04
  go_enter Tryd.func33, Tryd.ntmps33
  go_wp2
  go_loop [7, 8, 9] (fun v wt i => (v = .int .i64 0 ∧ wt = .int .i64 1 ∧ i = .int .i64 0) ∨ (v = .int .i64 x0 ∧ wt = .int .i64 256 ∧ i = .int .i64 1) ∨ (v = .int .i64 (x0 + 256 * x1 : Nat) ∧ wt = .int .i64 65536 ∧ i = .int .i64 2) ∨
    (v = .int .i64 (x0 + 256 * x1 + 65536 * x2 : Nat) ∧ wt = .int .i64 16777216 ∧ i = .int .i64 3) ∨ (v = .int .i64 n ∧ wt = .int .i64 4294967296 ∧ i = .int .i64 4)) (fun _ _ i => 4 - (intOf i).toNat)
  case atStart => exact .inl ⟨rfl, rfl, rfl⟩
  case round =>
    rcases hrel with ⟨rfl, rfl, rfl⟩ | ⟨rfl, rfl, rfl⟩ | ⟨rfl, rfl, rfl⟩ | ⟨rfl, rfl, rfl⟩ | ⟨rfl, rfl, rfl⟩
    · go_wp2
      go_round
      case rel => exact .inr (.inl ⟨by go_num, rfl, rfl⟩)
      case measure => simp [intOf]
    · go_wp2
      go_round
      case rel => exact .inr (.inr (.inl ⟨by go_num, rfl, rfl⟩))
      case measure => simp [intOf]
    · go_wp2
      go_round
      case rel => exact .inr (.inr (.inr (.inl ⟨by go_num, rfl, rfl⟩)))
      case measure => simp [intOf]
    · go_wp2
      go_round
      case rel => exact .inr (.inr (.inr (.inr ⟨by go_num, rfl, rfl⟩)))
      case measure => simp [intOf]
    · go_wp2
      have V1a := V1 w.drew ⟨below_drew (Below.refl _ _)⟩
      have V1b := fun n => V1 (w.drewN n) ⟨pw_below_drewN (Below.refl _ _) n⟩
      have V1c := fun n => V1 (w.drew.drewN n) ⟨pw_below_drewN (below_drew (Below.refl _ _)) n⟩
      have V1d := fun n => V1 (w.drewN n).drew ⟨below_drew (pw_below_drewN (Below.refl _ _) n)⟩
      go_region_with
        (first
          | (go_at_call 58; refine (S1 _ (by repeat (first | exact Below.refl _ _ | apply below_alloc | apply below_drew | apply pw_below_drewN))).mono ?_; rintro e w' ⟨rfl, nd, rfl⟩)
          | (go_at_call 57; refine (P1 _).mono ?_; rintro e w5 ⟨v5, rfl, ho5, hb5, _⟩; have HBP : Aside0 (Below w.heap.size w w5) := ⟨below_step (by repeat (first | exact Below.refl _ _ | apply below_alloc | apply below_drew | apply pw_below_drewN)) hb5⟩; have hcv5 := own_string (P := Tryd.prog) Tryd.underlying36 Tryd.underlying5 Tryd.underlying9 (Kd.own_of_R ho5); have hcv6 := V1 _ HBP; clear ho5 hb5))
      all_goals
        go_wp2
        go_ret3
        exact ⟨⟨6, by decide, rfl⟩, HBP.out⟩

set_option maxHeartbeats 8000000 in
set_option maxRecDepth 100000 in
theorem rnext_long (a : Addr) (c : Nat) (f : List Int) (w : World) (hr : Kd.C (Kd.int .u8) w (some a) f.length f) (hc : f.length ≤ c) (hx : isBytes f) (hl : f.length ≤ 1000000) (h12 : 12 ≤ f.length)
    (hA : crcSum (nats (f.take 4)) = le4 (f.drop 4)) (hN : 65536 < le4 f) :
    Calls Tryd.prog 33 #[.slice (some a) f.length c, .int .i64 0] w fun e w' => (∃ code : Int, code ≠ 0 ∧ e = .returned (.tuple #[.slice none 0 0, .int .i64 0, .int .i64 code])) ∧ Below w.heap.size w w' := by
  obtain ⟨x0, l0, e0⟩ := byte_at hx 0
  obtain ⟨x1, l1, e1⟩ := byte_at hx 1
  obtain ⟨x2, l2, e2⟩ := byte_at hx 2
  obtain ⟨x3, l3, e3⟩ := byte_at hx 3
  obtain ⟨ad0, he0, hc0⟩ := Kd.at_int hr 0 (by omega) (by omega)
  obtain ⟨ad1, he1, hc1⟩ := Kd.at_int hr 1 (by omega) (by omega)
  obtain ⟨ad2, he2, hc2⟩ := Kd.at_int hr 2 (by omega) (by omega)
  obtain ⟨ad3, he3, hc3⟩ := Kd.at_int hr 3 (by omega) (by omega)
  obtain rfl := Option.some.inj he0
  obtain rfl := Option.some.inj he1
  obtain rfl := Option.some.inj he2
  obtain rfl := Option.some.inj he3
  rw [show rd f 0 = (x0 : Int) from e0] at hc0
  rw [show rd f 1 = (x1 : Int) from e1] at hc1
  rw [show rd f 2 = (x2 : Int) from e2] at hc2
  rw [show rd f 3 = (x3 : Int) from e3] at hc3
  simp [Addr.add] at hc0 hc1 hc2 hc3
  obtain ⟨n, hn⟩ : ∃ n, x0 + 256 * x1 + 65536 * x2 + 16777216 * x3 = n := ⟨_, rfl⟩
  have hle : le4 f = n := by
    unfold le4
    rw [e0, e1, e2, e3]
    simp only [Int.toNat_natCast]
    exact hn
  have HR := Aside0.mk hr
  have HX := Aside0.mk hx
  obtain ⟨s1, hs1⟩ : ∃ s, crcSum (nats (f.take 4)) = s := ⟨_, rfl⟩
  obtain ⟨l04, hl04⟩ : ∃ l, f.take 4 = l := ⟨_, rfl⟩
  obtain ⟨l48, hl48⟩ : ∃ l, (f.drop 4).take 4 = l := ⟨_, rfl⟩
  have hb04 : isBytes l04 := by rw [← hl04]; exact isBytes_take _ hx
  have hn04 : l04.length = 4 := by rw [← hl04, List.length_take]; omega
  have hs1lt : s1 < 4294967296 := by rw [← hs1, hl04]; exact crcSum_lt _ (isBytes.nats hb04)
  obtain ⟨K1, hK1⟩ := (rsum_ev l04 hb04 (by omega)).get
  rw [← hl04, hs1, hl04] at hK1
  obtain ⟨K2, hK2⟩ := (rput_ev [] s1 hs1lt (by simp)).get
  rw [List.nil_append] at hK2
  obtain ⟨a04, hc04, hq04⟩ := cut_lohi a f.length c 0 4 (by omega) (by omega) hc
  obtain ⟨a48, hc48, hq48⟩ := cut_lohi a f.length c 4 8 (by omega) (by omega) hc
  have hd04 : ∀ W, (Instr.slice 36 (.slice (some a) f.length c) (some (.int .i64 0)) (some (.int .i64 4)) none).run Tryd.prog W = .ok (.slice (some a04) 4 c) W := fun W => hc04 W
  have hd48 : ∀ W, (Instr.slice 36 (.slice (some a) f.length c) (some (.int .i64 4)) (some (.int .i64 8)) none).run Tryd.prog W = .ok (.slice (some a48) 4 (c - 4)) W := fun W => hc48 W
  have S1 := fun W (h : Below w.heap.size w W) => P.racewayref02_Sum.calls K1 (some a04) c l04 _ W (by have := hq04 _ _ (Kd.C_below HR.out h); rw [hn04, ← hl04]; exact this) (by omega) hK1
  rw [hn04] at S1
  have hl48' : (f.take 8).drop 4 = l48 := by rw [← hl48, List.drop_take]
  have V1 := fun W (h : Aside0 (Below w.heap.size w W)) => Kd.C_string (P := Tryd.prog) (A := some a48) (c := c - 4) (n := 4) Tryd.underlying36 Tryd.underlying5 Tryd.underlying9 (show Kd.C (Kd.int .u8) W (some a48) 4 l48 by have := hq48 _ _ (Kd.C_below HR.out h.out); rw [hl48'] at this; exact this)
  have P1 := fun W => P.racewayref02_put.calls K2 (fun _ => False) (.slice none 0 0) [] s1 _ W W (Below.refl _ _) (Kd.R_nil _ _ _ _ _) hK2
  have h48 : l48 = four (le4 (f.drop 4)) := by rw [← hl48, four_le4 _ (isBytes_drop _ hx) (by rw [List.length_drop]; omega)]
  have hb48 : isBytes l48 := by rw [h48]; exact four_bytes _
  have hlt48 := le4_lt (f.drop 4) (isBytes_drop _ hx)
  have same48 : strOfNums (four s1) = strOfNums l48 ↔ s1 = le4 (f.drop 4) := by
    constructor
    · intro h
      have h2 := strOf_inj (four_bytes _) hb48 h
      rw [h48] at h2
      have h3 := le4_four s1 [] hs1lt
      rw [h2, le4_four _ [] hlt48] at h3
      exact h3.symm
    · intro h; rw [h48, h]
  rw [hs1] at hA
  have hne : ((strOfNums (four s1)).toList == (strOfNums l48).toList) = true := by rw [toList_beq, decide_eq_true (same48.2 hA)]
  have hw4 : IntKind.i64.wrap 4 = 4 := rfl
  have hw8 : IntKind.i64.wrap 8 = 8 := rfl
  have hw12 : IntKind.i64.wrap 12 = 12 := rfl
  rw [hle] at hN
  have hN1 : decide ((65536 : Int) < (n : Int)) = true := decide_eq_true (by omega)
  clear same48 hA hle
  clear hc04 hq04 hc48 hq48 hK1 hK2 hr hx e0 e1 e2 e3 he0 he1 he2 he3 h48 hb48 hlt48 hl48 hl48' hs1 hl04 hb04 hn04
  go_enter Tryd.func33, Tryd.ntmps33
  go_wp2
  go_loop [7, 8, 9] (fun v wt i => (v = .int .i64 0 ∧ wt = .int .i64 1 ∧ i = .int .i64 0) ∨ (v = .int .i64 x0 ∧ wt = .int .i64 256 ∧ i = .int .i64 1) ∨ (v = .int .i64 (x0 + 256 * x1 : Nat) ∧ wt = .int .i64 65536 ∧ i = .int .i64 2) ∨
    (v = .int .i64 (x0 + 256 * x1 + 65536 * x2 : Nat) ∧ wt = .int .i64 16777216 ∧ i = .int .i64 3) ∨ (v = .int .i64 n ∧ wt = .int .i64 4294967296 ∧ i = .int .i64 4)) (fun _ _ i => 4 - (intOf i).toNat)
  case atStart => exact .inl ⟨rfl, rfl, rfl⟩
  case round =>
    rcases hrel with ⟨rfl, rfl, rfl⟩ | ⟨rfl, rfl, rfl⟩ | ⟨rfl, rfl, rfl⟩ | ⟨rfl, rfl, rfl⟩ | ⟨rfl, rfl, rfl⟩
    · go_wp2
      go_round
      case rel => exact .inr (.inl ⟨by go_num, rfl, rfl⟩)
      case measure => simp [intOf]
    · go_wp2
      go_round
      case rel => exact .inr (.inr (.inl ⟨by go_num, rfl, rfl⟩))
      case measure => simp [intOf]
    · go_wp2
      go_round
      case rel => exact .inr (.inr (.inr (.inl ⟨by go_num, rfl, rfl⟩)))
      case measure => simp [intOf]
    · go_wp2
      go_round
      case rel => exact .inr (.inr (.inr (.inr ⟨by go_num, rfl, rfl⟩)))
      case measure => simp [intOf]
    · go_wp2
      have V1a := V1 w.drew ⟨below_drew (Below.refl _ _)⟩
      have V1b := fun n => V1 (w.drewN n) ⟨pw_below_drewN (Below.refl _ _) n⟩
      have V1c := fun n => V1 (w.drew.drewN n) ⟨pw_below_drewN (below_drew (Below.refl _ _)) n⟩
      have V1d := fun n => V1 (w.drewN n).drew ⟨below_drew (pw_below_drewN (Below.refl _ _) n)⟩
      go_region_with
        (first
          | (go_at_call 58; refine (S1 _ (by repeat (first | exact Below.refl _ _ | apply below_alloc | apply below_drew | apply pw_below_drewN))).mono ?_; rintro e w' ⟨rfl, nd, rfl⟩)
          | (go_at_call 57; refine (P1 _).mono ?_; rintro e w5 ⟨v5, rfl, ho5, hb5, _⟩; have HBP : Aside0 (Below w.heap.size w w5) := ⟨below_step (by repeat (first | exact Below.refl _ _ | apply below_alloc | apply below_drew | apply pw_below_drewN)) hb5⟩; have hcv5 := own_string (P := Tryd.prog) Tryd.underlying36 Tryd.underlying5 Tryd.underlying9 (Kd.own_of_R ho5); have hcv6 := V1 _ HBP; clear ho5 hb5))
      all_goals
        go_wp2
        go_ret3
        exact ⟨⟨3, by decide, rfl⟩, HBP.out⟩

set_option maxHeartbeats 8000000 in
set_option maxRecDepth 100000 in
theorem rnext_cut (a : Addr) (c : Nat) (f : List Int) (w : World) (hr : Kd.C (Kd.int .u8) w (some a) f.length f) (hc : f.length ≤ c) (hx : isBytes f) (hl : f.length ≤ 1000000) (h12 : 12 ≤ f.length)
    (hA : crcSum (nats (f.take 4)) = le4 (f.drop 4)) (hN : le4 f ≤ 65536) (hM : ¬ le4 f ≤ f.length - 12) :
    Calls Tryd.prog 33 #[.slice (some a) f.length c, .int .i64 0] w fun e w' => (∃ code : Int, code ≠ 0 ∧ e = .returned (.tuple #[.slice none 0 0, .int .i64 0, .int .i64 code])) ∧ Below w.heap.size w w' := by
  obtain ⟨x0, l0, e0⟩ := byte_at hx 0
  obtain ⟨x1, l1, e1⟩ := byte_at hx 1
  obtain ⟨x2, l2, e2⟩ := byte_at hx 2
  obtain ⟨x3, l3, e3⟩ := byte_at hx 3
  obtain ⟨ad0, he0, hc0⟩ := Kd.at_int hr 0 (by omega) (by omega)
  obtain ⟨ad1, he1, hc1⟩ := Kd.at_int hr 1 (by omega) (by omega)
  obtain ⟨ad2, he2, hc2⟩ := Kd.at_int hr 2 (by omega) (by omega)
  obtain ⟨ad3, he3, hc3⟩ := Kd.at_int hr 3 (by omega) (by omega)
  obtain rfl := Option.some.inj he0
  obtain rfl := Option.some.inj he1
  obtain rfl := Option.some.inj he2
  obtain rfl := Option.some.inj he3
  rw [show rd f 0 = (x0 : Int) from e0] at hc0
  rw [show rd f 1 = (x1 : Int) from e1] at hc1
  rw [show rd f 2 = (x2 : Int) from e2] at hc2
  rw [show rd f 3 = (x3 : Int) from e3] at hc3
  simp [Addr.add] at hc0 hc1 hc2 hc3
  obtain ⟨n, hn⟩ : ∃ n, x0 + 256 * x1 + 65536 * x2 + 16777216 * x3 = n := ⟨_, rfl⟩
  have hle : le4 f = n := by
    unfold le4
    rw [e0, e1, e2, e3]
    simp only [Int.toNat_natCast]
    exact hn
  have HR := Aside0.mk hr
  have HX := Aside0.mk hx
  obtain ⟨s1, hs1⟩ : ∃ s, crcSum (nats (f.take 4)) = s := ⟨_, rfl⟩
  obtain ⟨l04, hl04⟩ : ∃ l, f.take 4 = l := ⟨_, rfl⟩
  obtain ⟨l48, hl48⟩ : ∃ l, (f.drop 4).take 4 = l := ⟨_, rfl⟩
  have hb04 : isBytes l04 := by rw [← hl04]; exact isBytes_take _ hx
  have hn04 : l04.length = 4 := by rw [← hl04, List.length_take]; omega
  have hs1lt : s1 < 4294967296 := by rw [← hs1, hl04]; exact crcSum_lt _ (isBytes.nats hb04)
  obtain ⟨K1, hK1⟩ := (rsum_ev l04 hb04 (by omega)).get
  rw [← hl04, hs1, hl04] at hK1
  obtain ⟨K2, hK2⟩ := (rput_ev [] s1 hs1lt (by simp)).get
  rw [List.nil_append] at hK2
  obtain ⟨a04, hc04, hq04⟩ := cut_lohi a f.length c 0 4 (by omega) (by omega) hc
  obtain ⟨a48, hc48, hq48⟩ := cut_lohi a f.length c 4 8 (by omega) (by omega) hc
  have hd04 : ∀ W, (Instr.slice 36 (.slice (some a) f.length c) (some (.int .i64 0)) (some (.int .i64 4)) none).run Tryd.prog W = .ok (.slice (some a04) 4 c) W := fun W => hc04 W
  have hd48 : ∀ W, (Instr.slice 36 (.slice (some a) f.length c) (some (.int .i64 4)) (some (.int .i64 8)) none).run Tryd.prog W = .ok (.slice (some a48) 4 (c - 4)) W := fun W => hc48 W
  have S1 := fun W (h : Below w.heap.size w W) => P.racewayref02_Sum.calls K1 (some a04) c l04 _ W (by have := hq04 _ _ (Kd.C_below HR.out h); rw [hn04, ← hl04]; exact this) (by omega) hK1
  rw [hn04] at S1
  have hl48' : (f.take 8).drop 4 = l48 := by rw [← hl48, List.drop_take]
  have V1 := fun W (h : Aside0 (Below w.heap.size w W)) => Kd.C_string (P := Tryd.prog) (A := some a48) (c := c - 4) (n := 4) Tryd.underlying36 Tryd.underlying5 Tryd.underlying9 (show Kd.C (Kd.int .u8) W (some a48) 4 l48 by have := hq48 _ _ (Kd.C_below HR.out h.out); rw [hl48'] at this; exact this)
  have P1 := fun W => P.racewayref02_put.calls K2 (fun _ => False) (.slice none 0 0) [] s1 _ W W (Below.refl _ _) (Kd.R_nil _ _ _ _ _) hK2
  have h48 : l48 = four (le4 (f.drop 4)) := by rw [← hl48, four_le4 _ (isBytes_drop _ hx) (by rw [List.length_drop]; omega)]
  have hb48 : isBytes l48 := by rw [h48]; exact four_bytes _
  have hlt48 := le4_lt (f.drop 4) (isBytes_drop _ hx)
  have same48 : strOfNums (four s1) = strOfNums l48 ↔ s1 = le4 (f.drop 4) := by
    constructor
    · intro h
      have h2 := strOf_inj (four_bytes _) hb48 h
      rw [h48] at h2
      have h3 := le4_four s1 [] hs1lt
      rw [h2, le4_four _ [] hlt48] at h3
      exact h3.symm
    · intro h; rw [h48, h]
  rw [hs1] at hA
  have hne : ((strOfNums (four s1)).toList == (strOfNums l48).toList) = true := by rw [toList_beq, decide_eq_true (same48.2 hA)]
  have hw4 : IntKind.i64.wrap 4 = 4 := rfl
  have hw8 : IntKind.i64.wrap 8 = 8 := rfl
  have hw12 : IntKind.i64.wrap 12 = 12 := rfl
  rw [hle] at hN
  have hN1 : decide ((65536 : Int) < (n : Int)) = false := decide_eq_false (by omega)
  have hwl : IntKind.i64.wrap ((f.length : Int) - 12) = (f.length : Int) - 12 := by rw [IntKind.wrap_i64]; omega
  rw [hle] at hM
  have hM1 : decide ((f.length : Int) - 12 < (n : Int)) = true := decide_eq_true (by omega)
  clear same48 hA hle
  clear hc04 hq04 hc48 hq48 hK1 hK2 hr hx e0 e1 e2 e3 he0 he1 he2 he3 h48 hb48 hlt48 hl48 hl48' hs1 hl04 hb04 hn04
  go_enter Tryd.func33, Tryd.ntmps33
  go_wp2
  go_loop [7, 8, 9] (fun v wt i => (v = .int .i64 0 ∧ wt = .int .i64 1 ∧ i = .int .i64 0) ∨ (v = .int .i64 x0 ∧ wt = .int .i64 256 ∧ i = .int .i64 1) ∨ (v = .int .i64 (x0 + 256 * x1 : Nat) ∧ wt = .int .i64 65536 ∧ i = .int .i64 2) ∨
    (v = .int .i64 (x0 + 256 * x1 + 65536 * x2 : Nat) ∧ wt = .int .i64 16777216 ∧ i = .int .i64 3) ∨ (v = .int .i64 n ∧ wt = .int .i64 4294967296 ∧ i = .int .i64 4)) (fun _ _ i => 4 - (intOf i).toNat)
  case atStart => exact .inl ⟨rfl, rfl, rfl⟩
  case round =>
    rcases hrel with ⟨rfl, rfl, rfl⟩ | ⟨rfl, rfl, rfl⟩ | ⟨rfl, rfl, rfl⟩ | ⟨rfl, rfl, rfl⟩ | ⟨rfl, rfl, rfl⟩
    · go_wp2
      go_round
      case rel => exact .inr (.inl ⟨by go_num, rfl, rfl⟩)
      case measure => simp [intOf]
    · go_wp2
      go_round
      case rel => exact .inr (.inr (.inl ⟨by go_num, rfl, rfl⟩))
      case measure => simp [intOf]
    · go_wp2
      go_round
      case rel => exact .inr (.inr (.inr (.inl ⟨by go_num, rfl, rfl⟩)))
      case measure => simp [intOf]
    · go_wp2
      go_round
      case rel => exact .inr (.inr (.inr (.inr ⟨by go_num, rfl, rfl⟩)))
      case measure => simp [intOf]
    · go_wp2
      have V1a := V1 w.drew ⟨below_drew (Below.refl _ _)⟩
      have V1b := fun n => V1 (w.drewN n) ⟨pw_below_drewN (Below.refl _ _) n⟩
      have V1c := fun n => V1 (w.drew.drewN n) ⟨pw_below_drewN (below_drew (Below.refl _ _)) n⟩
      have V1d := fun n => V1 (w.drewN n).drew ⟨below_drew (pw_below_drewN (Below.refl _ _) n)⟩
      go_region_with
        (first
          | (go_at_call 58; refine (S1 _ (by repeat (first | exact Below.refl _ _ | apply below_alloc | apply below_drew | apply pw_below_drewN))).mono ?_; rintro e w' ⟨rfl, nd, rfl⟩)
          | (go_at_call 57; refine (P1 _).mono ?_; rintro e w5 ⟨v5, rfl, ho5, hb5, _⟩; have HBP : Aside0 (Below w.heap.size w w5) := ⟨below_step (by repeat (first | exact Below.refl _ _ | apply below_alloc | apply below_drew | apply pw_below_drewN)) hb5⟩; have hcv5 := own_string (P := Tryd.prog) Tryd.underlying36 Tryd.underlying5 Tryd.underlying9 (Kd.own_of_R ho5); have hcv6 := V1 _ HBP; clear ho5 hb5))
      all_goals
        go_wp2
        go_ret3
        exact ⟨⟨4, by decide, rfl⟩, HBP.out⟩

set_option maxHeartbeats 8000000 in
set_option maxRecDepth 100000 in
theorem rnext_good (a : Addr) (c : Nat) (f : List Int) (w : World) (hr : Kd.C (Kd.int .u8) w (some a) f.length f) (hc : f.length ≤ c) (hx : isBytes f) (hl : f.length ≤ 1000000) (h12 : 12 ≤ f.length)
    (hA : crcSum (nats (f.take 4)) = le4 (f.drop 4)) (hN : le4 f ≤ 65536) (hM : le4 f ≤ f.length - 12) (hS : crcSum (nats ((f.drop 12).take (le4 f))) = le4 (f.drop 8)) :
    Calls Tryd.prog 33 #[.slice (some a) f.length c, .int .i64 0] w fun e w' => (∃ v, e = .returned (.tuple #[v, .int .i64 (12 + (le4 f : Int)), .int .i64 0]) ∧ Kd.R (Kd.int .u8) 5 w' w.heap.size (fun _ => True) v ((f.drop 12).take (le4 f))) ∧ Below w.heap.size w w' := by
  obtain ⟨x0, l0, e0⟩ := byte_at hx 0
  obtain ⟨x1, l1, e1⟩ := byte_at hx 1
  obtain ⟨x2, l2, e2⟩ := byte_at hx 2
  obtain ⟨x3, l3, e3⟩ := byte_at hx 3
  obtain ⟨ad0, he0, hc0⟩ := Kd.at_int hr 0 (by omega) (by omega)
  obtain ⟨ad1, he1, hc1⟩ := Kd.at_int hr 1 (by omega) (by omega)
  obtain ⟨ad2, he2, hc2⟩ := Kd.at_int hr 2 (by omega) (by omega)
  obtain ⟨ad3, he3, hc3⟩ := Kd.at_int hr 3 (by omega) (by omega)
  obtain rfl := Option.some.inj he0
  obtain rfl := Option.some.inj he1
  obtain rfl := Option.some.inj he2
  obtain rfl := Option.some.inj he3
  rw [show rd f 0 = (x0 : Int) from e0] at hc0
  rw [show rd f 1 = (x1 : Int) from e1] at hc1
  rw [show rd f 2 = (x2 : Int) from e2] at hc2
  rw [show rd f 3 = (x3 : Int) from e3] at hc3
  simp [Addr.add] at hc0 hc1 hc2 hc3
  obtain ⟨n, hn⟩ : ∃ n, x0 + 256 * x1 + 65536 * x2 + 16777216 * x3 = n := ⟨_, rfl⟩
  have hle : le4 f = n := by
    unfold le4
    rw [e0, e1, e2, e3]
    simp only [Int.toNat_natCast]
    exact hn
  have HR := Aside0.mk hr
  have HX := Aside0.mk hx
  obtain ⟨s1, hs1⟩ : ∃ s, crcSum (nats (f.take 4)) = s := ⟨_, rfl⟩
  obtain ⟨l04, hl04⟩ : ∃ l, f.take 4 = l := ⟨_, rfl⟩
  obtain ⟨l48, hl48⟩ : ∃ l, (f.drop 4).take 4 = l := ⟨_, rfl⟩
  have hb04 : isBytes l04 := by rw [← hl04]; exact isBytes_take _ hx
  have hn04 : l04.length = 4 := by rw [← hl04, List.length_take]; omega
  have hs1lt : s1 < 4294967296 := by rw [← hs1, hl04]; exact crcSum_lt _ (isBytes.nats hb04)
  obtain ⟨K1, hK1⟩ := (rsum_ev l04 hb04 (by omega)).get
  rw [← hl04, hs1, hl04] at hK1
  obtain ⟨K2, hK2⟩ := (rput_ev [] s1 hs1lt (by simp)).get
  rw [List.nil_append] at hK2
  obtain ⟨a04, hc04, hq04⟩ := cut_lohi a f.length c 0 4 (by omega) (by omega) hc
  obtain ⟨a48, hc48, hq48⟩ := cut_lohi a f.length c 4 8 (by omega) (by omega) hc
  have hd04 : ∀ W, (Instr.slice 36 (.slice (some a) f.length c) (some (.int .i64 0)) (some (.int .i64 4)) none).run Tryd.prog W = .ok (.slice (some a04) 4 c) W := fun W => hc04 W
  have hd48 : ∀ W, (Instr.slice 36 (.slice (some a) f.length c) (some (.int .i64 4)) (some (.int .i64 8)) none).run Tryd.prog W = .ok (.slice (some a48) 4 (c - 4)) W := fun W => hc48 W
  have S1 := fun W (h : Below w.heap.size w W) => P.racewayref02_Sum.calls K1 (some a04) c l04 _ W (by have := hq04 _ _ (Kd.C_below HR.out h); rw [hn04, ← hl04]; exact this) (by omega) hK1
  rw [hn04] at S1
  have hl48' : (f.take 8).drop 4 = l48 := by rw [← hl48, List.drop_take]
  have V1 := fun W (h : Aside0 (Below w.heap.size w W)) => Kd.C_string (P := Tryd.prog) (A := some a48) (c := c - 4) (n := 4) Tryd.underlying36 Tryd.underlying5 Tryd.underlying9 (show Kd.C (Kd.int .u8) W (some a48) 4 l48 by have := hq48 _ _ (Kd.C_below HR.out h.out); rw [hl48'] at this; exact this)
  have P1 := fun W => P.racewayref02_put.calls K2 (fun _ => False) (.slice none 0 0) [] s1 _ W W (Below.refl _ _) (Kd.R_nil _ _ _ _ _) hK2
  have h48 : l48 = four (le4 (f.drop 4)) := by rw [← hl48, four_le4 _ (isBytes_drop _ hx) (by rw [List.length_drop]; omega)]
  have hb48 : isBytes l48 := by rw [h48]; exact four_bytes _
  have hlt48 := le4_lt (f.drop 4) (isBytes_drop _ hx)
  have same48 : strOfNums (four s1) = strOfNums l48 ↔ s1 = le4 (f.drop 4) := by
    constructor
    · intro h
      have h2 := strOf_inj (four_bytes _) hb48 h
      rw [h48] at h2
      have h3 := le4_four s1 [] hs1lt
      rw [h2, le4_four _ [] hlt48] at h3
      exact h3.symm
    · intro h; rw [h48, h]
  rw [hs1] at hA
  have hne : ((strOfNums (four s1)).toList == (strOfNums l48).toList) = true := by rw [toList_beq, decide_eq_true (same48.2 hA)]
  have hw4 : IntKind.i64.wrap 4 = 4 := rfl
  have hw8 : IntKind.i64.wrap 8 = 8 := rfl
  have hw12 : IntKind.i64.wrap 12 = 12 := rfl
  rw [hle] at hN
  have hN1 : decide ((65536 : Int) < (n : Int)) = false := decide_eq_false (by omega)
  have hwl : IntKind.i64.wrap ((f.length : Int) - 12) = (f.length : Int) - 12 := by rw [IntKind.wrap_i64]; omega
  rw [hle] at hM
  have hM1 : decide ((f.length : Int) - 12 < (n : Int)) = false := decide_eq_false (by omega)
  have hwn : IntKind.i64.wrap (12 + (n : Int)) = 12 + (n : Int) := by rw [IntKind.wrap_i64]; omega
  obtain ⟨ab, hcb, hqb⟩ := cut_lohi a f.length c 12 (12 + n) (by omega) (by omega) hc
  obtain ⟨s2, hs2⟩ : ∃ s, crcSum (nats ((f.drop 12).take n)) = s := ⟨_, rfl⟩
  obtain ⟨bo, hbo⟩ : ∃ l, (f.drop 12).take n = l := ⟨_, rfl⟩
  have hbo' : (f.take (12 + n)).drop 12 = bo := by rw [← hbo, List.drop_take, Nat.add_sub_cancel_left]
  have hbb : isBytes bo := by rw [← hbo]; exact isBytes_take _ (isBytes_drop _ hx)
  have hbn : bo.length = n := by rw [← hbo, List.length_take, List.length_drop]; omega
  have hdb : ∀ W, (Instr.slice 36 (.slice (some a) f.length c) (some (.int .i64 12)) (some (.int .i64 (12 + (n : Int)))) none).run Tryd.prog W = .ok (.slice (some ab) bo.length (c - 12)) W := fun W => by have := hcb W; rw [show 12 + n - 12 = n by omega] at this; rw [hbn]; exact this
  have HCB := Aside0.mk (show Kd.C (Kd.int .u8) w (some ab) bo.length bo by have := hqb _ _ hr; rw [hbo', show 12 + n - 12 = n by omega] at this; rw [hbn]; exact this)
  obtain ⟨l812, hl812⟩ : ∃ l, (f.drop 8).take 4 = l := ⟨_, rfl⟩
  have hs2lt : s2 < 4294967296 := by rw [← hs2, hbo]; exact crcSum_lt _ (isBytes.nats hbb)
  obtain ⟨K3, hK3⟩ := (rsum_ev bo hbb (by omega)).get
  rw [← hbo, hs2, hbo] at hK3
  obtain ⟨K4, hK4⟩ := (rput_ev [] s2 hs2lt (by simp)).get
  rw [List.nil_append] at hK4
  obtain ⟨a812, hc812, hq812⟩ := cut_lohi a f.length c 8 12 (by omega) (by omega) hc
  have hd812 : ∀ W, (Instr.slice 36 (.slice (some a) f.length c) (some (.int .i64 8)) (some (.int .i64 12)) none).run Tryd.prog W = .ok (.slice (some a812) 4 (c - 8)) W := fun W => hc812 W
  have hl812' : (f.take 12).drop 8 = l812 := by rw [← hl812, List.drop_take]
  have V2 := fun W (h : Below w.heap.size w W) => Kd.C_string (P := Tryd.prog) (A := some a812) (c := c - 8) (n := 4) Tryd.underlying36 Tryd.underlying5 Tryd.underlying9 (show Kd.C (Kd.int .u8) W (some a812) 4 l812 by have := hq812 _ _ (Kd.C_below HR.out h); rw [hl812'] at this; exact this)
  have P2 := fun W => P.racewayref02_put.calls K4 (fun _ => False) (.slice none 0 0) [] s2 _ W W (Below.refl _ _) (Kd.R_nil _ _ _ _ _) hK4
  have HK3 := Aside0.mk hK3
  have h812 : l812 = four (le4 (f.drop 8)) := by rw [← hl812, four_le4 _ (isBytes_drop _ hx) (by rw [List.length_drop]; omega)]
  have hb812 : isBytes l812 := by rw [h812]; exact four_bytes _
  have hlt812 := le4_lt (f.drop 8) (isBytes_drop _ hx)
  have same812 : strOfNums (four s2) = strOfNums l812 ↔ s2 = le4 (f.drop 8) := by
    constructor
    · intro h
      have h2 := strOf_inj (four_bytes _) hb812 h
      rw [h812] at h2
      have h3 := le4_four s2 [] hs2lt
      rw [h2, le4_four _ [] hlt812] at h3
      exact h3.symm
    · intro h; rw [h812, h]
  rw [hle] at hS ⊢
  rw [hs2] at hS
  rw [hbo]
  have hne2 : ((strOfNums (four s2)).toList == (strOfNums l812).toList) = true := by rw [toList_beq, decide_eq_true (same812.2 hS)]
  clear same48 hA hle hS
  have HBL := Aside0.mk hbn
  clear hbn same812 hcb hqb hbb hbo' hs2 h812 hb812 hlt812 hl812 hl812' hc812 hq812 hK3 hK4 hs2lt
  clear hc04 hq04 hc48 hq48 hK1 hK2 hr hx e0 e1 e2 e3 he0 he1 he2 he3 h48 hb48 hlt48 hl48 hl48' hs1 hl04 hb04 hn04
  go_enter Tryd.func33, Tryd.ntmps33
  go_wp2
  go_loop [7, 8, 9] (fun v wt i => (v = .int .i64 0 ∧ wt = .int .i64 1 ∧ i = .int .i64 0) ∨ (v = .int .i64 x0 ∧ wt = .int .i64 256 ∧ i = .int .i64 1) ∨ (v = .int .i64 (x0 + 256 * x1 : Nat) ∧ wt = .int .i64 65536 ∧ i = .int .i64 2) ∨
    (v = .int .i64 (x0 + 256 * x1 + 65536 * x2 : Nat) ∧ wt = .int .i64 16777216 ∧ i = .int .i64 3) ∨ (v = .int .i64 n ∧ wt = .int .i64 4294967296 ∧ i = .int .i64 4)) (fun _ _ i => 4 - (intOf i).toNat)
  case atStart => exact .inl ⟨rfl, rfl, rfl⟩
  case round =>
    rcases hrel with ⟨rfl, rfl, rfl⟩ | ⟨rfl, rfl, rfl⟩ | ⟨rfl, rfl, rfl⟩ | ⟨rfl, rfl, rfl⟩ | ⟨rfl, rfl, rfl⟩
    · go_wp2
      go_round
      case rel => exact .inr (.inl ⟨by go_num, rfl, rfl⟩)
      case measure => simp [intOf]
    · go_wp2
      go_round
      case rel => exact .inr (.inr (.inl ⟨by go_num, rfl, rfl⟩))
      case measure => simp [intOf]
    · go_wp2
      go_round
      case rel => exact .inr (.inr (.inr (.inl ⟨by go_num, rfl, rfl⟩)))
      case measure => simp [intOf]
    · go_wp2
      go_round
      case rel => exact .inr (.inr (.inr (.inr ⟨by go_num, rfl, rfl⟩)))
      case measure => simp [intOf]
    · go_wp2
      have V1a := V1 w.drew ⟨below_drew (Below.refl _ _)⟩
      have V1b := fun n => V1 (w.drewN n) ⟨pw_below_drewN (Below.refl _ _) n⟩
      have V1c := fun n => V1 (w.drew.drewN n) ⟨pw_below_drewN (below_drew (Below.refl _ _)) n⟩
      have V1d := fun n => V1 (w.drewN n).drew ⟨below_drew (pw_below_drewN (Below.refl _ _) n)⟩
      go_region_with
        (first
          | (go_at_call 58; refine (S1 _ (by repeat (first | exact Below.refl _ _ | apply below_alloc | apply below_drew | apply pw_below_drewN))).mono ?_; rintro e w' ⟨rfl, nd, rfl⟩)
          | (go_at_call 57; refine (P1 _).mono ?_; rintro e w5 ⟨v5, rfl, ho5, hb5, _⟩; have HBP : Aside0 (Below w.heap.size w w5) := ⟨below_step (by repeat (first | exact Below.refl _ _ | apply below_alloc | apply below_drew | apply pw_below_drewN)) hb5⟩; have hcv5 := own_string (P := Tryd.prog) Tryd.underlying36 Tryd.underlying5 Tryd.underlying9 (Kd.own_of_R ho5); have hcv6 := V1 _ HBP; clear ho5 hb5))
      all_goals
        have HBN := HBP
        obtain ⟨W5, hW5⟩ : ∃ W5, w5 = W5 := ⟨_, rfl⟩
        rw [hW5] at HBP ⊢
        clear hcv5 hcv6 hW5 HBN
        go_wp2_with (first
          | ((with_reducible refine gate_dst (N := 66) rfl ?_); refine Kd.R_lit (Kd.int .u8) _ 5 ?hg (N := 66) ?hd (xs := ([] : List Int)) (inner := []) (ok := fun _ => True) (okp := fun _ => True) ?hr ?hp (fun _ hk => hk) trivial (Below.refl _ _) (Nat.le_refl _) (by simp) ?_; (case hd => rfl); (case hg => rfl); (case hr => first | (go_simp; done) | (go_simp; rfl)); (case hp => exact (Reps.none _ _)); intro v1 w1 ho hb hg_ hn_; have HO := Aside0.mk ho; have HB := Aside0.mk hb; clear ho hb hg_ hn_)
          | ((with_reducible refine gate_builtin (b := .append) (xs := #[.tmp 66, .tmp 74]) rfl ?_); at_builtin; refine Kd.R_append_rows (Kd.int .u8) (w0 := W5) W5.heap.size rfl (.tmp 66) (.tmp 74) 36 5 (.int .u8 0) 1 rfl Tryd.underlying36 P.info5 rfl (by decide) (by omega) v1 [] bo _ _ _ (fun _ => True) (fun _ => False) rfl rfl HO.out (Kd.C_below HCB.out (below_step HBP.out HB.out)) (fun _ _ h => h) (fun _ h => h.elim) (fun _ _ => trivial) HB.out HB.out.size (by have := HBL.out; simp; omega) ?_; intro v2 w2 ho hb hg_ hn_; obtain ⟨A2, c2, rfl⟩ := Kd.R_slice ho; have HO2 := Aside0.mk ho; have HB2 := Aside0.mk hb; clear ho hb hg_ hn_))
        have hr2 := Kd.R_reads' HO2.out
        simp only [List.nil_append] at hr2
        have HR2 := Aside0.mk hr2.2.2
        have HC2 := Aside0.mk hr2.2.1
        have HBW := Aside0.mk (below_step HBP.out HB2.out)
        clear hr2
        have V3 : ∀ W, Aside0 (Below w2.heap.size w2 W) → (convert 36 9 (.slice (some a812) 4 (c - 8))).run Tryd.prog W = .ok (.string (strOfNums l812)) W := fun W h => V2 W (below_step HBW.out h.out)
        have S3 := fun W (h : Below w2.heap.size w2 W) => P.racewayref02_Sum.calls K3 A2 c2 bo _ W (Kd.C_below HR2.out h) HC2.out HK3.out
        have V3a := V3 w2.drew ⟨below_drew (Below.refl _ _)⟩
        have V3b := fun n => V3 (w2.drewN n) ⟨pw_below_drewN (Below.refl _ _) n⟩
        have V3c := fun n => V3 (w2.drew.drewN n) ⟨pw_below_drewN (below_drew (Below.refl _ _)) n⟩
        have V3d := fun n => V3 (w2.drewN n).drew ⟨below_drew (pw_below_drewN (Below.refl _ _) n)⟩
        go_region_with
          (first
            | (go_at_call 58; refine (S3 _ (by repeat (first | exact Below.refl _ _ | apply below_alloc | apply below_drew | apply pw_below_drewN))).mono ?_; rintro e w' ⟨rfl, nd, rfl⟩)
            | (go_at_call 57; refine (P2 _).mono ?_; rintro e w7 ⟨v7, rfl, ho7, hb7, _⟩; have HBQ : Aside0 (Below w2.heap.size w2 w7) := ⟨below_step (by repeat (first | exact Below.refl _ _ | apply below_alloc | apply below_drew | apply pw_below_drewN)) hb7⟩; have hcv7 := own_string (P := Tryd.prog) Tryd.underlying36 Tryd.underlying5 Tryd.underlying9 (Kd.own_of_R ho7); have hcv8 := V3 _ HBQ; clear ho7 hb7))
        all_goals
          go_wp2
          go_ret3
          exact ⟨⟨_, by rfl, Kd.R_lower (by have := Kd.R_below HO2.out HBQ.out; rw [List.nil_append] at this; exact this) HBP.out.size⟩, below_step HBW.out HBQ.out⟩

set_option maxHeartbeats 8000000 in
set_option maxRecDepth 100000 in
theorem rnext_body (a : Addr) (c : Nat) (f : List Int) (w : World) (hr : Kd.C (Kd.int .u8) w (some a) f.length f) (hc : f.length ≤ c) (hx : isBytes f) (hl : f.length ≤ 1000000) (h12 : 12 ≤ f.length)
    (hA : crcSum (nats (f.take 4)) = le4 (f.drop 4)) (hN : le4 f ≤ 65536) (hM : le4 f ≤ f.length - 12) (hS : crcSum (nats ((f.drop 12).take (le4 f))) ≠ le4 (f.drop 8)) :
    Calls Tryd.prog 33 #[.slice (some a) f.length c, .int .i64 0] w fun e w' => (∃ code : Int, code ≠ 0 ∧ e = .returned (.tuple #[.slice none 0 0, .int .i64 0, .int .i64 code])) ∧ Below w.heap.size w w' := by
  obtain ⟨x0, l0, e0⟩ := byte_at hx 0
  obtain ⟨x1, l1, e1⟩ := byte_at hx 1
  obtain ⟨x2, l2, e2⟩ := byte_at hx 2
  obtain ⟨x3, l3, e3⟩ := byte_at hx 3
  obtain ⟨ad0, he0, hc0⟩ := Kd.at_int hr 0 (by omega) (by omega)
  obtain ⟨ad1, he1, hc1⟩ := Kd.at_int hr 1 (by omega) (by omega)
  obtain ⟨ad2, he2, hc2⟩ := Kd.at_int hr 2 (by omega) (by omega)
  obtain ⟨ad3, he3, hc3⟩ := Kd.at_int hr 3 (by omega) (by omega)
  obtain rfl := Option.some.inj he0
  obtain rfl := Option.some.inj he1
  obtain rfl := Option.some.inj he2
  obtain rfl := Option.some.inj he3
  rw [show rd f 0 = (x0 : Int) from e0] at hc0
  rw [show rd f 1 = (x1 : Int) from e1] at hc1
  rw [show rd f 2 = (x2 : Int) from e2] at hc2
  rw [show rd f 3 = (x3 : Int) from e3] at hc3
  simp [Addr.add] at hc0 hc1 hc2 hc3
  obtain ⟨n, hn⟩ : ∃ n, x0 + 256 * x1 + 65536 * x2 + 16777216 * x3 = n := ⟨_, rfl⟩
  have hle : le4 f = n := by
    unfold le4
    rw [e0, e1, e2, e3]
    simp only [Int.toNat_natCast]
    exact hn
  have HR := Aside0.mk hr
  have HX := Aside0.mk hx
  obtain ⟨s1, hs1⟩ : ∃ s, crcSum (nats (f.take 4)) = s := ⟨_, rfl⟩
  obtain ⟨l04, hl04⟩ : ∃ l, f.take 4 = l := ⟨_, rfl⟩
  obtain ⟨l48, hl48⟩ : ∃ l, (f.drop 4).take 4 = l := ⟨_, rfl⟩
  have hb04 : isBytes l04 := by rw [← hl04]; exact isBytes_take _ hx
  have hn04 : l04.length = 4 := by rw [← hl04, List.length_take]; omega
  have hs1lt : s1 < 4294967296 := by rw [← hs1, hl04]; exact crcSum_lt _ (isBytes.nats hb04)
  obtain ⟨K1, hK1⟩ := (rsum_ev l04 hb04 (by omega)).get
  rw [← hl04, hs1, hl04] at hK1
  obtain ⟨K2, hK2⟩ := (rput_ev [] s1 hs1lt (by simp)).get
  rw [List.nil_append] at hK2
  obtain ⟨a04, hc04, hq04⟩ := cut_lohi a f.length c 0 4 (by omega) (by omega) hc
  obtain ⟨a48, hc48, hq48⟩ := cut_lohi a f.length c 4 8 (by omega) (by omega) hc
  have hd04 : ∀ W, (Instr.slice 36 (.slice (some a) f.length c) (some (.int .i64 0)) (some (.int .i64 4)) none).run Tryd.prog W = .ok (.slice (some a04) 4 c) W := fun W => hc04 W
  have hd48 : ∀ W, (Instr.slice 36 (.slice (some a) f.length c) (some (.int .i64 4)) (some (.int .i64 8)) none).run Tryd.prog W = .ok (.slice (some a48) 4 (c - 4)) W := fun W => hc48 W
  have S1 := fun W (h : Below w.heap.size w W) => P.racewayref02_Sum.calls K1 (some a04) c l04 _ W (by have := hq04 _ _ (Kd.C_below HR.out h); rw [hn04, ← hl04]; exact this) (by omega) hK1
  rw [hn04] at S1
  have hl48' : (f.take 8).drop 4 = l48 := by rw [← hl48, List.drop_take]
  have V1 := fun W (h : Aside0 (Below w.heap.size w W)) => Kd.C_string (P := Tryd.prog) (A := some a48) (c := c - 4) (n := 4) Tryd.underlying36 Tryd.underlying5 Tryd.underlying9 (show Kd.C (Kd.int .u8) W (some a48) 4 l48 by have := hq48 _ _ (Kd.C_below HR.out h.out); rw [hl48'] at this; exact this)
  have P1 := fun W => P.racewayref02_put.calls K2 (fun _ => False) (.slice none 0 0) [] s1 _ W W (Below.refl _ _) (Kd.R_nil _ _ _ _ _) hK2
  have h48 : l48 = four (le4 (f.drop 4)) := by rw [← hl48, four_le4 _ (isBytes_drop _ hx) (by rw [List.length_drop]; omega)]
  have hb48 : isBytes l48 := by rw [h48]; exact four_bytes _
  have hlt48 := le4_lt (f.drop 4) (isBytes_drop _ hx)
  have same48 : strOfNums (four s1) = strOfNums l48 ↔ s1 = le4 (f.drop 4) := by
    constructor
    · intro h
      have h2 := strOf_inj (four_bytes _) hb48 h
      rw [h48] at h2
      have h3 := le4_four s1 [] hs1lt
      rw [h2, le4_four _ [] hlt48] at h3
      exact h3.symm
    · intro h; rw [h48, h]
  rw [hs1] at hA
  have hne : ((strOfNums (four s1)).toList == (strOfNums l48).toList) = true := by rw [toList_beq, decide_eq_true (same48.2 hA)]
  have hw4 : IntKind.i64.wrap 4 = 4 := rfl
  have hw8 : IntKind.i64.wrap 8 = 8 := rfl
  have hw12 : IntKind.i64.wrap 12 = 12 := rfl
  rw [hle] at hN
  have hN1 : decide ((65536 : Int) < (n : Int)) = false := decide_eq_false (by omega)
  have hwl : IntKind.i64.wrap ((f.length : Int) - 12) = (f.length : Int) - 12 := by rw [IntKind.wrap_i64]; omega
  rw [hle] at hM
  have hM1 : decide ((f.length : Int) - 12 < (n : Int)) = false := decide_eq_false (by omega)
  have hwn : IntKind.i64.wrap (12 + (n : Int)) = 12 + (n : Int) := by rw [IntKind.wrap_i64]; omega
  obtain ⟨ab, hcb, hqb⟩ := cut_lohi a f.length c 12 (12 + n) (by omega) (by omega) hc
  obtain ⟨s2, hs2⟩ : ∃ s, crcSum (nats ((f.drop 12).take n)) = s := ⟨_, rfl⟩
  obtain ⟨bo, hbo⟩ : ∃ l, (f.drop 12).take n = l := ⟨_, rfl⟩
  have hbo' : (f.take (12 + n)).drop 12 = bo := by rw [← hbo, List.drop_take, Nat.add_sub_cancel_left]
  have hbb : isBytes bo := by rw [← hbo]; exact isBytes_take _ (isBytes_drop _ hx)
  have hbn : bo.length = n := by rw [← hbo, List.length_take, List.length_drop]; omega
  have hdb : ∀ W, (Instr.slice 36 (.slice (some a) f.length c) (some (.int .i64 12)) (some (.int .i64 (12 + (n : Int)))) none).run Tryd.prog W = .ok (.slice (some ab) bo.length (c - 12)) W := fun W => by have := hcb W; rw [show 12 + n - 12 = n by omega] at this; rw [hbn]; exact this
  have HCB := Aside0.mk (show Kd.C (Kd.int .u8) w (some ab) bo.length bo by have := hqb _ _ hr; rw [hbo', show 12 + n - 12 = n by omega] at this; rw [hbn]; exact this)
  obtain ⟨l812, hl812⟩ : ∃ l, (f.drop 8).take 4 = l := ⟨_, rfl⟩
  have hs2lt : s2 < 4294967296 := by rw [← hs2, hbo]; exact crcSum_lt _ (isBytes.nats hbb)
  obtain ⟨K3, hK3⟩ := (rsum_ev bo hbb (by omega)).get
  rw [← hbo, hs2, hbo] at hK3
  obtain ⟨K4, hK4⟩ := (rput_ev [] s2 hs2lt (by simp)).get
  rw [List.nil_append] at hK4
  obtain ⟨a812, hc812, hq812⟩ := cut_lohi a f.length c 8 12 (by omega) (by omega) hc
  have hd812 : ∀ W, (Instr.slice 36 (.slice (some a) f.length c) (some (.int .i64 8)) (some (.int .i64 12)) none).run Tryd.prog W = .ok (.slice (some a812) 4 (c - 8)) W := fun W => hc812 W
  have hl812' : (f.take 12).drop 8 = l812 := by rw [← hl812, List.drop_take]
  have V2 := fun W (h : Below w.heap.size w W) => Kd.C_string (P := Tryd.prog) (A := some a812) (c := c - 8) (n := 4) Tryd.underlying36 Tryd.underlying5 Tryd.underlying9 (show Kd.C (Kd.int .u8) W (some a812) 4 l812 by have := hq812 _ _ (Kd.C_below HR.out h); rw [hl812'] at this; exact this)
  have P2 := fun W => P.racewayref02_put.calls K4 (fun _ => False) (.slice none 0 0) [] s2 _ W W (Below.refl _ _) (Kd.R_nil _ _ _ _ _) hK4
  have HK3 := Aside0.mk hK3
  have h812 : l812 = four (le4 (f.drop 8)) := by rw [← hl812, four_le4 _ (isBytes_drop _ hx) (by rw [List.length_drop]; omega)]
  have hb812 : isBytes l812 := by rw [h812]; exact four_bytes _
  have hlt812 := le4_lt (f.drop 8) (isBytes_drop _ hx)
  have same812 : strOfNums (four s2) = strOfNums l812 ↔ s2 = le4 (f.drop 8) := by
    constructor
    · intro h
      have h2 := strOf_inj (four_bytes _) hb812 h
      rw [h812] at h2
      have h3 := le4_four s2 [] hs2lt
      rw [h2, le4_four _ [] hlt812] at h3
      exact h3.symm
    · intro h; rw [h812, h]
  rw [hle] at hS
  rw [hs2] at hS
  have hne2 : ((strOfNums (four s2)).toList == (strOfNums l812).toList) = false := by rw [toList_beq, decide_eq_false (fun h => hS (same812.1 h))]
  clear same48 hA hle hS
  have HBL := Aside0.mk hbn
  clear hbn same812 hcb hqb hbb hbo' hs2 h812 hb812 hlt812 hl812 hl812' hc812 hq812 hK3 hK4 hs2lt
  clear hc04 hq04 hc48 hq48 hK1 hK2 hr hx e0 e1 e2 e3 he0 he1 he2 he3 h48 hb48 hlt48 hl48 hl48' hs1 hl04 hb04 hn04
  go_enter Tryd.func33, Tryd.ntmps33
  go_wp2
  go_loop [7, 8, 9] (fun v wt i => (v = .int .i64 0 ∧ wt = .int .i64 1 ∧ i = .int .i64 0) ∨ (v = .int .i64 x0 ∧ wt = .int .i64 256 ∧ i = .int .i64 1) ∨ (v = .int .i64 (x0 + 256 * x1 : Nat) ∧ wt = .int .i64 65536 ∧ i = .int .i64 2) ∨
    (v = .int .i64 (x0 + 256 * x1 + 65536 * x2 : Nat) ∧ wt = .int .i64 16777216 ∧ i = .int .i64 3) ∨ (v = .int .i64 n ∧ wt = .int .i64 4294967296 ∧ i = .int .i64 4)) (fun _ _ i => 4 - (intOf i).toNat)
  case atStart => exact .inl ⟨rfl, rfl, rfl⟩
  case round =>
    rcases hrel with ⟨rfl, rfl, rfl⟩ | ⟨rfl, rfl, rfl⟩ | ⟨rfl, rfl, rfl⟩ | ⟨rfl, rfl, rfl⟩ | ⟨rfl, rfl, rfl⟩
    · go_wp2
      go_round
      case rel => exact .inr (.inl ⟨by go_num, rfl, rfl⟩)
      case measure => simp [intOf]
    · go_wp2
      go_round
      case rel => exact .inr (.inr (.inl ⟨by go_num, rfl, rfl⟩))
      case measure => simp [intOf]
    · go_wp2
      go_round
      case rel => exact .inr (.inr (.inr (.inl ⟨by go_num, rfl, rfl⟩)))
      case measure => simp [intOf]
    · go_wp2
      go_round
      case rel => exact .inr (.inr (.inr (.inr ⟨by go_num, rfl, rfl⟩)))
      case measure => simp [intOf]
    · go_wp2
      have V1a := V1 w.drew ⟨below_drew (Below.refl _ _)⟩
      have V1b := fun n => V1 (w.drewN n) ⟨pw_below_drewN (Below.refl _ _) n⟩
      have V1c := fun n => V1 (w.drew.drewN n) ⟨pw_below_drewN (below_drew (Below.refl _ _)) n⟩
      have V1d := fun n => V1 (w.drewN n).drew ⟨below_drew (pw_below_drewN (Below.refl _ _) n)⟩
      go_region_with
        (first
          | (go_at_call 58; refine (S1 _ (by repeat (first | exact Below.refl _ _ | apply below_alloc | apply below_drew | apply pw_below_drewN))).mono ?_; rintro e w' ⟨rfl, nd, rfl⟩)
          | (go_at_call 57; refine (P1 _).mono ?_; rintro e w5 ⟨v5, rfl, ho5, hb5, _⟩; have HBP : Aside0 (Below w.heap.size w w5) := ⟨below_step (by repeat (first | exact Below.refl _ _ | apply below_alloc | apply below_drew | apply pw_below_drewN)) hb5⟩; have hcv5 := own_string (P := Tryd.prog) Tryd.underlying36 Tryd.underlying5 Tryd.underlying9 (Kd.own_of_R ho5); have hcv6 := V1 _ HBP; clear ho5 hb5))
      all_goals
        have HBN := HBP
        obtain ⟨W5, hW5⟩ : ∃ W5, w5 = W5 := ⟨_, rfl⟩
        rw [hW5] at HBP ⊢
        clear hcv5 hcv6 hW5 HBN
        go_wp2_with (first
          | ((with_reducible refine gate_dst (N := 66) rfl ?_); refine Kd.R_lit (Kd.int .u8) _ 5 ?hg (N := 66) ?hd (xs := ([] : List Int)) (inner := []) (ok := fun _ => True) (okp := fun _ => True) ?hr ?hp (fun _ hk => hk) trivial (Below.refl _ _) (Nat.le_refl _) (by simp) ?_; (case hd => rfl); (case hg => rfl); (case hr => first | (go_simp; done) | (go_simp; rfl)); (case hp => exact (Reps.none _ _)); intro v1 w1 ho hb hg_ hn_; have HO := Aside0.mk ho; have HB := Aside0.mk hb; clear ho hb hg_ hn_)
          | ((with_reducible refine gate_builtin (b := .append) (xs := #[.tmp 66, .tmp 74]) rfl ?_); at_builtin; refine Kd.R_append_rows (Kd.int .u8) (w0 := W5) W5.heap.size rfl (.tmp 66) (.tmp 74) 36 5 (.int .u8 0) 1 rfl Tryd.underlying36 P.info5 rfl (by decide) (by omega) v1 [] bo _ _ _ (fun _ => True) (fun _ => False) rfl rfl HO.out (Kd.C_below HCB.out (below_step HBP.out HB.out)) (fun _ _ h => h) (fun _ h => h.elim) (fun _ _ => trivial) HB.out HB.out.size (by have := HBL.out; simp; omega) ?_; intro v2 w2 ho hb hg_ hn_; obtain ⟨A2, c2, rfl⟩ := Kd.R_slice ho; have HO2 := Aside0.mk ho; have HB2 := Aside0.mk hb; clear ho hb hg_ hn_))
        have hr2 := Kd.R_reads' HO2.out
        simp only [List.nil_append] at hr2
        have HR2 := Aside0.mk hr2.2.2
        have HC2 := Aside0.mk hr2.2.1
        have HBW := Aside0.mk (below_step HBP.out HB2.out)
        clear hr2
        have V3 : ∀ W, Aside0 (Below w2.heap.size w2 W) → (convert 36 9 (.slice (some a812) 4 (c - 8))).run Tryd.prog W = .ok (.string (strOfNums l812)) W := fun W h => V2 W (below_step HBW.out h.out)
        have S3 := fun W (h : Below w2.heap.size w2 W) => P.racewayref02_Sum.calls K3 A2 c2 bo _ W (Kd.C_below HR2.out h) HC2.out HK3.out
        have V3a := V3 w2.drew ⟨below_drew (Below.refl _ _)⟩
        have V3b := fun n => V3 (w2.drewN n) ⟨pw_below_drewN (Below.refl _ _) n⟩
        have V3c := fun n => V3 (w2.drew.drewN n) ⟨pw_below_drewN (below_drew (Below.refl _ _)) n⟩
        have V3d := fun n => V3 (w2.drewN n).drew ⟨below_drew (pw_below_drewN (Below.refl _ _) n)⟩
        go_region_with
          (first
            | (go_at_call 58; refine (S3 _ (by repeat (first | exact Below.refl _ _ | apply below_alloc | apply below_drew | apply pw_below_drewN))).mono ?_; rintro e w' ⟨rfl, nd, rfl⟩)
            | (go_at_call 57; refine (P2 _).mono ?_; rintro e w7 ⟨v7, rfl, ho7, hb7, _⟩; have HBQ : Aside0 (Below w2.heap.size w2 w7) := ⟨below_step (by repeat (first | exact Below.refl _ _ | apply below_alloc | apply below_drew | apply pw_below_drewN)) hb7⟩; have hcv7 := own_string (P := Tryd.prog) Tryd.underlying36 Tryd.underlying5 Tryd.underlying9 (Kd.own_of_R ho7); have hcv8 := V3 _ HBQ; clear ho7 hb7))
        all_goals
          go_wp2
          go_ret3
          exact ⟨⟨6, by decide, rfl⟩, below_step HBW.out HBQ.out⟩

theorem rnext_short (A : Option Addr) (n c : Nat) (w : World) (hn : n < 12) :
    Calls Tryd.prog 33 #[.slice A n c, .int .i64 0] w fun e w' => e = .returned (.tuple #[.slice none 0 0, .int .i64 0, .int .i64 4]) ∧ w = w' := by
  go_enter Tryd.func33, Tryd.ntmps33
  go_wp2
  go_ret3
  exact ⟨rfl, rfl⟩
/-- The reference's Next at the begin: no frame. -/
theorem rnext_none (A : Option Addr) (c : Nat) (f : List Int) (w : World) (hr : Kd.C (Kd.int .u8) w A f.length f) (hc : f.length ≤ c) (hx : isBytes f) (hl : f.length ≤ 1000000) (hu : unframe f = none) :
    Calls Tryd.prog 33 #[.slice A f.length c, .int .i64 0] w fun e w' => (∃ code : Int, code ≠ 0 ∧ e = .returned (.tuple #[.slice none 0 0, .int .i64 0, .int .i64 code])) ∧ Below w.heap.size w w' := by
  by_cases h12 : f.length < 12
  · refine (rnext_short A f.length c w h12).mono ?_
    rintro e w' ⟨rfl, rfl⟩
    exact ⟨⟨4, by decide, rfl⟩, Below.refl _ _⟩
  · obtain ⟨a, rfl, _⟩ := hr.2.2 (by omega)
    have h12' : 12 ≤ f.length := by omega
    unfold unframe at hu
    by_cases hA : crcSum (nats (f.take 4)) = le4 (f.drop 4)
    · by_cases hN : le4 f ≤ 65536
      · by_cases hM : le4 f ≤ f.length - 12
        · by_cases hS : crcSum (nats ((f.drop 12).take (le4 f))) = le4 (f.drop 8)
          · rw [if_pos ⟨h12', hA, hN, hM, hS⟩] at hu
            cases hu
          · exact rnext_body a c f w hr hc hx hl h12' hA hN hM hS
        · exact rnext_cut a c f w hr hc hx hl h12' hA hN hM
      · exact rnext_long a c f w hr hc hx hl h12' hA (by omega)
    · exact rnext_head a c f w hr hc hx hl h12' hA
/-- The reference's Next at the begin: a frame. -/
theorem rnext_some (a : Addr) (c : Nat) (f b : List Int) (w : World) (hr : Kd.C (Kd.int .u8) w (some a) f.length f) (hc : f.length ≤ c) (hx : isBytes f) (hl : f.length ≤ 1000000) (hu : unframe f = some b) :
    Calls Tryd.prog 33 #[.slice (some a) f.length c, .int .i64 0] w fun e w' => (∃ v, e = .returned (.tuple #[v, .int .i64 (12 + (b.length : Int)), .int .i64 0]) ∧ Kd.R (Kd.int .u8) 5 w' w.heap.size (fun _ => True) v b) ∧ Below w.heap.size w w' := by
  unfold unframe at hu
  split at hu
  case isFalse => cases hu
  rename_i hg
  obtain ⟨h1, h2, h3, h4, h5⟩ := hg
  obtain rfl := Option.some.inj hu
  have e : ((f.drop 12).take (le4 f)).length = le4 f := by rw [List.length_take, List.length_drop, Nat.min_eq_left h4]
  rw [e]
  exact rnext_good a c f w hr hc hx hl h1 h2 h3 h4 h5
end Go.Proofs.YteajidciahoboaaDoor.H
