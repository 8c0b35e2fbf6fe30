import Derived.Test.YteajidciahoboaaDoorCb4
-- L5
set_option linter.unusedVariables false
set_option linter.unusedSimpArgs false
namespace Go.Proofs.YteajidciahoboaaDoor.H
open Go.RowKit Go.Shelf Go.Proofs.YteajidciahoboaaDoorW.PrintWords Go.Proofs.YteajidciahoboaaDoorW.PrintLast Go.Proofs.YteajidciahoboaaDoorW.PrintMore Go.Proofs.YteajidciahoboaaDoor.M

theorem encode_length (f : List Int) : (encode f).length = 4 * ((f.length + 2) / 3) := by
  match f with
  | [] => rfl
  | [_] => show 4 = 4 * ((1 + 2) / 3); decide
  | [_, _] => show 4 = 4 * ((2 + 2) / 3); decide
  | a :: b :: c :: r =>
    have ih := encode_length r
    have : encode (a :: b :: c :: r) = enc3 [a, b, c] ++ encode r := rfl
    rw [this, List.length_append, ih]
    show 4 + 4 * ((r.length + 2) / 3) = 4 * ((r.length + 3 + 2) / 3)
    omega
theorem encode_head (x0 x1 x2 x3 x4 x5 : Int) (r : List Int) : (encode (x0 :: x1 :: x2 :: x3 :: x4 :: x5 :: r)).take 8 = encode [x0, x1, x2, x3, x4, x5] := by
  have h1 : encode (x0 :: x1 :: x2 :: x3 :: x4 :: x5 :: r) = enc3 [x0, x1, x2] ++ (enc3 [x3, x4, x5] ++ encode r) := rfl
  have h2 : encode [x0, x1, x2, x3, x4, x5] = enc3 [x0, x1, x2] ++ (enc3 [x3, x4, x5] ++ []) := rfl
  rw [h1, h2]
  rfl
theorem encode_first {f g : List Int} (hf : isBytes f) (hg : isBytes g) (lf : 6 ≤ f.length) (lg : 6 ≤ g.length) (h : (encode f).take 8 = (encode g).take 8) : f.take 6 = g.take 6 := by
  match f, g, lf, lg with
  | x0 :: x1 :: x2 :: x3 :: x4 :: x5 :: r, y0 :: y1 :: y2 :: y3 :: y4 :: y5 :: s, _, _ =>
    rw [encode_head, encode_head] at h
    have h1 : isBytes [x0, x1, x2, x3, x4, x5] := fun x hx => hf x (by simp only [List.mem_cons, List.not_mem_nil, or_false] at hx ⊢; omega)
    have h2 : isBytes [y0, y1, y2, y3, y4, y5] := fun x hx => hg x (by simp only [List.mem_cons, List.not_mem_nil, or_false] at hx ⊢; omega)
    exact encode_inj h1 h2 h
/-- Two handles that begin alike are of one length. -/
theorem handles_length {cs ds : List Int} {r r' : Rc} (h : IsHandle cs r) (h' : IsHandle ds r') (he : cs.take 8 = ds.take 8) : cs.length = ds.length := by
  have hl := body_len r h.1
  have hl' := body_len r' h'.1
  have e1 := encode_first (frame_bytes (body_bytes r)) (frame_bytes (body_bytes r')) (by rw [frame_len]; omega) (by rw [frame_len]; omega) (by rw [← h.2, ← h'.2]; exact he)
  have e2 : le4 (frame r.body) = r.body.length := le4_four _ _ (by omega)
  have e3 : le4 (frame r'.body) = r'.body.length := le4_four _ _ (by omega)
  rw [← le4_take _ 6 (by decide), e1, le4_take _ 6 (by decide), e3] at e2
  rw [h.2, h'.2, encode_length, encode_length, frame_len, frame_len, e2]
theorem handle_long {cs : List Int} {r : Rc} (h : IsHandle cs r) : 16 ≤ cs.length ∧ cs.length ≤ 112 := by
  have hl := body_len r h.1
  rw [h.2, encode_length, frame_len]
  omega

/-- The place of the sign that is turned. -/
theorem place_eq (at_ : Int) (n : Nat) (h1 : -9223372036854775808 ≤ at_) (h2 : at_ ≤ 9223372036854775807) (hn : 0 < n) (hn2 : n ≤ 1000) :
    ∃ i : Nat, i < n ∧ Int.tmod (wrap64 (Int.tmod at_ (n : Int) + (n : Int))) (n : Int) = (i : Int) := by
  have hlt : (Int.tmod at_ (n : Int)) < n := Int.tmod_lt_of_pos _ (by omega)
  have hgt : -(n : Int) < Int.tmod at_ (n : Int) := by
    have := Int.lt_tmod_of_pos at_ (show (0 : Int) < n by omega)
    exact this
  rw [w64 (by omega) (by omega)]
  refine ⟨((Int.tmod at_ (n : Int) + (n : Int)).tmod (n : Int)).toNat, ?_, ?_⟩
  · have := Int.tmod_lt_of_pos (Int.tmod at_ (n : Int) + (n : Int)) (show (0 : Int) < n by omega)
    have := Int.tmod_nonneg (n : Int) (show 0 ≤ Int.tmod at_ (n : Int) + (n : Int) by omega)
    omega
  · have := Int.tmod_nonneg (n : Int) (show 0 ≤ Int.tmod at_ (n : Int) + (n : Int) by omega)
    omega
theorem told_some {s : ByteArray} {r : Rc} (h : IsHandle (bytesOf s) r) : told s = (r.q, r.g, r.s, r.c, 0) := by
  unfold told
  rw [openOf_some h]
theorem told_none {s : ByteArray} (h : ∀ r, ¬ IsHandle (bytesOf s) r) : told s = (0, ⟨#[]⟩, 0, 0, 12) := by
  unfold told
  rw [openOf_none h]
theorem open_f (s : ByteArray) (hs : s.size ≤ 131072) : P.ticket_Open.f s = some (told s) := by unfold P.ticket_Open.f; rw [if_pos hs]
theorem nil_toList : ((⟨#[]⟩ : ByteArray).toList == ([] : List UInt8)) = true := by decide +kernel

theorem j1_ok : ∀ k, 0 < k → P.racewaylaw27_TicketBack.j1 k (12 != (12 : Int)) 0 ⟨#[]⟩ 0 0 0 ⟨#[]⟩ 0 0 = some true := by
  intro k hk
  obtain ⟨j, rfl⟩ : ∃ j, k = j + 1 := ⟨k - 1, by omega⟩
  rw [P.racewaylaw27_TicketBack.j1, if_neg (by decide), if_pos (by rw [nil_toList]; rfl), if_pos (by rw [nil_toList]; rfl)]
  rfl
theorem bytesOf_append (a b : ByteArray) : bytesOf (a ++ b) = bytesOf a ++ bytesOf b := by simp [bytesOf, ByteArray.data_append]
theorem bytesOf_extract (a : ByteArray) (i j : Nat) : bytesOf (a.extract i j) = ((bytesOf a).take j).drop i := by
  simp [bytesOf, ByteArray.data_extract, List.map_drop, List.map_take, List.drop_take]

theorem back_pure (q : Int) (g : ByteArray) (s c : Int) (at_ x : Int) (h1 : -9223372036854775808 ≤ at_) (h2 : at_ ≤ 9223372036854775807) (hx : 0 ≤ x ∧ x < 256) :
    ∃ k, P.racewaylaw27_TicketBack.f k q g s c at_ x = some true := by
  refine ⟨2, ?_⟩
  unfold P.racewaylaw27_TicketBack.f
  rw [few_eq]
  simp only [Option.bind_some, P.ticket_Handle.f]
  obtain ⟨r, hr⟩ : ∃ r : Rc, r = ⟨q, firstOf g 60, s, c⟩ := ⟨_, rfl⟩
  rw [← hr]
  obtain ⟨h, e, hh⟩ : ∃ h e, handleOf r = (h, e) := ⟨_, _, rfl⟩
  rw [hh]
  simp only
  by_cases he : e = 0
  case neg =>
    rw [if_neg he]
    have : h = ⟨#[]⟩ := by
      unfold handleOf at hh
      split at hh
      · split at hh
        · simp only [Prod.mk.injEq] at hh; exact absurd hh.2.symm he
        · simp only [Prod.mk.injEq] at hh; exact hh.1.symm
      · simp only [Prod.mk.injEq] at hh; exact hh.1.symm
    rw [this, if_pos (by decide +kernel)]
    rfl
  subst he
  rw [if_pos rfl]
  have hH : IsHandle (bytesOf h) r := handle_isHandle (bytesOf_bytes h) (by rw [hh, strOf_bytesOf])
  have hlen := handle_long hH
  rw [bytesOf_length] at hlen
  have ht := told_some hH
  have hrq : r.q = q := by rw [hr]
  have hrg : r.g = firstOf g 60 := by rw [hr]
  have hrs : r.s = s := by rw [hr]
  have hrc : r.c = c := by rw [hr]
  rw [hrq, hrg, hrs, hrc] at ht
  rw [open_f h (by omega), ht]
  simp only [Option.bind_some, beq_self_eq_true, Bool.not_true, Bool.or_self, if_false, if_true, Bool.false_eq_true]
  rw [show ((h.size : Int) == 0) = false by rw [beq_eq_false_iff_ne]; omega]
  obtain ⟨i, hi, hpl⟩ := place_eq at_ h.size h1 h2 (by omega) (by omega)
  rw [P.racewaylaw27_TicketBack.j0, if_neg (by decide), if_neg (by omega), hpl, if_pos (by omega), if_pos (by omega)]
  simp only [Option.bind_some, Int.toNat_natCast]
  rw [w64 (n := (i : Int) + 1) (by omega) (by omega), show ((i : Int) + 1).toNat = i + 1 by omega]
  have hsx : (strOfNums [x]).size = 1 := by rw [strOfNums_size]; rfl
  rw [if_pos (by rw [ByteArray.size_extract, hsx]; omega), if_pos (by omega), if_pos (by omega), if_pos (by rw [ByteArray.size_append, ByteArray.size_extract, ByteArray.size_extract, hsx]; omega)]
  obtain ⟨u1, hu1⟩ : ∃ u, (h.extract 0 i ++ strOfNums [x]) ++ h.extract (i + 1) h.size = u := ⟨_, rfl⟩
  obtain ⟨u2, hu2⟩ : ∃ u, h.extract 0 i = u := ⟨_, rfl⟩
  obtain ⟨u3, hu3⟩ : ∃ u, h ++ (⟨#[65, 65, 65, 65]⟩ : ByteArray) = u := ⟨_, rfl⟩
  have su1 : u1.size ≤ 131072 := by rw [← hu1, ByteArray.size_append, ByteArray.size_append, ByteArray.size_extract, ByteArray.size_extract, hsx]; omega
  have su2 : u2.size = i := by rw [← hu2, ByteArray.size_extract]; omega
  have e4 : (⟨#[65, 65, 65, 65]⟩ : ByteArray).size = 4 := rfl
  have su3 : u3.size = h.size + 4 := by rw [← hu3, ByteArray.size_append, e4]
  have b1 : bytesOf u1 = (bytesOf h).take i ++ (x :: (bytesOf h).drop (i + 1)) := by
    rw [← hu1, bytesOf_append, bytesOf_append, bytesOf_extract, bytesOf_extract, bytesOf_strOf _ (by intro y hy; simp only [List.mem_cons, List.not_mem_nil, or_false] at hy; subst hy; exact hx)]
    rw [List.drop_zero, List.take_of_length_le (l := bytesOf h) (i := h.size) (by rw [bytesOf_length]; omega)]
    simp
  have b2 : bytesOf u2 = (bytesOf h).take i := by rw [← hu2, bytesOf_extract, List.drop_zero]
  have b3 : bytesOf u3 = bytesOf h ++ [65, 65, 65, 65] := by rw [← hu3, bytesOf_append]; rfl
  have hL : (bytesOf h).length = h.size := bytesOf_length h
  have n2 : ∀ r', ¬ IsHandle (bytesOf u2) r' := by
    intro r' hr'
    have l2 := handle_long hr'
    rw [bytesOf_length] at l2
    have := handles_length hr' hH (by rw [b2, List.take_take, Nat.min_eq_left (by omega)])
    rw [bytesOf_length, bytesOf_length] at this
    omega
  have n3 : ∀ r', ¬ IsHandle (bytesOf u3) r' := by
    intro r' hr'
    have := handles_length hr' hH (by rw [b3, List.take_append_of_le_length (by omega)])
    rw [bytesOf_length, bytesOf_length] at this
    omega
  have t2 := told_none n2
  have t3 := told_none n3
  rw [hu1, open_f u1 su1, hu2, open_f u2 (by omega), t2]
  simp only [Option.bind_some]
  rw [if_pos (by omega), hu3, open_f u3 (by omega), t3]
  simp only [Option.bind_some]
  rw [if_pos (by omega : (i : Int) < (h.size : Int)), if_pos trivial, j1_ok 1 (by decide)]
  by_cases hxc : x = bt h i
  · rw [if_pos hxc]
  rw [if_neg hxc]
  by_cases hz : (told u1).2.2.2.2 = 0
  case neg => rw [if_neg hz]
  rw [if_pos hz]
  have hno : ¬ IsHandle (bytesOf u1) r := by
    intro hr1
    have he : bytesOf u1 = bytesOf h := by rw [hr1.2, hH.2]
    rw [b1] at he
    have hg := congrArg (fun l => l.getD i 0) he
    rw [List.getD_eq_getElem?_getD, List.getElem?_append_right (by rw [List.length_take]; omega), List.length_take, Nat.min_eq_left (by omega), Nat.sub_self, List.getElem?_cons_zero, Option.getD_some] at hg
    apply hxc
    rw [hg, ← rd_bytesOf]
    unfold rd
    simp
  rw [if_neg]
  intro hall
  simp only [Bool.and_eq_true, beq_iff_eq] at hall
  unfold told at hz hall
  cases ho : openOf u1 with
  | none => rw [ho] at hz; exact absurd hz (by decide)
  | some r1 =>
    rw [ho] at hall
    obtain ⟨a1, a2, a3, a4⟩ := hall
    have hr1 := openOf_isHandle ho
    have a2' : r1.g = firstOf g 60 := by
      have := (toList_beq r1.g (firstOf g 60)).symm.trans (beq_iff_eq.2 a2)
      exact of_decide_eq_true this
    have : r1 = r := by
      rw [hr]
      cases r1
      simp only at a1 a2' a3 a4
      subst a1 a2' a3 a4
      rfl
    rw [this] at hr1
    exact hno hr1
end Go.Proofs.YteajidciahoboaaDoor.H
