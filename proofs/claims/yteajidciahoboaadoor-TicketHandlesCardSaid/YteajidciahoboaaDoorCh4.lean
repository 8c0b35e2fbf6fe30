import Derived.Test.YteajidciahoboaaDoorCh3
import Derived.Test.YteajidciahoboaaDoorCh1
-- P4
set_option linter.unusedVariables false
set_option linter.unusedSimpArgs false
namespace Go.Proofs.YteajidciahoboaaDoor.H
open Go.RowKit Go.Shelf Go.Proofs.YteajidciahoboaaDoorW.PrintWords Go.Proofs.YteajidciahoboaaDoorW.PrintLast Go.Proofs.YteajidciahoboaaDoorW.PrintMore Go.Proofs.YteajidciahoboaaDoor.M

def zs3 : List Int → List Nat
  | [] => []
  | [a] => [a.toNat / 4, a.toNat % 4 * 16]
  | [a, b] => [a.toNat / 4, a.toNat % 4 * 16 + b.toNat / 16, b.toNat % 16 * 4]
  | a :: b :: c :: r => a.toNat / 4 :: (a.toNat % 4 * 16 + b.toNat / 16) :: (b.toNat % 16 * 4 + c.toNat / 64) :: c.toNat % 64 :: zs3 r
def eqs (n : Nat) : List Int := List.replicate ((4 - n % 4) % 4) 61
theorem encode_zs (f : List Int) : encode f = (zs3 f).map sgn ++ eqs (zs3 f).length := by
  match f with
  | [] => rfl
  | [a] => simp [encode, chunks3, enc3, encAt, four6, zs3, eqs, List.replicate]
  | [a, b] => simp [encode, chunks3, enc3, encAt, four6, zs3, eqs, List.replicate]
  | a :: b :: c :: r =>
    have ih := encode_zs r
    have h1 : encode (a :: b :: c :: r) = enc3 [a, b, c] ++ encode r := rfl
    have h2 : eqs (zs3 (a :: b :: c :: r)).length = eqs (zs3 r).length := by unfold eqs; simp only [zs3, List.length_cons]; congr 1; omega
    rw [h1, ih, h2]
    rfl
theorem zs3_lt (f : List Int) (hf : isBytes f) : ∀ z ∈ zs3 f, z < 64 := by
  match f with
  | [] => intro z hz; cases hz
  | [a] =>
    have := hf a (by simp)
    intro z hz
    simp only [zs3, List.mem_cons, List.not_mem_nil, or_false] at hz
    omega
  | [a, b] =>
    have := hf a (by simp)
    have := hf b (by simp)
    intro z hz
    simp only [zs3, List.mem_cons, List.not_mem_nil, or_false] at hz
    omega
  | a :: b :: c :: r =>
    have ih := zs3_lt r (fun x hx => hf x (by simp [hx]))
    have := hf a (by simp)
    have := hf b (by simp)
    have := hf c (by simp)
    intro z hz
    simp only [zs3, List.mem_cons] at hz
    rcases hz with h | h | h | h | h
    · omega
    · omega
    · omega
    · omega
    · exact ih z h
theorem zs3_mod (f : List Int) : (zs3 f).length % 4 ≠ 1 := by
  match f with
  | [] => decide
  | [a] => simp [zs3]
  | [a, b] => simp [zs3]
  | a :: b :: c :: r =>
    have ih := zs3_mod r
    simp only [zs3, List.length_cons]
    omega
theorem unzs_zs (f : List Int) (hf : isBytes f) : unzs (zs3 f) = some f := by
  match f with
  | [] => rfl
  | [a] =>
    have := hf a (by simp)
    rw [zs3, unzs, if_pos (by omega)]
    congr 2
    omega
  | [a, b] =>
    have := hf a (by simp)
    have := hf b (by simp)
    rw [zs3, unzs, if_pos (by omega)]
    congr 2
    · omega
    · congr 1; omega
  | a :: b :: c :: r =>
    have ih := unzs_zs r (fun x hx => hf x (by simp [hx]))
    have := hf a (by simp)
    have := hf b (by simp)
    have := hf c (by simp)
    rw [zs3, unzs.eq_def]
    simp only [ih, Option.map_some, List.cons_append, List.nil_append, Option.some.injEq, List.cons.injEq, and_true]
    refine ⟨?_, ?_, ?_⟩ <;> omega
theorem zs_unzs (zs : List Nat) (hz : ∀ z ∈ zs, z < 64) (o : List Int) (h : unzs zs = some o) : zs3 o = zs ∧ isBytes o := by
  match zs with
  | [] => rw [unzs] at h; cases h; exact ⟨rfl, isBytes_nil⟩
  | [_] => rw [unzs] at h; cases h
  | [x, y] =>
    have hx := hz x (by simp)
    have hy := hz y (by simp)
    rw [unzs] at h
    split at h
    · cases h
      refine ⟨?_, fun q hq => ?_⟩
      · simp only [zs3, Int.toNat_natCast]
        congr 1
        · omega
        · congr 1; omega
      · simp only [List.mem_cons, List.not_mem_nil, or_false] at hq
        omega
    · cases h
  | [x, y, z] =>
    have hx := hz x (by simp)
    have hy := hz y (by simp)
    have hz' := hz z (by simp)
    rw [unzs] at h
    split at h
    · cases h
      refine ⟨?_, fun q hq => ?_⟩
      · simp only [zs3, Int.toNat_natCast]
        congr 1
        · omega
        · congr 1
          · omega
          · congr 1; omega
      · simp only [List.mem_cons, List.not_mem_nil, or_false] at hq
        omega
    · cases h
  | x :: y :: z :: u :: r =>
    have hx := hz x (by simp)
    have hy := hz y (by simp)
    have hz' := hz z (by simp)
    have hu := hz u (by simp)
    rw [unzs.eq_def] at h
    simp only [Option.map_eq_some_iff] at h
    obtain ⟨o', ho', rfl⟩ := h
    have ih := zs_unzs r (fun q hq => hz q (by simp [hq])) o' ho'
    refine ⟨?_, fun q hq => ?_⟩
    · simp only [List.cons_append, List.nil_append, zs3, Int.toNat_natCast, ih.1, List.cons.injEq, and_true]
      refine ⟨?_, ?_, ?_, ?_⟩ <;> omega
    · simp only [List.cons_append, List.nil_append, List.mem_cons] at hq
      rcases hq with h | h | h | h
      · omega
      · omega
      · omega
      · exact ih.2 q h
theorem good_encode {body o : List Int} (h : Good body o) : encode o = body ++ eqs body.length ∧ isBytes o := by
  obtain ⟨zs, rfl, hz, hu⟩ := h
  obtain ⟨h1, h2⟩ := zs_unzs zs hz o hu
  rw [encode_zs, h1, List.length_map]
  exact ⟨rfl, h2⟩
theorem encode_good (f : List Int) (hf : isBytes f) : ∃ body, encode f = body ++ eqs body.length ∧ Good body f ∧ body.length % 4 ≠ 1 ∧ body.getLast? ≠ some 61 := by
  refine ⟨(zs3 f).map sgn, by rw [encode_zs, List.length_map], ⟨zs3 f, rfl, zs3_lt f hf, unzs_zs f hf⟩, by rw [List.length_map]; exact zs3_mod f, fun h => ?_⟩
  have := List.mem_of_getLast? h
  obtain ⟨z, hz, he⟩ := List.mem_map.1 this
  exact sgn_not61 ⟨z, zs3_lt f hf z hz⟩ he
theorem trim1_eq (l : List Int) : ∃ q : Nat, q ≤ 1 ∧ l = trim1 l ++ List.replicate q 61 ∧ (q = 0 → l.getLast? ≠ some 61) := by
  unfold trim1
  by_cases h : l.getLast? = some 61
  · refine ⟨1, by omega, ?_, by omega⟩
    rw [if_pos h]
    rcases List.eq_nil_or_concat l with rfl | ⟨ys, y, rfl⟩
    · cases h
    · rw [List.concat_eq_append] at h ⊢
      simp only [List.getLast?_append, List.getLast?_singleton, Option.some_or, Option.some.injEq] at h
      subst h
      simp
  · exact ⟨0, by omega, by rw [if_neg h]; simp, fun _ => h⟩
theorem trim1_snoc (l : List Int) : trim1 (l ++ [61]) = l := by
  unfold trim1
  rw [if_pos (by simp)]
  simp
theorem trim1_not (l : List Int) (h : l.getLast? ≠ some 61) : trim1 l = l := by
  unfold trim1
  rw [if_neg h]
theorem trim_body (body : List Int) (h : body.getLast? ≠ some 61) (hm : body.length % 4 ≠ 1) : trim1 (trim1 (body ++ eqs body.length)) = body := by
  unfold eqs
  obtain h0 | h0 | h0 : body.length % 4 = 0 ∨ body.length % 4 = 2 ∨ body.length % 4 = 3 := by omega
  · rw [h0, show (4 - 0) % 4 = 0 from rfl, List.replicate_zero, List.append_nil, trim1_not _ h, trim1_not _ h]
  · rw [h0, show List.replicate ((4 - 2) % 4) (61 : Int) = [61] ++ [61] from rfl, ← List.append_assoc, trim1_snoc, trim1_snoc]
  · rw [h0, show List.replicate ((4 - 3) % 4) (61 : Int) = [61] from rfl, trim1_snoc, trim1_not _ h]
theorem trim1_bytes {l : List Int} (h : isBytes l) : isBytes (trim1 l) := by
  unfold trim1
  split
  · exact fun x hx => h x (List.dropLast_subset _ hx)
  · exact h

theorem encode_inj {f g : List Int} (hf : isBytes f) (hg : isBytes g) (h : encode f = encode g) : f = g := by
  obtain ⟨a, h1, ⟨z1, ha1, ha2, ha3⟩, h3, h4⟩ := encode_good f hf
  obtain ⟨b, k1, ⟨z2, hb1, hb2, hb3⟩, k3, k4⟩ := encode_good g hg
  rw [h1, k1] at h
  have hab : a = b := by rw [← trim_body a h4 h3, h, trim_body b k4 k3]
  have : z1 = z2 := map_sgn_inj ha2 hb2 (by rw [← ha1, ← hb1, hab])
  subst this
  rw [ha3] at hb3
  exact Option.some.inj hb3
/-- What the program reads of a text. -/
theorem prog_dec (cs : List Int) (hb : isBytes cs) (hl : cs.length ≤ 131072) :
    (∃ f, isBytes f ∧ cs = encode f ∧ Ev (fun k => P.basic_Decode.f k (strOfNums cs)) (f, 0)) ∨ ((∀ f, isBytes f → cs ≠ encode f) ∧ Ev (fun k => P.basic_Decode.f k (strOfNums cs)) (([] : List Int), 5)) := by
  obtain ⟨q1, hq1, he1, _⟩ := trim1_eq cs
  obtain ⟨q2, hq2, he2, _⟩ := trim1_eq (trim1 cs)
  have hb1 := trim1_bytes hb
  have hb2 := trim1_bytes hb1
  have hl1 : (trim1 cs).length ≤ cs.length := by have := congrArg List.length he1; simp only [List.length_append, List.length_replicate] at this; omega
  have hl2 : (trim1 (trim1 cs)).length ≤ cs.length := by have := congrArg List.length he2; simp only [List.length_append, List.length_replicate] at this; omega
  obtain ⟨body, hbody⟩ : ∃ body, trim1 (trim1 cs) = body := ⟨_, rfl⟩
  have ht1 := trimEq cs hb (by omega)
  have ht2 := trimEq (trim1 cs) hb1 (by omega)
  rw [hbody] at ht2 hb2 hl2
  have hsuf := hasEq body hb2 (by omega)
  have hcs : cs = body ++ List.replicate (q2 + q1) 61 := by rw [← List.replicate_append_replicate, ← List.append_assoc, ← hbody, ← he2, ← he1]
  -- what an encoding would be
  have hno : (¬ (cs.length % 4 = 0 ∧ body.length % 4 ≠ 1 ∧ body.getLast? ≠ some 61 ∧ cs.length - body.length = (4 - body.length % 4) % 4 ∧ ∃ o, Good body o)) → ∀ f, isBytes f → cs ≠ encode f := by
    intro hn f hf he
    obtain ⟨b2, h1, h2, h3, h4⟩ := encode_good f hf
    rw [← he] at h1
    have : body = b2 := by rw [← hbody, h1, trim_body b2 h4 h3]
    subst this
    refine hn ⟨?_, h3, h4, ?_, f, h2⟩
    · rw [h1, List.length_append]; unfold eqs; rw [List.length_replicate]; omega
    · rw [h1, List.length_append]; unfold eqs; rw [List.length_replicate]; omega
  by_cases c1 : cs.length % 4 = 0
  case neg =>
    refine .inr ⟨hno (fun h => c1 h.1), (Ev.const _).eq fun k => ?_⟩
    unfold P.basic_Decode.f
    rw [strOfNums_size, if_neg (by omega), if_neg (by omega)]
  have start : ∀ r, (Ev (fun k => if ((body.length : Int) % 4) = 1 then P.basic_Decode.j0 k (strOfNums body) true else if decide (body.getLast? = some 61) = true then P.basic_Decode.j0 k (strOfNums body) true else P.basic_Decode.j0 k (strOfNums body) ((wrap64 ((cs.length : Int) - (body.length : Int))) != ((4 - ((body.length : Int) % 4)) % 4))) r) → Ev (fun k => P.basic_Decode.f k (strOfNums cs)) r := fun r h => h.eq fun k => by
    unfold P.basic_Decode.f
    rw [strOfNums_size, if_neg (by omega), if_pos (by omega), ht1]
    simp only [Option.bind_some]
    rw [ht2]
    simp only [Option.bind_some]
    rw [strOfNums_size, hsuf]
    simp only [Option.bind_some]
  have bad : Ev (fun k => P.basic_Decode.j0 k (strOfNums body) true) (([] : List Int), 5) := Ev.now fun k => by rw [P.basic_Decode.j0, if_pos rfl]
  by_cases c2 : body.length % 4 = 1
  · exact .inr ⟨hno (fun h => h.2.1 c2), start _ (bad.eq fun k => by rw [if_pos (by omega)])⟩
  by_cases c3 : body.getLast? = some 61
  · exact .inr ⟨hno (fun h => h.2.2.1 c3), start _ (bad.eq fun k => by rw [if_neg (by omega), if_pos (decide_eq_true c3)])⟩
  have hlen : cs.length = body.length + (q2 + q1) := by rw [hcs]; simp
  by_cases c4 : cs.length - body.length = (4 - body.length % 4) % 4
  case neg =>
    exact .inr ⟨hno (fun h => c4 h.2.2.2.1), start _ (bad.eq fun k => by
      rw [if_neg (by omega), if_neg (by simp [c3]), show ((wrap64 ((cs.length : Int) - (body.length : Int))) != ((4 - ((body.length : Int) % 4)) % 4)) = true from bne_iff_ne.2 (by rw [w64 (by omega) (by omega)]; omega)])⟩
  have go : ∀ r, Ev (fun k => P.basic_Decode.l0 k (strOfNums body) [] 0 0 body.length ([] : List Int).length) r → Ev (fun k => P.basic_Decode.f k (strOfNums cs)) r := fun r h => start _ (Ev.step (fun k => by
    rw [if_neg (by omega), if_neg (by simp [c3]), show ((wrap64 ((cs.length : Int) - (body.length : Int))) != ((4 - ((body.length : Int) % 4)) % 4)) = false from bne_eq_false_iff_eq.2 (by rw [w64 (by omega) (by omega)]; omega), P.basic_Decode.j0, if_neg (by decide), strOfNums_size]; rfl) h)
  rcases dec_loop body hb2 (by omega) body [] [] rfl c2 (Nat.le_refl _) with ⟨o, hg, hev⟩ | ⟨hng, hev⟩
  · obtain ⟨he, hbo⟩ := good_encode hg
    refine .inl ⟨o, hbo, ?_, go _ (by simpa using hev)⟩
    rw [he, hcs]
    unfold eqs
    congr 2
    omega
  · exact .inr ⟨hno (fun h => by obtain ⟨o, ho⟩ := h.2.2.2.2; exact hng o ho), go _ hev⟩
end Go.Proofs.YteajidciahoboaaDoor.H
-- P5
set_option linter.unusedVariables false
set_option linter.unusedSimpArgs false
namespace Go.Proofs.YteajidciahoboaaDoor.H
open Go.RowKit Go.Shelf Go.Proofs.YteajidciahoboaaDoorW.PrintWords Go.Proofs.YteajidciahoboaaDoorW.PrintLast Go.Proofs.YteajidciahoboaaDoorW.PrintMore Go.Proofs.YteajidciahoboaaDoor.M

theorem strip_eq (cs : List Int) : ∃ body q, cs = body ++ List.replicate q 61 ∧ body.getLast? ≠ some 61 := by
  rcases List.eq_nil_or_concat cs with rfl | ⟨ys, y, rfl⟩
  · exact ⟨[], 0, rfl, by simp⟩
  · rw [List.concat_eq_append]
    by_cases h : y = 61
    · subst h
      obtain ⟨body, q, h1, h2⟩ := strip_eq ys
      refine ⟨body, q + 1, ?_, h2⟩
      rw [h1, List.append_assoc, List.replicate_succ']
    · exact ⟨ys ++ [y], 0, by simp, by simp [h]⟩
  termination_by cs.length
  decreasing_by subst_vars; simp
theorem strip_same {a b : List Int} (ha : a.getLast? ≠ some 61) (hb : b.getLast? ≠ some 61) : ∀ p q, a ++ List.replicate p 61 = b ++ List.replicate q 61 → a = b := by
  intro p
  induction p with
  | zero =>
    intro q h
    cases q with
    | zero => simpa using h
    | succ q => exfalso; apply ha; rw [List.replicate_zero, List.append_nil] at h; rw [h, List.replicate_succ']; simp
  | succ p ih =>
    intro q h
    cases q with
    | zero => exfalso; apply hb; rw [List.replicate_zero, List.append_nil] at h; rw [← h, List.replicate_succ']; simp
    | succ q =>
      rw [List.replicate_succ', List.replicate_succ', ← List.append_assoc, ← List.append_assoc] at h
      exact ih q (List.append_cancel_right h)

theorem lit_at : ∀ z : Fin 64, bt (⟨#[65, 66, 67, 68, 69, 70, 71, 72, 73, 74, 75, 76, 77, 78, 79, 80, 81, 82, 83, 84, 85, 86, 87, 88, 89, 90, 97, 98, 99, 100, 101, 102, 103, 104, 105, 106, 107, 108, 109, 110, 111, 112, 113, 114, 115, 116, 117, 118, 119, 120, 121, 122, 48, 49, 50, 51, 52, 53, 54, 55, 56, 57, 43, 47]⟩ : ByteArray) (z.val : Int) = sgn z.val := by decide +kernel
theorem at_ev (c : Int) (hc : 0 ≤ c ∧ c < 256) : Ev (fun k => P.racewayref22_at.f k (⟨#[65, 66, 67, 68, 69, 70, 71, 72, 73, 74, 75, 76, 77, 78, 79, 80, 81, 82, 83, 84, 85, 86, 87, 88, 89, 90, 97, 98, 99, 100, 101, 102, 103, 104, 105, 106, 107, 108, 109, 110, 111, 112, 113, 114, 115, 116, 117, 118, 119, 120, 121, 122, 48, 49, 50, 51, 52, 53, 54, 55, 56, 57, 43, 47]⟩ : ByteArray) c) (sixOf c) := by
  have main : ∀ d j : Nat, j + d = 64 → (∀ i, i < j → sgn i ≠ c) → Ev (fun k => P.racewayref22_at.l0 k (⟨#[65, 66, 67, 68, 69, 70, 71, 72, 73, 74, 75, 76, 77, 78, 79, 80, 81, 82, 83, 84, 85, 86, 87, 88, 89, 90, 97, 98, 99, 100, 101, 102, 103, 104, 105, 106, 107, 108, 109, 110, 111, 112, 113, 114, 115, 116, 117, 118, 119, 120, 121, 122, 48, 49, 50, 51, 52, 53, 54, 55, 56, 57, 43, 47]⟩ : ByteArray) c j) (sixOf c) := by
    intro d
    induction d with
    | zero =>
      intro j hj hn
      refine Ev.now fun k => ?_
      rw [P.racewayref22_at.l0, if_neg (by rw [show ((⟨#[65, 66, 67, 68, 69, 70, 71, 72, 73, 74, 75, 76, 77, 78, 79, 80, 81, 82, 83, 84, 85, 86, 87, 88, 89, 90, 97, 98, 99, 100, 101, 102, 103, 104, 105, 106, 107, 108, 109, 110, 111, 112, 113, 114, 115, 116, 117, 118, 119, 120, 121, 122, 48, 49, 50, 51, 52, 53, 54, 55, 56, 57, 43, 47]⟩ : ByteArray).size : Int) = 64 from rfl]; omega)]
      rcases sixOf_back c hc with h | ⟨z, hz, _, h⟩
      · have h1 : sixOf c = -1 := by unfold sixOf at h ⊢; split at h; omega; split at h; omega; split at h; omega; split at h; omega; split at h; omega; rename_i a b c d e; rw [if_neg a, if_neg b, if_neg c, if_neg d, if_neg e]
        rw [h1]
      · exact absurd h (hn z (by omega))
    | succ d ih =>
      intro j hj hn
      have hlt := lit_at ⟨j, by omega⟩
      simp only at hlt
      by_cases h : sgn j = c
      · refine Ev.now fun k => ?_
        rw [P.racewayref22_at.l0, if_pos (by rw [show ((⟨#[65, 66, 67, 68, 69, 70, 71, 72, 73, 74, 75, 76, 77, 78, 79, 80, 81, 82, 83, 84, 85, 86, 87, 88, 89, 90, 97, 98, 99, 100, 101, 102, 103, 104, 105, 106, 107, 108, 109, 110, 111, 112, 113, 114, 115, 116, 117, 118, 119, 120, 121, 122, 48, 49, 50, 51, 52, 53, 54, 55, 56, 57, 43, 47]⟩ : ByteArray).size : Int) = 64 from rfl]; omega), if_pos (by omega), hlt, if_pos h]
        have := sixOf_sgn ⟨j, by omega⟩
        simp only at this
        rw [← h, this]
      · refine Ev.step (fun k => ?_) (ih (j + 1) (by omega) (fun i hi => by
          rcases Nat.lt_or_ge i j with h1 | h1
          · exact hn i h1
          · rw [show i = j by omega]; exact h))
        rw [P.racewayref22_at.l0, if_pos (by rw [show ((⟨#[65, 66, 67, 68, 69, 70, 71, 72, 73, 74, 75, 76, 77, 78, 79, 80, 81, 82, 83, 84, 85, 86, 87, 88, 89, 90, 97, 98, 99, 100, 101, 102, 103, 104, 105, 106, 107, 108, 109, 110, 111, 112, 113, 114, 115, 116, 117, 118, 119, 120, 121, 122, 48, 49, 50, 51, 52, 53, 54, 55, 56, 57, 43, 47]⟩ : ByteArray).size : Int) = 64 from rfl]; omega), if_pos (by omega), hlt, if_neg h, w64 (by omega) (by omega)]
        rfl
  exact (main 64 0 rfl (fun i hi => absurd hi (Nat.not_lt_zero i))).eq fun k => rfl

def bits6 (z : Nat) : List Int := [((z / 32 % 2 : Nat) : Int), ((z / 16 % 2 : Nat) : Int), ((z / 8 % 2 : Nat) : Int), ((z / 4 % 2 : Nat) : Int), ((z / 2 % 2 : Nat) : Int), ((z % 2 : Nat) : Int)]
def bits6All (zs : List Nat) : List Int := (zs.map bits6).flatten
theorem bits6_bits (z : Nat) : isBits (bits6 z) := by
  intro y hy
  simp only [bits6, List.mem_cons, List.not_mem_nil, or_false] at hy
  rcases hy with rfl | rfl | rfl | rfl | rfl | rfl <;> omega
theorem bits6All_bits (zs : List Nat) : isBits (bits6All zs) := by
  intro y hy
  obtain ⟨l, hl, hy⟩ := List.mem_flatten.1 hy
  obtain ⟨x, _, rfl⟩ := List.mem_map.1 hl
  exact bits6_bits x y hy
theorem bits6All_len (zs : List Nat) : (bits6All zs).length = 6 * zs.length := by
  induction zs with
  | nil => rfl
  | cons a l ih => simp only [bits6All, List.map_cons, List.flatten_cons, List.length_append, List.length_cons] at ih ⊢; rw [ih]; show 6 + _ = _; omega
def pack8 : List Int → List Int
  | a :: b :: c :: d :: e :: f :: g :: h :: r => (128 * a + 64 * b + 32 * c + 16 * d + 8 * e + 4 * f + 2 * g + h) :: pack8 r
  | _ => []
def pk : List Nat → List Int
  | x :: y :: z :: u :: r => ((x * 4 + y / 16 : Nat) : Int) :: ((y % 16 * 16 + z / 4 : Nat) : Int) :: ((z % 4 * 64 + u : Nat) : Int) :: pk r
  | [x, y, z] => [((x * 4 + y / 16 : Nat) : Int), ((y % 16 * 16 + z / 4 : Nat) : Int)]
  | [x, y] => [((x * 4 + y / 16 : Nat) : Int)]
  | _ => []
theorem pk1 (x y : Nat) (hx : x < 64) (hy : y < 64) : (128 * ((x / 32 % 2 : Nat) : Int) + 64 * ((x / 16 % 2 : Nat) : Int) + 32 * ((x / 8 % 2 : Nat) : Int) + 16 * ((x / 4 % 2 : Nat) : Int) + 8 * ((x / 2 % 2 : Nat) : Int) + 4 * ((x % 2 : Nat) : Int) + 2 * ((y / 32 % 2 : Nat) : Int) + ((y / 16 % 2 : Nat) : Int)) = ((x * 4 + y / 16 : Nat) : Int) := by
  have h1 : 32 * (x / 32 % 2) + 16 * (x / 16 % 2) + 8 * (x / 8 % 2) + 4 * (x / 4 % 2) + 2 * (x / 2 % 2) + x % 2 = x := by omega
  have h2 : 2 * (y / 32 % 2) + y / 16 % 2 = y / 16 := by omega
  generalize x / 32 % 2 = a1 at *
  generalize x / 16 % 2 = a2 at *
  generalize x / 8 % 2 = a3 at *
  generalize x / 4 % 2 = a4 at *
  generalize x / 2 % 2 = a5 at *
  generalize x % 2 = a6 at *
  generalize y / 32 % 2 = a7 at *
  generalize y / 16 % 2 = a8 at *
  omega
theorem pk2 (y z : Nat) (hy : y < 64) (hz : z < 64) : (128 * ((y / 8 % 2 : Nat) : Int) + 64 * ((y / 4 % 2 : Nat) : Int) + 32 * ((y / 2 % 2 : Nat) : Int) + 16 * ((y % 2 : Nat) : Int) + 8 * ((z / 32 % 2 : Nat) : Int) + 4 * ((z / 16 % 2 : Nat) : Int) + 2 * ((z / 8 % 2 : Nat) : Int) + ((z / 4 % 2 : Nat) : Int)) = ((y % 16 * 16 + z / 4 : Nat) : Int) := by
  have h1 : 8 * (y / 8 % 2) + 4 * (y / 4 % 2) + 2 * (y / 2 % 2) + y % 2 = y % 16 := by omega
  have h2 : 8 * (z / 32 % 2) + 4 * (z / 16 % 2) + 2 * (z / 8 % 2) + z / 4 % 2 = z / 4 := by omega
  generalize y / 8 % 2 = a1 at *
  generalize y / 4 % 2 = a2 at *
  generalize y / 2 % 2 = a3 at *
  generalize y % 2 = a4 at *
  generalize z / 32 % 2 = a5 at *
  generalize z / 16 % 2 = a6 at *
  generalize z / 8 % 2 = a7 at *
  generalize z / 4 % 2 = a8 at *
  omega
theorem pk3 (z u : Nat) (hz : z < 64) (hu : u < 64) : (128 * ((z / 2 % 2 : Nat) : Int) + 64 * ((z % 2 : Nat) : Int) + 32 * ((u / 32 % 2 : Nat) : Int) + 16 * ((u / 16 % 2 : Nat) : Int) + 8 * ((u / 8 % 2 : Nat) : Int) + 4 * ((u / 4 % 2 : Nat) : Int) + 2 * ((u / 2 % 2 : Nat) : Int) + ((u % 2 : Nat) : Int)) = ((z % 4 * 64 + u : Nat) : Int) := by
  have h1 : 2 * (z / 2 % 2) + z % 2 = z % 4 := by omega
  have h2 : 32 * (u / 32 % 2) + 16 * (u / 16 % 2) + 8 * (u / 8 % 2) + 4 * (u / 4 % 2) + 2 * (u / 2 % 2) + u % 2 = u := by omega
  generalize z / 2 % 2 = a1 at *
  generalize z % 2 = a2 at *
  generalize u / 32 % 2 = a3 at *
  generalize u / 16 % 2 = a4 at *
  generalize u / 8 % 2 = a5 at *
  generalize u / 4 % 2 = a6 at *
  generalize u / 2 % 2 = a7 at *
  generalize u % 2 = a8 at *
  omega
theorem pack_pk (zs : List Nat) (hz : ∀ z ∈ zs, z < 64) : pack8 (bits6All zs) = pk zs := by
  match zs with
  | [] => rfl
  | [x] => rfl
  | [x, y] =>
    have e : pack8 (bits6All [x, y]) = [(128 * ((x / 32 % 2 : Nat) : Int) + 64 * ((x / 16 % 2 : Nat) : Int) + 32 * ((x / 8 % 2 : Nat) : Int) + 16 * ((x / 4 % 2 : Nat) : Int) + 8 * ((x / 2 % 2 : Nat) : Int) + 4 * ((x % 2 : Nat) : Int) + 2 * ((y / 32 % 2 : Nat) : Int) + ((y / 16 % 2 : Nat) : Int))] := rfl
    rw [e, pk1 x y (hz x (by simp)) (hz y (by simp))]
    rfl
  | [x, y, z] =>
    have e : pack8 (bits6All [x, y, z]) = [(128 * ((x / 32 % 2 : Nat) : Int) + 64 * ((x / 16 % 2 : Nat) : Int) + 32 * ((x / 8 % 2 : Nat) : Int) + 16 * ((x / 4 % 2 : Nat) : Int) + 8 * ((x / 2 % 2 : Nat) : Int) + 4 * ((x % 2 : Nat) : Int) + 2 * ((y / 32 % 2 : Nat) : Int) + ((y / 16 % 2 : Nat) : Int)), (128 * ((y / 8 % 2 : Nat) : Int) + 64 * ((y / 4 % 2 : Nat) : Int) + 32 * ((y / 2 % 2 : Nat) : Int) + 16 * ((y % 2 : Nat) : Int) + 8 * ((z / 32 % 2 : Nat) : Int) + 4 * ((z / 16 % 2 : Nat) : Int) + 2 * ((z / 8 % 2 : Nat) : Int) + ((z / 4 % 2 : Nat) : Int))] := rfl
    rw [e, pk1 x y (hz x (by simp)) (hz y (by simp)), pk2 y z (hz y (by simp)) (hz z (by simp))]
    rfl
  | x :: y :: z :: u :: r =>
    have ih := pack_pk r (fun q hq => hz q (by simp [hq]))
    have e : pack8 (bits6All (x :: y :: z :: u :: r)) = (128 * ((x / 32 % 2 : Nat) : Int) + 64 * ((x / 16 % 2 : Nat) : Int) + 32 * ((x / 8 % 2 : Nat) : Int) + 16 * ((x / 4 % 2 : Nat) : Int) + 8 * ((x / 2 % 2 : Nat) : Int) + 4 * ((x % 2 : Nat) : Int) + 2 * ((y / 32 % 2 : Nat) : Int) + ((y / 16 % 2 : Nat) : Int)) :: (128 * ((y / 8 % 2 : Nat) : Int) + 64 * ((y / 4 % 2 : Nat) : Int) + 32 * ((y / 2 % 2 : Nat) : Int) + 16 * ((y % 2 : Nat) : Int) + 8 * ((z / 32 % 2 : Nat) : Int) + 4 * ((z / 16 % 2 : Nat) : Int) + 2 * ((z / 8 % 2 : Nat) : Int) + ((z / 4 % 2 : Nat) : Int)) :: (128 * ((z / 2 % 2 : Nat) : Int) + 64 * ((z % 2 : Nat) : Int) + 32 * ((u / 32 % 2 : Nat) : Int) + 16 * ((u / 16 % 2 : Nat) : Int) + 8 * ((u / 8 % 2 : Nat) : Int) + 4 * ((u / 4 % 2 : Nat) : Int) + 2 * ((u / 2 % 2 : Nat) : Int) + ((u % 2 : Nat) : Int)) :: pack8 (bits6All r) := rfl
    rw [e, pk1 x y (hz x (by simp)) (hz y (by simp)), pk2 y z (hz y (by simp)) (hz z (by simp)), pk3 z u (hz z (by simp)) (hz u (by simp)), ih]
    rfl
theorem pk_unzs (zs : List Nat) (o : List Int) (h : unzs zs = some o) : pk zs = o := by
  match zs with
  | [] => rw [unzs] at h; cases h; rfl
  | [_] => rw [unzs] at h; cases h
  | [x, y] => rw [unzs] at h; split at h <;> cases h; rfl
  | [x, y, z] => rw [unzs] at h; split at h <;> cases h; rfl
  | x :: y :: z :: u :: r =>
    rw [unzs.eq_def] at h
    simp only [Option.map_eq_some_iff] at h
    obtain ⟨o', ho', rfl⟩ := h
    rw [pk, pk_unzs r o' ho']
    rfl
theorem pk_bytes (zs : List Nat) (hz : ∀ z ∈ zs, z < 64) : isBytes (pk zs) := by
  match zs with
  | [] => exact isBytes_nil
  | [_] => exact isBytes_nil
  | [x, y] =>
    have hx := hz x (by simp)
    have hy := hz y (by simp)
    intro q hq
    simp only [pk, List.mem_cons, List.not_mem_nil, or_false] at hq
    omega
  | [x, y, z] =>
    have hx := hz x (by simp)
    have hy := hz y (by simp)
    have hz' := hz z (by simp)
    intro q hq
    simp only [pk, List.mem_cons, List.not_mem_nil, or_false] at hq
    omega
  | x :: y :: z :: u :: r =>
    have hx := hz x (by simp)
    have hy := hz y (by simp)
    have hz' := hz z (by simp)
    have hu := hz u (by simp)
    have ih := pk_bytes r (fun q hq => hz q (by simp [hq]))
    intro q hq
    simp only [pk, List.mem_cons] at hq
    rcases hq with h | h | h | h
    · omega
    · omega
    · omega
    · exact ih q h
theorem pk_len (zs : List Nat) : (pk zs).length ≤ zs.length := by
  match zs with
  | [] => simp [pk]
  | [_] => simp [pk]
  | [_, _] => simp [pk]
  | [_, _, _] => simp [pk]
  | x :: y :: z :: u :: r => have := pk_len r; simp only [pk, List.length_cons]; omega
end Go.Proofs.YteajidciahoboaaDoor.H
-- P6
set_option linter.unusedVariables false
set_option linter.unusedSimpArgs false
namespace Go.Proofs.YteajidciahoboaaDoor.H
open Go.RowKit Go.Shelf Go.Proofs.YteajidciahoboaaDoorW.PrintWords Go.Proofs.YteajidciahoboaaDoorW.PrintLast Go.Proofs.YteajidciahoboaaDoorW.PrintMore Go.Proofs.YteajidciahoboaaDoor.M

theorem rdec_bit (k : Nat) (s : ByteArray) (x4 : List Int) (x5 x6 : Int) (z d : Nat) (hz : z < 64) (hd : 0 < d) (hd2 : d ≤ 32) (hl : x4.length < 10000000) :
    P.racewayref22_Decode.l2 (k + 1) s x4 x5 x6 z d = P.racewayref22_Decode.l2 k s (x4 ++ [((z / d % 2 : Nat) : Int)]) x5 x6 z ((d / 2 : Nat) : Int) := by
  rw [P.racewayref22_Decode.l2, if_pos (by omega), if_neg (by omega), if_pos (by omega)]
  have hq : z / d ≤ z := Nat.div_le_self _ _
  rw [Int.tdiv_eq_ediv_of_nonneg (by omega : (0 : Int) ≤ z), Int.tdiv_eq_ediv_of_nonneg (by omega : (0 : Int) ≤ d), ← Int.natCast_ediv]
  generalize z / d = q at *
  rw [w64 (n := (q : Int)) (by omega) (by omega), Int.tmod_eq_emod_of_nonneg (by omega), w64 (by omega) (by omega)]
  congr 1

theorem rdec_sign (cs : List Int) (hb : isBytes cs) (hl : cs.length ≤ 131072) (n i : Nat) (hi : i < n) (hn : n ≤ cs.length) (x4 : List Int) (hx : x4.length ≤ 6 * i) (z : Nat) (hz : z < 64) (h : sixOf (cs.getD i 0) = z) (r : List Int × Int)
    (hr : Ev (fun k => P.racewayref22_Decode.l1 k (strOfNums cs) (x4 ++ bits6 z) n (i + 1 : Nat)) r) : Ev (fun k => P.racewayref22_Decode.l1 k (strOfNums cs) x4 n i) r := by
  have hc : 0 ≤ cs.getD i 0 ∧ cs.getD i 0 < 256 := hb _ (by simp [show i < cs.length by omega])
  refine Ev.stepB (g := ?_) (at_ev _ hc) (fun k => ?_) ?_
  rotate_left
  · rw [P.racewayref22_Decode.l1, if_pos (by omega), if_pos (by omega), strOfNums_size, if_pos (by omega), bt_strOf cs hb, show rd cs (i : Int) = cs.getD i 0 from rfl]
  · rw [h]
    simp only [if_neg (show ¬ ((z : Int) < 0) by omega)]
    have ll : ∀ (l : List Int) (x : Int), (l ++ [x]).length = l.length + 1 := fun l x => by simp
    refine Ev.step (fun k => rdec_bit k _ _ n i z 32 hz (by decide) (by decide) (by omega)) ?_
    refine Ev.step (fun k => rdec_bit k _ _ n i z 16 hz (by decide) (by decide) (by simp only [ll]; omega)) ?_
    refine Ev.step (fun k => rdec_bit k _ _ n i z 8 hz (by decide) (by decide) (by simp only [ll]; omega)) ?_
    refine Ev.step (fun k => rdec_bit k _ _ n i z 4 hz (by decide) (by decide) (by simp only [ll]; omega)) ?_
    refine Ev.step (fun k => rdec_bit k _ _ n i z 2 hz (by decide) (by decide) (by simp only [ll]; omega)) ?_
    refine Ev.step (fun k => rdec_bit k _ _ n i z 1 hz (by decide) (by decide) (by simp only [ll]; omega)) ?_
    refine Ev.step (fun k => ?_) hr
    rw [P.racewayref22_Decode.l2, if_neg (by decide), w64 (by omega) (by omega)]
    simp only [List.append_assoc, List.cons_append, List.nil_append, bits6, Nat.div_one]
    rfl
theorem rdec_bad (cs : List Int) (hb : isBytes cs) (hl : cs.length ≤ 131072) (n i : Nat) (hi : i < n) (hn : n ≤ cs.length) (x4 : List Int) (h : sixOf (cs.getD i 0) < 0) : Ev (fun k => P.racewayref22_Decode.l1 k (strOfNums cs) x4 n i) (([] : List Int), 5) := by
  have hc : 0 ≤ cs.getD i 0 ∧ cs.getD i 0 < 256 := hb _ (by simp [show i < cs.length by omega])
  refine Ev.stepB (g := ?_) (at_ev _ hc) (fun k => ?_) ?_
  rotate_left
  · rw [P.racewayref22_Decode.l1, if_pos (by omega), if_pos (by omega), strOfNums_size, if_pos (by omega), bt_strOf cs hb, show rd cs (i : Int) = cs.getD i 0 from rfl]
  · simp only [if_pos h]
    exact Ev.const _

/-- Sign by sign. -/
theorem rdec_signs (cs : List Int) (hb : isBytes cs) (hl : cs.length ≤ 131072) (n : Nat) (hn : n ≤ cs.length) (r : List Int × Int) : ∀ (d i : Nat) (zs : List Nat), i + d = n → cs.take i = zs.map sgn → (∀ z ∈ zs, z < 64) →
    (∀ zs', cs.take n = zs'.map sgn → (∀ z ∈ zs', z < 64) → Ev (fun k => P.racewayref22_Decode.l3 k (strOfNums cs) (bits6All zs') [] 0) r) → ((¬ ∃ zs' : List Nat, cs.take n = zs'.map sgn ∧ ∀ z ∈ zs', z < 64) → r = (([] : List Int), 5)) →
    Ev (fun k => P.racewayref22_Decode.l1 k (strOfNums cs) (bits6All zs) n i) r := by
  intro d
  induction d with
  | zero =>
    intro i zs hi hzs hz h1 h2
    have : i = n := by omega
    subst this
    exact Ev.step (fun k => by rw [P.racewayref22_Decode.l1, if_neg (by omega)]) (h1 zs hzs hz)
  | succ d ih =>
    intro i zs hi hzs hz h1 h2
    have hc : 0 ≤ cs.getD i 0 ∧ cs.getD i 0 < 256 := hb _ (by simp [show i < cs.length by omega])
    have hzl : zs.length = i := by have := congrArg List.length hzs; simp only [List.length_take, List.length_map] at this; omega
    rcases sixOf_back _ hc with hbad | ⟨z, hz6, hzc, hzs'⟩
    · have hr : r = (([] : List Int), 5) := h2 (by
        rintro ⟨zs', h3, h4⟩
        have hm : cs.getD i 0 ∈ cs.take n := by
          rw [List.getD_eq_getElem?_getD, List.getElem?_eq_getElem (by omega)]
          exact List.mem_take_iff_getElem.2 ⟨i, by omega, rfl⟩
        rw [h3] at hm
        obtain ⟨q, hq, he⟩ := List.mem_map.1 hm
        have := sixOf_sgn ⟨q, h4 q hq⟩
        simp only at this
        rw [he] at this
        omega)
      subst hr
      exact rdec_bad cs hb hl n i (by omega) hn _ hbad
    · refine rdec_sign cs hb hl n i (by omega) hn _ (by rw [bits6All_len, hzl]; exact Nat.le_refl _) z hz6 hzc r ?_
      have := ih (i + 1) (zs ++ [z]) (by omega) (by
        rw [List.take_add_one, List.getElem?_eq_getElem (by omega), hzs, List.map_append]
        congr 1
        simp only [Option.toList_some, List.map_cons, List.map_nil, hzs']
        rw [List.getD_eq_getElem?_getD, List.getElem?_eq_getElem (by omega)]
        rfl) (by intro q hq; rcases List.mem_append.1 hq with h | h; exact hz q h; simp at h; omega) h1 h2
      refine this.eq fun k => ?_
      simp [bits6All]

theorem rdec_eight (k : Nat) (s : ByteArray) (x4 x9 : List Int) (x10 x11 x12 b : Int) (h12 : 0 ≤ x12 ∧ x12 < 8) (h10 : 0 ≤ x10) (hl : x10 + x12 < (x4.length : Int)) (hl2 : x4.length < 100000000) (h8 : 0 ≤ x11 ∧ x11 < 1000) (hb : rd x4 (x10 + x12) = b) (hb2 : 0 ≤ b ∧ b < 2) :
    P.racewayref22_Decode.l4 (k + 1) s x4 x9 x10 x11 x12 = P.racewayref22_Decode.l4 k s x4 x9 x10 (2 * x11 + b) (x12 + 1) := by
  rw [P.racewayref22_Decode.l4, if_pos h12.2, w64 (n := x10 + x12) (by omega) (by omega), if_pos (by omega), if_pos hl, hb, w64 (n := 2 * x11) (by omega) (by omega), w64 (by omega) (by omega), w64 (by omega) (by omega)]

theorem rdec_pack (cs : List Int) (x4 : List Int) (hl2 : x4.length < 1000000) (hb : isBits x4) (r : List Int × Int) : ∀ (ys pre out : List Int), x4 = pre ++ ys → out.length ≤ pre.length →
    (Ev (fun k => (P.racewayref22_Encode.f k (out ++ pack8 ys)).bind fun t241 => if t241.toList = (strOfNums cs).toList then some (out ++ pack8 ys, (0 : Int)) else some (([] : List Int), 5)) r) →
    Ev (fun k => P.racewayref22_Decode.l3 k (strOfNums cs) x4 out pre.length) r := by
  intro ys pre out he ho h
  have hlen : x4.length = pre.length + ys.length := by rw [he]; simp
  match ys, he, hlen, h with
  | a :: b :: c :: d :: e :: f :: g :: i :: ys, he, hlen, h =>
    simp only [List.length_cons] at hlen
    refine Ev.step (fun k => by rw [P.racewayref22_Decode.l3, w64 (by omega) (by omega), if_pos (by omega)]) ?_
    have ba : 0 ≤ a ∧ a < 2 := hb a (by rw [he]; simp)
    have bb : 0 ≤ b ∧ b < 2 := hb b (by rw [he]; simp)
    have bc : 0 ≤ c ∧ c < 2 := hb c (by rw [he]; simp)
    have bd : 0 ≤ d ∧ d < 2 := hb d (by rw [he]; simp)
    have be : 0 ≤ e ∧ e < 2 := hb e (by rw [he]; simp)
    have bf : 0 ≤ f ∧ f < 2 := hb f (by rw [he]; simp)
    have bg : 0 ≤ g ∧ g < 2 := hb g (by rw [he]; simp)
    have bi : 0 ≤ i ∧ i < 2 := hb i (by rw [he]; simp)
    have at' : ∀ j : Nat, rd x4 (pre.length + j) = (a :: b :: c :: d :: e :: f :: g :: i :: ys).getD j 0 := fun j => by
      unfold rd
      rw [show ((pre.length : Int) + j).toNat = pre.length + j by omega, he, List.getD_eq_getElem?_getD, List.getElem?_append_right (by omega), Nat.add_sub_cancel_left, List.getD_eq_getElem?_getD]
    refine Ev.step (fun k => rdec_eight k _ x4 _ pre.length 0 0 a (by decide) (by omega) (by omega) (by omega) (by omega) (at' 0) ba) ?_
    refine Ev.step (fun k => rdec_eight k _ x4 _ pre.length _ 1 b (by decide) (by omega) (by omega) (by omega) (by omega) (at' 1) bb) ?_
    refine Ev.step (fun k => rdec_eight k _ x4 _ pre.length _ 2 c (by decide) (by omega) (by omega) (by omega) (by omega) (at' 2) bc) ?_
    refine Ev.step (fun k => rdec_eight k _ x4 _ pre.length _ 3 d (by decide) (by omega) (by omega) (by omega) (by omega) (at' 3) bd) ?_
    refine Ev.step (fun k => rdec_eight k _ x4 _ pre.length _ 4 e (by decide) (by omega) (by omega) (by omega) (by omega) (at' 4) be) ?_
    refine Ev.step (fun k => rdec_eight k _ x4 _ pre.length _ 5 f (by decide) (by omega) (by omega) (by omega) (by omega) (at' 5) bf) ?_
    refine Ev.step (fun k => rdec_eight k _ x4 _ pre.length _ 6 g (by decide) (by omega) (by omega) (by omega) (by omega) (at' 6) bg) ?_
    refine Ev.step (fun k => rdec_eight k _ x4 _ pre.length _ 7 i (by decide) (by omega) (by omega) (by omega) (by omega) (at' 7) bi) ?_
    have hz : 2 * (2 * (2 * (2 * (2 * (2 * (2 * (2 * 0 + a) + b) + c) + d) + e) + f) + g) + i = 128 * a + 64 * b + 32 * c + 16 * d + 8 * e + 4 * f + 2 * g + i := by omega
    rw [hz]
    have hrec := rdec_pack cs x4 hl2 hb r ys (pre ++ [a, b, c, d, e, f, g, i]) (out ++ [128 * a + 64 * b + 32 * c + 16 * d + 8 * e + 4 * f + 2 * g + i]) (by rw [he]; simp) (by simp; omega) (by
      refine h.eq fun k => ?_
      rw [pack8, List.append_assoc]
      rfl)
    refine Ev.step (fun k => ?_) hrec
    rw [P.racewayref22_Decode.l4, if_neg (by decide), if_pos (by omega), w64 (by omega) (by omega), Int.emod_eq_of_lt (by omega) (by omega)]
    simp
  | [], _, hlen, h | [_], _, hlen, h | [_, _], _, hlen, h | [_, _, _], _, hlen, h | [_, _, _, _], _, hlen, h | [_, _, _, _, _], _, hlen, h | [_, _, _, _, _, _], _, hlen, h | [_, _, _, _, _, _, _], _, hlen, h =>
    simp only [List.length_cons, List.length_nil] at hlen
    refine Ev.step (fun k => ?_) h
    rw [P.racewayref22_Decode.l3, w64 (by omega) (by omega), if_neg (by omega)]
    simp only [pack8, List.append_nil]
  termination_by ys pre => x4.length - pre.length
  decreasing_by simp only [List.length_cons] at hlen; simp; omega

/-- What the reference reads of a text. -/
theorem ref_dec (cs : List Int) (hb : isBytes cs) (hl : cs.length ≤ 131072) :
    (∃ f, isBytes f ∧ cs = encode f ∧ Ev (fun k => P.racewayref22_Decode.f k (strOfNums cs)) (f, 0)) ∨ ((∀ f, isBytes f → cs ≠ encode f) ∧ Ev (fun k => P.racewayref22_Decode.f k (strOfNums cs)) (([] : List Int), 5)) := by
  obtain ⟨body, q, hcs, hne⟩ := strip_eq cs
  have hlen : cs.length = body.length + q := by rw [hcs]; simp
  have htake : cs.take body.length = body := by rw [hcs]; simp
  have same : ∀ f, isBytes f → cs = encode f → body = (zs3 f).map sgn := by
    intro f hf he
    obtain ⟨b2, h1, ⟨zs, h2, h3, h4⟩, _, h5⟩ := encode_good f hf
    have h6 := encode_zs f
    have h7 : ((zs3 f).map sgn).getLast? ≠ some 61 := by
      intro h
      obtain ⟨z, hz, he⟩ := List.mem_map.1 (List.mem_of_getLast? h)
      exact sgn_not61 ⟨z, zs3_lt f hf z hz⟩ he
    refine strip_same hne h7 q ((4 - (zs3 f).length % 4) % 4) ?_
    rw [← hcs, he, h6]
    rfl
  have strip : ∀ r, Ev (fun k => P.racewayref22_Decode.l1 k (strOfNums cs) [] body.length 0) r → Ev (fun k => P.racewayref22_Decode.f k (strOfNums cs)) r := by
    intro r h
    have hj : Ev (fun k => P.racewayref22_Decode.j1 k (strOfNums cs) [] body.length) r := Ev.step (fun k => by rw [P.racewayref22_Decode.j1]) h
    have hp : ∀ j, j ≤ q → Ev (fun k => P.racewayref22_Decode.l0 k (strOfNums cs) (body.length + j : Nat)) r := by
      intro j
      induction j with
      | zero =>
        intro _
        refine Ev.step (fun k => ?_) hj
        rw [P.racewayref22_Decode.l0, Nat.add_zero]
        by_cases h0 : body.length = 0
        · rw [if_neg (by omega)]
        · rw [if_pos (by omega), w64 (by omega) (by omega), if_pos (by omega), strOfNums_size, if_pos (by omega), bt_strOf cs hb, if_neg]
          intro h61
          apply hne
          rw [List.getLast?_eq_getElem?]
          unfold rd at h61
          rw [show ((body.length : Int) - 1).toNat = body.length - 1 by omega, hcs, List.getD_eq_getElem?_getD, List.getElem?_append_left (by omega), List.getElem?_eq_getElem (by omega)] at h61
          rw [List.getElem?_eq_getElem (by omega)]
          simpa using h61
      | succ j ih =>
        intro hj'
        refine Ev.step (fun k => ?_) (ih (by omega))
        rw [P.racewayref22_Decode.l0, if_pos (by omega), w64 (by omega) (by omega), if_pos (by omega), strOfNums_size, if_pos (by omega), bt_strOf cs hb, if_pos]
        · congr 1; omega
        · unfold rd
          rw [show (((body.length + (j + 1) : Nat) : Int) - 1).toNat = body.length + j by omega, hcs, List.getD_eq_getElem?_getD, List.getElem?_append_right (by omega), Nat.add_sub_cancel_left, List.getElem?_replicate, if_pos (by omega)]
          rfl
    refine (hp q (Nat.le_refl _)).eq fun k => ?_
    unfold P.racewayref22_Decode.f
    rw [strOfNums_size, if_neg (by omega), hlen]
  have run : ∀ zs : List Nat, body = zs.map sgn → (∀ z ∈ zs, z < 64) → Ev (fun k => P.racewayref22_Decode.l3 k (strOfNums cs) (bits6All zs) [] 0) (if encode (pk zs) = cs then (pk zs, 0) else (([] : List Int), 5)) := by
    intro zs hzs hz
    have hzl : zs.length = body.length := by rw [hzs, List.length_map]
    have hpl := pk_len zs
    have hpb := pk_bytes zs hz
    refine rdec_pack cs (bits6All zs) (by rw [bits6All_len]; omega) (bits6All_bits zs) _ (bits6All zs) [] [] rfl (Nat.le_refl _) ?_
    rw [List.nil_append, pack_pk zs hz]
    refine Ev.bind (enc_ev (pk zs) hpb (by omega)) ((Ev.const _).eq fun k => ?_)
    by_cases h : encode (pk zs) = cs
    · rw [if_pos h, if_pos (by rw [h])]
    · rw [if_neg h, if_neg]
      intro e
      exact h (strOf_inj (encode_bytes _) hb ((toList_iff _ _).1 e))
  by_cases hz : ∃ zs : List Nat, body = zs.map sgn ∧ ∀ z ∈ zs, z < 64
  · obtain ⟨zs, hzs, hz⟩ := hz
    have hev := strip _ (rdec_signs cs hb hl body.length (by omega) (if encode (pk zs) = cs then (pk zs, 0) else (([] : List Int), 5)) body.length 0 [] (by omega) rfl (by simp) (fun zs' h1 h2 => by
      rw [htake] at h1
      have : zs' = zs := map_sgn_inj h2 hz (by rw [← h1, hzs])
      subst this
      exact run _ hzs hz) (fun h => absurd ⟨zs, by rw [htake]; exact hzs, hz⟩ h))
    by_cases he : encode (pk zs) = cs
    · rw [if_pos he] at hev
      exact .inl ⟨pk zs, pk_bytes zs hz, he.symm, hev⟩
    · rw [if_neg he] at hev
      refine .inr ⟨fun f hf hcf => he ?_, hev⟩
      have h1 := same f hf hcf
      have : zs = zs3 f := map_sgn_inj hz (zs3_lt f hf) (by rw [← hzs, h1])
      rw [this, pk_unzs _ _ (unzs_zs f hf), hcf]
  · have hev := strip _ (rdec_signs cs hb hl body.length (by omega) (([] : List Int), 5) body.length 0 [] (by omega) rfl (by simp) (fun zs' h1 h2 => absurd ⟨zs', by rw [← htake]; exact h1, h2⟩ hz) (fun _ => rfl))
    exact .inr ⟨fun f hf hcf => hz ⟨zs3 f, same f hf hcf, zs3_lt f hf⟩, hev⟩
end Go.Proofs.YteajidciahoboaaDoor.H
-- PzoctetReadNum
-- PRINTED by print.py (a twelfth state) out of the translation. Not trusted: Lean checks it.
namespace Go.Proofs.YteajidciahoboaaDoor.P
open Go.RowKit Go.Proofs.YteajidciahoboaaDoorW.PrintWords Go.Proofs.YteajidciahoboaaDoorW.PrintLast Go.Proofs.YteajidciahoboaaDoorW.PrintMore
attribute [local go_sem] max2_int min2_int max_two min_two max_three min_three max_four min_four   -- for this text's walks alone
set_option linter.unusedVariables false
set_option linter.unusedSimpArgs false

/-! ### octet_ReadNum: function 30 -/
mutual
def octet_ReadNum.l0 : Nat → Int → List Int → Int → Int → Option (Int × Int × Int)
  | 0, _, _, _, _ => none
  | k + 1, x2, x7, x8, x9 => if x9 < x8 then (if 0 ≤ x9 then (if x9 < (x7.length : Int) then (if x9 = 9 then (octet_ReadNum.j1 k x2 x9 (rd x7 x9) x7 x8 x9 true) else (if (rd x7 x9) = 0 then (octet_ReadNum.j1 k x2 x9 (rd x7 x9) x7 x8 x9 (decide (x9 > 0))) else (octet_ReadNum.j1 k x2 x9 (rd x7 x9) x7 x8 x9 false))) else (none)) else (none)) else (some (0, 0, 4))
def octet_ReadNum.j1 : Nat → Int → Int → Int → List Int → Int → Int → Bool → Option (Int × Int × Int)
  | 0, _, _, _, _, _, _, _ => none
  | k + 1, x2, x5, x6, x7, x8, x9, x23 => if x23 = true then (some (0, 0, 5)) else (if 0 ≤ (wrap64 (7 * x5)) then (if (Go.bits .or .i64 x2 (shl .i64 (wrap64 (Go.bits .and .u8 x6 127)) (wrap64 (7 * x5)))) > 4611686018427387904 then (octet_ReadNum.j2 k (Go.bits .or .i64 x2 (shl .i64 (wrap64 (Go.bits .and .u8 x6 127)) (wrap64 (7 * x5)))) x5 x6 x7 x8 x9 true) else (octet_ReadNum.j2 k (Go.bits .or .i64 x2 (shl .i64 (wrap64 (Go.bits .and .u8 x6 127)) (wrap64 (7 * x5)))) x5 x6 x7 x8 x9 (decide ((Go.bits .or .i64 x2 (shl .i64 (wrap64 (Go.bits .and .u8 x6 127)) (wrap64 (7 * x5)))) < 0)))) else (none))
def octet_ReadNum.j2 : Nat → Int → Int → Int → List Int → Int → Int → Bool → Option (Int × Int × Int)
  | 0, _, _, _, _, _, _, _ => none
  | k + 1, x2, x5, x6, x7, x8, x9, x37 => if x37 = true then (some (0, 0, 5)) else (if x6 < 128 then (some (x2, wrap64 (x5 + 1), 0)) else (octet_ReadNum.l0 k x2 x7 x8 (wrap64 (x9 + 1))))
end
def octet_ReadNum.f (k : Nat) (l0 : List Int) : Option (Int × Int × Int) := octet_ReadNum.l0 k 0 l0 (l0.length : Int) 0
theorem octet_ReadNum.mono_l : ∀ k, (∀ y0 y1 y2 y3, LeO (octet_ReadNum.l0 k y0 y1 y2 y3) (octet_ReadNum.l0 (k + 1) y0 y1 y2 y3)) ∧ (∀ y0 y1 y2 y3 y4 y5 y6, LeO (octet_ReadNum.j1 k y0 y1 y2 y3 y4 y5 y6) (octet_ReadNum.j1 (k + 1) y0 y1 y2 y3 y4 y5 y6)) ∧ (∀ y0 y1 y2 y3 y4 y5 y6, LeO (octet_ReadNum.j2 k y0 y1 y2 y3 y4 y5 y6) (octet_ReadNum.j2 (k + 1) y0 y1 y2 y3 y4 y5 y6))
  | 0 => ⟨fun _ _ _ _ r h => by simp [octet_ReadNum.l0] at h, fun _ _ _ _ _ _ _ r h => by simp [octet_ReadNum.j1] at h, fun _ _ _ _ _ _ _ r h => by simp [octet_ReadNum.j2] at h⟩
  | k + 1 => by
    obtain ⟨ih0, ih1, ih2⟩ := octet_ReadNum.mono_l k
    refine ⟨?_, ?_, ?_⟩
    · intro y0 y1 y2 y3
      unfold octet_ReadNum.l0
      repeat' first
      | (with_reducible exact ih0 _ _ _ _)
      | (with_reducible exact ih1 _ _ _ _ _ _ _)
      | (with_reducible exact ih2 _ _ _ _ _ _ _)
      | (with_reducible exact LeO.refl _)
      | (with_reducible exact LeO.none _)
      | (with_reducible refine LeO.ite ?_ ?_)
      | (with_reducible refine LeO.bind ?_ (fun _ => ?_))
      | exact ih0 _ _ _ _
      | exact ih1 _ _ _ _ _ _ _
      | exact ih2 _ _ _ _ _ _ _
      | exact LeO.none _
      | refine LeO.ite ?_ ?_
      | refine LeO.bind ?_ (fun _ => ?_)
    · intro y0 y1 y2 y3 y4 y5 y6
      unfold octet_ReadNum.j1
      repeat' first
      | (with_reducible exact ih0 _ _ _ _)
      | (with_reducible exact ih1 _ _ _ _ _ _ _)
      | (with_reducible exact ih2 _ _ _ _ _ _ _)
      | (with_reducible exact LeO.refl _)
      | (with_reducible exact LeO.none _)
      | (with_reducible refine LeO.ite ?_ ?_)
      | (with_reducible refine LeO.bind ?_ (fun _ => ?_))
      | exact ih0 _ _ _ _
      | exact ih1 _ _ _ _ _ _ _
      | exact ih2 _ _ _ _ _ _ _
      | exact LeO.none _
      | refine LeO.ite ?_ ?_
      | refine LeO.bind ?_ (fun _ => ?_)
    · intro y0 y1 y2 y3 y4 y5 y6
      unfold octet_ReadNum.j2
      repeat' first
      | (with_reducible exact ih0 _ _ _ _)
      | (with_reducible exact ih1 _ _ _ _ _ _ _)
      | (with_reducible exact ih2 _ _ _ _ _ _ _)
      | (with_reducible exact LeO.refl _)
      | (with_reducible exact LeO.none _)
      | (with_reducible refine LeO.ite ?_ ?_)
      | (with_reducible refine LeO.bind ?_ (fun _ => ?_))
      | exact ih0 _ _ _ _
      | exact ih1 _ _ _ _ _ _ _
      | exact ih2 _ _ _ _ _ _ _
      | exact LeO.none _
      | refine LeO.ite ?_ ?_
      | refine LeO.bind ?_ (fun _ => ?_)
theorem octet_ReadNum.mono : ∀ a0 k, LeO (octet_ReadNum.f k a0) (octet_ReadNum.f (k + 1) a0) := by
  intro a0 k
  obtain ⟨ih0, ih1, ih2⟩ := octet_ReadNum.mono_l k
  unfold octet_ReadNum.f
  repeat' first
      | (with_reducible exact ih0 _ _ _ _)
      | (with_reducible exact ih1 _ _ _ _ _ _ _)
      | (with_reducible exact ih2 _ _ _ _ _ _ _)
      | (with_reducible exact LeO.refl _)
      | (with_reducible exact LeO.none _)
      | (with_reducible refine LeO.ite ?_ ?_)
      | (with_reducible refine LeO.bind ?_ (fun _ => ?_))
      | exact ih0 _ _ _ _
      | exact ih1 _ _ _ _ _ _ _
      | exact ih2 _ _ _ _ _ _ _
      | exact LeO.none _
      | refine LeO.ite ?_ ?_
      | refine LeO.bind ?_ (fun _ => ?_)
set_option maxHeartbeats 8000000 in
set_option maxRecDepth 100000 in
theorem octet_ReadNum.calls (k : Nat) (A0 : Option Addr) (c0 : Nat) (l0 : List Int) (r1 : Int) (r2 : Int) (r3 : Int) (w : World) (hr0 : Kd.C (Kd.int .u8) w A0 l0.length l0) (hc0 : l0.length ≤ c0) (h : octet_ReadNum.f k l0 = some (r1, r2, r3)) :
    Calls Tryd.prog 30 #[.slice A0 l0.length c0] w fun e w' => e = .returned (.tuple #[.int .i64 r1, .int .i64 r2, .int .i64 r3]) ∧ Drawn0 w w' := by
  have HR0 := Aside0.mk hr0
  have HC0 := Aside0.mk hc0
  clear hr0 hc0
  have H : (octet_ReadNum.l0 k 0 l0 (l0.length : Int) 0) = some (r1, r2, r3) := h
  clear h
  have H' := Aside0.mk H
  clear H
  go_enter Tryd.func30, Tryd.ntmps30
  go_wp2
  go_loopg [2, 9] k (fun kq v2 v9 w' => ∃ (x2_1 : Int) (x9_1 : Int), v2 = .int .i64 x2_1 ∧ v9 = .int .i64 x9_1 ∧ Aside0 (octet_ReadNum.l0 kq x2_1 l0 (l0.length : Int) x9_1 = some (r1, r2, r3)) ∧ Aside0 (kq ≤ k) ∧ Drawn0 w w')
  case atStart => exact ⟨(0), (0), (by first | rfl | (simp; done) | (simp [*]; done)), (by first | rfl | (simp; done) | (simp [*]; done)), H', ⟨Nat.le_refl _⟩, by repeat (first | exact Drawn0.refl _ | apply Drawn0.step)⟩
  case round =>
    clear H'
    obtain ⟨x2_1, x9_1, rfl, rfl, HA, HK1, ⟨m1, rfl⟩⟩ := hrel
    cases gk with
    | zero => exact absurd HA.out (by simp [octet_ReadNum.l0])
    | succ k1 =>
      have H := HA.out
      clear HA
      simp only [octet_ReadNum.l0] at H
      by_cases c2 : x9_1 < (l0.length : Int)
      · rw [if_pos c2] at H
        have c2b0 : decide (x9_1 < (l0.length : Int)) = true := decide_eq_true c2
        clear c2
        by_cases c3 : 0 ≤ x9_1
        · rw [if_pos c3] at H
          have c3b0 : decide (0 ≤ x9_1) = true := decide_eq_true c3
          clear c3
          by_cases c4 : x9_1 < (l0.length : Int)
          · rw [if_pos c4] at H
            have c4b0 : decide (x9_1 < (l0.length : Int)) = true := decide_eq_true c4
            clear c4
            have HC5 := Aside0.mk H
            clear H
            have p227 : 0 ≤ (x9_1 : Int) := of_decide_eq_true (by first | (with_reducible assumption) | assumption)
            have q227 : x9_1 < (l0.length : Int) := of_decide_eq_true (by first | (with_reducible assumption) | assumption)
            obtain ⟨ad227, e227, hx227_0⟩ := Kd.at_int HR0.out x9_1 p227 q227
            cases e227
            replace p227 := eq_true p227
            replace q227 := eq_true q227
            go_upto_region 4 with (fail)
            go_cut [23] (fun v23 wc => ∃ (kq : Nat) (x23_4 : Bool), v23 = .bool x23_4 ∧ Aside0 (octet_ReadNum.j1 kq x2_1 x9_1 (rd l0 x9_1) l0 (l0.length : Int) x9_1 x23_4 = some (r1, r2, r3)) ∧ Aside0 (kq ≤ k1) ∧ Drawn0 w wc)
            case first =>
              have H := HC5.out
              clear HC5
              by_cases c6 : x9_1 = 9
              · rw [if_pos c6] at H
                have c6b0 : (x9_1 == 9) = true := beq_iff_eq.mpr c6
                have c6b1 : (x9_1 != 9) = false := bne_eq_false_iff_eq.mpr c6
                clear c6
                (first | rw [c6b0] | (simp only [i64_w, i32_w]; rw [c6b0]) | skip)
                have H' := Aside0.mk H
                clear H
                go_wp2
                go_meet
                case rel => exact ⟨_, (true), (by first | rfl | (simp; done) | (simp [*]; done)), H', ⟨by have := HK1.out; first | omega | exact Nat.le_refl _⟩, by repeat (first | exact Drawn0.refl _ | apply Drawn0.step)⟩
              · rw [if_neg c6] at H
                have c6b0 : (x9_1 == 9) = false := beq_eq_false_iff_ne.mpr c6
                have c6b1 : (x9_1 != 9) = true := bne_iff_ne.mpr c6
                (first | rw [c6b0] | (simp only [i64_w, i32_w]; rw [c6b0]) | skip)
                by_cases c7 : (rd l0 x9_1) = 0
                · rw [if_pos c7] at H
                  have c7b0 : ((rd l0 x9_1) == 0) = true := beq_iff_eq.mpr c7
                  have c7b1 : ((rd l0 x9_1) != 0) = false := bne_eq_false_iff_eq.mpr c7
                  clear c7
                  have H' := Aside0.mk H
                  clear H
                  go_wp2
                  go_meet
                  case rel => exact ⟨_, (decide (x9_1 > 0)), (by first | rfl | (simp; done) | (simp [*]; done)), H', ⟨by have := HK1.out; first | omega | exact Nat.le_refl _⟩, by repeat (first | exact Drawn0.refl _ | apply Drawn0.step)⟩
                · rw [if_neg c7] at H
                  have c7b0 : ((rd l0 x9_1) == 0) = false := beq_eq_false_iff_ne.mpr c7
                  have c7b1 : ((rd l0 x9_1) != 0) = true := bne_iff_ne.mpr c7
                  have H' := Aside0.mk H
                  clear H
                  go_wp2
                  go_meet
                  case rel => exact ⟨_, (false), (by first | rfl | (simp; done) | (simp [*]; done)), H', ⟨by have := HK1.out; first | omega | exact Nat.le_refl _⟩, by repeat (first | exact Drawn0.refl _ | apply Drawn0.step)⟩
            case rest =>
              clear HC5
              try clear c2
              try clear c2b0
              try clear p2
              try clear q2
              try clear hx2
              try clear c3
              try clear c3b0
              try clear c4
              try clear c4b0
              try clear c6
              try clear c6b0
              try clear c6b1
              try clear c7
              try clear c7b0
              try clear c7b1
              try clear hx227_0
              try clear p227
              try clear q227
              obtain ⟨kq, x23_4, rfl, HA, HJ4, ⟨mc4, rfl⟩⟩ := hcut
              cases kq with
              | zero => exact absurd HA.out (by simp [octet_ReadNum.j1])
              | succ kj4 =>
                have H := HA.out
                clear HA
                simp only [octet_ReadNum.j1] at H
                by_cases c8 : x23_4 = true
                · subst c8
                  have H1 : (some (0, 0, 5)) = some (r1, r2, r3) := by rw [if_pos rfl] at H; exact H
                  clear H
                  have H := H1
                  clear H1
                  simp only [Option.some.injEq, Prod.mk.injEq] at H
                  obtain ⟨rfl, rfl, rfl⟩ := H
                  go_wp2
                  go_ret3
                  exact ⟨by first | rfl | (simp; done) | (simp [*]; done), by repeat (first | exact Drawn0.refl _ | apply Drawn0.step)⟩
                · replace c8 := Bool.eq_false_iff.mpr c8
                  subst c8
                  have H1 : (if 0 ≤ (wrap64 (7 * x9_1)) then (if (Go.bits .or .i64 x2_1 (shl .i64 (wrap64 (Go.bits .and .u8 (rd l0 x9_1) 127)) (wrap64 (7 * x9_1)))) > 4611686018427387904 then (octet_ReadNum.j2 kj4 (Go.bits .or .i64 x2_1 (shl .i64 (wrap64 (Go.bits .and .u8 (rd l0 x9_1) 127)) (wrap64 (7 * x9_1)))) x9_1 (rd l0 x9_1) l0 (l0.length : Int) x9_1 true) else (octet_ReadNum.j2 kj4 (Go.bits .or .i64 x2_1 (shl .i64 (wrap64 (Go.bits .and .u8 (rd l0 x9_1) 127)) (wrap64 (7 * x9_1)))) x9_1 (rd l0 x9_1) l0 (l0.length : Int) x9_1 (decide ((Go.bits .or .i64 x2_1 (shl .i64 (wrap64 (Go.bits .and .u8 (rd l0 x9_1) 127)) (wrap64 (7 * x9_1)))) < 0)))) else (none)) = some (r1, r2, r3) := by rw [if_neg (show ¬ (false = true) by decide)] at H; exact H
                  clear H
                  have H := H1
                  clear H1
                  obtain ⟨ji9, hji9⟩ : ∃ j_ : Int, (wrap64 (7 * x9_1)) = j_ := ⟨_, rfl⟩
                  replace H : (if 0 ≤ (ji9) then (if (Go.bits .or .i64 x2_1 (shl .i64 (wrap64 (Go.bits .and .u8 (rd l0 x9_1) 127)) (ji9))) > 4611686018427387904 then (octet_ReadNum.j2 kj4 (Go.bits .or .i64 x2_1 (shl .i64 (wrap64 (Go.bits .and .u8 (rd l0 x9_1) 127)) (ji9))) x9_1 (rd l0 x9_1) l0 (l0.length : Int) x9_1 true) else (octet_ReadNum.j2 kj4 (Go.bits .or .i64 x2_1 (shl .i64 (wrap64 (Go.bits .and .u8 (rd l0 x9_1) 127)) (ji9))) x9_1 (rd l0 x9_1) l0 (l0.length : Int) x9_1 (decide ((Go.bits .or .i64 x2_1 (shl .i64 (wrap64 (Go.bits .and .u8 (rd l0 x9_1) 127)) (ji9))) < 0)))) else (none)) = some (r1, r2, r3) := by first | (rw [hji9] at H; exact H) | (simp only [hji9] at H ⊢; exact H)
                  have hji9w : (IntKind.i64.wrap (7 * x9_1)) = ji9 := (i64_w _).trans hji9
                  by_cases c10 : 0 ≤ (ji9)
                  · rw [if_pos c10] at H
                    have c10b0 := eq_true c10
                    have c10b1 : decide (0 ≤ (ji9)) = true := decide_eq_true c10
                    clear c10
                    obtain ⟨ji11, hji11⟩ : ∃ j_ : Int, (shl .i64 (wrap64 (Go.bits .and .u8 (rd l0 x9_1) 127)) (ji9)) = j_ := ⟨_, rfl⟩
                    replace H : (if (Go.bits .or .i64 x2_1 (ji11)) > 4611686018427387904 then (octet_ReadNum.j2 kj4 (Go.bits .or .i64 x2_1 (ji11)) x9_1 (rd l0 x9_1) l0 (l0.length : Int) x9_1 true) else (octet_ReadNum.j2 kj4 (Go.bits .or .i64 x2_1 (ji11)) x9_1 (rd l0 x9_1) l0 (l0.length : Int) x9_1 (decide ((Go.bits .or .i64 x2_1 (ji11)) < 0)))) = some (r1, r2, r3) := by first | (rw [hji11] at H; exact H) | (simp only [hji11] at H ⊢; exact H)
                    have hji11_ : (IntKind.i64.wrap ((wrap64 (Go.bits .and .u8 (rd l0 x9_1) 127)) * 2 ^ min (ji9).toNat 64)) = ji11 := hji11
                    have hji11z : (ji9) ≤ 64 → (IntKind.i64.wrap ((wrap64 (Go.bits .and .u8 (rd l0 x9_1) 127)) * 2 ^ (ji9).toNat)) = ji11 := shl_small hji11
                    have hji11y : (wrap64 ((wrap64 (Go.bits .and .u8 (rd l0 x9_1) 127)) * 2 ^ min (ji9).toNat 64)) = ji11 := (i64_w _).symm.trans hji11_
                    have hji11x : (ji9) ≤ 64 → (wrap64 ((wrap64 (Go.bits .and .u8 (rd l0 x9_1) 127)) * 2 ^ (ji9).toNat)) = ji11 := fun h_ => (i64_w _).symm.trans (hji11z h_)
                    have HC12 := Aside0.mk H
                    clear H
                    go_upto_region 7 with (fail)
                    go_cut [37] (fun v37 wc => ∃ (kq : Nat) (x37_11 : Bool), v37 = .bool x37_11 ∧ Aside0 (octet_ReadNum.j2 kq (Go.bits .or .i64 x2_1 (ji11)) x9_1 (rd l0 x9_1) l0 (l0.length : Int) x9_1 x37_11 = some (r1, r2, r3)) ∧ Aside0 (kq ≤ kj4) ∧ Drawn0 w wc)
                    case first =>
                      have H := HC12.out
                      clear HC12
                      by_cases c13 : (Go.bits .or .i64 x2_1 (ji11)) > 4611686018427387904
                      · rw [if_pos c13] at H
                        have c13b0 : decide (4611686018427387904 < (Go.bits .or .i64 x2_1 (ji11))) = true := decide_eq_true c13
                        clear c13
                        (first | rw [c13b0] | (simp only [i64_w, i32_w]; rw [c13b0]) | skip)
                        have H' := Aside0.mk H
                        clear H
                        go_wp2
                        go_meet
                        case rel => exact ⟨_, (true), (by first | rfl | (simp; done) | (simp [*]; done)), H', ⟨by have := HK1.out; have := HJ4.out; first | omega | exact Nat.le_refl _⟩, by repeat (first | exact Drawn0.refl _ | apply Drawn0.step)⟩
                      · rw [if_neg c13] at H
                        have c13b0 : decide (4611686018427387904 < (Go.bits .or .i64 x2_1 (ji11))) = false := decide_eq_false c13
                        clear c13
                        (first | rw [c13b0] | (simp only [i64_w, i32_w]; rw [c13b0]) | skip)
                        have H' := Aside0.mk H
                        clear H
                        go_wp2
                        go_meet
                        case rel => exact ⟨_, (decide ((Go.bits .or .i64 x2_1 (ji11)) < 0)), (by first | rfl | (simp; done) | (simp only [← hji11] <;> (first | rfl | simp)) | (simp [*]; done)), H', ⟨by have := HK1.out; have := HJ4.out; first | omega | exact Nat.le_refl _⟩, by repeat (first | exact Drawn0.refl _ | apply Drawn0.step)⟩
                    case rest =>
                      clear HC12
                      try clear c1
                      try clear c2
                      try clear c2b0
                      try clear p2
                      try clear q2
                      try clear hx2
                      try clear c3
                      try clear c3b0
                      try clear c4
                      try clear c4b0
                      try clear c6
                      try clear c6b0
                      try clear c6b1
                      try clear p6
                      try clear c7
                      try clear c7b0
                      try clear c7b1
                      try clear c8
                      try clear c10
                      try clear c10b0
                      try clear c10b1
                      try clear c13
                      try clear c13b0
                      try clear hx227_0
                      try clear p2
                      try clear p227
                      try clear q2
                      try clear q227
                      obtain ⟨kq, x37_11, rfl, HA, HJ11, ⟨mc11, rfl⟩⟩ := hcut
                      cases kq with
                      | zero => exact absurd HA.out (by simp [octet_ReadNum.j2])
                      | succ kj11 =>
                        have H := HA.out
                        clear HA
                        simp only [octet_ReadNum.j2] at H
                        by_cases c14 : x37_11 = true
                        · subst c14
                          have H1 : (some (0, 0, 5)) = some (r1, r2, r3) := by rw [if_pos rfl] at H; exact H
                          clear H
                          have H := H1
                          clear H1
                          simp only [Option.some.injEq, Prod.mk.injEq] at H
                          obtain ⟨rfl, rfl, rfl⟩ := H
                          go_wp2
                          go_ret3
                          exact ⟨by first | rfl | (simp; done) | (simp only [← hji9, ← hji11] <;> (first | rfl | simp)) | (simp [*]; done), by repeat (first | exact Drawn0.refl _ | apply Drawn0.step)⟩
                        · replace c14 := Bool.eq_false_iff.mpr c14
                          subst c14
                          have H1 : (if (rd l0 x9_1) < 128 then (some ((Go.bits .or .i64 x2_1 (ji11)), wrap64 (x9_1 + 1), 0)) else (octet_ReadNum.l0 kj11 (Go.bits .or .i64 x2_1 (ji11)) l0 (l0.length : Int) (wrap64 (x9_1 + 1)))) = some (r1, r2, r3) := by rw [if_neg (show ¬ (false = true) by decide)] at H; exact H
                          clear H
                          have H := H1
                          clear H1
                          by_cases c15 : (rd l0 x9_1) < 128
                          · rw [if_pos c15] at H
                            have c15b0 : decide ((rd l0 x9_1) < 128) = true := decide_eq_true c15
                            clear c15
                            simp only [Option.some.injEq, Prod.mk.injEq] at H
                            obtain ⟨rfl, rfl, rfl⟩ := H
                            go_wp2
                            go_ret3
                            exact ⟨by first | rfl | (simp; done) | (simp only [← hji9, ← hji11] <;> (first | rfl | simp)) | (simp [*]; done), by repeat (first | exact Drawn0.refl _ | apply Drawn0.step)⟩
                          · rw [if_neg c15] at H
                            have c15b0 : decide ((rd l0 x9_1) < 128) = false := decide_eq_false c15
                            clear c15
                            have H' := Aside0.mk H
                            clear H
                            go_wp2
                            go_roundg kj11
                            case measure => have := HK1.out; have := HJ4.out; have := HJ11.out; omega
                            case rel => exact ⟨((Go.bits .or .i64 x2_1 (ji11))), (wrap64 (x9_1 + 1)), (by first | rfl | (simp; done) | (simp only [← hji11] <;> (first | rfl | simp)) | (simp [*]; done)), (by first | rfl | (simp; done) | (simp [*]; done)), H', ⟨by have := HK1.out; have := HJ4.out; have := HJ11.out; omega⟩, by repeat (first | exact Drawn0.refl _ | apply Drawn0.step)⟩
                  · rw [if_neg c10] at H
                    exact absurd H (by simp)
          · rw [if_neg c4] at H
            exact absurd H (by simp)
        · rw [if_neg c3] at H
          exact absurd H (by simp)
      · rw [if_neg c2] at H
        have c2b0 : decide (x9_1 < (l0.length : Int)) = false := decide_eq_false c2
        clear c2
        simp only [Option.some.injEq, Prod.mk.injEq] at H
        obtain ⟨rfl, rfl, rfl⟩ := H
        go_wp2
        go_ret3
        exact ⟨by first | rfl | (simp; done) | (simp [*]; done), by repeat (first | exact Drawn0.refl _ | apply Drawn0.step)⟩

end Go.Proofs.YteajidciahoboaaDoor.P
-- PzoctetReadText
-- PRINTED by print.py (a twelfth state) out of the translation. Not trusted: Lean checks it.
namespace Go.Proofs.YteajidciahoboaaDoor.P
open Go.RowKit Go.Proofs.YteajidciahoboaaDoorW.PrintWords Go.Proofs.YteajidciahoboaaDoorW.PrintLast Go.Proofs.YteajidciahoboaaDoorW.PrintMore
attribute [local go_sem] max2_int min2_int max_two min_two max_three min_three max_four min_four   -- for this text's walks alone
set_option linter.unusedVariables false
set_option linter.unusedSimpArgs false

/-! ### octet_ReadText: function 31 -/
def octet_ReadText.f (k : Nat) (l0 : List Int) : Option (ByteArray × Int × Int) := (octet_ReadNum.f k l0).bind fun bt228 => (if bt228.2.2 = 0 then (if bt228.1 > 4096 then (some ((⟨#[]⟩ : ByteArray), 0, 3)) else (if bt228.1 > (wrap64 ((l0.length : Int) - bt228.2.1)) then (some ((⟨#[]⟩ : ByteArray), 0, 4)) else (if 0 ≤ bt228.2.1 then (if bt228.2.1 ≤ (wrap64 (bt228.2.1 + bt228.1)) then (if (wrap64 (bt228.2.1 + bt228.1)) ≤ (l0.length : Int) then (some (strOfNums ((l0.take ((wrap64 (bt228.2.1 + bt228.1)) : Int).toNat).drop (bt228.2.1 : Int).toNat), wrap64 (bt228.2.1 + bt228.1), 0)) else (none)) else (none)) else (none)))) else (some ((⟨#[]⟩ : ByteArray), 0, bt228.2.2)))
theorem octet_ReadText.mono : ∀ a0 k, LeO (octet_ReadText.f k a0) (octet_ReadText.f (k + 1) a0) := by
  intro a0 k
  unfold octet_ReadText.f
  repeat' first
      | (with_reducible exact octet_ReadNum.mono _ _)
      | (with_reducible exact LeO.refl _)
      | (with_reducible exact LeO.none _)
      | (with_reducible refine LeO.ite ?_ ?_)
      | (with_reducible refine LeO.bind ?_ (fun _ => ?_))
      | exact octet_ReadNum.mono _ _
      | exact LeO.none _
      | refine LeO.ite ?_ ?_
      | refine LeO.bind ?_ (fun _ => ?_)
set_option maxHeartbeats 8000000 in
set_option maxRecDepth 100000 in
theorem octet_ReadText.calls (k : Nat) (A0 : Option Addr) (c0 : Nat) (l0 : List Int) (r1 : ByteArray) (r2 : Int) (r3 : Int) (w : World) (hr0 : Kd.C (Kd.int .u8) w A0 l0.length l0) (hc0 : l0.length ≤ c0) (h : octet_ReadText.f k l0 = some (r1, r2, r3)) :
    Calls Tryd.prog 31 #[.slice A0 l0.length c0] w fun e w' => e = .returned (.tuple #[.string r1, .int .i64 r2, .int .i64 r3]) ∧ Drawn0 w w' := by
  have HR0 := Aside0.mk hr0
  have HC0 := Aside0.mk hc0
  clear hr0 hc0
  have H : ((octet_ReadNum.f k l0).bind fun bt228 => (if bt228.2.2 = 0 then (if bt228.1 > 4096 then (some ((⟨#[]⟩ : ByteArray), 0, 3)) else (if bt228.1 > (wrap64 ((l0.length : Int) - bt228.2.1)) then (some ((⟨#[]⟩ : ByteArray), 0, 4)) else (if 0 ≤ bt228.2.1 then (if bt228.2.1 ≤ (wrap64 (bt228.2.1 + bt228.1)) then (if (wrap64 (bt228.2.1 + bt228.1)) ≤ (l0.length : Int) then (some (strOfNums ((l0.take ((wrap64 (bt228.2.1 + bt228.1)) : Int).toNat).drop (bt228.2.1 : Int).toNat), wrap64 (bt228.2.1 + bt228.1), 0)) else (none)) else (none)) else (none)))) else (some ((⟨#[]⟩ : ByteArray), 0, bt228.2.2)))) = some (r1, r2, r3) := h
  clear h
  replace H := Option.bind_eq_some_iff.mp H
  obtain ⟨⟨t228, t229, t230⟩, A20, H⟩ := H
  replace H : (if t230 = 0 then (if t228 > 4096 then (some ((⟨#[]⟩ : ByteArray), 0, 3)) else (if t228 > (wrap64 ((l0.length : Int) - t229)) then (some ((⟨#[]⟩ : ByteArray), 0, 4)) else (if 0 ≤ t229 then (if t229 ≤ (wrap64 (t229 + t228)) then (if (wrap64 (t229 + t228)) ≤ (l0.length : Int) then (some (strOfNums ((l0.take ((wrap64 (t229 + t228)) : Int).toNat).drop (t229 : Int).toNat), wrap64 (t229 + t228), 0)) else (none)) else (none)) else (none)))) else (some ((⟨#[]⟩ : ByteArray), 0, t230))) = some (r1, r2, r3) := H
  have A2 := Aside0.mk A20
  clear A20
  by_cases c3 : t230 = 0
  · rw [if_pos c3] at H
    have c3b0 : (t230 == 0) = true := beq_iff_eq.mpr c3
    have c3b1 : (t230 != 0) = false := bne_eq_false_iff_eq.mpr c3
    clear c3
    by_cases c4 : t228 > 4096
    · rw [if_pos c4] at H
      have c4b0 : decide (4096 < t228) = true := decide_eq_true c4
      clear c4
      simp only [Option.some.injEq, Prod.mk.injEq] at H
      obtain ⟨rfl, rfl, rfl⟩ := H
      go_enter Tryd.func31, Tryd.ntmps31
      go_wp2_with (first | ((with_reducible refine gate_callee (f := 30) rfl ?_); refine goesL_ (some 9) rfl rfl Tryd.func30 (by kernel_rfl) rfl #[.slice A0 l0.length c0] rfl (by (try simp only [List.map_toArray, List.map_cons, List.map_nil]); first | done | rfl | (simp only [List.length_drop, List.length_take]; rfl)) ?_; (with_reducible refine (octet_ReadNum.calls k _ _ l0 t228 t229 t230 _ ?side1 ?side2 A2.out).mono ?_); (case side1 => repeat (first | exact HR0.out | (with_reducible refine Kd.C_alloc ?_ _) | (with_reducible refine Kd.C_drewN ?_ _) | (with_reducible refine Kd.C_drew ?_))); (case side2 => exact HC0.out); rintro e w' ⟨rfl, ⟨nd, rfl⟩⟩; refine ⟨_, rfl, ?_⟩))
      go_ret3
      exact ⟨by first | rfl | (simp; done) | (simp [*]; done), by repeat (first | exact Drawn0.refl _ | apply Drawn0.step)⟩
    · rw [if_neg c4] at H
      have c4b0 : decide (4096 < t228) = false := decide_eq_false c4
      clear c4
      by_cases c5 : t228 > (wrap64 ((l0.length : Int) - t229))
      · rw [if_pos c5] at H
        have c5b0 : decide ((wrap64 ((l0.length : Int) - t229)) < t228) = true := decide_eq_true c5
        clear c5
        simp only [Option.some.injEq, Prod.mk.injEq] at H
        obtain ⟨rfl, rfl, rfl⟩ := H
        go_enter Tryd.func31, Tryd.ntmps31
        go_wp2_with (first | ((with_reducible refine gate_callee (f := 30) rfl ?_); refine goesL_ (some 9) rfl rfl Tryd.func30 (by kernel_rfl) rfl #[.slice A0 l0.length c0] rfl (by (try simp only [List.map_toArray, List.map_cons, List.map_nil]); first | done | rfl | (simp only [List.length_drop, List.length_take]; rfl)) ?_; (with_reducible refine (octet_ReadNum.calls k _ _ l0 t228 t229 t230 _ ?side1 ?side2 A2.out).mono ?_); (case side1 => repeat (first | exact HR0.out | (with_reducible refine Kd.C_alloc ?_ _) | (with_reducible refine Kd.C_drewN ?_ _) | (with_reducible refine Kd.C_drew ?_))); (case side2 => exact HC0.out); rintro e w' ⟨rfl, ⟨nd, rfl⟩⟩; refine ⟨_, rfl, ?_⟩))
        go_ret3
        exact ⟨by first | rfl | (simp; done) | (simp [*]; done), by repeat (first | exact Drawn0.refl _ | apply Drawn0.step)⟩
      · rw [if_neg c5] at H
        have c5b0 : decide ((wrap64 ((l0.length : Int) - t229)) < t228) = false := decide_eq_false c5
        clear c5
        by_cases c6 : 0 ≤ t229
        · rw [if_pos c6] at H
          have c6b0 := eq_true c6
          have c6b1 : decide (0 ≤ t229) = true := decide_eq_true c6
          clear c6
          by_cases c7 : t229 ≤ (wrap64 (t229 + t228))
          · rw [if_pos c7] at H
            have c7b0 := eq_true c7
            have c7b1 : decide (t229 ≤ (wrap64 (t229 + t228))) = true := decide_eq_true c7
            by_cases c8 : (wrap64 (t229 + t228)) ≤ (l0.length : Int)
            · rw [if_pos c8] at H
              have c8b0 := eq_true c8
              have c8b1 : decide ((wrap64 (t229 + t228)) ≤ (l0.length : Int)) = true := decide_eq_true c8
              simp only [Option.some.injEq, Prod.mk.injEq] at H
              obtain ⟨rfl, rfl, rfl⟩ := H
              go_enter Tryd.func31, Tryd.ntmps31
              go_wp2_with (first | ((with_reducible refine gate_callee (f := 30) rfl ?_); refine goesL_ (some 9) rfl rfl Tryd.func30 (by kernel_rfl) rfl #[.slice A0 l0.length c0] rfl (by (try simp only [List.map_toArray, List.map_cons, List.map_nil]); first | done | rfl | (simp only [List.length_drop, List.length_take]; rfl)) ?_; (with_reducible refine (octet_ReadNum.calls k _ _ l0 t228 t229 t230 _ ?side1 ?side2 A2.out).mono ?_); (case side1 => repeat (first | exact HR0.out | (with_reducible refine Kd.C_alloc ?_ _) | (with_reducible refine Kd.C_drewN ?_ _) | (with_reducible refine Kd.C_drew ?_))); (case side2 => exact HC0.out); rintro e w' ⟨rfl, ⟨nd, rfl⟩⟩; refine ⟨_, rfl, ?_⟩; obtain ⟨i09, hi09, _, hsz9, _⟩ := info_parts info5; obtain ⟨A9, hcut9, hA9, hC9⟩ := print_mid_of (P := Tryd.prog) (Value.int .u8) 0 36 5 .i64 .i64 Tryd.underlying36 hi09 hsz9 A0 c0 l0 t229 (wrap64 (t229 + t228)) (of_decide_eq_true (by first | (with_reducible assumption) | assumption)) (by first | omega | exact of_decide_eq_true (by first | (with_reducible assumption) | assumption)) (of_decide_eq_true (by first | (with_reducible assumption) | assumption)) HC0.out; have HR231 := Aside0.mk (Kd.C_of_reads (h1 := fun _ => rfl) (hA9 _ (Kd.reads_of_C HR0.out))); have HC231 := Aside0.mk hC9; clear hA9 hC9 hi09 hsz9; have hcv10 := Kd.C_string (P := Tryd.prog) (A := A9) (c := (c0 - t229.toNat)) Tryd.underlying36 Tryd.underlying5 Tryd.underlying9 HR231.out; (try (have hcv10z := hcv10; rw [List.length_drop, List.length_take, Nat.min_eq_left (by omega)] at hcv10z)); (try (have hcv10y := Kd.C_string (P := Tryd.prog) (A := A9) (c := (c0 - t229.toNat)) Tryd.underlying36 Tryd.underlying5 Tryd.underlying9 (Kd.C_drewN HR231.out nd); rw [List.length_drop, List.length_take, Nat.min_eq_left (by omega)] at hcv10y))))
              go_ret3
              exact ⟨by first | rfl | (simp; done) | (simp [*]; done), by repeat (first | exact Drawn0.refl _ | apply Drawn0.step)⟩
            · rw [if_neg c8] at H
              exact absurd H (by simp)
          · rw [if_neg c7] at H
            exact absurd H (by simp)
        · rw [if_neg c6] at H
          exact absurd H (by simp)
  · rw [if_neg c3] at H
    have c3b0 : (t230 == 0) = false := beq_eq_false_iff_ne.mpr c3
    have c3b1 : (t230 != 0) = true := bne_iff_ne.mpr c3
    simp only [Option.some.injEq, Prod.mk.injEq] at H
    obtain ⟨rfl, rfl, rfl⟩ := H
    go_enter Tryd.func31, Tryd.ntmps31
    go_wp2_with (first | ((with_reducible refine gate_callee (f := 30) rfl ?_); refine goesL_ (some 9) rfl rfl Tryd.func30 (by kernel_rfl) rfl #[.slice A0 l0.length c0] rfl (by (try simp only [List.map_toArray, List.map_cons, List.map_nil]); first | done | rfl | (simp only [List.length_drop, List.length_take]; rfl)) ?_; (with_reducible refine (octet_ReadNum.calls k _ _ l0 t228 t229 t230 _ ?side1 ?side2 A2.out).mono ?_); (case side1 => repeat (first | exact HR0.out | (with_reducible refine Kd.C_alloc ?_ _) | (with_reducible refine Kd.C_drewN ?_ _) | (with_reducible refine Kd.C_drew ?_))); (case side2 => exact HC0.out); rintro e w' ⟨rfl, ⟨nd, rfl⟩⟩; refine ⟨_, rfl, ?_⟩))
    go_ret3
    exact ⟨by first | rfl | (simp; done) | (simp [*]; done), by repeat (first | exact Drawn0.refl _ | apply Drawn0.step)⟩

end Go.Proofs.YteajidciahoboaaDoor.P
-- Pzracewayref01ReadNum
-- PRINTED by print.py (a twelfth state) out of the translation. Not trusted: Lean checks it.
namespace Go.Proofs.YteajidciahoboaaDoor.P
open Go.RowKit Go.Proofs.YteajidciahoboaaDoorW.PrintWords Go.Proofs.YteajidciahoboaaDoorW.PrintLast Go.Proofs.YteajidciahoboaaDoorW.PrintMore
attribute [local go_sem] max2_int min2_int max_two min_two max_three min_three max_four min_four   -- for this text's walks alone
set_option linter.unusedVariables false
set_option linter.unusedSimpArgs false

/-! ### racewayref01_ReadNum: function 34 -/
mutual
def racewayref01_ReadNum.l0 : Nat → List Int → Int → Int → Int → Option (Int × Int × Int)
  | 0, _, _, _, _ => none
  | k + 1, x0, x5, x6, x7 => if x7 < (x0.length : Int) then (if x7 = 9 then (racewayref01_ReadNum.j1 k x0 x5 x6 x7 true) else (if x7 > 0 then (if 0 ≤ x7 then (racewayref01_ReadNum.j1 k x0 x5 x6 x7 ((rd x0 x7) == 0)) else (none)) else (racewayref01_ReadNum.j1 k x0 x5 x6 x7 false))) else (some (0, 0, 4))
def racewayref01_ReadNum.j1 : Nat → List Int → Int → Int → Int → Bool → Option (Int × Int × Int)
  | 0, _, _, _, _, _ => none
  | k + 1, x0, x5, x6, x7, x27 => if x27 = true then (some (0, 0, 5)) else (if 0 ≤ x7 then (if x7 < (x0.length : Int) then (if (wrap64 (Int.tmod (rd x0 x7) 128)) > 0 then (if x7 = 8 then (if (wrap64 (Int.tmod (rd x0 x7) 128)) > 64 then (racewayref01_ReadNum.j2 k x0 x5 x6 x7 (wrap64 (Int.tmod (rd x0 x7) 128)) true) else (if (wrap64 (Int.tmod (rd x0 x7) 128)) = 64 then (racewayref01_ReadNum.j2 k x0 x5 x6 x7 (wrap64 (Int.tmod (rd x0 x7) 128)) (decide (x5 > 0))) else (racewayref01_ReadNum.j2 k x0 x5 x6 x7 (wrap64 (Int.tmod (rd x0 x7) 128)) false))) else (racewayref01_ReadNum.j2 k x0 x5 x6 x7 (wrap64 (Int.tmod (rd x0 x7) 128)) false)) else (racewayref01_ReadNum.j2 k x0 x5 x6 x7 (wrap64 (Int.tmod (rd x0 x7) 128)) false)) else (none)) else (none))
def racewayref01_ReadNum.j2 : Nat → List Int → Int → Int → Int → Int → Bool → Option (Int × Int × Int)
  | 0, _, _, _, _, _, _ => none
  | k + 1, x0, x5, x6, x7, x8, x55 => if x55 = true then (some (0, 0, 5)) else (if 0 ≤ x7 then (if x7 < (x0.length : Int) then (if (rd x0 x7) < 128 then (some (wrap64 (x5 + (wrap64 (x8 * x6))), wrap64 (x7 + 1), 0)) else (if x7 < 8 then (racewayref01_ReadNum.l0 k x0 (wrap64 (x5 + (wrap64 (x8 * x6)))) (wrap64 (x6 * 128)) (wrap64 (x7 + 1))) else (racewayref01_ReadNum.l0 k x0 (wrap64 (x5 + (wrap64 (x8 * x6)))) x6 (wrap64 (x7 + 1))))) else (none)) else (none))
end
def racewayref01_ReadNum.f (k : Nat) (l0 : List Int) : Option (Int × Int × Int) := racewayref01_ReadNum.l0 k l0 0 1 0
theorem racewayref01_ReadNum.mono_l : ∀ k, (∀ y0 y1 y2 y3, LeO (racewayref01_ReadNum.l0 k y0 y1 y2 y3) (racewayref01_ReadNum.l0 (k + 1) y0 y1 y2 y3)) ∧ (∀ y0 y1 y2 y3 y4, LeO (racewayref01_ReadNum.j1 k y0 y1 y2 y3 y4) (racewayref01_ReadNum.j1 (k + 1) y0 y1 y2 y3 y4)) ∧ (∀ y0 y1 y2 y3 y4 y5, LeO (racewayref01_ReadNum.j2 k y0 y1 y2 y3 y4 y5) (racewayref01_ReadNum.j2 (k + 1) y0 y1 y2 y3 y4 y5))
  | 0 => ⟨fun _ _ _ _ r h => by simp [racewayref01_ReadNum.l0] at h, fun _ _ _ _ _ r h => by simp [racewayref01_ReadNum.j1] at h, fun _ _ _ _ _ _ r h => by simp [racewayref01_ReadNum.j2] at h⟩
  | k + 1 => by
    obtain ⟨ih0, ih1, ih2⟩ := racewayref01_ReadNum.mono_l k
    refine ⟨?_, ?_, ?_⟩
    · intro y0 y1 y2 y3
      unfold racewayref01_ReadNum.l0
      repeat' first
      | (with_reducible exact ih0 _ _ _ _)
      | (with_reducible exact ih1 _ _ _ _ _)
      | (with_reducible exact ih2 _ _ _ _ _ _)
      | (with_reducible exact LeO.refl _)
      | (with_reducible exact LeO.none _)
      | (with_reducible refine LeO.ite ?_ ?_)
      | (with_reducible refine LeO.bind ?_ (fun _ => ?_))
      | exact ih0 _ _ _ _
      | exact ih1 _ _ _ _ _
      | exact ih2 _ _ _ _ _ _
      | exact LeO.none _
      | refine LeO.ite ?_ ?_
      | refine LeO.bind ?_ (fun _ => ?_)
    · intro y0 y1 y2 y3 y4
      unfold racewayref01_ReadNum.j1
      repeat' first
      | (with_reducible exact ih0 _ _ _ _)
      | (with_reducible exact ih1 _ _ _ _ _)
      | (with_reducible exact ih2 _ _ _ _ _ _)
      | (with_reducible exact LeO.refl _)
      | (with_reducible exact LeO.none _)
      | (with_reducible refine LeO.ite ?_ ?_)
      | (with_reducible refine LeO.bind ?_ (fun _ => ?_))
      | exact ih0 _ _ _ _
      | exact ih1 _ _ _ _ _
      | exact ih2 _ _ _ _ _ _
      | exact LeO.none _
      | refine LeO.ite ?_ ?_
      | refine LeO.bind ?_ (fun _ => ?_)
    · intro y0 y1 y2 y3 y4 y5
      unfold racewayref01_ReadNum.j2
      repeat' first
      | (with_reducible exact ih0 _ _ _ _)
      | (with_reducible exact ih1 _ _ _ _ _)
      | (with_reducible exact ih2 _ _ _ _ _ _)
      | (with_reducible exact LeO.refl _)
      | (with_reducible exact LeO.none _)
      | (with_reducible refine LeO.ite ?_ ?_)
      | (with_reducible refine LeO.bind ?_ (fun _ => ?_))
      | exact ih0 _ _ _ _
      | exact ih1 _ _ _ _ _
      | exact ih2 _ _ _ _ _ _
      | exact LeO.none _
      | refine LeO.ite ?_ ?_
      | refine LeO.bind ?_ (fun _ => ?_)
theorem racewayref01_ReadNum.mono : ∀ a0 k, LeO (racewayref01_ReadNum.f k a0) (racewayref01_ReadNum.f (k + 1) a0) := by
  intro a0 k
  obtain ⟨ih0, ih1, ih2⟩ := racewayref01_ReadNum.mono_l k
  unfold racewayref01_ReadNum.f
  repeat' first
      | (with_reducible exact ih0 _ _ _ _)
      | (with_reducible exact ih1 _ _ _ _ _)
      | (with_reducible exact ih2 _ _ _ _ _ _)
      | (with_reducible exact LeO.refl _)
      | (with_reducible exact LeO.none _)
      | (with_reducible refine LeO.ite ?_ ?_)
      | (with_reducible refine LeO.bind ?_ (fun _ => ?_))
      | exact ih0 _ _ _ _
      | exact ih1 _ _ _ _ _
      | exact ih2 _ _ _ _ _ _
      | exact LeO.none _
      | refine LeO.ite ?_ ?_
      | refine LeO.bind ?_ (fun _ => ?_)
set_option maxHeartbeats 8000000 in
set_option maxRecDepth 100000 in
theorem racewayref01_ReadNum.calls (k : Nat) (A0 : Option Addr) (c0 : Nat) (l0 : List Int) (r1 : Int) (r2 : Int) (r3 : Int) (w : World) (hr0 : Kd.C (Kd.int .u8) w A0 l0.length l0) (hc0 : l0.length ≤ c0) (h : racewayref01_ReadNum.f k l0 = some (r1, r2, r3)) :
    Calls Tryd.prog 34 #[.slice A0 l0.length c0] w fun e w' => e = .returned (.tuple #[.int .i64 r1, .int .i64 r2, .int .i64 r3]) ∧ Drawn0 w w' := by
  have HR0 := Aside0.mk hr0
  have HC0 := Aside0.mk hc0
  clear hr0 hc0
  have H : (racewayref01_ReadNum.l0 k l0 0 1 0) = some (r1, r2, r3) := h
  clear h
  have H' := Aside0.mk H
  clear H
  go_enter Tryd.func34, Tryd.ntmps34
  go_wp2
  go_loopg [5, 6, 7] k (fun kq v5 v6 v7 w' => ∃ (x5_1 : Int) (x6_1 : Int) (x7_1 : Int), v5 = .int .i64 x5_1 ∧ v6 = .int .i64 x6_1 ∧ v7 = .int .i64 x7_1 ∧ Aside0 (racewayref01_ReadNum.l0 kq l0 x5_1 x6_1 x7_1 = some (r1, r2, r3)) ∧ Aside0 (kq ≤ k) ∧ Drawn0 w w')
  case atStart => exact ⟨(0), (1), (0), (by first | rfl | (simp; done) | (simp [*]; done)), (by first | rfl | (simp; done) | (simp [*]; done)), (by first | rfl | (simp; done) | (simp [*]; done)), H', ⟨Nat.le_refl _⟩, by repeat (first | exact Drawn0.refl _ | apply Drawn0.step)⟩
  case round =>
    clear H'
    obtain ⟨x5_1, x6_1, x7_1, rfl, rfl, rfl, HA, HK1, ⟨m1, rfl⟩⟩ := hrel
    cases gk with
    | zero => exact absurd HA.out (by simp [racewayref01_ReadNum.l0])
    | succ k1 =>
      have H := HA.out
      clear HA
      simp only [racewayref01_ReadNum.l0] at H
      by_cases c2 : x7_1 < (l0.length : Int)
      · rw [if_pos c2] at H
        have c2b0 : decide (x7_1 < (l0.length : Int)) = true := decide_eq_true c2
        clear c2
        have HC3 := Aside0.mk H
        clear H
        go_upto_region 6 with (fail)
        go_cut [27] (fun v27 wc => ∃ (kq : Nat) (x27_2 : Bool), v27 = .bool x27_2 ∧ Aside0 (racewayref01_ReadNum.j1 kq l0 x5_1 x6_1 x7_1 x27_2 = some (r1, r2, r3)) ∧ Aside0 (kq ≤ k1) ∧ Drawn0 w wc)
        case first =>
          have H := HC3.out
          clear HC3
          by_cases c4 : x7_1 = 9
          · rw [if_pos c4] at H
            have c4b0 : (x7_1 == 9) = true := beq_iff_eq.mpr c4
            have c4b1 : (x7_1 != 9) = false := bne_eq_false_iff_eq.mpr c4
            clear c4
            (first | rw [c4b0] | (simp only [i64_w, i32_w]; rw [c4b0]) | skip)
            have H' := Aside0.mk H
            clear H
            go_wp2
            go_meet
            case rel => exact ⟨_, (true), (by first | rfl | (simp; done) | (simp [*]; done)), H', ⟨by have := HK1.out; first | omega | exact Nat.le_refl _⟩, by repeat (first | exact Drawn0.refl _ | apply Drawn0.step)⟩
          · rw [if_neg c4] at H
            have c4b0 : (x7_1 == 9) = false := beq_eq_false_iff_ne.mpr c4
            have c4b1 : (x7_1 != 9) = true := bne_iff_ne.mpr c4
            (first | rw [c4b0] | (simp only [i64_w, i32_w]; rw [c4b0]) | skip)
            by_cases c5 : x7_1 > 0
            · rw [if_pos c5] at H
              have c5b0 : decide (0 < x7_1) = true := decide_eq_true c5
              clear c5
              by_cases c6 : 0 ≤ x7_1
              · rw [if_pos c6] at H
                have c6b0 : decide (0 ≤ x7_1) = true := decide_eq_true c6
                clear c6
                have H' := Aside0.mk H
                clear H
                have p265 : 0 ≤ (x7_1 : Int) := of_decide_eq_true (by first | (with_reducible assumption) | assumption)
                have q265 : x7_1 < (l0.length : Int) := of_decide_eq_true (by first | (with_reducible assumption) | assumption)
                obtain ⟨ad265, e265, hx265_0⟩ := Kd.at_int HR0.out x7_1 p265 q265
                cases e265
                replace p265 := eq_true p265
                replace q265 := eq_true q265
                go_wp2
                go_meet
                case rel => exact ⟨_, (((rd l0 x7_1) == 0)), (by first | rfl | (simp; done) | (simp [*]; done)), H', ⟨by have := HK1.out; first | omega | exact Nat.le_refl _⟩, by repeat (first | exact Drawn0.refl _ | apply Drawn0.step)⟩
              · rw [if_neg c6] at H
                exact absurd H (by simp)
            · rw [if_neg c5] at H
              have c5b0 : decide (0 < x7_1) = false := decide_eq_false c5
              clear c5
              have H' := Aside0.mk H
              clear H
              go_wp2
              go_meet
              case rel => exact ⟨_, (false), (by first | rfl | (simp; done) | (simp [*]; done)), H', ⟨by have := HK1.out; first | omega | exact Nat.le_refl _⟩, by repeat (first | exact Drawn0.refl _ | apply Drawn0.step)⟩
        case rest =>
          clear HC3
          try clear c2
          try clear c2b0
          try clear p2
          try clear q2
          try clear hx2
          try clear c3
          try clear c4
          try clear c4b0
          try clear c4b1
          try clear c5
          try clear c5b0
          try clear c6
          try clear c6b0
          try clear hx265_0
          try clear p265
          try clear q265
          obtain ⟨kq, x27_2, rfl, HA, HJ2, ⟨mc2, rfl⟩⟩ := hcut
          cases kq with
          | zero => exact absurd HA.out (by simp [racewayref01_ReadNum.j1])
          | succ kj2 =>
            have H := HA.out
            clear HA
            simp only [racewayref01_ReadNum.j1] at H
            by_cases c7 : x27_2 = true
            · subst c7
              have H1 : (some (0, 0, 5)) = some (r1, r2, r3) := by rw [if_pos rfl] at H; exact H
              clear H
              have H := H1
              clear H1
              simp only [Option.some.injEq, Prod.mk.injEq] at H
              obtain ⟨rfl, rfl, rfl⟩ := H
              go_wp2
              go_ret3
              exact ⟨by first | rfl | (simp; done) | (simp [*]; done), by repeat (first | exact Drawn0.refl _ | apply Drawn0.step)⟩
            · replace c7 := Bool.eq_false_iff.mpr c7
              subst c7
              have H1 : (if 0 ≤ x7_1 then (if x7_1 < (l0.length : Int) then (if (wrap64 (Int.tmod (rd l0 x7_1) 128)) > 0 then (if x7_1 = 8 then (if (wrap64 (Int.tmod (rd l0 x7_1) 128)) > 64 then (racewayref01_ReadNum.j2 kj2 l0 x5_1 x6_1 x7_1 (wrap64 (Int.tmod (rd l0 x7_1) 128)) true) else (if (wrap64 (Int.tmod (rd l0 x7_1) 128)) = 64 then (racewayref01_ReadNum.j2 kj2 l0 x5_1 x6_1 x7_1 (wrap64 (Int.tmod (rd l0 x7_1) 128)) (decide (x5_1 > 0))) else (racewayref01_ReadNum.j2 kj2 l0 x5_1 x6_1 x7_1 (wrap64 (Int.tmod (rd l0 x7_1) 128)) false))) else (racewayref01_ReadNum.j2 kj2 l0 x5_1 x6_1 x7_1 (wrap64 (Int.tmod (rd l0 x7_1) 128)) false)) else (racewayref01_ReadNum.j2 kj2 l0 x5_1 x6_1 x7_1 (wrap64 (Int.tmod (rd l0 x7_1) 128)) false)) else (none)) else (none)) = some (r1, r2, r3) := by rw [if_neg (show ¬ (false = true) by decide)] at H; exact H
              clear H
              have H := H1
              clear H1
              by_cases c8 : 0 ≤ x7_1
              · rw [if_pos c8] at H
                have c8b0 : decide (0 ≤ x7_1) = true := decide_eq_true c8
                clear c8
                by_cases c9 : x7_1 < (l0.length : Int)
                · rw [if_pos c9] at H
                  have c9b0 : decide (x7_1 < (l0.length : Int)) = true := decide_eq_true c9
                  clear c9
                  have HC10 := Aside0.mk H
                  clear H
                  have p266 : 0 ≤ (x7_1 : Int) := of_decide_eq_true (by first | (with_reducible assumption) | assumption)
                  have q266 : x7_1 < (l0.length : Int) := of_decide_eq_true (by first | (with_reducible assumption) | assumption)
                  obtain ⟨ad266, e266, hx266_0⟩ := Kd.at_int HR0.out x7_1 p266 q266
                  cases e266
                  replace p266 := eq_true p266
                  replace q266 := eq_true q266
                  go_upto_region 9 with (fail)
                  go_cut [55] (fun v55 wc => ∃ (kq : Nat) (x55_9 : Bool), v55 = .bool x55_9 ∧ Aside0 (racewayref01_ReadNum.j2 kq l0 x5_1 x6_1 x7_1 (wrap64 (Int.tmod (rd l0 x7_1) 128)) x55_9 = some (r1, r2, r3)) ∧ Aside0 (kq ≤ kj2) ∧ Drawn0 w wc)
                  case first =>
                    have H := HC10.out
                    clear HC10
                    by_cases c11 : (wrap64 (Int.tmod (rd l0 x7_1) 128)) > 0
                    · rw [if_pos c11] at H
                      have c11b0 : decide (0 < (wrap64 (Int.tmod (rd l0 x7_1) 128))) = true := decide_eq_true c11
                      clear c11
                      (first | rw [c11b0] | (simp only [i64_w, i32_w]; rw [c11b0]) | skip)
                      by_cases c12 : x7_1 = 8
                      · rw [if_pos c12] at H
                        have c12b0 : (x7_1 == 8) = true := beq_iff_eq.mpr c12
                        have c12b1 : (x7_1 != 8) = false := bne_eq_false_iff_eq.mpr c12
                        clear c12
                        by_cases c13 : (wrap64 (Int.tmod (rd l0 x7_1) 128)) > 64
                        · rw [if_pos c13] at H
                          have c13b0 : decide (64 < (wrap64 (Int.tmod (rd l0 x7_1) 128))) = true := decide_eq_true c13
                          clear c13
                          have H' := Aside0.mk H
                          clear H
                          go_wp2
                          go_meet
                          case rel => exact ⟨_, (true), (by first | rfl | (simp; done) | (simp [*]; done)), H', ⟨by have := HK1.out; have := HJ2.out; first | omega | exact Nat.le_refl _⟩, by repeat (first | exact Drawn0.refl _ | apply Drawn0.step)⟩
                        · rw [if_neg c13] at H
                          have c13b0 : decide (64 < (wrap64 (Int.tmod (rd l0 x7_1) 128))) = false := decide_eq_false c13
                          clear c13
                          by_cases c14 : (wrap64 (Int.tmod (rd l0 x7_1) 128)) = 64
                          · rw [if_pos c14] at H
                            have c14b0 : ((wrap64 (Int.tmod (rd l0 x7_1) 128)) == 64) = true := beq_iff_eq.mpr c14
                            have c14b1 : ((wrap64 (Int.tmod (rd l0 x7_1) 128)) != 64) = false := bne_eq_false_iff_eq.mpr c14
                            clear c14
                            have H' := Aside0.mk H
                            clear H
                            go_wp2
                            go_meet
                            case rel => exact ⟨_, (decide (x5_1 > 0)), (by first | rfl | (simp; done) | (simp [*]; done)), H', ⟨by have := HK1.out; have := HJ2.out; first | omega | exact Nat.le_refl _⟩, by repeat (first | exact Drawn0.refl _ | apply Drawn0.step)⟩
                          · rw [if_neg c14] at H
                            have c14b0 : ((wrap64 (Int.tmod (rd l0 x7_1) 128)) == 64) = false := beq_eq_false_iff_ne.mpr c14
                            have c14b1 : ((wrap64 (Int.tmod (rd l0 x7_1) 128)) != 64) = true := bne_iff_ne.mpr c14
                            have H' := Aside0.mk H
                            clear H
                            go_wp2
                            go_meet
                            case rel => exact ⟨_, (false), (by first | rfl | (simp; done) | (simp [*]; done)), H', ⟨by have := HK1.out; have := HJ2.out; first | omega | exact Nat.le_refl _⟩, by repeat (first | exact Drawn0.refl _ | apply Drawn0.step)⟩
                      · rw [if_neg c12] at H
                        have c12b0 : (x7_1 == 8) = false := beq_eq_false_iff_ne.mpr c12
                        have c12b1 : (x7_1 != 8) = true := bne_iff_ne.mpr c12
                        have H' := Aside0.mk H
                        clear H
                        go_wp2
                        go_meet
                        case rel => exact ⟨_, (false), (by first | rfl | (simp; done) | (simp [*]; done)), H', ⟨by have := HK1.out; have := HJ2.out; first | omega | exact Nat.le_refl _⟩, by repeat (first | exact Drawn0.refl _ | apply Drawn0.step)⟩
                    · rw [if_neg c11] at H
                      have c11b0 : decide (0 < (wrap64 (Int.tmod (rd l0 x7_1) 128))) = false := decide_eq_false c11
                      clear c11
                      (first | rw [c11b0] | (simp only [i64_w, i32_w]; rw [c11b0]) | skip)
                      have H' := Aside0.mk H
                      clear H
                      go_wp2
                      go_meet
                      case rel => exact ⟨_, (false), (by first | rfl | (simp; done) | (simp [*]; done)), H', ⟨by have := HK1.out; have := HJ2.out; first | omega | exact Nat.le_refl _⟩, by repeat (first | exact Drawn0.refl _ | apply Drawn0.step)⟩
                  case rest =>
                    clear HC10
                    try clear c1
                    try clear c2
                    try clear c2b0
                    try clear p2
                    try clear q2
                    try clear hx2
                    try clear c3
                    try clear c4
                    try clear c4b0
                    try clear c4b1
                    try clear c5
                    try clear c5b0
                    try clear c6
                    try clear c6b0
                    try clear p6
                    try clear c7
                    try clear c8
                    try clear c8b0
                    try clear c9
                    try clear c9b0
                    try clear c11
                    try clear c11b0
                    try clear c12
                    try clear c12b0
                    try clear c12b1
                    try clear c13
                    try clear c13b0
                    try clear c14
                    try clear c14b0
                    try clear c14b1
                    try clear hx265_0
                    try clear hx266_0
                    try clear p2
                    try clear p265
                    try clear p266
                    try clear q2
                    try clear q265
                    try clear q266
                    obtain ⟨kq, x55_9, rfl, HA, HJ9, ⟨mc9, rfl⟩⟩ := hcut
                    cases kq with
                    | zero => exact absurd HA.out (by simp [racewayref01_ReadNum.j2])
                    | succ kj9 =>
                      have H := HA.out
                      clear HA
                      simp only [racewayref01_ReadNum.j2] at H
                      by_cases c15 : x55_9 = true
                      · subst c15
                        have H1 : (some (0, 0, 5)) = some (r1, r2, r3) := by rw [if_pos rfl] at H; exact H
                        clear H
                        have H := H1
                        clear H1
                        simp only [Option.some.injEq, Prod.mk.injEq] at H
                        obtain ⟨rfl, rfl, rfl⟩ := H
                        go_wp2
                        go_ret3
                        exact ⟨by first | rfl | (simp; done) | (simp [*]; done), by repeat (first | exact Drawn0.refl _ | apply Drawn0.step)⟩
                      · replace c15 := Bool.eq_false_iff.mpr c15
                        subst c15
                        have H1 : (if 0 ≤ x7_1 then (if x7_1 < (l0.length : Int) then (if (rd l0 x7_1) < 128 then (some (wrap64 (x5_1 + (wrap64 ((wrap64 (Int.tmod (rd l0 x7_1) 128)) * x6_1))), wrap64 (x7_1 + 1), 0)) else (if x7_1 < 8 then (racewayref01_ReadNum.l0 kj9 l0 (wrap64 (x5_1 + (wrap64 ((wrap64 (Int.tmod (rd l0 x7_1) 128)) * x6_1)))) (wrap64 (x6_1 * 128)) (wrap64 (x7_1 + 1))) else (racewayref01_ReadNum.l0 kj9 l0 (wrap64 (x5_1 + (wrap64 ((wrap64 (Int.tmod (rd l0 x7_1) 128)) * x6_1)))) x6_1 (wrap64 (x7_1 + 1))))) else (none)) else (none)) = some (r1, r2, r3) := by rw [if_neg (show ¬ (false = true) by decide)] at H; exact H
                        clear H
                        have H := H1
                        clear H1
                        by_cases c16 : 0 ≤ x7_1
                        · rw [if_pos c16] at H
                          have c16b0 : decide (0 ≤ x7_1) = true := decide_eq_true c16
                          clear c16
                          by_cases c17 : x7_1 < (l0.length : Int)
                          · rw [if_pos c17] at H
                            have c17b0 : decide (x7_1 < (l0.length : Int)) = true := decide_eq_true c17
                            clear c17
                            by_cases c18 : (rd l0 x7_1) < 128
                            · rw [if_pos c18] at H
                              have c18b0 : decide ((rd l0 x7_1) < 128) = true := decide_eq_true c18
                              clear c18
                              simp only [Option.some.injEq, Prod.mk.injEq] at H
                              obtain ⟨rfl, rfl, rfl⟩ := H
                              have p267 : 0 ≤ (x7_1 : Int) := of_decide_eq_true (by first | (with_reducible assumption) | assumption)
                              have q267 : x7_1 < (l0.length : Int) := of_decide_eq_true (by first | (with_reducible assumption) | assumption)
                              obtain ⟨ad267, e267, hx267_0⟩ := Kd.at_int HR0.out x7_1 p267 q267
                              obtain rfl : ad266 = ad267 := (by injection e267)
                              replace p267 := eq_true p267
                              replace q267 := eq_true q267
                              go_wp2
                              go_ret3
                              exact ⟨by first | rfl | (simp; done) | (simp [*]; done), by repeat (first | exact Drawn0.refl _ | apply Drawn0.step)⟩
                            · rw [if_neg c18] at H
                              have c18b0 : decide ((rd l0 x7_1) < 128) = false := decide_eq_false c18
                              clear c18
                              by_cases c19 : x7_1 < 8
                              · rw [if_pos c19] at H
                                have c19b0 : decide (x7_1 < 8) = true := decide_eq_true c19
                                clear c19
                                have H' := Aside0.mk H
                                clear H
                                have p267 : 0 ≤ (x7_1 : Int) := of_decide_eq_true (by first | (with_reducible assumption) | assumption)
                                have q267 : x7_1 < (l0.length : Int) := of_decide_eq_true (by first | (with_reducible assumption) | assumption)
                                obtain ⟨ad267, e267, hx267_0⟩ := Kd.at_int HR0.out x7_1 p267 q267
                                obtain rfl : ad266 = ad267 := (by injection e267)
                                replace p267 := eq_true p267
                                replace q267 := eq_true q267
                                go_wp2
                                go_roundg kj9
                                case measure => have := HK1.out; have := HJ2.out; have := HJ9.out; omega
                                case rel => exact ⟨(wrap64 (x5_1 + (wrap64 ((wrap64 (Int.tmod (rd l0 x7_1) 128)) * x6_1)))), (wrap64 (x6_1 * 128)), (wrap64 (x7_1 + 1)), (by first | rfl | (simp; done) | (simp [*]; done)), (by first | rfl | (simp; done) | (simp [*]; done)), (by first | rfl | (simp; done) | (simp [*]; done)), H', ⟨by have := HK1.out; have := HJ2.out; have := HJ9.out; omega⟩, by repeat (first | exact Drawn0.refl _ | apply Drawn0.step)⟩
                              · rw [if_neg c19] at H
                                have c19b0 : decide (x7_1 < 8) = false := decide_eq_false c19
                                clear c19
                                have H' := Aside0.mk H
                                clear H
                                have p267 : 0 ≤ (x7_1 : Int) := of_decide_eq_true (by first | (with_reducible assumption) | assumption)
                                have q267 : x7_1 < (l0.length : Int) := of_decide_eq_true (by first | (with_reducible assumption) | assumption)
                                obtain ⟨ad267, e267, hx267_0⟩ := Kd.at_int HR0.out x7_1 p267 q267
                                obtain rfl : ad266 = ad267 := (by injection e267)
                                replace p267 := eq_true p267
                                replace q267 := eq_true q267
                                go_wp2
                                go_roundg kj9
                                case measure => have := HK1.out; have := HJ2.out; have := HJ9.out; omega
                                case rel => exact ⟨(wrap64 (x5_1 + (wrap64 ((wrap64 (Int.tmod (rd l0 x7_1) 128)) * x6_1)))), (x6_1), (wrap64 (x7_1 + 1)), (by first | rfl | (simp; done) | (simp [*]; done)), (by first | rfl | (simp; done) | (simp [*]; done)), (by first | rfl | (simp; done) | (simp [*]; done)), H', ⟨by have := HK1.out; have := HJ2.out; have := HJ9.out; omega⟩, by repeat (first | exact Drawn0.refl _ | apply Drawn0.step)⟩
                          · rw [if_neg c17] at H
                            exact absurd H (by simp)
                        · rw [if_neg c16] at H
                          exact absurd H (by simp)
                · rw [if_neg c9] at H
                  exact absurd H (by simp)
              · rw [if_neg c8] at H
                exact absurd H (by simp)
      · rw [if_neg c2] at H
        have c2b0 : decide (x7_1 < (l0.length : Int)) = false := decide_eq_false c2
        clear c2
        simp only [Option.some.injEq, Prod.mk.injEq] at H
        obtain ⟨rfl, rfl, rfl⟩ := H
        go_wp2
        go_ret3
        exact ⟨by first | rfl | (simp; done) | (simp [*]; done), by repeat (first | exact Drawn0.refl _ | apply Drawn0.step)⟩

end Go.Proofs.YteajidciahoboaaDoor.P
-- Pzracewayref01ReadText
-- PRINTED by print.py (a twelfth state) out of the translation. Not trusted: Lean checks it.
namespace Go.Proofs.YteajidciahoboaaDoor.P
open Go.RowKit Go.Proofs.YteajidciahoboaaDoorW.PrintWords Go.Proofs.YteajidciahoboaaDoorW.PrintLast Go.Proofs.YteajidciahoboaaDoorW.PrintMore
attribute [local go_sem] max2_int min2_int max_two min_two max_three min_three max_four min_four   -- for this text's walks alone
set_option linter.unusedVariables false
set_option linter.unusedSimpArgs false

/-! ### racewayref01_ReadText: function 35 -/
def racewayref01_ReadText.f (k : Nat) (l0 : List Int) : Option (ByteArray × Int × Int) := (racewayref01_ReadNum.f k l0).bind fun bt268 => (if bt268.2.2 = 0 then (if bt268.1 > 4096 then (some ((⟨#[]⟩ : ByteArray), 0, 3)) else (if (wrap64 ((l0.length : Int) - bt268.2.1)) < bt268.1 then (some ((⟨#[]⟩ : ByteArray), 0, 4)) else (if 0 ≤ bt268.2.1 then (if bt268.2.1 ≤ (wrap64 (bt268.2.1 + bt268.1)) then (if (wrap64 (bt268.2.1 + bt268.1)) ≤ (l0.length : Int) then (some (strOfNums ((l0.take ((wrap64 (bt268.2.1 + bt268.1)) : Int).toNat).drop (bt268.2.1 : Int).toNat), wrap64 (bt268.2.1 + bt268.1), 0)) else (none)) else (none)) else (none)))) else (some ((⟨#[]⟩ : ByteArray), 0, bt268.2.2)))
theorem racewayref01_ReadText.mono : ∀ a0 k, LeO (racewayref01_ReadText.f k a0) (racewayref01_ReadText.f (k + 1) a0) := by
  intro a0 k
  unfold racewayref01_ReadText.f
  repeat' first
      | (with_reducible exact racewayref01_ReadNum.mono _ _)
      | (with_reducible exact LeO.refl _)
      | (with_reducible exact LeO.none _)
      | (with_reducible refine LeO.ite ?_ ?_)
      | (with_reducible refine LeO.bind ?_ (fun _ => ?_))
      | exact racewayref01_ReadNum.mono _ _
      | exact LeO.none _
      | refine LeO.ite ?_ ?_
      | refine LeO.bind ?_ (fun _ => ?_)
set_option maxHeartbeats 8000000 in
set_option maxRecDepth 100000 in
theorem racewayref01_ReadText.calls (k : Nat) (A0 : Option Addr) (c0 : Nat) (l0 : List Int) (r1 : ByteArray) (r2 : Int) (r3 : Int) (w : World) (hr0 : Kd.C (Kd.int .u8) w A0 l0.length l0) (hc0 : l0.length ≤ c0) (h : racewayref01_ReadText.f k l0 = some (r1, r2, r3)) :
    Calls Tryd.prog 35 #[.slice A0 l0.length c0] w fun e w' => e = .returned (.tuple #[.string r1, .int .i64 r2, .int .i64 r3]) ∧ Drawn0 w w' := by
  have HR0 := Aside0.mk hr0
  have HC0 := Aside0.mk hc0
  clear hr0 hc0
  have H : ((racewayref01_ReadNum.f k l0).bind fun bt268 => (if bt268.2.2 = 0 then (if bt268.1 > 4096 then (some ((⟨#[]⟩ : ByteArray), 0, 3)) else (if (wrap64 ((l0.length : Int) - bt268.2.1)) < bt268.1 then (some ((⟨#[]⟩ : ByteArray), 0, 4)) else (if 0 ≤ bt268.2.1 then (if bt268.2.1 ≤ (wrap64 (bt268.2.1 + bt268.1)) then (if (wrap64 (bt268.2.1 + bt268.1)) ≤ (l0.length : Int) then (some (strOfNums ((l0.take ((wrap64 (bt268.2.1 + bt268.1)) : Int).toNat).drop (bt268.2.1 : Int).toNat), wrap64 (bt268.2.1 + bt268.1), 0)) else (none)) else (none)) else (none)))) else (some ((⟨#[]⟩ : ByteArray), 0, bt268.2.2)))) = some (r1, r2, r3) := h
  clear h
  replace H := Option.bind_eq_some_iff.mp H
  obtain ⟨⟨t268, t269, t270⟩, A20, H⟩ := H
  replace H : (if t270 = 0 then (if t268 > 4096 then (some ((⟨#[]⟩ : ByteArray), 0, 3)) else (if (wrap64 ((l0.length : Int) - t269)) < t268 then (some ((⟨#[]⟩ : ByteArray), 0, 4)) else (if 0 ≤ t269 then (if t269 ≤ (wrap64 (t269 + t268)) then (if (wrap64 (t269 + t268)) ≤ (l0.length : Int) then (some (strOfNums ((l0.take ((wrap64 (t269 + t268)) : Int).toNat).drop (t269 : Int).toNat), wrap64 (t269 + t268), 0)) else (none)) else (none)) else (none)))) else (some ((⟨#[]⟩ : ByteArray), 0, t270))) = some (r1, r2, r3) := H
  have A2 := Aside0.mk A20
  clear A20
  by_cases c3 : t270 = 0
  · rw [if_pos c3] at H
    have c3b0 : (t270 == 0) = true := beq_iff_eq.mpr c3
    have c3b1 : (t270 != 0) = false := bne_eq_false_iff_eq.mpr c3
    clear c3
    by_cases c4 : t268 > 4096
    · rw [if_pos c4] at H
      have c4b0 : decide (4096 < t268) = true := decide_eq_true c4
      clear c4
      simp only [Option.some.injEq, Prod.mk.injEq] at H
      obtain ⟨rfl, rfl, rfl⟩ := H
      go_enter Tryd.func35, Tryd.ntmps35
      go_wp2_with (first | ((with_reducible refine gate_callee (f := 34) rfl ?_); refine goesL_ (some 10) rfl rfl Tryd.func34 (by kernel_rfl) rfl #[.slice A0 l0.length c0] rfl (by (try simp only [List.map_toArray, List.map_cons, List.map_nil]); first | done | rfl | (simp only [List.length_drop, List.length_take]; rfl)) ?_; (with_reducible refine (racewayref01_ReadNum.calls k _ _ l0 t268 t269 t270 _ ?side1 ?side2 A2.out).mono ?_); (case side1 => repeat (first | exact HR0.out | (with_reducible refine Kd.C_alloc ?_ _) | (with_reducible refine Kd.C_drewN ?_ _) | (with_reducible refine Kd.C_drew ?_))); (case side2 => exact HC0.out); rintro e w' ⟨rfl, ⟨nd, rfl⟩⟩; refine ⟨_, rfl, ?_⟩))
      go_ret3
      exact ⟨by first | rfl | (simp; done) | (simp [*]; done), by repeat (first | exact Drawn0.refl _ | apply Drawn0.step)⟩
    · rw [if_neg c4] at H
      have c4b0 : decide (4096 < t268) = false := decide_eq_false c4
      clear c4
      by_cases c5 : (wrap64 ((l0.length : Int) - t269)) < t268
      · rw [if_pos c5] at H
        have c5b0 : decide ((wrap64 ((l0.length : Int) - t269)) < t268) = true := decide_eq_true c5
        clear c5
        simp only [Option.some.injEq, Prod.mk.injEq] at H
        obtain ⟨rfl, rfl, rfl⟩ := H
        go_enter Tryd.func35, Tryd.ntmps35
        go_wp2_with (first | ((with_reducible refine gate_callee (f := 34) rfl ?_); refine goesL_ (some 10) rfl rfl Tryd.func34 (by kernel_rfl) rfl #[.slice A0 l0.length c0] rfl (by (try simp only [List.map_toArray, List.map_cons, List.map_nil]); first | done | rfl | (simp only [List.length_drop, List.length_take]; rfl)) ?_; (with_reducible refine (racewayref01_ReadNum.calls k _ _ l0 t268 t269 t270 _ ?side1 ?side2 A2.out).mono ?_); (case side1 => repeat (first | exact HR0.out | (with_reducible refine Kd.C_alloc ?_ _) | (with_reducible refine Kd.C_drewN ?_ _) | (with_reducible refine Kd.C_drew ?_))); (case side2 => exact HC0.out); rintro e w' ⟨rfl, ⟨nd, rfl⟩⟩; refine ⟨_, rfl, ?_⟩))
        go_ret3
        exact ⟨by first | rfl | (simp; done) | (simp [*]; done), by repeat (first | exact Drawn0.refl _ | apply Drawn0.step)⟩
      · rw [if_neg c5] at H
        have c5b0 : decide ((wrap64 ((l0.length : Int) - t269)) < t268) = false := decide_eq_false c5
        clear c5
        by_cases c6 : 0 ≤ t269
        · rw [if_pos c6] at H
          have c6b0 := eq_true c6
          have c6b1 : decide (0 ≤ t269) = true := decide_eq_true c6
          clear c6
          by_cases c7 : t269 ≤ (wrap64 (t269 + t268))
          · rw [if_pos c7] at H
            have c7b0 := eq_true c7
            have c7b1 : decide (t269 ≤ (wrap64 (t269 + t268))) = true := decide_eq_true c7
            by_cases c8 : (wrap64 (t269 + t268)) ≤ (l0.length : Int)
            · rw [if_pos c8] at H
              have c8b0 := eq_true c8
              have c8b1 : decide ((wrap64 (t269 + t268)) ≤ (l0.length : Int)) = true := decide_eq_true c8
              simp only [Option.some.injEq, Prod.mk.injEq] at H
              obtain ⟨rfl, rfl, rfl⟩ := H
              go_enter Tryd.func35, Tryd.ntmps35
              go_wp2_with (first | ((with_reducible refine gate_callee (f := 34) rfl ?_); refine goesL_ (some 10) rfl rfl Tryd.func34 (by kernel_rfl) rfl #[.slice A0 l0.length c0] rfl (by (try simp only [List.map_toArray, List.map_cons, List.map_nil]); first | done | rfl | (simp only [List.length_drop, List.length_take]; rfl)) ?_; (with_reducible refine (racewayref01_ReadNum.calls k _ _ l0 t268 t269 t270 _ ?side1 ?side2 A2.out).mono ?_); (case side1 => repeat (first | exact HR0.out | (with_reducible refine Kd.C_alloc ?_ _) | (with_reducible refine Kd.C_drewN ?_ _) | (with_reducible refine Kd.C_drew ?_))); (case side2 => exact HC0.out); rintro e w' ⟨rfl, ⟨nd, rfl⟩⟩; refine ⟨_, rfl, ?_⟩; obtain ⟨i09, hi09, _, hsz9, _⟩ := info_parts info5; obtain ⟨A9, hcut9, hA9, hC9⟩ := print_mid_of (P := Tryd.prog) (Value.int .u8) 0 36 5 .i64 .i64 Tryd.underlying36 hi09 hsz9 A0 c0 l0 t269 (wrap64 (t269 + t268)) (of_decide_eq_true (by first | (with_reducible assumption) | assumption)) (by first | omega | exact of_decide_eq_true (by first | (with_reducible assumption) | assumption)) (of_decide_eq_true (by first | (with_reducible assumption) | assumption)) HC0.out; have HR271 := Aside0.mk (Kd.C_of_reads (h1 := fun _ => rfl) (hA9 _ (Kd.reads_of_C HR0.out))); have HC271 := Aside0.mk hC9; clear hA9 hC9 hi09 hsz9; have hcv10 := Kd.C_string (P := Tryd.prog) (A := A9) (c := (c0 - t269.toNat)) Tryd.underlying36 Tryd.underlying5 Tryd.underlying9 HR271.out; (try (have hcv10z := hcv10; rw [List.length_drop, List.length_take, Nat.min_eq_left (by omega)] at hcv10z)); (try (have hcv10y := Kd.C_string (P := Tryd.prog) (A := A9) (c := (c0 - t269.toNat)) Tryd.underlying36 Tryd.underlying5 Tryd.underlying9 (Kd.C_drewN HR271.out nd); rw [List.length_drop, List.length_take, Nat.min_eq_left (by omega)] at hcv10y))))
              go_ret3
              exact ⟨by first | rfl | (simp; done) | (simp [*]; done), by repeat (first | exact Drawn0.refl _ | apply Drawn0.step)⟩
            · rw [if_neg c8] at H
              exact absurd H (by simp)
          · rw [if_neg c7] at H
            exact absurd H (by simp)
        · rw [if_neg c6] at H
          exact absurd H (by simp)
  · rw [if_neg c3] at H
    have c3b0 : (t270 == 0) = false := beq_eq_false_iff_ne.mpr c3
    have c3b1 : (t270 != 0) = true := bne_iff_ne.mpr c3
    simp only [Option.some.injEq, Prod.mk.injEq] at H
    obtain ⟨rfl, rfl, rfl⟩ := H
    go_enter Tryd.func35, Tryd.ntmps35
    go_wp2_with (first | ((with_reducible refine gate_callee (f := 34) rfl ?_); refine goesL_ (some 10) rfl rfl Tryd.func34 (by kernel_rfl) rfl #[.slice A0 l0.length c0] rfl (by (try simp only [List.map_toArray, List.map_cons, List.map_nil]); first | done | rfl | (simp only [List.length_drop, List.length_take]; rfl)) ?_; (with_reducible refine (racewayref01_ReadNum.calls k _ _ l0 t268 t269 t270 _ ?side1 ?side2 A2.out).mono ?_); (case side1 => repeat (first | exact HR0.out | (with_reducible refine Kd.C_alloc ?_ _) | (with_reducible refine Kd.C_drewN ?_ _) | (with_reducible refine Kd.C_drew ?_))); (case side2 => exact HC0.out); rintro e w' ⟨rfl, ⟨nd, rfl⟩⟩; refine ⟨_, rfl, ?_⟩))
    go_ret3
    exact ⟨by first | rfl | (simp; done) | (simp [*]; done), by repeat (first | exact Drawn0.refl _ | apply Drawn0.step)⟩

end Go.Proofs.YteajidciahoboaaDoor.P
-- P7
set_option linter.unusedVariables false
set_option linter.unusedSimpArgs false
namespace Go.Proofs.YteajidciahoboaaDoor.H
open Go.RowKit Go.Shelf Go.Proofs.YteajidciahoboaaDoorW.PrintWords Go.Proofs.YteajidciahoboaaDoorW.PrintLast Go.Proofs.YteajidciahoboaaDoorW.PrintMore Go.Proofs.YteajidciahoboaaDoor.M

/-- A number is read, from its i-th byte on. -/
def rn : Nat → Nat → List Int → Int × Int × Int
  | _, _, [] => (0, 0, 4)
  | i, acc, x :: r => if i = 9 ∨ (x = 0 ∧ 0 < i) then (0, 0, 5) else
    if acc + (x.toNat % 128) * 128 ^ i > 4611686018427387904 then (0, 0, 5) else
    if x < 128 then (((acc + (x.toNat % 128) * 128 ^ i : Nat) : Int), ((i + 1 : Nat) : Int), 0) else rn (i + 1) (acc + (x.toNat % 128) * 128 ^ i) r

theorem wraps63 (n : Int) (h₀ : 0 ≤ n) (h₁ : n < 2 ^ 63) : IntKind.i64.wrap n = n := by rw [IntKind.wrap_i64]; omega
theorem n63_glue (a b k : Nat) (ha : a * 2 ^ k < 2 ^ 63) (hb : b < 2 ^ k) (hb' : b < 2 ^ 63) : Go.bits .or .i64 b ((a * 2 ^ k : Nat) : Int) = ((b + a * 2 ^ k : Nat) : Int) := by
  rw [(bits_nat .i64 63 (by decide) wraps63 b (a * 2 ^ k) hb' ha).2, Nat.or_comm, Nat.mul_comm, ← Nat.two_pow_add_eq_or_of_lt hb, Nat.add_comm]
theorem pow7 (i : Nat) : 128 ^ i = 2 ^ (7 * i) := by rw [Nat.pow_mul]
theorem pow_i (i : Nat) (h : i ≤ 8) : 128 ^ i ≤ 72057594037927936 := by
  have := Nat.pow_le_pow_right (n := 128) (by decide) h
  exact this
theorem and127 (x : Nat) (h : x < 256) : Go.bits .and .u8 (x : Int) 127 = ((x % 128 : Nat) : Int) := by
  have := n8_mask x 7 h (by decide)
  exact this
theorem shl7 (d i : Nat) (hd : d < 128) (hi : i ≤ 8) : shl .i64 (d : Int) ((7 * i : Nat) : Int) = ((d * 128 ^ i : Nat) : Int) := by
  unfold shl
  rw [Int.toNat_natCast, Nat.min_eq_left (by show 7 * i ≤ 64; omega), pow7, IntKind.wrap_i64]
  have h1 := pow_i i hi
  rw [pow7] at h1
  have h2 : d * 2 ^ (7 * i) ≤ 127 * 72057594037927936 := Nat.mul_le_mul (by omega) h1
  have h3 : (d : Int) * 2 ^ (7 * i) = ((d * 2 ^ (7 * i) : Nat) : Int) := by push_cast; rfl
  rw [h3]
  omega

/-- One byte, in the program. -/
theorem rnum_step (b : List Int) (hb : isBytes b) (hl : b.length < 1000000000) (i acc : Nat) (hi : i < b.length) (hi9 : i ≤ 9) (hacc : acc < 128 ^ i) (x : Int) (hx : b.getD i 0 = x) (r : Int × Int × Int)
    (h : if i = 9 ∨ (x = 0 ∧ 0 < i) then r = (0, 0, 5) else if acc + (x.toNat % 128) * 128 ^ i > 4611686018427387904 then r = (0, 0, 5) else
      if x < 128 then r = (((acc + (x.toNat % 128) * 128 ^ i : Nat) : Int), ((i + 1 : Nat) : Int), 0) else Ev (fun k => P.octet_ReadNum.l0 k ((acc + (x.toNat % 128) * 128 ^ i : Nat) : Int) b b.length (i + 1 : Nat)) r) :
    Ev (fun k => P.octet_ReadNum.l0 k acc b b.length i) r := by
  have hxb : 0 ≤ x ∧ x < 256 := by rw [← hx]; exact hb _ (by simp [hi])
  have hrd : rd b (i : Int) = x := hx
  by_cases c1 : i = 9 ∨ (x = 0 ∧ 0 < i)
  · rw [if_pos c1] at h
    subst h
    refine Ev.step (g := fun k => P.octet_ReadNum.j1 k acc i x b b.length i true) (fun k => ?_) (Ev.now fun k => by rw [P.octet_ReadNum.j1, if_pos rfl])
    rw [P.octet_ReadNum.l0, if_pos (by omega), if_pos (by omega), if_pos (by omega), hrd]
    rcases c1 with c1 | ⟨c1, c2⟩
    · rw [if_pos (by omega)]
    · by_cases c3 : i = 9
      · rw [if_pos (by omega)]
      · rw [if_neg (by omega), if_pos c1, decide_eq_true (by omega : (i : Int) > 0)]
  · rw [if_neg c1] at h
    have hi8 : i ≤ 8 := by omega
    have hp := pow_i i hi8
    obtain ⟨d, hd⟩ : ∃ d, x.toNat % 128 = d := ⟨_, rfl⟩
    rw [hd] at h
    have hd128 : d < 128 := by omega
    have hdp : d * 128 ^ i ≤ 127 * 72057594037927936 := Nat.mul_le_mul (by omega) hp
    obtain ⟨v, hv⟩ : ∃ v, acc + d * 128 ^ i = v := ⟨_, rfl⟩
    rw [hv] at h
    have hv63 : v < 9223372036854775808 := by omega
    have hval : Go.bits .or .i64 (acc : Int) (shl .i64 (wrap64 (Go.bits .and .u8 x 127)) (wrap64 (7 * (i : Int)))) = (v : Int) := by
      rw [show x = ((x.toNat : Nat) : Int) by omega, and127 _ (by omega), hd, w64 (n := (d : Int)) (by omega) (by omega), w64 (n := 7 * (i : Int)) (by omega) (by omega), show 7 * (i : Int) = ((7 * i : Nat) : Int) by omega, shl7 d i hd128 hi8, pow7,
        n63_glue d acc (7 * i) (by rw [← pow7]; omega) (by rw [← pow7]; exact hacc) (by omega), ← pow7, hv]
    refine Ev.step (g := fun k => P.octet_ReadNum.j1 k acc i x b b.length i false) (fun k => ?_) ?_
    · rw [P.octet_ReadNum.l0, if_pos (by omega), if_pos (by omega), if_pos (by omega), hrd, if_neg (by omega)]
      by_cases c3 : x = 0
      · rw [if_pos c3, decide_eq_false (by omega : ¬ (i : Int) > 0)]
      · rw [if_neg c3]
    by_cases c2 : v > 4611686018427387904
    · rw [if_pos c2] at h
      subst h
      refine Ev.step (g := fun k => P.octet_ReadNum.j2 k v i x b b.length i true) (fun k => ?_) (Ev.now fun k => by rw [P.octet_ReadNum.j2, if_pos rfl])
      rw [P.octet_ReadNum.j1, if_neg (by decide), if_pos (by rw [w64 (by omega) (by omega)]; omega), hval, if_pos (by omega)]
    · rw [if_neg c2] at h
      refine Ev.step (g := fun k => P.octet_ReadNum.j2 k v i x b b.length i false) (fun k => ?_) ?_
      · rw [P.octet_ReadNum.j1, if_neg (by decide), if_pos (by rw [w64 (by omega) (by omega)]; omega), hval, if_neg (by omega), decide_eq_false (by omega)]
      by_cases c3 : x < 128
      · rw [if_pos c3] at h
        subst h
        exact Ev.now fun k => by rw [P.octet_ReadNum.j2, if_neg (by decide), if_pos c3, w64 (by omega) (by omega)]; rfl
      · rw [if_neg c3] at h
        exact Ev.step (fun k => by rw [P.octet_ReadNum.j2, if_neg (by decide), if_neg c3, w64 (by omega) (by omega)]; rfl) h

theorem rn_ev (b : List Int) (hb : isBytes b) (hl : b.length < 1000000000) : ∀ (d i acc : Nat), i + d = b.length → i ≤ 9 → acc < 128 ^ i → Ev (fun k => P.octet_ReadNum.l0 k acc b b.length i) (rn i acc (b.drop i)) := by
  intro d
  induction d with
  | zero =>
    intro i acc hi h9 ha
    rw [List.drop_eq_nil_of_le (by omega)]
    exact Ev.now fun k => by rw [P.octet_ReadNum.l0, if_neg (by omega)]; rfl
  | succ d ih =>
    intro i acc hi h9 ha
    have hlt : i < b.length := by omega
    have hx : b.getD i 0 = b[i] := by rw [List.getD_eq_getElem?_getD, List.getElem?_eq_getElem hlt]; rfl
    rw [List.drop_eq_getElem_cons hlt]
    refine rnum_step b hb hl i acc hlt h9 ha b[i] hx _ ?_
    rw [rn]
    by_cases c1 : i = 9 ∨ (b[i] = 0 ∧ 0 < i)
    · rw [if_pos c1, if_pos c1]
    · rw [if_neg c1, if_neg c1]
      by_cases c2 : acc + (b[i].toNat % 128) * 128 ^ i > 4611686018427387904
      · rw [if_pos c2, if_pos c2]
      · rw [if_neg c2, if_neg c2]
        by_cases c3 : b[i] < 128
        · rw [if_pos c3, if_pos c3]
        · rw [if_neg c3, if_neg c3]
          refine ih (i + 1) _ (by omega) (by omega) ?_
          rw [Nat.pow_succ]
          have : b[i].toNat % 128 ≤ 127 := by omega
          have := Nat.mul_le_mul_right (128 ^ i) this
          omega
theorem octet_rn (b : List Int) (hb : isBytes b) (hl : b.length < 1000000000) : Ev (fun k => P.octet_ReadNum.f k b) (rn 0 0 b) := by
  have := rn_ev b hb hl b.length 0 0 (by omega) (by omega) (by decide)
  rw [List.drop_zero] at this
  exact this

theorem pow_8 : (128 : Nat) ^ 8 = 72057594037927936 := by decide +kernel
theorem pow_7 (i : Nat) (h : i ≤ 7) : 128 ^ i ≤ 562949953421312 := Nat.pow_le_pow_right (n := 128) (by decide) h
theorem big8 (i d acc : Nat) (hi8 : i ≤ 8) (hd : d < 128) (hacc : acc < 128 ^ i) : acc + d * 128 ^ i > 4611686018427387904 ↔ (i = 8 ∧ (d > 64 ∨ (d = 64 ∧ acc > 0))) := by
  rcases Nat.lt_or_ge i 8 with h1 | h1
  · have h2 := pow_7 i (by omega)
    have h3 : d * 128 ^ i ≤ 127 * 562949953421312 := Nat.mul_le_mul (by omega) h2
    generalize 128 ^ i = q at *
    generalize d * q = u at *
    omega
  · have h8 : i = 8 := by omega
    subst h8
    rw [pow_8] at hacc ⊢
    omega
/-- One byte, in the reference. -/
theorem rref_step (b : List Int) (hb : isBytes b) (hl : b.length < 1000000000) (i acc : Nat) (hi : i < b.length) (hi9 : i ≤ 9) (hacc : acc < 128 ^ i) (x : Int) (hx : b.getD i 0 = x) (r : Int × Int × Int) (wt wt2 : Int) (HW : Aside0 (wt = ((128 ^ min i 8 : Nat) : Int))) (HW2 : Aside0 (wt2 = ((128 ^ min (i + 1) 8 : Nat) : Int)))
    (h : if i = 9 ∨ (x = 0 ∧ 0 < i) then r = (0, 0, 5) else if acc + (x.toNat % 128) * 128 ^ i > 4611686018427387904 then r = (0, 0, 5) else
      if x < 128 then r = (((acc + (x.toNat % 128) * 128 ^ i : Nat) : Int), ((i + 1 : Nat) : Int), 0) else Ev (fun k => P.racewayref01_ReadNum.l0 k b ((acc + (x.toNat % 128) * 128 ^ i : Nat) : Int) wt2 (i + 1 : Nat)) r) :
    Ev (fun k => P.racewayref01_ReadNum.l0 k b acc wt i) r := by
  have hxb : 0 ≤ x ∧ x < 256 := by rw [← hx]; exact hb _ (by simp [hi])
  have hrd : rd b (i : Int) = x := hx
  by_cases c1 : i = 9 ∨ (x = 0 ∧ 0 < i)
  · rw [if_pos c1] at h
    subst h
    refine Ev.step (g := fun k => P.racewayref01_ReadNum.j1 k b acc wt i true) (fun k => ?_) (Ev.now fun k => by rw [P.racewayref01_ReadNum.j1, if_pos rfl])
    rw [P.racewayref01_ReadNum.l0, if_pos (by omega), hrd]
    rcases c1 with c1 | ⟨c1, c2⟩
    · rw [if_pos (by omega)]
    · by_cases c3 : i = 9
      · rw [if_pos (by omega)]
      · rw [if_neg (by omega), if_pos (by omega), if_pos (by omega), c1]; rfl
  · rw [if_neg c1] at h
    have hi8 : i ≤ 8 := by omega
    have hp := pow_i i hi8
    obtain ⟨d, hd⟩ : ∃ d, x.toNat % 128 = d := ⟨_, rfl⟩
    rw [hd] at h
    have hd128 : d < 128 := by omega
    have hdp : d * 128 ^ i ≤ 127 * 72057594037927936 := Nat.mul_le_mul (by omega) hp
    obtain ⟨v, hv⟩ : ∃ v, acc + d * 128 ^ i = v := ⟨_, rfl⟩
    rw [hv] at h
    have hv63 : v < 9223372036854775808 := by omega
    have htm : wrap64 (Int.tmod x 128) = (d : Int) := by rw [Int.tmod_eq_emod_of_nonneg hxb.1, w64 (by omega) (by omega)]; omega
    have hval : wrap64 ((acc : Int) + wrap64 ((d : Int) * wt)) = (v : Int) := by
      rw [HW.out, Nat.min_eq_left hi8]
      rw [show (d : Int) * ((128 ^ i : Nat) : Int) = ((d * 128 ^ i : Nat) : Int) by push_cast; rfl]
      generalize d * 128 ^ i = q at *
      rw [w64 (n := (q : Int)) (by omega) (by omega), w64 (by omega) (by omega)]
      omega
    have hbig : ∀ q, q ∈ [true, false] → (v > 4611686018427387904 ↔ q = true) → (if (d : Int) > 0 then (if (i : Int) = 8 then (if (d : Int) > 64 then true else if (d : Int) = 64 then decide ((acc : Int) > 0) else false) else false) else false) = q := by
      intro q _ hq
      have e : v > 4611686018427387904 ↔ (i = 8 ∧ (d > 64 ∨ (d = 64 ∧ acc > 0))) := by rw [← hv]; exact big8 i d acc hi8 hd128 hacc
      rw [e] at hq
      cases q
      · have : ¬ (i = 8 ∧ (d > 64 ∨ (d = 64 ∧ acc > 0))) := fun h => by have := hq.1 h; cases this
        split
        · split
          · split
            · omega
            · split
              · exact decide_eq_false (by omega)
              · rfl
          · rfl
        · rfl
      · have := hq.2 rfl
        rw [if_pos (by omega), if_pos (by omega)]
        split
        · rfl
        · rw [if_pos (by omega)]; exact decide_eq_true (by omega)
    have stepj : ∀ q k, (v > 4611686018427387904 ↔ q = true) → P.racewayref01_ReadNum.j1 (k + 1) b acc wt i false = P.racewayref01_ReadNum.j2 k b acc wt i d q := by
      intro q k hq
      have := hbig q (by cases q <;> simp) hq
      rw [P.racewayref01_ReadNum.j1, if_neg (by decide), if_pos (by omega), if_pos (by omega), hrd, htm]
      rw [← this]
      by_cases a1 : (d : Int) > 0
      · rw [if_pos a1, if_pos a1]
        by_cases a2 : (i : Int) = 8
        · rw [if_pos a2, if_pos a2]
          by_cases a3 : (d : Int) > 64
          · rw [if_pos a3, if_pos a3]
          · rw [if_neg a3, if_neg a3]
            by_cases a4 : (d : Int) = 64
            · rw [if_pos a4, if_pos a4]
            · rw [if_neg a4, if_neg a4]
        · rw [if_neg a2, if_neg a2]
      · rw [if_neg a1, if_neg a1]
    refine Ev.step (g := fun k => P.racewayref01_ReadNum.j1 k b acc wt i false) (fun k => ?_) ?_
    · rw [P.racewayref01_ReadNum.l0, if_pos (by omega), hrd, if_neg (by omega)]
      by_cases c3 : 0 < i
      · rw [if_pos (by omega), if_pos (by omega), show (x == 0) = false from beq_eq_false_iff_ne.2 (fun h => c1 (.inr ⟨h, c3⟩))]
      · rw [if_neg (by omega)]
    by_cases c2 : v > 4611686018427387904
    · rw [if_pos c2] at h
      subst h
      refine Ev.step (fun k => stepj true k (by simp [c2])) (Ev.now fun k => by rw [P.racewayref01_ReadNum.j2, if_pos rfl])
    · rw [if_neg c2] at h
      refine Ev.step (fun k => stepj false k (by simp [c2])) ?_
      by_cases c3 : x < 128
      · rw [if_pos c3] at h
        subst h
        exact Ev.now fun k => by rw [P.racewayref01_ReadNum.j2, if_neg (by decide), if_pos (by omega), if_pos (by omega), hrd, if_pos c3, hval, w64 (by omega) (by omega)]; rfl
      · rw [if_neg c3] at h
        refine Ev.step (fun k => ?_) h
        rw [P.racewayref01_ReadNum.j2, if_neg (by decide), if_pos (by omega), if_pos (by omega), hrd, if_neg c3, hval, w64 (n := (i : Int) + 1) (by omega) (by omega)]
        by_cases c4 : i < 8
        · rw [if_pos (by omega), show wrap64 (wt * 128) = wt2 from ?_]
          · rfl
          rw [HW.out, HW2.out, Nat.min_eq_left (by omega), Nat.min_eq_left (by omega), Nat.pow_succ]
          have hp7 := pow_7 i (by omega)
          clear hval stepj hbig hdp hv hacc
          generalize 128 ^ i = q at *
          rw [w64 (by omega) (by omega)]
          rfl
        · rw [if_neg (by omega), show wt = wt2 by rw [HW.out, HW2.out, show i = 8 by omega]; rfl]
          rfl

theorem rref_ev (b : List Int) (hb : isBytes b) (hl : b.length < 1000000000) : ∀ (d i acc : Nat), i + d = b.length → i ≤ 9 → acc < 128 ^ i → Ev (fun k => P.racewayref01_ReadNum.l0 k b acc ((128 ^ min i 8 : Nat) : Int) i) (rn i acc (b.drop i)) := by
  intro d
  induction d with
  | zero =>
    intro i acc hi h9 ha
    rw [List.drop_eq_nil_of_le (by omega)]
    exact Ev.now fun k => by rw [P.racewayref01_ReadNum.l0, if_neg (by omega)]; rfl
  | succ d ih =>
    intro i acc hi h9 ha
    have hlt : i < b.length := by omega
    have hx : b.getD i 0 = b[i] := by rw [List.getD_eq_getElem?_getD, List.getElem?_eq_getElem hlt]; rfl
    rw [List.drop_eq_getElem_cons hlt]
    refine rref_step b hb hl i acc hlt h9 ha b[i] hx _ _ _ ⟨rfl⟩ ⟨rfl⟩ ?_
    rw [rn]
    by_cases c1 : i = 9 ∨ (b[i] = 0 ∧ 0 < i)
    · rw [if_pos c1, if_pos c1]
    · rw [if_neg c1, if_neg c1]
      by_cases c2 : acc + (b[i].toNat % 128) * 128 ^ i > 4611686018427387904
      · rw [if_pos c2, if_pos c2]
      · rw [if_neg c2, if_neg c2]
        by_cases c3 : b[i] < 128
        · rw [if_pos c3, if_pos c3]
        · rw [if_neg c3, if_neg c3]
          refine ih (i + 1) _ (by omega) (by omega) ?_
          rw [Nat.pow_succ]
          have : b[i].toNat % 128 ≤ 127 := by omega
          have := Nat.mul_le_mul_right (128 ^ i) this
          omega
theorem ref_rn (b : List Int) (hb : isBytes b) (hl : b.length < 1000000000) : Ev (fun k => P.racewayref01_ReadNum.f k b) (rn 0 0 b) := by
  have := rref_ev b hb hl b.length 0 0 (by omega) (by omega) (by decide)
  rw [List.drop_zero] at this
  exact this

/-! ### What is read -/
theorem leb_small (m : Nat) (h : m < 128) : leb m = [(m : Int)] := by rw [leb, if_pos h]
theorem leb_big (m : Nat) (h : ¬ m < 128) : leb m = ((m % 128 + 128 : Nat) : Int) :: leb (m / 128) := by rw [leb, if_neg h]
theorem leb_ne (m : Nat) : leb m ≠ [] := by rw [leb]; split <;> simp
theorem leb_bytes (m : Nat) : isBytes (leb m) := by
  induction m using Nat.strongRecOn with
  | _ m ih =>
    by_cases h : m < 128
    · rw [leb_small m h]; intro x hx; simp only [List.mem_cons, List.not_mem_nil, or_false] at hx; omega
    · rw [leb_big m h]
      intro x hx
      rcases List.mem_cons.1 hx with h1 | h1
      · omega
      · exact ih (m / 128) (by omega) x h1
theorem mul_pow_le {a b : Nat} (i : Nat) (h : a ≤ b) : a * 128 ^ i ≤ b * 128 ^ i := Nat.mul_le_mul_right _ h
theorem pow_9 : (128 : Nat) ^ 9 = 9223372036854775808 := by decide +kernel
theorem rn_back : ∀ (cs : List Int) (i acc : Nat), isBytes cs → acc < 128 ^ i → i ≤ 9 →
    (∃ m rest, cs = leb m ++ rest ∧ (0 < i → 0 < m) ∧ acc + m * 128 ^ i ≤ 4611686018427387904 ∧ rn i acc cs = (((acc + m * 128 ^ i : Nat) : Int), ((i + (leb m).length : Nat) : Int), 0)) ∨
    ((∀ m rest, cs = leb m ++ rest → (0 < i → 0 < m) → ¬ acc + m * 128 ^ i ≤ 4611686018427387904) ∧ ∃ e, e ≠ 0 ∧ rn i acc cs = (0, 0, e)) := by
  intro cs
  induction cs with
  | nil =>
    intro i acc _ _ _
    refine .inr ⟨fun m rest h => ?_, 4, by decide, rfl⟩
    exact absurd (List.append_eq_nil_iff.1 h.symm).1 (leb_ne m)
  | cons x r ih =>
    intro i acc hb ha h9
    have hx := hb x (by simp)
    have first : ∀ m rest, x :: r = leb m ++ rest → (m < 128 ∧ x = (m : Int) ∧ r = rest) ∨ (¬ m < 128 ∧ x = ((m % 128 + 128 : Nat) : Int) ∧ r = leb (m / 128) ++ rest) := by
      intro m rest h
      by_cases hm : m < 128
      · rw [leb_small m hm] at h
        simp only [List.cons_append, List.nil_append, List.cons.injEq] at h
        exact .inl ⟨hm, h.1, h.2⟩
      · rw [leb_big m hm] at h
        simp only [List.cons_append, List.cons.injEq] at h
        exact .inr ⟨hm, h.1, h.2⟩
    rw [rn]
    by_cases c1 : i = 9 ∨ (x = 0 ∧ 0 < i)
    · rw [if_pos c1]
      refine .inr ⟨fun m rest h hm hle => ?_, 5, by decide, rfl⟩
      rcases c1 with c1 | ⟨c1, c2⟩
      · subst c1
        have := mul_pow_le 9 (hm (by decide))
        rw [pow_9] at hle this
        omega
      · have := hm c2
        rcases first m rest h with ⟨h1, h2, _⟩ | ⟨h1, h2, _⟩ <;> omega
    · rw [if_neg c1]
      by_cases c2 : acc + (x.toNat % 128) * 128 ^ i > 4611686018427387904
      · rw [if_pos c2]
        refine .inr ⟨fun m rest h hm hle => ?_, 5, by decide, rfl⟩
        have : x.toNat % 128 ≤ m := by rcases first m rest h with ⟨h1, h2, _⟩ | ⟨h1, h2, _⟩ <;> omega
        have := mul_pow_le i this
        omega
      · rw [if_neg c2]
        by_cases c3 : x < 128
        · rw [if_pos c3]
          have hm : x.toNat % 128 = x.toNat := by omega
          rw [hm] at c2 ⊢
          refine .inl ⟨x.toNat, r, ?_, fun h => by omega, by omega, ?_⟩
          · rw [leb_small _ (by omega), show ((x.toNat : Nat) : Int) = x by omega]; rfl
          · rw [leb_small _ (by omega)]; rfl
        · rw [if_neg c3]
          have hlt : acc + x.toNat % 128 * 128 ^ i < 128 ^ (i + 1) := by
            rw [Nat.pow_succ]
            have := mul_pow_le i (show x.toNat % 128 ≤ 127 by omega)
            omega
          have val : ∀ m' : Nat, acc + x.toNat % 128 * 128 ^ i + m' * 128 ^ (i + 1) = acc + (m' * 128 + x.toNat % 128) * 128 ^ i := fun m' => by
            rw [Nat.pow_succ, Nat.add_mul, Nat.mul_assoc m' 128, Nat.mul_comm 128 (128 ^ i)]
            omega
          rcases ih (i + 1) (acc + x.toNat % 128 * 128 ^ i) (fun y hy => hb y (by simp [hy])) hlt (by omega) with ⟨m', rest, h1, h2, h3, h4⟩ | ⟨h1, e, he, h2⟩
          · have hm' := h2 (by omega)
            rw [val m'] at h3 h4
            refine .inl ⟨m' * 128 + x.toNat % 128, rest, ?_, fun _ => by omega, h3, ?_⟩
            · rw [leb_big _ (by omega), h1, show ((m' * 128 + x.toNat % 128) / 128) = m' by omega, show (((m' * 128 + x.toNat % 128) % 128 + 128 : Nat) : Int) = x by omega]
              rfl
            · rw [h4, leb_big (m' * 128 + x.toNat % 128) (by omega), show ((m' * 128 + x.toNat % 128) / 128) = m' by omega, List.length_cons]
              congr 2
              omega
          · refine .inr ⟨fun m rest h hm hle => ?_, e, he, h2⟩
            rcases first m rest h with ⟨g1, g2, _⟩ | ⟨g1, g2, g3⟩
            · omega
            · refine h1 (m / 128) rest g3 (fun _ => by omega) ?_
              rw [val, show m / 128 * 128 + x.toNat % 128 = m by omega]
              exact hle
/-- A number read from a beginning. -/
theorem rn_cases (b : List Int) (hb : isBytes b) : (∃ m rest, b = leb m ++ rest ∧ m ≤ 4611686018427387904 ∧ rn 0 0 b = ((m : Int), ((leb m).length : Int), 0)) ∨
    ((∀ m rest, b = leb m ++ rest → ¬ m ≤ 4611686018427387904) ∧ ∃ e, e ≠ 0 ∧ rn 0 0 b = (0, 0, e)) := by
  rcases rn_back b 0 0 hb (by decide) (by decide) with ⟨m, rest, h1, _, h2, h3⟩ | ⟨h1, e, he, h2⟩
  · exact .inl ⟨m, rest, h1, by simpa using h2, by simpa using h3⟩
  · exact .inr ⟨fun m rest h => by simpa using h1 m rest h (fun h => absurd h (by decide)), e, he, h2⟩
end Go.Proofs.YteajidciahoboaaDoor.H
-- Pzracewayref27num
-- PRINTED by print.py (a twelfth state) out of the translation. Not trusted: Lean checks it.
namespace Go.Proofs.YteajidciahoboaaDoor.P
open Go.RowKit Go.Proofs.YteajidciahoboaaDoorW.PrintWords Go.Proofs.YteajidciahoboaaDoorW.PrintLast Go.Proofs.YteajidciahoboaaDoorW.PrintMore
attribute [local go_sem] max2_int min2_int max_two min_two max_three min_three max_four min_four   -- for this text's walks alone
set_option linter.unusedVariables false
set_option linter.unusedSimpArgs false

/-! ### racewayref27_num: function 22 -/
def racewayref27_num.f (a0 : Int) : Option (Bool) := if a0 ≥ 0 then (some (decide (a0 ≤ 1099511627776))) else (some false)
set_option maxHeartbeats 8000000 in
set_option maxRecDepth 100000 in
theorem racewayref27_num.calls (a0 : Int) (r : Bool) (w : World) (h : racewayref27_num.f a0 = some r) :
    Calls Tryd.prog 22 #[.int .i64 a0] w fun e w' => e = .returned (.bool r) ∧ Drawn0 w w' := by
  have H : (if a0 ≥ 0 then (some (decide (a0 ≤ 1099511627776))) else (some false)) = some r := h
  clear h
  by_cases c2 : a0 ≥ 0
  · rw [if_pos c2] at H
    have c2b0 : decide (0 ≤ a0) = true := decide_eq_true c2
    clear c2
    obtain rfl := Option.some.inj H
    go_enter Tryd.func22, Tryd.ntmps22
    go_wp2
    go_ret
    exact ⟨by first | rfl | (simp; done) | (simp [*]; done), by repeat (first | exact Drawn0.refl _ | apply Drawn0.step)⟩
  · rw [if_neg c2] at H
    have c2b0 : decide (0 ≤ a0) = false := decide_eq_false c2
    clear c2
    obtain rfl := Option.some.inj H
    go_enter Tryd.func22, Tryd.ntmps22
    go_wp2
    go_ret
    exact ⟨by first | rfl | (simp; done) | (simp [*]; done), by repeat (first | exact Drawn0.refl _ | apply Drawn0.step)⟩

end Go.Proofs.YteajidciahoboaaDoor.P
