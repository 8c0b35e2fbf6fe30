import Derived.Test.YteajidciahoboaaDoorCb2
import Derived.Test.YteajidciahoboaaDoorCb1
-- P10
set_option linter.unusedVariables false
set_option linter.unusedSimpArgs false
namespace Go.Proofs.YteajidciahoboaaDoor.H
open Go.RowKit Go.Shelf Go.Proofs.YteajidciahoboaaDoorW.PrintWords Go.Proofs.YteajidciahoboaaDoorW.PrintLast Go.Proofs.YteajidciahoboaaDoorW.PrintMore Go.Proofs.YteajidciahoboaaDoor.M

theorem leb_pre (m : Nat) : ∀ (m' : Nat) (r r' : List Int), leb m ++ r = leb m' ++ r' → m = m' ∧ r = r' := by
  induction m using Nat.strongRecOn with
  | _ m ih =>
    intro m' r r' h
    by_cases h1 : m < 128
    · by_cases h2 : m' < 128
      · rw [leb_small m h1, leb_small m' h2] at h
        simp only [List.cons_append, List.nil_append, List.cons.injEq] at h
        exact ⟨by omega, h.2⟩
      · rw [leb_small m h1, leb_big m' h2] at h
        simp only [List.cons_append, List.nil_append, List.cons.injEq] at h
        omega
    · by_cases h2 : m' < 128
      · rw [leb_big m h1, leb_small m' h2] at h
        simp only [List.cons_append, List.nil_append, List.cons.injEq] at h
        omega
      · rw [leb_big m h1, leb_big m' h2] at h
        simp only [List.cons_append, List.cons.injEq] at h
        obtain ⟨h3, h4⟩ := ih (m / 128) (by omega) _ _ _ h.2
        exact ⟨by omega, h4⟩
theorem rn_leb (m : Nat) (rest : List Int) (hm : m ≤ 4611686018427387904) (hb : isBytes rest) : rn 0 0 (leb m ++ rest) = ((m : Int), ((leb m).length : Int), 0) := by
  rcases rn_cases (leb m ++ rest) (isBytes_append (leb_bytes m) hb) with ⟨m', r', h1, h2, h3⟩ | ⟨h1, _⟩
  · obtain ⟨rfl, rfl⟩ := leb_pre m m' rest r' h1
    exact h3
  · exact absurd hm (h1 m rest rfl)

/-- A text is read. -/
def rt (b : List Int) : ByteArray × Int × Int :=
  if (rn 0 0 b).2.2 = 0 then
    if (rn 0 0 b).1 > 4096 then (⟨#[]⟩, 0, 3) else if (rn 0 0 b).1 > (b.length : Int) - (rn 0 0 b).2.1 then (⟨#[]⟩, 0, 4) else
      (strOfNums ((b.take ((rn 0 0 b).2.1 + (rn 0 0 b).1).toNat).drop (rn 0 0 b).2.1.toNat), (rn 0 0 b).2.1 + (rn 0 0 b).1, 0)
  else (⟨#[]⟩, 0, (rn 0 0 b).2.2)
theorem rn_range (b : List Int) (hb : isBytes b) : 0 ≤ (rn 0 0 b).1 ∧ (rn 0 0 b).1 ≤ 4611686018427387904 ∧ 0 ≤ (rn 0 0 b).2.1 ∧ (rn 0 0 b).2.1 ≤ (b.length : Int) := by
  rcases rn_cases b hb with ⟨m, rest, h1, h2, h3⟩ | ⟨_, e, _, h⟩
  · rw [h3]
    have := congrArg List.length h1
    simp only [List.length_append] at this
    simp only
    omega
  · rw [h]
    simp only
    omega
theorem octet_rt (b : List Int) (hb : isBytes b) (hl : b.length < 1000000000) : Ev (fun k => P.octet_ReadText.f k b) (rt b) := by
  have hr := rn_range b hb
  unfold P.octet_ReadText.f
  refine Ev.bind (octet_rn b hb hl) ((Ev.const (rt b)).eq fun k => ?_)
  unfold rt
  generalize rn 0 0 b = x at hr ⊢
  obtain ⟨n, k, e⟩ := x
  simp only at hr ⊢
  by_cases c1 : e = 0
  · rw [if_pos c1, if_pos c1]
    by_cases c2 : n > 4096
    · rw [if_pos c2, if_pos c2]
    · rw [if_neg c2, if_neg c2, w64 (n := (b.length : Int) - k) (by omega) (by omega)]
      by_cases c3 : n > (b.length : Int) - k
      · rw [if_pos (by omega), if_pos c3]
      · rw [if_neg (by omega), if_neg c3, w64 (by omega) (by omega), if_pos (by omega), if_pos (by omega), if_pos (by omega)]
  · rw [if_neg c1, if_neg c1]
theorem rt_cases (b : List Int) (hb : isBytes b) (hl : b.length < 1000000000) : (∃ g rest, b = leb g.length ++ g ++ rest ∧ g.length ≤ 4096 ∧ rt b = (strOfNums g, (((leb g.length).length + g.length : Nat) : Int), 0)) ∨
    ((∀ g rest, b = leb g.length ++ g ++ rest → ¬ g.length ≤ 4096) ∧ ∃ e, e ≠ 0 ∧ rt b = (⟨#[]⟩, 0, e)) := by
  rcases rn_cases b hb with ⟨m, rest, h1, h2, h3⟩ | ⟨h1, e, he, h2⟩
  · have no : (m > 4096 ∨ m > rest.length) → ∀ g rest', b = leb g.length ++ g ++ rest' → ¬ g.length ≤ 4096 := by
      intro hm g rest' hg hle
      rw [h1, List.append_assoc] at hg
      obtain ⟨rfl, rfl⟩ := leb_pre _ _ _ _ hg
      simp only [List.length_append] at hm
      omega
    have hlen : b.length = (leb m).length + rest.length := by rw [h1, List.length_append]
    unfold rt
    rw [h3]
    simp only [if_true]
    by_cases c1 : m > 4096
    · rw [if_pos (by omega)]
      exact .inr ⟨no (.inl c1), 3, by decide, rfl⟩
    · rw [if_neg (by omega)]
      by_cases c2 : m > rest.length
      · rw [if_pos (by omega)]
        exact .inr ⟨no (.inr c2), 4, by decide, rfl⟩
      · rw [if_neg (by omega)]
        have hg : (rest.take m).length = m := by rw [List.length_take]; omega
        refine .inl ⟨rest.take m, rest.drop m, ?_, by omega, ?_⟩
        · rw [hg, List.append_assoc, List.take_append_drop]; exact h1
        · rw [hg]
          congr 1
          · rw [show (((leb m).length : Int) + (m : Int)).toNat = (leb m).length + m by omega, Int.toNat_natCast, h1, List.take_append, List.take_of_length_le (by omega), Nat.add_sub_cancel_left, List.drop_append_of_le_length (Nat.le_refl _), List.drop_length, List.nil_append]
  · refine .inr ⟨fun g rest h hle => h1 g.length (g ++ rest) (by rw [h, List.append_assoc]) (by omega), e, he, ?_⟩
    unfold rt
    rw [h2]
    simp only [if_neg he]
theorem rt_text (g rest : List Int) (hg : g.length ≤ 4096) (hb : isBytes g) (hr : isBytes rest) (hl : rest.length < 100000000) : rt (leb g.length ++ g ++ rest) = (strOfNums g, (((leb g.length).length + g.length : Nat) : Int), 0) := by
  have hle := leb_len9 g.length (by omega)
  rcases rt_cases (leb g.length ++ g ++ rest) (isBytes_append (isBytes_append (leb_bytes _) hb) hr) (by simp only [List.length_append]; omega) with ⟨g', r', h1, h2, h3⟩ | ⟨h1, _⟩
  · rw [List.append_assoc, List.append_assoc] at h1
    obtain ⟨h4, h5⟩ := leb_pre _ _ _ _ h1
    obtain ⟨rfl, _⟩ := List.append_inj h5 h4
    exact h3
  · exact absurd hg (h1 g rest rfl)
theorem rt_range (b : List Int) (hb : isBytes b) (hl : b.length < 1000000000) : 0 ≤ (rt b).2.1 ∧ (rt b).2.1 ≤ (b.length : Int) := by
  rcases rt_cases b hb hl with ⟨g, rest, h1, h2, h3⟩ | ⟨_, e, _, h⟩
  · rw [h3]
    have := congrArg List.length h1
    simp only [List.length_append] at this
    simp only
    omega
  · rw [h]
    simp only
    omega

/-! ### A whole receipt -/
def rest1 (b : List Int) : List Int := b.drop (rn 0 0 b).2.1.toNat
def rest2 (b : List Int) : List Int := (rest1 b).drop (rt (rest1 b)).2.1.toNat
def rest3 (b : List Int) : List Int := (rest2 b).drop (rn 0 0 (rest2 b)).2.1.toNat
def rest4 (b : List Int) : List Int := (rest3 b).drop (rn 0 0 (rest3 b)).2.1.toNat
def readAs (b : List Int) : Rc := ⟨(rn 0 0 b).1, (rt (rest1 b)).1, (rn 0 0 (rest2 b)).1, (rn 0 0 (rest3 b)).1⟩
/-- What the program asks of the parts. -/
def readsWell (b : List Int) : Prop := (rn 0 0 b).2.2 = 0 ∧ (rn 0 0 b).1 ≤ 1099511627776 ∧ (rt (rest1 b)).2.2 = 0 ∧ (rn 0 0 (rest2 b)).2.2 = 0 ∧ (rn 0 0 (rest2 b)).1 ≤ 1099511627776 ∧
  (rn 0 0 (rest3 b)).2.2 = 0 ∧ (rn 0 0 (rest3 b)).1 ≤ 1099511627776 ∧ rest4 b = [] ∧ (rt (rest1 b)).1.size ≤ 32
theorem drop_app (a b : List Int) : (a ++ b).drop ((a.length : Nat) : Int).toNat = b := by rw [Int.toNat_natCast, List.drop_append_of_le_length (Nat.le_refl _), List.drop_length, List.nil_append]
theorem reads_body (r : Rc) (hf : r.fine) : readsWell r.body ∧ readAs r.body = r := by
  obtain ⟨q, g, s, c⟩ := r
  obtain ⟨hq, hs, hc, hg⟩ := hf
  simp only at hq hs hc hg
  obtain ⟨nq, rfl⟩ : ∃ n : Nat, q = (n : Int) := ⟨q.toNat, by omega⟩
  obtain ⟨ns, rfl⟩ : ∃ n : Nat, s = (n : Int) := ⟨s.toNat, by omega⟩
  obtain ⟨nc, rfl⟩ : ∃ n : Nat, c = (n : Int) := ⟨c.toNat, by omega⟩
  have hbody : Rc.body ⟨nq, g, ns, nc⟩ = leb nq ++ (leb (bytesOf g).length ++ bytesOf g ++ (leb ns ++ (leb nc ++ []))) := by
    unfold Rc.body
    simp only [Int.toNat_natCast, List.append_assoc, List.append_nil, bytesOf_length]
  have bg := bytesOf_bytes g
  have lg := bytesOf_length g
  have l1 := leb_len9 ns (by omega)
  have l2 := leb_len9 nc (by omega)
  have b1 : isBytes (leb nc ++ []) := isBytes_append (leb_bytes _) isBytes_nil
  have b2 : isBytes (leb ns ++ (leb nc ++ [])) := isBytes_append (leb_bytes _) b1
  have b3 : isBytes (leb (bytesOf g).length ++ bytesOf g ++ (leb ns ++ (leb nc ++ []))) := isBytes_append (isBytes_append (leb_bytes _) bg) b2
  have e1 := rn_leb nq _ (by omega) b3
  have e2 := rt_text (bytesOf g) _ (by omega) bg b2 (by simp only [List.length_append, List.length_nil]; omega)
  have e3 := rn_leb ns _ (by omega) b1
  have e4 := rn_leb nc [] (by omega) isBytes_nil
  have r1 : rest1 (Rc.body ⟨nq, g, ns, nc⟩) = leb (bytesOf g).length ++ bytesOf g ++ (leb ns ++ (leb nc ++ [])) := by
    unfold rest1
    rw [hbody, e1]
    exact drop_app _ _
  have r2 : rest2 (Rc.body ⟨nq, g, ns, nc⟩) = leb ns ++ (leb nc ++ []) := by
    unfold rest2
    rw [r1, e2]
    have := drop_app (leb (bytesOf g).length ++ bytesOf g) (leb ns ++ (leb nc ++ []))
    rw [List.length_append] at this
    exact this
  have r3 : rest3 (Rc.body ⟨nq, g, ns, nc⟩) = leb nc ++ [] := by
    unfold rest3
    rw [r2, e3]
    exact drop_app _ _
  have r4 : rest4 (Rc.body ⟨nq, g, ns, nc⟩) = [] := by
    unfold rest4
    rw [r3, e4]
    exact drop_app _ _
  unfold readsWell readAs
  rw [r1, r2, r3, r4, e2, e3, e4, hbody, e1, strOf_bytesOf]
  simp only
  exact ⟨⟨trivial, by omega, trivial, trivial, by omega, trivial, by omega, trivial, hg⟩, trivial⟩
theorem body_reads (b : List Int) (hb : isBytes b) (hl : b.length < 1000000) (h : readsWell b) : (readAs b).fine ∧ b = (readAs b).body := by
  obtain ⟨h1, h2, h3, h4, h5, h6, h7, h8, h9⟩ := h
  have hb1 : isBytes (rest1 b) := isBytes_drop _ hb
  have hb2 : isBytes (rest2 b) := isBytes_drop _ hb1
  have hb3 : isBytes (rest3 b) := isBytes_drop _ hb2
  have hl1 : (rest1 b).length ≤ b.length := by unfold rest1; rw [List.length_drop]; omega
  rcases rn_cases b hb with ⟨m, r1, k1, k2, k3⟩ | ⟨_, e, he, k⟩
  case inr => rw [k] at h1; exact absurd h1 he
  rcases rt_cases (rest1 b) hb1 (by omega) with ⟨g, r2, t1, t2, t3⟩ | ⟨_, e, he, k⟩
  case inr => rw [k] at h3; exact absurd h3 he
  rcases rn_cases (rest2 b) hb2 with ⟨n, r3, n1, n2, n3⟩ | ⟨_, e, he, k⟩
  case inr => rw [k] at h4; exact absurd h4 he
  rcases rn_cases (rest3 b) hb3 with ⟨p, r4, p1, p2, p3⟩ | ⟨_, e, he, k⟩
  case inr => rw [k] at h6; exact absurd h6 he
  have e1 : rest1 b = r1 := by
    unfold rest1
    rw [k3]
    have := drop_app (leb m) r1
    rw [← k1] at this
    exact this
  have e2 : rest2 b = r2 := by
    unfold rest2
    rw [t3]
    have := drop_app (leb g.length ++ g) r2
    rw [List.length_append, ← t1] at this
    exact this
  have e3 : rest3 b = r3 := by
    unfold rest3
    rw [n3]
    have := drop_app (leb n) r3
    rw [← n1] at this
    exact this
  have e4 : rest4 b = r4 := by
    unfold rest4
    rw [p3]
    have := drop_app (leb p) r4
    rw [← p1] at this
    exact this
  have hgb : isBytes g := by rw [t1] at hb1; exact isBytes_right (isBytes_left hb1)
  unfold readAs
  rw [k3, t3, n3, p3]
  rw [k3] at h2
  rw [t3] at h9
  rw [n3] at h5
  rw [p3] at h7
  simp only [strOfNums_size] at h2 h5 h7 h9 ⊢
  refine ⟨⟨⟨by simp only; omega, h2⟩, ⟨by simp only; omega, h5⟩, ⟨by simp only; omega, h7⟩, by simp only [strOfNums_size]; exact h9⟩, ?_⟩
  unfold Rc.body
  simp only [Int.toNat_natCast, strOfNums_size, bytesOf_strOf g hgb]
  rw [k1, ← e1, t1, ← e2, n1, ← e3, p1, ← e4, h8]
  simp only [List.append_assoc, List.append_nil]
end Go.Proofs.YteajidciahoboaaDoor.H
-- H8
set_option linter.unusedVariables false
set_option linter.unusedSimpArgs false
namespace Go.Proofs.YteajidciahoboaaDoor.H
open Go.RowKit Go.Shelf Go.Proofs.YteajidciahoboaaDoorW.PrintWords Go.Proofs.YteajidciahoboaaDoorW.PrintLast Go.Proofs.YteajidciahoboaaDoorW.PrintMore Go.Proofs.YteajidciahoboaaDoor.M
attribute [local go_sem] Oper.semAt_some

def zeroRc : Rc := ⟨0, ⟨#[]⟩, 0, 0⟩
/-- An opened handle's answer. -/
def answer (o : Option Rc) : Value := match o with
  | some r => .tuple #[r.enc, .int .i64 0]
  | none => .tuple #[zeroRc.enc, .int .i64 12]

theorem box4 {W : World} {b : Nat} {x0 x1 x2 x3 : Value} {t : TypeId} (h : W.heap[b]? = some (.cells #[x0, x1, x2, x3] t (0, 0))) :
    W.cell? ⟨b, 0, none⟩ = some x0 ∧ W.cell? ⟨b, 1, none⟩ = some x1 ∧ W.cell? ⟨b, 2, none⟩ = some x2 ∧ W.cell? ⟨b, 3, none⟩ = some x3 ∧
    W.frozen? ⟨b, 0, none⟩ = false ∧ W.frozen? ⟨b, 1, none⟩ = false ∧ W.frozen? ⟨b, 2, none⟩ = false ∧ W.frozen? ⟨b, 3, none⟩ = false := by
  refine ⟨?_, ?_, ?_, ?_, Lib.frozen_of_heap h 0, Lib.frozen_of_heap h 1, Lib.frozen_of_heap h 2, Lib.frozen_of_heap h 3⟩ <;> rw [Lib.cell_of_heap h] <;> rfl

def put4 (W : World) (b : Nat) (y0 y1 y2 y3 : Value) : World := (((W.setCell ⟨b, 0, none⟩ y0).setCell ⟨b, 1, none⟩ y1).setCell ⟨b, 2, none⟩ y2).setCell ⟨b, 3, none⟩ y3
theorem put4_heap {W : World} {b : Nat} {x0 x1 x2 x3 : Value} {t : TypeId} (y0 y1 y2 y3 : Value) (h : W.heap[b]? = some (.cells #[x0, x1, x2, x3] t (0, 0))) : (put4 W b y0 y1 y2 y3).heap[b]? = some (.cells #[y0, y1, y2, y3] t (0, 0)) :=
  blk_set (blk_set (blk_set (blk_set h 0 _) 1 _) 2 _) 3 _
theorem put4_below {W : World} {b B : Nat} {w : World} (y0 y1 y2 y3 : Value) (h : Below B w W) (hb : B ≤ b) : Below B w (put4 W b y0 y1 y2 y3) :=
  (((h.setCell (p := ⟨b, 0, none⟩) hb _).setCell (p := ⟨b, 1, none⟩) hb _).setCell (p := ⟨b, 2, none⟩) hb _).setCell (p := ⟨b, 3, none⟩) hb _
set_option maxRecDepth 100000 in
theorem results_open (tmps : Array Value) (W : World) (b : Nat) (x0 x1 x2 x3 u : Value) (h : W.heap[b]? = some (.cells #[x0, x1, x2, x3] 23 (0, 0))) (h2 : tmps.getD 2 undef = .pointer (some ⟨b, 0, none⟩)) (h3 : tmps.getD 3 undef = u) :
    (results Tryd.f9 tmps).run Tryd.prog W = .ok (.tuple #[.agg #[x0, x1, x2, x3], u]) W := by
  obtain ⟨r0, r1, r2, r3, f0, f1, f2, f3⟩ := box4 h
  rw [results_cell_tmp rfl, h2, h3]
  go_simp

set_option maxHeartbeats 4000000 in
set_option maxRecDepth 100000 in
/-- ticket.Open of a text that is no base 64. -/
theorem open_undec (s : ByteArray) (e : Int) (he : e ≠ 0) (K : Nat) (hK : P.basic_Decode.f K s = some (([] : List Int), e)) (w : World) :
    Calls Tryd.prog 9 #[.string s] w fun en w' => en = .returned (answer none) ∧ Below w.heap.size w w' := by
  have he0 : (e != 0) = true := bne_iff_ne.2 he
  have he1 : (e == 0) = false := beq_eq_false_iff_ne.2 he
  have HK := Aside0.mk hK
  clear hK
  go_enter Tryd.func9, Tryd.ntmps9
  have hk0 : (w.alloc (.cells #[.int .i64 0, .string ⟨#[]⟩, .int .i64 0, .int .i64 0] 23)).heap[w.heap.size]? = some (.cells #[.int .i64 0, .string ⟨#[]⟩, .int .i64 0, .int .i64 0] 23 (0, 0)) := heap_new _ _
  go_wp2_with (
    go_at_call 27
    refine (P.basic_Decode.calls K s _ _ _ HK.out).mono ?_
    rintro en w1 ⟨v1, rfl, ho1, hb1⟩
    have hk1 : w1.heap[w.heap.size]? = some (.cells #[.int .i64 0, .string ⟨#[]⟩, .int .i64 0, .int .i64 0] 23 (0, 0)) := (hb1.block _ (by simp)).trans hk0
    have HB1 := Aside0.mk (below_step (below_alloc (Below.refl _ _) _) hb1)
    obtain ⟨r0, r1, r2, r3, f0, f1, f2, f3⟩ := box4 hk1
    clear hb1 ho1)
  refine bodyPost_ret (results_open _ _ w.heap.size (.int .i64 0) (.string ⟨#[]⟩) (.int .i64 0) (.int .i64 0) (.int .i64 12) ?_ rfl rfl) rfl ⟨rfl, ?_⟩
  · exact put4_heap _ _ _ _ hk1
  · exact put4_below _ _ _ _ HB1.out (Nat.le_refl _)
end Go.Proofs.YteajidciahoboaaDoor.H
-- H9
set_option linter.unusedVariables false
set_option linter.unusedSimpArgs false
namespace Go.Proofs.YteajidciahoboaaDoor.H
open Go.RowKit Go.Shelf Go.Proofs.YteajidciahoboaaDoorW.PrintWords Go.Proofs.YteajidciahoboaaDoorW.PrintLast Go.Proofs.YteajidciahoboaaDoorW.PrintMore Go.Proofs.YteajidciahoboaaDoor.M
attribute [local go_sem] Oper.semAt_some

/-- What the opening holds of its variables. -/
structure OpenSt (w2 W : World) (A : Option Addr) (bs : List Int) (c : Nat) (good : Bool) (y0 y1 y2 y3 : Value) : Prop where
  below : Below w2.heap.size w2 W
  b1 : W.heap[w2.heap.size]? = some (.cells #[.slice A bs.length c] 36 (0, 0))
  b2 : W.heap[w2.heap.size + 1]? = some (.cells #[.bool good] 4 (0, 0))
  b3 : W.heap[w2.heap.size + 1 + 1]? = some (.cells #[y0, y1, y2, y3] 23 (0, 0))
  data : Kd.C (Kd.int .u8) w2 A bs.length bs
  cap : bs.length ≤ c
theorem OpenSt.num {w2 W : World} {A A' : Option Addr} {bs : List Int} {c k nd : Nat} {good g' : Bool} {y0 y1 y2 y3 : Value} (h : OpenSt w2 W A bs c good y0 y1 y2 y3) (hk : k ≤ bs.length) (hd : Kd.C (Kd.int .u8) w2 A' (bs.length - k) (bs.drop k)) :
    OpenSt w2 (((W.drewN nd).setCell ⟨w2.heap.size + 1, 0, none⟩ (.bool g')).setCell ⟨w2.heap.size, 0, none⟩ (.slice A' (bs.length - k) (c - k))) A' (bs.drop k) (c - k) g' y0 y1 y2 y3 := by
  have e : (bs.drop k).length = bs.length - k := List.length_drop
  refine ⟨((pw_below_drewN h.below _).setCell (p := ⟨w2.heap.size + 1, 0, none⟩) (by simp <;> omega) _).setCell (p := ⟨w2.heap.size, 0, none⟩) (by simp <;> omega) _, ?_, ?_, ?_, by rw [e]; exact hd, by rw [e]; have := h.cap; omega⟩
  · rw [e]
    exact blk_set (blk_far (p := ⟨w2.heap.size + 1, 0, none⟩) h.b1 (by simp <;> omega) _) 0 _
  · exact blk_far (p := ⟨w2.heap.size, 0, none⟩) (blk_set h.b2 0 _) (by simp <;> omega) _
  · exact blk_far (p := ⟨w2.heap.size, 0, none⟩) (blk_far (p := ⟨w2.heap.size + 1, 0, none⟩) h.b3 (by simp <;> omega) _) (by simp <;> omega) _
theorem OpenSt.cut {w2 W : World} {A A' : Option Addr} {bs : List Int} {c k : Nat} {good : Bool} {y0 y1 y2 y3 : Value} (h : OpenSt w2 W A bs c good y0 y1 y2 y3) (hk : k ≤ bs.length) (hd : Kd.C (Kd.int .u8) w2 A' (bs.length - k) (bs.drop k)) :
    OpenSt w2 (W.setCell ⟨w2.heap.size, 0, none⟩ (.slice A' (bs.length - k) (c - k))) A' (bs.drop k) (c - k) good y0 y1 y2 y3 := by
  have e : (bs.drop k).length = bs.length - k := List.length_drop
  refine ⟨h.below.setCell (p := ⟨w2.heap.size, 0, none⟩) (by simp <;> omega) _, ?_, ?_, ?_, by rw [e]; exact hd, by rw [e]; have := h.cap; omega⟩
  · rw [e]
    exact blk_set h.b1 0 _
  · exact blk_far (p := ⟨w2.heap.size, 0, none⟩) h.b2 (by simp <;> omega) _
  · exact blk_far (p := ⟨w2.heap.size, 0, none⟩) h.b3 (by simp <;> omega) _
theorem OpenSt.drew {w2 W : World} {A : Option Addr} {bs : List Int} {c : Nat} {good : Bool} {y0 y1 y2 y3 : Value} (h : OpenSt w2 W A bs c good y0 y1 y2 y3) (n : Nat) : OpenSt w2 (W.drewN n) A bs c good y0 y1 y2 y3 :=
  ⟨pw_below_drewN h.below _, h.b1, h.b2, h.b3, h.data, h.cap⟩
theorem OpenSt.put {w2 W : World} {A : Option Addr} {bs : List Int} {c : Nat} {good : Bool} {y0 y1 y2 y3 : Value} (h : OpenSt w2 W A bs c good y0 y1 y2 y3) (i : Nat) (v z0 z1 z2 z3 : Value) (hz : (#[y0, y1, y2, y3] : Array Value).setIfInBounds i v = #[z0, z1, z2, z3]) :
    OpenSt w2 (W.setCell ⟨w2.heap.size + 1 + 1, i, none⟩ v) A bs c good z0 z1 z2 z3 :=
  ⟨h.below.setCell (p := ⟨w2.heap.size + 1 + 1, i, none⟩) (by simp <;> omega) _, blk_far (p := ⟨w2.heap.size + 1 + 1, i, none⟩) h.b1 (by simp <;> omega) _, blk_far (p := ⟨w2.heap.size + 1 + 1, i, none⟩) h.b2 (by simp <;> omega) _, by rw [← hz]; exact blk_set h.b3 i _, h.data, h.cap⟩
theorem OpenSt.facts {w2 W : World} {A : Option Addr} {bs : List Int} {c : Nat} {good : Bool} {y0 y1 y2 y3 : Value} (h : OpenSt w2 W A bs c good y0 y1 y2 y3) :
    W.cell? ⟨w2.heap.size, 0, none⟩ = some (.slice A bs.length c) ∧ W.cell? ⟨w2.heap.size + 1, 0, none⟩ = some (.bool good) ∧ W.frozen? ⟨w2.heap.size, 0, none⟩ = false ∧ W.frozen? ⟨w2.heap.size + 1, 0, none⟩ = false ∧
    W.cell? ⟨w2.heap.size + 1 + 1, 0, none⟩ = some y0 ∧ W.cell? ⟨w2.heap.size + 1 + 1, 1, none⟩ = some y1 ∧ W.cell? ⟨w2.heap.size + 1 + 1, 2, none⟩ = some y2 ∧ W.cell? ⟨w2.heap.size + 1 + 1, 3, none⟩ = some y3 ∧
    W.frozen? ⟨w2.heap.size + 1 + 1, 0, none⟩ = false ∧ W.frozen? ⟨w2.heap.size + 1 + 1, 1, none⟩ = false ∧ W.frozen? ⟨w2.heap.size + 1 + 1, 2, none⟩ = false ∧ W.frozen? ⟨w2.heap.size + 1 + 1, 3, none⟩ = false := by
  obtain ⟨r0, r1, r2, r3, f0, f1, f2, f3⟩ := box4 h.b3
  exact ⟨by rw [Lib.cell_of_heap h.b1]; rfl, by rw [Lib.cell_of_heap h.b2]; rfl, Lib.frozen_of_heap h.b1 0, Lib.frozen_of_heap h.b2 0, r0, r1, r2, r3, f0, f1, f2, f3⟩

theorem rn_form (b : List Int) (hb : isBytes b) : ∃ (x : Int) (k : Nat) (e : Int), rn 0 0 b = (x, (k : Int), e) ∧ k ≤ b.length := by
  have h := rn_range b hb
  refine ⟨(rn 0 0 b).1, (rn 0 0 b).2.1.toNat, (rn 0 0 b).2.2, ?_, by omega⟩
  rw [Int.toNat_of_nonneg h.2.2.1]
theorem rt_form (b : List Int) (hb : isBytes b) (hl : b.length < 1000000000) : ∃ (g : ByteArray) (k : Nat) (e : Int), rt b = (g, (k : Int), e) ∧ k ≤ b.length := by
  have h := rt_range b hb hl
  refine ⟨(rt b).1, (rt b).2.1.toNat, (rt b).2.2, ?_, by omega⟩
  rw [Int.toNat_of_nonneg h.1]

set_option maxHeartbeats 8000000 in
set_option maxRecDepth 100000 in
/-- ticket.Open of a frame that fills the text. -/
theorem open_full (s : ByteArray) (f b : List Int) (hf : isBytes f) (hfl : f.length ≤ 1000000) (hu : unframe f = some b) (hlen : 12 + b.length = f.length) (K : Nat) (hK : P.basic_Decode.f K s = some (f, 0)) (w : World) (hT : HalfAt w) (hb : isBytes b) :
    Calls Tryd.prog 9 #[.string s] w fun en w' => ((readsWell b ∧ en = .returned (answer (some (readAs b)))) ∨ (¬ readsWell b ∧ en = .returned (answer none))) ∧ Below w.heap.size w w' := by
  have HT := Aside0.mk hT
  have HK := Aside0.mk hK
  have HU := Aside0.mk hu
  have HF := Aside0.mk hf
  have HBB := Aside0.mk hb
  have hlen' : (12 + (b.length : Int) != (f.length : Int)) = false := by rw [bne_eq_false_iff_eq]; omega
  have hmf : ∀ (fn : Fn) (first cap : Array Value) (w : World), (Instr.makeFunc fn first cap).run Tryd.prog w = .ok (.func fn first cap) w := fun _ _ _ _ => rfl
  obtain ⟨x1, k1, e1, hrn1, h1⟩ := rn_form b hb
  obtain ⟨b1, hb1'⟩ : ∃ l, b.drop k1 = l := ⟨_, rfl⟩
  have hbb1 : isBytes b1 := by rw [← hb1']; exact isBytes_drop _ hb
  have hl1 : b1.length ≤ b.length := by rw [← hb1', List.length_drop]; omega
  obtain ⟨g, kt, et, hrt, ht⟩ := rt_form b1 hbb1 (by omega)
  obtain ⟨b2, hb2'⟩ : ∃ l, b1.drop kt = l := ⟨_, rfl⟩
  have hbb2 : isBytes b2 := by rw [← hb2']; exact isBytes_drop _ hbb1
  have hl2 : b2.length ≤ b1.length := by rw [← hb2', List.length_drop]; omega
  obtain ⟨x3, k3, e3, hrn3, h3⟩ := rn_form b2 hbb2
  obtain ⟨b3, hb3'⟩ : ∃ l, b2.drop k3 = l := ⟨_, rfl⟩
  have hbb3 : isBytes b3 := by rw [← hb3']; exact isBytes_drop _ hbb2
  have hl3 : b3.length ≤ b2.length := by rw [← hb3', List.length_drop]; omega
  obtain ⟨x4, k4, e4, hrn4, h4⟩ := rn_form b3 hbb3
  obtain ⟨b4, hb4'⟩ : ∃ l, b3.drop k4 = l := ⟨_, rfl⟩
  obtain ⟨KT, hKT⟩ := (octet_rt b1 hbb1 (by omega)).get
  rw [hrt] at hKT
  have e1' : rest1 b = b1 := by unfold rest1; rw [hrn1]; exact hb1'
  have e2' : rest2 b = b2 := by unfold rest2; rw [e1', hrt]; exact hb2'
  have e3' : rest3 b = b3 := by unfold rest3; rw [e2', hrn3]; exact hb3'
  have e4' : rest4 b = b4 := by unfold rest4; rw [e3', hrn4]; exact hb4'
  have HRW : Aside0 (readsWell b ↔ (e1 = 0 ∧ x1 ≤ 1099511627776 ∧ et = 0 ∧ e3 = 0 ∧ x3 ≤ 1099511627776 ∧ e4 = 0 ∧ x4 ≤ 1099511627776 ∧ b4 = [] ∧ g.size ≤ 32)) := ⟨by unfold readsWell; rw [e1', e2', e3', e4', hrn1, hrt, hrn3, hrn4]⟩
  have HRA : Aside0 (readAs b = ⟨x1, g, x3, x4⟩) := ⟨by unfold readAs; rw [e1', e2', e3', hrn1, hrt, hrn3, hrn4]⟩
  clear e1' e2' e3' e4'
  have HRN1 := Aside0.mk hrn1
  have HRT := Aside0.mk hrt
  have HRN3 := Aside0.mk hrn3
  have HRN4 := Aside0.mk hrn4
  have HB1' := Aside0.mk hb1'
  have HB2' := Aside0.mk hb2'
  have HB3' := Aside0.mk hb3'
  have HB4' := Aside0.mk hb4'
  have HBB2 := Aside0.mk hbb2
  have HBB3 := Aside0.mk hbb3
  have HKT := Aside0.mk hKT
  clear hT hK hu hf hb hrn1 hrt hrn3 hrn4 hb1' hb2' hb3' hb4' hbb1 hbb2 hbb3 hKT
  go_enter Tryd.func9, Tryd.ntmps9
  have hk0 : (w.alloc (.cells #[.int .i64 0, .string ⟨#[]⟩, .int .i64 0, .int .i64 0] 23)).heap[w.heap.size]? = some (.cells #[.int .i64 0, .string ⟨#[]⟩, .int .i64 0, .int .i64 0] 23 (0, 0)) := heap_new _ _
  go_wp2_with (
    go_at_call 27
    refine (P.basic_Decode.calls K s _ _ _ HK.out).mono ?_
    rintro en w1 ⟨v1, rfl, ho1, hb1⟩
    have hk1 : w1.heap[w.heap.size]? = some (.cells #[.int .i64 0, .string ⟨#[]⟩, .int .i64 0, .int .i64 0] 23 (0, 0)) := (hb1.block _ (by simp)).trans hk0
    have HB1 := Aside0.mk (below_step (below_alloc (Below.refl _ _) _) hb1)
    obtain ⟨a1, c1, rfl, hc1, hr1⟩ := own_some ho1 (by intro h; rw [h] at hlen; simp at hlen)
    have HC1 := Aside0.mk hc1
    have HR1 := Aside0.mk hr1
    clear hb1 ho1 hc1 hr1)
  go_wp2_with (
    go_at_call 28
    refine (next_good a1 c1 f w1 (HT.out.below HB1.out) HR1.out HC1.out HF.out hfl b HU.out).mono ?_
    rintro en w2 ⟨v2, rfl, ho2, hb2⟩
    have hk2 : w2.heap[w.heap.size]? = some (.cells #[.int .i64 0, .string ⟨#[]⟩, .int .i64 0, .int .i64 0] 23 (0, 0)) := (hb2.block _ (cells_lt hk1)).trans hk1
    have HB2 := Aside0.mk (below_step HB1.out hb2)
    obtain ⟨A2, c2, rfl, hc2, hr2⟩ := Kd.R_reads ho2
    have HC2 := Aside0.mk hc2
    have HR2 := Aside0.mk hr2
    clear hb2 ho2 hc2 hr2)
  have hB : ∀ o1 o2 o3, Below w2.heap.size w2 (((w2.alloc o1).alloc o2).alloc o3) := fun _ _ _ => below_alloc (below_alloc (below_alloc (Below.refl _ _) _) _) _
  have st2 : OpenSt w2 (((w2.alloc (.cells #[.slice A2 b.length c2] 36)).alloc (.cells #[.bool true] 4)).alloc (.cells #[.int .i64 0, .string ⟨#[]⟩, .int .i64 0, .int .i64 0] 23)) A2 b c2 true (.int .i64 0) (.string ⟨#[]⟩) (.int .i64 0) (.int .i64 0) :=
    ⟨hB _ _ _, (heap_old _ _ _ (by simp <;> omega)).trans ((heap_old _ _ _ (by simp <;> omega)).trans (heap_new _ _)), (heap_old _ _ _ (by simp)).trans (heap_new1 _ _ _), heap_new2 _ _ _ _, HR2.out, HC2.out⟩
  refine (num_open w2 _ st2.below _ _ (by simp) A2 c2 b true st2.b1 st2.b2 st2.data st2.cap HBB.out (by omega) x1 k1 e1 HRN1.out h1).mono ?_
  rintro en w3 ⟨rfl, A3, nd3, hw3, hr3⟩
  have st3 := st2.num (nd := nd3) (g' := true && decide (e1 = 0) && decide (x1 ≤ 1099511627776)) h1 hr3
  rw [← hw3, HB1'.out] at st3
  clear hw3 hr3 st2 hB
  obtain ⟨gd1, hgd1⟩ : ∃ gd, (true && decide (e1 = 0) && decide (x1 ≤ 1099511627776)) = gd := ⟨_, rfl⟩
  rw [hgd1] at st3
  have HGD1 := Aside0.mk hgd1
  clear hgd1
  have st3' := st3.put 0 (.int .i64 x1) (.int .i64 x1) (.string ⟨#[]⟩) (.int .i64 0) (.int .i64 0) rfl
  have F3 := st3.facts
  have F3' := st3'.facts
  have ST3 := Aside0.mk st3'
  obtain ⟨p0, p1, p2, p3, p4, p5, p6, p7, p8, p9, p10, p11⟩ := F3
  obtain ⟨q0, q1, q2, q3, q4, q5, q6, q7, q8, q9, q10, q11⟩ := F3'
  obtain ⟨A4, hcut, hcr⟩ := cut_any A3 b1.length (c2 - k1) kt ht st3.cap
  have HCR := Aside0.mk hcr
  clear st3 st3' hcr
  go_wp2_with (
    go_at_call 31
    refine (P.octet_ReadText.calls KT A3 (c2 - k1) b1 g kt et _ (Kd.C_below ST3.out.data ST3.out.below) ST3.out.cap HKT.out).mono ?_
    rintro en w4 ⟨rfl, nd4, hw4⟩
    have st4 := ST3.out.drew nd4
    rw [← hw4] at st4
    clear hw4 p0 p1 p2 p3 p4 p5 p6 p7 p8 p9 p10 p11 q0 q1 q2 q3 q4 q5 q6 q7 q8 q9 q10 q11
    have st4' := st4.cut ht (HCR.out _ _ st4.data)
    rw [HB2'.out] at st4'
    have st4'' := st4'.put 1 (.string g) (.int .i64 x1) (.string g) (.int .i64 0) (.int .i64 0) rfl
    have ST4 := Aside0.mk st4''
    obtain ⟨p0, p1, p2, p3, p4, p5, p6, p7, p8, p9, p10, p11⟩ := st4.facts
    obtain ⟨q0, q1, q2, q3, q4, q5, q6, q7, q8, q9, q10, q11⟩ := st4'.facts
    obtain ⟨s0, s1, s2, s3, s4, s5, s6, s7, s8, s9, s10, s11⟩ := st4''.facts
    clear st4 st4' st4'')
  refine (num_open w2 _ ST4.out.below _ _ (by simp) A4 (c2 - k1 - kt) b2 gd1 ST4.out.b1 ST4.out.b2 ST4.out.data ST4.out.cap HBB2.out (by omega) x3 k3 e3 HRN3.out h3).mono ?_
  rintro en w5 ⟨rfl, A5, nd5, hw5, hr5⟩
  have st5 := ST4.out.num (nd := nd5) (g' := gd1 && decide (e3 = 0) && decide (x3 ≤ 1099511627776)) h3 hr5
  rw [← hw5, HB3'.out] at st5
  clear hw5 hr5 p0 p1 p2 p3 p4 p5 p6 p7 p8 p9 p10 p11 q0 q1 q2 q3 q4 q5 q6 q7 q8 q9 q10 q11 s0 s1 s2 s3 s4 s5 s6 s7 s8 s9 s10 s11
  obtain ⟨gd2, hgd2⟩ : ∃ gd, (gd1 && decide (e3 = 0) && decide (x3 ≤ 1099511627776)) = gd := ⟨_, rfl⟩
  rw [hgd2] at st5
  have HGD2 := Aside0.mk hgd2
  clear hgd2
  have st5' := st5.put 2 (.int .i64 x3) (.int .i64 x1) (.string g) (.int .i64 x3) (.int .i64 0) rfl
  have ST5 := Aside0.mk st5'
  obtain ⟨p0, p1, p2, p3, p4, p5, p6, p7, p8, p9, p10, p11⟩ := st5.facts
  obtain ⟨q0, q1, q2, q3, q4, q5, q6, q7, q8, q9, q10, q11⟩ := st5'.facts
  clear st5 st5'
  go_wp2_with (fail)
  refine (num_open w2 _ ST5.out.below _ _ (by simp) A5 (c2 - k1 - kt - k3) b3 gd2 ST5.out.b1 ST5.out.b2 ST5.out.data ST5.out.cap HBB3.out (by omega) x4 k4 e4 HRN4.out h4).mono ?_
  rintro en w6 ⟨rfl, A6, nd6, hw6, hr6⟩
  have st6 := ST5.out.num (nd := nd6) (g' := gd2 && decide (e4 = 0) && decide (x4 ≤ 1099511627776)) h4 hr6
  rw [← hw6, HB4'.out] at st6
  clear hw6 hr6 p0 p1 p2 p3 p4 p5 p6 p7 p8 p9 p10 p11 q0 q1 q2 q3 q4 q5 q6 q7 q8 q9 q10 q11
  obtain ⟨gd3, hgd3⟩ : ∃ gd, (gd2 && decide (e4 = 0) && decide (x4 ≤ 1099511627776)) = gd := ⟨_, rfl⟩
  rw [hgd3] at st6
  have HGD3 := Aside0.mk hgd3
  clear hgd3
  have st6' := st6.put 3 (.int .i64 x4) (.int .i64 x1) (.string g) (.int .i64 x3) (.int .i64 x4) rfl
  have ST6 := Aside0.mk st6'
  obtain ⟨p0, p1, p2, p3, p4, p5, p6, p7, p8, p9, p10, p11⟩ := st6.facts
  obtain ⟨q0, q1, q2, q3, q4, q5, q6, q7, q8, q9, q10, q11⟩ := st6'.facts
  have hk6 := (st6'.below.block _ (cells_lt hk2)).trans hk2
  obtain ⟨r0, r1, r2, r3, f0, f1, f2, f3⟩ := box4 hk6
  have HB6 := Aside0.mk (below_step HB2.out st6'.below)
  clear st6 st6'
  rcases Bool.eq_false_or_eq_true gd3 with hgd | hgd
  case inr =>
    subst hgd
    go_wp2
    refine bodyPost_ret (results_open _ _ w.heap.size (.int .i64 0) (.string ⟨#[]⟩) (.int .i64 0) (.int .i64 0) (.int .i64 12) (put4_heap _ _ _ _ hk6) rfl rfl) rfl ⟨.inr ⟨?_, rfl⟩, put4_below _ _ _ _ HB6.out (Nat.le_refl _)⟩
    rw [HRW.out]
    rintro ⟨g1, g2, g3, g4, g5, g6, g7, g8, g9⟩
    have := HGD3.out
    rw [← HGD2.out, ← HGD1.out, decide_eq_true g1, decide_eq_true g2, decide_eq_true g4, decide_eq_true g5, decide_eq_true g6, decide_eq_true g7] at this
    cases this
  subst hgd
  by_cases hc1 : et = 0
  case neg =>
    have hc1' : (et != 0) = true := bne_iff_ne.2 hc1
    go_wp2
    refine bodyPost_ret (results_open _ _ w.heap.size (.int .i64 0) (.string ⟨#[]⟩) (.int .i64 0) (.int .i64 0) (.int .i64 12) (put4_heap _ _ _ _ hk6) rfl rfl) rfl ⟨.inr ⟨?_, rfl⟩, put4_below _ _ _ _ HB6.out (Nat.le_refl _)⟩
    rw [HRW.out]
    exact fun h => hc1 h.2.2.1
  have hc1' : (et != 0) = false := bne_eq_false_iff_eq.2 hc1
  have HC1' := Aside0.mk hc1
  clear hc1
  by_cases hc2 : 0 < b4.length
  case pos =>
    have hc2' : decide ((0 : Int) < (b4.length : Int)) = true := decide_eq_true (by omega)
    go_wp2
    refine bodyPost_ret (results_open _ _ w.heap.size (.int .i64 0) (.string ⟨#[]⟩) (.int .i64 0) (.int .i64 0) (.int .i64 12) (put4_heap _ _ _ _ hk6) rfl rfl) rfl ⟨.inr ⟨?_, rfl⟩, put4_below _ _ _ _ HB6.out (Nat.le_refl _)⟩
    rw [HRW.out]
    intro h
    have := h.2.2.2.2.2.2.2.1
    rw [this] at hc2
    simp at hc2
  have hc2' : decide ((0 : Int) < (b4.length : Int)) = false := decide_eq_false (by omega)
  by_cases hc3 : 32 < g.size
  case pos =>
    have hc3' : decide ((32 : Int) < (g.size : Int)) = true := decide_eq_true (by omega)
    go_wp2
    refine bodyPost_ret (results_open _ _ w.heap.size (.int .i64 0) (.string ⟨#[]⟩) (.int .i64 0) (.int .i64 0) (.int .i64 12) (put4_heap _ _ _ _ hk6) rfl rfl) rfl ⟨.inr ⟨?_, rfl⟩, put4_below _ _ _ _ HB6.out (Nat.le_refl _)⟩
    rw [HRW.out]
    intro h
    have := h.2.2.2.2.2.2.2.2
    omega
  have hc3' : decide ((32 : Int) < (g.size : Int)) = false := decide_eq_false (by omega)
  go_wp2
  refine bodyPost_ret (results_open _ _ w.heap.size (.int .i64 x1) (.string g) (.int .i64 x3) (.int .i64 x4) (.int .i64 0) (put4_heap _ _ _ _ hk6) rfl rfl) rfl ⟨.inl ⟨?_, by rw [HRA.out]; rfl⟩, put4_below _ _ _ _ HB6.out (Nat.le_refl _)⟩
  rw [HRW.out]
  have h := HGD3.out
  rw [← HGD2.out, ← HGD1.out] at h
  simp only [Bool.and_eq_true, decide_eq_true_eq, true_and] at h
  obtain ⟨⟨⟨⟨⟨g1, g2⟩, g4⟩, g5⟩, g6⟩, g7⟩ := h
  exact ⟨g1, g2, HC1'.out, g4, g5, g6, g7, List.eq_nil_of_length_eq_zero (by omega), by omega⟩
end Go.Proofs.YteajidciahoboaaDoor.H
-- H10
set_option linter.unusedVariables false
set_option linter.unusedSimpArgs false
namespace Go.Proofs.YteajidciahoboaaDoor.H
open Go.RowKit Go.Shelf Go.Proofs.YteajidciahoboaaDoorW.PrintWords Go.Proofs.YteajidciahoboaaDoorW.PrintLast Go.Proofs.YteajidciahoboaaDoorW.PrintMore Go.Proofs.YteajidciahoboaaDoor.M
attribute [local go_sem] Oper.semAt_some

set_option maxHeartbeats 8000000 in
set_option maxRecDepth 100000 in
/-- ticket.Open of bytes that are no frame, or of a frame with something behind. -/
theorem open_unframed (s : ByteArray) (f : List Int) (hf : isBytes f) (hfl : f.length ≤ 1000000) (hu : ∀ b, unframe f = some b → 12 + b.length ≠ f.length) (K : Nat) (hK : P.basic_Decode.f K s = some (f, 0)) (w : World) (hT : HalfAt w) :
    Calls Tryd.prog 9 #[.string s] w fun en w' => en = .returned (answer none) ∧ Below w.heap.size w w' := by
  have HT := Aside0.mk hT
  have HK := Aside0.mk hK
  have HU := Aside0.mk hu
  have HF := Aside0.mk hf
  clear hT hK hu hf
  by_cases h12 : f.length < 12
  · go_enter Tryd.func9, Tryd.ntmps9
    have hk0 : (w.alloc (.cells #[.int .i64 0, .string ⟨#[]⟩, .int .i64 0, .int .i64 0] 23)).heap[w.heap.size]? = some (.cells #[.int .i64 0, .string ⟨#[]⟩, .int .i64 0, .int .i64 0] 23 (0, 0)) := heap_new _ _
    go_wp2_with (
      go_at_call 27
      refine (P.basic_Decode.calls K s _ _ _ HK.out).mono ?_
      rintro en w1 ⟨v1, rfl, ho1, hb1⟩
      have hk1 : w1.heap[w.heap.size]? = some (.cells #[.int .i64 0, .string ⟨#[]⟩, .int .i64 0, .int .i64 0] 23 (0, 0)) := (hb1.block _ (by simp)).trans hk0
      have HB1 := Aside0.mk (below_step (below_alloc (Below.refl _ _) _) hb1)
      obtain ⟨A1, c1, rfl, hc1, hr1⟩ := Kd.R_reads ho1
      clear hb1 ho1 hc1 hr1)
    go_wp2_with (
      go_at_call 28
      refine (next_short A1 f.length c1 w1 h12).mono ?_
      rintro en w2 ⟨rfl, hw2⟩
      rw [hw2] at hk1 HB1
      clear hw2
      have hk2 : (w2.alloc (.cells #[.slice none 0 0] 36)).heap[w.heap.size]? = some (.cells #[.int .i64 0, .string ⟨#[]⟩, .int .i64 0, .int .i64 0] 23 (0, 0)) := (heap_old _ _ _ (cells_lt hk1)).trans hk1
      have HB2 := Aside0.mk (below_alloc HB1.out (.cells #[.slice none 0 0] 36))
      obtain ⟨r0, r1, r2, r3, f0, f1, f2, f3⟩ := box4 hk2)
    refine bodyPost_ret (results_open _ _ w.heap.size (.int .i64 0) (.string ⟨#[]⟩) (.int .i64 0) (.int .i64 0) (.int .i64 12) (put4_heap _ _ _ _ hk2) rfl rfl) rfl ⟨rfl, put4_below _ _ _ _ HB2.out (Nat.le_refl _)⟩
  · cases hub : unframe f with
    | none =>
      have HUB := Aside0.mk hub
      clear hub
      go_enter Tryd.func9, Tryd.ntmps9
      have hk0 : (w.alloc (.cells #[.int .i64 0, .string ⟨#[]⟩, .int .i64 0, .int .i64 0] 23)).heap[w.heap.size]? = some (.cells #[.int .i64 0, .string ⟨#[]⟩, .int .i64 0, .int .i64 0] 23 (0, 0)) := heap_new _ _
      go_wp2_with (
        go_at_call 27
        refine (P.basic_Decode.calls K s _ _ _ HK.out).mono ?_
        rintro en w1 ⟨v1, rfl, ho1, hb1⟩
        have hk1 : w1.heap[w.heap.size]? = some (.cells #[.int .i64 0, .string ⟨#[]⟩, .int .i64 0, .int .i64 0] 23 (0, 0)) := (hb1.block _ (by simp)).trans hk0
        have HB1 := Aside0.mk (below_step (below_alloc (Below.refl _ _) _) hb1)
        obtain ⟨a1, c1, rfl, hc1, hr1⟩ := own_some ho1 (by intro h; rw [h] at h12; simp at h12)
        have HC1 := Aside0.mk hc1
        have HR1 := Aside0.mk hr1
        clear hb1 ho1 hc1 hr1)
      go_wp2_with (
        go_at_call 28
        refine (next_bad a1 c1 f w1 (HT.out.below HB1.out) HR1.out HC1.out HF.out hfl (Nat.le_of_not_lt h12) HUB.out).mono ?_
        rintro en w2 ⟨code, hcode, rfl, hb2⟩
        have hk1' : w2.heap[w.heap.size]? = some (.cells #[.int .i64 0, .string ⟨#[]⟩, .int .i64 0, .int .i64 0] 23 (0, 0)) := (hb2.block _ (cells_lt hk1)).trans hk1
        have hcode' : (code != 0) = true := bne_iff_ne.2 hcode
        have hk2 : (w2.alloc (.cells #[.slice none 0 0] 36)).heap[w.heap.size]? = some (.cells #[.int .i64 0, .string ⟨#[]⟩, .int .i64 0, .int .i64 0] 23 (0, 0)) := (heap_old _ _ _ (cells_lt hk1')).trans hk1'
        have HB2 := Aside0.mk (below_alloc (below_step HB1.out hb2) (.cells #[.slice none 0 0] 36))
        clear hb2 hcode
        obtain ⟨r0, r1, r2, r3, f0, f1, f2, f3⟩ := box4 hk2)
      refine bodyPost_ret (results_open _ _ w.heap.size (.int .i64 0) (.string ⟨#[]⟩) (.int .i64 0) (.int .i64 0) (.int .i64 12) (put4_heap _ _ _ _ hk2) rfl rfl) rfl ⟨rfl, put4_below _ _ _ _ HB2.out (Nat.le_refl _)⟩
    | some b =>
      have hne := HU.out b hub
      have hlen' : (12 + (b.length : Int) != (f.length : Int)) = true := by rw [bne_iff_ne]; omega
      have HUB := Aside0.mk hub
      clear hub hne
      go_enter Tryd.func9, Tryd.ntmps9
      have hk0 : (w.alloc (.cells #[.int .i64 0, .string ⟨#[]⟩, .int .i64 0, .int .i64 0] 23)).heap[w.heap.size]? = some (.cells #[.int .i64 0, .string ⟨#[]⟩, .int .i64 0, .int .i64 0] 23 (0, 0)) := heap_new _ _
      go_wp2_with (
        go_at_call 27
        refine (P.basic_Decode.calls K s _ _ _ HK.out).mono ?_
        rintro en w1 ⟨v1, rfl, ho1, hb1⟩
        have hk1 : w1.heap[w.heap.size]? = some (.cells #[.int .i64 0, .string ⟨#[]⟩, .int .i64 0, .int .i64 0] 23 (0, 0)) := (hb1.block _ (by simp)).trans hk0
        have HB1 := Aside0.mk (below_step (below_alloc (Below.refl _ _) _) hb1)
        obtain ⟨a1, c1, rfl, hc1, hr1⟩ := own_some ho1 (by intro h; rw [h] at h12; simp at h12)
        have HC1 := Aside0.mk hc1
        have HR1 := Aside0.mk hr1
        clear hb1 ho1 hc1 hr1)
      go_wp2_with (
        go_at_call 28
        refine (next_good a1 c1 f w1 (HT.out.below HB1.out) HR1.out HC1.out HF.out hfl b HUB.out).mono ?_
        rintro en w2 ⟨v2, rfl, ho2, hb2⟩
        have hk1' : w2.heap[w.heap.size]? = some (.cells #[.int .i64 0, .string ⟨#[]⟩, .int .i64 0, .int .i64 0] 23 (0, 0)) := (hb2.block _ (cells_lt hk1)).trans hk1
        have hk2 : (w2.alloc (.cells #[v2] 36)).heap[w.heap.size]? = some (.cells #[.int .i64 0, .string ⟨#[]⟩, .int .i64 0, .int .i64 0] 23 (0, 0)) := (heap_old _ _ _ (cells_lt hk1')).trans hk1'
        have HB2 := Aside0.mk (below_alloc (below_step HB1.out hb2) (.cells #[v2] 36))
        obtain ⟨A2, c2, rfl, hc2, hr2⟩ := Kd.R_reads ho2
        clear hb2 ho2 hc2 hr2
        obtain ⟨r0, r1, r2, r3, f0, f1, f2, f3⟩ := box4 hk2)
      refine bodyPost_ret (results_open _ _ w.heap.size (.int .i64 0) (.string ⟨#[]⟩) (.int .i64 0) (.int .i64 0) (.int .i64 12) (put4_heap _ _ _ _ hk2) rfl rfl) rfl ⟨rfl, put4_below _ _ _ _ HB2.out (Nat.le_refl _)⟩
end Go.Proofs.YteajidciahoboaaDoor.H
-- P11
set_option linter.unusedVariables false
set_option linter.unusedSimpArgs false
namespace Go.Proofs.YteajidciahoboaaDoor.H
open Go.RowKit Go.Shelf Go.Proofs.YteajidciahoboaaDoorW.PrintWords Go.Proofs.YteajidciahoboaaDoorW.PrintLast Go.Proofs.YteajidciahoboaaDoorW.PrintMore Go.Proofs.YteajidciahoboaaDoor.M

theorem le4_four (n : Nat) (r : List Int) (hn : n < 4294967296) : le4 (four n ++ r) = n := by
  have e : four n ++ r = ((n % 256 : Nat) : Int) :: ((n / 256 % 256 : Nat) : Int) :: ((n / 65536 % 256 : Nat) : Int) :: ((n / 16777216 % 256 : Nat) : Int) :: r := rfl
  unfold le4
  rw [e]
  simp only [List.getD_cons_zero, List.getD_cons_succ, Int.toNat_natCast]
  omega
theorem four_le4 (xs : List Int) (hb : isBytes xs) (hl : 4 ≤ xs.length) : four (le4 xs) = xs.take 4 := by
  match xs, hl with
  | a :: b :: c :: d :: r, _ =>
    have ha := hb a (by simp)
    have hb' := hb b (by simp)
    have hc := hb c (by simp)
    have hd := hb d (by simp)
    unfold four le4
    simp only [List.getD_cons_zero, List.getD_cons_succ, List.take_succ_cons, List.take_zero, List.cons.injEq, and_true]
    refine ⟨?_, ?_, ?_, ?_⟩ <;> omega
theorem unframe_frame (b : List Int) (hb : isBytes b) (hl : b.length ≤ 65536) : unframe (frame b) = some b := by
  have s4 := crcSum_lt _ (isBytes.nats (four_bytes b.length))
  have sx := crcSum_lt _ (isBytes.nats hb)
  have h1 : le4 (frame b) = b.length := le4_four _ _ (by omega)
  have h2 : (frame b).take 4 = four b.length := rfl
  have h3 : le4 ((frame b).drop 4) = crcSum (nats (four b.length)) := le4_four _ _ s4
  have h4 : le4 ((frame b).drop 8) = crcSum (nats b) := le4_four _ _ sx
  have h5 : (frame b).drop 12 = b := rfl
  have h6 := frame_len b
  unfold unframe
  rw [h1, h2, h3, h4, h5, h6, List.take_length, if_pos ⟨by omega, rfl, hl, by omega, rfl⟩]
theorem frame_unframe (f b : List Int) (hf : isBytes f) (hu : unframe f = some b) (hlen : 12 + b.length = f.length) : f = frame b ∧ b.length ≤ 65536 ∧ isBytes b := by
  unfold unframe at hu
  split at hu
  case isFalse => cases hu
  rename_i hg
  obtain ⟨h1, h2, h3, h4, h5⟩ := hg
  have hb := Option.some.inj hu
  clear hu
  have hbl : b.length = le4 f := by rw [← hb, List.length_take, List.length_drop, Nat.min_eq_left h4]
  have hb12 : f.drop 12 = b := by
    rw [← hb, List.take_of_length_le]
    rw [List.length_drop]
    omega
  have e4 := four_le4 f hf (by omega)
  have e8 := four_le4 (f.drop 4) (isBytes_drop _ hf) (by rw [List.length_drop]; omega)
  have e12 := four_le4 (f.drop 8) (isBytes_drop _ hf) (by rw [List.length_drop]; omega)
  rw [hb] at h5
  refine ⟨?_, by omega, by rw [← hb12]; exact isBytes_drop _ hf⟩
  unfold frame
  rw [hbl, e4, h2, e8, h5, e12, ← hb12]
  have a : (f.drop 8).take 4 ++ f.drop 12 = f.drop 8 := by
    have := List.take_append_drop 4 (f.drop 8)
    rwa [List.drop_drop] at this
  have b' : (f.drop 4).take 4 ++ f.drop 8 = f.drop 4 := by
    have := List.take_append_drop 4 (f.drop 4)
    rwa [List.drop_drop] at this
  rw [a, b', List.take_append_drop]
theorem encode_ge (f : List Int) : f.length ≤ (encode f).length := by
  match f with
  | [] => simp
  | [_] => show 1 ≤ 4; decide
  | [_, _] => show 2 ≤ 4; decide
  | a :: b :: c :: r =>
    have ih := encode_ge r
    have : encode (a :: b :: c :: r) = enc3 [a, b, c] ++ encode r := rfl
    rw [this, List.length_append]
    show r.length + 3 ≤ 4 + _
    omega
/-- A handle, and what is told of it. -/
def IsHandle (cs : List Int) (r : Rc) : Prop := r.fine ∧ cs = encode (frame r.body)
theorem prog_open (cs : List Int) (hb : isBytes cs) (hl : cs.length ≤ 131072) :
    (∃ r, IsHandle cs r ∧ ∀ w, HalfAt w → Calls Tryd.prog 9 #[.string (strOfNums cs)] w fun en w' => en = .returned (answer (some r)) ∧ Below w.heap.size w w') ∨
    ((∀ r, ¬ IsHandle cs r) ∧ ∀ w, HalfAt w → Calls Tryd.prog 9 #[.string (strOfNums cs)] w fun en w' => en = .returned (answer none) ∧ Below w.heap.size w w') := by
  rcases prog_dec cs hb hl with ⟨f, hf, hcs, hev⟩ | ⟨hno, hev⟩
  case inr =>
    obtain ⟨K, hK⟩ := hev.get
    exact .inr ⟨fun r hr => hno _ (frame_bytes (body_bytes r)) hr.2, fun w hT => open_undec _ 5 (by decide) K hK w⟩
  obtain ⟨K, hK⟩ := hev.get
  have hfl : f.length ≤ 1000000 := by have := encode_ge f; rw [← hcs] at this; omega
  have hsame : ∀ r, IsHandle cs r → f = frame r.body := fun r hr => encode_inj hf (frame_bytes (body_bytes r)) (by rw [← hcs, hr.2])
  by_cases hu : ∃ b, unframe f = some b ∧ 12 + b.length = f.length
  case neg =>
    refine .inr ⟨fun r hr => hu ⟨r.body, ?_, ?_⟩, fun w hT => open_unframed _ f hf hfl (fun b h1 h2 => hu ⟨b, h1, h2⟩) K hK w hT⟩
    · rw [hsame r hr, unframe_frame _ (body_bytes r) (by have := body_len r hr.1; omega)]
    · rw [hsame r hr, frame_len]; omega
  obtain ⟨b, hu1, hu2⟩ := hu
  obtain ⟨hfr, hbl, hbb⟩ := frame_unframe f b hf hu1 hu2
  by_cases hw : readsWell b
  · obtain ⟨hfine, hbody⟩ := body_reads b hbb (by omega) hw
    refine .inl ⟨readAs b, ⟨hfine, by rw [hcs, hfr, ← hbody]⟩, fun w hT => (open_full _ f b hf hfl hu1 hu2 K hK w hT hbb).mono ?_⟩
    rintro e w' ⟨h | h, hB⟩
    · exact ⟨h.2, hB⟩
    · exact absurd hw h.1
  · refine .inr ⟨fun r hr => hw ?_, fun w hT => (open_full _ f b hf hfl hu1 hu2 K hK w hT hbb).mono ?_⟩
    · have h1 := hsame r hr
      have h2 : b = r.body := by
        have h3 := unframe_frame _ (body_bytes r) (by have := body_len r hr.1; omega)
        rw [← h1, hu1] at h3
        exact Option.some.inj h3
      rw [h2]
      exact (reads_body r hr.1).1
    · rintro e w' ⟨h | h, hB⟩
      · exact absurd h.1 hw
      · exact ⟨h.2, hB⟩
theorem handle_unique {cs : List Int} {r r' : Rc} (h : IsHandle cs r) (h' : IsHandle cs r') : r = r' := by
  have h1 : frame r.body = frame r'.body := encode_inj (frame_bytes (body_bytes r)) (frame_bytes (body_bytes r')) (by rw [← h.2, h'.2])
  have h2 : r.body = r'.body := congrArg (List.drop 12) h1
  rw [← (reads_body r h.1).2, ← (reads_body r' h'.1).2, h2]
end Go.Proofs.YteajidciahoboaaDoor.H
-- H12
set_option linter.unusedVariables false
set_option linter.unusedSimpArgs false
namespace Go.Proofs.YteajidciahoboaaDoor.H
open Go.RowKit Go.Shelf Go.Proofs.YteajidciahoboaaDoorW.PrintWords Go.Proofs.YteajidciahoboaaDoorW.PrintLast Go.Proofs.YteajidciahoboaaDoorW.PrintMore Go.Proofs.YteajidciahoboaaDoor.M
attribute [local go_sem] Oper.semAt_some

/-- What the reference's opening holds of its receipt. -/
structure RefSt (w2 W : World) (y0 y1 y2 y3 : Value) : Prop where
  below : Below w2.heap.size w2 W
  b3 : W.heap[w2.heap.size]? = some (.cells #[y0, y1, y2, y3] 23 (0, 0))
theorem RefSt.drew {w2 W : World} {y0 y1 y2 y3 : Value} (h : RefSt w2 W y0 y1 y2 y3) (n : Nat) : RefSt w2 (W.drewN n) y0 y1 y2 y3 := ⟨pw_below_drewN h.below _, h.b3⟩
theorem RefSt.put {w2 W : World} {y0 y1 y2 y3 : Value} (h : RefSt w2 W y0 y1 y2 y3) (i : Nat) (v z0 z1 z2 z3 : Value) (hz : (#[y0, y1, y2, y3] : Array Value).setIfInBounds i v = #[z0, z1, z2, z3]) :
    RefSt w2 (W.setCell ⟨w2.heap.size, i, none⟩ v) z0 z1 z2 z3 :=
  ⟨h.below.setCell (p := ⟨w2.heap.size, i, none⟩) (Nat.le_refl _) _, by rw [← hz]; exact blk_set h.b3 i _⟩
end Go.Proofs.YteajidciahoboaaDoor.H
-- P12
set_option linter.unusedVariables false
set_option linter.unusedSimpArgs false
namespace Go.Proofs.YteajidciahoboaaDoor.H
open Go.RowKit Go.Shelf Go.Proofs.YteajidciahoboaaDoorW.PrintWords Go.Proofs.YteajidciahoboaaDoorW.PrintLast Go.Proofs.YteajidciahoboaaDoorW.PrintMore Go.Proofs.YteajidciahoboaaDoor.M

theorem handle_isHandle {cs : List Int} {r : Rc} (hb : isBytes cs) (h : handleOf r = (strOfNums cs, 0)) : IsHandle cs r := by
  unfold handleOf at h
  split at h
  case isFalse => have h2 := congrArg Prod.snd h; simp at h2
  split at h
  case isFalse => have h2 := congrArg Prod.snd h; simp at h2
  rename_i h1 h2
  simp only [Prod.mk.injEq, and_true] at h
  exact ⟨⟨h1.1, h1.2.1, h1.2.2, h2⟩, (strOf_inj (encode_bytes _) hb h).symm⟩
end Go.Proofs.YteajidciahoboaaDoor.H
-- H13
set_option linter.unusedVariables false
set_option linter.unusedSimpArgs false
namespace Go.Proofs.YteajidciahoboaaDoor.H
open Go.RowKit Go.Shelf Go.Proofs.YteajidciahoboaaDoorW.PrintWords Go.Proofs.YteajidciahoboaaDoorW.PrintLast Go.Proofs.YteajidciahoboaaDoorW.PrintMore Go.Proofs.YteajidciahoboaaDoor.M
attribute [local go_sem] Oper.semAt_some

/-- Only these signs, and from so many to so many of them. -/
def onlyOf (all : List UInt8) (s : ByteArray) (lo hi : Nat) : Bool := decide (lo ≤ s.size ∧ s.size ≤ hi) && s.data.toList.all fun b => decide (0 ≤ Lib.indexByte all b)

set_option maxHeartbeats 4000000 in
set_option maxRecDepth 100000 in
theorem only_any (s : ByteArray) (lo hi g c : Nat) (xs : List ByteArray) (all : List UInt8) (w : World) (hall : Lib.join (xs.map (·.data.toList)) [] = all) (hal : all.length ≤ 1000) (hs : s.size ≤ 1000000) (hlo : lo ≤ 1000) (hhi : hi ≤ 1000)
    (hcells : ∀ (j : Nat) x, xs[j]? = some x → w.cell? ⟨g, 0 + j, none⟩ = some (.string x)) (hbk : g < w.heap.size) (hN : xs.length ≤ 100) (hcap : xs.length ≤ c) :
    Calls Tryd.prog 86 #[.string s, .int .i64 lo, .int .i64 hi, .slice (some ⟨g, 0, none⟩) xs.length c] w fun e w' => e = .returned (.bool (onlyOf all s lo hi)) ∧ Below w.heap.size w w' := by
  have J := Tryd.strings_Join g 0 c xs ⟨#[]⟩ w hcells hbk (by omega) hcap (by rw [show (⟨#[]⟩ : ByteArray).data.toList = [] from rfl, hall]; omega)
  rw [show (⟨#[]⟩ : ByteArray).data.toList = [] from rfl, hall] at J
  clear hcells hall
  obtain ⟨res, hres⟩ : ∃ res, onlyOf all s lo hi = res := ⟨_, rfl⟩
  rw [hres]
  have HRES := Aside0.mk hres
  clear hres
  by_cases h1 : s.size < lo
  · have h1' : decide ((s.size : Int) < (lo : Int)) = true := decide_eq_true (by omega)
    go_enter Tryd.func86, Tryd.ntmps86
    go_wp2_with (go_at_call 75; refine J.mono ?_; rintro e w1 ⟨rfl, hb1⟩)
    go_ret
    exact ⟨by rw [← HRES.out]; unfold onlyOf; rw [decide_eq_false (by omega)]; rfl, hb1⟩
  have h1' : decide ((s.size : Int) < (lo : Int)) = false := decide_eq_false (by omega)
  by_cases h2 : hi < s.size
  · have h2' : decide ((hi : Int) < (s.size : Int)) = true := decide_eq_true (by omega)
    go_enter Tryd.func86, Tryd.ntmps86
    go_wp2_with (go_at_call 75; refine J.mono ?_; rintro e w1 ⟨rfl, hb1⟩)
    go_ret
    exact ⟨by rw [← HRES.out]; unfold onlyOf; rw [decide_eq_false (by omega)]; rfl, hb1⟩
  have h2' : decide ((hi : Int) < (s.size : Int)) = false := decide_eq_false (by omega)
  go_enter Tryd.func86, Tryd.ntmps86
  go_wp2_with (go_at_call 75; refine J.mono ?_; rintro e w1 ⟨rfl, hb1⟩; have HB1 := Aside0.mk hb1; clear hb1 J)
  go_loop [25] (fun i => ∃ k : Nat, k ≤ s.size ∧ i = .int .i64 k ∧ Aside0 (∀ j b, j < k → s.data.toList[j]? = some b → 0 ≤ Lib.indexByte all b)) (fun i => s.size - (intOf i).toNat)
  case atStart => exact ⟨0, Nat.zero_le _, rfl, ⟨fun j b h => absurd h (Nat.not_lt_zero j)⟩⟩
  case round =>
    obtain ⟨k, hk, rfl, HK⟩ := hrel
    by_cases hlt : k < s.size
    · obtain ⟨x, hx⟩ : ∃ x : UInt8, s[k]'hlt = x := ⟨_, rfl⟩
      have hxl : s.data.toList[k]? = some x := by rw [← hx]; exact Lib.data_getElem? s k hlt
      have hix : ∀ W, (Instr.index 9 (.string s) (.int .i64 (k : Int))).run Tryd.prog W = .ok (.int .u8 (x.toNat : Int)) W := fun W => by
        rw [run_index_string W _ _ _ _ Tryd.underlying9, dif_pos ⟨by omega, by omega⟩]
        simp only [Int.toNat_natCast, hx]
      have I := fun W => Tryd.strings_IndexByte ⟨all.toArray⟩ (x.toNat : Int) W
      have hxx : (x.toNat : Int).toNat.toUInt8 = x := by simp
      rw [hxx, show (⟨all.toArray⟩ : ByteArray).data.toList = all by simp] at I
      have HXL := Aside0.mk hxl
      clear hxl hx hxx
      obtain ⟨idx, hidx⟩ : ∃ i, Lib.indexByte all x = i := ⟨_, rfl⟩
      rw [hidx] at I
      have HI := Aside0.mk hidx
      clear hidx
      by_cases hneg : idx < 0
      · go_wp2_with (go_at_call 101; refine (I _).mono ?_; rintro e w' ⟨rfl, hw'⟩; rw [hw']; clear hw')
        go_ret
        refine ⟨?_, HB1.out⟩
        rw [← HRES.out]
        unfold onlyOf
        have : (s.data.toList.all fun b => decide (0 ≤ Lib.indexByte all b)) = false := List.all_eq_false.2 ⟨x, List.mem_of_getElem? HXL.out, by rw [HI.out]; simp; omega⟩
        rw [this, Bool.and_false]
        rfl
      · go_wp2_with (go_at_call 101; refine (I _).mono ?_; rintro e w' ⟨rfl, hw'⟩; rw [hw']; clear hw')
        go_round
        case rel =>
          refine ⟨k + 1, by omega, by go_num, ⟨fun j b hj hb => ?_⟩⟩
          rcases Nat.lt_or_ge j k with h | h
          · exact HK.out j b h hb
          · have : j = k := by omega
            subst this
            rw [HXL.out] at hb
            obtain rfl := Option.some.inj hb
            rw [HI.out]
            omega
        case measure => simp [intOf]; omega
    · go_wp2
      go_ret
      refine ⟨?_, HB1.out⟩
      rw [← HRES.out]
      unfold onlyOf
      have : (s.data.toList.all fun b => decide (0 ≤ Lib.indexByte all b)) = true := List.all_eq_true.2 fun b hb => by
        obtain ⟨j, hj, he⟩ := List.getElem_of_mem hb
        refine decide_eq_true (HK.out j b ?_ (by rw [List.getElem?_eq_getElem hj, he]))
        have : s.data.toList.length = s.size := Array.length_toList
        omega
      rw [this, Bool.and_true, decide_eq_true (by omega)]
      rfl
end Go.Proofs.YteajidciahoboaaDoor.H
-- H14
set_option linter.unusedVariables false
set_option linter.unusedSimpArgs false
namespace Go.Proofs.YteajidciahoboaaDoor.H
open Go.RowKit Go.Shelf Go.Proofs.YteajidciahoboaaDoorW.PrintWords Go.Proofs.YteajidciahoboaaDoorW.PrintLast Go.Proofs.YteajidciahoboaaDoorW.PrintMore Go.Proofs.YteajidciahoboaaDoor.M
attribute [local go_sem] Oper.semAt_some

def hostSigns : List UInt8 := #[97, 98, 99, 100, 101, 102, 103, 104, 105, 106, 107, 108, 109, 110, 111, 112, 113, 114, 115, 116, 117, 118, 119, 120, 121, 122, 48, 49, 50, 51, 52, 53, 54, 55, 56, 57, 45, 46].toList
set_option maxHeartbeats 4000000 in
set_option maxRecDepth 100000 in
theorem host_any (s : ByteArray) (w : World) (hs : s.size ≤ 1000000) :
    Calls Tryd.prog 64 #[.string s] w fun e w' => e = .returned (.bool (onlyOf hostSigns s 1 63)) ∧ Below w.heap.size w w' := by
  have O := only_any s 1 63 w.heap.size 3 [⟨#[97, 98, 99, 100, 101, 102, 103, 104, 105, 106, 107, 108, 109, 110, 111, 112, 113, 114, 115, 116, 117, 118, 119, 120, 121, 122]⟩, ⟨#[48, 49, 50, 51, 52, 53, 54, 55, 56, 57]⟩, ⟨#[45, 46]⟩] hostSigns (w.alloc (.cells #[.string ⟨#[97, 98, 99, 100, 101, 102, 103, 104, 105, 106, 107, 108, 109, 110, 111, 112, 113, 114, 115, 116, 117, 118, 119, 120, 121, 122]⟩, .string ⟨#[48, 49, 50, 51, 52, 53, 54, 55, 56, 57]⟩, .string ⟨#[45, 46]⟩] 9)) rfl (by decide) hs (by decide) (by decide)
    (fun j x hj => by
      rw [World.cell?_alloc_new]
      match j, hj with
      | 0, hj => cases hj; rfl
      | 1, hj => cases hj; rfl
      | 2, hj => cases hj; rfl
      | n + 3, hj => simp at hj) (by simp) (by decide) (Nat.le_refl _)
  go_enter Tryd.func64, Tryd.ntmps64
  go_wp2_with (go_at_call 86; refine O.mono ?_; rintro e w1 ⟨rfl, hb1⟩)
  go_ret
  exact ⟨rfl, below_step (below_alloc (Below.refl _ _) _) hb1⟩

def accountSigns : List UInt8 := #[48, 49, 50, 51, 52, 53, 54, 55, 56, 57].toList
set_option maxHeartbeats 4000000 in
set_option maxRecDepth 100000 in
theorem account_any (s : ByteArray) (w : World) (hs : s.size ≤ 1000000) :
    Calls Tryd.prog 65 #[.string s] w fun e w' => e = .returned (.bool (onlyOf accountSigns s 12 12)) ∧ Below w.heap.size w w' := by
  have O := only_any s 12 12 w.heap.size 1 [⟨#[48, 49, 50, 51, 52, 53, 54, 55, 56, 57]⟩] accountSigns (w.alloc (.cells #[.string ⟨#[48, 49, 50, 51, 52, 53, 54, 55, 56, 57]⟩] 9)) rfl (by decide) hs (by decide) (by decide)
    (fun j x hj => by
      rw [World.cell?_alloc_new]
      match j, hj with
      | 0, hj => cases hj; rfl
      | n + 1, hj => simp at hj) (by simp) (by decide) (Nat.le_refl _)
  go_enter Tryd.func65, Tryd.ntmps65
  go_wp2_with (go_at_call 86; refine O.mono ?_; rintro e w1 ⟨rfl, hb1⟩)
  go_ret
  exact ⟨rfl, below_step (below_alloc (Below.refl _ _) _) hb1⟩
def queueSigns : List UInt8 := #[97, 98, 99, 100, 101, 102, 103, 104, 105, 106, 107, 108, 109, 110, 111, 112, 113, 114, 115, 116, 117, 118, 119, 120, 121, 122, 65, 66, 67, 68, 69, 70, 71, 72, 73, 74, 75, 76, 77, 78, 79, 80, 81, 82, 83, 84, 85, 86, 87, 88, 89, 90, 48, 49, 50, 51, 52, 53, 54, 55, 56, 57, 45, 95].toList
def fifoEnd : List UInt8 := #[46, 102, 105, 102, 111].toList
def stemOf (s : ByteArray) : ByteArray := ⟨(Lib.trimSuffix s.data.toList fifoEnd).toArray⟩
def queueOf (s : ByteArray) : Bool := Lib.hasSuffix s.data.toList fifoEnd && (decide (s.size ≤ 80) && onlyOf queueSigns (stemOf s) 6 75)
set_option maxHeartbeats 4000000 in
set_option maxRecDepth 100000 in
theorem queue_any (s : ByteArray) (w : World) (hs : s.size ≤ 1000000) :
    Calls Tryd.prog 66 #[.string s] w fun e w' => e = .returned (.bool (queueOf s)) ∧ Below w.heap.size w w' := by
  have hst : (stemOf s).size ≤ 1000000 := by
    have h1 : (stemOf s).size = (Lib.trimSuffix s.data.toList fifoEnd).length := by unfold stemOf; show Array.size _ = _; simp
    have h2 : s.data.toList.length = s.size := Array.length_toList
    have h3 : (Lib.trimSuffix s.data.toList fifoEnd).length ≤ s.data.toList.length := by unfold Lib.trimSuffix; split <;> simp
    omega
  have O := only_any (stemOf s) 6 75 w.heap.size 4 [⟨#[97, 98, 99, 100, 101, 102, 103, 104, 105, 106, 107, 108, 109, 110, 111, 112, 113, 114, 115, 116, 117, 118, 119, 120, 121, 122]⟩, ⟨#[65, 66, 67, 68, 69, 70, 71, 72, 73, 74, 75, 76, 77, 78, 79, 80, 81, 82, 83, 84, 85, 86, 87, 88, 89, 90]⟩, ⟨#[48, 49, 50, 51, 52, 53, 54, 55, 56, 57]⟩, ⟨#[45, 95]⟩] queueSigns (w.alloc (.cells #[.string ⟨#[97, 98, 99, 100, 101, 102, 103, 104, 105, 106, 107, 108, 109, 110, 111, 112, 113, 114, 115, 116, 117, 118, 119, 120, 121, 122]⟩, .string ⟨#[65, 66, 67, 68, 69, 70, 71, 72, 73, 74, 75, 76, 77, 78, 79, 80, 81, 82, 83, 84, 85, 86, 87, 88, 89, 90]⟩, .string ⟨#[48, 49, 50, 51, 52, 53, 54, 55, 56, 57]⟩, .string ⟨#[45, 95]⟩] 9)) rfl (by decide) hst (by decide) (by decide)
    (fun j x hj => by
      rw [World.cell?_alloc_new]
      match j, hj with
      | 0, hj => cases hj; rfl
      | 1, hj => cases hj; rfl
      | 2, hj => cases hj; rfl
      | 3, hj => cases hj; rfl
      | n + 4, hj => simp at hj) (by simp) (by decide) (Nat.le_refl _)
  have C := Tryd.strings_CutSuffix s ⟨#[46, 102, 105, 102, 111]⟩ w (by omega)
  obtain ⟨hsf, hhsf⟩ : ∃ b, Lib.hasSuffix s.data.toList fifoEnd = b := ⟨_, rfl⟩
  obtain ⟨stem, hstem⟩ : ∃ b, stemOf s = b := ⟨_, rfl⟩
  obtain ⟨ok, hok⟩ : ∃ b, onlyOf queueSigns stem 6 75 = b := ⟨_, rfl⟩
  have C' : Calls Tryd.prog 87 #[.string s, .string ⟨#[46, 102, 105, 102, 111]⟩] w fun e w' => e = .returned (.tuple #[.string stem, .bool hsf]) ∧ w' = w := by rw [← hstem, ← hhsf]; exact C
  rw [hstem, hok] at O
  have hq : queueOf s = (hsf && (decide (s.size ≤ 80) && ok)) := by unfold queueOf; rw [hhsf, hstem, hok]
  rw [hq]
  clear C hq hhsf hstem hok hst
  cases hsf with
  | false =>
    go_enter Tryd.func66, Tryd.ntmps66
    go_wp2_with (go_at_call 87; refine C'.mono ?_; rintro e w1 ⟨rfl, hw1⟩; rw [hw1]; clear hw1)
    go_ret
    exact ⟨rfl, Below.refl _ _⟩
  | true =>
    by_cases h80 : s.size ≤ 80
    · have h80' : decide ((s.size : Int) ≤ 80) = true := decide_eq_true (by omega)
      go_enter Tryd.func66, Tryd.ntmps66
      go_wp2_with (first
        | (go_at_call 87; refine C'.mono ?_; rintro e w1 ⟨rfl, hw1⟩; rw [hw1]; clear hw1)
        | (go_at_call 86; refine O.mono ?_; rintro e w2 ⟨rfl, hb2⟩; have HB2 := Aside0.mk (below_step (below_alloc (Below.refl _ _) _) hb2); clear hb2))
      go_ret
      refine ⟨?_, HB2.out⟩
      rw [decide_eq_true h80]
      rfl
    · have h80' : decide ((s.size : Int) ≤ 80) = false := decide_eq_false (by omega)
      go_enter Tryd.func66, Tryd.ntmps66
      go_wp2_with (go_at_call 87; refine C'.mono ?_; rintro e w1 ⟨rfl, hw1⟩; rw [hw1]; clear hw1)
      go_ret
      refine ⟨?_, Below.refl _ _⟩
      rw [decide_eq_false h80]
      rfl
end Go.Proofs.YteajidciahoboaaDoor.H
-- H15
set_option linter.unusedVariables false
set_option linter.unusedSimpArgs false
namespace Go.Proofs.YteajidciahoboaaDoor.H
open Go.RowKit Go.Shelf Go.Proofs.YteajidciahoboaaDoorW.PrintWords Go.Proofs.YteajidciahoboaaDoorW.PrintLast Go.Proofs.YteajidciahoboaaDoorW.PrintMore Go.Proofs.YteajidciahoboaaDoor.M
attribute [local go_sem] Oper.semAt_some

def urlOk (h a n : ByteArray) : Bool := onlyOf hostSigns h 1 63 && (onlyOf accountSigns a 12 12 && queueOf n)
def urlOf (h a n : ByteArray) : ByteArray := (⟨#[104, 116, 116, 112, 115, 58, 47, 47]⟩ : ByteArray) ++ h ++ (⟨#[47]⟩ : ByteArray) ++ a ++ (⟨#[47]⟩ : ByteArray) ++ n
set_option maxHeartbeats 4000000 in
set_option maxRecDepth 100000 in
theorem url_any (h a n : ByteArray) (w : World) (hh : h.size ≤ 1000000) (ha : a.size ≤ 1000000) (hn : n.size ≤ 1000000) :
    Calls Tryd.prog 36 #[.string h, .string a, .string n] w fun e w' => e = .returned (if urlOk h a n = true then .tuple #[.string (urlOf h a n), .int .i64 0] else .tuple #[.string ⟨#[]⟩, .int .i64 2]) ∧ Below w.heap.size w w' := by
  obtain ⟨x, hx⟩ : ∃ b, onlyOf hostSigns h 1 63 = b := ⟨_, rfl⟩
  obtain ⟨y, hy⟩ : ∃ b, onlyOf accountSigns a 12 12 = b := ⟨_, rfl⟩
  obtain ⟨z, hz⟩ : ∃ b, queueOf n = b := ⟨_, rfl⟩
  have hu : urlOk h a n = (x && (y && z)) := by unfold urlOk; rw [hx, hy, hz]
  rw [hu]
  have HX := Aside0.mk hx
  have HY := Aside0.mk hy
  have HZ := Aside0.mk hz
  clear hu hx hy hz
  rcases Bool.eq_false_or_eq_true x with hx | hx <;> subst hx
  · rcases Bool.eq_false_or_eq_true y with hy | hy <;> subst hy
    · rcases Bool.eq_false_or_eq_true z with hz | hz <;> subst hz
      · have s1 : 8 + h.size ≤ 9223372036854775807 := by omega
        go_enter Tryd.func36, Tryd.ntmps36
        go_wp2_with (first
    | (go_at_call 64; refine (host_any h w hh).mono ?_; rintro e w1 ⟨rfl, hb1⟩; rw [HX.out]; have HB1 := Aside0.mk hb1; have HB := HB1; clear hb1)
    | (go_at_call 65; refine (account_any a _ ha).mono ?_; rintro e w2 ⟨rfl, hb2⟩; rw [HY.out]; have HB2 := Aside0.mk (below_step HB1.out hb2); have HB := HB2; clear hb2)
    | (go_at_call 66; refine (queue_any n _ hn).mono ?_; rintro e w3 ⟨rfl, hb3⟩; rw [HZ.out]; have HB := Aside0.mk (below_step HB2.out hb3); clear hb3))
        all_goals first
          | (go_ret2; exact ⟨rfl, HB.out⟩)
          | (exfalso; rename_i hbig; simp only [ByteArray.size_append] at hbig; have e8 : (⟨#[104, 116, 116, 112, 115, 58, 47, 47]⟩ : ByteArray).size = 8 := rfl; have e1 : (⟨#[47]⟩ : ByteArray).size = 1 := rfl; rw [e8] at hbig; (try rw [e1] at hbig); omega)
      · go_enter Tryd.func36, Tryd.ntmps36
        go_wp2_with (first
    | (go_at_call 64; refine (host_any h w hh).mono ?_; rintro e w1 ⟨rfl, hb1⟩; rw [HX.out]; have HB1 := Aside0.mk hb1; have HB := HB1; clear hb1)
    | (go_at_call 65; refine (account_any a _ ha).mono ?_; rintro e w2 ⟨rfl, hb2⟩; rw [HY.out]; have HB2 := Aside0.mk (below_step HB1.out hb2); have HB := HB2; clear hb2)
    | (go_at_call 66; refine (queue_any n _ hn).mono ?_; rintro e w3 ⟨rfl, hb3⟩; rw [HZ.out]; have HB := Aside0.mk (below_step HB2.out hb3); clear hb3))
        go_ret2
        exact ⟨rfl, HB.out⟩
    · go_enter Tryd.func36, Tryd.ntmps36
      go_wp2_with (first
    | (go_at_call 64; refine (host_any h w hh).mono ?_; rintro e w1 ⟨rfl, hb1⟩; rw [HX.out]; have HB1 := Aside0.mk hb1; have HB := HB1; clear hb1)
    | (go_at_call 65; refine (account_any a _ ha).mono ?_; rintro e w2 ⟨rfl, hb2⟩; rw [HY.out]; have HB2 := Aside0.mk (below_step HB1.out hb2); have HB := HB2; clear hb2)
    | (go_at_call 66; refine (queue_any n _ hn).mono ?_; rintro e w3 ⟨rfl, hb3⟩; rw [HZ.out]; have HB := Aside0.mk (below_step HB2.out hb3); clear hb3))
      go_ret2
      exact ⟨rfl, HB.out⟩
  · go_enter Tryd.func36, Tryd.ntmps36
    go_wp2_with (first
    | (go_at_call 64; refine (host_any h w hh).mono ?_; rintro e w1 ⟨rfl, hb1⟩; rw [HX.out]; have HB1 := Aside0.mk hb1; have HB := HB1; clear hb1)
    | (go_at_call 65; refine (account_any a _ ha).mono ?_; rintro e w2 ⟨rfl, hb2⟩; rw [HY.out]; have HB2 := Aside0.mk (below_step HB1.out hb2); have HB := HB2; clear hb2)
    | (go_at_call 66; refine (queue_any n _ hn).mono ?_; rintro e w3 ⟨rfl, hb3⟩; rw [HZ.out]; have HB := Aside0.mk (below_step HB2.out hb3); clear hb3))
    go_ret2
    exact ⟨rfl, HB.out⟩
end Go.Proofs.YteajidciahoboaaDoor.H
-- H16
set_option linter.unusedVariables false
set_option linter.unusedSimpArgs false
namespace Go.Proofs.YteajidciahoboaaDoor.H
open Go.RowKit Go.Shelf Go.Proofs.YteajidciahoboaaDoorW.PrintWords Go.Proofs.YteajidciahoboaaDoorW.PrintLast Go.Proofs.YteajidciahoboaaDoorW.PrintMore Go.Proofs.YteajidciahoboaaDoor.M
attribute [local go_sem] Oper.semAt_some

/-- A number's digits. -/
def decs (n : Nat) : List Int := if n < 10 then [((48 + n : Nat) : Int)] else decs (n / 10) ++ [((48 + n % 10 : Nat) : Int)]
theorem decs_len (k : Nat) : ∀ n : Nat, n < 10 ^ (k + 1) → (decs n).length ≤ k + 1 := by
  induction k with
  | zero => intro n h; rw [decs, if_pos (by simpa using h)]; simp
  | succ k ih =>
    intro n h
    rw [decs]
    split
    · simp
    · have : n / 10 < 10 ^ (k + 1) := by rw [Nat.div_lt_iff_lt_mul (by decide)]; rw [Nat.pow_succ] at h; exact h
      have := ih _ this
      simp only [List.length_append, List.length_cons, List.length_nil]
      omega

set_option maxHeartbeats 8000000 in
set_option maxRecDepth 100000 in
theorem itoa_pos (n : Nat) (w : World) (hn : n < 9223372036854775808) :
    Calls Tryd.prog 42 #[.int .i64 n] w fun e w' => e = .returned (.string (strOfNums (decs n))) ∧ Below w.heap.size w w' := by
  go_enter Tryd.func42, Tryd.ntmps42
  go_wp2
  go_loopw [4, 5] (fun at_ x wr => ∃ (k m : Nat) (sf : List Int), at_ = .int .i64 k ∧ x = .int .u64 m ∧ k + sf.length = 20 ∧ Aside0 (decs n = decs m ++ sf) ∧ (sf = [] ∨ 0 < m) ∧ m < 9223372036854775808 ∧ Aside0 (wr.heap[w.heap.size]? = some (.cells (nums .u8 (List.replicate k 0 ++ sf)).toArray 116 (0, 0))) ∧ Aside0 (Below w.heap.size w wr)) (fun at_ _ _ => (intOf at_).toNat)
  case atStart => exact ⟨20, n, [], rfl, rfl, rfl, ⟨by simp⟩, .inl rfl, hn, ⟨heap_new _ _⟩, ⟨below_alloc (Below.refl _ _) _⟩⟩
  case round =>
    obtain ⟨k, m, sf, rfl, rfl, hk, HE, hm0, hm, HH, HB⟩ := hrel
    have hpos : 1 ≤ k := by
      have h1 := decs_len 18 n (by omega)
      rw [HE.out, List.length_append] at h1
      have h2 : 1 ≤ (decs m).length := by rw [decs]; split <;> simp
      omega
    obtain ⟨j, rfl⟩ : ∃ j, k = j + 1 := ⟨k - 1, by omega⟩
    have hc : wr.cell? ⟨w.heap.size, j, none⟩ = some (.int .u8 0) := by
      rw [Lib.cell_of_heap HH.out]
      simp [nums, List.getElem?_append_left, List.getElem?_replicate]
    have hf : wr.frozen? ⟨w.heap.size, j, none⟩ = false := Lib.frozen_of_heap HH.out j
    have hj : (j : Int) < 20 := by omega
    have hj0 : (0 : Int) ≤ (j : Int) := by omega
    have hh2 : (wr.setCell ⟨w.heap.size, j, none⟩ (.int .u8 (48 + (m : Int) % 10))).heap[w.heap.size]? = some (.cells (nums .u8 (List.replicate j 0 ++ (48 + (m : Int) % 10) :: sf)).toArray 116 (0, 0)) := by
      have := blk_set HH.out j (.int .u8 (48 + (m : Int) % 10))
      rw [this]
      congr 2
      simp [nums, List.replicate_succ']
    have hb2 : Below w.heap.size w (wr.setCell ⟨w.heap.size, j, none⟩ (.int .u8 (48 + (m : Int) % 10))) := HB.out.setCell (p := ⟨w.heap.size, j, none⟩) (Nat.le_refl _) _
    have HH2 := Aside0.mk hh2
    have HB2 := Aside0.mk hb2
    clear hh2 hb2
    by_cases hlast : m < 10
    · have hz : ((m : Int) / 10 == 0) = true := by rw [beq_iff_eq]; omega
      have hjn : ¬ 20 = j := by omega
      have hj20 : (j : Int) ≤ 20 := by omega
      have hd : (48 + (m : Int) % 10) :: sf = decs n := by
        rw [HE.out, decs, if_pos hlast]
        simp only [List.cons_append, List.nil_append, List.cons.injEq, and_true]
        omega
      have hcv := string_of_reads (P := Tryd.prog) (w := wr.setCell ⟨w.heap.size, j, none⟩ (.int .u8 (48 + (m : Int) % 10))) (A := some ⟨w.heap.size, j, none⟩) (n := 20 - j) (c := 20 - j) (xs := (48 + (m : Int) % 10) :: sf) Tryd.underlying36 Tryd.underlying5 Tryd.underlying9
        ⟨by simp; omega, by omega, fun _ => ⟨_, rfl, fun i hi => by
          rw [show (⟨w.heap.size, j, none⟩ : Addr).add i = ⟨w.heap.size, j + i, none⟩ from by simp [Addr.add]]
          have hl : i < ((48 + (m : Int) % 10) :: sf).length := by simp; omega
          rw [Lib.cell_of_heap HH2.out]
          simp only [nums, List.getElem?_toArray, List.getElem?_map]
          rw [List.getElem?_append_right (by simp), List.length_replicate, Nat.add_sub_cancel_left, List.getElem?_eq_getElem hl, List.getD_eq_getElem?_getD, List.getElem?_eq_getElem hl]
          rfl⟩⟩
      rw [hd] at hcv
      go_wp2
      go_ret
      exact ⟨rfl, HB2.out⟩
    · have hz : ((m : Int) / 10 == 0) = false := by rw [beq_eq_false_iff_ne]; omega
      go_wp2
      go_roundw
      case rel =>
        refine ⟨j, m / 10, (48 + (m : Int) % 10) :: sf, rfl, by go_num, by simp; omega, ⟨?_⟩, .inr (by omega), by omega, HH2, HB2⟩
        rw [HE.out]
        conv => lhs; rw [decs, if_neg hlast]
        simp
      case measure => simp [intOf]
end Go.Proofs.YteajidciahoboaaDoor.H
-- H17
set_option linter.unusedVariables false
set_option linter.unusedSimpArgs false
namespace Go.Proofs.YteajidciahoboaaDoor.H
open Go.RowKit Go.Shelf Go.Proofs.YteajidciahoboaaDoorW.PrintWords Go.Proofs.YteajidciahoboaaDoorW.PrintLast Go.Proofs.YteajidciahoboaaDoorW.PrintMore Go.Proofs.YteajidciahoboaaDoor.M
attribute [local go_sem] Oper.semAt_some
attribute [local go_sem] max2_int min2_int max_two min_two max_three min_three max_four min_four

theorem repeat_any (c : Nat) (w : World) (hc : c ≤ 1000) : Calls Tryd.prog 80 #[.string ⟨#[48]⟩, .int .i64 c] w fun e w' => e = .returned (.string (strOfNums (List.replicate c 48))) ∧ Below w.heap.size w w' := by
  match c, hc with
  | 0, _ => exact (Tryd.strings_Repeat_zero _ w).mono (by rintro e w' ⟨rfl, rfl⟩; exact ⟨rfl, Below.refl _ _⟩)
  | 1, _ => exact (Tryd.strings_Repeat_one _ w).mono (by rintro e w' ⟨rfl, rfl⟩; exact ⟨rfl, Below.refl _ _⟩)
  | c + 2, hc =>
    refine (Tryd.strings_Repeat_main ⟨#[48]⟩ (c + 2) w (by omega) (by omega) (by show 1 * (c + 2) ≤ _; omega) (by decide)).mono ?_
    rintro e w' ⟨rfl, hb⟩
    refine ⟨?_, hb⟩
    have : ∀ n, Lib.repeatL (⟨#[48]⟩ : ByteArray).data.toList n = List.replicate n 48 := fun n => by
      induction n with
      | zero => rfl
      | succ n ih => simp [Lib.repeatL, List.replicate_succ] at ih ⊢; try exact ih
    rw [this]
    congr 2
    apply str_ext
    rw [strOf_data]
    simp
/-- A number with noughts ahead, twenty signs. -/
def pad20 (n : Nat) : List Int := List.replicate (20 - (decs n).length) 48 ++ decs n
set_option maxHeartbeats 4000000 in
set_option maxRecDepth 100000 in
theorem pad_pos (n : Nat) (w : World) (hn : n < 9223372036854775808) :
    Calls Tryd.prog 47 #[.int .i64 n, .int .i64 20] w fun e w' => e = .returned (.string (strOfNums (pad20 n))) ∧ Below w.heap.size w w' := by
  have hl := decs_len 18 n (by omega)
  have I := itoa_pos n w hn
  obtain ⟨c, hc⟩ : ∃ c, 20 - (decs n).length = c := ⟨_, rfl⟩
  have hp : strOfNums (pad20 n) = strOfNums (List.replicate c 48) ++ strOfNums (decs n) := by unfold pad20; rw [hc, strOfNums_append]
  rw [hp]
  have hsz : ((strOfNums (decs n)).size : Int) = 20 - (c : Int) := by rw [strOfNums_size]; omega
  have hr : (strOfNums (List.replicate c 48)).size = c := by rw [strOfNums_size]; simp
  obtain ⟨d, hd⟩ : ∃ d, strOfNums (decs n) = d := ⟨_, rfl⟩
  obtain ⟨r, hrr⟩ : ∃ r, strOfNums (List.replicate c 48) = r := ⟨_, rfl⟩
  have hcp : 0 < c := by omega
  have hc20 : c ≤ 20 := by omega
  have hdz : d.size ≤ 20 := by rw [← hd, strOfNums_size]; omega
  have R : ∀ W, Calls Tryd.prog 80 #[.string ⟨#[48]⟩, .int .i64 (c : Int)] W fun e w' => e = .returned (.string (strOfNums (List.replicate c 48))) ∧ Below W.heap.size W w' := fun W => repeat_any c W (by omega)
  rw [hd] at I hsz ⊢
  rw [hrr] at hr R ⊢
  have hw : IntKind.i64.wrap (20 - (d.size : Int)) = (c : Int) := by rw [hsz, IntKind.wrap_i64]; omega
  have HSZ := Aside0.mk hsz
  clear hp hd hrr hl hsz hc
  go_enter Tryd.func47, Tryd.ntmps47
  go_wp2_with (first
    | (go_at_call 42; refine I.mono ?_; rintro e w1 ⟨rfl, hb1⟩; have HB1 := Aside0.mk hb1; clear hb1)
    | (go_at_call 80; refine (R _).mono ?_; rintro e w2 ⟨rfl, hb2⟩; have HB2 := Aside0.mk (below_step HB1.out hb2); clear hb2))
  go_ret
  exact ⟨rfl, HB2.out⟩
end Go.Proofs.YteajidciahoboaaDoor.H
-- H18
set_option linter.unusedVariables false
set_option linter.unusedSimpArgs false
namespace Go.Proofs.YteajidciahoboaaDoor.H
open Go.RowKit Go.Shelf Go.Proofs.YteajidciahoboaaDoorW.PrintWords Go.Proofs.YteajidciahoboaaDoorW.PrintLast Go.Proofs.YteajidciahoboaaDoorW.PrintMore Go.Proofs.YteajidciahoboaaDoor.M
attribute [local go_sem] Oper.semAt_some

set_option maxHeartbeats 4000000 in
set_option maxRecDepth 100000 in
theorem sequence_pos (n : Nat) (w : World) (hn : n < 9223372036854775808) :
    Calls Tryd.prog 16 #[.int .i64 n] w fun e w' => e = .returned (.string (strOfNums (pad20 n))) ∧ Below w.heap.size w w' := by
  have I := pad_pos n w hn
  go_enter Tryd.func16, Tryd.ntmps16
  go_wp2_with (go_at_call 47; refine I.mono ?_; rintro e w1 ⟨rfl, hb1⟩; have HB1 := Aside0.mk hb1; clear hb1)
  go_ret
  exact ⟨rfl, HB1.out⟩

def exHost : ByteArray := ⟨#[115, 113, 115, 46, 108, 111, 99, 97, 108]⟩
def exAcc : ByteArray := ⟨#[49, 50, 51, 52, 53, 54, 55, 56, 57, 48, 49, 50]⟩
def exBad : ByteArray := ⟨#[97, 46, 102, 105, 102, 111]⟩
def exGood : ByteArray := ⟨#[111, 114, 100, 101, 114, 115, 46, 102, 105, 102, 111]⟩
theorem ex_bad : urlOk exHost exAcc exBad = false := by kernel_rfl
theorem ex_good : urlOk exHost exAcc exGood = true := by kernel_rfl
theorem ex_url : urlOf exHost exAcc exGood = ⟨#[104, 116, 116, 112, 115, 58, 47, 47, 115, 113, 115, 46, 108, 111, 99, 97, 108, 47, 49, 50, 51, 52, 53, 54, 55, 56, 57, 48, 49, 50, 47, 111, 114, 100, 101, 114, 115, 46, 102, 105, 102, 111]⟩ := by kernel_rfl
theorem ex_seq : strOfNums (pad20 7) = ⟨#[48, 48, 48, 48, 48, 48, 48, 48, 48, 48, 48, 48, 48, 48, 48, 48, 48, 48, 48, 55]⟩ := by
  have : decs 7 = [55] := by rw [decs, if_pos (by decide)]; rfl
  unfold pad20
  rw [this]
  rfl
set_option maxHeartbeats 4000000 in
set_option maxRecDepth 100000 in
theorem works_any (w : World) : Calls Tryd.prog 11 #[] w fun e w' => e = .returned (.bool true) ∧ Below w.heap.size w w' := by
  have U1 := fun W => url_any exHost exAcc exBad W (by decide) (by decide) (by decide)
  rw [if_neg (by rw [ex_bad]; decide)] at U1
  have U2 := fun W => url_any exHost exAcc exGood W (by decide) (by decide) (by decide)
  rw [if_pos ex_good, ex_url] at U2
  have S := fun W => sequence_pos 7 W (by decide)
  rw [ex_seq] at S
  unfold exHost exAcc exBad at U1
  unfold exHost exAcc exGood at U2
  go_enter Tryd.func11, Tryd.ntmps11
  go_wp2_with (first
    | (go_at_call 36; have _g := HB1.out; refine (U2 _).mono ?_; rintro e w2 ⟨rfl, hb2⟩; have HB2 := Aside0.mk (below_step HB1.out hb2); clear hb2)
    | (go_at_call 36; refine (U1 _).mono ?_; rintro e w1 ⟨rfl, hb1⟩; have HB1 := Aside0.mk hb1; clear hb1)
    | (go_at_call 16; refine (S _).mono ?_; rintro e w3 ⟨rfl, hb3⟩; have HB3 := Aside0.mk (below_step HB2.out hb3); clear hb3))
  go_ret
  exact ⟨rfl, HB3.out⟩
end Go.Proofs.YteajidciahoboaaDoor.H
-- Pzracewaylaw27few
-- PRINTED by print.py (a twelfth state) out of the translation. Not trusted: Lean checks it.
namespace Go.Proofs.YteajidciahoboaaDoor.P
open Go.RowKit Go.Proofs.YteajidciahoboaaDoorW.PrintWords Go.Proofs.YteajidciahoboaaDoorW.PrintLast Go.Proofs.YteajidciahoboaaDoorW.PrintMore
attribute [local go_sem] max2_int min2_int max_two min_two max_three min_three max_four min_four   -- for this text's walks alone
set_option linter.unusedVariables false
set_option linter.unusedSimpArgs false

/-! ### racewaylaw27_few: function 6 -/
def racewaylaw27_few.f (a0_0 : Int) (a0_1 : ByteArray) (a0_2 : Int) (a0_3 : Int) : Option (Int × ByteArray × Int × Int) := if 0 ≤ (mn (a0_1.size : Int) 60) then (if (mn (a0_1.size : Int) 60) ≤ (a0_1.size : Int) then (some (a0_0, a0_1.extract 0 ((mn (a0_1.size : Int) 60) : Int).toNat, a0_2, a0_3)) else (none)) else (none)
set_option maxHeartbeats 8000000 in
set_option maxRecDepth 100000 in
theorem racewaylaw27_few.calls (a0_0 : Int) (a0_1 : ByteArray) (a0_2 : Int) (a0_3 : Int) (r1 : Int) (r2 : ByteArray) (r3 : Int) (r4 : Int) (w : World) (h : racewaylaw27_few.f a0_0 a0_1 a0_2 a0_3 = some (r1, r2, r3, r4)) :
    Calls Tryd.prog 6 #[.agg #[.int .i64 a0_0, .string a0_1, .int .i64 a0_2, .int .i64 a0_3]] w fun e w' => e = .returned (.agg #[.int .i64 r1, .string r2, .int .i64 r3, .int .i64 r4]) ∧ Below w.heap.size w w' := by
  have hu23 := Tryd.underlying23
  have HB := Aside0.mk (Below.refl w.heap.size w)
  have H : (if 0 ≤ (mn (a0_1.size : Int) 60) then (if (mn (a0_1.size : Int) 60) ≤ (a0_1.size : Int) then (some (a0_0, a0_1.extract 0 ((mn (a0_1.size : Int) 60) : Int).toNat, a0_2, a0_3)) else (none)) else (none)) = some (r1, r2, r3, r4) := h
  clear h
  obtain ⟨ji2, hji2⟩ : ∃ j_ : Int, (mn (a0_1.size : Int) 60) = j_ := ⟨_, rfl⟩
  replace H : (if 0 ≤ (ji2) then (if (ji2) ≤ (a0_1.size : Int) then (some (a0_0, a0_1.extract 0 ((ji2) : Int).toNat, a0_2, a0_3)) else (none)) else (none)) = some (r1, r2, r3, r4) := by first | (rw [hji2] at H; exact H) | (simp only [hji2] at H ⊢; exact H)
  (try (have hji2h : ji2 ≤ 60 := by (rw [← hji2]; unfold mn; (repeat' split) <;> omega)))
  (try (have hji2g : ji2 ≤ 64 := by omega))
  (try (have hji2l : 0 ≤ ji2 := by (rw [← hji2]; unfold mn; (repeat' split) <;> omega)))
  (try (have hji2m : 0 ≤ ji2 := by omega))
  have hji2_ : (if 60 < (a0_1.size : Int) then 60 else (a0_1.size : Int)) = ji2 := hji2
  by_cases c3 : 0 ≤ (ji2)
  · rw [if_pos c3] at H
    have c3b0 := eq_true c3
    have c3b1 : decide (0 ≤ (ji2)) = true := decide_eq_true c3
    clear c3
    by_cases c4 : (ji2) ≤ (a0_1.size : Int)
    · rw [if_pos c4] at H
      have c4b0 := eq_true c4
      have c4b1 : decide ((ji2) ≤ (a0_1.size : Int)) = true := decide_eq_true c4
      clear c4
      simp only [Option.some.injEq, Prod.mk.injEq] at H
      obtain ⟨rfl, rfl, rfl, rfl⟩ := H
      go_enter Tryd.func6, Tryd.ntmps6
      go_wp2_with (first | ((with_reducible refine gate_dst (N := 1) rfl ?_); refine box_event ?hg (N := 1) ?hd (cs := #[.int .i64 a0_0, .string a0_1, .int .i64 a0_2, .int .i64 a0_3]) (t := 23) ?hr ?_; (case hd => rfl); (case hg => rfl); (case hr => first | (go_simp; done) | (go_simp; rfl)); intro gb101 hg w5 hbox hb; have n0_ := Aside0.mk (below_step (by repeat (first | (with_reducible first | exact HB.out | apply below_alloc | apply pw_below_drewN | apply below_drew1) | exact HB.out)) hb); have n1_ := Aside0.mk (hbox); have n2_ := Aside0.mk ((by rw [hg]; exact (below_size (by repeat (first | (with_reducible first | exact HB.out | apply below_alloc | apply pw_below_drewN | apply below_drew1) | exact HB.out))) : w.heap.size ≤ gb101)); have n3_ := Aside0.mk ((by rw [hg]; exact (below_size (by repeat (first | (with_reducible first | exact HB.out | apply below_alloc | apply pw_below_drewN | apply below_drew1) | exact HB.out))) : w.heap.size ≤ gb101)); clear HB; have HB := n0_; have BK101 := n1_; have GW101 := n2_; have GE101 := n3_; clear n0_ n1_ n2_ n3_; clear hb hbox hg) | ((with_reducible refine gate_dst (N := 2) rfl ?_); refine box_event ?hg (N := 2) ?hd (cs := #[.int .i64 0, .string (⟨#[]⟩ : ByteArray), .int .i64 0, .int .i64 0]) (t := 23) ?hr ?_; (case hd => rfl); (case hg => rfl); (case hr => first | (go_simp; done) | (go_simp; rfl)); intro gb102 hg w6 hbox hb; have n0_ := Aside0.mk (blk_below (g := gb101) (o := .cells #[.int .i64 a0_0, .string a0_1, .int .i64 a0_2, .int .i64 a0_3] 23 (0, 0)) (by (with_reducible repeat (first | refine blk_drewN ?_ _ | refine blk_drew ?_ | refine blk_alloc ?_ _)); exact BK101.out) hb); have n1_ := Aside0.mk (below_step (by repeat (first | (with_reducible first | exact HB.out | apply below_alloc | apply pw_below_drewN | apply below_drew1 | refine below_set ?_ GE101.out) | exact HB.out)) hb); have n2_ := Aside0.mk (hbox); have n3_ := Aside0.mk ((by rw [hg]; exact (below_size (by repeat (first | (with_reducible first | exact HB.out | apply below_alloc | apply pw_below_drewN | apply below_drew1 | refine below_set ?_ GE101.out) | exact HB.out))) : w.heap.size ≤ gb102)); have n4_ := Aside0.mk ((by rw [hg]; exact (below_size (by repeat (first | (with_reducible first | exact HB.out | apply below_alloc | apply pw_below_drewN | apply below_drew1 | refine below_set ?_ GE101.out) | exact HB.out))) : w.heap.size ≤ gb102)); have n5_ := Aside0.mk ((by rw [hg]; exact Nat.ne_of_lt (blk_lt (g := gb101) (o := .cells #[.int .i64 a0_0, .string a0_1, .int .i64 a0_2, .int .i64 a0_3] 23 (0, 0)) (by (with_reducible repeat (first | refine blk_drewN ?_ _ | refine blk_drew ?_ | refine blk_alloc ?_ _)); exact BK101.out)) : gb101 ≠ gb102)); have n6_ := Aside0.mk ((by rw [hg]; exact Nat.ne_of_gt (blk_lt (g := gb101) (o := .cells #[.int .i64 a0_0, .string a0_1, .int .i64 a0_2, .int .i64 a0_3] 23 (0, 0)) (by (with_reducible repeat (first | refine blk_drewN ?_ _ | refine blk_drew ?_ | refine blk_alloc ?_ _)); exact BK101.out)) : gb102 ≠ gb101)); clear BK101; clear HB; have BK101 := n0_; have HB := n1_; have BK102 := n2_; have GW102 := n3_; have GE102 := n4_; have NB101_102 := n5_; have NB102_101 := n6_; clear n0_ n1_ n2_ n3_ n4_ n5_ n6_; clear hb hbox hg; have hnb7 := NB101_102.out; have hnc7 := NB102_101.out; have hcz8_0 : w6.cell? ⟨gb101, 0, none⟩ = some (.int .i64 a0_0) := (blk_cell BK101.out 0).trans rfl; have hcz8_1 : w6.cell? ⟨gb101, 1, none⟩ = some (.string a0_1) := (blk_cell BK101.out 1).trans rfl; have hcz8_2 : w6.cell? ⟨gb101, 2, none⟩ = some (.int .i64 a0_2) := (blk_cell BK101.out 2).trans rfl; have hcz8_3 : w6.cell? ⟨gb101, 3, none⟩ = some (.int .i64 a0_3) := (blk_cell BK101.out 3).trans rfl; have hfz8_0 := blk_frozen BK101.out 0; have hfz8_1 := blk_frozen BK101.out 1; have hfz8_2 := blk_frozen BK101.out 2; have hfz8_3 := blk_frozen BK101.out 3; have hcz9_0 : w6.cell? ⟨gb102, 0, none⟩ = some (.int .i64 0) := (blk_cell BK102.out 0).trans rfl; have hcz9_1 : w6.cell? ⟨gb102, 1, none⟩ = some (.string (⟨#[]⟩ : ByteArray)) := (blk_cell BK102.out 1).trans rfl; have hcz9_2 : w6.cell? ⟨gb102, 2, none⟩ = some (.int .i64 0) := (blk_cell BK102.out 2).trans rfl; have hcz9_3 : w6.cell? ⟨gb102, 3, none⟩ = some (.int .i64 0) := (blk_cell BK102.out 3).trans rfl; have hfz9_0 := blk_frozen BK102.out 0; have hfz9_1 := blk_frozen BK102.out 1; have hfz9_2 := blk_frozen BK102.out 2; have hfz9_3 := blk_frozen BK102.out 3))
      refine bodyPost_ret (results_cell_row rfl _ _ gb102 23 #[.int .i64 a0_0, .string (a0_1.extract 0 ((ji2) : Int).toNat), .int .i64 a0_2, .int .i64 a0_3] (0, 0) _ rfl (by (with_reducible repeat (first | refine blk_drewN ?_ _ | refine blk_drew ?_ | refine blk_alloc ?_ _)); refine blk_put (cs := #[.int .i64 a0_0, .string (a0_1.extract 0 ((ji2) : Int).toNat), .int .i64 a0_2, .int .i64 0]) ?_ 3 _ rfl; (with_reducible repeat (first | refine blk_drewN ?_ _ | refine blk_drew ?_ | refine blk_alloc ?_ _)); refine blk_put (cs := #[.int .i64 a0_0, .string (a0_1.extract 0 ((ji2) : Int).toNat), .int .i64 0, .int .i64 0]) ?_ 2 _ rfl; (with_reducible repeat (first | refine blk_drewN ?_ _ | refine blk_drew ?_ | refine blk_alloc ?_ _)); refine blk_put (cs := #[.int .i64 a0_0, .string (⟨#[]⟩ : ByteArray), .int .i64 0, .int .i64 0]) ?_ 1 _ rfl; (with_reducible repeat (first | refine blk_drewN ?_ _ | refine blk_drew ?_ | refine blk_alloc ?_ _)); refine blk_put (cs := #[.int .i64 0, .string (⟨#[]⟩ : ByteArray), .int .i64 0, .int .i64 0]) ?_ 0 _ rfl; (with_reducible repeat (first | refine blk_drewN ?_ _ | refine blk_drew ?_ | refine blk_alloc ?_ _)); refine blk_far ?_ NB102_101.out _; (with_reducible repeat (first | refine blk_drewN ?_ _ | refine blk_drew ?_ | refine blk_alloc ?_ _)); exact BK102.out) Tryd.underlying23 rfl (by kernel_rfl)) rfl ?_
      exact ⟨by first | rfl | (simp [errW_none, errW_some] <;> rfl) | (simp only [← hji2]; first | rfl | (simp [errW_none, errW_some] <;> rfl)) | (simp [*, errW_none, errW_some] <;> rfl), by repeat (first | (with_reducible first | exact HB.out | apply below_alloc | apply pw_below_drewN | apply below_drew1 | refine below_set ?_ GE101.out | refine below_set ?_ GE102.out) | exact HB.out)⟩
    · rw [if_neg c4] at H
      exact absurd H (by simp)
  · rw [if_neg c3] at H
    exact absurd H (by simp)

end Go.Proofs.YteajidciahoboaaDoor.P
-- L1
set_option linter.unusedVariables false
set_option linter.unusedSimpArgs false
namespace Go.Proofs.YteajidciahoboaaDoor.H
open Go.RowKit Go.Shelf Go.Proofs.YteajidciahoboaaDoorW.PrintWords Go.Proofs.YteajidciahoboaaDoorW.PrintLast Go.Proofs.YteajidciahoboaaDoorW.PrintMore Go.Proofs.YteajidciahoboaaDoor.M

/-- A text's first signs, as the law cuts it. -/
def firstOf (s : ByteArray) (n : Int) : ByteArray := s.extract 0 (mn (s.size : Int) n).toNat
theorem mn_ok (s : ByteArray) (n : Int) (hn : 0 ≤ n) : 0 ≤ mn (s.size : Int) n ∧ mn (s.size : Int) n ≤ (s.size : Int) ∧ mn (s.size : Int) n ≤ n := by unfold mn; omega
theorem few_eq (q : Int) (g : ByteArray) (s c : Int) : P.racewaylaw27_few.f q g s c = some (q, firstOf g 60, s, c) := by
  have := mn_ok g 60 (by decide)
  unfold P.racewaylaw27_few.f
  rw [if_pos this.1, if_pos this.2.1]
  rfl
open Classical in
/-- The receipt whose handle a text is. -/
noncomputable def openOf (s : ByteArray) : Option Rc := if h : ∃ r, IsHandle (bytesOf s) r then some (Classical.choose h) else none
theorem openOf_some {s : ByteArray} {r : Rc} (h : IsHandle (bytesOf s) r) : openOf s = some r := by
  unfold openOf
  have he : ∃ r, IsHandle (bytesOf s) r := ⟨r, h⟩
  rw [dif_pos he]
  exact congrArg some (handle_unique (Classical.choose_spec he) h)
theorem openOf_none {s : ByteArray} (h : ∀ r, ¬ IsHandle (bytesOf s) r) : openOf s = none := by
  unfold openOf
  rw [dif_neg (fun he => h _ he.choose_spec)]
theorem openOf_isHandle {s : ByteArray} {r : Rc} (h : openOf s = some r) : IsHandle (bytesOf s) r := by
  unfold openOf at h
  split at h
  · rename_i he
    rw [← Option.some.inj h]
    exact he.choose_spec
  · cases h
theorem open_any (s : ByteArray) (hs : s.size ≤ 131072) (w : World) (hT : HalfAt w) :
    Calls Tryd.prog 9 #[.string s] w fun en w' => en = .returned (answer (openOf s)) ∧ Below w.heap.size w w' := by
  rcases prog_open (bytesOf s) (bytesOf_bytes s) (by rw [bytesOf_length]; exact hs) with ⟨r, hr, hc⟩ | ⟨hno, hc⟩
  · rw [openOf_some hr]
    have := hc w hT
    rwa [strOf_bytesOf] at this
  · rw [openOf_none hno]
    have := hc w hT
    rwa [strOf_bytesOf] at this
/-- What is told of an opened text: the receipt's parts, and the error. -/
noncomputable def told (s : ByteArray) : Int × ByteArray × Int × Int × Int := match openOf s with
  | some r => (r.q, r.g, r.s, r.c, 0)
  | none => (0, ⟨#[]⟩, 0, 0, 12)
theorem told_answer (s : ByteArray) : answer (openOf s) = .tuple #[.agg #[.int .i64 (told s).1, .string (told s).2.1, .int .i64 (told s).2.2.1, .int .i64 (told s).2.2.2.1], .int .i64 (told s).2.2.2.2] := by
  unfold told answer
  cases openOf s <;> rfl
end Go.Proofs.YteajidciahoboaaDoor.H
namespace Go.Proofs.YteajidciahoboaaDoor.P
open Go.RowKit Go.Proofs.YteajidciahoboaaDoorW.PrintWords Go.Proofs.YteajidciahoboaaDoorW.PrintLast Go.Proofs.YteajidciahoboaaDoorW.PrintMore Go.Proofs.YteajidciahoboaaDoor.H
def ticket_Handle.f (q : Int) (g : ByteArray) (s c : Int) : Option (ByteArray × Int) := some ((handleOf ⟨q, g, s, c⟩).1, (handleOf ⟨q, g, s, c⟩).2)
theorem ticket_Handle.callsT (q : Int) (g : ByteArray) (s c : Int) (r1 : ByteArray) (r2 : Int) (w : World) (hT : HalfAt w) (h : ticket_Handle.f q g s c = some (r1, r2)) :
    Calls Tryd.prog 7 #[.agg #[.int .i64 q, .string g, .int .i64 s, .int .i64 c]] w fun e w' => e = .returned (.tuple #[.string r1, .int .i64 r2]) ∧ Below w.heap.size w w' := by
  unfold ticket_Handle.f at h
  simp only [Option.some.injEq, Prod.mk.injEq] at h
  obtain ⟨rfl, rfl⟩ := h
  exact handle_any ⟨q, g, s, c⟩ w hT
noncomputable def ticket_Open.f (s : ByteArray) : Option (Int × ByteArray × Int × Int × Int) := if s.size ≤ 131072 then some (told s) else none
theorem ticket_Open.callsT (s : ByteArray) (r1 : Int) (r2 : ByteArray) (r3 r4 r5 : Int) (w : World) (hT : HalfAt w) (h : ticket_Open.f s = some (r1, r2, r3, r4, r5)) :
    Calls Tryd.prog 9 #[.string s] w fun e w' => e = .returned (.tuple #[.agg #[.int .i64 r1, .string r2, .int .i64 r3, .int .i64 r4], .int .i64 r5]) ∧ Below w.heap.size w w' := by
  unfold ticket_Open.f at h
  split at h
  case isFalse => cases h
  rename_i hs
  have h2 := Option.some.inj h
  have := open_any s hs w hT
  rw [told_answer, h2] at this
  exact this
def racewaylaw27_works.f : Option Bool := some true
theorem racewaylaw27_works.calls (r : Bool) (w : World) (h : racewaylaw27_works.f = some r) :
    Calls Tryd.prog 11 #[] w fun e w' => e = .returned (.bool r) ∧ Below w.heap.size w w' := by
  obtain rfl := Option.some.inj h
  exact works_any w
end Go.Proofs.YteajidciahoboaaDoor.P
