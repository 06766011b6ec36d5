/- Regions, code, calls: the executor is sound. -/
import Derived.Test.YtnemookdabbaiaaGreatDoorYc
import Derived.LoopN
import Derived.Orders
section
/- One operation after the other. -/
namespace Go.Xc

variable {E : Env} {N : TC} {o : Oper}

theorem steps_q {f : FT → (QR → Bool) → Bool} (h : QOk E N o f) {T : FT} {s : FS} {k : K} (hk : f T (fun r => QR.rec (fun v => k v s) (fun b mk => newK s b fun p s' => k (mk p) s') r) = true) :
    ∃ v s', k v s' = true ∧ StepsTo E N o T s v s' := by
  obtain ⟨qr, h1, h2⟩ := h T _ hk
  cases qr with
  | val v =>
    refine ⟨v, s, h1, fun ν hν m D a base w0 w hT hD hR next Q K => ?_⟩
    obtain ⟨u, h3, h4⟩ := h2 ν hν m D a hT hD w
    unfold Oper.wp
    rw [h3]
    exact K m u w h4 hR (After.refl m s w w rfl rfl rfl rfl hR.hd)
  | new b mk =>
    refine ⟨mk s.nx, _, h1, fun ν hν m D a base w0 w hT hD hR next Q K => ?_⟩
    obtain ⟨u, obj, w', n, h3, h4, h5, h6, h7, h8, h9⟩ := h2 ν hν m D a hT hD w
    obtain ⟨m', g1, g2, g3⟩ := rel_new hR obj b n h4 h5 h6 h7 h8
    unfold Oper.wp
    rw [h3]
    exact K m' u w' (h9 m' _ g3.ext g1) g2 g3
theorem rdR_inv {s : FS} {r : Option RR} {k : List FV → Bool} (h : rdR s r k = true) : ∃ l, k l = true ∧ (∀ q, r = some q → l.length = q.n) ∧
    (match r with | none => l = [] | some r => ∃ cs n, s.h.get r.b = some (.cells cs n) ∧ r.o ≤ cs.length ∧ r.n ≤ (cs.drop r.o).length ∧ l = (cs.drop r.o).take r.n) := by
  cases r with
  | none => exact ⟨[], h, by simp, rfl⟩
  | some r =>
    obtain ⟨cs, n, h1, h2⟩ := rdB_inv (show rdB s r.b (fun cs _ => dropK r.o cs fun cs => takeK r.n cs k) = true from h)
    obtain ⟨h3, h4⟩ := dropK_inv h2
    obtain ⟨h5, h6⟩ := takeK_inv h4
    refine ⟨_, h6, ?_, cs, n, h1, h3, h5, rfl⟩
    intro q hq
    cases hq
    rw [List.length_take]; omega
theorem steps_l {f : FT → (Option RR → Bool) → Bool} {post : List FV → (FV → Bool) → Bool} (h : LOk E N o f post) {T : FT} {s : FS} {k : K} (hk : f T (fun r => rdR s r fun l => post l fun v => k v s) = true) :
    ∃ v s', k v s' = true ∧ StepsTo E N o T s v s' := by
  obtain ⟨r, h1, h2⟩ := h T _ hk
  obtain ⟨l, h3, h4, h5⟩ := rdR_inv h1
  obtain ⟨v, h6, h7⟩ := h2 l _ h3
  refine ⟨v, s, h6, fun ν hν m D a base w0 w hT hD hR next Q K => ?_⟩
  obtain ⟨u, h8, h9⟩ := h7 ν hν m D a hT hD w (by
    cases r with
    | none => exact h5
    | some r =>
      obtain ⟨cs, n, g1, g2, g3, g4⟩ := h5
      intro p hp
      exact ⟨cs, n, hR.ok _ _ p g1 hp, g3, g4⟩) h4
  unfold Oper.wp
  rw [h8]
  exact K m u w h9 hR (After.refl m s w w rfl rfl rfl rfl hR.hd)
theorem steps_m {c : Cx} {mo ko : Opd} {z : FV} (h : MOk E N o c mo ko z) {T : FT} {s : FS} {k : K} (hk : mapK c mo ko z T s (fun _ v => k v s) = true) :
    ∃ v s', k v s' = true ∧ StepsTo E N o T s v s' := by
  obtain ⟨b, es, v, h1, h2, h3⟩ := h T s _ hk
  refine ⟨v, s, h2, fun ν hν m D a base w0 w hT hD hR next Q K => ?_⟩
  obtain ⟨u, h8, h9⟩ := h3 ν hν m D a hT hD w (fun p hp => hR.ok _ _ p h1 hp)
  unfold Oper.wp
  rw [h8]
  exact K m u w h9 hR (After.refl m s w w rfl rfl rfl rfl hR.hd)
theorem act_ok {x : XO} (h : XOk E N o x) : WOk E N o x.act := by
  intro call hc T s k hk
  cases x with
  | q f => exact steps_q h hk
  | l f post => exact steps_l h hk
  | m c mo ko z => exact steps_m h hk
  | w a => exact h call hc T s k hk

theorem slW_inv {es : Nat} {s : FS} {v : FV} {a b : Nat} {k : K} (h : slW es s v a b k = true) :
    slS es v (some a) (some b) (fun u => k u s) = true ∨
    ∃ bl o len, v = .slice bl o len es ∧ a < b ∧ (∃ cs m, s.h.get bl = some (.cells cs m) ∧ o + b * es ≤ m) ∧ k (.slice bl (o + a * es) (b - a) es) s = true := by
  cases v <;> first
    | exact nomatch (show false = true from h)
    | exact .inl h
    | (rcases ifK_inv (show ifK _ _ _ = true from h) with ⟨h1, h2⟩ | ⟨h1, h2⟩
       · exact .inl h2
       · obtain ⟨h3, h4⟩ := ifK_left h2
         obtain ⟨h5, h6⟩ := ifK_left h4
         obtain ⟨cs, m, h7, h8⟩ := rdB_inv h6
         obtain ⟨h9, h10⟩ := ifK_left h8
         have h3 := Nat.eq_of_beq_eq_true h3
         subst h3
         exact .inr ⟨_, _, _, rfl, by simpa using h5, ⟨cs, m, h7, Nat.le_of_ble_eq_true h9⟩, h10⟩)
theorem nthK_fw {α : Type} : ∀ {n : Nat} {l : List α} {v : α}, l[n]? = some v → ∀ k' : α → Bool, nthK n l k' = k' v
  | 0, [], _, e, _ => by simp at e
  | 0, a :: _, v, e, k' => by simp at e; subst e; rfl
  | n + 1, [], _, e, _ => by simp at e
  | n + 1, _ :: r, v, e, k' => nthK_fw (n := n) (l := r) (by simpa using e) k'
theorem ev_fw {o : Opd} {T : FT} {k : FV → Bool} (h : evK o T k = true) : ∃ v, k v = true ∧ ∀ k', evK o T k' = k' v := by
  cases o with
  | t p =>
    obtain ⟨v, e, h⟩ := optK_inv (show optK (PT.get T.t p) k = true from h)
    exact ⟨v, h, fun k' => by show optK (PT.get T.t p) k' = _; rw [e]; rfl⟩
  | s n =>
    obtain ⟨v, e, h⟩ := nthK_inv (show nthK n T.r k = true from h)
    exact ⟨v, h, fun k' => nthK_fw e k'⟩
  | k v => exact ⟨v, h, fun _ => rfl⟩
  | bad => exact nomatch (show false = true from h)
theorem fv_ext {u v : FV} (h : ∀ k : FV → Bool, k u = k v) : u = v := by
  by_cases e : u = v
  · exact e
  · have h1 := h (fun x => @decide (x = u) (Classical.propDecidable _))
    simp at h1
    exact h1.symm
theorem ev_told {x : Operand} {T : FT} {v : FV} (f : ∀ k', evK (copd N x) T k' = k' v) : ∀ ν m D a, TR ν m N D T a → (∀ t, x = .tmp t → D t) → VR ν m v (a.eval x) := by
  cases x with
  | tmp t =>
    intro ν m D a hT hD
    simp only [copd] at f
    cases hx : ixOf t N.L 0 with
    | some n =>
      simp only [hx] at f
      have h1 := f (fun _ => true)
      obtain ⟨u, e, _⟩ := nthK_inv (show nthK n T.r (fun _ => true) = true from h1)
      have h2 : ∀ k' : FV → Bool, k' u = k' v := fun k' => (nthK_fw e k').symm.trans (f k')
      have h3 : u = v := fv_ext h2
      subst h3
      exact hT.r t n u hx (hD t rfl) e
    | none =>
      simp only [hx] at f
      cases hb : (Nat.blt t N.N && N.esc.testBit t) with
      | false => simp only [hb, cond_false] at f; exact nomatch (show false = true from f (fun _ => true))
      | true =>
        simp only [hb, cond_true] at f
        obtain ⟨u, e, _⟩ := optK_inv (show optK (PT.get T.t (Pos.of t)) (fun _ => true) = true from f (fun _ => true))
        have h2 : ∀ k' : FV → Bool, k' u = k' v := fun k' => by
          have := f k'
          rw [← this]
          show k' u = optK (PT.get T.t (Pos.of t)) k'
          rw [e]; rfl
        have h3 : u = v := fv_ext h2
        subst h3
        simp only [Bool.and_eq_true, Nat.blt_eq] at hb
        exact hT.t t u hb.1 hb.2 (hD t rfl) e
  | const c =>
    intro ν m D a hT hD
    simp only [copd] at f
    cases hc : fconst c with
    | none => simp only [hc] at f; exact nomatch (show false = true from f (fun _ => true))
    | some u =>
      simp only [hc] at f
      have h3 : u = v := fv_ext f
      subst h3
      exact fconst_ok hc ν m
  | global g => exact nomatch (show false = true from f (fun _ => true))
  | func g =>
    intro ν m D a hT hD
    have h3 : FV.func g [] [] = v := fv_ext f
    subst h3
    exact ⟨#[], #[], rfl, rfl, rfl⟩
theorem w_sliceW {t : TypeId} {x lo hi : Operand} {e es : Nat} {ag : Bool} (hE : EnvOk E) (ho : o.op = .slice t x (some lo) (some hi) none) (ht : und E.tt t = some (.slice e)) (hs : szag E.tt e = some (es, ag)) :
    WOk E N o (fun _ T s k => evK (copd N x) T fun v => evK (copd N lo) T fun a => a.asNat fun a => evK (copd N hi) T fun b => b.asNat fun b => slW es s v a b k) := by
  intro call hc T s k h0
  obtain ⟨v, q1, f1⟩ := ev_fw h0
  obtain ⟨vl, q2, f2⟩ := ev_fw q1
  obtain ⟨k1, l, rfl, q3⟩ := asNat_inv q2
  obtain ⟨vh, q4, f3⟩ := ev_fw q3
  obtain ⟨k2, r, rfl, q5⟩ := asNat_inv q4
  rcases slW_inv q5 with hq | ⟨bl, of, len, rfl, h1, ⟨cs, mm, h2, h3⟩, hk⟩
  · refine steps_q (q_slice hE ho ht hs) (T := T) (s := s) (k := k) ?_
    show evK (copd N x) T (fun v => evK (copd N lo) T fun a => a.asNat fun a => evK (copd N hi) T fun b => b.asNat fun b => slS es v (some a) (some b) fun u => k u s) = true
    rw [f1, f2]
    show evK (copd N hi) T _ = true
    rw [f3]
    exact hq
  · have hv : ∀ ν m D a, TR ν m N D T a → (∀ t, x = .tmp t → D t) → VR ν m (.slice bl of len es) (a.eval x) := ev_told f1
    have hl : ∀ ν m D a, TR ν m N D T a → (∀ t, lo = .tmp t → D t) → VR ν m (.int k1 (.lit (.ofNat l))) (a.eval lo) := ev_told f2
    have hh : ∀ ν m D a, TR ν m N D T a → (∀ t, hi = .tmp t → D t) → VR ν m (.int k2 (.lit (.ofNat r))) (a.eval hi) := ev_told f3
    refine ⟨_, s, hk, fun ν hν m D a base w0 w hT hD hR next Q K => ?_⟩
    obtain ⟨p, cap, hp, hx, g1, g2, g3⟩ := hv ν m D a hT (fun t e => hD t (by simp [ho, Op.operands, e]))
    have e1 : a.eval lo = .int k1 (l : Int) := hl ν m D a hT (fun t e => hD t (by simp [ho, Op.operands, e]))
    have e2 : a.eval hi = .int k2 (r : Int) := hh ν m D a hT (fun t e => hD t (by simp [ho, Op.operands, e]))
    obtain ⟨b1, c, el, fr, b2, b3, b4, b5, b6⟩ := hR.ok bl _ p h2 hp
    have hrc : r ≤ cap := by
      have h4 : of + r * es ≤ of + cap * es := by omega
      exact Nat.le_of_mul_le_mul_right (by omega : r * es ≤ cap * es) g2
    have run : (execOp a.eval o).run E.P w = .ok (.value (.slice (if cap = l then some ⟨p.blk, p.off + of, none⟩ else (some ⟨p.blk, p.off + of, none⟩ : Option Addr).map (·.add (l * es))) (r - l) (cap - l))) w := by
      have hb := run_bounds (P := E.P) (w := w) (a := a) (b := true) (len := len) (cap := cap) (lo := some lo) (hi := some hi) (l := some l) (h := some r) ⟨k1, e1⟩ ⟨k2, e2⟩ (by simp; omega) (by simpa using hrc)
      simp only [Option.map_some, Option.getD_some] at hb
      simp only [execOp, ho, Instr.sliceAt, Instr.slice, hx, Sem.run_bind, run_underlying (und_ok hE ht), Result.andThen_ok, Option.map_some, Option.map_none, Sem.run_pure, hb, (szag_ok hE hs).1]
    unfold Oper.wp
    rw [run]
    refine K m _ w ⟨p, cap - l, hp, ?_, ?_, g2, by omega⟩ hR (After.refl m s w w rfl rfl rfl rfl hR.hd)
    · rw [if_neg (by omega)]; simp [addr_add, Nat.add_assoc]
    · show of + l * es + (cap - l) * es = p.len
      rw [← g1, Nat.add_assoc, ← Nat.add_mul]; congr 2; omega
theorem copS_ok (hE : EnvOk E) (N : TC) (o : Oper) : XOk E N o (copS E N o.op) := by
  have h := cop_ok hE N o
  generalize ho : o.op = op at h ⊢
  unfold copS
  split
  · split
    · rename_i ht
      split
      · rename_i hs; exact w_sliceW hE ho ht hs
      · exact x_bad
    · exact h
  · exact h
theorem ixOf_add : ∀ {L : List Nat} {t n m k : Nat}, ixOf t L n = some m → ixOf t L (n + k) = some (m + k)
  | [], t, n, m, k, h => by simp [ixOf] at h
  | u :: r, t, n, m, k, h => by
    unfold ixOf at h ⊢
    cases hb : Nat.beq u t with
    | true => simp only [hb, cond_true, Option.some.injEq] at h ⊢; omega
    | false =>
      simp only [hb, cond_false] at h ⊢
      have := ixOf_add (k := k) h
      rwa [show Nat.succ n + k = Nat.succ (n + k) by omega] at this
theorem ixOf_off : ∀ {L : List Nat} {t n m : Nat}, ixOf t L n = some m → n ≤ m ∧ ixOf t L 0 = some (m - n)
  | [], t, n, m, h => by simp [ixOf] at h
  | u :: r, t, n, m, h => by
    unfold ixOf at h ⊢
    cases hb : Nat.beq u t with
    | true => simp only [hb, cond_true, Option.some.injEq] at h ⊢; omega
    | false =>
      simp only [hb, cond_false] at h ⊢
      obtain ⟨h1, h2⟩ := ixOf_off h
      have e : ixOf t r (Nat.succ 0) = some (m - n) := by
        have := ixOf_add (L := r) (t := t) (k := 1) h2
        rw [show m - Nat.succ n + 1 = m - n by omega] at this
        simpa using this
      exact ⟨by omega, e⟩
theorem getD_put {a : Go.Act} {d t : Nat} {u : Value} (h : t ≠ d) : (a.put (some d) u).tmps.getD t undef = a.tmps.getD t undef := by
  simp [Go.Act.put, Array.getElem?_setIfInBounds_ne (Ne.symm h)]
theorem getD_put_same {a : Go.Act} {d : Nat} {u : Value} (h : d < a.tmps.size) : (a.put (some d) u).tmps.getD d undef = u := by
  simp [Go.Act.put, h]
/-- A result is put. -/
theorem tr_put {ν : Int} {m m' : Mp} {T : FT} {a : Go.Act} {dst : Option Tmp} {v : FV} {u : Value} {D : Nat → Prop} (hN : N.N < 1000000) (hT : TR ν m N D T a) (hm : Ext m m') (hv : VR ν m' v u) (hd : dOk N.N dst = true) :
    TR ν m' { N with L := (cdst N dst).2 } D (putD (cdst N dst).1 T v) (a.put dst u) := by
  cases dst with
  | none => exact ⟨hT.size, hT.defers, fun t x h1 h2 h3 h4 => VR_mono hm _ _ (hT.t t x h1 h2 h3 h4), fun t n x h1 h2 h3 => VR_mono hm _ _ (hT.r t n x h1 h2 h3)⟩
  | some d =>
    have hd : d < N.N := by simpa [dOk] using hd
    have hd' : d < a.tmps.size := Nat.lt_of_lt_of_le hd hT.size
    have hr : ∀ t n x, ixOf t (d :: N.L) 0 = some n → D t → (v :: T.r)[n]? = some x → VR ν m' x ((a.put (some d) u).tmps.getD t undef) := by
      intro t n x h1 h2 h3
      unfold ixOf at h1
      cases hb : Nat.beq d t with
      | true =>
        simp only [hb, cond_true, Option.some.injEq] at h1
        subst h1
        have := Nat.eq_of_beq_eq_true hb
        subst this
        simp only [List.getElem?_cons_zero, Option.some.injEq] at h3
        subst h3
        rw [getD_put_same hd']; exact hv
      | false =>
        simp only [hb, cond_false] at h1
        have hne : t ≠ d := fun e => by subst e; simp at hb
        obtain ⟨h4, h5⟩ := ixOf_off h1
        rw [getD_put hne]
        refine VR_mono hm _ _ (hT.r t (n - 1) x h5 h2 ?_)
        have : n = n - 1 + 1 := by have : 1 ≤ n := h4; omega
        rw [this] at h3
        simpa using h3
    have hs : N.N ≤ (a.put (some d) u).tmps.size := by simpa [Go.Act.put] using hT.size
    cases hb : N.esc.testBit d with
    | true =>
      simp only [cdst, hb, cond_true]
      refine ⟨hs, hT.defers, fun t x h1 h2 h3 h4 => ?_, hr⟩
      by_cases e : t = d
      · subst e
        have h4 : (PT.set T.t (Pos.of t) (some v)).get (Pos.of t) = some x := h4
        rw [PT.get_set_same] at h4
        cases h4
        rw [getD_put_same hd']; exact hv
      · have h4 : (PT.set T.t (Pos.of d) (some v)).get (Pos.of t) = some x := h4
        rw [PT.get_set_ne _ _ (fun e' => e (Pos.of_inj (Nat.lt_trans h1 hN) (Nat.lt_trans hd hN) e'))] at h4
        rw [getD_put e]
        exact VR_mono hm _ _ (hT.t t x h1 h2 h3 h4)
    | false =>
      simp only [cdst, hb, cond_false]
      refine ⟨hs, hT.defers, fun t x h1 h2 h3 h4 => ?_, hr⟩
      by_cases e : t = d
      · subst e; simp only at h2; rw [hb] at h2; cases h2
      · rw [getD_put e]
        exact VR_mono hm _ _ (hT.t t x h1 h2 h3 h4)
end Go.Xc
end
section
/- Regions in the order of the text. -/
namespace Go.Xc

variable {E : Env}

abbrev AllT : Nat → Prop := fun _ => True
/-- What code comes to. -/
def exitOf : Exi → Exit
  | .normal => .normal
  | .exit i => .exit i
  | .ret => .ret
def GoesTo (E : Env) (N : TC) (c : Code) (T : FT) (s : FS) (e : Exi) (T' : FT) (s' : FS) : Prop :=
  ∀ ν, E.c.has ν → ∀ m a base w0 w, TR ν m N AllT T a → Rel ν base w0 m s w → ∀ Q : Exit → Go.Act → World → Prop,
    (∀ m' a' w', TR ν m' N AllT T' a' → Rel ν base w0 m' s' w' → After m s w m' s' w' → Q (exitOf e) a' w') → c.wp E.P Q a w

theorem guardK_inv {v : FV} {k : Option Bool → Bool} (h : v.guardK k = true) : (v = .undef ∧ k none = true) ∨ ∃ b, v = .bool b ∧ k (some b) = true := by
  cases v <;> first
    | exact nomatch (show false = true from h)
    | exact .inl ⟨rfl, h⟩
    | exact .inr ⟨_, rfl, h⟩
theorem yielded_some {ops : Array Oper} {tmps : Array Value} {j d : Nat} {b : Bool} (hd : (ops[j]?).bind (·.dst) = some d) (h : tmps.getD d undef = .bool b) : yielded ops tmps j = some b := by
  unfold yielded
  rw [hd]
  simp only [Option.bind_some]
  rcases Nat.lt_or_ge d tmps.size with g | g
  · simp only [Array.getD_eq_getD_getElem?, Array.getElem?_eq_getElem g, Option.getD_some] at h
    rw [Array.getElem?_eq_getElem g, h]
  · simp [Array.getElem?_eq_none g, undef] at h
theorem yielded_none {ops : Array Oper} {tmps : Array Value} {j d : Nat} (hd : (ops[j]?).bind (·.dst) = some d) (h : tmps.getD d undef = undef) : yielded ops tmps j = none := by
  unfold yielded
  rw [hd]
  simp only [Option.bind_some]
  rcases Nat.lt_or_ge d tmps.size with g | g
  · simp only [Array.getD_eq_getD_getElem?, Array.getElem?_eq_getElem g, Option.getD_some] at h
    rw [Array.getElem?_eq_getElem g, h]
    rfl
  · rw [Array.getElem?_eq_none g]
def OpsTo (E : Env) (ops : Array Oper) (is : List Nat) (N : TC) (T : FT) (s : FS) (T' : FT) (s' : FS) : Prop :=
  ∀ ν, E.c.has ν → ∀ m a base w0 w, TR ν m N AllT T a → Rel ν base w0 m s w → ∀ Q : Exit → Go.Act → World → Prop,
    (∀ m' a' w', TR ν m' { N with L := [] } AllT T' a' → Rel ν base w0 m' s' w' → After m s w m' s' w' → Q .normal a' w') → wpOps E.P ops Q is a w
theorem tr_forget {ν : Int} {m : Mp} {N : TC} {T : FT} {a : Go.Act} {D : Nat → Prop} (h : TR ν m N D T a) : TR ν m { N with L := [] } D T a :=
  ⟨h.size, h.defers, h.t, fun t n v h1 _ _ => by simp [ixOf] at h1⟩
/-- How the executor goes through the operations of a region. -/
def runC (ex : IC → FT → FS → (Exi → FT → FS → Bool) → Bool) (call : CallT) : Prop :=
  (∀ T s k, ex .done T s k = k .normal T s) ∧
  (∀ a d nx T s k, ex (.op a d nx) T s k = a call T s fun v s' => ex nx (putD d T v) s' k) ∧
  (∀ g want a d nx T s k, ex (.gop g want a d nx) T s k = evK g T fun gv => gv.guardK fun o => Option.rec (ex nx (putD d T .undef) s k) (fun b => Bool.rec (ex nx (putD d T .undef) s k) (a call T s fun v s' => ex nx (putD d T v) s' k) (Bool.rec (not want) want b)) o) ∧
  (∀ T s k, ex .bad T s k = false)
theorem cops_ok (hE : EnvOk E) {ex : IC → FT → FS → (Exi → FT → FS → Bool) → Bool} {call : CallT} (hr : runC ex call) (hc : CallOk E call) (ops : Array Oper) :
    ∀ (l : List Oper) (i : Nat) (N : TC), N.N < 1000000 → l = ops.toList.drop i → ∀ T s k, ex (cops E N ops l) T s k = true →
      ∃ T' s', k .normal T' s' = true ∧ OpsTo E ops (List.range' i l.length) N T s T' s'
  | [], i, N, hN, hl, T, s, k, h => by
    have h : ex .done T s k = true := h
    rw [hr.1] at h
    exact ⟨T, s, h, fun ν hν m a base w0 w hT hR Q K => K m a w (tr_forget hT) hR (After.refl m s w w rfl rfl rfl rfl hR.hd)⟩
  | o :: l, i, N, hN, hl, T, s, k, h => by
    have hoi : ops[i]? = some o := by
      have := congrArg (·[0]?) hl
      simp only [List.getElem?_cons_zero, List.getElem?_drop, Nat.add_zero, Array.getElem?_toList] at this
      exact this.symm
    have hl' : l = ops.toList.drop (i + 1) := by
      have := congrArg List.tail hl
      simpa using this
    unfold cops at h
    cases hd : dOk N.N o.dst with
    | false => simp only [hd, cond_false] at h; rw [hr.2.2.2] at h; cases h
    | true =>
      simp only [hd, cond_true] at h
      -- the operation is done
      have did : (copS E N o.op).act call T s (fun v s' => ex (cops E { N with L := (cdst N o.dst).2 } ops l) (putD (cdst N o.dst).1 T v) s' k) = true → (∀ a : Go.Act, ∀ m ν, TR ν m N AllT T a → Region.wanted o (yielded ops a.tmps) = true) →
          ∃ T' s', k .normal T' s' = true ∧ OpsTo E ops (List.range' i (o :: l).length) N T s T' s' := by
        intro h hw
        obtain ⟨v, s1, h1, h2⟩ := act_ok (copS_ok hE N o) call hc T s _ h
        obtain ⟨T', s', h3, h4⟩ := cops_ok hE hr hc ops l (i + 1) { N with L := (cdst N o.dst).2 } hN hl' _ _ _ h1
        refine ⟨T', s', h3, fun ν hν m a base w0 w hT hR Q K => ?_⟩
        show wpOps E.P ops Q (i :: List.range' (i + 1) l.length) a w
        unfold wpOps
        simp only [hoi, hw a m ν hT, if_true]
        refine .inl (h2 ν hν m AllT a base w0 w hT (fun _ _ => trivial) hR _ _ fun m1 u w1 hv hR1 hA => ?_)
        exact h4 ν hν m1 _ base w0 w1 (tr_put hN hT hA.ext hv hd) hR1 Q fun m' a' w' hT' hR' hA' => K m' a' w' hT' hR' (hA.trans hA')
      -- it is passed over
      have not : ex (cops E { N with L := (cdst N o.dst).2 } ops l) (putD (cdst N o.dst).1 T .undef) s k = true → (∀ a : Go.Act, ∀ m ν, TR ν m N AllT T a → Region.wanted o (yielded ops a.tmps) = false) →
          ∃ T' s', k .normal T' s' = true ∧ OpsTo E ops (List.range' i (o :: l).length) N T s T' s' := by
        intro h hw
        obtain ⟨T', s', h3, h4⟩ := cops_ok hE hr hc ops l (i + 1) { N with L := (cdst N o.dst).2 } hN hl' _ _ _ h
        refine ⟨T', s', h3, fun ν hν m a base w0 w hT hR Q K => ?_⟩
        show wpOps E.P ops Q (i :: List.range' (i + 1) l.length) a w
        unfold wpOps
        simp only [hoi, hw a m ν hT, Bool.false_eq_true, if_false]
        exact h4 ν hν m _ base w0 w (tr_put hN hT (Ext.refl m) (v := .undef) rfl hd) hR Q K
      cases hg : o.guard with
      | none =>
        simp only [hg] at h
        rw [hr.2.1] at h
        exact did h fun a m ν hT => by simp [Region.wanted, hg]
      | some jw =>
        obtain ⟨j, want⟩ := jw
        simp only [hg] at h
        cases hj : (ops[j]?).bind (·.dst) with
        | none => simp only [hj] at h; rw [hr.2.2.2] at h; cases h
        | some d =>
          simp only [hj] at h
          rw [hr.2.2.1] at h
          obtain ⟨gv, h1, h2⟩ := ev_inv h
          rcases guardK_inv h1 with ⟨rfl, h3⟩ | ⟨b, rfl, h3⟩
          · exact not h3 fun a m ν hT => by
              have : a.eval (.tmp d) = undef := h2 ν m AllT a hT (fun _ _ => trivial)
              simp [Region.wanted, hg, yielded_none hj (show a.tmps.getD d undef = undef from this)]
          · have hy : ∀ a : Go.Act, ∀ m ν, TR ν m N AllT T a → yielded ops a.tmps j = some b := fun a m ν hT => by
              have : a.eval (.tmp d) = .bool b := h2 ν m AllT a hT (fun _ _ => trivial)
              exact yielded_some hj this
            by_cases hb : b = want
            · subst hb
              have h3' : (copS E N o.op).act call T s (fun v s' => ex (cops E { N with L := (cdst N o.dst).2 } ops l) (putD (cdst N o.dst).1 T v) s' k) = true := by
                cases b <;> exact h3
              exact did h3' fun a m ν hT => by simp [Region.wanted, hg, hy a m ν hT]
            · have h3' : ex (cops E { N with L := (cdst N o.dst).2 } ops l) (putD (cdst N o.dst).1 T .undef) s k = true := by
                cases b <;> cases want <;> first
                  | exact absurd rfl hb
                  | exact h3
              exact not h3' fun a m ν hT => by simp [Region.wanted, hg, hy a m ν hT, hb]
end Go.Xc
end
section
/- Results, arguments, calls. -/
namespace Go.Xc

variable {E : Env}

def OrcOk (E : Env) (f : Nat) (g : Orc) : Prop := ∀ args s k, g args s k = true → ∃ v, k v = true ∧ CallsTo E f args s v s
def BodyOk (E : Env) (f : Nat) (i : FI) : Prop :=
  ∃ fn c N, E.P.funcs[f]? = some fn ∧ fn.body = some c ∧ N.N = fn.ntmps ∧ N.N < 1000000 ∧ N.L = [] ∧ i.ic = comp E N c ∧ resOf E N fn.results.toList = some i.res
def FiOk (E : Env) (fi : Nat → FI) : Prop :=
  ∀ f, (∃ g, (fi f).orc = some g ∧ OrcOk E f g) ∨ ((fi f).orc = none ∧ (BodyOk E f (fi f) ∨ (fi f).ic = .bad))
def resOne (tmps : Array Value) : ResultVar → Sem Value
  | .tmp t => pure (tmps.getD t undef)
  | .cell a t => do loadVar t (← asAddr (tmps.getD a undef))
theorem results_eq (fn : Func) (tmps : Array Value) : results fn tmps = (do
    let vs ← fn.results.mapM (resOne tmps)
    pure (if h : vs.size = 1 then vs[0] else .tuple vs)) := rfl
theorem resK_ok (hE : EnvOk E) {N : TC} (hL : N.L = []) {T : FT} {s : FS} : ∀ {rs : List ResultVar} {res : List RV} {k : List FV → Bool}, resOf E N rs = some res → resK res T s k = true →
    ∃ l, k l = true ∧ ∀ ν m a base w0 w, TR ν m N AllT T a → Rel ν base w0 m s w → ∃ vs : List Value, (rs.mapM (resOne a.tmps)).run E.P w = .ok vs w ∧ VRs ν m l vs
  | [], res, k, hr, h => by
    simp only [resOf, Option.some.injEq] at hr
    subst hr
    exact ⟨[], h, fun ν m a base w0 w _ _ => ⟨[], by simp, rfl⟩⟩
  | .tmp t :: rs, res, k, hr, h => by
    unfold resOf at hr
    cases hq : resOf E N rs with
    | none => simp [hq] at hr
    | some q =>
      simp only [hq] at hr
      cases hb : (Nat.blt t N.N && N.esc.testBit t) with
      | false => simp [hb] at hr
      | true =>
        simp only [hb, cond_true, Option.some.injEq] at hr
        subst hr
        simp only [Bool.and_eq_true, Nat.blt_eq] at hb
        obtain ⟨v, h1, h2⟩ := optK_inv (show optK (PT.get T.t (Pos.of t)) (fun v => resK q T s fun l => k (v :: l)) = true from h)
        obtain ⟨l, h3, h4⟩ := resK_ok hE hL hq h2
        refine ⟨v :: l, h3, fun ν m a base w0 w hT hR => ?_⟩
        obtain ⟨vs, h5, h6⟩ := h4 ν m a base w0 w hT hR
        exact ⟨a.tmps.getD t undef :: vs, by simp only [List.mapM_cons, resOne, Sem.run_bind, Sem.run_pure, Result.andThen_ok, h5], _, _, rfl, hT.t t v hb.1 hb.2 trivial h1, h6⟩
  | .cell c t :: rs, res, k, hr, h => by
    unfold resOf at hr
    cases hq : resOf E N rs with
    | none => simp [hq] at hr
    | some q =>
      cases hz : szag E.tt t with
      | none => simp [hq, hz] at hr
      | some na =>
        obtain ⟨n, ag⟩ := na
        simp only [hq, hz] at hr
        cases hb : (Nat.blt c N.N && N.esc.testBit c) with
        | false => simp [hb] at hr
        | true =>
          simp only [hb, cond_true, Option.some.injEq] at hr
          subst hr
          simp only [Bool.and_eq_true, Nat.blt_eq] at hb
          obtain ⟨v, h1, h2⟩ := optK_inv (show optK (PT.get T.t (Pos.of c)) (fun v => v.asPtr fun b o => rdB s b fun cs _ => Bool.rec (nthK o cs fun v => resK q T s fun l => k (v :: l)) (takeK n (dropL o cs) fun t => resK q T s fun l => k (.agg t :: l)) ag) = true from h)
          obtain ⟨b, off, rfl, h3⟩ := asPtr_inv h2
          obtain ⟨cs, nn, hb1, h4⟩ := rdB_inv h3
          obtain ⟨hsz, hag, _⟩ := szag_ok hE hz
          cases ag with
          | true =>
            obtain ⟨h5, h6⟩ := takeK_inv (show takeK n (dropL off cs) (fun t => resK q T s fun l => k (.agg t :: l)) = true from h4)
            rw [dropL_eq] at h5 h6
            obtain ⟨l, h7, h8⟩ := resK_ok hE hL hq h6
            refine ⟨_, h7, fun ν m a base w0 w hT hR => ?_⟩
            obtain ⟨vs, h9, h10⟩ := h8 ν m a base w0 w hT hR
            obtain ⟨p, hp, hx⟩ := hT.t c _ hb.1 hb.2 trivial h1
            have ho : off ≤ cs.length ∨ n = 0 := by
              rw [List.length_drop] at h5; omega
            have hrow : ∃ us : List Value, VRs ν m ((cs.drop off).take n) us ∧ us.length = n ∧ (∀ x ∈ (cs.drop off).take n, single x = true) ∧ (∀ j v, us[j]? = some v → w.cell? ((⟨p.blk, p.off + off, none⟩ : Addr).add j) = some v) := by
              rcases ho with ho | ho
              · exact row_at (hR.ok b _ p hb1 hp) ho h5
              · subst ho; exact ⟨[], by simp; rfl, rfl, by simp, by simp⟩
            obtain ⟨us, k1, k2, k3, k4⟩ := hrow
            have hl := run_loadCells_list (P := E.P) w ⟨p.blk, p.off + off, none⟩ us k4
            rw [k2] at hl
            refine ⟨.agg us.toArray :: vs, ?_, _, _, rfl, ⟨us.toArray, rfl, by simpa using k1, k3⟩, h10⟩
            have hl' : (loadCells ⟨p.blk, p.off + off, none⟩ n).run E.P w = .ok us.toArray w := hl
            simp only [List.mapM_cons, resOne, hx, asAddr, loadVar, Sem.run_bind, Sem.run_pure, Result.andThen_ok, hag, if_true, hsz, hl', h9]
          | false =>
            obtain ⟨y, e, h5⟩ := nthK_inv (show nthK off cs (fun v => resK q T s fun l => k (v :: l)) = true from h4)
            obtain ⟨l, h7, h8⟩ := resK_ok hE hL hq h5
            refine ⟨_, h7, fun ν m a base w0 w hT hR => ?_⟩
            obtain ⟨vs, h9, h10⟩ := h8 ν m a base w0 w hT hR
            obtain ⟨p, hp, hx⟩ := hT.t c _ hb.1 hb.2 trivial h1
            have hlt := (List.getElem?_eq_some_iff.1 e).1
            obtain ⟨us, k1, k2, k3, k4⟩ := row_at (n := 1) (hR.ok b _ p hb1 hp) (Nat.le_of_lt hlt) (by rw [List.length_drop]; omega)
            obtain ⟨u, e1, e2⟩ := VRs_get k1 0 y (by rw [List.getElem?_take, if_pos (by omega), List.getElem?_drop]; exact e)
            have hc := k4 0 u e1
            rw [add0] at hc
            refine ⟨u :: vs, ?_, _, _, rfl, e2, h10⟩
            simp only [List.mapM_cons, resOne, hx, asAddr, loadVar, Sem.run_bind, Sem.run_pure, Result.andThen_ok, hag, Bool.false_eq_true, if_false, run_load, hc, h9]
theorem tupK_ok {l : List FV} {k : FV → Bool} (h : tupK l k = true) : ∃ v, k v = true ∧ ∀ ν m (vs : Array Value), VRs ν m l vs.toList → VR ν m v (if h : vs.size = 1 then vs[0] else .tuple vs) := by
  cases l with
  | nil =>
    refine ⟨_, h, fun ν m vs hv => ?_⟩
    have := VRs_len hv
    simp only [List.length_nil, Array.length_toList] at this
    rw [dif_neg (by omega)]
    exact ⟨vs, rfl, hv⟩
  | cons a r =>
    cases r with
    | nil =>
      refine ⟨_, h, fun ν m vs hv => ?_⟩
      have := VRs_len hv
      simp only [List.length_cons, List.length_nil, Array.length_toList] at this
      rw [dif_pos (by omega)]
      obtain ⟨u, us, e, h1, h2⟩ := hv
      have : vs[0]? = some u := by rw [← Array.getElem?_toList, e]; rfl
      rw [Array.getElem?_eq_getElem (by omega)] at this
      cases this
      exact h1
    | cons b r =>
      refine ⟨_, h, fun ν m vs hv => ?_⟩
      have := VRs_len hv
      simp only [List.length_cons, Array.length_toList] at this
      rw [dif_neg (by omega)]
      exact ⟨vs, rfl, hv⟩
theorem putArgs_get : ∀ (l : List FV) (n : Nat) (T : PT FV) (p : Pos) (v : FV), (putArgs l n T).get p = some v → T.get p = some v ∨ ∃ i, l[i]? = some v ∧ p = Pos.of (n + i)
  | [], n, T, p, v, h => .inl h
  | a :: l, n, T, p, v, h => by
    rcases putArgs_get l (Nat.succ n) (PT.set T (Pos.of n) (some a)) p v h with h | ⟨i, h1, h2⟩
    · rw [PT.get_set] at h
      by_cases e : p = Pos.of n
      · rw [if_pos e] at h; exact .inr ⟨0, by simpa using h, e⟩
      · rw [if_neg e] at h; exact .inl h
    · exact .inr ⟨i + 1, by simpa using h1, by rw [h2]; congr 1; omega⟩
theorem tr_enter {ν : Int} {m : Mp} {N : TC} {args : List FV} {vs : Array Value} {fn : Func} (hL : N.L = []) (hN : N.N = fn.ntmps) (h1 : N.N < 1000000) (hl : args.length ≤ 1000) (hv : VRs ν m args vs.toList) :
    TR ν m N AllT ⟨putArgs args 0 .lf, []⟩ { tmps := vs ++ Array.replicate (fn.ntmps - vs.size) undef, defers := [] } := by
  refine ⟨by simp; omega, rfl, fun t v ht _ _ hg => ?_, fun t n v hx _ _ => by rw [hL] at hx; simp [ixOf] at hx⟩
  rcases putArgs_get args 0 .lf _ v hg with h | ⟨i, h2, h3⟩
  · rw [PT.get_lf] at h; cases h
  · have hi := (List.getElem?_eq_some_iff.1 h2).1
    have := Pos.of_inj (by omega) (by omega) h3
    simp only [Nat.zero_add] at this
    subst this
    obtain ⟨u, e1, e2⟩ := VRs_get hv _ v h2
    have hts : t < vs.size := by have := VRs_len hv; simp at this; omega
    have : (vs ++ Array.replicate (fn.ntmps - vs.size) undef).getD t undef = u := by
      rw [Array.getD_eq_getD_getElem?, Array.getElem?_append_left hts, ← Array.getElem?_toList, e1]; rfl
    rw [this]; exact e2
def ExOk (E : Env) (ex : IC → FT → FS → (Exi → FT → FS → Bool) → Bool) : Prop :=
  ∀ (N : TC) (c : Code), N.N < 1000000 → N.L = [] → ∀ T s k, ex (comp E N c) T s k = true → ∃ e T' s', k e T' s' = true ∧ GoesTo E N c T s e T' s'
theorem enters_ok (hE : EnvOk E) {fi : Nat → FI} {ex : IC → FT → FS → (Exi → FT → FS → Bool) → Bool} (hx : ExOk E ex) {f : Nat} (hb : BodyOk E f (fi f)) (ho : (fi f).orc = none) {args : List FV} {s : FS} {k : K} (h : callOf fi ex f args s k = true) :
    ∃ v s', k v s' = true ∧ EntersTo E f args s v s' := by
  unfold callOf at h
  rw [ho] at h
  obtain ⟨h0, h⟩ := ifK_left h
  have h0 := Nat.le_of_ble_eq_true h0
  rw [lenL_eq] at h0
  obtain ⟨fn, c, N, b1, b2, b3, b4, b5, b6, b7⟩ := hb
  rw [b6] at h
  obtain ⟨e, T', s', h1, h2⟩ := hx N c b4 b5 _ s _ h
  have key : resK (fi f).res T' s' (fun l => tupK l fun v => k v s') = true ∧ (e = .normal ∨ e = .ret) := by
    cases e with
    | normal => exact ⟨h1, .inl rfl⟩
    | ret => exact ⟨h1, .inr rfl⟩
    | exit i => exact nomatch (show false = true from h1)
  obtain ⟨h3, h4⟩ := key
  obtain ⟨l, h5, h6⟩ := resK_ok hE b5 b7 h3
  obtain ⟨v, h7, h8⟩ := tupK_ok h5
  refine ⟨v, s', h7, fun ν hν m base w0 w vs hvs hR => ?_⟩
  refine calls_of_wp b1 b2 ?_
  refine h2 ν hν m _ base w0 w (tr_enter b5 b3 b4 h0 hvs) hR _ fun m' a' w' hT' hR' hA => ?_
  obtain ⟨us, g1, g2⟩ := h6 ν m' a' base w0 w' hT' hR'
  have hres : (results fn a'.tmps).run E.P w' = .ok (if h : us.toArray.size = 1 then us.toArray[0] else .tuple us.toArray) w' := by
    rw [results_eq, Array.mapM_eq_mapM_toList]
    simp only [Sem.run_bind, Sem.run_map, g1, Result.andThen_ok, Sem.run_pure]
  rcases h4 with rfl | rfl
  · exact ⟨hT'.defers, _, hres, m', h8 ν m' us.toArray (by simpa using g2), hR', hA⟩
  · exact ⟨hT'.defers, _, hres, m', h8 ν m' us.toArray (by simpa using g2), hR', hA⟩
end Go.Xc
end
section
/- Code, and calls: what the executor does is what is done. Regions that draw their order are left as a condition here. -/
namespace Go.Xc

variable {E : Env}

theorem callOk_of (hE : EnvOk E) {fi : Nat → FI} (hfi : FiOk E fi) {ex : IC → FT → FS → (Exi → FT → FS → Bool) → Bool} (hx : ExOk E ex) (hbad : ∀ T s k, ex .bad T s k = false) : CallOk E (callOf fi ex) := by
  intro f args s k h
  rcases hfi f with ⟨g, h1, h2⟩ | ⟨h1, h2 | h2⟩
  · unfold callOf at h
    rw [h1] at h
    obtain ⟨v, h3, h4⟩ := h2 args s (fun v => k v s) h
    exact ⟨v, s, h3, h4⟩
  · obtain ⟨v, s', h3, h4⟩ := enters_ok hE hx h2 h1 h
    obtain ⟨fn, c, N, b1, b2, _⟩ := h2
    exact ⟨v, s', h3, calls_of_enters hE b1 b2 h4⟩
  · unfold callOf at h
    rw [h1, h2] at h
    obtain ⟨_, h⟩ := ifK_left h
    rw [hbad] at h; cases h
def LoopTo (E : Env) (N : TC) (c : Code) (T : FT) (s : FS) (e : Exi) (T' : FT) (s' : FS) : Prop :=
  ∃ n, ∀ ν, E.c.has ν → ∀ m a base w0 w, TR ν m N AllT T a → Rel ν base w0 m s w → ∀ Q : Exit → Go.Act → World → Prop,
    (∀ m' a' w', TR ν m' N AllT T' a' → Rel ν base w0 m' s' w' → After m s w m' s' w' → Q (exitOf e) a' w') → Code.rounds E.P c Q n a w
def LoopOk (E : Env) (ex : IC → FT → FS → (Exi → FT → FS → Bool) → Bool) : Prop :=
  ∀ (N : TC) (c : Code), N.N < 1000000 → N.L = [] → ∀ T s k, ex (.loop (comp E N c)) T s k = true → ∃ e T' s', k e T' s' = true ∧ LoopTo E N c T s e T' s'
/-- What is asked of regions that draw. -/
def DrawOk (E : Env) : Prop :=
  ∀ (call : CallT), CallOk E call → ∀ (N : TC) (id : Nat) (ops : Array Oper), N.N < 1000000 → N.L = [] → okD E N ops (befs [] ops.toList) 0 ops.toList = true → ∀ T s k,
    runD call (des E N ops (befs [] ops.toList) 0 ops.toList) T s [] k = true → ∃ T' s', k T' s' = true ∧ GoesTo E N (.region id ops true) T s .normal T' s'
theorem N_eq {N : TC} (hL : N.L = []) : { N with L := [] } = N := by cases N; simp at hL; subst hL; rfl
theorem exec_ok (hE : EnvOk E) (hD : DrawOk E) {fi : Nat → FI} (hfi : FiOk E fi) : ∀ n, ExOk E (execF fi n) ∧ LoopOk E (execF fi n) ∧ (∀ T s k, execF fi n .bad T s k = false)
  | 0 => ⟨fun _ _ _ _ _ _ _ h => (nomatch (show false = true from h)), fun _ _ _ _ _ _ _ h => (nomatch (show false = true from h)), fun _ _ _ => rfl⟩
  | n + 1 => by
    obtain ⟨ih1, ih2, ih3⟩ := exec_ok hE hD hfi n
    have hcall := callOk_of hE hfi ih1 ih3
    have hrun : runC (execF fi (n + 1)) (callOf fi (execF fi n)) := ⟨fun _ _ _ => rfl, fun _ _ _ _ _ _ => rfl, fun _ _ _ _ _ _ _ _ => rfl, fun _ _ _ => rfl⟩
    have hex : ∀ (c : Code) (N : TC), N.N < 1000000 → N.L = [] → ∀ T s k, execF fi (n + 1) (comp E N c) T s k = true → ∃ e T' s', k e T' s' = true ∧ GoesTo E N c T s e T' s' := by
      intro c
      induction c with
      | skip => exact fun N hN hL T s k h => ⟨.normal, T, s, h, fun ν hν m a base w0 w hT hR Q K => wp_skip (K m a w hT hR (After.refl m s w w rfl rfl rfl rfl hR.hd))⟩
      | label l => exact fun N hN hL T s k h => ⟨.normal, T, s, h, fun ν hν m a base w0 w hT hR Q K => wp_label (K m a w hT hR (After.refl m s w w rfl rfl rfl rfl hR.hd))⟩
      | exit i => exact fun N hN hL T s k h => ⟨.exit i, T, s, h, fun ν hν m a base w0 w hT hR Q K => wp_exit (K m a w hT hR (After.refl m s w w rfl rfl rfl rfl hR.hd))⟩
      | ret => exact fun N hN hL T s k h => ⟨.ret, T, s, h, fun ν hν m a base w0 w hT hR Q K => wp_ret (K m a w hT hR (After.refl m s w w rfl rfl rfl rfl hR.hd))⟩
      | region id ops draw =>
        intro N hN hL T s k h
        cases draw with
        | false =>
          obtain ⟨T', s', h1, h2⟩ := cops_ok hE hrun hcall ops ops.toList 0 N hN (by simp) T s k h
          refine ⟨.normal, T', s', h1, fun ν hν m a base w0 w hT hR Q K => wp_region ?_⟩
          have := h2 ν hν m a base w0 w hT hR Q (fun m' a' w' hT' => K m' a' w' (N_eq hL ▸ hT'))
          rwa [Array.length_toList, ← List.range_eq_range'] at this
        | true =>
          unfold comp at h
          cases hb : okD E N ops (befs [] ops.toList) 0 ops.toList with
          | false => rw [hb] at h; exact nomatch (show false = true from h)
          | true =>
            rw [hb] at h
            obtain ⟨T', s', h1, h2⟩ := hD _ hcall N id ops hN hL hb T s (fun T' s' => k .normal T' s') h
            exact ⟨.normal, T', s', h1, h2⟩
      | seq x y ihx ihy =>
        intro N hN hL T s k h
        obtain ⟨e, T1, s1, h1, h2⟩ := ihx N hN hL T s _ (show execF fi (n + 1) (comp E N x) T s (fun e T' s' => Exi.rec (execF fi (n + 1) (comp E N y) T' s' k) (fun i => k (.exit i) T' s') (k .ret T' s') e) = true from h)
        cases e with
        | normal =>
          obtain ⟨e', T2, s2, h3, h4⟩ := ihy N hN hL T1 s1 k h1
          refine ⟨e', T2, s2, h3, fun ν hν m a base w0 w hT hR Q K => wp_seq (h2 ν hν m a base w0 w hT hR _ fun m1 a1 w1 hT1 hR1 hA1 => ?_)⟩
          exact h4 ν hν m1 a1 base w0 w1 hT1 hR1 Q fun m' a' w' hT' hR' hA' => K m' a' w' hT' hR' (hA1.trans hA')
        | exit i => exact ⟨.exit i, T1, s1, h1, fun ν hν m a base w0 w hT hR Q K => wp_seq (h2 ν hν m a base w0 w hT hR _ fun m1 a1 w1 hT1 hR1 hA1 => K m1 a1 w1 hT1 hR1 hA1)⟩
        | ret => exact ⟨.ret, T1, s1, h1, fun ν hν m a base w0 w hT hR Q K => wp_seq (h2 ν hν m a base w0 w hT hR _ fun m1 a1 w1 hT1 hR1 hA1 => K m1 a1 w1 hT1 hR1 hA1)⟩
      | cond o x y ihx ihy =>
        intro N hN hL T s k h
        obtain ⟨v, h1, h2⟩ := ev_inv (show evK (copd N o) T (fun v => v.asBool fun b => Bool.rec (execF fi (n + 1) (comp E N y) T s k) (execF fi (n + 1) (comp E N x) T s k) b) = true from h)
        obtain ⟨b, rfl, h3⟩ := asBool_inv h1
        cases b with
        | true =>
          obtain ⟨e, T', s', h4, h5⟩ := ihx N hN hL T s k h3
          exact ⟨e, T', s', h4, fun ν hν m a base w0 w hT hR Q K => wp_cond_true (h2 ν m AllT a hT (fun _ _ => trivial)) (h5 ν hν m a base w0 w hT hR Q K)⟩
        | false =>
          obtain ⟨e, T', s', h4, h5⟩ := ihy N hN hL T s k h3
          exact ⟨e, T', s', h4, fun ν hν m a base w0 w hT hR Q K => wp_cond_false (h2 ν m AllT a hT (fun _ _ => trivial)) (h5 ν hν m a base w0 w hT hR Q K)⟩
      | block id x ihx =>
        intro N hN hL T s k h
        obtain ⟨e, T1, s1, h1, h2⟩ := ihx N hN hL T s _ (show execF fi (n + 1) (comp E N x) T s (fun e T' s' => Exi.rec (k .normal T' s') (fun i => Bool.rec (k (.exit i) T' s') (k .normal T' s') (Nat.beq i id)) (k .ret T' s') e) = true from h)
        cases e with
        | normal => exact ⟨.normal, T1, s1, h1, fun ν hν m a base w0 w hT hR Q K => wp_block (h2 ν hν m a base w0 w hT hR _ fun m1 a1 w1 hT1 hR1 hA1 => K m1 a1 w1 hT1 hR1 hA1)⟩
        | ret => exact ⟨.ret, T1, s1, h1, fun ν hν m a base w0 w hT hR Q K => wp_block (h2 ν hν m a base w0 w hT hR _ fun m1 a1 w1 hT1 hR1 hA1 => K m1 a1 w1 hT1 hR1 hA1)⟩
        | exit i =>
          have h1 : (Bool.rec (k (.exit i) T1 s1) (k .normal T1 s1) (Nat.beq i id) : Bool) = true := h1
          cases hb : Nat.beq i id with
          | true =>
            rw [hb] at h1
            have e := Nat.eq_of_beq_eq_true hb
            refine ⟨.normal, T1, s1, h1, fun ν hν m a base w0 w hT hR Q K => wp_block (h2 ν hν m a base w0 w hT hR _ fun m1 a1 w1 hT1 hR1 hA1 => ?_)⟩
            show (if i = id then Q .normal a1 w1 else Q (.exit i) a1 w1)
            rw [if_pos e]; exact K m1 a1 w1 hT1 hR1 hA1
          | false =>
            rw [hb] at h1
            have e : ¬ i = id := fun e => by subst e; simp at hb
            refine ⟨.exit i, T1, s1, h1, fun ν hν m a base w0 w hT hR Q K => wp_block (h2 ν hν m a base w0 w hT hR _ fun m1 a1 w1 hT1 hR1 hA1 => ?_)⟩
            show (if i = id then Q .normal a1 w1 else Q (.exit i) a1 w1)
            rw [if_neg e]; exact K m1 a1 w1 hT1 hR1 hA1
      | loop x ihx =>
        intro N hN hL T s k h
        obtain ⟨e, T1, s1, h1, h2⟩ := ihx N hN hL T s _ (show execF fi (n + 1) (comp E N x) T s (fun e T' s' => Exi.rec (execF fi n (.loop (comp E N x)) T' s' k) (fun i => k (.exit i) T' s') (k .ret T' s') e) = true from h)
        cases e with
        | normal =>
          obtain ⟨e', T2, s2, h3, r, h4⟩ := ih2 N x hN hL T1 s1 k h1
          refine ⟨e', T2, s2, h3, fun ν hν m a base w0 w hT hR Q K => wp_loop_rounds (r + 1) (h2 ν hν m a base w0 w hT hR _ fun m1 a1 w1 hT1 hR1 hA1 => ?_)⟩
          exact h4 ν hν m1 a1 base w0 w1 hT1 hR1 Q fun m' a' w' hT' hR' hA' => K m' a' w' hT' hR' (hA1.trans hA')
        | exit i => exact ⟨.exit i, T1, s1, h1, fun ν hν m a base w0 w hT hR Q K => wp_loop_rounds 1 (h2 ν hν m a base w0 w hT hR _ fun m1 a1 w1 hT1 hR1 hA1 => K m1 a1 w1 hT1 hR1 hA1)⟩
        | ret => exact ⟨.ret, T1, s1, h1, fun ν hν m a base w0 w hT hR Q K => wp_loop_rounds 1 (h2 ν hν m a base w0 w hT hR _ fun m1 a1 w1 hT1 hR1 hA1 => K m1 a1 w1 hT1 hR1 hA1)⟩
      | _ => exact fun N hN hL T s k h => nomatch (show false = true from h)
    refine ⟨fun N c => hex c N, fun N c hN hL T s k h => ?_, fun _ _ _ => rfl⟩
    obtain ⟨e, T1, s1, h1, h2⟩ := hex c N hN hL T s _ (show execF fi (n + 1) (comp E N c) T s (fun e T' s' => Exi.rec (execF fi n (.loop (comp E N c)) T' s' k) (fun i => k (.exit i) T' s') (k .ret T' s') e) = true from h)
    cases e with
    | normal =>
      obtain ⟨e', T2, s2, h3, r, h4⟩ := ih2 N c hN hL T1 s1 k h1
      refine ⟨e', T2, s2, h3, r + 1, fun ν hν m a base w0 w hT hR Q K => (h2 ν hν m a base w0 w hT hR _ fun m1 a1 w1 hT1 hR1 hA1 => ?_)⟩
      exact h4 ν hν m1 a1 base w0 w1 hT1 hR1 Q fun m' a' w' hT' hR' hA' => K m' a' w' hT' hR' (hA1.trans hA')
    | exit i => exact ⟨.exit i, T1, s1, h1, 1, fun ν hν m a base w0 w hT hR Q K => (h2 ν hν m a base w0 w hT hR _ fun m1 a1 w1 hT1 hR1 hA1 => K m1 a1 w1 hT1 hR1 hA1)⟩
    | ret => exact ⟨.ret, T1, s1, h1, 1, fun ν hν m a base w0 w hT hR Q K => (h2 ν hν m a base w0 w hT hR _ fun m1 a1 w1 hT1 hR1 hA1 => K m1 a1 w1 hT1 hR1 hA1)⟩
end Go.Xc
end
section
/- Regions that draw their order: what the run in the order of the text has shown. -/
namespace Go.Xc

variable {E : Env}

inductive Kd where
  | skip | val | new (b : FB) | row (r : Option RR) | map (b : Pos) | wr

def ValRuns (E : Env) (N : TC) (o : Oper) (T : FT) (v : FV) (Pre : Int → Mp → World → Prop) : Prop :=
  ∀ ν, E.c.has ν → ∀ m D a, TR ν m N D T a → (∀ t, Operand.tmp t ∈ o.op.operands.toList → D t) → ∀ w, Pre ν m w → ∃ u, (execOp a.eval o).run E.P w = .ok (.value u) w ∧ VR ν m v u
def RowAt (s : FS) (r : Option RR) (l : List FV) : Prop :=
  match r with | none => l = [] | some r => ∃ cs n, s.h.get r.b = some (.cells cs n) ∧ r.o ≤ cs.length ∧ r.n ≤ (cs.drop r.o).length ∧ l = (cs.drop r.o).take r.n
/-- What a step has done. -/
def ExecF (E : Env) (N : TC) (o : Oper) (T : FT) (s : FS) (v : FV) (s' : FS) : Kd → Prop
  | .skip => s' = s ∧ v = .undef
  | .val => s' = s ∧ ValRuns E N o T v fun _ _ _ => True
  | .new b => s' = ⟨s.h.set s.nx (some b), s.nx.succ⟩ ∧ ∃ mk, v = mk s.nx ∧ ∀ ν, E.c.has ν → ∀ m D a, TR ν m N D T a → (∀ t, Operand.tmp t ∈ o.op.operands.toList → D t) → ∀ w, QRun E.P ν m o a w (.new b mk)
  | .row r => s' = s ∧ ∃ l, RowAt s r l ∧ ValRuns E N o T v fun ν m w => RowIn ν m w r l
  | .map b => s' = s ∧ ∃ es, s.h.get b = some (.mp es) ∧ ValRuns E N o T v fun ν m w => ∀ p, m b = some p → BlkOk ν m w p (.mp es)
  | .wr => StepsTo E N o T s v s' ∧ isWr (cop E N o.op) = true
def GuardF (ops : Array Oper) (o : Oper) (T : FT) (kd : Kd) : Prop :=
  match o.guard with
  | none => kd ≠ .skip
  | some (g, w) => ∃ d gv, (ops[g]?).bind (·.dst) = some d ∧ T.t.get (Pos.of d) = some gv ∧ ((gv = .bool w ∧ kd ≠ .skip) ∨ ((gv = .undef ∨ gv = .bool (!w)) ∧ kd = .skip))
def dstD (o : Oper) : Dst := match o.dst with
  | some d => .t (Pos.of d)
  | none => .no
structure Pt where
  T : FT
  s : FS
structure StepF (E : Env) (N : TC) (ops : Array Oper) (o : Oper) (p p' : Pt) (v : FV) (kd : Kd) : Prop where
  T : p'.T = putD (dstD o) p.T v
  ex : ExecF E N o p.T p.s v p'.s kd
  g : GuardF ops o p.T kd
/-- The steps ahead of j. -/
structure TrF (E : Env) (N : TC) (ops : Array Oper) (bs : List Nat) (j : Nat) (pt : Nat → Pt) (val : Nat → FV) (kd : Nat → Kd) : Prop where
  st : ∀ i o, i < j → ops[i]? = some o → StepF E N ops o (pt i) (pt (i + 1)) (val i) (kd i)
  wl : ∀ i i' r, i < i' → i' < j → kd i = .wr → kd i' = .row (some r) → (bs.getD i' 0).testBit i = true ∨ sameC (pt i).s (pt (i + 1)).s r = true
  lw : ∀ i i' r, i < i' → i' < j → kd i = .row (some r) → kd i' = .wr → (bs.getD i' 0).testBit i = true ∨ sameC (pt i').s (pt (i' + 1)).s r = true
  wm : ∀ i i' b, i < i' → i' < j → kd i = .wr → kd i' = .map b → (bs.getD i' 0).testBit i = true ∨ sameB (pt i).s (pt (i + 1)).s b = true
  mw : ∀ i i' b, i < i' → i' < j → kd i = .map b → kd i' = .wr → (bs.getD i' 0).testBit i = true ∨ sameB (pt i').s (pt (i' + 1)).s b = true
  aw : ∀ i i' b, i < i' → i' < j → kd i = .new b → kd i' = .wr → (bs.getD i' 0).testBit i = true ∨ sameB (pt i').s (pt (i' + 1)).s (pt i).s.nx = true
/-- What is kept of them. -/
structure TrK (j : Nat) (pt : Nat → Pt) (kd : Nat → Kd) (tr : List TE) : Prop where
  w : ∀ i, i < j → kd i = .wr → TE.w i (pt i).s (pt (i + 1)).s ∈ tr
  l : ∀ i r, i < j → kd i = .row (some r) → TE.l i r ∈ tr
  m : ∀ i b, i < j → kd i = .map b → TE.m i b ∈ tr
  a : ∀ i b, i < j → kd i = .new b → TE.a i (pt i).s.nx ∈ tr
theorem chkL_mem {bef : Nat} {f : FS → FS → Bool} : ∀ {tr : List TE}, chkL bef f tr = true → ∀ ix s0 s1, TE.w ix s0 s1 ∈ tr → bef.testBit ix = true ∨ f s0 s1 = true
  | [], _, _, _, _, hm => by simp at hm
  | .w ix s0 s1 :: r, h, ix', s0', s1', hm => by
    simp only [chkL, Bool.and_eq_true, Bool.or_eq_true] at h
    rcases List.mem_cons.1 hm with e | hm
    · cases e; exact h.1
    · exact chkL_mem h.2 _ _ _ hm
  | .l _ _ :: r, h, _, _, _, hm => by
    rcases List.mem_cons.1 hm with e | hm
    · cases e
    · exact chkL_mem (by simpa [chkL] using h) _ _ _ hm
  | .m _ _ :: r, h, _, _, _, hm => by
    rcases List.mem_cons.1 hm with e | hm
    · cases e
    · exact chkL_mem (by simpa [chkL] using h) _ _ _ hm
  | .a _ _ :: r, h, _, _, _, hm => by
    rcases List.mem_cons.1 hm with e | hm
    · cases e
    · exact chkL_mem (by simpa [chkL] using h) _ _ _ hm
theorem chkW_mem {bef : Nat} {s0 s1 : FS} : ∀ {tr : List TE}, chkW bef s0 s1 tr = true →
    (∀ ix q, TE.l ix q ∈ tr → bef.testBit ix = true ∨ sameC s0 s1 q = true) ∧ (∀ ix p, TE.m ix p ∈ tr → bef.testBit ix = true ∨ sameB s0 s1 p = true) ∧ (∀ ix p, TE.a ix p ∈ tr → bef.testBit ix = true ∨ sameB s0 s1 p = true)
  | [], _ => by simp
  | .w _ _ _ :: r, h => by
    obtain ⟨h1, h2, h3⟩ := chkW_mem (by simpa [chkW] using h : chkW bef s0 s1 r = true)
    refine ⟨fun ix q hm => ?_, fun ix q hm => ?_, fun ix q hm => ?_⟩ <;> rcases List.mem_cons.1 hm with e | hm <;> first | (cases e; done) | exact h1 _ _ hm | exact h2 _ _ hm | exact h3 _ _ hm
  | .l _ _ :: r, h => by
    simp only [chkW, Bool.and_eq_true, Bool.or_eq_true] at h
    obtain ⟨h1, h2, h3⟩ := chkW_mem h.2
    refine ⟨fun ix q hm => ?_, fun ix q hm => ?_, fun ix q hm => ?_⟩ <;> rcases List.mem_cons.1 hm with e | hm <;> first | (cases e; done) | (cases e; exact h.1) | exact h1 _ _ hm | exact h2 _ _ hm | exact h3 _ _ hm
  | .m _ _ :: r, h => by
    simp only [chkW, Bool.and_eq_true, Bool.or_eq_true] at h
    obtain ⟨h1, h2, h3⟩ := chkW_mem h.2
    refine ⟨fun ix q hm => ?_, fun ix q hm => ?_, fun ix q hm => ?_⟩ <;> rcases List.mem_cons.1 hm with e | hm <;> first | (cases e; done) | (cases e; exact h.1) | exact h1 _ _ hm | exact h2 _ _ hm | exact h3 _ _ hm
  | .a _ _ :: r, h => by
    simp only [chkW, Bool.and_eq_true, Bool.or_eq_true] at h
    obtain ⟨h1, h2, h3⟩ := chkW_mem h.2
    refine ⟨fun ix q hm => ?_, fun ix q hm => ?_, fun ix q hm => ?_⟩ <;> rcases List.mem_cons.1 hm with e | hm <;> first | (cases e; done) | (cases e; exact h.1) | exact h1 _ _ hm | exact h2 _ _ hm | exact h3 _ _ hm
/-- A step of the run in the order of the text. -/
theorem stepD_inv (hE : EnvOk E) {call : CallT} (hc : CallOk E call) {N : TC} {o : Oper} {e : DE} (hx : e.x = cop E N o.op) {T : FT} {s : FS} {tr : List TE} {k : FV → FS → List TE → Bool} (h : stepD e call T s tr k = true) :
    ∃ v s' kd tr', k v s' tr' = true ∧ kd ≠ .skip ∧ ExecF E N o T s v s' kd ∧
      (kd = .wr → chkW e.bef s s' tr = true ∧ tr' = .w e.ix s s' :: tr) ∧
      (∀ r, kd = .row (some r) → chkL e.bef (fun a b => sameC a b r) tr = true ∧ tr' = .l e.ix r :: tr) ∧
      (∀ b, kd = .map b → chkL e.bef (fun a a' => sameB a a' b) tr = true ∧ tr' = .m e.ix b :: tr) ∧
      (∀ b, kd = .new b → tr' = .a e.ix s.nx :: tr) ∧ (∀ te, te ∈ tr → te ∈ tr') := by
  have hok := cop_ok hE N o
  rw [← hx] at hok
  unfold stepD at h
  cases hxx : e.x with
  | q f =>
    rw [hxx] at h hok
    obtain ⟨qr, h1, h2⟩ := hok T _ h
    cases qr with
    | val v => exact ⟨v, s, .val, tr, h1, by simp, ⟨rfl, fun ν hν m D a hT hD w _ => h2 ν hν m D a hT hD w⟩, by simp, by simp, by simp, by simp, fun _ h => h⟩
    | new b mk => exact ⟨mk s.nx, _, .new b, _, h1, by simp, ⟨rfl, mk, rfl, fun ν hν m D a hT hD w => h2 ν hν m D a hT hD w⟩, by simp, by simp, by simp, fun b _ => rfl, fun _ h => List.mem_cons_of_mem _ h⟩
  | l f post =>
    rw [hxx] at h hok
    obtain ⟨r, h1, h2⟩ := hok T _ h
    obtain ⟨l, h3, h4, h5⟩ := rdR_inv h1
    obtain ⟨v, h6, h7⟩ := h2 l _ h3
    have hv : ExecF E N o T s v s (.row r) := ⟨rfl, l, (by cases r <;> exact h5), fun ν hν m D a hT hD w hp => h7 ν hν m D a hT hD w (by cases r <;> exact hp) h4⟩
    cases r with
    | none => exact ⟨v, s, .row none, tr, h6, by simp, hv, by simp, by simp, by simp, by simp, fun _ h => h⟩
    | some r =>
      obtain ⟨h8, h9⟩ := ifK_left h6
      exact ⟨v, s, .row (some r), _, h9, by simp, hv, by simp, fun r' e => by cases e; exact ⟨h8, rfl⟩, by simp, by simp, fun _ h => List.mem_cons_of_mem _ h⟩
  | m c mo ko z =>
    rw [hxx] at h hok
    obtain ⟨b, es, v, h1, h2, h3⟩ := hok T s _ h
    obtain ⟨h8, h9⟩ := ifK_left h2
    exact ⟨v, s, .map b, _, h9, by simp, ⟨rfl, es, h1, fun ν hν m D a hT hD w hp => h3 ν hν m D a hT hD w hp⟩, by simp, by simp, fun b' e => by cases e; exact ⟨h8, rfl⟩, by simp, fun _ h => List.mem_cons_of_mem _ h⟩
  | w a =>
    rw [hxx] at h hok
    obtain ⟨v, s', h1, h2⟩ := hok call hc T s _ h
    obtain ⟨h8, h9⟩ := ifK_left h1
    exact ⟨v, s', .wr, _, h9, by simp, ⟨h2, by rw [← hx, hxx]; rfl⟩, fun _ => ⟨h8, rfl⟩, by simp, by simp, by simp, fun _ h => List.mem_cons_of_mem _ h⟩
end Go.Xc
end
section
/- The run in the order of the text, whole. -/
namespace Go.Xc

variable {E : Env}

theorem trf_step {N : TC} {ops : Array Oper} {bs : List Nat} {j : Nat} {pt : Nat → Pt} {val : Nat → FV} {kd : Nat → Kd} {tr tr' : List TE} (h : TrF E N ops bs j pt val kd) (hk : TrK j pt kd tr) {o : Oper} {p : Pt} {v : FV} {q : Kd} (ho : ops[j]? = some o)
    (hs : StepF E N ops o (pt j) p v q)
    (c1 : q = .wr → chkW (bs.getD j 0) (pt j).s p.s tr = true ∧ tr' = .w j (pt j).s p.s :: tr)
    (c2 : ∀ r, q = .row (some r) → chkL (bs.getD j 0) (fun a b => sameC a b r) tr = true ∧ tr' = .l j r :: tr)
    (c3 : ∀ b, q = .map b → chkL (bs.getD j 0) (fun a a' => sameB a a' b) tr = true ∧ tr' = .m j b :: tr)
    (c4 : ∀ b, q = .new b → tr' = .a j (pt j).s.nx :: tr) (c5 : ∀ te, te ∈ tr → te ∈ tr') :
    TrF E N ops bs (j + 1) (fun i => if i = j + 1 then p else pt i) (fun i => if i = j then v else val i) (fun i => if i = j then q else kd i) ∧
    TrK (j + 1) (fun i => if i = j + 1 then p else pt i) (fun i => if i = j then q else kd i) tr' := by
  have e1 : ∀ i, i < j + 1 → (if i = j + 1 then p else pt i) = pt i := fun i hi => if_neg (by omega)
  have e2 : ∀ i, i < j → (if i + 1 = j + 1 then p else pt (i + 1)) = pt (i + 1) := fun i hi => if_neg (by omega)
  have e3 : ∀ i, i < j → (if i = j then q else kd i) = kd i := fun i hi => if_neg (by omega)
  have e4 : ∀ i, i < j → (if i = j then v else val i) = val i := fun i hi => if_neg (by omega)
  refine ⟨⟨?_, ?_, ?_, ?_, ?_, ?_⟩, ⟨?_, ?_, ?_, ?_⟩⟩
  · intro i o' hi ho'
    by_cases hij : i = j
    · subst hij
      rw [ho] at ho'
      cases ho'
      simp only [if_true]
      rw [e1 i (by omega)]
      exact hs
    · have hi' : i < j := by omega
      rw [e1 i (by omega), e2 i hi', e3 i hi', e4 i hi']
      exact h.st i o' hi' ho'
  · intro i i' r h1 h2 h3 h4
    have hi : i < j := by omega
    simp only [e3 i hi] at h3
    rw [e1 i (by omega), e2 i hi]
    by_cases hij : i' = j
    · subst hij
      simp only [if_true] at h4
      exact chkL_mem (c2 r h4).1 i _ _ (hk.w i hi h3)
    · simp only [e3 i' (by omega)] at h4
      exact h.wl i i' r h1 (by omega) h3 h4
  · intro i i' r h1 h2 h3 h4
    have hi : i < j := by omega
    simp only [e3 i hi] at h3
    rw [e1 i' (by omega)]
    by_cases hij : i' = j
    · subst hij
      simp only [if_true] at h4 ⊢
      exact (chkW_mem (c1 h4).1).1 i r (hk.l i r hi h3)
    · simp only [e3 i' (by omega)] at h4
      rw [e2 i' (by omega)]
      exact h.lw i i' r h1 (by omega) h3 h4
  · intro i i' r h1 h2 h3 h4
    have hi : i < j := by omega
    simp only [e3 i hi] at h3
    rw [e1 i (by omega), e2 i hi]
    by_cases hij : i' = j
    · subst hij
      simp only [if_true] at h4
      exact chkL_mem (c3 r h4).1 i _ _ (hk.w i hi h3)
    · simp only [e3 i' (by omega)] at h4
      exact h.wm i i' r h1 (by omega) h3 h4
  · intro i i' r h1 h2 h3 h4
    have hi : i < j := by omega
    simp only [e3 i hi] at h3
    rw [e1 i' (by omega)]
    by_cases hij : i' = j
    · subst hij
      simp only [if_true] at h4 ⊢
      exact (chkW_mem (c1 h4).1).2.1 i r (hk.m i r hi h3)
    · simp only [e3 i' (by omega)] at h4
      rw [e2 i' (by omega)]
      exact h.mw i i' r h1 (by omega) h3 h4
  · intro i i' b h1 h2 h3 h4
    have hi : i < j := by omega
    simp only [e3 i hi] at h3
    rw [e1 i' (by omega), e1 i (by omega)]
    by_cases hij : i' = j
    · subst hij
      simp only [if_true] at h4 ⊢
      exact (chkW_mem (c1 h4).1).2.2 i _ (hk.a i b hi h3)
    · simp only [e3 i' (by omega)] at h4
      rw [e2 i' (by omega)]
      exact h.aw i i' b h1 (by omega) h3 h4
  · intro i hi h3
    by_cases hij : i = j
    · subst hij
      simp only [if_true] at h3 ⊢
      rw [e1 i (by omega), (c1 h3).2]
      exact List.mem_cons_self
    · simp only [e3 i (by omega)] at h3
      rw [e1 i (by omega), e2 i (by omega)]
      exact c5 _ (hk.w i (by omega) h3)
  · intro i r hi h3
    by_cases hij : i = j
    · subst hij
      simp only [if_true] at h3
      rw [(c2 r h3).2]
      exact List.mem_cons_self
    · simp only [e3 i (by omega)] at h3
      exact c5 _ (hk.l i r (by omega) h3)
  · intro i b hi h3
    by_cases hij : i = j
    · subst hij
      simp only [if_true] at h3
      rw [(c3 b h3).2]
      exact List.mem_cons_self
    · simp only [e3 i (by omega)] at h3
      exact c5 _ (hk.m i b (by omega) h3)
  · intro i b hi h3
    by_cases hij : i = j
    · subst hij
      simp only [if_true] at h3
      rw [e1 i (by omega), c4 b h3]
      exact List.mem_cons_self
    · simp only [e3 i (by omega)] at h3
      rw [e1 i (by omega)]
      exact c5 _ (hk.a i b (by omega) h3)
/-- The guard's maker. -/
theorem des_g {N : TC} {ops : Array Oper} {bs : List Nat} {j : Nat} {o : Oper} {r : List Oper} : des E N ops bs j (o :: r) = (DE.mk j (bs.getD j 0) (cop E N o.op) (match o.guard with
      | none => none
      | some (g, w) => match (ops[g]?).bind (·.dst) with
        | some d => some (Pos.of d, w)
        | none => none) (dstD o)) :: des E N ops bs (Nat.succ j) r := rfl
theorem runD_inv (hE : EnvOk E) {call : CallT} (hc : CallOk E call) {N : TC} {ops : Array Oper} {bs : List Nat} {k : FT → FS → Bool} :
    ∀ (l : List Oper) (j : Nat), l = ops.toList.drop j → j + l.length = ops.size → (∀ (i : Nat) (o : Oper) g w, ops[i]? = some o → o.guard = some (g, w) → ∃ d, (ops[g]?).bind (·.dst) = some d) → ∀ (pt : Nat → Pt) (val : Nat → FV) (kd : Nat → Kd) (tr : List TE), TrF E N ops bs j pt val kd → TrK j pt kd tr →
      runD call (des E N ops bs j l) (pt j).T (pt j).s tr k = true → ∃ pt' val' kd', k (pt' ops.size).T (pt' ops.size).s = true ∧ TrF E N ops bs ops.size pt' val' kd' ∧ ∀ i, i ≤ j → pt' i = pt i
  | [], j, hl, hn, _, pt, val, kd, tr, h, hk, hr => by
    have hj : j = ops.size := by simpa using hn
    subst hj
    exact ⟨pt, val, kd, hr, h, fun _ _ => rfl⟩
  | o :: l, j, hl, hn, hgs, pt, val, kd, tr, h, hk, hr => by
    have ho : ops[j]? = some o := by
      have := congrArg (·[0]?) hl
      simp only [List.getElem?_cons_zero, List.getElem?_drop, Nat.add_zero, Array.getElem?_toList] at this
      exact this.symm
    have hl' : l = ops.toList.drop (j + 1) := by
      have := congrArg List.tail hl
      simpa using this
    have hn' : (j + 1) + l.length = ops.size := by simp only [List.length_cons] at hn; omega
    -- it is done
    have did : ∀ (e : DE), e.ix = j → e.bef = bs.getD j 0 → e.x = cop E N o.op → e.d = dstD o → GuardF ops o (pt j).T .wr → stepD e call (pt j).T (pt j).s tr (fun v s' tr' => runD call (des E N ops bs (Nat.succ j) l) (putD e.d (pt j).T v) s' tr' k) = true →
        ∃ pt' val' kd', k (pt' ops.size).T (pt' ops.size).s = true ∧ TrF E N ops bs ops.size pt' val' kd' ∧ ∀ i, i ≤ j → pt' i = pt i := by
      intro e h1 h2 h3 h4 hg hs
      obtain ⟨v, s', q, tr', g1, g2, g3, g4, g5, g6, g7, g8⟩ := stepD_inv hE hc h3 hs
      rw [h1, h2] at g4 g5 g6
      rw [h1] at g7
      rw [h4] at g1
      have hg' : GuardF ops o (pt j).T q := by
        unfold GuardF at hg ⊢
        cases hgo : o.guard with
        | none => exact g2
        | some gw =>
          obtain ⟨g, w⟩ := gw
          rw [hgo] at hg
          obtain ⟨d, gv, a1, a2, a3⟩ := hg
          refine ⟨d, gv, a1, a2, ?_⟩
          rcases a3 with ⟨a3, _⟩ | ⟨_, a3⟩
          · exact .inl ⟨a3, g2⟩
          · cases a3
      obtain ⟨t1, t2⟩ := trf_step h hk ho (p := ⟨putD (dstD o) (pt j).T v, s'⟩) ⟨rfl, g3, hg'⟩ g4 g5 g6 g7 g8
      have := runD_inv hE hc l (j + 1) hl' hn' hgs _ _ _ tr' t1 t2 (by simp only [if_true]; exact g1)
      obtain ⟨pt', val', kd', r1, r2, r3⟩ := this
      exact ⟨pt', val', kd', r1, r2, fun i hi => by rw [r3 i (by omega)]; exact if_neg (by omega)⟩
    have not : ∀ d, d = dstD o → GuardF ops o (pt j).T .skip → runD call (des E N ops bs (Nat.succ j) l) (putD d (pt j).T .undef) (pt j).s tr k = true →
        ∃ pt' val' kd', k (pt' ops.size).T (pt' ops.size).s = true ∧ TrF E N ops bs ops.size pt' val' kd' ∧ ∀ i, i ≤ j → pt' i = pt i := by
      intro d hd hg hs
      subst hd
      obtain ⟨t1, t2⟩ := trf_step (tr' := tr) h hk ho (p := ⟨putD (dstD o) (pt j).T .undef, (pt j).s⟩) (v := .undef) (q := .skip) ⟨rfl, ⟨rfl, rfl⟩, hg⟩ (by simp) (by simp) (by simp) (by simp) (fun _ h => h)
      have := runD_inv hE hc l (j + 1) hl' hn' hgs _ _ _ tr t1 t2 (by simp only [if_true]; exact hs)
      obtain ⟨pt', val', kd', r1, r2, r3⟩ := this
      exact ⟨pt', val', kd', r1, r2, fun i hi => by rw [r3 i (by omega)]; exact if_neg (by omega)⟩
    rw [des_g] at hr
    cases hg : o.guard with
    | none =>
      rw [hg] at hr
      exact did _ rfl rfl rfl rfl (by unfold GuardF; rw [hg]; simp) hr
    | some gw =>
      obtain ⟨g, w⟩ := gw
      obtain ⟨d, hd⟩ := hgs j o g w ho hg
      simp only [hg, hd] at hr
      obtain ⟨gv, h1, h2⟩ := optK_inv (show optK (PT.get (pt j).T.t (Pos.of d)) _ = true from hr)
      rcases guardK_inv h2 with ⟨rfl, h3⟩ | ⟨b, rfl, h3⟩
      · exact not _ rfl (by unfold GuardF; rw [hg]; exact ⟨d, _, hd, h1, .inr ⟨.inl rfl, rfl⟩⟩) h3
      · by_cases hb : b = w
        · subst hb
          refine did ⟨j, bs.getD j 0, cop E N o.op, some (Pos.of d, b), dstD o⟩ rfl rfl rfl rfl (by unfold GuardF; rw [hg]; exact ⟨d, _, hd, h1, .inl ⟨rfl, by simp⟩⟩) ?_
          cases b <;> exact h3
        · refine not (dstD o) rfl (by unfold GuardF; rw [hg]; exact ⟨d, _, hd, h1, .inr ⟨.inr (by cases b <;> cases w <;> first | rfl | exact absurd rfl hb), rfl⟩⟩) ?_
          cases b <;> cases w <;> first
            | exact absurd rfl hb
            | exact h3
end Go.Xc
end
section
/- Regions that draw their order: what is known of them ahead of the run. -/
namespace Go.Xc

variable {E : Env}

structure StF (E : Env) (N : TC) (ops : Array Oper) (bs : List Nat) : Prop where
  dst : ∀ (i j : Nat) (oi oj : Oper) d, i < j → ops[i]? = some oi → ops[j]? = some oj → oi.dst = some d → oj.dst ≠ some d
  rd : ∀ (i j : Nat) (oi oj : Oper) d, i < j → ops[i]? = some oi → ops[j]? = some oj → oi.dst = some d → Operand.tmp d ∈ oj.op.operands.toList → (bs.getD j 0).testBit i = true
  ov : ∀ (i j : Nat) (oi oj : Oper) d, i < j → ops[i]? = some oi → ops[j]? = some oj → oj.dst = some d → Operand.tmp d ∈ oi.op.operands.toList → (bs.getD j 0).testBit i = true
  ww : ∀ (i j : Nat) (oi oj : Oper), i < j → ops[i]? = some oi → ops[j]? = some oj → isWr (cop E N oi.op) = true → isWr (cop E N oj.op) = true → (bs.getD j 0).testBit i = true
  self : ∀ (j : Nat) (oj : Oper) d, ops[j]? = some oj → oj.dst = some d → Operand.tmp d ∉ oj.op.operands.toList
  dN : ∀ (j : Nat) (oj : Oper) d, ops[j]? = some oj → oj.dst = some d → d < N.N
  gd : ∀ (j : Nat) (oj : Oper) g w, ops[j]? = some oj → oj.guard = some (g, w) → (bs.getD j 0).testBit g = true ∧ ∃ d, (ops[g]?).bind (·.dst) = some d
  aft : ∀ (j : Nat) (oj : Oper) e, ops[j]? = some oj → e ∈ oj.after → Region.binds .any e = true → e.on < j
  bit : ∀ (j : Nat) (oj : Oper) i, ops[j]? = some oj → (bs.getD j 0).testBit i = true → ∃ e ∈ oj.after, Region.binds .any e = true ∧ (i = e.on ∨ (bs.getD e.on 0).testBit i = true)

theorem isTmp_any {l : List Operand} {d : Nat} : l.any (isTmp d) = true ↔ Operand.tmp d ∈ l := by
  rw [List.any_eq_true]
  constructor
  · rintro ⟨x, hx, h⟩
    cases x with
    | tmp t =>
      have := Nat.eq_of_beq_eq_true h
      subst this
      exact hx
    | _ => simp [isTmp] at h
  · intro h
    exact ⟨_, h, by simp [isTmp]⟩
theorem bef1_bit {acc : List Nat} {i : Nat} : ∀ {es : List Edge}, (bef1 acc es).testBit i = true → ∃ e ∈ es, Region.binds .any e = true ∧ (i = e.on ∨ (acc.getD e.on 0).testBit i = true)
  | [], h => by simp [bef1] at h
  | e :: r, h => by
    unfold bef1 at h
    cases hb : Region.binds .any e with
    | false =>
      simp only [hb, cond_false] at h
      obtain ⟨e', h1, h2⟩ := bef1_bit h
      exact ⟨e', List.mem_cons_of_mem _ h1, h2⟩
    | true =>
      simp only [hb, cond_true] at h
      have h' : (((1 <<< e.on) ||| acc.getD e.on 0) ||| bef1 acc r).testBit i = true := h
      rw [Nat.testBit_or, Nat.testBit_or, Bool.or_eq_true, Bool.or_eq_true] at h'
      rcases h' with (h' | h') | h'
      · refine ⟨e, List.mem_cons_self, hb, .inl ?_⟩
        rw [Nat.testBit_shiftLeft, Bool.and_eq_true, Nat.testBit_one_eq_true_iff_self_eq_zero] at h'
        have := h'.1
        simp at this
        omega
      · exact ⟨e, List.mem_cons_self, hb, .inr h'⟩
      · obtain ⟨e', h1, h2⟩ := bef1_bit h'
        exact ⟨e', List.mem_cons_of_mem _ h1, h2⟩
theorem befs_pre : ∀ (l : List Oper) (acc : List Nat) (j : Nat), j < acc.length → (befs acc l).getD j 0 = acc.getD j 0
  | [], acc, j, _ => rfl
  | o :: l, acc, j, h => by
    unfold befs
    rw [befs_pre l _ j (by simp; omega)]
    simp [List.getD, List.getElem?_append_left h]
theorem befs_at : ∀ (l : List Oper) (acc : List Nat) (k : Nat) (o : Oper), l[k]? = some o → ∃ acc', (befs acc l).getD (acc.length + k) 0 = bef1 acc' o.after.toList ∧ ∀ x i, (acc'.getD x 0).testBit i = true → ((befs acc l).getD x 0).testBit i = true
  | [], acc, k, o, h => by simp at h
  | o' :: l, acc, 0, o, h => by
    simp only [List.getElem?_cons_zero, Option.some.injEq] at h
    subst h
    unfold befs
    refine ⟨acc, ?_, fun x i hx => ?_⟩
    · rw [befs_pre l _ (acc.length + 0) (by simp)]
      simp [List.getD]
    · have hx' : x < acc.length := by
        rcases Nat.lt_or_ge x acc.length with g | g
        · exact g
        · simp [List.getD, List.getElem?_eq_none g] at hx
      rw [befs_pre l _ x (by simp; omega)]
      simpa [List.getD, List.getElem?_append_left hx'] using hx
  | o' :: l, acc, k + 1, o, h => by
    obtain ⟨acc', h1, h2⟩ := befs_at l (acc ++ [bef1 acc o'.after.toList]) k o (by simpa using h)
    refine ⟨acc', ?_, h2⟩
    unfold befs
    rw [← h1]
    congr 1
    simp; omega
theorem okRow_at {N : TC} {ops : Array Oper} {oj : Oper} {bj : Nat} : ∀ {l : List Oper} {i : Nat}, okRow E N ops oj bj i l = true → ∀ k o, l[k]? = some o → okPair E N ops oj bj (i + k) o = true
  | [], i, h, k, o, hk => by simp at hk
  | o' :: l, i, h, 0, o, hk => by
    simp only [List.getElem?_cons_zero, Option.some.injEq] at hk
    subst hk
    simp only [okRow, Bool.and_eq_true] at h
    exact h.1
  | o' :: l, i, h, k + 1, o, hk => by
    simp only [okRow, Bool.and_eq_true] at h
    have := okRow_at h.2 k o (by simpa using hk)
    rwa [show Nat.succ i + k = i + (k + 1) by omega] at this
theorem okD_at {N : TC} {ops : Array Oper} {bs : List Nat} : ∀ {l : List Oper} {j : Nat}, okD E N ops bs j l = true → ∀ k o, l[k]? = some o → okD E N ops bs (j + k) (o :: l.drop (k + 1)) = true
  | [], j, h, k, o, hk => by simp at hk
  | o' :: l, j, h, 0, o, hk => by
    simp only [List.getElem?_cons_zero, Option.some.injEq] at hk
    subst hk
    exact h
  | o' :: l, j, h, k + 1, o, hk => by
    have h2 : okD E N ops bs (Nat.succ j) l = true := by
      simp only [okD, Bool.and_eq_true] at h
      exact h.2
    have := okD_at h2 k o (by simpa using hk)
    rw [show Nat.succ j + k = j + (k + 1) by omega] at this
    simpa using this
theorem stF_of {N : TC} {ops : Array Oper} (h : okD E N ops (befs [] ops.toList) 0 ops.toList = true) : StF E N ops (befs [] ops.toList) := by
  have at' : ∀ (j : Nat) (oj : Oper), ops[j]? = some oj → okRow E N ops oj ((befs [] ops.toList).getD j 0) 0 (ops.toList.take j) = true ∧ dOk N.N oj.dst = true ∧ oj.after.toList.all (fun e => !(Region.binds .any e) || Nat.blt e.on j) = true ∧
      (match oj.dst with | some d => !(oj.op.operands.toList.any (isTmp d)) | none => true) = true ∧
      (match oj.guard with
        | none => true
        | some (g, _) => ((befs [] ops.toList).getD j 0).testBit g && (match (ops[g]?).bind (·.dst) with | some _ => true | none => false)) = true := by
    intro j oj hj
    have := okD_at h j oj (by simpa using hj)
    rw [Nat.zero_add] at this
    simp only [okD, Bool.and_eq_true] at this
    exact ⟨this.1.1.1.1.1, this.1.1.1.1.2, this.1.1.1.2, this.1.1.2, this.1.2⟩
  have pair : ∀ (i j : Nat) (oi oj : Oper), i < j → ops[i]? = some oi → ops[j]? = some oj → okPair E N ops oj ((befs [] ops.toList).getD j 0) i oi = true := by
    intro i j oi oj hij hi hj
    have := okRow_at (at' j oj hj).1 i oi (by rw [List.getElem?_take, if_pos hij]; simpa using hi)
    rwa [Nat.zero_add] at this
  refine ⟨?_, ?_, ?_, ?_, ?_, ?_, ?_, ?_, ?_⟩
  · intro i j oi oj d hij hi hj hd hd'
    have := pair i j oi oj hij hi hj
    simp [okPair, hd, hd'] at this
  · intro i j oi oj d hij hi hj hd hm
    have := pair i j oi oj hij hi hj
    simp only [okPair, hd, Bool.and_eq_true, Bool.or_eq_true, Bool.not_eq_true'] at this
    rcases this.1.1.1 with h | h
    · rw [isTmp_any.2 hm] at h; cases h
    · exact h
  · intro i j oi oj d hij hi hj hd hm
    have := pair i j oi oj hij hi hj
    simp only [okPair, hd, Bool.and_eq_true, Bool.or_eq_true, Bool.not_eq_true'] at this
    rcases this.1.2.1 with h | h
    · rw [isTmp_any.2 hm] at h; cases h
    · exact h
  · intro i j oi oj hij hi hj h1 h2
    have := pair i j oi oj hij hi hj
    simp only [okPair, Bool.and_eq_true, Bool.or_eq_true, Bool.not_eq_true', h1, h2, Bool.true_and] at this
    rcases this.2 with h | h
    · cases h
    · exact h
  · intro j oj d hj hd hm
    have := (at' j oj hj).2.2.2.1
    simp only [hd, Bool.not_eq_true'] at this
    rw [isTmp_any.2 hm] at this; cases this
  · intro j oj d hj hd
    have := (at' j oj hj).2.1
    simpa [hd, dOk] using this
  · intro j oj g w hj hg
    have := (at' j oj hj).2.2.2.2
    simp only [hg, Bool.and_eq_true] at this
    refine ⟨this.1, ?_⟩
    cases hd : (ops[g]?).bind (·.dst) with
    | none => rw [hd] at this; exact nomatch this.2
    | some d => exact ⟨d, rfl⟩
  · intro j oj e hj he hb
    have := (at' j oj hj).2.2.1
    rw [List.all_eq_true] at this
    have := this e (by simpa using he)
    simpa [hb] using this
  · intro j oj i hj hb
    obtain ⟨acc', h1, h2⟩ := befs_at ops.toList [] j oj (by simpa using hj)
    rw [List.length_nil, Nat.zero_add] at h1
    rw [h1] at hb
    obtain ⟨e, h3, h4, h5⟩ := bef1_bit hb
    exact ⟨e, by simpa using h3, h4, h5.imp id (h2 e.on i)⟩
end Go.Xc
end
section
/- The run in the order of the text is a run; what is meant by a value hangs on the blocks that it names. -/
namespace Go.Xc

variable {E : Env}

theorem wp_sat {P : Program} {o : Oper} {a : Go.Act} {w : World} {C : Prop} (h : o.wp P a w (fun _ _ => C) (fun _ _ _ => False)) : C := by
  unfold Oper.wp at h
  generalize (execOp a.eval o).run P w = r at h
  cases r with
  | ok n w' =>
    cases n with
    | value v => exact h
    | skip => exact h
    | defer d => exact h
    | enter f args =>
      obtain ⟨e, w'', fr, hR, _⟩ := (show Calls P f args w' _ from h) []
      cases e with
      | returned u => exact hR
      | panicked c => exact False.elim hR
      | outgrown => obtain ⟨_, _, hq⟩ := hR; exact False.elim hq
    | row row args =>
      obtain ⟨v, w'', hR, _⟩ := (show Rows P row args w' _ from h) default []
      exact hR
    | _ => exact False.elim h
  | halt x w' =>
    cases x with
    | panic v => exact False.elim h
    | _ => exact False.elim h
theorem steps_sat {N : TC} {o : Oper} {T : FT} {s s' : FS} {v : FV} (h : StepsTo E N o T s v s') {ν : Int} (hν : E.c.has ν) {m : Mp} {D : Nat → Prop} {a : Go.Act} {base : Nat} {w0 w : World} (hT : TR ν m N D T a) (hD : ∀ t, Operand.tmp t ∈ o.op.operands.toList → D t) (hR : Rel ν base w0 m s w) :
    ∃ m' u w', VR ν m' v u ∧ Rel ν base w0 m' s' w' ∧ After m s w m' s' w' :=
  wp_sat (h ν hν m D a base w0 w hT hD hR (fun _ _ => _) (fun _ _ _ => False) fun m' u w' h1 h2 h3 => ⟨m', u, w', h1, h2, h3⟩)

theorem dstD_cdst {N : TC} {o : Oper} {ν : Int} {m m' : Mp} {T : FT} {a : Go.Act} {v : FV} {u : Value} {D : Nat → Prop} (hN : N.N < 1000000) (hL : N.L = []) (hT : TR ν m N D T a) (hm : Ext m m') (hv : VR ν m' v u) (hd : ∀ d, o.dst = some d → d < N.N) :
    TR ν m' N D (putD (dstD o) T v) (a.put o.dst u) := by
  unfold dstD
  cases ho : o.dst with
  | none => exact ⟨hT.size, hT.defers, fun t x h1 h2 h3 h4 => VR_mono hm _ _ (hT.t t x h1 h2 h3 h4), fun t n x h1 _ _ => by rw [hL] at h1; simp [ixOf] at h1⟩
  | some d =>
    have hd := hd d ho
    refine ⟨by simpa [Go.Act.put] using hT.size, hT.defers, fun t x h1 h2 h3 h4 => ?_, fun t n x h1 _ _ => by rw [hL] at h1; simp [ixOf] at h1⟩
    by_cases e : t = d
    · subst e
      have h4 : (PT.set T.t (Pos.of t) (some v)).get (Pos.of t) = some x := h4
      rw [PT.get_set_same] at h4
      cases h4
      rw [getD_put_same (Nat.lt_of_lt_of_le hd hT.size)]; exact hv
    · have h4 : (PT.set T.t (Pos.of d) (some v)).get (Pos.of t) = some x := h4
      rw [PT.get_set_ne _ _ (fun e' => e (Pos.of_inj (Nat.lt_trans h1 hN) (Nat.lt_trans hd hN) e'))] at h4
      rw [getD_put e]
      exact VR_mono hm _ _ (hT.t t x h1 h2 h3 h4)
theorem rowAt_in {ν : Int} {base : Nat} {w0 : World} {m : Mp} {s : FS} {w : World} {r : Option RR} {l : List FV} (h : RowAt s r l) (hR : Rel ν base w0 m s w) : RowIn ν m w r l := by
  cases r with
  | none => exact h
  | some r =>
    obtain ⟨cs, n, g1, g2, g3, g4⟩ := h
    intro p hp
    exact ⟨cs, n, hR.ok _ _ p g1 hp, g3, g4⟩
/-- One step of the run in the order of the text. -/
theorem exec_sat {N : TC} {o : Oper} {T : FT} {s s' : FS} {v : FV} {kd : Kd} (h : ExecF E N o T s v s' kd) {ν : Int} (hν : E.c.has ν) {m : Mp} {a : Go.Act} {base : Nat} {w0 w : World} (hT : TR ν m N AllT T a) (hR : Rel ν base w0 m s w) :
    ∃ m' u w', VR ν m' v u ∧ Rel ν base w0 m' s' w' ∧ After m s w m' s' w' := by
  cases kd with
  | skip =>
    obtain ⟨rfl, rfl⟩ := h
    exact ⟨m, undef, w, rfl, hR, After.refl m _ w w rfl rfl rfl rfl hR.hd⟩
  | val =>
    obtain ⟨rfl, h⟩ := h
    obtain ⟨u, _, h2⟩ := h ν hν m AllT a hT (fun _ _ => trivial) w trivial
    exact ⟨m, u, w, h2, hR, After.refl m _ w w rfl rfl rfl rfl hR.hd⟩
  | new b =>
    obtain ⟨rfl, mk, rfl, h⟩ := h
    obtain ⟨u, obj, w', n, h3, h4, h5, h6, h7, h8, h9⟩ := h ν hν m AllT a hT (fun _ _ => trivial) w
    obtain ⟨m', g1, g2, g3⟩ := rel_new hR obj b n h4 h5 h6 h7 h8
    exact ⟨m', u, w', h9 m' _ g3.ext g1, g2, g3⟩
  | row r =>
    obtain ⟨rfl, l, h1, h⟩ := h
    obtain ⟨u, _, h2⟩ := h ν hν m AllT a hT (fun _ _ => trivial) w (rowAt_in h1 hR)
    exact ⟨m, u, w, h2, hR, After.refl m _ w w rfl rfl rfl rfl hR.hd⟩
  | map b =>
    obtain ⟨rfl, es, h1, h⟩ := h
    obtain ⟨u, _, h2⟩ := h ν hν m AllT a hT (fun _ _ => trivial) w (fun p hp => hR.ok _ _ p h1 hp)
    exact ⟨m, u, w, h2, hR, After.refl m _ w w rfl rfl rfl rfl hR.hd⟩
  | wr => exact steps_sat h.1 hν hT (fun _ _ => trivial) hR
/-- The run in the order of the text is a run. -/
theorem real_run {N : TC} {ops : Array Oper} {bs : List Nat} (hN : N.N < 1000000) (hL : N.L = []) (hS : StF E N ops bs) {pt : Nat → Pt} {val : Nat → FV} {kd : Nat → Kd} (hF : TrF E N ops bs ops.size pt val kd) {ν : Int} (hν : E.c.has ν) {m : Mp} {a : Go.Act} {base : Nat} {w0 w : World} (hT : TR ν m N AllT (pt 0).T a) (hR : Rel ν base w0 m (pt 0).s w) :
    ∀ i, i ≤ ops.size → (∃ m' a' w', TR ν m' N AllT (pt i).T a' ∧ Rel ν base w0 m' (pt i).s w' ∧ After m (pt 0).s w m' (pt i).s w') ∧ ∀ i', i' ≤ i → (pt i').s.nx.num ≤ (pt i).s.nx.num
  | 0, _ => ⟨⟨m, a, w, hT, hR, After.refl m _ w w rfl rfl rfl rfl hR.hd⟩, fun i' hi => by rw [show i' = 0 by omega]; exact Nat.le_refl _⟩
  | i + 1, hi => by
    obtain ⟨⟨m1, a1, w1, h1, h2, h3⟩, h4⟩ := real_run hN hL hS hF hν hT hR i (by omega)
    have ho : ops[i]? = some ops[i] := Array.getElem?_eq_getElem (by omega)
    obtain ⟨f1, f2, f3⟩ := hF.st i _ (by omega) ho
    obtain ⟨m2, u, w2, g1, g2, g3⟩ := exec_sat f2 hν h1 h2
    refine ⟨⟨m2, a1.put ops[i].dst u, w2, ?_, g2, h3.trans g3⟩, fun i' hi' => ?_⟩
    · rw [f1]; exact dstD_cdst hN hL h1 g3.ext g1 (fun d hd => hS.dN i _ d ho hd)
    · by_cases e : i' = i + 1
      · subst e; exact Nat.le_refl _
      · exact Nat.le_trans (h4 i' (by omega)) g3.nx

def cut (m : Mp) (n : Nat) : Mp := fun b => if b.num < n then m b else none
theorem cut_lt {m : Mp} {n : Nat} {b : Pos} (h : b.num < n) : cut m n b = m b := if_pos h
theorem cut_ge {m : Mp} {n : Nat} {b : Pos} (h : n ≤ b.num) : cut m n b = none := if_neg (by omega)
theorem cut_ext (m : Mp) (n : Nat) : Ext (cut m n) m := fun b p h => by
  unfold cut at h
  split at h
  · exact h
  · cases h
mutual
theorem VR_cut {ν : Int} {m1 m : Mp} {n : Nat} (hC : ∀ b p, m1 b = some p → b.num < n) : ∀ (x : FV) (v u : Value), VR ν m1 x v → VR ν m x u → VR ν (cut m n) x u
  | .any, _, _, _, _ => trivial
  | .undef, _, _, _, h => h
  | .bool _, _, _, _, h => h
  | .int _ _, _, _, _, h => h
  | .str _ _, _, _, _, h => h
  | .nilp, _, _, _, h => h
  | .ptr _ _, _, _, ⟨_q, g1, _⟩, ⟨p, h1, h2⟩ => ⟨p, (cut_lt (hC _ _ g1)).trans h1, h2⟩
  | .nils, _, _, _, h => h
  | .slice _ _ _ _, _, _, ⟨_q, _, g1, _⟩, ⟨p, cap, h1, h2⟩ => ⟨p, cap, (cut_lt (hC _ _ g1)).trans h1, h2⟩
  | .sl0, _, _, _, h => h
  | .nilm, _, _, _, h => h
  | .map _, _, _, ⟨_q, g1, _⟩, ⟨p, h1, h2⟩ => ⟨p, (cut_lt (hC _ _ g1)).trans h1, h2⟩
  | .func _ a c, _, _, ⟨_, _, _, g2, g3⟩, ⟨a', c', h1, h2, h3⟩ => ⟨a', c', h1, VRs_cut hC a _ _ g2 h2, VRs_cut hC c _ _ g3 h3⟩
  | .nilf, _, _, _, h => h
  | .iface _ x, _, _, ⟨_, _, g2⟩, ⟨x', h1, h2⟩ => ⟨x', h1, VR_cut hC x _ _ g2 h2⟩
  | .nili, _, _, _, h => h
  | .agg cs, _, _, ⟨_, _, g2, _⟩, ⟨us, h1, h2, h3⟩ => ⟨us, h1, VRs_cut hC cs _ _ g2 h2, h3⟩
  | .tuple cs, _, _, ⟨_, _, g2⟩, ⟨us, h1, h2⟩ => ⟨us, h1, VRs_cut hC cs _ _ g2 h2⟩
theorem VRs_cut {ν : Int} {m1 m : Mp} {n : Nat} (hC : ∀ b p, m1 b = some p → b.num < n) : ∀ (xs : List FV) (vs us : List Value), VRs ν m1 xs vs → VRs ν m xs us → VRs ν (cut m n) xs us
  | [], _, _, _, h => h
  | x :: xs, _, _, ⟨_, _, _, g2, g3⟩, ⟨u, us, h1, h2, h3⟩ => ⟨u, us, h1, VR_cut hC x _ _ g2 h2, VRs_cut hC xs _ _ g3 h3⟩
end
theorem MpR_cut {ν : Int} {m1 m : Mp} {n : Nat} (hC : ∀ b p, m1 b = some p → b.num < n) : ∀ {es : List (FV × FV)} {l l' : List MapEntry}, MpR ν m1 es l → MpR ν m es l' → MpR ν (cut m n) es l'
  | [], _, _, _, h => h
  | (_k, _v) :: _r, _, _, ⟨_, _, _, g2, g3, g4⟩, ⟨e, es', h1, h2, h3, h4⟩ => ⟨e, es', h1, VR_cut hC _ _ _ g2 h2, VR_cut hC _ _ _ g3 h3, MpR_cut hC g4 h4⟩
theorem BlkOk_cut {ν : Int} {m1 m : Mp} {n : Nat} {w1 w : World} {p1 p : Place} (hC : ∀ b p, m1 b = some p → b.num < n) : ∀ {blk : FB}, BlkOk ν m1 w1 p1 blk → BlkOk ν m w p blk → BlkOk ν (cut m n) w p blk
  | .cells l k, ⟨_, _, _, _, _, _, _, g4, _⟩, ⟨h0, c, elem, fr, h1, h2, h3, h4, h5⟩ => ⟨h0, c, elem, fr, h1, h2, h3, fun i x e => ⟨(h4 i x e).1, by
      obtain ⟨_, v1, _, g⟩ := g4 i x e
      obtain ⟨_, v, a, b⟩ := h4 i x e
      exact ⟨v, a, VR_cut hC _ _ _ g b⟩⟩, h5⟩
  | .mp es, ⟨_, _, _, _, g2⟩, ⟨h0, ents, clock, h1, h2⟩ => ⟨h0, ents, clock, h1, MpR_cut hC g2 h2⟩
  | .it l k, _, ⟨h0, h1, h2⟩ => ⟨h0, h1, h2⟩
end Go.Xc
end
section
/- Regions that draw their order: what stands when some of the operations are done. -/
namespace Go.Xc

variable {E : Env}

theorem samePos_eq : ∀ {p q : Pos}, samePos p q = true → p = q
  | .h, .h, _ => rfl
  | .o p, .o q, h => by rw [samePos_eq (show samePos p q = true from h)]
  | .i p, .i q, h => by rw [samePos_eq (show samePos p q = true from h)]
  | .h, .o _, h => nomatch h
  | .h, .i _, h => nomatch h
  | .o _, .h, h => nomatch h
  | .o _, .i _, h => nomatch h
  | .i _, .h, h => nomatch h
  | .i _, .o _, h => nomatch h
theorem same_eq : ∀ {x y : SI}, x.same y = true → x = y
  | .lit a, .lit b, h => by rw [ieq_iff.1 (show ieq a b = true from h)]
  | .lin a b, .lin c d, h => by
    have h : (ieq a c && ieq b d) = true := h
    simp only [Bool.and_eq_true, ieq_iff] at h
    rw [h.1, h.2]
  | .dig a b i, .dig c d j, h => by
    have h : (ieq a c && ieq b d && Nat.beq i j) = true := h
    simp only [Bool.and_eq_true, ieq_iff] at h
    rw [h.1.1, h.1.2, Nat.eq_of_beq_eq_true h.2]
  | .lit _, .lin _ _, h => nomatch h
  | .lit _, .dig _ _ _, h => nomatch h
  | .lin _ _, .lit _, h => nomatch h
  | .lin _ _, .dig _ _ _, h => nomatch h
  | .dig _ _ _, .lit _, h => nomatch h
  | .dig _ _ _, .lin _ _, h => nomatch h
theorem sameL_eq : ∀ {x y : List SI}, sameL x y = true → x = y
  | [], [], _ => rfl
  | a :: x, b :: y, h => by
    simp only [sameL, Bool.and_eq_true] at h
    rw [same_eq h.1, sameL_eq h.2]
  | [], _ :: _, h => nomatch h
  | _ :: _, [], h => nomatch h
theorem feq_eq {x y : FV} (h : feq x y = true) : x = y := by
  unfold feq at h
  split at h
  · simpa using h
  · simp only [Bool.and_eq_true] at h; rw [kc_eq h.1, same_eq h.2]
  · simp only [Bool.and_eq_true] at h; rw [sameL_eq h.1, Nat.eq_of_beq_eq_true h.2]
  · rfl
  · simp only [Bool.and_eq_true] at h; rw [samePos_eq h.1, Nat.eq_of_beq_eq_true h.2]
  · rfl
  · simp only [Bool.and_eq_true] at h; rw [samePos_eq h.1.1.1, Nat.eq_of_beq_eq_true h.1.1.2, Nat.eq_of_beq_eq_true h.1.2, Nat.eq_of_beq_eq_true h.2]
  · rfl
  · rfl
  · rw [samePos_eq h]
  · rfl
  · rfl
  · cases h
theorem feqL_eq : ∀ {x y : List FV}, feqL x y = true → x = y
  | [], [], _ => rfl
  | a :: x, b :: y, h => by
    simp only [feqL, Bool.and_eq_true] at h
    rw [feq_eq h.1, feqL_eq h.2]
  | [], _ :: _, h => nomatch h
  | _ :: _, [], h => nomatch h
theorem feqP_eq : ∀ {x y : List (FV × FV)}, feqP x y = true → x = y
  | [], [], _ => rfl
  | (a, b) :: x, (c, d) :: y, h => by
    simp only [feqP, Bool.and_eq_true] at h
    rw [feq_eq h.1.1, feq_eq h.1.2, feqP_eq h.2]
  | [], _ :: _, h => nomatch h
  | _ :: _, [], h => nomatch h
theorem sameB_eq {s0 s1 : FS} {b : Pos} (h : sameB s0 s1 b = true) : s0.h.get b = s1.h.get b := by
  unfold sameB at h
  split at h
  · rename_i h0 h1; rw [h0, h1]
  · rename_i h0 h1
    simp only [Bool.and_eq_true] at h
    rw [h0, h1, feqL_eq h.1, Nat.eq_of_beq_eq_true h.2]
  · rename_i h0 h1; rw [h0, h1, feqP_eq h]
  · cases h
def RowEq (r : RR) (l : List FV) : FB → Prop
  | .cells cs _ => r.n ≤ (cs.drop r.o).length ∧ l = (cs.drop r.o).take r.n
  | _ => False
theorem rowEq_trans {r : RR} {l c0 c1 : List FV} {n0 n1 : Nat} (h : (c0.drop r.o).take r.n = (c1.drop r.o).take r.n) (h1 : RowEq r l (.cells c0 n0)) : RowEq r l (.cells c1 n1) := by
  obtain ⟨g1, g2⟩ := h1
  refine ⟨?_, g2.trans h⟩
  have := congrArg List.length h
  simp only [List.length_take] at this
  omega
theorem sameC_iff {s0 s1 : FS} {r : RR} {l : List FV} (h : sameC s0 s1 r = true) : (∃ f, s0.h.get r.b = some f ∧ RowEq r l f) ↔ (∃ f, s1.h.get r.b = some f ∧ RowEq r l f) := by
  unfold sameC at h
  split at h
  · rename_i h0 h1; rw [h0, h1]
  · rename_i h0 h1
    have e := feqL_eq h
    rw [dropL_eq, dropL_eq] at e
    rw [h0, h1]
    constructor
    · rintro ⟨f, hf, hr⟩
      cases hf
      exact ⟨_, rfl, rowEq_trans e hr⟩
    · rintro ⟨f, hf, hr⟩
      cases hf
      exact ⟨_, rfl, rowEq_trans e.symm hr⟩
  · cases h

/-- What is known of the run in the order of the text. -/
structure Rn (E : Env) (N : TC) (ops : Array Oper) (bs : List Nat) (pt : Nat → Pt) (val : Nat → FV) (kd : Nat → Kd) (ν : Int) (m0 : Mp) (base : Nat) (w0 ws : World) : Prop where
  st : StF E N ops bs
  tr : TrF E N ops bs ops.size pt val kd
  mono : ∀ i i', i ≤ i' → i' ≤ ops.size → (pt i).s.nx.num ≤ (pt i').s.nx.num
  real : ∀ i, i ≤ ops.size → ∃ m' a' w', TR ν m' N AllT (pt i).T a' ∧ Rel ν base w0 m' (pt i).s w' ∧ After m0 (pt 0).s ws m' (pt i).s w'
section
variable {N : TC} {ops : Array Oper} {bs : List Nat} {pt : Nat → Pt} {val : Nat → FV} {kd : Nat → Kd} {ν : Int} {m0 : Mp} {base : Nat} {w0 ws : World}

theorem Rn.hd (R : Rn E N ops bs pt val kd ν m0 base w0 ws) {i : Nat} (hi : i ≤ ops.size) {b : Pos} {blk : FB} (h : (pt i).s.h.get b = some blk) : b.num < (pt i).s.nx.num := by
  obtain ⟨_, _, _, _, h2, _⟩ := R.real i hi
  exact h2.hd b blk h
theorem Rn.at (R : Rn E N ops bs pt val kd ν m0 base w0 ws) {i : Nat} (hi : i < ops.size) : ∃ o, ops[i]? = some o ∧ StepF E N ops o (pt i) (pt (i + 1)) (val i) (kd i) :=
  ⟨ops[i], Array.getElem?_eq_getElem hi, R.tr.st i _ hi (Array.getElem?_eq_getElem hi)⟩
/-- A step that is no writer. -/
theorem Rn.step (R : Rn E N ops bs pt val kd ν m0 base w0 ws) {i : Nat} (hi : i < ops.size) (hw : kd i ≠ .wr) : ((∀ b, kd i ≠ .new b) ∧ (pt (i + 1)).s = (pt i).s) ∨ ∃ b, kd i = .new b ∧ (pt (i + 1)).s = ⟨(pt i).s.h.set (pt i).s.nx (some b), (pt i).s.nx.succ⟩ := by
  obtain ⟨o, ho, f⟩ := R.at hi
  have hx := f.ex
  cases hk : kd i with
  | skip => rw [hk] at hx; exact .inl ⟨by simp, hx.1⟩
  | val => rw [hk] at hx; exact .inl ⟨by simp, hx.1⟩
  | new b => rw [hk] at hx; exact .inr ⟨b, rfl, hx.1⟩
  | row r => rw [hk] at hx; exact .inl ⟨by simp, hx.1⟩
  | map b => rw [hk] at hx; exact .inl ⟨by simp, hx.1⟩
  | wr => exact absurd hk hw
theorem Rn.new_nx (R : Rn E N ops bs pt val kd ν m0 base w0 ws) {i : Nat} (hi : i < ops.size) {b : FB} (h : kd i = .new b) : (pt (i + 1)).s.nx.num = (pt i).s.nx.num + 1 ∧ (pt (i + 1)).s.h.get (pt i).s.nx = some b := by
  rcases R.step hi (by rw [h]; simp) with ⟨h1, _⟩ | ⟨b', h1, h2⟩
  · exact absurd h (h1 b)
  · rw [h] at h1
    cases h1
    rw [h2]
    exact ⟨Pos.num_succ _, PT.get_set_same _ _ _⟩
/-- Two makers of blocks do not make the same. -/
theorem Rn.new_inj (R : Rn E N ops bs pt val kd ν m0 base w0 ws) {i i' : Nat} (hi : i < ops.size) (hi' : i' < ops.size) {b b' : FB} (h : kd i = .new b) (h' : kd i' = .new b') (e : (pt i).s.nx = (pt i').s.nx) : i = i' := by
  rcases Nat.lt_trichotomy i i' with g | g | g
  · have := (R.new_nx hi h).1
    have := R.mono (i + 1) i' (by omega) (by omega)
    rw [← e] at this; omega
  · exact g
  · have := (R.new_nx hi' h').1
    have := R.mono (i' + 1) i (by omega) (by omega)
    rw [e] at this; omega
def Live (ops : Array Oper) (pt : Nat → Pt) (kd : Nat → Kd) (κ : Nat) (b : Pos) (blk : FB) : Prop :=
  (b.num < (pt κ).s.nx.num ∧ (pt κ).s.h.get b = some blk) ∨ ∃ q, κ ≤ q ∧ q < ops.size ∧ kd q = .new blk ∧ (pt q).s.nx = b
theorem Rn.live_lt (R : Rn E N ops bs pt val kd ν m0 base w0 ws) {κ : Nat} : ∀ (d : Nat), κ + d ≤ ops.size → (∀ i, κ ≤ i → i < κ + d → kd i ≠ .wr) → ∀ b blk, (pt (κ + d)).s.h.get b = some blk ↔ (b.num < (pt (κ + d)).s.nx.num ∧ Live ops pt kd κ b blk)
  | 0, hd, _, b, blk => by
    constructor
    · intro h; exact ⟨R.hd hd h, .inl ⟨R.hd hd h, h⟩⟩
    · rintro ⟨h1, ⟨_, h2⟩ | ⟨q, g1, g2, g3, g4⟩⟩
      · exact h2
      · have := R.mono κ q g1 (by omega)
        rw [g4] at this
        simp only [Nat.add_zero] at h1; omega
  | d + 1, hd, hw, b, blk => by
    have ih := R.live_lt d (by omega) (fun i h1 h2 => hw i h1 (by omega))
    rcases R.step (i := κ + d) (by omega) (hw (κ + d) (by omega) (by omega)) with ⟨_, h2⟩ | ⟨b0, h1, h2⟩
    · rw [show κ + (d + 1) = κ + d + 1 by omega, h2]; exact ih b blk
    · rw [show κ + (d + 1) = κ + d + 1 by omega, h2]
      simp only [Pos.num_succ]
      rw [PT.get_set]
      by_cases e : b = (pt (κ + d)).s.nx
      · subst e
        rw [if_pos rfl]
        constructor
        · intro h; cases h; exact ⟨by omega, .inr ⟨κ + d, by omega, by omega, h1, rfl⟩⟩
        · rintro ⟨_, ⟨g, _⟩ | ⟨q, g1, g2, g3, g4⟩⟩
          · have := R.mono κ (κ + d) (by omega) (by omega); omega
          · have := R.new_inj g2 (by omega) g3 h1 g4
            subst this
            rw [h1] at g3; cases g3; rfl
      · rw [if_neg e, ih b blk]
        constructor
        · rintro ⟨g1, g2⟩; exact ⟨by omega, g2⟩
        · rintro ⟨g1, g2⟩
          refine ⟨?_, g2⟩
          rcases Nat.lt_or_ge b.num (pt (κ + d)).s.nx.num with g | g
          · exact g
          · exact absurd (Pos.num_inj _ _ (by omega)) e
/-- What a block held at j it holds among those that live. -/
theorem Rn.find_live (R : Rn E N ops bs pt val kd ν m0 base w0 ws) {κ j : Nat} (hκ : κ ≤ ops.size) (hj : j ≤ ops.size) {b : Pos} (G : FB → Prop) (h : ∃ f, (pt j).s.h.get b = some f ∧ G f)
    (h1 : ∀ i, κ ≤ i → i < j → kd i = .wr → ((∃ f, (pt i).s.h.get b = some f ∧ G f) ↔ (∃ f, (pt (i + 1)).s.h.get b = some f ∧ G f)))
    (h2 : ∀ i, j ≤ i → i < κ → kd i = .wr → ((∃ f, (pt i).s.h.get b = some f ∧ G f) ↔ (∃ f, (pt (i + 1)).s.h.get b = some f ∧ G f))) :
    ∃ f, Live ops pt kd κ b f ∧ G f := by
  rcases Nat.le_total κ j with hkj | hkj
  · -- back
    have key : ∀ d x, x + d = j → κ ≤ x → (∃ f, (pt x).s.h.get b = some f ∧ G f) ∨ ∃ q f, x ≤ q ∧ q < ops.size ∧ kd q = .new f ∧ (pt q).s.nx = b ∧ G f := by
      intro d
      induction d with
      | zero => intro x hx _; rw [show x = j by omega]; exact .inl h
      | succ d ih =>
        intro x hx hkx
        rcases ih (x + 1) (by omega) (by omega) with h3 | ⟨q, f, g1, g2, g3, g4, g5⟩
        · by_cases hw : kd x = .wr
          · exact .inl ((h1 x hkx (by omega) hw).2 h3)
          · rcases R.step (i := x) (by omega) hw with ⟨_, h4⟩ | ⟨b0, h4, h5⟩
            · rw [h4] at h3; exact .inl h3
            · obtain ⟨f, h6, h7⟩ := h3
              rw [h5] at h6
              have h6 : (PT.set (pt x).s.h (pt x).s.nx (some b0)).get b = some f := h6
              rw [PT.get_set] at h6
              by_cases e : b = (pt x).s.nx
              · rw [if_pos e] at h6
                cases h6
                exact .inr ⟨x, b0, Nat.le_refl _, by omega, h4, e.symm, h7⟩
              · rw [if_neg e] at h6; exact .inl ⟨f, h6, h7⟩
        · exact .inr ⟨q, f, by omega, g2, g3, g4, g5⟩
    rcases key (j - κ) κ (by omega) (Nat.le_refl _) with ⟨f, h3, h4⟩ | ⟨q, f, g1, g2, g3, g4, g5⟩
    · exact ⟨f, .inl ⟨R.hd hκ h3, h3⟩, h4⟩
    · exact ⟨f, .inr ⟨q, g1, g2, g3, g4⟩, g5⟩
  · -- forth
    have hb : b.num < (pt j).s.nx.num := by obtain ⟨f, h3, _⟩ := h; exact R.hd hj h3
    have key : ∀ d, j + d ≤ κ → ∃ f, (pt (j + d)).s.h.get b = some f ∧ G f := by
      intro d
      induction d with
      | zero => intro _; exact h
      | succ d ih =>
        intro hd
        have h3 := ih (by omega)
        by_cases hw : kd (j + d) = .wr
        · exact (h2 (j + d) (by omega) (by omega) hw).1 h3
        · rcases R.step (i := j + d) (by omega) hw with ⟨_, h4⟩ | ⟨b0, h4, h5⟩
          · rw [show j + (d + 1) = j + d + 1 by omega, h4]; exact h3
          · obtain ⟨f, h6, h7⟩ := h3
            refine ⟨f, ?_, h7⟩
            rw [show j + (d + 1) = j + d + 1 by omega, h5]
            show (PT.set (pt (j + d)).s.h (pt (j + d)).s.nx (some b0)).get b = some f
            rw [PT.get_set_ne _ _ (by
              intro e
              have := R.mono j (j + d) (by omega) (by omega)
              rw [e] at hb; omega)]
            exact h6
    obtain ⟨f, h3, h4⟩ := key (κ - j) (by omega)
    rw [show j + (κ - j) = κ by omega] at h3
    exact ⟨f, .inl ⟨R.hd hκ h3, h3⟩, h4⟩
end
end Go.Xc
end
section
/- Regions that draw their order: the relation while some are done, and a step of it. -/
namespace Go.Xc

variable {E : Env}

structure InvT (N : TC) (ops : Array Oper) (pt : Nat → Pt) (val : Nat → FV) (ν : Int) (S : Nat → Prop) (m : Mp) (a : Go.Act) : Prop where
  size : N.N ≤ a.tmps.size
  defers : a.defers = []
  tS : ∀ i o d, i < ops.size → ops[i]? = some o → o.dst = some d → S i → VR ν m (val i) (a.tmps.getD d undef)
  t0 : ∀ t x, t < N.N → N.esc.testBit t = true → (∀ i o, i < ops.size → ops[i]? = some o → S i → o.dst ≠ some t) → (pt 0).T.t.get (Pos.of t) = some x → VR ν m x (a.tmps.getD t undef)
structure InvH (ops : Array Oper) (bs : List Nat) (pt : Nat → Pt) (kd : Nat → Kd) (ν : Int) (m0 : Mp) (base : Nat) (w0 ws : World) (S : Nat → Prop) (κ : Nat) (m : Mp) (w : World) : Prop where
  pre : TabPre base w0
  kle : κ ≤ ops.size
  wr : ∀ j, j < ops.size → kd j = .wr → (S j ↔ j < κ)
  cl : ∀ j, j < ops.size → S j → ∀ i, (bs.getD j 0).testBit i = true → S i
  same : ∀ c, c < base → w.heap[c]? = w0.heap[c]?
  big : base ≤ w.heap.size
  d1 : ∀ b, (pt ops.size).s.nx.num ≤ b.num → m b = none
  d2 : ∀ i, i < ops.size → ¬ S i → ∀ b, (pt i).s.nx.num ≤ b.num → b.num < (pt (i + 1)).s.nx.num → m b = none
  ok : ∀ b blk p, Live ops pt kd κ b blk → m b = some p → BlkOk ν m w p blk ∧ base ≤ p.blk
  inj : ∀ b b' blk blk' p p', Live ops pt kd κ b blk → Live ops pt kd κ b' blk' → m b = some p → m b' = some p' → p.blk = p'.blk → b = b'
  ext : Ext m0 m
  old : ∀ b, b.num < (pt 0).s.nx.num → m b = m0 b
  os : w.os = ws.os
  tape : w.tape = ws.tape
  output : w.output = ws.output
  hsize : ws.heap.size ≤ w.heap.size
  frame : ∀ c, c < ws.heap.size → (∀ b blk p, (pt 0).s.h.get b = some blk → m0 b = some p → p.blk ≠ c) → w.heap[c]? = ws.heap[c]?
  img : ∀ b blk p, Live ops pt kd κ b blk → m b = some p → p.blk < ws.heap.size → ∃ b0 blk0 p0, (pt 0).s.h.get b0 = some blk0 ∧ m0 b0 = some p0 ∧ p0.blk = p.blk
  fr : ∀ b blk, Live ops pt kd κ b blk → (pt 0).s.nx.num ≤ b.num → (∀ i, i < ops.size → (pt i).s.nx.num ≤ b.num → b.num < (pt (i + 1)).s.nx.num → S i) → ∃ p, m b = some p
  keep : ∀ b blk, Live ops pt kd κ b blk → b.num < (pt 0).s.nx.num → ∃ blk0, (pt 0).s.h.get b = some blk0
section
variable {N : TC} {ops : Array Oper} {bs : List Nat} {pt : Nat → Pt} {val : Nat → FV} {kd : Nat → Kd} {ν : Int} {m0 : Mp} {base : Nat} {w0 ws : World}

def plus (S : Nat → Prop) (j : Nat) : Nat → Prop := fun i => S i ∨ i = j
/-- The temporaries that step j asks for. -/
theorem put_get {o : Oper} {T : FT} {v : FV} {t : Nat} (h1 : ∀ d, o.dst = some d → d < 1000000) (h2 : t < 1000000) : (putD (dstD o) T v).t.get (Pos.of t) = if o.dst = some t then some v else T.t.get (Pos.of t) := by
  unfold dstD
  cases ho : o.dst with
  | none => simp [putD]
  | some d =>
    show (PT.set T.t (Pos.of d) (some v)).get (Pos.of t) = _
    rw [PT.get_set]
    by_cases e : t = d
    · subst e; simp
    · rw [if_neg (fun e' => e (Pos.of_inj h2 (h1 d ho) e')), if_neg (by simpa using Ne.symm e)]
theorem Rn.tmp (R : Rn E N ops bs pt val kd ν m0 base w0 ws) (hN : N.N < 1000000) {t : Nat} (ht : t < N.N) : ∀ j, j ≤ ops.size → ((∀ i o, i < j → ops[i]? = some o → o.dst ≠ some t) ∧ (pt j).T.t.get (Pos.of t) = (pt 0).T.t.get (Pos.of t)) ∨
    ∃ i o, i < j ∧ ops[i]? = some o ∧ o.dst = some t ∧ (pt j).T.t.get (Pos.of t) = some (val i)
  | 0, _ => .inl ⟨fun i o h => by omega, rfl⟩
  | j + 1, hj => by
    obtain ⟨o, ho, f⟩ := R.at (i := j) (by omega)
    have hp := put_get (o := o) (T := (pt j).T) (v := val j) (t := t) (fun d hd => Nat.lt_trans (R.st.dN j o d ho hd) hN) (Nat.lt_trans ht hN)
    rw [f.T, hp]
    by_cases e : o.dst = some t
    · rw [if_pos e]; exact .inr ⟨j, o, by omega, ho, e, rfl⟩
    · rw [if_neg e]
      rcases R.tmp hN ht j (by omega) with ⟨h1, h2⟩ | ⟨i, o', h1, h2, h3, h4⟩
      · refine .inl ⟨fun i o' hi ho' => ?_, h2⟩
        by_cases e' : i = j
        · subst e'; rw [ho] at ho'; cases ho'; exact e
        · exact h1 i o' (by omega) ho'
      · exact .inr ⟨i, o', by omega, h2, h3, h4⟩
theorem InvT.asked (R : Rn E N ops bs pt val kd ν m0 base w0 ws) (hN : N.N < 1000000) (hL : N.L = []) {S : Nat → Prop} {m : Mp} {a : Go.Act} (h : InvT N ops pt val ν S m a) (cl : ∀ j, j < ops.size → S j → ∀ i, (bs.getD j 0).testBit i = true → S i)
    {j : Nat} {o : Oper} (hj : j < ops.size) (ho : ops[j]? = some o) (hS : ¬ S j) (hr : ∀ i, (bs.getD j 0).testBit i = true → S i) :
    TR ν m N (fun t => Operand.tmp t ∈ o.op.operands.toList) (pt j).T a := by
  refine ⟨h.size, h.defers, fun t v h1 h2 h3 h4 => ?_, fun t n x h1 _ _ => by rw [hL] at h1; simp [ixOf] at h1⟩
  rcases R.tmp hN h1 j (by omega) with ⟨g1, g2⟩ | ⟨i, o', g1, g2, g3, g4⟩
  · rw [g2] at h4
    refine h.t0 t v h1 h2 (fun i o' hi ho' hSi e => ?_) h4
    rcases Nat.lt_trichotomy i j with g | g | g
    · exact g1 i o' g ho' e
    · subst g; exact hS hSi
    · exact hS (cl i hi hSi j (R.st.ov j i o o' t g ho ho' e h3))
  · rw [g4] at h4
    cases h4
    exact h.tS i o' t (by omega) g2 g3 (hr i (R.st.rd i j o' o t g1 g2 ho g3 h3))
theorem InvT.put (R : Rn E N ops bs pt val kd ν m0 base w0 ws) {S : Nat → Prop} {m m' : Mp} {a : Go.Act} (h : InvT N ops pt val ν S m a) (hm : Ext m m') {j : Nat} {o : Oper} (hj : j < ops.size) (ho : ops[j]? = some o) {u : Value} (hv : VR ν m' (val j) u) :
    InvT N ops pt val ν (plus S j) m' (a.put o.dst u) := by
  have hsz : (a.put o.dst u).tmps.size = a.tmps.size := by cases o.dst <;> simp [Go.Act.put]
  have hne : ∀ t, o.dst ≠ some t → (a.put o.dst u).tmps.getD t undef = a.tmps.getD t undef := by
    intro t ht
    cases hd : o.dst with
    | none => rfl
    | some d => exact getD_put (fun e => ht (by rw [hd, e]))
  refine ⟨by rw [hsz]; exact h.size, by cases o.dst <;> exact h.defers, fun i o' d hi ho' hd hS => ?_, fun t x h1 h2 h3 h4 => ?_⟩
  · by_cases e : i = j
    · subst e
      rw [ho] at ho'; cases ho'
      rw [hd, getD_put_same (Nat.lt_of_lt_of_le (R.st.dN i o d ho hd) h.size)]
      exact hv
    · have hSi : S i := hS.resolve_right e
      rw [hne d (by
        intro hd'
        rcases Nat.lt_or_gt_of_ne e with g | g
        · exact R.st.dst i j o' o d g ho' ho hd hd'
        · exact R.st.dst j i o o' d g ho ho' hd' hd)]
      exact VR_mono hm _ _ (h.tS i o' d hi ho' hd hSi)
  · rw [hne t (h3 j o hj ho (.inr rfl))]
    exact VR_mono hm _ _ (h.t0 t x h1 h2 (fun i o' hi ho' hS => h3 i o' hi ho' (.inl hS)) h4)
/-- A step that turns no block. -/
theorem InvH.quiet (R : Rn E N ops bs pt val kd ν m0 base w0 ws) {S : Nat → Prop} {κ : Nat} {m : Mp} {w : World} (h : InvH ops bs pt kd ν m0 base w0 ws S κ m w) {j : Nat} (hj : j < ops.size) (hw : kd j ≠ .wr) (hn : ∀ b, kd j ≠ .new b) (hr : ∀ i, (bs.getD j 0).testBit i = true → S i) :
    InvH ops bs pt kd ν m0 base w0 ws (plus S j) κ m w := by
  have hs : (pt (j + 1)).s = (pt j).s := by
    rcases R.step hj hw with ⟨_, h2⟩ | ⟨b, h1, _⟩
    · exact h2
    · exact absurd h1 (hn b)
  refine { h with wr := fun i hi hk => ?_, cl := fun i hi hS i' hb => ?_, d2 := fun i hi hS => h.d2 i hi (fun e => hS (.inl e)), fr := fun b blk hl hb hi => h.fr b blk hl hb fun i h1 h2 h3 => ?_ }
  · rw [← h.wr i hi hk]
    exact ⟨fun e => e.resolve_right (fun e => hw (e ▸ hk)), .inl⟩
  · rcases hS with hS | rfl
    · exact .inl (h.cl i hi hS i' hb)
    · exact .inl (hr i' hb)
  · rcases hi i h1 h2 h3 with e | e
    · exact e
    · subst e; rw [hs] at h3; omega
/-- A step that makes a block. -/
theorem InvH.make (R : Rn E N ops bs pt val kd ν m0 base w0 ws) {S : Nat → Prop} {κ : Nat} {m : Mp} {w w' : World} (h : InvH ops bs pt kd ν m0 base w0 ws S κ m w) {j : Nat} (hj : j < ops.size) {blk : FB} (hk : kd j = .new blk) (hS : ¬ S j) (hr : ∀ i, (bs.getD j 0).testBit i = true → S i)
    (obj : Obj) (n : Nat) (hh : w'.heap = w.heap.push obj) (e1 : w'.os = w.os) (e2 : w'.tape = w.tape) (e3 : w'.output = w.output) (hok : ∀ m', Ext m m' → BlkOk ν m' w' ⟨w.heap.size, 0, n⟩ blk) :
    ∃ m', Ext m m' ∧ m' (pt j).s.nx = some ⟨w.heap.size, 0, n⟩ ∧ InvH ops bs pt kd ν m0 base w0 ws (plus S j) κ m' w' := by
  obtain ⟨n1, n2⟩ := R.new_nx hj hk
  have hnx : m (pt j).s.nx = none := h.d2 j hj hS _ (Nat.le_refl _) (by omega)
  let m' : Mp := fun b => if b = (pt j).s.nx then some ⟨w.heap.size, 0, n⟩ else m b
  have hm0 : m' (pt j).s.nx = some ⟨w.heap.size, 0, n⟩ := by simp [m']
  have hm1 : ∀ b, b ≠ (pt j).s.nx → m' b = m b := fun b hb => by simp [m', hb]
  have hext : Ext m m' := fun b p e => by rw [hm1 b (by intro e'; subst e'; rw [hnx] at e; cases e)]; exact e
  have hold : ∀ c, c < w.heap.size → w'.heap[c]? = w.heap[c]? := fun c hc => by rw [hh, Array.getElem?_push, if_neg (by omega)]
  have hsz : w'.heap.size = w.heap.size + 1 := by rw [hh]; simp
  -- what lives under its name
  have hlive : ∀ x, Live ops pt kd κ (pt j).s.nx x → x = blk := by
    rintro x (⟨g1, g2⟩ | ⟨q, g1, g2, g3, g4⟩)
    · rcases Nat.lt_or_ge j κ with hjk | hjk
      · have key : ∀ d, j + 1 + d ≤ κ → (pt (j + 1 + d)).s.h.get (pt j).s.nx = some blk := by
          intro d
          induction d with
          | zero => intro _; exact n2
          | succ d ih =>
            intro hd
            have h3 := ih (by omega)
            have hlt : j + 1 + d < ops.size := by have := h.kle; omega
            by_cases hw : kd (j + 1 + d) = .wr
            · rcases R.tr.aw j (j + 1 + d) blk (by omega) hlt hk hw with h4 | h4
              · exact absurd (h.cl (j + 1 + d) hlt ((h.wr _ hlt hw).2 (by omega)) j h4) hS
              · rw [sameB_eq h4] at h3
                exact h3
            · rcases R.step hlt hw with ⟨_, h4⟩ | ⟨b0, h4, h5⟩
              · rw [show j + 1 + (d + 1) = j + 1 + d + 1 by omega, h4]; exact h3
              · rw [show j + 1 + (d + 1) = j + 1 + d + 1 by omega, h5]
                show (PT.set (pt (j + 1 + d)).s.h (pt (j + 1 + d)).s.nx (some b0)).get (pt j).s.nx = _
                rw [PT.get_set_ne _ _ (by
                  intro e
                  have := R.mono (j + 1) (j + 1 + d) (by omega) (by omega)
                  rw [← e] at this; omega)]
                exact h3
        have := key (κ - (j + 1)) (by omega)
        rw [show j + 1 + (κ - (j + 1)) = κ by omega, g2] at this
        exact Option.some.inj this
      · have := R.mono κ j hjk (by omega); omega
    · have := R.new_inj g2 hj g3 hk g4
      subst this
      rw [hk] at g3
      cases g3; rfl
  refine ⟨m', hext, hm0, ⟨h.pre, h.kle, fun i hi hki => ?_, fun i hi hSi i' hb => ?_, ?_, ?_, ?_, ?_, ?_, ?_, h.ext.trans hext, ?_, e1.trans h.os, e2.trans h.tape, e3.trans h.output, ?_, ?_, ?_, ?_, h.keep⟩⟩
  · rw [← h.wr i hi hki]
    exact ⟨fun e => e.resolve_right (fun e => by subst e; rw [hk] at hki; cases hki), .inl⟩
  · rcases hSi with hSi | rfl
    · exact .inl (h.cl i hi hSi i' hb)
    · exact .inl (hr i' hb)
  · intro c hc; rw [hold c (Nat.lt_of_lt_of_le hc h.big)]; exact h.same c hc
  · have := h.big; omega
  · intro b hb
    have := R.mono (j + 1) ops.size (by omega) (Nat.le_refl _)
    rw [hm1 b (by intro e; subst e; omega)]; exact h.d1 b hb
  · intro i hi hSi b h1 h2
    have hij : i ≠ j := fun e => hSi (.inr e)
    rw [hm1 b ?_]
    · exact h.d2 i hi (fun e => hSi (.inl e)) b h1 h2
    · intro e
      subst e
      rcases Nat.lt_or_gt_of_ne hij with g | g
      · have := R.mono (i + 1) j (by omega) (by omega); omega
      · have := R.mono (j + 1) i (by omega) (by omega); omega
  · intro b x p hl hp
    by_cases e : b = (pt j).s.nx
    · subst e
      rw [hm0] at hp; cases hp
      rw [hlive x hl]
      exact ⟨hok m' hext, h.big⟩
    · rw [hm1 b e] at hp
      obtain ⟨g1, g2⟩ := h.ok b x p hl hp
      exact ⟨BlkOk_mono hext (hold _ (BlkOk_lt g1)) g1, g2⟩
  · intro b b' x x' p p' hl hl' hp hp' hpp
    by_cases e : b = (pt j).s.nx <;> by_cases e' : b' = (pt j).s.nx
    · rw [e, e']
    · rw [e, hm0] at hp; cases hp
      rw [hm1 b' e'] at hp'
      have := BlkOk_lt (h.ok b' x' p' hl' hp').1; simp only at hpp; omega
    · rw [e', hm0] at hp'; cases hp'
      rw [hm1 b e] at hp
      have := BlkOk_lt (h.ok b x p hl hp).1; simp only at hpp; omega
    · rw [hm1 b e] at hp; rw [hm1 b' e'] at hp'
      exact h.inj b b' x x' p p' hl hl' hp hp' hpp
  · intro b hb
    have := R.mono 0 j (by omega) (by omega)
    rw [hm1 b (by intro e; subst e; omega)]; exact h.old b hb
  · have := h.hsize; omega
  · intro c hc hn; rw [hold c (Nat.lt_of_lt_of_le hc h.hsize)]; exact h.frame c hc hn
  · intro b x p hl hp hlt
    by_cases e : b = (pt j).s.nx
    · subst e; rw [hm0] at hp; cases hp
      have := h.hsize; simp only at hlt; omega
    · rw [hm1 b e] at hp; exact h.img b x p hl hp hlt
  · intro b x hl hb hi
    by_cases e : b = (pt j).s.nx
    · exact ⟨_, e ▸ hm0⟩
    · obtain ⟨p, hp⟩ := h.fr b x hl hb fun i h1 h2 h3 => (hi i h1 h2 h3).resolve_right (fun e' => by
        subst e'
        exact e (Pos.num_inj _ _ (by omega)))
      exact ⟨p, hext _ _ hp⟩
end
end Go.Xc
end
section
/- Regions that draw their order: a writer's step. -/
namespace Go.Xc

variable {E : Env}
section
variable {N : TC} {ops : Array Oper} {bs : List Nat} {pt : Nat → Pt} {val : Nat → FV} {kd : Nat → Kd} {ν : Int} {m0 : Mp} {base : Nat} {w0 ws : World}

theorem Rn.bit_lt (R : Rn E N ops bs pt val kd ν m0 base w0 ws) {i : Nat} : ∀ (n j : Nat), j < n → j < ops.size → (bs.getD j 0).testBit i = true → i < j
  | 0, _, h, _, _ => by omega
  | n + 1, j, hn, hj, hb => by
    obtain ⟨e, h1, h2, h3⟩ := R.st.bit j _ i (Array.getElem?_eq_getElem hj) hb
    have h4 := R.st.aft j _ e (Array.getElem?_eq_getElem hj) h1 h2
    rcases h3 with h3 | h3
    · omega
    · have := R.bit_lt n e.on (by omega) (by omega) h3
      omega
/-- No writer stands between. -/
theorem InvH.between (R : Rn E N ops bs pt val kd ν m0 base w0 ws) {S : Nat → Prop} {κ : Nat} {m : Mp} {w : World} (h : InvH ops bs pt kd ν m0 base w0 ws S κ m w) {j : Nat} (hj : j < ops.size) (hk : kd j = .wr) (hr : ∀ i, (bs.getD j 0).testBit i = true → S i) :
    ∀ i, i < j → kd i = .wr → i < κ := by
  intro i hi hki
  obtain ⟨o, ho, f⟩ := R.at hj
  obtain ⟨o', ho', f'⟩ := R.at (i := i) (by omega)
  have hx := f.ex; rw [hk] at hx
  have hx' := f'.ex; rw [hki] at hx'
  exact (h.wr i (by omega) hki).1 (hr i (R.st.ww i j o' o hi ho' ho hx'.2 hx.2))
theorem InvH.kle' (_ : Rn E N ops bs pt val kd ν m0 base w0 ws) {S : Nat → Prop} {κ : Nat} {m : Mp} {w : World} (h : InvH ops bs pt kd ν m0 base w0 ws S κ m w) {j : Nat} (hj : j < ops.size) (hk : kd j = .wr) (hS : ¬ S j) : κ ≤ j := by
  rcases Nat.lt_or_ge j κ with g | g
  · exact absurd ((h.wr j hj hk).2 g) hS
  · exact g
theorem Rn.live_at (R : Rn E N ops bs pt val kd ν m0 base w0 ws) {κ j : Nat} (h1 : κ ≤ j) (h2 : j ≤ ops.size) (h3 : ∀ i, κ ≤ i → i < j → kd i ≠ .wr) (b : Pos) (blk : FB) : (pt j).s.h.get b = some blk ↔ (b.num < (pt j).s.nx.num ∧ Live ops pt kd κ b blk) := by
  have := R.live_lt (κ := κ) (j - κ) (by omega) (fun i g1 g2 => h3 i g1 (by omega)) b blk
  rwa [show κ + (j - κ) = j by omega] at this
/-- What a writer finds. -/
theorem InvH.found (R : Rn E N ops bs pt val kd ν m0 base w0 ws) {S : Nat → Prop} {κ : Nat} {m : Mp} {w : World} (h : InvH ops bs pt kd ν m0 base w0 ws S κ m w) {j : Nat} (hj : j < ops.size) (hk : kd j = .wr) (hS : ¬ S j) (hr : ∀ i, (bs.getD j 0).testBit i = true → S i) :
    Rel ν base w0 (cut m (pt j).s.nx.num) (pt j).s w := by
  have hlive := R.live_at (h.kle' R hj hk hS) (by omega) (fun i g1 g2 hki => by have := h.between R hj hk hr i g2 hki; omega)
  obtain ⟨mj, aj, wj, _, hRj, hAj⟩ := R.real j (by omega)
  have hC : ∀ b p, mj b = some p → b.num < (pt j).s.nx.num := fun b p hb => by
    rcases Nat.lt_or_ge b.num (pt j).s.nx.num with g | g
    · exact g
    · rw [hRj.dom b g] at hb; cases hb
  refine ⟨h.pre, h.same, h.big, fun b hb => cut_ge hb, fun b blk hb => R.hd (by omega) hb, fun b blk p hb hp => ?_, fun b blk p hb hp => ?_, fun b b' x x' p p' hb hb' hp hp' hpp => ?_⟩
  · have hl := ((hlive b blk).1 hb).2
    have hp' := cut_ext _ _ _ _ hp
    have hex : ∃ p', mj b = some p' := by
      rcases Nat.lt_or_ge b.num (pt 0).s.nx.num with g | g
      · exact ⟨p, by rw [hAj.old b g, ← h.old b g]; exact hp'⟩
      · exact hAj.fresh b blk hb g
    obtain ⟨p', hp''⟩ := hex
    exact BlkOk_cut hC (hRj.ok b blk p' hb hp'') (h.ok b blk p hl hp').1
  · exact (h.ok b blk p ((hlive b blk).1 hb).2 (cut_ext _ _ _ _ hp)).2
  · exact h.inj b b' x x' p p' ((hlive b x).1 hb).2 ((hlive b' x').1 hb').2 (cut_ext _ _ _ _ hp) (cut_ext _ _ _ _ hp') hpp
theorem asked_cut (R : Rn E N ops bs pt val kd ν m0 base w0 ws) {m : Mp} {a : Go.Act} {D : Nat → Prop} {j : Nat} (hj : j ≤ ops.size) (hT : TR ν m N D (pt j).T a) (hL : N.L = []) : TR ν (cut m (pt j).s.nx.num) N D (pt j).T a := by
  obtain ⟨mj, aj, wj, hTj, hRj, _⟩ := R.real j hj
  have hC : ∀ b p, mj b = some p → b.num < (pt j).s.nx.num := fun b p hb => by
    rcases Nat.lt_or_ge b.num (pt j).s.nx.num with g | g
    · exact g
    · rw [hRj.dom b g] at hb; cases hb
  exact ⟨hT.size, hT.defers, fun t v h1 h2 h3 h4 => VR_cut hC v _ _ (hTj.t t v h1 h2 trivial h4) (hT.t t v h1 h2 h3 h4), fun t n x h1 _ _ => by rw [hL] at h1; simp [ixOf] at h1⟩
/-- A writer's step. -/
theorem InvH.write (R : Rn E N ops bs pt val kd ν m0 base w0 ws) {S : Nat → Prop} {κ : Nat} {m : Mp} {w : World} (h : InvH ops bs pt kd ν m0 base w0 ws S κ m w) {j : Nat} (hj : j < ops.size) (hk : kd j = .wr) (hS : ¬ S j) (hr : ∀ i, (bs.getD j 0).testBit i = true → S i)
    {m1 : Mp} {w' : World} (hR : Rel ν base w0 m1 (pt (j + 1)).s w') (hA : After (cut m (pt j).s.nx.num) (pt j).s w m1 (pt (j + 1)).s w') :
    ∃ m', Ext m m' ∧ Ext m1 m' ∧ InvH ops bs pt kd ν m0 base w0 ws (plus S j) (j + 1) m' w' := by
  have hκj := h.kle' R hj hk hS
  have hbt := h.between R hj hk hr
  have hlive := R.live_at hκj (by omega) (fun i g1 g2 hki => by have := hbt i g2 hki; omega)
  have mono1 := R.mono j (j + 1) (by omega) (by omega)
  let m' : Mp := fun b => if b.num < (pt (j + 1)).s.nx.num then m1 b else m b
  have hlt : ∀ b, b.num < (pt (j + 1)).s.nx.num → m' b = m1 b := fun b hb => if_pos hb
  have hge : ∀ b, (pt (j + 1)).s.nx.num ≤ b.num → m' b = m b := fun b hb => if_neg (by omega)
  have hcut : ∀ b, b.num < (pt j).s.nx.num → m1 b = m b := fun b hb => (hA.old b hb).trans (cut_lt hb)
  have e1 : Ext m m' := fun b p hb => by
    rcases Nat.lt_or_ge b.num (pt (j + 1)).s.nx.num with g | g
    · rw [hlt b g]
      rcases Nat.lt_or_ge b.num (pt j).s.nx.num with g' | g'
      · rw [hcut b g']; exact hb
      · rw [h.d2 j hj hS b g' g] at hb; cases hb
    · rw [hge b g]; exact hb
  have e2 : Ext m1 m' := fun b p hb => by
    rcases Nat.lt_or_ge b.num (pt (j + 1)).s.nx.num with g | g
    · rw [hlt b g]; exact hb
    · rw [hR.dom b g] at hb; cases hb
  -- what lives behind is of the writer's, or of a maker behind it
  have lv : ∀ b x, Live ops pt kd (j + 1) b x → (b.num < (pt (j + 1)).s.nx.num ∧ (pt (j + 1)).s.h.get b = some x) ∨ ((pt (j + 1)).s.nx.num ≤ b.num ∧ Live ops pt kd κ b x) := by
    rintro b x (g | ⟨q, g1, g2, g3, g4⟩)
    · exact .inl g
    · exact .inr ⟨by rw [← g4]; exact R.mono (j + 1) q g1 (by omega), .inr ⟨q, by omega, g2, g3, g4⟩⟩
  refine ⟨m', e1, e2, ⟨h.pre, hj, fun i hi hki => ?_, fun i hi hSi i' hb => ?_, hR.same, hR.big, fun b hb => ?_, fun i hi hSi b h1 h2 => ?_, fun b x p hl hp => ?_, fun b b' x x' p p' hl hl' hp hp' hpp => ?_, h.ext.trans e1, fun b hb => ?_, hA.os.trans h.os, hA.tape.trans h.tape, hA.output.trans h.output, Nat.le_trans h.hsize hA.size, fun c hc hn => ?_, fun b x p hl hp hlt' => ?_, fun b x hl hb hi => ?_, fun b x hl hb => ?_⟩⟩
  · constructor
    · rintro (hSi | rfl)
      · have := (h.wr i hi hki).1 hSi; omega
      · omega
    · intro hlt'
      by_cases e : i = j
      · exact .inr e
      · exact .inl ((h.wr i hi hki).2 (hbt i (by omega) hki))
  · rcases hSi with hSi | rfl
    · exact .inl (h.cl i hi hSi i' hb)
    · exact .inl (hr i' hb)
  · have := R.mono (j + 1) ops.size (by omega) (Nat.le_refl _)
    rw [hge b (by omega)]; exact h.d1 b hb
  · have hij : i ≠ j := fun e => hSi (.inr e)
    rcases Nat.lt_or_gt_of_ne hij with g | g
    · have := R.mono (i + 1) j (by omega) (by omega)
      rw [hlt b (by omega), hcut b (by omega)]
      exact h.d2 i hi (fun e => hSi (.inl e)) b h1 h2
    · have := R.mono (j + 1) i (by omega) (by omega)
      rw [hge b (by omega)]
      exact h.d2 i hi (fun e => hSi (.inl e)) b h1 h2
  · rcases lv b x hl with ⟨g1, g2⟩ | ⟨g1, g2⟩
    · rw [hlt b g1] at hp
      exact ⟨BlkOk_mono e2 rfl (hR.ok b x p g2 hp), hR.lo b x p g2 hp⟩
    · rw [hge b g1] at hp
      obtain ⟨g3, g4⟩ := h.ok b x p g2 hp
      refine ⟨BlkOk_mono e1 (hA.frame p.blk (BlkOk_lt g3) fun b' x' p' hb' hm' e => ?_) g3, g4⟩
      have := h.inj b' b x' x p' p ((hlive b' x').1 hb').2 g2 (cut_ext _ _ _ _ hm') hp e
      subst this
      have := R.hd (by omega) hb'
      omega
  · have cross : ∀ (b b' : Pos) (x x' : FB) (p p' : Place), (pt (j + 1)).s.h.get b = some x → m1 b = some p → (pt (j + 1)).s.nx.num ≤ b'.num → Live ops pt kd κ b' x' → m b' = some p' → p.blk = p'.blk → False := by
      intro b b' x x' p p' hb hp hb' hl' hp' hpp
      have := BlkOk_lt (h.ok b' x' p' hl' hp').1
      obtain ⟨b0, x0, p0, c1, c2, c3⟩ := hA.img b x p hb hp (by omega)
      have := h.inj b0 b' x0 x' p0 p' ((hlive b0 x0).1 c1).2 hl' (cut_ext _ _ _ _ c2) hp' (by omega)
      subst this
      have := R.hd (by omega) c1
      omega
    rcases lv b x hl with ⟨g1, g2⟩ | ⟨g1, g2⟩ <;> rcases lv b' x' hl' with ⟨g1', g2'⟩ | ⟨g1', g2'⟩
    · rw [hlt b g1] at hp; rw [hlt b' g1'] at hp'
      exact hR.inj b b' x x' p p' g2 g2' hp hp' hpp
    · rw [hlt b g1] at hp; rw [hge b' g1'] at hp'
      exact (cross b b' x x' p p' g2 hp g1' g2' hp' hpp).elim
    · rw [hge b g1] at hp; rw [hlt b' g1'] at hp'
      exact (cross b' b x' x p' p g2' hp' g1 g2 hp hpp.symm).elim
    · rw [hge b g1] at hp; rw [hge b' g1'] at hp'
      exact h.inj b b' x x' p p' g2 g2' hp hp' hpp
  · have := R.mono 0 j (by omega) (by omega)
    rw [hlt b (by omega), hcut b (by omega)]; exact h.old b hb
  · rw [hA.frame c (Nat.lt_of_lt_of_le hc h.hsize) fun b x p hb hm e => ?_]
    · exact h.frame c hc hn
    · obtain ⟨b0, x0, p0, c1, c2, c3⟩ := h.img b x p ((hlive b x).1 hb).2 (cut_ext _ _ _ _ hm) (by omega)
      exact hn b0 x0 p0 c1 c2 (by omega)
  · rcases lv b x hl with ⟨g1, g2⟩ | ⟨g1, g2⟩
    · rw [hlt b g1] at hp
      obtain ⟨b0, x0, p0, c1, c2, c3⟩ := hA.img b x p g2 hp (Nat.lt_of_lt_of_le hlt' h.hsize)
      obtain ⟨b1, x1, p1, d1, d2, d3⟩ := h.img b0 x0 p0 ((hlive b0 x0).1 c1).2 (cut_ext _ _ _ _ c2) (by omega)
      exact ⟨b1, x1, p1, d1, d2, by omega⟩
    · rw [hge b g1] at hp
      exact h.img b x p g2 hp hlt'
  · rcases lv b x hl with ⟨g1, g2⟩ | ⟨g1, g2⟩
    · rcases Nat.lt_or_ge b.num (pt j).s.nx.num with g | g
      · obtain ⟨x0, c1⟩ := hA.keep b x g2 g
        obtain ⟨p, hp⟩ := h.fr b x0 ((hlive b x0).1 c1).2 hb fun i h1 h2 h3 => (hi i h1 h2 h3).resolve_right (fun e => by subst e; omega)
        exact ⟨p, e1 _ _ hp⟩
      · obtain ⟨p, hp⟩ := hA.fresh b x g2 g
        exact ⟨p, e2 _ _ hp⟩
    · obtain ⟨p, hp⟩ := h.fr b x g2 hb fun i h1 h2 h3 => (hi i h1 h2 h3).resolve_right (fun e => by subst e; omega)
      exact ⟨p, e1 _ _ hp⟩
  · rcases lv b x hl with ⟨g1, g2⟩ | ⟨g1, g2⟩
    · have := R.mono 0 j (by omega) (by omega)
      obtain ⟨x0, c1⟩ := hA.keep b x g2 (by omega)
      exact h.keep b x0 ((hlive b x0).1 c1).2 hb
    · exact h.keep b x g2 hb
/-- All is done. -/
theorem InvH.done (R : Rn E N ops bs pt val kd ν m0 base w0 ws) {S : Nat → Prop} {κ : Nat} {m : Mp} {w : World} (h : InvH ops bs pt kd ν m0 base w0 ws S κ m w) (hS : ∀ i, i < ops.size → S i) :
    Rel ν base w0 m (pt ops.size).s w ∧ After m0 (pt 0).s ws m (pt ops.size).s w := by
  have hlive := R.live_at h.kle (Nat.le_refl _) (fun i g1 g2 hki => by have := (h.wr i g2 hki).1 (hS i g2); omega)
  refine ⟨⟨h.pre, h.same, h.big, h.d1, fun b blk hb => R.hd (Nat.le_refl _) hb, fun b blk p hb hp => (h.ok b blk p ((hlive b blk).1 hb).2 hp).1, fun b blk p hb hp => (h.ok b blk p ((hlive b blk).1 hb).2 hp).2, fun b b' x x' p p' hb hb' hp hp' hpp => h.inj b b' x x' p p' ((hlive b x).1 hb).2 ((hlive b' x').1 hb').2 hp hp' hpp⟩,
    ⟨h.ext, h.old, R.mono 0 ops.size (by omega) (Nat.le_refl _), h.os, h.tape, h.output, h.hsize, h.frame, fun b x p hb hp hlt => h.img b x p ((hlive b x).1 hb).2 hp hlt, fun b x hb hn => h.fr b x ((hlive b x).1 hb).2 hn fun i hi _ _ => hS i hi, fun b x hb hn => h.keep b x ((hlive b x).1 hb).2 hn⟩⟩
theorem InvT.done (R : Rn E N ops bs pt val kd ν m0 base w0 ws) (hN : N.N < 1000000) (hL : N.L = []) {S : Nat → Prop} {m : Mp} {a : Go.Act} (h : InvT N ops pt val ν S m a) (hS : ∀ i, i < ops.size → S i) : TR ν m N AllT (pt ops.size).T a := by
  refine ⟨h.size, h.defers, fun t v h1 h2 h3 h4 => ?_, fun t n x h1 _ _ => by rw [hL] at h1; simp [ixOf] at h1⟩
  rcases R.tmp hN h1 ops.size (Nat.le_refl _) with ⟨g1, g2⟩ | ⟨i, o', g1, g2, g3, g4⟩
  · rw [g2] at h4
    exact h.t0 t v h1 h2 (fun i o' hi ho' _ => g1 i o' hi ho') h4
  · rw [g4] at h4
    cases h4
    exact h.tS i o' t g1 g2 g3 (hS i g1)
end
end Go.Xc
end
section
/- Regions that draw their order: whole. -/
namespace Go.Xc

variable {E : Env}
section
variable {N : TC} {ops : Array Oper} {bs : List Nat} {pt : Nat → Pt} {val : Nat → FV} {kd : Nat → Kd} {ν : Int} {m0 : Mp} {base : Nat} {w0 ws : World}

/-- Whether step j is wanted is as it was in the order of the text. -/
theorem wanted_as (R : Rn E N ops bs pt val kd ν m0 base w0 ws) (hN : N.N < 1000000) {S : Nat → Prop} {m : Mp} {a : Go.Act} (hT : InvT N ops pt val ν S m a) {j : Nat} {o : Oper} (hj : j < ops.size) (ho : ops[j]? = some o) (hr : ∀ i, (bs.getD j 0).testBit i = true → S i) :
    (kd j = .skip → Region.wanted o (yielded ops a.tmps) = false) ∧ (kd j ≠ .skip → Region.wanted o (yielded ops a.tmps) = true) := by
  have hg := (R.tr.st j o hj ho).g
  unfold GuardF at hg
  cases hgo : o.guard with
  | none => rw [hgo] at hg; exact ⟨fun h => absurd h hg, fun _ => by simp [Region.wanted, hgo]⟩
  | some gw =>
    obtain ⟨g, w⟩ := gw
    rw [hgo] at hg
    obtain ⟨d, gv, h1, h2, h3⟩ := hg
    obtain ⟨b1, _⟩ := R.st.gd j o g w ho hgo
    have hgj : g < j := R.bit_lt (j + 1) j (by omega) hj b1
    obtain ⟨og, hog, hd⟩ := Option.bind_eq_some_iff.1 h1
    have hdN := R.st.dN g og d hog hd
    have hgv : gv = val g := by
      rcases R.tmp hN hdN j (by omega) with ⟨g1, _⟩ | ⟨i, o', g1, g2, g3, g4⟩
      · exact absurd hd (g1 g og hgj hog)
      · have : i = g := by
          rcases Nat.lt_trichotomy i g with c | c | c
          · exact absurd hd (R.st.dst i g o' og d c g2 hog g3)
          · exact c
          · exact absurd g3 (R.st.dst g i og o' d c hog g2 hd)
        subst this
        rw [h2] at g4
        exact Option.some.inj g4
    have hv := hT.tS g og d (by omega) hog hd (hr g b1)
    rw [← hgv] at hv
    rcases h3 with ⟨rfl, h3⟩ | ⟨h3, h4⟩
    · refine ⟨fun h => absurd h h3, fun _ => ?_⟩
      simp [Region.wanted, hgo, yielded_some h1 hv]
    · refine ⟨fun _ => ?_, fun h => absurd h4 h⟩
      rcases h3 with rfl | rfl
      · simp [Region.wanted, hgo, yielded_none h1 hv]
      · simp [Region.wanted, hgo, yielded_some h1 hv]
/-- A step, whichever is ready. -/
theorem op_ok (R : Rn E N ops bs pt val kd ν m0 base w0 ws) (hN : N.N < 1000000) (hL : N.L = []) (hν : E.c.has ν) {S : Nat → Prop} {κ : Nat} {m : Mp} {a : Go.Act} {w : World} (hT : InvT N ops pt val ν S m a) (hH : InvH ops bs pt kd ν m0 base w0 ws S κ m w)
    {j : Nat} (hj : j < ops.size) (hS : ¬ S j) (hr : ∀ i, (bs.getD j 0).testBit i = true → S i) {Q : Exit → Go.Act → World → Prop} {K : Go.Act → World → Prop}
    (hK : ∀ κ' m' a' w', InvT N ops pt val ν (plus S j) m' a' → InvH ops bs pt kd ν m0 base w0 ws (plus S j) κ' m' w' → K a' w') : wpOp E.P ops Q j K a w := by
  obtain ⟨o, ho, f⟩ := R.at hj
  obtain ⟨hw1, hw2⟩ := wanted_as R hN hT hj ho hr
  have hTR := hT.asked R hN hL hH.cl hj ho hS hr
  have hx := f.ex
  unfold wpOp
  simp only [ho]
  cases hk : kd j with
  | skip =>
    rw [hk] at hx
    rw [hw1 hk]
    simp only [Bool.false_eq_true, if_false]
    refine hK κ m _ w (hT.put R (Ext.refl m) hj ho (u := undef) ?_) (hH.quiet R hj (by rw [hk]; simp) (by rw [hk]; simp) hr)
    rw [hx.2]; rfl
  | val =>
    rw [hk] at hx
    rw [hw2 (by rw [hk]; simp)]
    simp only [if_true]
    refine .inl ?_
    obtain ⟨u, h1, h2⟩ := hx.2 ν hν m _ a hTR (fun t h => h) w trivial
    unfold Oper.wp
    rw [h1]
    exact hK κ m _ w (hT.put R (Ext.refl m) hj ho h2) (hH.quiet R hj (by rw [hk]; simp) (by rw [hk]; simp) hr)
  | new b =>
    rw [hk] at hx
    rw [hw2 (by rw [hk]; simp)]
    simp only [if_true]
    refine .inl ?_
    obtain ⟨_, mk, hv, hq⟩ := hx
    obtain ⟨u, obj, w', n, h3, h4, h5, h6, h7, h8, h9⟩ := hq ν hν m _ a hTR (fun t h => h) w
    obtain ⟨m', g1, g2, g3⟩ := hH.make R hj hk hS hr obj n h4 h5 h6 h7 h8
    unfold Oper.wp
    rw [h3]
    exact hK κ m' _ w' (hT.put R g1 hj ho (by rw [hv]; exact h9 m' _ g1 g2)) g3
  | row r =>
    rw [hk] at hx
    rw [hw2 (by rw [hk]; simp)]
    simp only [if_true]
    refine .inl ?_
    obtain ⟨_, l, h1, h2⟩ := hx
    have hin : RowIn ν m w r l := by
      cases r with
      | none => exact h1
      | some r =>
        obtain ⟨cs, n, g1, _, g3, g4⟩ := h1
        intro p hp
        obtain ⟨fb, c1, c2⟩ := R.find_live (κ := κ) (j := j) hH.kle (by omega) (RowEq r l) ⟨_, g1, g3, g4⟩ (fun i d1 d2 d3 => by
            refine sameC_iff (l := l) ?_
            rcases R.tr.wl i j r d2 hj d3 hk with e | e
            · have := (hH.wr i (by omega) d3).1 (hr i e); omega
            · exact e) (fun i d1 d2 d3 => by
            refine sameC_iff (l := l) ?_
            have hi : i < ops.size := by have := hH.kle; omega
            have hji : j < i := by
              rcases Nat.lt_or_eq_of_le d1 with c | c
              · exact c
              · subst c; rw [hk] at d3; cases d3
            rcases R.tr.lw j i r hji hi hk d3 with e | e
            · exact absurd (hH.cl i hi ((hH.wr i hi d3).2 d2) j e) hS
            · exact e)
        cases fb with
        | cells cs' n' => exact ⟨cs', n', (hH.ok r.b _ p c1 hp).1, c2.1, c2.2⟩
        | mp es => exact c2.elim
        | it s q => exact c2.elim
    obtain ⟨u, h3, h4⟩ := h2 ν hν m _ a hTR (fun t h => h) w hin
    unfold Oper.wp
    rw [h3]
    exact hK κ m _ w (hT.put R (Ext.refl m) hj ho h4) (hH.quiet R hj (by rw [hk]; simp) (by rw [hk]; simp) hr)
  | map b =>
    rw [hk] at hx
    rw [hw2 (by rw [hk]; simp)]
    simp only [if_true]
    refine .inl ?_
    obtain ⟨_, es, h1, h2⟩ := hx
    obtain ⟨u, h3, h4⟩ := h2 ν hν m _ a hTR (fun t h => h) w (fun p hp => by
      obtain ⟨fb, c1, c2⟩ := R.find_live (κ := κ) (j := j) hH.kle (by omega) (· = .mp es) ⟨_, h1, rfl⟩ (fun i d1 d2 d3 => by
          rcases R.tr.wm i j b d2 hj d3 hk with e | e
          · have := (hH.wr i (by omega) d3).1 (hr i e); omega
          · rw [sameB_eq e]) (fun i d1 d2 d3 => by
          have hi : i < ops.size := by have := hH.kle; omega
          have hji : j < i := by
            rcases Nat.lt_or_eq_of_le d1 with c | c
            · exact c
            · subst c; rw [hk] at d3; cases d3
          rcases R.tr.mw j i b hji hi hk d3 with e | e
          · exact absurd (hH.cl i hi ((hH.wr i hi d3).2 d2) j e) hS
          · rw [sameB_eq e])
      subst c2
      exact (hH.ok b _ p c1 hp).1)
    unfold Oper.wp
    rw [h3]
    exact hK κ m _ w (hT.put R (Ext.refl m) hj ho h4) (hH.quiet R hj (by rw [hk]; simp) (by rw [hk]; simp) hr)
  | wr =>
    rw [hk] at hx
    rw [hw2 (by rw [hk]; simp)]
    simp only [if_true]
    refine .inl (hx.1 ν hν (cut m (pt j).s.nx.num) _ a base w0 w (asked_cut R (by omega) hTR hL) (fun t h => h) (hH.found R hj hk hS hr) K Q fun m1 u w' h1 h2 h3 => ?_)
    obtain ⟨m', g1, g2, g3⟩ := hH.write R hj hk hS hr h2 h3
    exact hK (j + 1) m' _ w' (hT.put R g1 hj ho (VR_mono g2 _ _ h1)) g3
def onS (listed : Array Bool) : Nat → Prop := fun i => listed.getD i false = true
theorem onS_set {listed : Array Bool} {j : Nat} (hj : j < listed.size) : onS (listed.setIfInBounds j true) = plus (onS listed) j := by
  funext i
  apply propext
  unfold onS plus
  by_cases e : i = j
  · subst e; simp [hj]
  · rw [getD_set_ne false (Ne.symm e)]
    exact ⟨.inl, fun h => h.resolve_right e⟩
theorem onS_getD {listed : Array Bool} {j : Nat} (hj : j < listed.size) (d : Bool) : listed.getD j d = true ↔ onS listed j := by
  unfold onS; simp [hj]
theorem unlisted_lt {listed : Array Bool} {n j : Nat} (hn : listed.size = n) (hj : j < n) (hu : ¬ onS listed j) : ((List.range n).filter fun i => !((listed.setIfInBounds j true).getD i false)).length < ((List.range n).filter fun i => !(listed.getD i false)).length := by
  rw [← List.countP_eq_length_filter, ← List.countP_eq_length_filter]
  have key : ∀ (l : List Nat), (l.countP fun i => !((listed.setIfInBounds j true).getD i false)) ≤ l.countP (fun i => !(listed.getD i false)) ∧ (j ∈ l → (l.countP fun i => !((listed.setIfInBounds j true).getD i false)) < l.countP (fun i => !(listed.getD i false))) := by
    intro l
    induction l with
    | nil => simp
    | cons x l ih =>
      simp only [List.countP_cons]
      by_cases e : x = j
      · subst e
        have h1 : (listed.setIfInBounds x true).getD x false = true := by rw [← hn] at hj; simp [hj]
        have h2 : listed.getD x false = false := by unfold onS at hu; simpa using hu
        rw [h1, h2]
        simp only [Bool.not_true, Bool.not_false, if_true, Bool.false_eq_true, if_false]
        exact ⟨by omega, fun _ => by omega⟩
      · rw [getD_set_ne false (Ne.symm e)]
        exact ⟨by omega, fun hm => by have := ih.2 ((List.mem_cons.1 hm).resolve_left (Ne.symm e)); omega⟩
  exact (key (List.range n)).2 (by simpa using hj)
theorem any_ok (R : Rn E N ops bs pt val kd ν m0 base w0 ws) (hN : N.N < 1000000) (hL : N.L = []) (hν : E.c.has ν) {Q : Exit → Go.Act → World → Prop}
    (hQ : ∀ m' a' w', TR ν m' N AllT (pt ops.size).T a' → Rel ν base w0 m' (pt ops.size).s w' → After m0 (pt 0).s ws m' (pt ops.size).s w' → Q .normal a' w') :
    ∀ (fuel : Nat) (listed : Array Bool), listed.size = ops.size → ((List.range ops.size).filter fun i => !(listed.getD i false)).length ≤ fuel → ∀ κ m a w, InvT N ops pt val ν (onS listed) m a → InvH ops bs pt kd ν m0 base w0 ws (onS listed) κ m w →
      wpAny E.P .any ops Q fuel listed a w := by
  have fin : ∀ (listed : Array Bool), listed.size = ops.size → Region.ready .any ops listed = [] → ∀ i, i < ops.size → onS listed i := by
    intro listed hsz hr i
    induction i using Nat.strongRecOn with
    | _ i ih =>
      intro hi
      rcases Classical.em (onS listed i) with h | h
      · exact h
      · have : i ∈ Region.ready .any ops listed := by
          rw [mem_ready]
          refine ⟨?_, ops[i], Array.getElem?_eq_getElem hi, fun e he hb => ?_⟩
          · have := mt (onS_getD (listed := listed) (by omega : i < listed.size) true).1 h
            simpa using this
          · have hlt := R.st.aft i _ e (Array.getElem?_eq_getElem hi) he hb
            exact ih e.on hlt (by omega)
        rw [hr] at this; cases this
  have rd : ∀ (listed : Array Bool) (κ : Nat) m w, listed.size = ops.size → InvH ops bs pt kd ν m0 base w0 ws (onS listed) κ m w → ∀ j, j ∈ Region.ready .any ops listed → j < ops.size ∧ ¬ onS listed j ∧ ∀ i, (bs.getD j 0).testBit i = true → onS listed i := by
    intro listed κ m w hsz hH j hj
    obtain ⟨h1, o, h2, h3⟩ := mem_ready.1 hj
    have hlt := (Array.getElem?_eq_some_iff.1 h2).1
    refine ⟨hlt, fun h => ?_, fun i hb => ?_⟩
    · rw [(onS_getD (by omega) true).2 h] at h1; cases h1
    · obtain ⟨e, he, hbi, h4⟩ := R.st.bit j o i h2 hb
      have h5 := h3 e he hbi
      have hlt' := R.st.aft j o e h2 he hbi
      rcases h4 with rfl | h4
      · exact h5
      · exact hH.cl e.on (by omega) h5 i h4
  intro fuel
  induction fuel with
  | zero =>
    intro listed hsz hf κ m a w hT hH
    have hall : ∀ i, i < ops.size → onS listed i := by
      intro i hi
      rcases Classical.em (onS listed i) with h | h
      · exact h
      · have hm : i ∈ (List.range ops.size).filter fun i => !(listed.getD i false) := by
          rw [List.mem_filter]
          refine ⟨by simpa using hi, ?_⟩
          unfold onS at h; simpa using h
        have := List.length_pos_of_mem hm
        omega
    refine ⟨?_, ?_⟩
    · cases hr : Region.ready .any ops listed with
      | nil => rfl
      | cons x xs =>
        obtain ⟨h1, h2, _⟩ := rd listed κ m w hsz hH x (by rw [hr]; simp)
        exact absurd (hall x h1) h2
    · obtain ⟨h1, h2⟩ := hH.done R hall
      exact hQ m a w (hT.done R hN hL hall) h1 h2
  | succ fuel ih =>
    intro listed hsz hf κ m a w hT hH
    refine ⟨fun hr => ?_, fun j hj => ?_⟩
    · have hall := fin listed hsz hr
      obtain ⟨h1, h2⟩ := hH.done R hall
      exact hQ m a w (hT.done R hN hL hall) h1 h2
    · obtain ⟨h1, h2, h3⟩ := rd listed κ m w hsz hH j hj
      refine op_ok R hN hL hν hT hH h1 h2 h3 fun κ' m' a' w' hT' hH' => ?_
      rw [← onS_set (by omega)] at hT' hH'
      have := unlisted_lt hsz h1 h2
      exact ih _ (by simpa using hsz) (by omega) κ' m' a' w' hT' hH'
end
theorem draw_ok (hE : EnvOk E) : DrawOk E := by
  intro call hc N id ops hN hL hok T s k h
  have hS := stF_of hok
  have hgs : ∀ (i : Nat) (o : Oper) g w, ops[i]? = some o → o.guard = some (g, w) → ∃ d, (ops[g]?).bind (·.dst) = some d := fun i o g w ho hg => (hS.gd i o g w ho hg).2
  obtain ⟨pt, val, kd, h1, hF, h0⟩ := runD_inv hE hc (N := N) (ops := ops) (bs := befs [] ops.toList) (k := k) ops.toList 0 (by simp) (by simp) hgs (fun _ => ⟨T, s⟩) (fun _ => .undef) (fun _ => .skip) []
    ⟨fun i o hi => by omega, fun i i' r _ hi => by omega, fun i i' r _ hi => by omega, fun i i' r _ hi => by omega, fun i i' r _ hi => by omega, fun i i' r _ hi => by omega⟩
    ⟨fun i hi => by omega, fun i r hi => by omega, fun i r hi => by omega, fun i r hi => by omega⟩ h
  have hp0 : pt 0 = ⟨T, s⟩ := h0 0 (Nat.le_refl _)
  refine ⟨_, _, h1, fun ν hν m a base w0 w hT hR Q K => ?_⟩
  refine wp_region_any hE.mixed ?_
  have hT0 : TR ν m N AllT (pt 0).T a := by rw [hp0]; exact hT
  have hR0 : Rel ν base w0 m (pt 0).s w := by rw [hp0]; exact hR
  have hreal := real_run hN hL hS hF hν hT0 hR0
  have R : Rn E N ops (befs [] ops.toList) pt val kd ν m base w0 w := ⟨hS, hF, fun i i' h1 h2 => (hreal i' h2).2 i h1, fun i hi => (hreal i hi).1⟩
  have hno : ∀ i, ¬ onS (Array.replicate ops.size false) i := by
    intro i
    unfold onS
    rcases Nat.lt_or_ge i ops.size with g | g
    · simp [g]
    · simp [Array.getD_eq_getD_getElem?, g]
  have hlive : ∀ b x, Live ops pt kd 0 b x → (b.num < (pt 0).s.nx.num ∧ (pt 0).s.h.get b = some x) ∨ (pt 0).s.nx.num ≤ b.num := by
    rintro b x (g | ⟨q, g1, g2, g3, g4⟩)
    · exact .inl g
    · exact .inr (by rw [← g4]; exact R.mono 0 q g1 (by omega))
  have hmp : ∀ b x p, Live ops pt kd 0 b x → m b = some p → (pt 0).s.h.get b = some x := by
    intro b x p hl hp
    rcases hlive b x hl with ⟨_, g⟩ | g
    · exact g
    · rw [hR0.dom b g] at hp; cases hp
  refine any_ok R hN hL hν (fun m' a' w' h2 h3 h4 => K m' a' w' h2 h3 ?_) ops.size (Array.replicate ops.size false) (by simp) (by
      refine Nat.le_trans (List.length_filter_le _ _) (by simp)) 0 m a { w with drawn := w.drawn + 1 } ⟨hT0.size, hT0.defers, fun i o d _ _ _ h => absurd h (hno i), fun t x h1 h2 _ h4 => hT0.t t x h1 h2 trivial h4⟩ ?_
  · rw [hp0] at h4; exact h4
  · refine ⟨hR0.pre, by omega, fun j _ _ => ⟨fun h => absurd h (hno j), fun h => by omega⟩, fun j _ h => absurd h (hno j), hR0.same, hR0.big, fun b hb => hR0.dom b (Nat.le_trans (R.mono 0 ops.size (by omega) (Nat.le_refl _)) hb), fun i hi _ b hb _ => hR0.dom b (Nat.le_trans (R.mono 0 i (by omega) (by omega)) hb),
      fun b x p hl hp => ⟨BlkOk_mono (Ext.refl m) rfl (hR0.ok b x p (hmp b x p hl hp) hp), hR0.lo b x p (hmp b x p hl hp) hp⟩, fun b b' x x' p p' hl hl' hp hp' hpp => hR0.inj b b' x x' p p' (hmp b x p hl hp) (hmp b' x' p' hl' hp') hp hp' hpp, Ext.refl m, fun _ _ => rfl, rfl, rfl, rfl, Nat.le_refl _, fun _ _ _ => rfl,
      fun b x p hl hp _ => ⟨b, x, p, hmp b x p hl hp, hp, rfl⟩, fun b x hl hb hi => ?_, fun b x hl hb => ?_⟩
    · rcases hl with ⟨g, _⟩ | ⟨q, g1, g2, g3, g4⟩
      · omega
      · have := (R.new_nx g2 g3).1
        exact absurd (hi q g2 (by rw [g4]; exact Nat.le_refl _) (by rw [this, g4]; omega)) (hno q)
    · rcases hlive b x hl with ⟨_, g⟩ | g
      · exact ⟨x, g⟩
      · omega
/-- All code. -/
theorem exec_all (hE : EnvOk E) {fi : Nat → FI} (hfi : FiOk E fi) (n : Nat) : ExOk E (execF fi n) ∧ CallOk E (callOf fi (execF fi n)) :=
  ⟨(exec_ok hE (draw_ok hE) hfi n).1, callOk_of hE hfi (exec_ok hE (draw_ok hE) hfi n).1 (exec_ok hE (draw_ok hE) hfi n).2.2⟩
end Go.Xc
end
