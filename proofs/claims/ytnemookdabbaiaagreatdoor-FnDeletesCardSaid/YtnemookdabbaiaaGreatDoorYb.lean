/- Operations that turn nothing: each is sound. -/
import Derived.Test.YtnemookdabbaiaaGreatDoorYa
import Derived.Lib.Strings
import Derived.Laws.StructEq
import Derived.Laws.IdiomStrings
section
/- The quiet operations do what the executor has them do. -/
namespace Go.Xc

def QRun (P : Program) (ν : Int) (m : Mp) (o : Oper) (a : Go.Act) (w : World) : QR → Prop
  | .val v => ∃ u, (execOp a.eval o).run P w = .ok (.value u) w ∧ VR ν m v u
  | .new b mk => ∃ u obj w' n, (execOp a.eval o).run P w = .ok (.value u) w' ∧ w'.heap = w.heap.push obj ∧ w'.os = w.os ∧ w'.tape = w.tape ∧ w'.output = w.output ∧
      (∀ m', Ext m m' → BlkOk ν m' w' ⟨w.heap.size, 0, n⟩ b) ∧ (∀ m' p, Ext m m' → m' p = some ⟨w.heap.size, 0, n⟩ → VR ν m' (mk p) u)
def QOk (E : Env) (N : TC) (o : Oper) (f : FT → (QR → Bool) → Bool) : Prop :=
  ∀ T kk, f T kk = true → ∃ qr, kk qr = true ∧ ∀ ν, E.c.has ν → ∀ m D a, TR ν m N D T a → (∀ t, Operand.tmp t ∈ o.op.operands.toList → D t) → ∀ w, QRun E.P ν m o a w qr

variable {E : Env} {N : TC} {o : Oper}

theorem q_move {x : Operand} (ho : o.op = .move x) : QOk E N o (fun T k => evK (copd N x) T fun v => k (.val v)) := by
  intro T kk h
  obtain ⟨v, h, hv⟩ := ev_inv h
  refine ⟨_, h, fun ν _ m D a hT hD w => ⟨a.eval x, ?_, hv ν m D a hT (fun t e => hD t (by simp [ho, Op.operands, e]))⟩⟩
  simp only [execOp, ho, Sem.run_pure]
theorem q_assign {x : Operand} (ho : o.op = .assign x) : QOk E N o (fun T k => evK (copd N x) T fun v => k (.val v)) := by
  intro T kk h
  obtain ⟨v, h, hv⟩ := ev_inv h
  refine ⟨_, h, fun ν _ m D a hT hD w => ⟨a.eval x, ?_, hv ν m D a hT (fun t e => hD t (by simp [ho, Op.operands, e]))⟩⟩
  simp only [execOp, ho, Sem.run_pure]
theorem q_pick {c x y : Operand} (ho : o.op = .pick c x y) : QOk E N o (fun T k => evK (copd N c) T fun v => v.asBool fun t => Bool.rec (evK (copd N y) T fun v => k (.val v)) (evK (copd N x) T fun v => k (.val v)) t) := by
  intro T kk h
  obtain ⟨v, h, hv⟩ := ev_inv h
  obtain ⟨b, rfl, h⟩ := asBool_inv h
  cases b with
  | true =>
    obtain ⟨u, h, hu⟩ := ev_inv (show evK (copd N x) T _ = true from h)
    refine ⟨_, h, fun ν _ m D a hT hD w => ⟨a.eval x, ?_, hu ν m D a hT (fun t e => hD t (by simp [ho, Op.operands, e]))⟩⟩
    have hc : a.eval c = .bool true := hv ν m D a hT (fun t e => hD t (by simp [ho, Op.operands, e]))
    simp [execOp, ho, hc, asBool]
  | false =>
    obtain ⟨u, h, hu⟩ := ev_inv (show evK (copd N y) T _ = true from h)
    refine ⟨_, h, fun ν _ m D a hT hD w => ⟨a.eval y, ?_, hu ν m D a hT (fun t e => hD t (by simp [ho, Op.operands, e]))⟩⟩
    have hc : a.eval c = .bool false := hv ν m D a hT (fun t e => hD t (by simp [ho, Op.operands, e]))
    simp [execOp, ho, hc, asBool]

theorem alloc_get (w : World) (o : Obj) : (w.alloc o).heap[w.heap.size]? = some o := by
  show (w.heap.push o)[w.heap.size]? = some o
  simp
/-- Cells in a new block. -/
theorem blk_new {ν : Int} {m : Mp} {w' : World} {b : Nat} {l : List FV} {us : Array Value} {e : TypeId} {n : Nat} {fr : Nat × Nat} (hb : w'.heap[b]? = some (.cells us e fr))
    (hl : ∀ (i : Nat) (x : FV), l[i]? = some x → ∃ v, us[i]? = some v ∧ VR ν m x v) (hs : ∀ x ∈ l, single x = true) (hn : l.length ≤ us.size) (hnn : n = l.length) (hf : us.size ≤ fr.1 ∨ fr.2 = 0) : BlkOk ν m w' ⟨b, 0, us.size⟩ (.cells l n) := by
  refine ⟨hnn, us, e, fr, hb, by simp, hn, ?_, ?_⟩
  · intro i x hx
    refine ⟨hs x (List.mem_of_getElem? hx), ?_⟩
    simpa using hl i x hx
  · intro i hi
    simp only at hi ⊢
    omega
theorem zero_ok {t : Nat} {z : List FV} (hE : EnvOk E) (h : zeroL E.tt t = some z) : ∃ i v, E.P.info? t = some i ∧ i.zero = some v ∧ z.length = i.size ∧ v.cells.size = i.size ∧ (∀ ν m, VRs ν m z v.cells.toList) ∧ ∀ x ∈ z, single x = true := by
  unfold zeroL at h
  cases hi : tyd E.tt t with
  | none => simp [hi] at h
  | some i =>
    simp only [hi] at h
    cases hz : i.zero with
    | none => simp [hz] at h
    | some v =>
      simp only [hz] at h
      cases hl : fconstL v.cells.toList with
      | none => simp [hl] at h
      | some l =>
        simp only [hl] at h
        cases hb : Nat.beq (lenL l) i.size with
        | false => simp [hb] at h
        | true =>
          simp only [hb, cond_true, Option.some.injEq] at h; subst h
          have e := Nat.eq_of_beq_eq_true hb
          rw [lenL_eq] at e
          have hv := fun ν m => (fconstL_ok hl ν m).1
          have := VRs_len (hv 0 (fun _ => none))
          exact ⟨i, v, hE.ty t i hi, hz, e, by simp at this; omega, hv, (fconstL_ok hl 0 (fun _ => none)).2⟩
theorem run_zero {P : Program} {t : TypeId} {i : TypeInfo} {v : Value} (h : P.info? t = some i) (hz : i.zero = some v) (w : World) : (zeroValue t).run P w = .ok v w := by
  simp [zeroValue, run_typeInfo w h, hz]
theorem szag_ok (hE : EnvOk E) {t n : Nat} {ag : Bool} (h : szag E.tt t = some (n, ag)) : (∀ w, (sizeOf t).run E.P w = .ok n w) ∧ (∀ w, (isAgg t).run E.P w = .ok ag w) ∧ (E.P.info? t).map (·.size) = some n := by
  unfold szag at h
  cases hi : tyd E.tt t with
  | none => simp [hi] at h
  | some i =>
    cases hu : und E.tt t with
    | none => simp [hi, hu] at h
    | some d =>
      simp only [hi, hu, Option.some.injEq, Prod.mk.injEq] at h
      obtain ⟨h1, h2⟩ := h
      refine ⟨fun w => ?_, fun w => ?_, ?_⟩
      · rw [run_sizeOf w (hE.ty t i hi)]; simp [Program.cellsOf, hE.ty t i hi, h1]
      · unfold isAgg
        simp only [Sem.run_bind, run_underlying (und_ok hE hu), Result.andThen_ok]
        subst h2
        cases d <;> rfl
      · rw [hE.ty t i hi]; simp [h1]

theorem q_alloc {e : TypeId} {z : List FV} (hE : EnvOk E) (ho : o.op = .alloc e) (hz : zeroL E.tt e = some z) : QOk E N o (fun _ k => k (.new (.cells z (lenL z)) fun b => .ptr b 0)) := by
  intro T kk h
  obtain ⟨i, v, h1, h2, h3, h4, h5, h6⟩ := zero_ok hE hz
  refine ⟨_, h, fun ν _ m D a hT hD w => ⟨.pointer (some ⟨w.heap.size, 0, none⟩), .cells v.cells e, w.alloc (.cells v.cells e), v.cells.size, ?_, rfl, rfl, rfl, rfl, ?_, ?_⟩⟩
  · simp [execOp, ho, Instr.alloc, run_zero h1 h2, newVar, newRow]
  · intro m' hm
    refine blk_new (e := e) (fr := (0, 0)) (alloc_get w _) ?_ h6 (by omega) (lenL_eq z) (.inr rfl)
    intro i x hx
    obtain ⟨u, f1, f2⟩ := VRs_get (h5 ν m') i x hx
    exact ⟨u, by simpa using f1, f2⟩
  · intro m' p hm hp
    exact ⟨_, hp, rfl⟩
theorem cells_ok {v : FV} {k : List FV → Bool} (h : v.cellsK k = true) : ∃ l, k l = true ∧ ∀ ν m u, VR ν m v u → VRs ν m l u.cells.toList ∧ ∀ x ∈ l, single x = true := by
  rcases cellsK_inv h with ⟨l, rfl, h⟩ | ⟨hs, h⟩
  · exact ⟨l, h, fun ν m u hu => by obtain ⟨us, rfl, h1, h2⟩ := hu; exact ⟨h1, h2⟩⟩
  · exact ⟨[v], h, fun ν m u hu => by rw [(single_cells hs hu).1]; exact ⟨⟨u, [], rfl, hu, rfl⟩, by simpa using hs⟩⟩
theorem q_box {e : TypeId} {x : Operand} (ho : o.op = .box e x) : QOk E N o (fun T k => evK (copd N x) T fun v => v.cellsK fun l => k (.new (.cells l (lenL l)) fun b => .ptr b 0)) := by
  intro T kk h
  obtain ⟨v, h, hv⟩ := ev_inv h
  obtain ⟨l, h, hl⟩ := cells_ok h
  refine ⟨_, h, fun ν _ m D a hT hD w => ?_⟩
  have hu := hv ν m D a hT (fun t e => hD t (by simp [ho, Op.operands, e]))
  have hc := hl ν m _ hu
  refine ⟨.pointer (some ⟨w.heap.size, 0, none⟩), .cells (a.eval x).cells e, w.alloc (.cells (a.eval x).cells e), (a.eval x).cells.size, ?_, rfl, rfl, rfl, rfl, ?_, ?_⟩
  · simp [execOp, ho, Instr.box, newVar, newRow]
  · intro m' hm
    refine blk_new (e := e) (fr := (0, 0)) (alloc_get w _) ?_ hc.2 ?_ (lenL_eq l) (.inr rfl)
    · intro i y hy
      obtain ⟨u, f1, f2⟩ := VRs_get (VRs_mono hm _ _ hc.1) i y hy
      exact ⟨u, by simpa using f1, f2⟩
    · have := VRs_len hc.1; simp at this; omega
  · intro m' p hm hp
    exact ⟨_, hp, rfl⟩
theorem q_nilCheck {x : Operand} (ho : o.op = .nilCheck x) : QOk E N o (fun T k => evK (copd N x) T fun v => nilCK v fun v => k (.val v)) := by
  intro T kk h
  obtain ⟨v, h, hv⟩ := ev_inv h
  cases v <;> first
    | exact nomatch (show false = true from h)
    | (refine ⟨_, h, fun ν _ m D a hT hD w => ⟨a.eval x, ?_, hv ν m D a hT (fun t e => hD t (by simp [ho, Op.operands, e]))⟩⟩
       have hu := hv ν m D a hT (fun t e => hD t (by simp [ho, Op.operands, e]))
       first
       | (obtain ⟨p, _, hu⟩ := hu; simp [execOp, ho, hu])
       | (obtain ⟨a', c', hu, _⟩ := hu; simp [execOp, ho, hu]))
theorem q_not {t : TypeId} {x : Operand} (ho : o.op = .unOp .not t x) : QOk E N o (fun T k => evK (copd N x) T fun v => v.asBool fun b => k (.val (.bool (not b)))) := by
  intro T kk h
  obtain ⟨v, h, hv⟩ := ev_inv h
  obtain ⟨b, rfl, h⟩ := asBool_inv h
  refine ⟨_, h, fun ν _ m D a hT hD w => ⟨.bool (!b), ?_, rfl⟩⟩
  have hu : a.eval x = .bool b := hv ν m D a hT (fun t e => hD t (by simp [ho, Op.operands, e]))
  simp [execOp, ho, hu, Op.unary]
theorem arK_inv {c : Cx} {f : SI → SI → Option SI} {k : IntKind} {x y : SI} {kk : FV → Bool} (h : arK c f k x y kk = true) :
    ∃ z z', f x y = some z ∧ SI.wrapS c k z = some z' ∧ kk (.int k z') = true := by
  obtain ⟨z, h1, h⟩ := optK_inv h
  obtain ⟨z', h2, h⟩ := optK_inv h
  exact ⟨z, z', h1, h2, h⟩
theorem q_neg {t : TypeId} {x : Operand} (ho : o.op = .unOp .neg t x) : QOk E N o (fun T k => evK (copd N x) T fun v => v.asInt fun kk z => arK E.c SI.sub kk (.lit 0) z fun v => k (.val v)) := by
  intro T kk h
  obtain ⟨v, h, hv⟩ := ev_inv h
  obtain ⟨ki, s, rfl, h⟩ := asInt_inv h
  obtain ⟨z, z', h1, h2, h⟩ := arK_inv (show arK E.c SI.sub ki (.lit 0) s (fun v => kk (.val v)) = true from h)
  refine ⟨.val (.int ki z'), h, fun ν hν m D a hT hD w => ⟨.int ki (z'.ev ν), ?_, rfl⟩⟩
  have hu : a.eval x = .int ki (s.ev ν) := hv ν m D a hT (fun t e => hD t (by simp [ho, Op.operands, e]))
  have e := SI.wrapS_ok h2 ν hν
  rw [SI.sub_ok h1] at e
  have e' : z'.ev ν = ki.wrap (0 - s.ev ν) := e
  rw [e']
  simp only [execOp, ho, hu, Op.unary, Op.intArith, Sem.run_bind, Sem.run_pure, Result.andThen_ok]
theorem q_iface {t : TypeId} {d : TypeDesc} {x : Operand} (hE : EnvOk E) (ho : o.op = .makeInterface t x) (hd : und E.tt t = some d) (hn : ∀ ms, d ≠ .interface ms) : QOk E N o (fun T k => evK (copd N x) T fun v => k (.val (.iface t v))) := by
  intro T kk h
  obtain ⟨v, h, hv⟩ := ev_inv h
  refine ⟨_, h, fun ν _ m D a hT hD w => ⟨.iface t (a.eval x), ?_, _, rfl, hv ν m D a hT (fun t e => hD t (by simp [ho, Op.operands, e]))⟩⟩
  simp only [execOp, ho, Instr.makeInterface, Sem.run_bind, run_underlying (und_ok hE hd), Result.andThen_ok]
  cases d <;> first | rfl | exact absurd rfl (hn _)
theorem q_func {f : FuncId} {x y : Array Operand} (ho : o.op = .makeFunc (.func f) x y) : QOk E N o (fun T k => evKL (x.toList.map (copd N)) T fun a => evKL (y.toList.map (copd N)) T fun b => k (.val (.func f a b))) := by
  intro T kk h
  obtain ⟨l, h, hl⟩ := evL_inv h
  obtain ⟨l', h, hl'⟩ := evL_inv h
  refine ⟨_, h, fun ν _ m D a hT hD w => ⟨.func (.func f) (x.map a.eval) (y.map a.eval), ?_, _, _, rfl, ?_, ?_⟩⟩
  · simp [execOp, ho, Instr.makeFunc]
  · have := hl ν m D a hT (fun t e => hD t (by simp [ho, Op.operands]; exact .inl (by simpa using e))); simpa using this
  · have := hl' ν m D a hT (fun t e => hD t (by simp [ho, Op.operands]; exact .inr (by simpa using e))); simpa using this
theorem q_map {t : TypeId} (ho : o.op = .makeMap t none) : QOk E N o (fun _ k => k (.new (.mp []) .map)) := by
  intro T kk h
  refine ⟨_, h, fun ν _ m D a hT hD w => ⟨.map (some w.heap.size), .map #[] 0, w.alloc (.map #[] 0), 0, ?_, rfl, rfl, rfl, rfl, ?_, ?_⟩⟩
  · simp [execOp, ho, Instr.makeMap]
  · intro m' hm
    exact ⟨rfl, #[], 0, alloc_get w _, rfl⟩
  · intro m' p hm hp
    exact ⟨_, hp, rfl⟩
theorem q_extract {x : Operand} {i : Nat} (ho : o.op = .extract x i) : QOk E N o (fun T k => evK (copd N x) T fun v => v.asTuple fun l => nthK i l fun v => k (.val v)) := by
  intro T kk h
  obtain ⟨v, h, hv⟩ := ev_inv h
  obtain ⟨l, rfl, h⟩ := asTuple_inv h
  obtain ⟨y, e, h⟩ := nthK_inv h
  refine ⟨_, h, fun ν _ m D a hT hD w => ?_⟩
  obtain ⟨us, hu, h2⟩ := hv ν m D a hT (fun t e => hD t (by simp [ho, Op.operands, e]))
  obtain ⟨u, e1, e2⟩ := VRs_get h2 i y e
  refine ⟨u, ?_, e2⟩
  have : us[i]? = some u := by simpa using e1
  simp [execOp, ho, hu, Instr.extract, this]
end Go.Xc
end
section
/- The quiet operations, more of them: addresses, parts, texts, slices. -/
namespace Go.Xc

variable {E : Env} {N : TC} {o : Oper}

theorem addr_add (b o n : Nat) : (⟨b, o, none⟩ : Addr).add n = ⟨b, o + n, none⟩ := by
  unfold Addr.add; split
  · rename_i h; simp [h]
  · rfl
theorem fieldT_ok (hE : EnvOk E) {t f : Nat} {fl : Field} (h : fieldT E.tt t f = some fl) : ∃ fs, E.P.underlying t = some (.struct fs) ∧ fs[f]? = some fl := by
  unfold fieldT at h
  split at h
  · rename_i fs hu; exact ⟨fs, und_ok hE hu, h⟩
  · cases h
theorem elemT_ok (hE : EnvOk E) {t e : Nat} (h : elemT E.tt t = some e) : E.P.underlying t = some (.slice e) := by
  unfold elemT at h
  split at h
  · rename_i e' hu; simp only [Option.some.injEq] at h; subst h; exact und_ok hE hu
  · cases h
theorem asNat_ev {ν : Int} {kk : IntKind} {n : Nat} {m : Mp} {v : Value} (h : VR ν m (.int kk (.lit (.ofNat n))) v) : v = .int kk (n : Int) := h

theorem q_fieldAddr {s : TypeId} {x : Operand} {f : Nat} {fl : Field} {sz : Nat} {ag : Bool} (hE : EnvOk E) (ho : o.op = .fieldAddr s x f) (hf : fieldT E.tt s f = some fl) (hs : szag E.tt fl.type = some (sz, ag)) (h0 : Nat.blt 0 sz = true) :
    QOk E N o (fun T k => evK (copd N x) T fun v => v.asPtr fun b o => k (.val (.ptr b (Nat.add o fl.offset)))) := by
  intro T kk h
  obtain ⟨v, h, hv⟩ := ev_inv h
  obtain ⟨b, of, rfl, h⟩ := asPtr_inv h
  refine ⟨_, h, fun ν hν m D a hT hD w => ?_⟩
  obtain ⟨p, hp, hu⟩ := hv ν m D a hT (fun t e => hD t (by simp [ho, Op.operands, e]))
  obtain ⟨fs, h1, h2⟩ := fieldT_ok hE hf
  refine ⟨.pointer (some ⟨p.blk, p.off + (of + fl.offset), none⟩), ?_, p, hp, rfl⟩
  have h3 : ¬ sz = 0 := by simp only [Nat.blt_eq] at h0; omega
  simp only [execOp, ho, Instr.fieldAt, hu, Instr.sureAddr, fieldPlace, Sem.run_bind, run_underlying h1, Result.andThen_ok, h2, Sem.run_pure, (szag_ok hE hs).1, Sem.run_ite, h3, if_false, addr_add, Nat.add_assoc]
theorem q_field {t : TypeId} {x : Operand} {f : Nat} {fl : Field} {sz : Nat} {ag : Bool} (hE : EnvOk E) (ho : o.op = .field t x f) (hf : fieldT E.tt t f = some fl) (hs : szag E.tt fl.type = some (sz, ag)) :
    QOk E N o (fun T k => evK (copd N x) T fun v => v.asAgg fun cs => Bool.rec (nthK fl.offset cs fun v => k (.val v)) (takeK sz (dropL fl.offset cs) fun l => k (.val (.agg l))) ag) := by
  intro T kk h
  obtain ⟨v, h, hv⟩ := ev_inv h
  obtain ⟨l, rfl, h⟩ := asAgg_inv h
  obtain ⟨fs, h1, h2⟩ := fieldT_ok hE hf
  cases ag with
  | false =>
    obtain ⟨y, e, h⟩ := nthK_inv (show nthK fl.offset l _ = true from h)
    refine ⟨_, h, fun ν hν m D a hT hD w => ?_⟩
    obtain ⟨us, hu, hus, _⟩ := hv ν m D a hT (fun t e => hD t (by simp [ho, Op.operands, e]))
    obtain ⟨u, e1, e2⟩ := VRs_get hus _ y e
    have e3 : us[fl.offset]? = some u := by simpa using e1
    refine ⟨u, ?_, e2⟩
    simp only [execOp, ho, Instr.field, hu, asAgg, part, Sem.run_bind, run_underlying h1, Result.andThen_ok, h2, Sem.run_pure, (szag_ok hE hs).2.1, Sem.run_ite, e3, Bool.false_eq_true, if_false]
  | true =>
    obtain ⟨hle, h⟩ := takeK_inv (show takeK sz (dropL fl.offset l) _ = true from h)
    rw [dropL_eq] at hle h
    refine ⟨_, h, fun ν hν m D a hT hD w => ?_⟩
    obtain ⟨us, hu, hus, hsg⟩ := hv ν m D a hT (fun t e => hD t (by simp [ho, Op.operands, e]))
    refine ⟨.agg (us.extract fl.offset (fl.offset + sz)), ?_, _, rfl, ?_, ?_⟩
    · simp only [execOp, ho, Instr.field, hu, asAgg, part, Sem.run_bind, run_underlying h1, Result.andThen_ok, h2, Sem.run_pure, (szag_ok hE hs).2.1, Sem.run_ite, (szag_ok hE hs).1, if_true]
    · have := VRs_take sz (VRs_drop fl.offset hus)
      simpa [List.drop_take] using this
    · intro c hc; exact hsg c (List.mem_of_mem_drop (List.mem_of_mem_take hc))
theorem q_indexAddr {t : TypeId} {x i : Operand} {e es : Nat} {ag : Bool} (hE : EnvOk E) (ho : o.op = .indexAddr t x i) (ht : und E.tt t = some (.slice e)) (hs : szag E.tt e = some (es, ag)) :
    QOk E N o (fun T k => evK (copd N x) T fun v => evK (copd N i) T fun n => n.asNat fun n => v.asSlice fun b o len es' => ifK (Nat.beq es es') (ifK (Nat.blt n len) (k (.val (.ptr b (Nat.add o (Nat.mul n es))))) false) false) := by
  intro T kk h
  obtain ⟨v, h, hv⟩ := ev_inv h
  obtain ⟨iv, h, hi⟩ := ev_inv h
  obtain ⟨ki, n, rfl, h⟩ := asNat_inv h
  obtain ⟨b, of, len, es', rfl, h⟩ := asSlice_inv h
  obtain ⟨h3, h⟩ := ifK_left h
  obtain ⟨h4, hk⟩ := ifK_left h
  have h3 := Nat.eq_of_beq_eq_true h3; subst h3
  simp only [Nat.blt_eq] at h4
  refine ⟨_, hk, fun ν hν m D a hT hD w => ?_⟩
  obtain ⟨p, cap, hp, hu, _⟩ := hv ν m D a hT (fun t e => hD t (by simp [ho, Op.operands, e]))
  have hn : a.eval i = .int ki (n : Int) := hi ν m D a hT (fun t e => hD t (by simp [ho, Op.operands, e]))
  refine ⟨.pointer (some ⟨p.blk, p.off + (of + n * es), none⟩), ?_, p, hp, rfl⟩
  have h5 : (0 : Int) ≤ (n : Int) ∧ (n : Int) < (len : Int) := by omega
  simp only [execOp, ho, Instr.indexAt, hu, hn, asIntOf, Sem.run_bind, Sem.run_pure, run_underlying (und_ok hE ht), Result.andThen_ok, Sem.run_ite, h5, and_self, if_true, (szag_ok hE hs).1, Int.toNat_natCast, addr_add, Nat.add_assoc]
theorem q_indexAddrA {t : TypeId} {x i : Operand} {e es q : Nat} {ag : Bool} (hE : EnvOk E) (ho : o.op = .indexAddr t x i) (ht : und E.tt t = some (.array q e)) (hs : szag E.tt e = some (es, ag)) :
    QOk E N o (fun T k => evK (copd N x) T fun v => evK (copd N i) T fun n => n.asNat fun n => v.asPtr fun b o => ifK (Nat.blt n q) (k (.val (.ptr b (Nat.add o (Nat.mul n es))))) false) := by
  intro T kk h
  obtain ⟨v, h, hv⟩ := ev_inv h
  obtain ⟨iv, h, hi⟩ := ev_inv h
  obtain ⟨ki, n, rfl, h⟩ := asNat_inv h
  obtain ⟨b, of, rfl, h⟩ := asPtr_inv h
  obtain ⟨h4, h⟩ := ifK_left h
  simp only [Nat.blt_eq] at h4
  refine ⟨_, h, fun ν hν m D a hT hD w => ?_⟩
  obtain ⟨p, hp, hu⟩ := hv ν m D a hT (fun t e => hD t (by simp [ho, Op.operands, e]))
  have hn : a.eval i = .int ki (n : Int) := hi ν m D a hT (fun t e => hD t (by simp [ho, Op.operands, e]))
  refine ⟨.pointer (some ⟨p.blk, p.off + (of + n * es), none⟩), ?_, p, hp, rfl⟩
  have h5 : (0 : Int) ≤ (n : Int) ∧ (n : Int) < (q : Int) := by omega
  simp only [execOp, ho, Instr.indexAt, hu, hn, asIntOf, Instr.sureAddr, Sem.run_bind, Sem.run_pure, run_underlying (und_ok hE ht), Result.andThen_ok, Sem.run_ite, h5, and_self, if_true, (szag_ok hE hs).1, Int.toNat_natCast, addr_add, Nat.add_assoc]

/- texts -/
theorem mkS_size (ν : Int) (l : List SI) : (mkS ν l).size = l.length := by simp [mkS, ByteArray.size]
theorem mkS_get {ν : Int} {l : List SI} {n : Nat} {z : SI} (h : l[n]? = some z) (hb : bytesIn ν l) : (mkS ν l)[n]? = some (byteOfSI ν z) ∧ ((byteOfSI ν z).toNat : Int) = z.ev ν := by
  constructor
  · have hl : n < l.length := by
      rcases Nat.lt_or_ge n l.length with g | g
      · exact g
      · rw [List.getElem?_eq_none g] at h; cases h
    rw [getElem?_pos (mkS ν l) n (by rw [mkS_size]; exact hl)]
    congr 1
    have : l[n] = z := by rw [List.getElem?_eq_getElem hl] at h; exact Option.some.inj h
    simp [mkS, ByteArray.getElem_eq_getElem_data, this]
  · have := hb z (List.mem_of_getElem? h)
    unfold byteOfSI
    rw [UInt8.toNat_ofNat']
    omega
theorem q_indexS {t : TypeId} {x i : Operand} (hE : EnvOk E) (ho : o.op = .index t x i) (ht : und E.tt t = some .string) :
    QOk E N o (fun T k => evK (copd N x) T fun v => evK (copd N i) T fun n => n.asNat fun n => v.asStr fun l _ => nthK n l fun z => k (.val (.int .u8 z))) := by
  intro T kk h
  obtain ⟨v, h, hv⟩ := ev_inv h
  obtain ⟨iv, h, hi⟩ := ev_inv h
  obtain ⟨ki, n, rfl, h⟩ := asNat_inv h
  obtain ⟨l, ln, rfl, h⟩ := asStr_inv h
  obtain ⟨z, e, h⟩ := nthK_inv h
  refine ⟨_, h, fun ν hν m D a hT hD w => ?_⟩
  obtain ⟨hu, hb, _⟩ := hv ν m D a hT (fun t e => hD t (by simp [ho, Op.operands, e]))
  have hn : a.eval i = .int ki (n : Int) := hi ν m D a hT (fun t e => hD t (by simp [ho, Op.operands, e]))
  obtain ⟨g1, g2⟩ := mkS_get e hb
  refine ⟨.int .u8 (z.ev ν), ?_, rfl⟩
  simp only [execOp, ho, Instr.index, hu, hn, asIntOf, Sem.run_bind, Sem.run_pure, run_underlying (und_ok hE ht), Result.andThen_ok, Int.natCast_nonneg, if_true, Int.toNat_natCast, g1, g2]
theorem q_indexA {t : TypeId} {x i : Operand} {e es q : Nat} {ag : Bool} (hE : EnvOk E) (ho : o.op = .index t x i) (ht : und E.tt t = some (.array q e)) (hs : szag E.tt e = some (es, ag)) :
    QOk E N o (fun T k => evK (copd N x) T fun v => evK (copd N i) T fun n => n.asNat fun n => v.asAgg fun cs => ifK (Nat.blt n q) (Bool.rec (nthK (Nat.mul n es) cs fun v => k (.val v)) (takeK es (dropL (Nat.mul n es) cs) fun l => k (.val (.agg l))) ag) false) := by
  intro T kk h
  obtain ⟨v, h, hv⟩ := ev_inv h
  obtain ⟨iv, h, hi⟩ := ev_inv h
  obtain ⟨ki, n, rfl, h⟩ := asNat_inv h
  obtain ⟨l, rfl, h⟩ := asAgg_inv h
  obtain ⟨h4, h⟩ := ifK_left h
  simp only [Nat.blt_eq] at h4
  have h5 : (0 : Int) ≤ (n : Int) ∧ (n : Int) < (q : Int) := by omega
  cases ag with
  | false =>
    obtain ⟨y, e, h⟩ := nthK_inv (show nthK (Nat.mul n es) l _ = true from h)
    refine ⟨_, h, fun ν hν m D a hT hD w => ?_⟩
    obtain ⟨us, hu, hus, _⟩ := hv ν m D a hT (fun t e => hD t (by simp [ho, Op.operands, e]))
    have hn : a.eval i = .int ki (n : Int) := hi ν m D a hT (fun t e => hD t (by simp [ho, Op.operands, e]))
    obtain ⟨u, e1, e2⟩ := VRs_get hus _ y e
    have e3 : us[n * es]? = some u := by simpa using e1
    refine ⟨u, ?_, e2⟩
    simp only [execOp, ho, Instr.index, hu, hn, asIntOf, part, Sem.run_bind, Sem.run_pure, run_underlying (und_ok hE ht), Result.andThen_ok, Sem.run_ite, h5, and_self, if_true, (szag_ok hE hs).1, (szag_ok hE hs).2.1, Int.toNat_natCast, e3, Bool.false_eq_true, if_false]
  | true =>
    obtain ⟨hle, h⟩ := takeK_inv (show takeK es (dropL (Nat.mul n es) l) _ = true from h)
    rw [dropL_eq] at hle h
    refine ⟨_, h, fun ν hν m D a hT hD w => ?_⟩
    obtain ⟨us, hu, hus, hsg⟩ := hv ν m D a hT (fun t e => hD t (by simp [ho, Op.operands, e]))
    have hn : a.eval i = .int ki (n : Int) := hi ν m D a hT (fun t e => hD t (by simp [ho, Op.operands, e]))
    refine ⟨.agg (us.extract (n * es) (n * es + es)), ?_, _, rfl, ?_, ?_⟩
    · simp only [execOp, ho, Instr.index, hu, hn, asIntOf, part, Sem.run_bind, Sem.run_pure, run_underlying (und_ok hE ht), Result.andThen_ok, Sem.run_ite, h5, and_self, if_true, (szag_ok hE hs).1, (szag_ok hE hs).2.1, Int.toNat_natCast]
    · have := VRs_take es (VRs_drop (n * es) hus)
      simpa [List.drop_take] using this
    · intro c hc; exact hsg c (List.mem_of_mem_drop (List.mem_of_mem_take hc))
end Go.Xc
end
section
/- The quiet operations, more of them: cuts, lengths, least and greatest, slices that are made, what is built. -/
namespace Go.Xc

variable {E : Env} {N : TC} {o : Oper}

def OptNat (a : Go.Act) : Option Operand → Option Nat → Prop
  | none, none => True
  | some x, some n => ∃ kk, a.eval x = .int kk (n : Int)
  | _, _ => False
theorem oNat_inv {T : FT} {x : Option Operand} {k : Option Nat → Bool} (h : oNat T (x.map (copd N)) k = true) :
    ∃ r, k r = true ∧ ∀ ν m D a, TR ν m N D T a → (∀ t, x = some (.tmp t) → D t) → OptNat a x r := by
  cases x with
  | none => exact ⟨none, h, fun _ _ _ _ _ _ => trivial⟩
  | some x =>
    obtain ⟨v, h, hv⟩ := ev_inv (show evK (copd N x) T _ = true from h)
    obtain ⟨ki, n, rfl, h⟩ := asNat_inv h
    exact ⟨some n, h, fun ν m D a hT hD => ⟨ki, hv ν m D a hT (fun t e => hD t (by rw [e]))⟩⟩
theorem run_bound {P : Program} {w : World} {kk : IntKind} {n y : Nat} {code : BoundsCode} (h : n ≤ y) : (Instr.sliceBound (.int kk (n : Int)) y code).run P w = .ok n w := by
  have : (0 : Int) ≤ (n : Int) ∧ (n : Int) ≤ (y : Int) := by omega
  simp only [Instr.sliceBound, asIntOf, Sem.run_bind, Sem.run_pure, Result.andThen_ok, Sem.run_ite, this, and_self, if_true, Int.toNat_natCast]
theorem run_bounds {P : Program} {w : World} {a : Go.Act} {lo hi : Option Operand} {l h : Option Nat} {b : Bool} {len cap : Nat} (hl : OptNat a lo l) (hh : OptNat a hi h) (h1 : l.getD 0 ≤ h.getD len) (h2 : h.getD len ≤ cap) :
    (Instr.sliceBounds b len cap (lo.map a.eval) (hi.map a.eval) none).run P w = .ok (l.getD 0, h.getD len, cap) w := by
  cases lo <;> cases l <;> (try exact hl.elim) <;> cases hi <;> cases h <;> (try exact hh.elim)
  · simp [Instr.sliceBounds]
  · obtain ⟨k1, e1⟩ := hh
    simp at h1 h2
    simp [Instr.sliceBounds, e1, run_bound h2]
  · obtain ⟨k2, e2⟩ := hl
    simp at h1 h2
    simp [Instr.sliceBounds, e2, run_bound h1]
  · obtain ⟨k1, e1⟩ := hh
    obtain ⟨k2, e2⟩ := hl
    simp at h1 h2
    simp [Instr.sliceBounds, e1, e2, run_bound h1, run_bound h2]
theorem mkS_extract (ν : Int) (l : List SI) (a b : Nat) : (mkS ν l).extract a b = mkS ν ((l.drop a).take (b - a)) := by
  apply ByteArray.ext
  apply Array.ext'
  rw [Lib.extract_data]
  simp [mkS, List.map_take, List.map_drop]
theorem bytesIn_sub {ν : Int} {l l' : List SI} (h : bytesIn ν l) (hs : ∀ x ∈ l', x ∈ l) : bytesIn ν l' := fun s hs' => h s (hs s hs')
theorem q_sliceS {t : TypeId} {x : Operand} {lo hi : Option Operand} (hE : EnvOk E) (ho : o.op = .slice t x lo hi none) (ht : und E.tt t = some .string) :
    QOk E N o (fun T k => evK (copd N x) T fun v => v.asStr fun s n => oNat T (lo.map (copd N)) fun a => oNat T (hi.map (copd N)) fun b => ifK (Nat.ble (a.getD 0) (b.getD n)) (dropK (a.getD 0) s fun t => Option.rec (k (.val (.str t (Nat.sub n (a.getD 0))))) (fun b => takeK (Nat.sub b (a.getD 0)) t fun t => k (.val (.str t (Nat.sub b (a.getD 0))))) b) false) := by
  intro T kk h
  obtain ⟨v, h, hv⟩ := ev_inv h
  obtain ⟨s, n, rfl, g0⟩ := asStr_inv h
  clear h
  obtain ⟨l, g1, hl⟩ := oNat_inv g0
  obtain ⟨r, g2, hr⟩ := oNat_inv g1
  obtain ⟨h1, g3⟩ := ifK_left g2
  obtain ⟨h2, h⟩ := dropK_inv g3
  have h1 := Nat.le_of_ble_eq_true h1
  clear g0 g1 g2 g3
  have run : ∀ ν m D a, TR ν m N D T a → (∀ t, Operand.tmp t ∈ o.op.operands.toList → D t) → (r.getD n ≤ s.length) → ∀ w, n = s.length → a.eval x = .string (mkS ν s) →
      (execOp a.eval o).run E.P w = .ok (.value (.string ((mkS ν s).extract (l.getD 0) (r.getD n)))) w := by
    intro ν m D a hT hD hle w hn hx
    have g1 := hl ν m D a hT (fun t e => hD t (by simp [ho, Op.operands, e]))
    have g2 := hr ν m D a hT (fun t e => hD t (by simp [ho, Op.operands, e]))
    subst hn
    simp only [execOp, ho, Instr.sliceAt, Instr.slice, hx, Sem.run_bind, run_underlying (und_ok hE ht), Result.andThen_ok, mkS_size, Option.map_none, Option.isSome_none, Bool.false_eq_true, if_false, Sem.run_pure, run_bounds g1 g2 h1 hle]
  cases r with
  | none =>
    refine ⟨_, h, fun ν hν m D a hT hD w => ?_⟩
    obtain ⟨hx, hb, hn⟩ := hv ν m D a hT (fun t e => hD t (by simp [ho, Op.operands, e]))
    refine ⟨_, run ν m D a hT hD (by simp [hn]) w hn hx, ?_⟩
    refine ⟨?_, bytesIn_sub hb (fun y hy => List.mem_of_mem_drop hy), ?_⟩
    · rw [mkS_extract]; congr 2; rw [List.take_of_length_le]; simp [hn]
    · show n - l.getD 0 = _; simp [hn]
  | some r =>
    obtain ⟨h3, h⟩ := takeK_inv (show takeK (Nat.sub r (l.getD 0)) (s.drop (l.getD 0)) _ = true from h)
    refine ⟨_, h, fun ν hν m D a hT hD w => ?_⟩
    obtain ⟨hx, hb, hn⟩ := hv ν m D a hT (fun t e => hD t (by simp [ho, Op.operands, e]))
    have h3' : r - l.getD 0 ≤ s.length - l.getD 0 := by simpa using h3
    simp only [Option.getD_some] at h1
    refine ⟨_, run ν m D a hT hD (by simp; omega) w hn hx, ?_⟩
    refine ⟨?_, bytesIn_sub hb (fun y hy => List.mem_of_mem_drop (List.mem_of_mem_take hy)), ?_⟩
    · rw [mkS_extract]; rfl
    · show r - l.getD 0 = _; simp; omega
theorem slS_inv {es : Nat} {v : FV} {a b : Option Nat} {k : FV → Bool} (h : slS es v a b k = true) :
    (v = .nils ∧ ifK (Nat.beq (a.getD 0) 0) (ifK (Nat.beq (b.getD 0) 0) (k .nils) false) false = true) ∨
    (v = .sl0 ∧ ifK (Nat.beq (a.getD 0) 0) (ifK (Nat.beq (b.getD 0) 0) (k .sl0) false) false = true) ∨
    ∃ bl o len es', v = .slice bl o len es' ∧ ifK (Nat.beq es es') (ifK (Nat.ble (b.getD len) len) (ifK (Nat.beq (a.getD 0) 0) (k (.slice bl o (b.getD len) es)) (ifK (Nat.blt (a.getD 0) (b.getD len)) (k (.slice bl (Nat.add o (Nat.mul (a.getD 0) es)) (Nat.sub (b.getD len) (a.getD 0)) es)) (ifK (Nat.beq (a.getD 0) (b.getD len)) (k .sl0) false))) false) false = true := by
  cases v <;> first
    | exact nomatch (show false = true from h)
    | exact .inl ⟨rfl, h⟩
    | exact .inr (.inl ⟨rfl, h⟩)
    | exact .inr (.inr ⟨_, _, _, _, rfl, h⟩)
theorem q_slice {t : TypeId} {x : Operand} {lo hi : Option Operand} {e es : Nat} {ag : Bool} (hE : EnvOk E) (ho : o.op = .slice t x lo hi none) (ht : und E.tt t = some (.slice e)) (hs : szag E.tt e = some (es, ag)) :
    QOk E N o (fun T k => evK (copd N x) T fun v => oNat T (lo.map (copd N)) fun a => oNat T (hi.map (copd N)) fun b => slS es v a b fun v => k (.val v)) := by
  intro T kk h
  obtain ⟨v, h, hv⟩ := ev_inv h
  obtain ⟨l, h, hl⟩ := oNat_inv h
  obtain ⟨r, h, hr⟩ := oNat_inv h
  have run : ∀ ν m D a, TR ν m N D T a → (∀ t, Operand.tmp t ∈ o.op.operands.toList → D t) → ∀ (ad : Option Addr) (len cap : Nat) w, a.eval x = .slice ad len cap → l.getD 0 ≤ r.getD len → r.getD len ≤ cap →
      (execOp a.eval o).run E.P w = .ok (.value (.slice (if cap = l.getD 0 then ad else ad.map (·.add (l.getD 0 * es))) (r.getD len - l.getD 0) (cap - l.getD 0))) w := by
    intro ν m D a hT hD ad len cap w hx h1 h2
    have g1 := hl ν m D a hT (fun t e => hD t (by simp [ho, Op.operands, e]))
    have g2 := hr ν m D a hT (fun t e => hD t (by simp [ho, Op.operands, e]))
    simp only [execOp, ho, Instr.sliceAt, Instr.slice, hx, Sem.run_bind, run_underlying (und_ok hE ht), Result.andThen_ok, Option.map_none, Sem.run_pure, run_bounds g1 g2 h1 h2, (szag_ok hE hs).1]
  rcases slS_inv h with ⟨rfl, h⟩ | ⟨rfl, h⟩ | ⟨b, of, len, es', rfl, h⟩
  · obtain ⟨h1, h⟩ := ifK_left h
    obtain ⟨h2, hk⟩ := ifK_left h
    have h1 := Nat.eq_of_beq_eq_true h1
    have h2 := Nat.eq_of_beq_eq_true h2
    refine ⟨_, hk, fun ν hν m D a hT hD w => ?_⟩
    have hx : a.eval x = .slice none 0 0 := hv ν m D a hT (fun t e => hD t (by simp [ho, Op.operands, e]))
    refine ⟨_, run ν m D a hT hD _ _ _ w hx (by omega) (by omega), ?_⟩
    show _ = Value.slice none 0 0
    rw [h1, h2]; simp
  · obtain ⟨h1, h⟩ := ifK_left h
    obtain ⟨h2, hk⟩ := ifK_left h
    have h1 := Nat.eq_of_beq_eq_true h1
    have h2 := Nat.eq_of_beq_eq_true h2
    refine ⟨_, hk, fun ν hν m D a hT hD w => ?_⟩
    obtain ⟨ad, c, hx⟩ := hv ν m D a hT (fun t e => hD t (by simp [ho, Op.operands, e]))
    refine ⟨_, run ν m D a hT hD _ _ _ w hx (by omega) (by omega), ?_⟩
    exact ⟨_, _, congrArg (fun q => Value.slice _ q _) (show r.getD 0 - l.getD 0 = 0 by omega)⟩
  · obtain ⟨h1, h⟩ := ifK_left h
    obtain ⟨h2, h⟩ := ifK_left h
    have h1 := Nat.eq_of_beq_eq_true h1
    have h2 := Nat.le_of_ble_eq_true h2
    rcases ifK_inv h with ⟨h3, hk⟩ | ⟨h3, h⟩
    · have h3 := Nat.eq_of_beq_eq_true h3
      refine ⟨_, hk, fun ν hν m D a hT hD w => ?_⟩
      obtain ⟨p, cap, hp, hx, g1, g2, g3⟩ := hv ν m D a hT (fun t e => hD t (by simp [ho, Op.operands, e]))
      refine ⟨_, run ν m D a hT hD _ _ _ w hx (by omega) (by omega), ?_⟩
      refine ⟨p, cap, hp, ?_, by rw [h1]; exact g1, by omega, by omega⟩
      rw [h3]; simp [addr_add]
    · rcases ifK_inv h with ⟨h4, hk⟩ | ⟨h4, h⟩
      · simp only [Nat.blt_eq] at h4
        refine ⟨_, hk, fun ν hν m D a hT hD w => ?_⟩
        obtain ⟨p, cap, hp, hx, g1, g2, g3⟩ := hv ν m D a hT (fun t e => hD t (by simp [ho, Op.operands, e]))
        refine ⟨_, run ν m D a hT hD _ _ _ w hx (by omega) (by omega), ?_⟩
        refine ⟨p, cap - l.getD 0, hp, ?_, ?_, by omega, ?_⟩
        · rw [if_neg (by omega)]; simp [addr_add, Nat.add_assoc]
        · show of + l.getD 0 * es + (cap - l.getD 0) * es = p.len
          rw [h1, ← g1, Nat.add_assoc, ← Nat.add_mul]; congr 2; omega
        · show r.getD len - l.getD 0 ≤ cap - l.getD 0; omega
      · obtain ⟨h5, hk⟩ := ifK_left h
        have h5 := Nat.eq_of_beq_eq_true h5
        refine ⟨_, hk, fun ν hν m D a hT hD w => ?_⟩
        obtain ⟨p, cap, hp, hx, g1, g2, g3⟩ := hv ν m D a hT (fun t e => hD t (by simp [ho, Op.operands, e]))
        refine ⟨_, run ν m D a hT hD _ _ _ w hx (by omega) (by omega), ?_⟩
        exact ⟨_, _, congrArg (fun q => Value.slice _ q _) (show r.getD len - l.getD 0 = 0 by omega)⟩
theorem run_bounds3 {P : Program} {w : World} {a : Go.Act} {lo hi mx : Operand} {k1 k2 k3 : IntKind} {l h c len cap : Nat} (hl : a.eval lo = .int k1 (l : Int)) (hh : a.eval hi = .int k2 (h : Int)) (hc : a.eval mx = .int k3 (c : Int)) (h1 : l ≤ h) (h2 : h ≤ c) (h3 : c ≤ cap) :
    (Instr.sliceBounds true len cap (some (a.eval lo)) (some (a.eval hi)) (some (a.eval mx))).run P w = .ok (l, h, c) w := by
  simp [Instr.sliceBounds, hl, hh, hc, run_bound h1, run_bound h2, run_bound h3]
theorem slM_inv {v : FV} {a b c : Nat} {k : FV → Bool} (h : slM v a b c k = true) : ∃ bl o len es, v = .slice bl o len es ∧ a ≤ b ∧ b ≤ c ∧ c ≤ len ∧ k .any = true := by
  cases v <;> first
    | exact nomatch (show false = true from h)
    | (obtain ⟨h1, h⟩ := ifK_left (show ifK _ _ false = true from h)
       obtain ⟨h2, h⟩ := ifK_left h
       obtain ⟨h3, h⟩ := ifK_left h
       exact ⟨_, _, _, _, rfl, Nat.le_of_ble_eq_true h1, Nat.le_of_ble_eq_true h2, Nat.le_of_ble_eq_true h3, h⟩)
theorem q_slice3 {t : TypeId} {x lo hi mx : Operand} {e : Nat} {es : Nat × Bool} (hE : EnvOk E) (ho : o.op = .slice t x (some lo) (some hi) (some mx)) (ht : und E.tt t = some (.slice e)) (hs : szag E.tt e = some es) :
    QOk E N o (fun T k => evK (copd N x) T fun v => evK (copd N lo) T fun a => a.asNat fun a => evK (copd N hi) T fun b => b.asNat fun b => evK (copd N mx) T fun c => c.asNat fun c => slM v a b c fun v => k (.val v)) := by
  intro T kk h
  obtain ⟨es, ag⟩ := es
  obtain ⟨v, q1, hv⟩ := ev_inv h
  obtain ⟨vl, q2, hl⟩ := ev_inv q1
  obtain ⟨k1, l, rfl, q3⟩ := asNat_inv q2
  obtain ⟨vh, q4, hh⟩ := ev_inv q3
  obtain ⟨k2, r, rfl, q5⟩ := asNat_inv q4
  obtain ⟨vm, q6, hm⟩ := ev_inv q5
  obtain ⟨k3, c, rfl, q7⟩ := asNat_inv q6
  obtain ⟨bl, of, len, es', rfl, h1, h2, h3, q8⟩ := slM_inv q7
  refine ⟨_, q8, fun ν hν m D a hT hD w => ?_⟩
  obtain ⟨p, cap, hp, hx, g1, g2, g3⟩ := hv ν m D a hT (fun t e => hD t (by simp [ho, Op.operands, e]))
  have e1 : a.eval lo = .int k1 (l : Int) := hl ν m D a hT (fun t e => hD t (by simp [ho, Op.operands, e]))
  have e2 : a.eval hi = .int k2 (r : Int) := hh ν m D a hT (fun t e => hD t (by simp [ho, Op.operands, e]))
  have e3 : a.eval mx = .int k3 (c : Int) := hm ν m D a hT (fun t e => hD t (by simp [ho, Op.operands, e]))
  have run : (execOp a.eval o).run E.P w = .ok (.value (.slice (if c = l then some ⟨p.blk, p.off + of, none⟩ else (some ⟨p.blk, p.off + of, none⟩ : Option Addr).map (·.add (l * es))) (r - l) (c - l))) w := by
    simp only [execOp, ho, Instr.sliceAt, Instr.slice, hx, Sem.run_bind, run_underlying (und_ok hE ht), Result.andThen_ok, Option.map_some, Sem.run_pure, run_bounds3 e1 e2 e3 h1 h2 (Nat.le_trans h3 g3), (szag_ok hE hs).1]
  exact ⟨_, run, trivial⟩
end Go.Xc
end
section
/- The quiet operations, more of them: what is built. -/
namespace Go.Xc

variable {E : Env} {N : TC} {o : Oper}

theorem run_mapM_list {α β : Type} {P : Program} {f : α → Sem β} {g : α → β} : ∀ (l : List α) (w : World), (∀ x ∈ l, ∀ w, (f x).run P w = .ok (g x) w) → (l.mapM f).run P w = .ok (l.map g) w
  | [], w, _ => by simp
  | x :: l, w, h => by
    rw [List.mapM_cons]
    simp only [Sem.run_bind, h x (by simp), Result.andThen_ok, run_mapM_list l w (fun y hy => h y (by simp [hy])), Sem.run_pure, List.map_cons]
theorem run_mapM_arr {α β : Type} {P : Program} {f : α → Sem β} {g : α → β} (l : Array α) (w : World) (h : ∀ x ∈ l.toList, ∀ w, (f x).run P w = .ok (g x) w) : (l.mapM f).run P w = .ok (l.map g) w := by
  rw [Array.mapM_eq_mapM_toList]
  simp only [Sem.run_map, run_mapM_list l.toList w h, Result.andThen_ok]
  congr 1
  apply Array.ext'
  simp

theorem setL_step {α : Type} : ∀ (n : Nat) (l : List α) (v : α) (vs : List α), setL n l (v :: vs) = setL (n + 1) (l.set n v) vs
  | 0, [], _v, _vs => rfl
  | 0, _a :: _r, _v, _vs => rfl
  | _n + 1, [], _v, _vs => rfl
  | n + 1, a :: r, v, vs => congrArg (a :: ·) (setL_step n r v vs)
theorem setL_nil {α : Type} : ∀ (n : Nat) (l : List α), setL n l [] = l
  | 0, _ => rfl
  | _n + 1, [] => rfl
  | n + 1, a :: r => congrArg (a :: ·) (setL_nil n r)
theorem fold_set {α : Type} (off : Nat) : ∀ (l : List α) (k : Nat) (c : Array α), ((l.zipIdx k).foldl (fun cs (x : α × Nat) => cs.setIfInBounds (off + x.2) x.1) c).toList = setL (off + k) c.toList l
  | [], k, c => by simp [setL_nil]
  | x :: l, k, c => by
    rw [List.zipIdx_cons, List.foldl_cons, fold_set off l (k + 1), setL_step]
    simp [Nat.add_assoc]
theorem VRs_set {ν : Int} {m : Mp} : ∀ (n : Nat) {l : List FV} {c : List Value} {x : List FV} {u : List Value}, VRs ν m l c → VRs ν m x u → VRs ν m (setL n l x) (setL n c u)
  | 0, l, c, [], u, h, k => by rw [show u = [] from k]; exact h
  | 0, [], c, x :: xs, u, h, k => by rw [show c = [] from h]; obtain ⟨v, vs, rfl, _, _⟩ := k; exact rfl
  | 0, a :: r, c, x :: xs, u, h, k => by
    obtain ⟨c1, cs, rfl, _, h2⟩ := h
    obtain ⟨v, vs, rfl, k1, k2⟩ := k
    exact ⟨v, _, rfl, k1, VRs_set 0 h2 k2⟩
  | n + 1, [], c, x, u, h, k => by rw [show c = [] from h]; exact rfl
  | n + 1, a :: r, c, x, u, h, k => by
    obtain ⟨c1, cs, rfl, h1, h2⟩ := h
    exact ⟨c1, _, rfl, h1, VRs_set n h2 k⟩
theorem mem_setL {α : Type} : ∀ (n : Nat) (l x : List α) (y : α), y ∈ setL n l x → y ∈ l ∨ y ∈ x
  | 0, l, [], y, h => .inl h
  | 0, [], x :: xs, y, h => by cases h
  | 0, a :: r, x :: xs, y, h => by
    rcases List.mem_cons.1 h with rfl | h
    · exact .inr (by simp)
    · rcases mem_setL 0 r xs y h with h | h
      · exact .inl (by simp [h])
      · exact .inr (by simp [h])
  | n + 1, [], x, y, h => by cases h
  | n + 1, a :: r, x, y, h => by
    rcases List.mem_cons.1 h with rfl | h
    · exact .inl (by simp)
    · rcases mem_setL n r x y h with h | h
      · exact .inl (by simp [h])
      · exact .inr h

/-- How parts stand to places. -/
def PR (N : TC) (place : Nat → Option (Nat × Nat)) : List (Nat × Operand) → List (Nat × Nat × Opd) → Prop
  | [], ps => ps = []
  | (i, x) :: r, ps => ∃ off sz ps', ps = (off, sz, copd N x) :: ps' ∧ place i = some (off, sz) ∧ PR N place r ps'
theorem fill_ok {T : FT} {place : Nat → Option (Nat × Nat)} : ∀ {parts : List (Nat × Operand)} {ps : List (Nat × Nat × Opd)} {z : List FV} {k : List FV → Bool}, PR N place parts ps → partsIn z.length ps = true → fillK ps T z k = true →
    ∃ l, k l = true ∧ l.length = z.length ∧ ∀ ν m D a, TR ν m N D T a → (∀ p ∈ parts, ∀ t, p.2 = Operand.tmp t → D t) → ∀ c : Array Value, VRs ν m z c.toList → (∀ x ∈ z, single x = true) →
      ∃ c' : Array Value, Instr.fill place c (parts.map fun p => (p.1, a.eval p.2)) = some c' ∧ VRs ν m l c'.toList ∧ ∀ x ∈ l, single x = true
  | [], ps, z, k, hp, _, h => by
    rw [show ps = [] from hp] at h
    exact ⟨z, h, rfl, fun ν m D a _ _ c hc hs => ⟨c, rfl, hc, hs⟩⟩
  | (i, x) :: r, ps, z, k, hp, hin, h => by
    obtain ⟨off, sz, ps', rfl, hpl, hp'⟩ := hp
    simp only [partsIn, Bool.and_eq_true] at hin
    have hin1 := Nat.le_of_ble_eq_true hin.1
    obtain ⟨v, h1, hv⟩ := ev_inv (show evK (copd N x) T (fun v => v.cellsK fun l => ifK (Nat.beq (lenL l) sz) (fillK ps' T (setL off z l) k) false) = true from h)
    obtain ⟨l, h2, hl⟩ := cells_ok h1
    obtain ⟨h3, h4⟩ := ifK_left h2
    have h3 := Nat.eq_of_beq_eq_true h3
    rw [lenL_eq] at h3
    have hlen := setL_length off z l
    obtain ⟨l', h5, h6, h7⟩ := fill_ok (z := setL off z l) hp' (by rw [hlen]; exact hin.2) h4
    refine ⟨l', h5, h6.trans hlen, fun ν m D a hT hD c hc hs => ?_⟩
    have hx := hl ν m _ (hv ν m D a hT (fun t e => hD (i, x) (by simp) t e))
    have e1 : (a.eval x).cells.size = sz := by have := VRs_len hx.1; simp at this; omega
    have e2 : c.size = z.length := by have := VRs_len hc; simp at this; omega
    have e3 : ((a.eval x).cells.zipIdx.foldl (fun cs (x : Value × Nat) => cs.setIfInBounds (off + x.2) x.1) c).toList = setL off c.toList (a.eval x).cells.toList := by
      rw [← Array.foldl_toList, Array.toList_zipIdx]
      exact fold_set off (a.eval x).cells.toList 0 c
    obtain ⟨c', g1, g2, g3⟩ := h7 ν m D a hT (fun p hp t e => hD p (by simp [hp]) t e) ((a.eval x).cells.zipIdx.foldl (fun cs (x : Value × Nat) => cs.setIfInBounds (off + x.2) x.1) c)
      (by rw [e3]; exact VRs_set off hc hx.1) (fun y hy => by rcases mem_setL _ _ _ _ hy with hy | hy; exact hs y hy; exact hx.2 y hy)
    refine ⟨c', ?_, g2, g3⟩
    simp only [List.map_cons, Instr.fill, hpl]
    have hin2 : off + sz ≤ z.length := hin1
    rw [if_neg (by simp [e1]; omega)]
    exact g1
theorem partsS_ok (hE : EnvOk E) {t : TypeId} {fs : Array Field} (ht : E.P.underlying t = some (.struct fs)) (g : Field → Nat) (hg : ∀ f ∈ fs.toList, ∀ w, (sizeOf f.type).run E.P w = .ok (g f) w) :
    ∀ {parts : List (Nat × Operand)} {ps : List (Nat × Nat × Opd)}, partsS E N t parts = some ps → PR N ((fs.map fun f => (f.offset, g f))[·]?) parts ps
  | [], ps, h => by simp only [partsS, Option.some.injEq] at h; subst h; rfl
  | (i, x) :: r, ps, h => by
    unfold partsS at h
    split at h
    · rename_i fl l hf hl
      split at h
      · rename_i sz ag hs
        simp only [Option.some.injEq] at h; subst h
        obtain ⟨fs', h1, h2⟩ := fieldT_ok hE hf
        rw [ht] at h1; cases h1
        refine ⟨_, _, _, rfl, ?_, partsS_ok hE ht g hg hl⟩
        have hm : fl ∈ fs.toList := by
          rw [← Array.getElem?_toList] at h2
          exact List.mem_of_getElem? h2
        have e1 := hg fl hm default
        rw [(szag_ok hE hs).1] at e1
        simp only [Result.ok.injEq] at e1
        simp [h2, e1.1]
      · cases h
    · cases h
theorem partsA_ok (es : Nat) : ∀ (parts : List (Nat × Operand)), PR N (fun i => some (i * es, es)) parts (partsA N es parts)
  | [] => rfl
  | (_i, _x) :: r => ⟨_, _, _, rfl, rfl, partsA_ok es r⟩
theorem allSz_ok (hE : EnvOk E) : ∀ {l : List Field}, allSz E.tt l = true → ∃ g : Field → Nat, ∀ f ∈ l, ∀ w, (sizeOf f.type).run E.P w = .ok (g f) w := by
  intro l h
  refine ⟨fun f => ((szag E.tt f.type).map (·.1)).getD 0, ?_⟩
  induction l with
  | nil => simp
  | cons f l ih =>
    unfold allSz at h
    split at h
    · rename_i q hq
      intro f' hf' w
      rcases List.mem_cons.1 hf' with rfl | hf'
      · rw [(szag_ok hE (n := q.1) (ag := q.2) hq).1]; simp [hq]
      · exact ih h f' hf' w
    · cases h
theorem parts_eval' {a : Go.Act} {parts : Array (Nat × Operand)} : (parts.map fun (p : Nat × Operand) => (p.1, a.eval p.2)).toList = parts.toList.map fun p => (p.1, a.eval p.2) := by simp
theorem q_buildS {t : TypeId} {parts : Array (Nat × Operand)} {z : List FV} {fs : Array Field} {ps : List (Nat × Nat × Opd)} (hE : EnvOk E) (ho : o.op = .build t parts) (hz : zeroL E.tt t = some z) (ht : und E.tt t = some (.struct fs))
    (hp : partsS E N t parts.toList = some ps) (hin : partsIn (lenL z) ps = true) (ha : allSz E.tt fs.toList = true) : QOk E N o (fun T k => fillK ps T z fun l => k (.val (.agg l))) := by
  intro T kk h
  obtain ⟨g, hg⟩ := allSz_ok hE ha
  rw [lenL_eq] at hin
  obtain ⟨l, h1, h2, h3⟩ := fill_ok (partsS_ok hE (und_ok hE ht) g hg hp) hin h
  refine ⟨_, h1, fun ν hν m D a hT hD w => ?_⟩
  obtain ⟨i, v, g1, g2, g3, g4, g5, g6⟩ := zero_ok hE hz
  obtain ⟨c', f1, f2, f3⟩ := h3 ν m D a hT (fun p hp t e => hD t (by simp only [ho, Op.operands]; simp; exact ⟨p.1, by rw [← e]; simpa using hp⟩)) v.cells (g5 ν m) g6
  refine ⟨.agg c', ?_, c', rfl, f2, f3⟩
  have hm := run_mapM_arr (P := E.P) (f := fun (f : Field) => do pure (f.offset, ← sizeOf f.type)) (g := fun f => (f.offset, g f)) fs w (fun f hf w => by simp [hg f hf])
  simp only [execOp, ho, Instr.build, Sem.run_bind, run_zero g1 g2, Result.andThen_ok, run_underlying (und_ok hE ht), hm, parts_eval', f1, Sem.run_pure]
theorem q_buildA {t e : TypeId} {q es : Nat} {ag : Bool} {parts : Array (Nat × Operand)} {z : List FV} (hE : EnvOk E) (ho : o.op = .build t parts) (hz : zeroL E.tt t = some z) (ht : und E.tt t = some (.array q e)) (hs : szag E.tt e = some (es, ag))
    (hin : partsIn (lenL z) (partsA N es parts.toList) = true) : QOk E N o (fun T k => fillK (partsA N es parts.toList) T z fun l => k (.val (.agg l))) := by
  intro T kk h
  rw [lenL_eq] at hin
  obtain ⟨l, h1, h2, h3⟩ := fill_ok (partsA_ok es parts.toList) hin h
  refine ⟨_, h1, fun ν hν m D a hT hD w => ?_⟩
  obtain ⟨i, v, g1, g2, g3, g4, g5, g6⟩ := zero_ok hE hz
  obtain ⟨c', f1, f2, f3⟩ := h3 ν m D a hT (fun p hp t e => hD t (by simp only [ho, Op.operands]; simp; exact ⟨p.1, by rw [← e]; simpa using hp⟩)) v.cells (g5 ν m) g6
  refine ⟨.agg c', ?_, c', rfl, f2, f3⟩
  simp only [execOp, ho, Instr.build, Sem.run_bind, run_zero g1 g2, Result.andThen_ok, run_underlying (und_ok hE ht), (szag_ok hE hs).1, parts_eval', f1, Sem.run_pure]
end Go.Xc
end
section
/- The quiet operations, more of them: slices that are made, lengths, least and greatest, conversions. -/
namespace Go.Xc

variable {E : Env} {N : TC} {o : Oper}

theorem replL_length {z : List FV} : ∀ n, (callX.replL z n).length = n * z.length
  | 0 => by simp [callX.replL]
  | n + 1 => by simp [callX.replL, replL_length n, Nat.add_mul]; omega
theorem replL_get {z : List FV} : ∀ (n i : Nat), i < n * z.length → (callX.replL z n)[i]? = z[i % z.length]?
  | 0, i, h => by simp at h
  | n + 1, i, h => by
    unfold callX.replL
    rw [Nat.add_mul] at h
    by_cases hi : i < z.length
    · rw [List.getElem?_append_left hi, Nat.mod_eq_of_lt hi]
    · rw [List.getElem?_append_right (by omega), replL_get n (i - z.length) (by omega)]
      rw [← Nat.mod_eq_sub_mod (by omega)]
theorem mem_replL {z : List FV} {x : FV} : ∀ n, x ∈ callX.replL z n → x ∈ z
  | 0, h => by simp [callX.replL] at h
  | n + 1, h => by
    unfold callX.replL at h
    rcases List.mem_append.1 h with h | h
    · exact h
    · exact mem_replL n h
/-- So many zero values one behind the other. -/
theorem VRs_zeros {ν : Int} {m : Mp} {z : List FV} {c : Array Value} {n : Nat} (h : VRs ν m z c.toList) : VRs ν m (callX.replL z n) ((Array.range (n * z.length)).map (c[· % c.size]!)).toList := by
  have hl : z.length = c.size := by have := VRs_len h; simpa using this
  apply VRs_of
  · simp [replL_length]
  · intro i x v e1 e2
    have hi : i < n * z.length := by
      rcases Nat.lt_or_ge i (n * z.length) with g | g
      · exact g
      · rw [List.getElem?_eq_none (by rw [replL_length]; exact g)] at e1; cases e1
    rw [replL_get n i hi] at e1
    obtain ⟨u, f1, f2⟩ := VRs_get h _ x e1
    have hz : 0 < z.length := by
      rcases Nat.eq_zero_or_pos z.length with g | g
      · rw [g] at hi; simp at hi
      · exact g
    have hm : i % c.size < c.size := Nat.mod_lt _ (by omega)
    simp only [Array.toList_map, List.getElem?_map, Array.toList_range, List.getElem?_range hi, Option.map_some, Option.some.injEq] at e2
    rw [hl, Array.getElem?_toList, Array.getElem?_eq_getElem hm] at f1
    simp only [Option.some.injEq] at f1
    rw [← e2, getElem!_pos c _ hm, f1]; exact f2
theorem zeros_zero {c : Array Value} : ((Array.range 0).map (c[· % c.size]!)) = #[] := by simp

theorem q_buildSlice {t e : TypeId} {len es : Nat} {ag : Bool} {parts : Array (Nat × Operand)} {z : List FV} (hE : EnvOk E) (ho : o.op = .buildSlice t len parts) (ht : elemT E.tt t = some e) (hz : zeroL E.tt e = some z) (hs : szag E.tt e = some (es, ag))
    (h0 : Nat.blt 0 es = true) (h1 : Nat.ble (Nat.mul len es) 100000 = true) (hin : partsIn (Nat.mul len es) (partsA N es parts.toList) = true) :
    QOk E N o (fun T k => fillK (partsA N es parts.toList) T (callX.replL z len) fun l => k (.new (.cells l (Nat.mul len es)) fun b => .slice b 0 len es)) := by
  intro T kk h
  obtain ⟨i, v, g1, g2, g3, g4, g5, g6⟩ := zero_ok hE hz
  have he : i.size = es := by have := (szag_ok hE hs).2.2; rw [g1] at this; simpa using this
  have hzl : z.length = es := g3.trans he
  simp only [Nat.blt_eq] at h0
  have h1 := Nat.le_of_ble_eq_true h1
  have h1' : len * es ≤ 100000 := h1
  have hrl : (callX.replL z len).length = len * es := by rw [replL_length, hzl]
  obtain ⟨l, k1, k2, k3⟩ := fill_ok (partsA_ok es parts.toList) (by rw [hrl]; exact hin) h
  refine ⟨_, k1, fun ν hν m D a hT hD w => ?_⟩
  have hv : VRs ν m (callX.replL z len) ((Array.range (len * es)).map (v.cells[· % v.cells.size]!)).toList := by
    have := VRs_zeros (n := len) (g5 ν m); rw [hzl] at this; exact this
  obtain ⟨c', f1, f2, f3⟩ := k3 ν m D a hT (fun p hp t e => hD t (by simp only [ho, Op.operands]; simp; exact ⟨p.1, by rw [← e]; simpa using hp⟩)) _ hv (fun x hx => g6 x (mem_replL _ hx))
  have hsz : c'.size = len * es := by have := VRs_len f2; simp at this; omega
  refine ⟨.slice (some ⟨w.heap.size, 0, none⟩) len len, .cells c' e, w.alloc (.cells c' e), c'.size, ?_, rfl, rfl, rfl, rfl, ?_, ?_⟩
  · have h2 : ¬ (len * es > 2 ^ 24) := by omega
    have hcell : len * es = 0 → (Array.range (len * es)).map (fun x => (#[] : Array Value)[x % (#[] : Array Value).size]!) = (Array.range (len * es)).map (v.cells[· % v.cells.size]!) := fun hq => by rw [hq]; simp
    by_cases hq : len * es = 0
    · simp only [execOp, ho, Instr.buildSlice, Sem.run_bind, run_underlying (elemT_ok hE ht), Result.andThen_ok, (szag_ok hE hs).1, h2, if_false, Sem.run_pure, if_pos hq, hcell hq, parts_eval', f1, newRow, run_newObj]
      rfl
    · simp only [execOp, ho, Instr.buildSlice, Sem.run_bind, run_underlying (elemT_ok hE ht), Result.andThen_ok, (szag_ok hE hs).1, h2, if_false, Sem.run_pure, if_neg hq, run_zero g1 g2, parts_eval', f1, newRow, run_newObj]
      rfl
  · intro m' hm
    refine blk_new (e := e) (fr := (0, 0)) (alloc_get w _) ?_ f3 (by omega) (by show len * es = _; omega) (.inr rfl)
    intro j x hx
    obtain ⟨u, q1, q2⟩ := VRs_get (VRs_mono hm _ _ f2) j x hx
    exact ⟨u, by simpa using q1, q2⟩
  · intro m' p hm hp
    exact ⟨_, len, hp, rfl, by simp [hsz], h0, Nat.le_refl _⟩
theorem q_makeSlice {t e : TypeId} {x y : Operand} {z : List FV} {i : TypeInfo} (hE : EnvOk E) (ho : o.op = .makeSlice t x y) (ht : elemT E.tt t = some e) (hz : zeroL E.tt e = some z) (hi : tyd E.tt e = some i)
    (h0 : Nat.blt 0 i.size = true) (h1 : Nat.ble i.bytes 10000 = true) :
    QOk E N o (fun T k => evK (copd N x) T fun l => l.asNat fun l => evK (copd N y) T fun c => c.asNat fun c => ifK (Nat.ble l c && Nat.ble c 100000) (k (.new (.cells (callX.replL z c) (Nat.mul c i.size)) fun b => .slice b 0 l i.size)) false) := by
  intro T kk h
  obtain ⟨i', v, g1, g2, g3, g4, g5, g6⟩ := zero_ok hE hz
  have he : i' = i := by have := hE.ty e i hi; rw [g1] at this; exact Option.some.inj this
  subst he
  simp only [Nat.blt_eq] at h0
  have h1 := Nat.le_of_ble_eq_true h1
  obtain ⟨lv, k1, hl⟩ := ev_inv h
  obtain ⟨kl, l, rfl, k2⟩ := asNat_inv k1
  obtain ⟨cv, k3, hc⟩ := ev_inv k2
  obtain ⟨kc, c, rfl, k4⟩ := asNat_inv k3
  obtain ⟨k5, k6⟩ := ifK_left k4
  simp only [Bool.and_eq_true] at k5
  have c1 := Nat.le_of_ble_eq_true k5.1
  have c2 := Nat.le_of_ble_eq_true k5.2
  refine ⟨_, k6, fun ν hν m D a hT hD w => ?_⟩
  have e1 : a.eval x = .int kl (l : Int) := hl ν m D a hT (fun t e => hD t (by simp [ho, Op.operands, e]))
  have e2 : a.eval y = .int kc (c : Int) := hc ν m D a hT (fun t e => hD t (by simp [ho, Op.operands, e]))
  have hv : VRs ν m (callX.replL z c) ((Array.range (c * i'.size)).map (v.cells[· % v.cells.size]!)).toList := by
    have := VRs_zeros (n := c) (g5 ν m); rw [g3] at this; exact this
  refine ⟨.slice (some ⟨w.heap.size, 0, none⟩) l c, .cells ((Array.range (c * i'.size)).map (v.cells[· % v.cells.size]!)) e, w.alloc (.cells ((Array.range (c * i'.size)).map (v.cells[· % v.cells.size]!)) e), c * i'.size, ?_, rfl, rfl, rfl, rfl, ?_, ?_⟩
  · have w1 : IntKind.i64.wrap (l : Int) = (l : Int) := IntWalk.i64_in _ (by omega)
    have w2 : IntKind.i64.wrap (c : Int) = (c : Int) := IntWalk.i64_in _ (by omega)
    have hb : (i'.bytes : Int) * (c : Int) ≤ 2 ^ 48 := by
      have : i'.bytes * c ≤ 10000 * 100000 := Nat.mul_le_mul h1 c2
      have : ((i'.bytes * c : Nat) : Int) ≤ ((10000 * 100000 : Nat) : Int) := by exact_mod_cast this
      rw [Int.natCast_mul] at this
      omega
    have n1 : ¬ ((c : Int) < 0) := by omega
    have n2 : ¬ ((l : Int) < 0) := by omega
    have n3 : ¬ ((l : Int) > (c : Int)) := by omega
    have n4 : ¬ ((i'.bytes : Int) * (c : Int) > 2 ^ 48) := by omega
    have hcell : c * i'.size = 0 → (Array.range (c * i'.size)).map (fun x => (#[] : Array Value)[x % (#[] : Array Value).size]!) = (Array.range (c * i'.size)).map (v.cells[· % v.cells.size]!) := fun hq => by rw [hq]; simp
    have hsz : (sizeOf e).run E.P w = .ok i'.size w := by rw [run_sizeOf w g1]; simp [Program.cellsOf, g1]
    by_cases hq : c * i'.size = 0
    · simp only [execOp, ho, Instr.makeSlice, e1, e2, asInt, asIntOf, Sem.run_bind, run_underlying (elemT_ok hE ht), Result.andThen_ok, Sem.run_pure, run_typeInfo w g1, w1, w2, n1, n2, n3, n4, decide_false, Bool.or_self, Bool.false_eq_true, if_false, run_askRoom, Int.toNat_natCast, hsz, if_pos hq, hcell hq, newRow, run_newObj]
      rfl
    · simp only [execOp, ho, Instr.makeSlice, e1, e2, asInt, asIntOf, Sem.run_bind, run_underlying (elemT_ok hE ht), Result.andThen_ok, Sem.run_pure, run_typeInfo w g1, w1, w2, n1, n2, n3, n4, decide_false, Bool.or_self, Bool.false_eq_true, if_false, run_askRoom, Int.toNat_natCast, hsz, if_neg hq, run_zero g1 g2, newRow, run_newObj]
      rfl
  · intro m' hm
    have hsz' : ((Array.range (c * i'.size)).map (v.cells[· % v.cells.size]!)).size = c * i'.size := by simp
    have := blk_new (ν := ν) (m := m') (b := w.heap.size) (w' := w.alloc (.cells ((Array.range (c * i'.size)).map (v.cells[· % v.cells.size]!)) e)) (l := callX.replL z c) (n := Nat.mul c i'.size) (e := e) (fr := (0, 0)) (alloc_get w _) (fun j x hx => by
      obtain ⟨u, q1, q2⟩ := VRs_get (VRs_mono hm _ _ hv) j x hx
      exact ⟨u, by rw [← Array.getElem?_toList]; exact q1, q2⟩) (fun x hx => g6 x (mem_replL _ hx)) (by rw [hsz', replL_length, g3]; exact Nat.le_refl _) (by rw [replL_length, g3]; rfl) (.inr rfl)
    rw [hsz'] at this; exact this
  · intro m' p hm hp
    exact ⟨_, c, hp, rfl, by simp, h0, c1⟩
end Go.Xc
end
section
/- The quiet operations, more of them: lengths, least and greatest, conversions. -/
namespace Go.Xc

variable {E : Env} {N : TC} {o : Oper}

theorem run_builtin_value {P : Program} {w : World} {u : Value} {s : Sem Value} (h : s.run P w = .ok u w) : ((do pure (.value (← s))) : Sem Next).run P w = .ok (.value u) w := by simp [h]
theorem lenS_inv {v : FV} {k : FV → Bool} (h : lenS v k = true) : ∃ n, k (.int .i64 (.lit (.ofNat n))) = true ∧ ∀ ν m u, VR ν m v u → ∃ ad c, u = .slice ad n c := by
  cases v <;> first
    | exact nomatch (show false = true from h)
    | exact ⟨_, h, fun ν m u hu => ⟨_, _, hu⟩⟩
    | exact ⟨_, h, fun ν m u hu => by obtain ⟨ad, c, hu⟩ := hu; exact ⟨_, _, hu⟩⟩
    | exact ⟨_, h, fun ν m u hu => by obtain ⟨p, cap, _, hu, _⟩ := hu; exact ⟨_, _, hu⟩⟩
theorem q_lenS {c : Call} {x : Operand} {t : TypeId} (hE : EnvOk E) (ho : o.op = .call c) (hc : c.callee = .builtin .len) (ha : c.args = #[x]) (hat : c.argTypes = #[t]) (ht : und E.tt t = some .string) :
    QOk E N o (fun T k => evK (copd N x) T fun v => v.asStr fun _ n => k (.val (.int .i64 (.lit (.ofNat n))))) := by
  intro T kk h
  obtain ⟨v, h1, hv⟩ := ev_inv h
  obtain ⟨l, n, rfl, h2⟩ := asStr_inv h1
  refine ⟨_, h2, fun ν hν m D a hT hD w => ⟨.int .i64 (n : Int), ?_, rfl⟩⟩
  obtain ⟨hx, hb, hn⟩ := hv ν m D a hT (fun t e => hD t (by simp [ho, Op.operands, Call.operands, hc, ha, e]))
  simp [execOp, ho, resolve, hc, ha, hat, invoke, builtin, Builtin.len_, hx, run_underlying (und_ok hE ht), mkS_size, goInt, hn]
theorem q_len {c : Call} {x : Operand} {t e : TypeId} (hE : EnvOk E) (ho : o.op = .call c) (hc : c.callee = .builtin .len) (ha : c.args = #[x]) (hat : c.argTypes = #[t]) (ht : und E.tt t = some (.slice e)) :
    QOk E N o (fun T k => evK (copd N x) T fun v => lenS v fun r => k (.val r)) := by
  intro T kk h
  obtain ⟨v, h1, hv⟩ := ev_inv h
  obtain ⟨n, h2, hn⟩ := lenS_inv h1
  refine ⟨_, h2, fun ν hν m D a hT hD w => ⟨.int .i64 (n : Int), ?_, rfl⟩⟩
  obtain ⟨ad, c', hx⟩ := hn ν m _ (hv ν m D a hT (fun t e => hD t (by simp [ho, Op.operands, Call.operands, hc, ha, e])))
  simp [execOp, ho, resolve, hc, ha, hat, invoke, builtin, Builtin.len_, hx, run_underlying (und_ok hE ht), goInt]
theorem q_lenA {c : Call} {x : Operand} {t e : TypeId} {n : Nat} (hE : EnvOk E) (ho : o.op = .call c) (hc : c.callee = .builtin .len) (ha : c.args = #[x]) (hat : c.argTypes = #[t]) (ht : und E.tt t = some (.array n e)) :
    QOk E N o (fun T k => evK (copd N x) T fun _ => k (.val (.int .i64 (.lit (.ofNat n))))) := by
  intro T kk h
  obtain ⟨v, h1, hv⟩ := ev_inv h
  refine ⟨_, h1, fun ν hν m D a hT hD w => ⟨.int .i64 (n : Int), ?_, rfl⟩⟩
  simp [execOp, ho, resolve, hc, ha, hat, invoke, builtin, Builtin.len_, run_underlying (und_ok hE ht), goInt]
theorem kc_eq {a b : IntKind} (h : Nat.beq (kc a) (kc b) = true) : a = b := by
  cases a <;> cases b <;> first | rfl | exact nomatch h
theorem q_min {c : Call} {x y : Operand} (ho : o.op = .call c) (hc : c.callee = .builtin .min) (ha : c.args = #[x, y]) :
    QOk E N o (fun T k => evK (copd N x) T fun a => evK (copd N y) T fun b => a.asInt fun ka p => b.asInt fun kb q => ifK (Nat.beq (kc ka) (kc kb)) (ltN E.c q p fun r => k (.val (.int ka (Bool.rec p q r)))) false) := by
  intro T kk h
  obtain ⟨v, h1, hv⟩ := ev_inv h
  obtain ⟨u, h2, hu⟩ := ev_inv h1
  obtain ⟨ka, p, rfl, h3⟩ := asInt_inv h2
  obtain ⟨kb, q, rfl, h4⟩ := asInt_inv h3
  obtain ⟨h5, h6⟩ := ifK_left h4
  obtain ⟨r, h7, hr⟩ := ltN_inv h6
  refine ⟨_, h7, fun ν hν m D a hT hD w => ?_⟩
  have ex : a.eval x = .int ka (p.ev ν) := hv ν m D a hT (fun t e => hD t (by simp [ho, Op.operands, Call.operands, hc, ha, e]))
  have ey : a.eval y = .int kb (q.ev ν) := hu ν m D a hT (fun t e => hD t (by simp [ho, Op.operands, Call.operands, hc, ha, e]))
  have := hr ν hν
  refine ⟨.int ka (if q.ev ν < p.ev ν then q.ev ν else p.ev ν), ?_, ?_⟩
  · simp [execOp, ho, resolve, hc, ha, invoke, builtin, Builtin.min_, Builtin.min2, ex, ey]
  · cases r with
    | true => have : q.ev ν < p.ev ν := by simpa using this.symm
              rw [if_pos this]; rfl
    | false => have : ¬ q.ev ν < p.ev ν := by simpa using this.symm
               rw [if_neg this]; rfl
theorem q_max {c : Call} {x y : Operand} (ho : o.op = .call c) (hc : c.callee = .builtin .max) (ha : c.args = #[x, y]) :
    QOk E N o (fun T k => evK (copd N x) T fun a => evK (copd N y) T fun b => a.asInt fun ka p => b.asInt fun kb q => ifK (Nat.beq (kc ka) (kc kb)) (ltN E.c p q fun r => k (.val (.int ka (Bool.rec p q r)))) false) := by
  intro T kk h
  obtain ⟨v, h1, hv⟩ := ev_inv h
  obtain ⟨u, h2, hu⟩ := ev_inv h1
  obtain ⟨ka, p, rfl, h3⟩ := asInt_inv h2
  obtain ⟨kb, q, rfl, h4⟩ := asInt_inv h3
  obtain ⟨h5, h6⟩ := ifK_left h4
  obtain ⟨r, h7, hr⟩ := ltN_inv h6
  refine ⟨_, h7, fun ν hν m D a hT hD w => ?_⟩
  have ex : a.eval x = .int ka (p.ev ν) := hv ν m D a hT (fun t e => hD t (by simp [ho, Op.operands, Call.operands, hc, ha, e]))
  have ey : a.eval y = .int kb (q.ev ν) := hu ν m D a hT (fun t e => hD t (by simp [ho, Op.operands, Call.operands, hc, ha, e]))
  have := hr ν hν
  refine ⟨.int ka (if q.ev ν > p.ev ν then q.ev ν else p.ev ν), ?_, ?_⟩
  · simp [execOp, ho, resolve, hc, ha, invoke, builtin, Builtin.max_, Builtin.max2, ex, ey]
  · cases r with
    | true => have : p.ev ν < q.ev ν := by simpa using this.symm
              rw [if_pos this]; rfl
    | false => have : ¬ p.ev ν < q.ev ν := by simpa using this.symm
               rw [if_neg (by omega)]; rfl
end Go.Xc
end
section
/- The quiet operations, more of them: sums and comparisons. -/
namespace Go.Xc

variable {E : Env} {N : TC} {o : Oper}

theorem binIK_ok {c : Cx} {op : BinOp} {k : IntKind} {x y : SI} {kk : FV → Bool} (h : binIK c op k x y kk = true) :
    ∃ r, kk r = true ∧ ∀ ν, c.has ν → ∀ (P : Program) (w : World) (m : Mp) (t : TypeId), ∃ u, (binOp op t (.int k (x.ev ν)) (.int k (y.ev ν))).run P w = .ok u w ∧ VR ν m r u := by
  cases op
  case add =>
    obtain ⟨z, z', h1, h2, h3⟩ := arK_inv h
    exact ⟨_, h3, fun ν hν P w m t => ⟨.int k (z'.ev ν), by rw [SI.wrapS_ok h2 ν hν, SI.add_ok h1]; simp [binOp, Op.intArith], rfl⟩⟩
  case sub =>
    obtain ⟨z, z', h1, h2, h3⟩ := arK_inv h
    exact ⟨_, h3, fun ν hν P w m t => ⟨.int k (z'.ev ν), by rw [SI.wrapS_ok h2 ν hν, SI.sub_ok h1]; simp [binOp, Op.intArith], rfl⟩⟩
  case mul =>
    obtain ⟨z, z', h1, h2, h3⟩ := arK_inv h
    exact ⟨_, h3, fun ν hν P w m t => ⟨.int k (z'.ev ν), by rw [SI.wrapS_ok h2 ν hν, SI.mul_ok h1]; simp [binOp, Op.intArith], rfl⟩⟩
  case quo =>
    obtain ⟨a, rfl, h1⟩ := litK_inv h
    obtain ⟨b, rfl, h2⟩ := litK_inv h1
    obtain ⟨h3, h4⟩ := ifK_right h2
    have hb : ¬ b = 0 := fun e => by rw [e] at h3; simp [ieq] at h3
    exact ⟨_, h4, fun ν hν P w m t => ⟨_, by simp [binOp, Op.intDiv, SI.ev, hb], rfl⟩⟩
  case rem =>
    obtain ⟨a, rfl, h1⟩ := litK_inv h
    obtain ⟨b, rfl, h2⟩ := litK_inv h1
    obtain ⟨h3, h4⟩ := ifK_right h2
    have hb : ¬ b = 0 := fun e => by rw [e] at h3; simp [ieq] at h3
    exact ⟨_, h4, fun ν hν P w m t => ⟨_, by simp [binOp, Op.intDiv, SI.ev, hb], rfl⟩⟩
  case and =>
    obtain ⟨a, rfl, h1⟩ := litK_inv h
    obtain ⟨b, rfl, h2⟩ := litK_inv h1
    exact ⟨_, h2, fun ν hν P w m t => ⟨_, by simp only [binOp, Op.intBits, SI.ev, ne_eq, not_true_eq_false, if_false]; rfl, rfl⟩⟩
  case or =>
    obtain ⟨a, rfl, h1⟩ := litK_inv h
    obtain ⟨b, rfl, h2⟩ := litK_inv h1
    exact ⟨_, h2, fun ν hν P w m t => ⟨_, by simp only [binOp, Op.intBits, SI.ev, ne_eq, not_true_eq_false, if_false]; rfl, rfl⟩⟩
  case xor =>
    obtain ⟨a, rfl, h1⟩ := litK_inv h
    obtain ⟨b, rfl, h2⟩ := litK_inv h1
    exact ⟨_, h2, fun ν hν P w m t => ⟨_, by simp only [binOp, Op.intBits, SI.ev, ne_eq, not_true_eq_false, if_false]; rfl, rfl⟩⟩
  case shl => exact nomatch (show false = true from h)
  case shr => exact nomatch (show false = true from h)
  case andNot => exact nomatch (show false = true from h)
  case eql =>
    obtain ⟨t, h1, h2⟩ := eqN_inv (show eqN c x y (fun b => kk (.bool b)) = true from h)
    exact ⟨_, h1, fun ν hν P w m ty => ⟨.bool t, by rw [h2 ν hν]; simp [binOp, Op.intCmp, BEq.beq], rfl⟩⟩
  case neq =>
    obtain ⟨t, h1, h2⟩ := eqN_inv (show eqN c x y (fun b => kk (.bool (not b))) = true from h)
    exact ⟨_, h1, fun ν hν P w m ty => ⟨.bool (not t), by rw [h2 ν hν]; simp [binOp, Op.intCmp, bne, BEq.beq], rfl⟩⟩
  case lss =>
    obtain ⟨t, h1, h2⟩ := ltN_inv (show ltN c x y (fun b => kk (.bool b)) = true from h)
    exact ⟨_, h1, fun ν hν P w m ty => ⟨.bool t, by rw [h2 ν hν]; simp [binOp, Op.intCmp], rfl⟩⟩
  case geq =>
    obtain ⟨t, h1, h2⟩ := ltN_inv (show ltN c x y (fun b => kk (.bool (not b))) = true from h)
    exact ⟨_, h1, fun ν hν P w m ty => ⟨.bool (not t), by rw [h2 ν hν]; simp [binOp, Op.intCmp, ← Int.not_lt], rfl⟩⟩
  case gtr =>
    obtain ⟨t, h1, h2⟩ := ltN_inv (show ltN c y x (fun b => kk (.bool b)) = true from h)
    exact ⟨_, h1, fun ν hν P w m ty => ⟨.bool t, by rw [h2 ν hν]; simp [binOp, Op.intCmp], rfl⟩⟩
  case leq =>
    obtain ⟨t, h1, h2⟩ := ltN_inv (show ltN c y x (fun b => kk (.bool (not b))) = true from h)
    exact ⟨_, h1, fun ν hν P w m ty => ⟨.bool (not t), by rw [h2 ν hν]; simp [binOp, Op.intCmp, ← Int.not_lt], rfl⟩⟩
theorem shK_ok {op : BinOp} {k k' : IntKind} {x y : SI} {kk : FV → Bool} (h : shK op k x y kk = true) :
    ∃ r, kk r = true ∧ ∀ (ν : Int) (P : Program) (w : World) (m : Mp) (t : TypeId), ∃ u, (binOp op t (.int k (x.ev ν)) (.int k' (y.ev ν))).run P w = .ok u w ∧ VR ν m r u := by
  cases op <;> try exact nomatch (show false = true from h)
  all_goals
    obtain ⟨a, rfl, h1⟩ := litK_inv h
    obtain ⟨b, rfl, h2⟩ := litK_inv h1
    obtain ⟨h3, h4⟩ := ifK_right h2
    have hb : ¬ b < 0 := fun e => by rw [ilt_iff.2 e] at h3; cases h3
    exact ⟨_, h4, fun ν P w m t => ⟨_, by simp only [binOp, Op.shift, SI.ev, hb, if_false]; rfl, rfl⟩⟩

theorem eqSL_inv {c : Cx} : ∀ {x y : List SI} {k : Bool → Bool}, eqSL c x y k = true → ∃ t, k t = true ∧ ∀ ν, c.has ν → t = decide (x.map (·.ev ν) = y.map (·.ev ν))
  | [], [], k, h => ⟨true, h, fun _ _ => by simp⟩
  | [], _ :: _, k, h => ⟨false, h, fun _ _ => by simp⟩
  | _ :: _, [], k, h => ⟨false, h, fun _ _ => by simp⟩
  | a :: x, b :: y, k, h => by
    obtain ⟨t, h1, h2⟩ := eqN_inv (show eqN c a b (fun t => Bool.rec (k false) (eqSL c x y k) t) = true from h)
    cases t with
    | false => exact ⟨false, h1, fun ν hν => by
        have : ¬ a.ev ν = b.ev ν := by simpa using (h2 ν hν).symm
        simp [this]⟩
    | true =>
      obtain ⟨t, h3, h4⟩ := eqSL_inv (x := x) (y := y) (k := k) h1
      exact ⟨t, h3, fun ν hν => by
        have : a.ev ν = b.ev ν := by simpa using (h2 ν hν).symm
        rw [h4 ν hν]; simp [this]⟩
theorem byte_inj {ν : Int} {a b : SI} (ha : 0 ≤ a.ev ν ∧ a.ev ν < 256) (hb : 0 ≤ b.ev ν ∧ b.ev ν < 256) : byteOfSI ν a = byteOfSI ν b ↔ a.ev ν = b.ev ν := by
  unfold byteOfSI
  constructor
  · intro h
    have := congrArg UInt8.toNat h
    rw [UInt8.toNat_ofNat', UInt8.toNat_ofNat'] at this
    omega
  · intro h; rw [h]
theorem bytes_inj {ν : Int} : ∀ {x y : List SI}, bytesIn ν x → bytesIn ν y → (x.map (byteOfSI ν) = y.map (byteOfSI ν) ↔ x.map (·.ev ν) = y.map (·.ev ν))
  | [], [], _, _ => by simp
  | [], _ :: _, _, _ => by simp
  | _ :: _, [], _, _ => by simp
  | a :: x, b :: y, hx, hy => by
    simp only [List.map_cons, List.cons.injEq]
    rw [byte_inj (hx a (by simp)) (hy b (by simp)), bytes_inj (fun s hs => hx s (by simp [hs])) (fun s hs => hy s (by simp [hs]))]
theorem beq_bytes {ν : Int} {x y : List SI} (hx : bytesIn ν x) (hy : bytesIn ν y) : (x.map (byteOfSI ν) == y.map (byteOfSI ν)) = decide (x.map (·.ev ν) = y.map (·.ev ν)) := by
  rw [Bool.eq_iff_iff]; simp [bytes_inj hx hy]
theorem mkS_toList (ν : Int) (l : List SI) : (mkS ν l).toList = l.map (byteOfSI ν) := by
  rw [Lib.toList_data]; simp [mkS]
theorem byte_lt {ν : Int} {a b : SI} (ha : 0 ≤ a.ev ν ∧ a.ev ν < 256) (hb : 0 ≤ b.ev ν ∧ b.ev ν < 256) : byteOfSI ν a < byteOfSI ν b ↔ a.ev ν < b.ev ν := by
  unfold byteOfSI
  rw [UInt8.lt_iff_toNat_lt, UInt8.toNat_ofNat', UInt8.toNat_ofNat']
  omega
theorem ltSL_inv {c : Cx} : ∀ {x y : List SI} {k : Bool → Bool}, ltSL c x y k = true → ∃ t, k t = true ∧ ∀ ν, c.has ν → bytesIn ν x → bytesIn ν y → t = Op.bytesLess (x.map (byteOfSI ν)) (y.map (byteOfSI ν))
  | [], [], k, h => ⟨false, h, fun _ _ _ _ => by simp [Op.bytesLess]⟩
  | [], _ :: _, k, h => ⟨true, h, fun _ _ _ _ => by simp [Op.bytesLess]⟩
  | _ :: _, [], k, h => ⟨false, h, fun _ _ _ _ => by simp [Op.bytesLess]⟩
  | a :: x, b :: y, k, h => by
    obtain ⟨t, h1, h2⟩ := eqN_inv (show eqN c a b (fun t => Bool.rec (ltN c a b k) (ltSL c x y k) t) = true from h)
    cases t with
    | false =>
      obtain ⟨t, h3, h4⟩ := ltN_inv (show ltN c a b k = true from h1)
      exact ⟨t, h3, fun ν hν hx hy => by
        have e : ¬ a.ev ν = b.ev ν := by simpa using (h2 ν hν).symm
        have e1 : ¬ byteOfSI ν a = byteOfSI ν b := fun q => e ((byte_inj (hx a (by simp)) (hy b (by simp))).1 q)
        rw [h4 ν hν]
        simp only [List.map_cons, Op.bytesLess, byte_lt (hx a (by simp)) (hy b (by simp))]
        simp [e1]⟩
    | true =>
      obtain ⟨t, h3, h4⟩ := ltSL_inv (x := x) (y := y) (k := k) h1
      exact ⟨t, h3, fun ν hν hx hy => by
        have e : a.ev ν = b.ev ν := by simpa using (h2 ν hν).symm
        have e1 : byteOfSI ν a = byteOfSI ν b := (byte_inj (hx a (by simp)) (hy b (by simp))).2 e
        rw [h4 ν hν (fun s hs => hx s (by simp [hs])) (fun s hs => hy s (by simp [hs]))]
        simp [Op.bytesLess, e1]⟩
theorem mkS_append (ν : Int) (x y : List SI) : mkS ν x ++ mkS ν y = mkS ν (x ++ y) := by
  apply ByteArray.ext
  simp [mkS, ByteArray.data_append]
theorem less_swap : ∀ (x y : List UInt8), Op.bytesLess y x = !(Op.bytesLess x y || x == y)
  | [], [] => by simp [Op.bytesLess]
  | [], b :: y => by simp [Op.bytesLess]
  | a :: x, [] => by simp [Op.bytesLess]
  | a :: x, b :: y => by
    simp only [Op.bytesLess, less_swap x y]
    by_cases h1 : a < b
    · have h2 : ¬ b < a := UInt8.lt_asymm h1
      have h3 : ¬ b = a := fun e => by subst e; exact UInt8.lt_irrefl _ h1
      simp [h1, h2, h3]
    · by_cases h2 : b < a
      · have h3 : ¬ a = b := fun e => by subst e; exact UInt8.lt_irrefl _ h2
        simp [h1, h2, h3]
      · have h3 : a = b := by
          rw [UInt8.lt_iff_toNat_lt] at h1 h2
          exact UInt8.toNat_inj.1 (by omega)
        subst h3
        simp
theorem binSK_ok {c : Cx} {op : BinOp} {x y : List SI} {n n' : Nat} {kk : FV → Bool} (h : binSK c op x n y n' kk = true) :
    ∃ r, kk r = true ∧ ∀ ν, c.has ν → bytesIn ν x → bytesIn ν y → n = x.length → n' = y.length → ∀ (P : Program) (w : World) (m : Mp) (t : TypeId), ∃ u, (binOp op t (.string (mkS ν x)) (.string (mkS ν y))).run P w = .ok u w ∧ VR ν m r u := by
  cases op <;> try exact nomatch (show false = true from h)
  case add =>
    obtain ⟨h1, h2⟩ := ifK_left h
    have h1 := Nat.le_of_ble_eq_true h1
    refine ⟨_, h2, fun ν hν hx hy e1 e2 P w m t => ⟨.string (mkS ν (x ++ y)), ?_, ?_⟩⟩
    · have h1' : x.length + y.length ≤ 1000000 := by rw [← e1, ← e2]; exact h1
      have : ¬ (((x.length + y.length : Nat) : Int) > IntKind.i64.max) := by
        have : IntKind.i64.max = 9223372036854775807 := rfl
        omega
      simp only [binOp, Op.stringOp, mkS_size, this, if_false, mkS_append, Sem.run_pure]
    · refine ⟨by rw [appL_eq], ?_, ?_⟩
      · rw [appL_eq]; intro s hs; rcases List.mem_append.1 hs with hs | hs; exact hx s hs; exact hy s hs
      · rw [appL_eq, e1, e2]; simp
  case eql =>
    obtain ⟨t, h1, h2⟩ := eqSL_inv (show eqSL c x y (fun b => kk (.bool b)) = true from h)
    exact ⟨_, h1, fun ν hν hx hy _ _ P w m ty => ⟨.bool t, by rw [h2 ν hν, ← beq_bytes hx hy]; simp [binOp, Op.stringOp, mkS_toList], rfl⟩⟩
  case neq =>
    obtain ⟨t, h1, h2⟩ := eqSL_inv (show eqSL c x y (fun b => kk (.bool (not b))) = true from h)
    exact ⟨_, h1, fun ν hν hx hy _ _ P w m ty => ⟨.bool (not t), by rw [h2 ν hν, ← beq_bytes hx hy]; simp [binOp, Op.stringOp, mkS_toList], rfl⟩⟩
  case lss =>
    obtain ⟨t, h1, h2⟩ := ltSL_inv (show ltSL c x y (fun b => kk (.bool b)) = true from h)
    exact ⟨_, h1, fun ν hν hx hy _ _ P w m ty => ⟨.bool t, by rw [h2 ν hν hx hy]; simp [binOp, Op.stringOp, mkS_toList], rfl⟩⟩
  case geq =>
    obtain ⟨t, h1, h2⟩ := ltSL_inv (show ltSL c x y (fun b => kk (.bool (not b))) = true from h)
    exact ⟨_, h1, fun ν hν hx hy _ _ P w m ty => ⟨.bool (not t), by rw [h2 ν hν hx hy]; simp [binOp, Op.stringOp, mkS_toList], rfl⟩⟩
  case gtr =>
    obtain ⟨t, h1, h2⟩ := ltSL_inv (show ltSL c y x (fun b => kk (.bool b)) = true from h)
    exact ⟨_, h1, fun ν hν hx hy _ _ P w m ty => ⟨.bool t, by rw [h2 ν hν hy hx, less_swap]; simp [binOp, Op.stringOp, mkS_toList], rfl⟩⟩
  case leq =>
    obtain ⟨t, h1, h2⟩ := ltSL_inv (show ltSL c y x (fun b => kk (.bool (not b))) = true from h)
    exact ⟨_, h1, fun ν hν hx hy _ _ P w m ty => ⟨.bool (not t), by rw [h2 ν hν hy hx, less_swap]; simp [binOp, Op.stringOp, mkS_toList], rfl⟩⟩
end Go.Xc
end
section
/- The quiet operations, the last of them: what is held against another, and what is turned into another kind. -/
namespace Go.Xc

variable {E : Env} {N : TC} {o : Oper}

theorem run_bin {P : Program} {w : World} {op : BinOp} {t t' : TypeId} {x y : Operand} {a : Go.Act} {u : Value} (ho : o.op = .binOp op t x y t') (hg : (eqGuard op t x y (a.eval x) (a.eval y)).run P w = .ok () w)
    (hb : (binOp op t (a.eval x) (a.eval y)).run P w = .ok u w) : (execOp a.eval o).run P w = .ok (.value u) w := by
  simp only [execOp, ho, Sem.run_bind, hg, Result.andThen_ok, hb, Sem.run_pure]
theorem guard_int {P : Program} {w : World} {op : BinOp} {t : TypeId} {x y : Operand} {k : IntKind} {n : Int} {v : Value} : (eqGuard op t x y (.int k n) v).run P w = .ok () w := by
  cases op <;> simp [eqGuard]
theorem guard_str {P : Program} {w : World} {op : BinOp} {t : TypeId} {x y : Operand} {s : ByteArray} {v : Value} : (eqGuard op t x y (.string s) v).run P w = .ok () w := by
  cases op <;> simp [eqGuard]
theorem guard_bool {P : Program} {w : World} {op : BinOp} {t : TypeId} {x y : Operand} {s : Bool} {v : Value} : (eqGuard op t x y (.bool s) v).run P w = .ok () w := by
  cases op <;> simp [eqGuard]

theorem q_binI {op : BinOp} {t t' : TypeId} {x y : Operand} (ho : o.op = .binOp op t x y t') :
    QOk E N o (fun T k => evK (copd N x) T fun a => evK (copd N y) T fun b => a.asInt fun ka x => b.asInt fun kb y => ifK (Nat.beq (kc ka) (kc kb)) (binIK E.c op ka x y fun v => k (.val v)) false) := by
  intro T kk h
  obtain ⟨v, h1, hv⟩ := ev_inv h
  obtain ⟨u, h2, hu⟩ := ev_inv h1
  obtain ⟨ka, p, rfl, h3⟩ := asInt_inv h2
  obtain ⟨kb, q, rfl, h4⟩ := asInt_inv h3
  obtain ⟨h5, h6⟩ := ifK_left h4
  have e5 := kc_eq h5
  obtain ⟨r, h7, hr⟩ := binIK_ok h6
  refine ⟨_, h7, fun ν hν m D a hT hD w => ?_⟩
  have ex : a.eval x = .int ka (p.ev ν) := hv ν m D a hT (fun t e => hD t (by simp [ho, Op.operands, e]))
  have ey : a.eval y = .int kb (q.ev ν) := hu ν m D a hT (fun t e => hD t (by simp [ho, Op.operands, e]))
  rw [← e5] at ey
  obtain ⟨z, g1, g2⟩ := hr ν hν E.P w m t
  exact ⟨z, run_bin ho (by rw [ex]; exact guard_int) (by rw [ex, ey]; exact g1), g2⟩
theorem q_sh {op : BinOp} {t t' : TypeId} {x y : Operand} (ho : o.op = .binOp op t x y t') :
    QOk E N o (fun T k => evK (copd N x) T fun a => evK (copd N y) T fun b => a.asInt fun ka x => b.asInt fun _ y => shK op ka x y fun v => k (.val v)) := by
  intro T kk h
  obtain ⟨v, h1, hv⟩ := ev_inv h
  obtain ⟨u, h2, hu⟩ := ev_inv h1
  obtain ⟨ka, p, rfl, h3⟩ := asInt_inv h2
  obtain ⟨kb, q, rfl, h4⟩ := asInt_inv h3
  obtain ⟨r, h7, hr⟩ := shK_ok (k' := kb) h4
  refine ⟨_, h7, fun ν hν m D a hT hD w => ?_⟩
  have ex : a.eval x = .int ka (p.ev ν) := hv ν m D a hT (fun t e => hD t (by simp [ho, Op.operands, e]))
  have ey : a.eval y = .int kb (q.ev ν) := hu ν m D a hT (fun t e => hD t (by simp [ho, Op.operands, e]))
  obtain ⟨z, g1, g2⟩ := hr ν E.P w m t
  exact ⟨z, run_bin ho (by rw [ex]; exact guard_int) (by rw [ex, ey]; exact g1), g2⟩
theorem q_binS {op : BinOp} {t t' : TypeId} {x y : Operand} (ho : o.op = .binOp op t x y t') :
    QOk E N o (fun T k => evK (copd N x) T fun a => evK (copd N y) T fun b => a.asStr fun x n => b.asStr fun y m => binSK E.c op x n y m fun v => k (.val v)) := by
  intro T kk h
  obtain ⟨v, h1, hv⟩ := ev_inv h
  obtain ⟨u, h2, hu⟩ := ev_inv h1
  obtain ⟨p, n, rfl, h3⟩ := asStr_inv h2
  obtain ⟨q, n', rfl, h4⟩ := asStr_inv h3
  obtain ⟨r, h7, hr⟩ := binSK_ok h4
  refine ⟨_, h7, fun ν hν m D a hT hD w => ?_⟩
  obtain ⟨ex, b1, l1⟩ := hv ν m D a hT (fun t e => hD t (by simp [ho, Op.operands, e]))
  obtain ⟨ey, b2, l2⟩ := hu ν m D a hT (fun t e => hD t (by simp [ho, Op.operands, e]))
  obtain ⟨z, g1, g2⟩ := hr ν hν b1 b2 l1 l2 E.P w m t
  exact ⟨z, run_bin ho (by rw [ex]; exact guard_str) (by rw [ex, ey]; exact g1), g2⟩
theorem run_equal {P : Program} {w : World} {t : TypeId} {a b : Value} : (Op.equal t a b).run P w = (Op.equalIn (9999 + 1) t a b).run P w := rfl
theorem q_binB {op : BinOp} {t t' : TypeId} {x y : Operand} (hE : EnvOk E) (ho : o.op = .binOp op t x y t') (ht : und E.tt t = some .bool) :
    QOk E N o (fun T k => evK (copd N x) T fun a => evK (copd N y) T fun b => a.asBool fun x => b.asBool fun y => cmpB op x y fun v => k (.val v)) := by
  intro T kk h
  obtain ⟨v, h1, hv⟩ := ev_inv h
  obtain ⟨u, h2, hu⟩ := ev_inv h1
  obtain ⟨p, rfl, h3⟩ := asBool_inv h2
  obtain ⟨q, rfl, h4⟩ := asBool_inv h3
  have ex : ∀ ν m D a, TR ν m N D T a → (∀ t, Operand.tmp t ∈ o.op.operands.toList → D t) → a.eval x = .bool p := fun ν m D a hT hD => hv ν m D a hT (fun t e => hD t (by simp [ho, Op.operands, e]))
  have ey : ∀ ν m D a, TR ν m N D T a → (∀ t, Operand.tmp t ∈ o.op.operands.toList → D t) → a.eval y = .bool q := fun ν m D a hT hD => hu ν m D a hT (fun t e => hD t (by simp [ho, Op.operands, e]))
  cases op <;> try exact nomatch (show false = true from h4)
  · refine ⟨_, h4, fun ν hν m D a hT hD w => ⟨.bool (p == q), run_bin ho (by rw [ex ν m D a hT hD]; exact guard_bool) ?_, by cases p <;> cases q <;> rfl⟩⟩
    rw [ex ν m D a hT hD, ey ν m D a hT hD]
    simp only [binOp, Sem.run_bind, run_equal, run_equalIn_bool' w _ _ _ _ (und_ok hE ht), Result.andThen_ok, Sem.run_pure]
  · refine ⟨_, h4, fun ν hν m D a hT hD w => ⟨.bool (!(p == q)), run_bin ho (by rw [ex ν m D a hT hD]; exact guard_bool) ?_, by cases p <;> cases q <;> rfl⟩⟩
    rw [ex ν m D a hT hD, ey ν m D a hT hD]
    simp only [binOp, Sem.run_bind, run_equal, run_equalIn_bool' w _ _ _ _ (und_ok hE ht), Result.andThen_ok, Sem.run_pure]
end Go.Xc
end
section
/- The quiet operations, the last of them: nil, structs, conversions. -/
namespace Go.Xc

variable {E : Env} {N : TC} {o : Oper}

def cmpS (op : BinOp) (t : TypeId) (u v : Value) : Sem Value :=
  match op with
  | .eql => do pure (.bool (← Op.equal t u v))
  | _ => do pure (.bool (!(← Op.equal t u v)))
theorem eq_gen {P : Program} {w : World} {t : TypeId} {u v : Value} {r : Bool} (h : ∀ d, (Op.equalIn (d + 1) t u v).run P w = .ok r w) : (Op.equal t u v).run P w = .ok r w := h 9999
theorem refK_inv {both : Bool} {op : BinOp} {a b : Bool} {k : FV → Bool} (h : refK both op a b k = true) :
    (op = .eql ∨ op = .neq) ∧ (a = true ∨ b = true) ∧ ((a = true ∧ b = true) → both = true) ∧ k (.bool (if op = .eql then a && b else !(a && b))) = true := by
  cases op <;> try exact nomatch (show false = true from h)
  all_goals
    cases a <;> cases b <;> cases both <;> first
      | exact nomatch (show false = true from h)
      | exact ⟨by simp, by simp, by simp, h⟩
/-- Two values of which at most one is not nil, held against each other. -/
theorem ref_ok {P : Program} {w : World} {op : BinOp} {t t' : TypeId} {x y : Operand} {a : Go.Act} {p q : Bool} (ho : o.op = .binOp op t x y t') (hop : op = .eql ∨ op = .neq)
    (hg : (eqGuard op t x y (a.eval x) (a.eval y)).run P w = .ok () w)
    (hb : ∀ op', op' = .eql ∨ op' = .neq → binOp op' t (a.eval x) (a.eval y) = cmpS op' t (a.eval x) (a.eval y))
    (he : (Op.equal t (a.eval x) (a.eval y)).run P w = .ok (p && q) w) : (execOp a.eval o).run P w = .ok (.value (.bool (if op = .eql then p && q else !(p && q)))) w := by
  refine run_bin ho hg ?_
  rw [hb op hop]
  rcases hop with rfl | rfl
  · simp [cmpS, he]
  · simp [cmpS, he]
theorem nilP_inv {v : FV} {k : Bool → Bool} (h : v.nilP k = true) : ∃ b, k b = true ∧ ∀ ν m u, VR ν m v u → (b = true ∧ u = .pointer none) ∨ (b = false ∧ ∃ p, u = .pointer (some p)) := by
  cases v <;> first
    | exact nomatch (show false = true from h)
    | exact ⟨true, h, fun ν m u hu => .inl ⟨rfl, hu⟩⟩
    | exact ⟨false, h, fun ν m u hu => .inr ⟨rfl, by obtain ⟨p, _, hu⟩ := hu; exact ⟨_, hu⟩⟩⟩
theorem nilS_inv {v : FV} {k : Bool → Bool} (h : v.nilS k = true) : ∃ b, k b = true ∧ ∀ ν m u, VR ν m v u → (b = true ∧ u = .slice none 0 0) ∨ (b = false ∧ ∃ p n c, u = .slice (some p) n c) := by
  cases v <;> first
    | exact nomatch (show false = true from h)
    | exact ⟨true, h, fun ν m u hu => .inl ⟨rfl, hu⟩⟩
    | exact ⟨false, h, fun ν m u hu => .inr ⟨rfl, by obtain ⟨p, cap, _, hu, _⟩ := hu; exact ⟨_, _, _, hu⟩⟩⟩
theorem nilM_inv {v : FV} {k : Bool → Bool} (h : v.nilM k = true) : ∃ b, k b = true ∧ ∀ ν m u, VR ν m v u → (b = true ∧ u = .map none) ∨ (b = false ∧ ∃ p, u = .map (some p)) := by
  cases v <;> first
    | exact nomatch (show false = true from h)
    | exact ⟨true, h, fun ν m u hu => .inl ⟨rfl, hu⟩⟩
    | exact ⟨false, h, fun ν m u hu => .inr ⟨rfl, by obtain ⟨p, _, hu⟩ := hu; exact ⟨_, hu⟩⟩⟩
theorem nilF_inv {v : FV} {k : Bool → Bool} (h : v.nilF k = true) : ∃ b, k b = true ∧ ∀ ν m u, VR ν m v u → (b = true ∧ u = .nilFunc) ∨ (b = false ∧ ∃ f p q, u = .func f p q) := by
  cases v <;> first
    | exact nomatch (show false = true from h)
    | exact ⟨true, h, fun ν m u hu => .inl ⟨rfl, hu⟩⟩
    | exact ⟨false, h, fun ν m u hu => .inr ⟨rfl, by obtain ⟨p, q, hu, _⟩ := hu; exact ⟨_, _, _, hu⟩⟩⟩
theorem nilI_inv {v : FV} {k : Bool → Bool} (h : v.nilI k = true) : ∃ b, k b = true ∧ ∀ ν m u, VR ν m v u → (b = true ∧ u = .nilIface) ∨ (b = false ∧ ∃ t q, u = .iface t q) := by
  cases v <;> first
    | exact nomatch (show false = true from h)
    | exact ⟨true, h, fun ν m u hu => .inl ⟨rfl, hu⟩⟩
    | exact ⟨false, h, fun ν m u hu => .inr ⟨rfl, by obtain ⟨q, hu, _⟩ := hu; exact ⟨_, _, hu⟩⟩⟩
theorem q_ref {op : BinOp} {t t' : TypeId} {x y : Operand} (ho : o.op = .binOp op t x y t') (both : Bool) (nil : FV → (Bool → Bool) → Bool) (R : Bool → Value → Prop)
    (hn : ∀ v k, nil v k = true → ∃ b, k b = true ∧ ∀ ν m u, VR ν m v u → R b u)
    (hR : ∀ p q u v w, R p u → R q v → (p = true ∨ q = true) → ((p = true ∧ q = true) → both = true) → (eqGuard op t x y u v).run E.P w = .ok () w ∧ (Op.equal t u v).run E.P w = .ok (p && q) w ∧
      ∀ op', op' = .eql ∨ op' = .neq → binOp op' t u v = cmpS op' t u v) :
    QOk E N o (fun T k => evK (copd N x) T fun a => evK (copd N y) T fun b => nil a fun x => nil b fun y => refK both op x y fun v => k (.val v)) := by
  intro T kk h
  obtain ⟨v, h1, hv⟩ := ev_inv h
  obtain ⟨u, h2, hu⟩ := ev_inv h1
  obtain ⟨p, h3, hp⟩ := hn _ _ h2
  obtain ⟨q, h4, hq⟩ := hn _ _ h3
  obtain ⟨h5, h6, h7, h8⟩ := refK_inv h4
  refine ⟨_, h8, fun ν hν m D a hT hD w => ⟨_, ?_, rfl⟩⟩
  have ex := hp ν m _ (hv ν m D a hT (fun t e => hD t (by simp [ho, Op.operands, e])))
  have ey := hq ν m _ (hu ν m D a hT (fun t e => hD t (by simp [ho, Op.operands, e])))
  obtain ⟨g1, g2, g3⟩ := hR p q _ _ w ex ey h6 h7
  exact ref_ok ho h5 g1 g3 g2
theorem bin_shape {t : TypeId} {u v : Value} (h : (∃ a b, u = .pointer a ∧ v = .pointer b ∧ (a = none ∨ b = none)) ∨ (∃ a n c b n' c', u = .slice a n c ∧ v = .slice b n' c') ∨ (∃ a b, u = .map a ∧ v = .map b) ∨ (u = .nilFunc ∨ v = .nilFunc) ∨ (u = .nilIface ∨ v = .nilIface)) :
    ∀ op', op' = BinOp.eql ∨ op' = .neq → binOp op' t u v = cmpS op' t u v := by
  intro op' hop
  rcases hop with rfl | rfl <;> rcases h with ⟨a, b, rfl, rfl, _⟩ | ⟨a, n, c, b, n', c', rfl, rfl⟩ | ⟨a, b, rfl, rfl⟩ | (rfl | rfl) | (rfl | rfl) <;> first
    | rfl
    | (cases u <;> rfl)
    | (cases v <;> rfl)
theorem q_refP {op : BinOp} {t t' e : TypeId} {x y : Operand} (hE : EnvOk E) (ho : o.op = .binOp op t x y t') (ht : und E.tt t = some (.pointer e)) :
    QOk E N o (fun T k => evK (copd N x) T fun a => evK (copd N y) T fun b => a.nilP fun x => b.nilP fun y => refK true op x y fun v => k (.val v)) := by
  refine q_ref ho true _ (fun b u => (b = true ∧ u = .pointer none) ∨ (b = false ∧ ∃ p, u = .pointer (some p))) (fun v k h => nilP_inv h) ?_
  intro p q u v w hu hv hpq _
  have hh := und_ok hE ht
  rcases hu with ⟨rfl, rfl⟩ | ⟨rfl, pa, rfl⟩ <;> rcases hv with ⟨rfl, rfl⟩ | ⟨rfl, pb, rfl⟩
  · exact ⟨by cases op <;> simp [eqGuard], eq_gen fun d => by simp [Op.equalIn, run_underlying hh], bin_shape (.inl ⟨_, _, rfl, rfl, .inl rfl⟩)⟩
  · exact ⟨by cases op <;> simp [eqGuard], eq_gen fun d => by simp [Op.equalIn, run_underlying hh], bin_shape (.inl ⟨_, _, rfl, rfl, .inl rfl⟩)⟩
  · exact ⟨by cases op <;> simp [eqGuard], eq_gen fun d => by simp [Op.equalIn, run_underlying hh], bin_shape (.inl ⟨_, _, rfl, rfl, .inr rfl⟩)⟩
  · simp at hpq
theorem q_refS {op : BinOp} {t t' e : TypeId} {x y : Operand} (hE : EnvOk E) (ho : o.op = .binOp op t x y t') (ht : und E.tt t = some (.slice e)) :
    QOk E N o (fun T k => evK (copd N x) T fun a => evK (copd N y) T fun b => a.nilS fun x => b.nilS fun y => refK true op x y fun v => k (.val v)) := by
  refine q_ref ho true _ (fun b u => (b = true ∧ u = .slice none 0 0) ∨ (b = false ∧ ∃ p n c, u = .slice (some p) n c)) (fun v k h => nilS_inv h) ?_
  intro p q u v w hu hv hpq _
  have hh := und_ok hE ht
  rcases hu with ⟨rfl, rfl⟩ | ⟨rfl, pa, na, ca, rfl⟩ <;> rcases hv with ⟨rfl, rfl⟩ | ⟨rfl, pb, nb, cb, rfl⟩
  · exact ⟨by cases op <;> simp [eqGuard], eq_gen fun d => by simp [Op.equalIn, run_underlying hh], bin_shape (.inr (.inl ⟨_, _, _, _, _, _, rfl, rfl⟩))⟩
  · exact ⟨by cases op <;> simp [eqGuard], eq_gen fun d => by simp [Op.equalIn, run_underlying hh], bin_shape (.inr (.inl ⟨_, _, _, _, _, _, rfl, rfl⟩))⟩
  · exact ⟨by cases op <;> simp [eqGuard], eq_gen fun d => by simp [Op.equalIn, run_underlying hh], bin_shape (.inr (.inl ⟨_, _, _, _, _, _, rfl, rfl⟩))⟩
  · simp at hpq
theorem q_refM {op : BinOp} {t t' e e' : TypeId} {x y : Operand} (hE : EnvOk E) (ho : o.op = .binOp op t x y t') (ht : und E.tt t = some (.map e e')) :
    QOk E N o (fun T k => evK (copd N x) T fun a => evK (copd N y) T fun b => a.nilM fun x => b.nilM fun y => refK true op x y fun v => k (.val v)) := by
  refine q_ref ho true _ (fun b u => (b = true ∧ u = .map none) ∨ (b = false ∧ ∃ p, u = .map (some p))) (fun v k h => nilM_inv h) ?_
  intro p q u v w hu hv hpq _
  have hh := und_ok hE ht
  rcases hu with ⟨rfl, rfl⟩ | ⟨rfl, pa, rfl⟩ <;> rcases hv with ⟨rfl, rfl⟩ | ⟨rfl, pb, rfl⟩
  · exact ⟨by cases op <;> simp [eqGuard], eq_gen fun d => by simp [Op.equalIn, run_underlying hh], bin_shape (.inr (.inr (.inl ⟨_, _, rfl, rfl⟩)))⟩
  · exact ⟨by cases op <;> simp [eqGuard], eq_gen fun d => by simp [Op.equalIn, run_underlying hh], bin_shape (.inr (.inr (.inl ⟨_, _, rfl, rfl⟩)))⟩
  · exact ⟨by cases op <;> simp [eqGuard], eq_gen fun d => by simp [Op.equalIn, run_underlying hh], bin_shape (.inr (.inr (.inl ⟨_, _, rfl, rfl⟩)))⟩
  · simp at hpq
theorem q_refF {op : BinOp} {t t' : TypeId} {ps rs : Array TypeId} {vr : Bool} {x y : Operand} (hE : EnvOk E) (ho : o.op = .binOp op t x y t') (ht : und E.tt t = some (.func ps rs vr)) :
    QOk E N o (fun T k => evK (copd N x) T fun a => evK (copd N y) T fun b => a.nilF fun x => b.nilF fun y => refK true op x y fun v => k (.val v)) := by
  refine q_ref ho true _ (fun b u => (b = true ∧ u = .nilFunc) ∨ (b = false ∧ ∃ f p q, u = .func f p q)) (fun v k h => nilF_inv h) ?_
  intro p q u v w hu hv hpq _
  have hh := und_ok hE ht
  rcases hu with ⟨rfl, rfl⟩ | ⟨rfl, pa, na, ca, rfl⟩ <;> rcases hv with ⟨rfl, rfl⟩ | ⟨rfl, pb, nb, cb, rfl⟩
  · exact ⟨by cases op <;> simp [eqGuard], eq_gen fun d => by simp [Op.equalIn, run_underlying hh], bin_shape (.inr (.inr (.inr (.inl (.inl rfl)))))⟩
  · exact ⟨by cases op <;> simp [eqGuard], eq_gen fun d => by simp [Op.equalIn, run_underlying hh], bin_shape (.inr (.inr (.inr (.inl (.inl rfl)))))⟩
  · exact ⟨by cases op <;> simp [eqGuard], eq_gen fun d => by simp [Op.equalIn, run_underlying hh], bin_shape (.inr (.inr (.inr (.inl (.inr rfl)))))⟩
  · simp at hpq
theorem q_refI {op : BinOp} {t t' : TypeId} {ms : Array (String × TypeId)} {x y : Operand} (hE : EnvOk E) (ho : o.op = .binOp op t x y t') (ht : und E.tt t = some (.interface ms)) :
    QOk E N o (fun T k => evK (copd N x) T fun a => evK (copd N y) T fun b => a.nilI fun x' => b.nilI fun y' => refK (isK x || isK y) op x' y' fun v => k (.val v)) := by
  refine q_ref ho _ _ (fun b u => (b = true ∧ u = .nilIface) ∨ (b = false ∧ ∃ t q, u = .iface t q)) (fun v k h => nilI_inv h) ?_
  intro p q u v w hu hv hpq hb
  have hh := und_ok hE ht
  rcases hu with ⟨rfl, rfl⟩ | ⟨rfl, pa, na, rfl⟩ <;> rcases hv with ⟨rfl, rfl⟩ | ⟨rfl, pb, nb, rfl⟩
  · refine ⟨?_, eq_gen fun d => by simp [Op.equalIn, run_underlying hh], bin_shape (.inr (.inr (.inr (.inr (.inl rfl)))))⟩
    have := hb ⟨rfl, rfl⟩
    cases x <;> cases y <;> first
      | (simp [isK] at this; done)
      | (cases op <;> simp [eqGuard])
  · exact ⟨by cases op <;> simp [eqGuard], eq_gen fun d => by simp [Op.equalIn, run_underlying hh], bin_shape (.inr (.inr (.inr (.inr (.inl rfl)))))⟩
  · exact ⟨by cases op <;> simp [eqGuard], eq_gen fun d => by simp [Op.equalIn, run_underlying hh], bin_shape (.inr (.inr (.inr (.inr (.inr rfl)))))⟩
  · simp at hpq
end Go.Xc
end
section
/- The quiet operations, the last of them: structs that are held against each other, conversions. -/
namespace Go.Xc

variable {E : Env} {N : TC} {o : Oper}

theorem VRs_head {ν : Int} {m : Mp} {x : FV} {xs : List FV} {c : Array Value} {n : Nat} (h : VRs ν m (x :: xs) (c.toList.drop n)) : ∃ u, c[n]? = some u ∧ VR ν m x u ∧ VRs ν m xs (c.toList.drop (n + 1)) := by
  obtain ⟨u, us, h1, h2, h3⟩ := h
  refine ⟨u, ?_, h2, ?_⟩
  · have := congrArg (·[0]?) h1
    simpa using this
  · have : (c.toList.drop n).drop 1 = us := by rw [h1]; rfl
    rw [List.drop_drop] at this
    rw [this]; exact h3
theorem run_part {P : Program} {w : World} {t : TypeId} {d : TypeDesc} {c : Array Value} {n : Nat} {u : Value} (ht : P.underlying t = some d) (hd : isAggD d = false) (h : c[n]? = some u) : (part t c n).run P w = .ok u w := by
  unfold part isAgg
  simp only [Sem.run_bind, run_underlying ht, Result.andThen_ok]
  cases d <;> first | (simp [isAggD] at hd; done) | simp [h]
theorem eqCL_ok (hE : EnvOk E) : ∀ {fs : List Field} {n : Nat} {ck : List CK} {x y : List FV} {k : Bool → Bool}, ckOf E.tt n fs = some ck → eqCL E.c ck x y k = true →
    ∃ t, k t = true ∧ ∀ ν, E.c.has ν → ∀ m (xs ys : Array Value), VRs ν m x (xs.toList.drop n) → VRs ν m y (ys.toList.drop n) → (∀ f ∈ fs, f.name ≠ "_") → ∀ d w, (Op.eqFields (d + 1) xs ys fs).run E.P w = .ok t w
  | [], n, ck, x, y, k, hc, h => by
    simp only [ckOf, Option.some.injEq] at hc; subst hc
    cases x with
    | nil => cases y with
      | nil => exact ⟨true, h, fun ν _ m xs ys _ _ _ d w => by simp [Op.eqFields]⟩
      | cons b r => exact nomatch (show false = true from h)
    | cons a r => exact nomatch (show false = true from h)
  | f :: fs, n, ck, x, y, k, hc, h => by
    unfold ckOf at hc
    cases hb : Nat.beq f.offset n with
    | false => simp [hb] at hc
    | true =>
      simp only [hb, cond_true] at hc
      have hn := Nat.eq_of_beq_eq_true hb
      have fin : ∀ (q : CK) (l : List CK), ckOf E.tt (Nat.succ n) fs = some l → ck = q :: l → ∃ a r b r', x = a :: r ∧ y = b :: r' := by
        intro q l _ e
        subst e
        cases x with
        | nil => exact nomatch (show false = true from h)
        | cons a r => cases y with
          | nil => exact nomatch (show false = true from h)
          | cons b r' => exact ⟨a, r, b, r', rfl, rfl⟩
      split at hc
      · rename_i ki l hu hl
        simp only [Option.some.injEq] at hc
        obtain ⟨a, r, b, r', rfl, rfl⟩ := fin _ _ hl hc.symm
        subst hc
        obtain ⟨ka, p, rfl, h1⟩ := asInt_inv (show a.asInt (fun ka p => b.asInt fun kb q => ifK (decide (ka = kb)) (eqN E.c p q fun t => Bool.rec (k false) (eqCL E.c l r r' k) t) false) = true from h)
        obtain ⟨kb, q, rfl, h2⟩ := asInt_inv h1
        obtain ⟨h3, h4⟩ := ifK_left h2
        obtain ⟨t, h5, h6⟩ := eqN_inv h4
        simp only [decide_eq_true_eq] at h3
        have step : ∀ ν, E.c.has ν → ∀ m (xs ys : Array Value), VRs ν m (.int ka p :: r) (xs.toList.drop n) → VRs ν m (.int kb q :: r') (ys.toList.drop n) → (∀ g ∈ f :: fs, g.name ≠ "_") → ∀ d w,
            (Op.eqFields (d + 1) xs ys (f :: fs)).run E.P w = (if (!t) = true then pure false else Op.eqFields (d + 1) xs ys fs).run E.P w ∧ VRs ν m r (xs.toList.drop (n + 1)) ∧ VRs ν m r' (ys.toList.drop (n + 1)) := by
          intro ν hν m xs ys hx hy hnm d w
          obtain ⟨u, e1, e2, e3⟩ := VRs_head hx
          obtain ⟨v, f1, f2, f3⟩ := VRs_head hy
          rw [show u = .int ka (p.ev ν) from e2] at e1
          rw [show v = .int kb (q.ev ν) from f2, ← h3] at f1
          refine ⟨?_, e3, f3⟩
          have ht := und_ok hE hu
          simp only [Op.eqFields, hnm f (by simp), ne_eq, not_false_eq_true, if_true, Sem.run_bind, hn, run_part ht rfl e1, run_part ht rfl f1, Result.andThen_ok, run_equalIn_int w d _ _ _ _ _ ht, h6 ν hν, BEq.beq]
        cases t with
        | false => exact ⟨false, h5, fun ν hν m xs ys hx hy hnm d w => by rw [(step ν hν m xs ys hx hy hnm d w).1]; simp⟩
        | true =>
          obtain ⟨t, h7, h8⟩ := eqCL_ok hE (k := k) hl h5
          exact ⟨t, h7, fun ν hν m xs ys hx hy hnm d w => by
            obtain ⟨g1, g2, g3⟩ := step ν hν m xs ys hx hy hnm d w
            rw [g1]; simp only [Bool.not_true, Bool.false_eq_true, if_false]
            exact h8 ν hν m xs ys g2 g3 (fun g hg => hnm g (by simp [hg])) d w⟩
      · rename_i l hu hl
        simp only [Option.some.injEq] at hc
        obtain ⟨a, r, b, r', rfl, rfl⟩ := fin _ _ hl hc.symm
        subst hc
        obtain ⟨p, pn, rfl, h1⟩ := asStr_inv (show a.asStr (fun p _ => b.asStr fun q _ => eqSL E.c p q fun t => Bool.rec (k false) (eqCL E.c l r r' k) t) = true from h)
        obtain ⟨q, qn, rfl, h2⟩ := asStr_inv h1
        obtain ⟨t, h5, h6⟩ := eqSL_inv h2
        have step : ∀ ν, E.c.has ν → ∀ m (xs ys : Array Value), VRs ν m (.str p pn :: r) (xs.toList.drop n) → VRs ν m (.str q qn :: r') (ys.toList.drop n) → (∀ g ∈ f :: fs, g.name ≠ "_") → ∀ d w,
            (Op.eqFields (d + 1) xs ys (f :: fs)).run E.P w = (if (!t) = true then pure false else Op.eqFields (d + 1) xs ys fs).run E.P w ∧ VRs ν m r (xs.toList.drop (n + 1)) ∧ VRs ν m r' (ys.toList.drop (n + 1)) := by
          intro ν hν m xs ys hx hy hnm d w
          obtain ⟨u, e1, ⟨e2, b1, _⟩, e3⟩ := VRs_head hx
          obtain ⟨v, f1, ⟨f2, b2, _⟩, f3⟩ := VRs_head hy
          rw [e2] at e1
          rw [f2] at f1
          refine ⟨?_, e3, f3⟩
          have ht := und_ok hE hu
          simp only [Op.eqFields, hnm f (by simp), ne_eq, not_false_eq_true, if_true, Sem.run_bind, hn, run_part ht rfl e1, run_part ht rfl f1, Result.andThen_ok, run_equalIn_string w d _ _ _ ht, mkS_toList, beq_bytes b1 b2, h6 ν hν]
        cases t with
        | false => exact ⟨false, h5, fun ν hν m xs ys hx hy hnm d w => by rw [(step ν hν m xs ys hx hy hnm d w).1]; simp⟩
        | true =>
          obtain ⟨t, h7, h8⟩ := eqCL_ok hE (k := k) hl h5
          exact ⟨t, h7, fun ν hν m xs ys hx hy hnm d w => by
            obtain ⟨g1, g2, g3⟩ := step ν hν m xs ys hx hy hnm d w
            rw [g1]; simp only [Bool.not_true, Bool.false_eq_true, if_false]
            exact h8 ν hν m xs ys g2 g3 (fun g hg => hnm g (by simp [hg])) d w⟩
      · rename_i l hu hl
        simp only [Option.some.injEq] at hc
        obtain ⟨a, r, b, r', rfl, rfl⟩ := fin _ _ hl hc.symm
        subst hc
        obtain ⟨p, rfl, h1⟩ := asBool_inv (show a.asBool (fun p => b.asBool fun q => Bool.rec (k false) (eqCL E.c l r r' k) (Bool.rec (not q) q p)) = true from h)
        obtain ⟨q, rfl, h2⟩ := asBool_inv h1
        have step : ∀ ν, E.c.has ν → ∀ m (xs ys : Array Value), VRs ν m (.bool p :: r) (xs.toList.drop n) → VRs ν m (.bool q :: r') (ys.toList.drop n) → (∀ g ∈ f :: fs, g.name ≠ "_") → ∀ d w,
            (Op.eqFields (d + 1) xs ys (f :: fs)).run E.P w = (if (!(p == q)) = true then pure false else Op.eqFields (d + 1) xs ys fs).run E.P w ∧ VRs ν m r (xs.toList.drop (n + 1)) ∧ VRs ν m r' (ys.toList.drop (n + 1)) := by
          intro ν hν m xs ys hx hy hnm d w
          obtain ⟨u, e1, e2, e3⟩ := VRs_head hx
          obtain ⟨v, f1, f2, f3⟩ := VRs_head hy
          rw [show u = .bool p from e2] at e1
          rw [show v = .bool q from f2] at f1
          refine ⟨?_, e3, f3⟩
          have ht := und_ok hE hu
          simp only [Op.eqFields, hnm f (by simp), ne_eq, not_false_eq_true, if_true, Sem.run_bind, hn, run_part ht rfl e1, run_part ht rfl f1, Result.andThen_ok, run_equalIn_bool' w d _ _ _ ht]
        have hpq : Bool.rec (motive := fun _ => Bool) (not q) q p = (p == q) := by cases p <;> cases q <;> rfl
        rw [hpq] at h2
        cases ht : (p == q) with
        | false => rw [ht] at h2; exact ⟨false, h2, fun ν hν m xs ys hx hy hnm d w => by rw [(step ν hν m xs ys hx hy hnm d w).1, ht]; simp⟩
        | true =>
          rw [ht] at h2
          obtain ⟨t, h7, h8⟩ := eqCL_ok hE (k := k) hl h2
          exact ⟨t, h7, fun ν hν m xs ys hx hy hnm d w => by
            obtain ⟨g1, g2, g3⟩ := step ν hν m xs ys hx hy hnm d w
            rw [g1, ht]; simp only [Bool.not_true, Bool.false_eq_true, if_false]
            exact h8 ν hν m xs ys g2 g3 (fun g hg => hnm g (by simp [hg])) d w⟩
      · cases hc
theorem q_binSt {op : BinOp} {t t' : TypeId} {fs : Array Field} {ck : List CK} {x y : Operand} (hE : EnvOk E) (ho : o.op = .binOp op t x y t') (ht : und E.tt t = some (.struct fs)) (hck : ckOf E.tt 0 fs.toList = some ck) (hst : t ∈ E.okS) :
    QOk E N o (fun T k => evK (copd N x) T fun a => evK (copd N y) T fun b => a.asAgg fun x => b.asAgg fun y => eqCL E.c ck x y fun r => cmpR op r fun v => k (.val v)) := by
  intro T kk h
  obtain ⟨v, h1, hv⟩ := ev_inv h
  obtain ⟨u, h2, hu⟩ := ev_inv h1
  obtain ⟨p, rfl, h3⟩ := asAgg_inv h2
  obtain ⟨q, rfl, h4⟩ := asAgg_inv h3
  obtain ⟨r, h5, h6⟩ := eqCL_ok hE hck h4
  obtain ⟨s1, s2, s3⟩ := hE.st t hst
  have hh := und_ok hE ht
  have hf : E.P.fieldsOf t = fs := by unfold Program.fieldsOf; rw [hh]
  have run : ∀ ν, E.c.has ν → ∀ m D a, TR ν m N D T a → (∀ t, Operand.tmp t ∈ o.op.operands.toList → D t) → ∀ w, ∃ xs ys, a.eval x = .agg xs ∧ a.eval y = .agg ys ∧ (Op.equal t (.agg xs) (.agg ys)).run E.P w = .ok r w := by
    intro ν hν m D a hT hD w
    obtain ⟨xs, ex, vx, _⟩ := hv ν m D a hT (fun t e => hD t (by simp [ho, Op.operands, e]))
    obtain ⟨ys, ey, vy, _⟩ := hu ν m D a hT (fun t e => hD t (by simp [ho, Op.operands, e]))
    refine ⟨xs, ys, ex, ey, ?_⟩
    show (Op.equalIn (9999 + 1) t (.agg xs) (.agg ys)).run E.P w = .ok r w
    rw [run_equalIn_struct w 9999 t xs ys (by rw [hf]; exact hh) s1, hf]
    exact h6 ν hν m xs ys (by simpa using vx) (by simpa using vy) (s3 fs hh) 9998 w
  cases op <;> try exact nomatch (show false = true from h5)
  · refine ⟨_, h5, fun ν hν m D a hT hD w => ⟨.bool r, ?_, rfl⟩⟩
    obtain ⟨xs, ys, ex, ey, e⟩ := run ν hν m D a hT hD w
    refine run_bin ho (by rw [ex, ey]; exact run_eqGuard_agg w _ _ _ _ _ _ s2) ?_
    rw [ex, ey]
    simp only [binOp, Sem.run_bind, e, Result.andThen_ok, Sem.run_pure]
  · refine ⟨_, h5, fun ν hν m D a hT hD w => ⟨.bool (!r), ?_, rfl⟩⟩
    obtain ⟨xs, ys, ex, ey, e⟩ := run ν hν m D a hT hD w
    refine run_bin ho (by rw [ex, ey]; exact run_eqGuard_agg w _ _ _ _ _ _ s2) ?_
    rw [ex, ey]
    simp only [binOp, Sem.run_bind, e, Result.andThen_ok, Sem.run_pure]
end Go.Xc
end
section
/- Quiet conversions. -/
namespace Go.Xc

variable {E : Env} {N : TC} {o : Oper}

theorem isU8_ok (hE : EnvOk E) {e : TypeId} (h : isU8 E.tt e = true) : E.P.underlying e = some (.int .u8) := by
  unfold isU8 at h
  split at h
  · rename_i hd; exact und_ok hE hd
  · cases h
theorem run_conv {P : Program} {w w' : World} {s d : TypeId} {x : Operand} {a : Go.Act} {u : Value} (ho : o.op = .convert s d x) (h : (convert s d (a.eval x)).run P w = .ok u w') : (execOp a.eval o).run P w = .ok (.value u) w' := by
  simp [execOp, ho, h]
theorem q_convI {s d : TypeId} {k k' : IntKind} {x : Operand} (hE : EnvOk E) (ho : o.op = .convert s d x) (hs : und E.tt s = some (.int k')) (hd : und E.tt d = some (.int k)) :
    QOk E N o (fun T kk => evK (copd N x) T fun v => v.asInt fun _ z => optK (SI.wrapS E.c k z) fun z => kk (.val (.int k z))) := by
  intro T kk h
  obtain ⟨v, h1, hv⟩ := ev_inv h
  obtain ⟨ki, z, rfl, h2⟩ := asInt_inv h1
  obtain ⟨z', h3, h4⟩ := optK_inv h2
  refine ⟨_, h4, fun ν hν m D a hT hD w => ⟨_, ?_, rfl⟩⟩
  have hx : a.eval x = .int ki (z.ev ν) := hv ν m D a hT (fun t e => hD t (by simp [ho, Op.operands, e]))
  refine run_conv ho ?_
  rw [SI.wrapS_ok h3 ν hν, hx]
  simp [convert, run_underlying (und_ok hE hs), run_underlying (und_ok hE hd), Conv.intToInt]
theorem encode_small {n : Int} (h0 : 0 ≤ n) (h1 : n < 128) : Utf8.encode n = ⟨#[UInt8.ofNat n.toNat]⟩ := by
  have hv : Utf8.valid n = true := by unfold Utf8.valid; simp; omega
  unfold Utf8.encode
  simp only [hv, if_true]
  rw [if_pos (by omega)]
theorem q_convIS {s d : TypeId} {k' : IntKind} {x : Operand} (hE : EnvOk E) (ho : o.op = .convert s d x) (hs : und E.tt s = some (.int k')) (hd : und E.tt d = some .string) :
    QOk E N o (fun T kk => evK (copd N x) T fun v => v.asInt fun _ z => SI.rec (fun n => Int.rec (fun n => ifK (Nat.blt n 128) (kk (.val (.str [.lit (.ofNat n)] 1))) false) (fun _ => false) n) (fun _ _ => false) (fun a b i => kk (.val (.str [.dig a b i] 1))) z) := by
  intro T kk h
  obtain ⟨v, h1, hv⟩ := ev_inv h
  obtain ⟨ki, z, rfl, h2⟩ := asInt_inv h1
  have key : ∃ z', kk (.val (.str [z'] 1)) = true ∧ z' = z ∧ ∀ ν, 0 ≤ z.ev ν ∧ z.ev ν < 128 := by
    cases z with
    | lit n =>
      cases n with
      | ofNat n =>
        obtain ⟨g1, g2⟩ := ifK_left h2
        simp only [Nat.blt_eq] at g1
        exact ⟨_, g2, rfl, fun ν => by show 0 ≤ (n : Int) ∧ (n : Int) < 128; omega⟩
      | negSucc n => exact nomatch (show false = true from h2)
    | lin a b => exact nomatch (show false = true from h2)
    | dig a b i =>
      refine ⟨_, h2, rfl, fun ν => ?_⟩
      have := SI.bounds (c := ⟨ν, ν⟩) (ν := ν) ⟨Int.le_refl _, Int.le_refl _⟩ (.dig a b i)
      simp only [SI.least, SI.most] at this
      omega
  obtain ⟨z', h3, rfl, hb⟩ := key
  refine ⟨_, h3, fun ν hν m D a hT hD w => ⟨_, ?_, rfl, ?_, rfl⟩⟩
  · have hx : a.eval x = .int ki (z'.ev ν) := hv ν m D a hT (fun t e => hD t (by simp [ho, Op.operands, e]))
    refine run_conv ho ?_
    rw [hx]
    simp only [convert, Sem.run_bind, run_underlying (und_ok hE hs), run_underlying (und_ok hE hd), Result.andThen_ok, Conv.intToString, Sem.run_pure, encode_small (hb ν).1 (hb ν).2]
    rfl
  · intro q hq
    simp only [List.mem_singleton] at hq
    subst hq
    have := hb ν
    omega
theorem q_convSS {s d : TypeId} {x : Operand} (hE : EnvOk E) (ho : o.op = .convert s d x) (hs : und E.tt s = some .string) (hd : und E.tt d = some .string) :
    QOk E N o (fun T kk => evK (copd N x) T fun v => v.asStr fun l n => kk (.val (.str l n))) := by
  intro T kk h
  obtain ⟨v, h1, hv⟩ := ev_inv h
  obtain ⟨l, n, rfl, h2⟩ := asStr_inv h1
  refine ⟨_, h2, fun ν hν m D a hT hD w => ?_⟩
  have hx := hv ν m D a hT (fun t e => hD t (by simp [ho, Op.operands, e]))
  refine ⟨_, run_conv ho ?_, hx⟩
  rw [hx.1]
  simp [convert, run_underlying (und_ok hE hs), run_underlying (und_ok hE hd)]
theorem byteOf_back {ν : Int} {z : SI} (h : 0 ≤ z.ev ν ∧ z.ev ν < 256) : ((byteOfSI ν z).toNat : Int) = z.ev ν := by
  unfold byteOfSI
  have : (z.ev ν).toNat < 256 := by omega
  simp [UInt8.toNat_ofNat', Nat.mod_eq_of_lt this]
  omega
theorem VRs_bytes {ν : Int} {m : Mp} : ∀ {l : List SI}, bytesIn ν l → VRs ν m (l.map (.int .u8)) (l.map fun z => Value.int .u8 (byteOfSI ν z).toNat)
  | [], _ => rfl
  | z :: l, h => ⟨_, _, rfl, by show Value.int .u8 ((byteOfSI ν z).toNat : Int) = Value.int .u8 (z.ev ν); rw [byteOf_back (h z (by simp))], VRs_bytes fun s hs => h s (by simp [hs])⟩
theorem q_convSB {s d e : TypeId} {x : Operand} (hE : EnvOk E) (ho : o.op = .convert s d x) (hs : und E.tt s = some .string) (hd : und E.tt d = some (.slice e)) (he : isU8 E.tt e = true) :
    QOk E N o (fun T kk => evK (copd N x) T fun v => v.asStr fun l n => kk (.new (.cells (l.map (.int .u8)) n) fun b => .slice b 0 n 1)) := by
  intro T kk h
  obtain ⟨v, h1, hv⟩ := ev_inv h
  obtain ⟨l, n, rfl, h2⟩ := asStr_inv h1
  refine ⟨_, h2, fun ν hν m D a hT hD w => ?_⟩
  obtain ⟨hx, hb, hn⟩ := hv ν m D a hT (fun t e => hD t (by simp [ho, Op.operands, e]))
  have hsz : (mkS ν l).size = l.length := mkS_size ν l
  have hcap : (mkS ν l).size ≤ grownCap w (mkS ν l).size 0 e := by unfold grownCap Question.cut; simp only; omega
  have hbs : (bytesRow (mkS ν l) (grownCap w (mkS ν l).size 0 e)).size = grownCap w (mkS ν l).size 0 e := by
    have : (mkS ν l).data.size = (mkS ν l).size := rfl
    simp [bytesRow]; omega
  refine ⟨_, .cells (bytesRow (mkS ν l) (grownCap w (mkS ν l).size 0 e)) e ((bytesRow (mkS ν l) (grownCap w (mkS ν l).size 0 e)).size, (bytesRow (mkS ν l) (grownCap w (mkS ν l).size 0 e)).size + 1), w.drew.alloc (.cells (bytesRow (mkS ν l) (grownCap w (mkS ν l).size 0 e)) e ((bytesRow (mkS ν l) (grownCap w (mkS ν l).size 0 e)).size, (bytesRow (mkS ν l) (grownCap w (mkS ν l).size 0 e)).size + 1)),
    (bytesRow (mkS ν l) (grownCap w (mkS ν l).size 0 e)).size, run_conv ho (hx.symm ▸ run_bytes_of_string w s d e (mkS ν l) (und_ok hE hs) (und_ok hE hd) (isU8_ok hE he)), rfl, rfl, rfl, rfl, ?_, ?_⟩
  · intro m' hm
    refine blk_new (e := e) (fr := (_, _)) (alloc_get w.drew _) ?_ ?_ ?_ (by simpa using hn) (.inl (Nat.le_refl _))
    · intro i y hy
      obtain ⟨u, f1, f2⟩ := VRs_get (VRs_bytes (m := m') hb) i y hy
      refine ⟨u, ?_, f2⟩
      have hi : i < l.length := by
        rcases Nat.lt_or_ge i l.length with g | g
        · exact g
        · rw [List.getElem?_eq_none (by simpa using g)] at f1; cases f1
      rw [← f1]
      simp [bytesRow, mkS, Array.getElem?_append, hi]
    · intro y hy
      simp only [List.mem_map] at hy
      obtain ⟨z, _, rfl⟩ := hy
      rfl
    · simp only [List.length_map]; omega
  · intro m' p hm hp
    refine ⟨_, grownCap w (mkS ν l).size 0 e, hp, ?_, ?_, by omega, by omega⟩
    · rw [hn, hsz]
    · simp only [hbs]; omega
end Go.Xc
end
