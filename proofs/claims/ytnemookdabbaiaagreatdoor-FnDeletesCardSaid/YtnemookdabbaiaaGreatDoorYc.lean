/- All other operations: each is sound. -/
import Derived.Test.YtnemookdabbaiaaGreatDoorYb
import Derived.MapKept
import Derived.Laws.Append
section
/- What reads and writes memory: the forms, and cells that are written. -/
namespace Go.Xc

/-- What a step of an operation comes to: abstractly v and s'. -/
def StepsTo (E : Env) (N : TC) (o : Oper) (T : FT) (s : FS) (v : FV) (s' : FS) : Prop :=
  ∀ ν, E.c.has ν → ∀ m D a base w0 w, TR ν m N D T a → (∀ t, Operand.tmp t ∈ o.op.operands.toList → D t) → Rel ν base w0 m s w →
    ∀ (next : Go.Act → World → Prop) (Q : Exit → Go.Act → World → Prop),
      (∀ m' u w', VR ν m' v u → Rel ν base w0 m' s' w' → After m s w m' s' w' → next (a.put o.dst u) w') → o.wp E.P a w next Q
/-- What a call comes to. -/
def CallsTo (E : Env) (f : Nat) (args : List FV) (s : FS) (v : FV) (s' : FS) : Prop :=
  ∀ ν, E.c.has ν → ∀ m base w0 w (vs : Array Value), VRs ν m args vs.toList → Rel ν base w0 m s w →
    ∀ (o : Oper) (a : Go.Act) (next : Go.Act → World → Prop) (Q : Exit → Go.Act → World → Prop),
      (∀ m' u w', VR ν m' v u → Rel ν base w0 m' s' w' → After m s w m' s' w' → next (a.put o.dst u) w') → o.upon E.P a next Q ((callFunc f vs).run E.P w)
/-- What a function that is entered comes to. -/
def EntersTo (E : Env) (f : Nat) (args : List FV) (s : FS) (v : FV) (s' : FS) : Prop :=
  ∀ ν, E.c.has ν → ∀ m base w0 w (vs : Array Value), VRs ν m args vs.toList → Rel ν base w0 m s w →
    Calls E.P f vs w fun
      | .returned u, w' => ∃ m', VR ν m' v u ∧ Rel ν base w0 m' s' w' ∧ After m s w m' s' w'
      | _, _ => False
def CallOk (E : Env) (call : CallT) : Prop := ∀ f args s k, call f args s k = true → ∃ v s', k v s' = true ∧ CallsTo E f args s v s'
def WOk (E : Env) (N : TC) (o : Oper) (act : Act) : Prop :=
  ∀ call, CallOk E call → ∀ T s k, act call T s k = true → ∃ v s', k v s' = true ∧ StepsTo E N o T s v s'
/-- The row that is read, in the world. -/
def RowIn (ν : Int) (m : Mp) (w : World) (r : Option RR) (l : List FV) : Prop :=
  match r with
  | none => l = []
  | some r => ∀ p, m r.b = some p → ∃ cs n, BlkOk ν m w p (.cells cs n) ∧ r.n ≤ (cs.drop r.o).length ∧ l = (cs.drop r.o).take r.n
def LOk (E : Env) (N : TC) (o : Oper) (f : FT → (Option RR → Bool) → Bool) (post : List FV → (FV → Bool) → Bool) : Prop :=
  ∀ T kk, f T kk = true → ∃ r, kk r = true ∧ ∀ l k, post l k = true → ∃ v, k v = true ∧ ∀ ν, E.c.has ν → ∀ m D a, TR ν m N D T a → (∀ t, Operand.tmp t ∈ o.op.operands.toList → D t) →
    ∀ w, RowIn ν m w r l → (∀ q, r = some q → l.length = q.n) → ∃ u, (execOp a.eval o).run E.P w = .ok (.value u) w ∧ VR ν m v u
def MOk (E : Env) (N : TC) (o : Oper) (c : Cx) (mo ko : Opd) (z : FV) : Prop :=
  ∀ T s k, mapK c mo ko z T s k = true → ∃ b es v, s.h.get b = some (.mp es) ∧ k b v = true ∧ ∀ ν, E.c.has ν → ∀ m D a, TR ν m N D T a → (∀ t, Operand.tmp t ∈ o.op.operands.toList → D t) →
    ∀ w, (∀ p, m b = some p → BlkOk ν m w p (.mp es)) → ∃ u, (execOp a.eval o).run E.P w = .ok (.value u) w ∧ VR ν m v u
def XOk (E : Env) (N : TC) (o : Oper) : XO → Prop
  | .q f => QOk E N o f
  | .l f post => LOk E N o f post
  | .m c mo ko z => MOk E N o c mo ko z
  | .w a => WOk E N o a

variable {E : Env} {N : TC} {o : Oper}

theorem row_at' {ν : Int} {m : Mp} {w : World} {p : Place} {cs : List FV} {nn o n : Nat} (h : BlkOk ν m w p (.cells cs nn)) (hn : n ≤ (cs.drop o).length) :
    ∃ us : List Value, VRs ν m ((cs.drop o).take n) us ∧ us.length = n ∧ (∀ x ∈ (cs.drop o).take n, single x = true) ∧ (∀ j v, us[j]? = some v → w.cell? ((⟨p.blk, p.off + o, none⟩ : Addr).add j) = some v) := by
  rcases Nat.eq_zero_or_pos n with e | e
  · subst e; exact ⟨[], by simp; rfl, rfl, by simp, by simp⟩
  · exact row_at h (by rw [List.length_drop] at hn; omega) hn
theorem w_bad : WOk E N o (fun _ _ _ _ => false) := fun _ _ _ _ _ h => nomatch h

theorem run_storeCells_blk (P : Program) (b o : Nat) : ∀ (vs : List Value) (i : Nat) (w : World) (c : Array Value) (e : TypeId) (fr : Nat × Nat), w.heap[b]? = some (.cells c e fr) → o + i + vs.length ≤ c.size → (∀ v ∈ vs, v.oneCell' = true) →
    (∀ j, j < vs.length → ¬ (fr.1 ≤ o + i + j ∧ o + i + j < fr.2)) →
    ∃ (w' : World) (c' : Array Value), (storeCells ⟨b, o, none⟩ vs i).run P w = .ok () w' ∧ w'.heap[b]? = some (.cells c' e fr) ∧ c'.size = c.size ∧ (∀ j, c'[j]? = if o + i ≤ j ∧ j < o + i + vs.length then vs[j - (o + i)]? else c[j]?) ∧
      (∀ x, x ≠ b → w'.heap[x]? = w.heap[x]?) ∧ w'.heap.size = w.heap.size ∧ w'.os = w.os ∧ w'.tape = w.tape ∧ w'.output = w.output
  | [], i, w, c, e, fr, hb, _, _, _ => ⟨w, c, rfl, hb, rfl, fun j => by rw [if_neg (by simp)], fun _ _ => rfl, rfl, rfl, rfl, rfl⟩
  | v :: vs, i, w, c, e, fr, hb, hl, h1, hf => by
    simp only [List.length_cons] at hl hf
    have hadd : (⟨b, o, none⟩ : Addr).add i = ⟨b, o + i, none⟩ := by unfold Addr.add; split <;> simp_all
    have hlt : o + i < c.size := by omega
    have hcell : w.cell? ⟨b, o + i, none⟩ = some c[o + i] := by simp [World.cell?, hb, hlt]
    have hfro : w.frozen? ⟨b, o + i, none⟩ = false := by
      have := hf 0 (by omega)
      simp only [World.frozen?, hb, Nat.add_zero] at this ⊢
      simpa using this
    have hst : (store ((⟨b, o, none⟩ : Addr).add i) v).run P w = .ok () (w.setCell ⟨b, o + i, none⟩ v) := by
      rw [hadd, run_store P w _ v _ (h1 v (by simp)), hcell]
      simp [hfro]
    have hb' : (w.setCell ⟨b, o + i, none⟩ v).heap[b]? = some (.cells (c.setIfInBounds (o + i) v) e fr) := by
      simp [World.setCell, Array.getElem?_modify, hb]
    obtain ⟨w', c', g1, g2, g3, g4, g5, g6, g7, g8, g9⟩ := run_storeCells_blk P b o vs (i + 1) (w.setCell ⟨b, o + i, none⟩ v) (c.setIfInBounds (o + i) v) e fr hb' (by simp; omega) (fun x hx => h1 x (by simp [hx])) (fun j hj => by
      have := hf (j + 1) (by omega)
      rwa [show o + i + (j + 1) = o + (i + 1) + j by omega] at this)
    refine ⟨w', c', ?_, g2, by simpa using g3, fun j => ?_, fun x hx => ?_, by simpa using g6, g7, g8, g9⟩
    · simp only [storeCells, Sem.run_bind, hst, Result.andThen_ok, g1]
    · rw [g4 j, List.length_cons]
      by_cases hj : o + i ≤ j ∧ j < o + i + (vs.length + 1)
      · rw [if_pos hj]
        by_cases hji : j = o + i
        · subst hji
          rw [if_neg (by omega)]
          simp [hlt]
        · rw [if_pos (by omega), show j - (o + i) = (j - (o + (i + 1))) + 1 by omega]
          simp
      · rw [if_neg hj, if_neg (by omega), Array.getElem?_setIfInBounds_ne (by omega)]
    · rw [g5 x hx]
      simp only [World.setCell, Array.getElem?_modify]
      rw [if_neg (by simpa using Ne.symm hx)]
/-- Cells of a block that stands are written. -/
theorem blk_store {ν : Int} {m : Mp} {w : World} {p : Place} {cs l : List FV} {nn o : Nat} {us : List Value} (P : Program) (h : BlkOk ν m w p (.cells cs nn)) (ho : o + l.length ≤ cs.length) (hu : VRs ν m l us) (hs : ∀ x ∈ l, single x = true) :
    ∃ w', (storeCells ⟨p.blk, p.off + o, none⟩ us).run P w = .ok () w' ∧ BlkOk ν m w' p (.cells (setL o cs l) nn) ∧
      (∀ x, x ≠ p.blk → w'.heap[x]? = w.heap[x]?) ∧ w'.heap.size = w.heap.size ∧ w'.os = w.os ∧ w'.tape = w.tape ∧ w'.output = w.output := by
  obtain ⟨h0, c, elem, fr, h1, h2, h3, h4, h5⟩ := h
  have hl := VRs_len hu
  obtain ⟨w', c', g1, g2, g3, g4, g5, g6, g7, g8, g9⟩ := run_storeCells_blk P p.blk (p.off + o) us 0 w c elem fr h1 (by omega) (fun v hv => by
      obtain ⟨i, hi, e⟩ := List.mem_iff_getElem.1 hv
      have hi' : i < l.length := by omega
      obtain ⟨u, e1, e2⟩ := VRs_get hu i l[i] (List.getElem?_eq_getElem hi')
      rw [List.getElem?_eq_getElem hi, e] at e1
      cases e1
      exact single_one (hs _ (List.getElem_mem hi')) e2) (fun j hj => by
      have := h5 (o + j) (by omega)
      rwa [show p.off + o + 0 + j = p.off + (o + j) by omega])
  refine ⟨w', g1, ⟨by rw [setL_length]; exact h0, c', elem, fr, g2, by omega, by rw [setL_length]; exact h3, ?_, h5⟩, g5, g6, g7, g8, g9⟩
  intro i x hx
  rw [setL_get] at hx
  rw [g4]
  by_cases hi : o ≤ i ∧ i < o + l.length ∧ i < cs.length
  · rw [if_pos hi] at hx
    obtain ⟨u, e1, e2⟩ := VRs_get hu _ x hx
    refine ⟨hs x (List.mem_of_getElem? hx), u, ?_, e2⟩
    rw [if_pos (by omega), show p.off + i - (p.off + o + 0) = i - o by omega]
    exact e1
  · rw [if_neg hi] at hx
    have hic : i < cs.length := (List.getElem?_eq_some_iff.1 hx).1
    rw [if_neg (by omega)]
    exact h4 i x hx
theorem w_store {t : TypeId} {x y : Operand} {n : Nat} {ag : Bool} (hE : EnvOk E) (ho : o.op = .store t x y) (hs : szag E.tt t = some (n, ag)) :
    WOk E N o (fun _ T s k => evK (copd N x) T fun v => v.asPtr fun b o => evK (copd N y) T fun v => v.cellsK fun l => ifK (Nat.beq (lenL l) n) (rdB s b fun cs m => ifK (Nat.ble (Nat.add o n) m) (k .undef (s.upd b (some (.cells (setL o cs l) m)))) false) false) := by
  intro call _ T s k h
  obtain ⟨v, h1, hv⟩ := ev_inv h
  obtain ⟨b, off, rfl, h2⟩ := asPtr_inv h1
  obtain ⟨y', h3, hy⟩ := ev_inv h2
  obtain ⟨l, h4, hl⟩ := cells_ok h3
  obtain ⟨h5, h6⟩ := ifK_left h4
  obtain ⟨cs, nn, h7, h8⟩ := rdB_inv h6
  obtain ⟨h9, h10⟩ := ifK_left h8
  refine ⟨_, _, h10, fun ν hν m D a base w0 w hT hD hR next Q K => ?_⟩
  have hn : l.length = n := by have := Nat.eq_of_beq_eq_true h5; rwa [lenL_eq] at this
  have hle : off + n ≤ nn := Nat.le_of_ble_eq_true h9
  obtain ⟨p, hp, hx⟩ := hv ν m D a hT (fun t e => hD t (by simp [ho, Op.operands, e]))
  obtain ⟨hvs, hsg⟩ := hl ν m _ (hy ν m D a hT (fun t e => hD t (by simp [ho, Op.operands, e])))
  have hB := hR.ok b _ p h7 hp
  have hnn : nn = cs.length := hB.1
  obtain ⟨w', g1, g2, g3, g4, g5, g6, g7⟩ := blk_store (o := off) E.P hB (by omega) hvs hsg
  obtain ⟨r1, r2⟩ := rel_upd hR b _ p (some (.cells (setL off cs l) nn)) h7 hp g3 g4 g5 g6 g7 (fun y e => by cases e; exact g2)
  have hvl := VRs_len hvs
  simp only [Array.length_toList] at hvl
  have hrun : (execOp a.eval o).run E.P w = .ok .skip w' := by
    simp only [execOp, ho, hx, Instr.storeAt, Instr.sureAddr, storeVar, Sem.run_bind, Sem.run_pure, Result.andThen_ok, (szag_ok hE hs).1]
    rw [if_neg (by omega)]
    simp only [g1, Result.andThen_ok]
  unfold Oper.wp
  rw [hrun]
  exact K m _ w' rfl r1 r2
end Go.Xc
end
section
/- Loads, texts of bytes. -/
namespace Go.Xc

variable {E : Env} {N : TC} {o : Oper}

theorem add0 (b o : Nat) : (⟨b, o, none⟩ : Addr).add 0 = ⟨b, o, none⟩ := by unfold Addr.add; split <;> simp_all
theorem l_load {t : TypeId} {x : Operand} {n : Nat} {ag : Bool} (hE : EnvOk E) (ho : o.op = .load t x) (hs : szag E.tt t = some (n, ag)) :
    LOk E N o (fun T k => evK (copd N x) T fun v => v.asPtr fun b o => k (some ⟨b, o, Bool.rec 1 n ag⟩)) (fun l k => Bool.rec (nthK 0 l k) (k (.agg l)) ag) := by
  intro T kk h
  obtain ⟨v, h1, hv⟩ := ev_inv h
  obtain ⟨b, off, rfl, h2⟩ := asPtr_inv h1
  refine ⟨_, h2, fun l k hk => ?_⟩
  obtain ⟨hsz, hag, _⟩ := szag_ok hE hs
  cases ag with
  | true =>
    refine ⟨_, hk, fun ν hν m D a hT hD w hrow _ => ?_⟩
    obtain ⟨p, hp, hx⟩ := hv ν m D a hT (fun t e => hD t (by simp [ho, Op.operands, e]))
    obtain ⟨cs, nn, hB, g2, rfl⟩ := hrow p hp
    obtain ⟨us, k1, k2, k3, k4⟩ := row_at' hB g2
    have hl := run_loadCells_list (P := E.P) w ⟨p.blk, p.off + off, none⟩ us k4
    rw [k2] at hl
    refine ⟨.agg us.toArray, ?_, us.toArray, rfl, by simpa using k1, k3⟩
    simp only [execOp, ho, hx, Instr.loadAt, Instr.sureAddr, loadVar, Sem.run_bind, Sem.run_pure, Result.andThen_ok, hag, if_true, hsz]
    rw [show (loadCells ⟨p.blk, p.off + off, none⟩ n).run E.P w = _ from hl]
    rfl
  | false =>
    obtain ⟨y, e, hk'⟩ := nthK_inv (show nthK 0 l k = true from hk)
    refine ⟨_, hk', fun ν hν m D a hT hD w hrow _ => ?_⟩
    obtain ⟨p, hp, hx⟩ := hv ν m D a hT (fun t e => hD t (by simp [ho, Op.operands, e]))
    obtain ⟨cs, nn, hB, g2, rfl⟩ := hrow p hp
    obtain ⟨us, k1, k2, k3, k4⟩ := row_at' hB g2
    obtain ⟨u, e1, e2⟩ := VRs_get k1 0 y e
    have hc := k4 0 u e1
    rw [add0] at hc
    refine ⟨u, ?_, e2⟩
    simp only [execOp, ho, hx, Instr.loadAt, Instr.sureAddr, loadVar, Sem.run_bind, Sem.run_pure, Result.andThen_ok, hag, Bool.false_eq_true, if_false, run_load, hc]
theorem srcR_inv {v : FV} {k : Option RR → Bool} (h : srcR v k = true) : (v = .nils ∧ k none = true) ∨ ∃ b o len, v = .slice b o len 1 ∧ k (some ⟨b, o, len⟩) = true := by
  cases v <;> first
    | exact nomatch (show false = true from h)
    | exact .inl ⟨rfl, h⟩
    | (obtain ⟨e, h'⟩ := ifK_left h
       have := Nat.eq_of_beq_eq_true e
       subst this
       exact .inr ⟨_, _, _, rfl, h'⟩)
theorem byteOk_ok {z : SI} (h : byteOk z = true) (ν : Int) : 0 ≤ z.ev ν ∧ z.ev ν < 256 := by
  cases z with
  | lit n =>
    cases n with
    | ofNat n => have h' : Nat.blt n 256 = true := h; simp only [Nat.blt_eq] at h'; show 0 ≤ (n : Int) ∧ (n : Int) < 256; omega
    | negSucc n => exact nomatch (show false = true from h)
  | lin a b => exact nomatch (show false = true from h)
  | dig a b i =>
    have := SI.bounds (c := ⟨ν, ν⟩) (ν := ν) ⟨Int.le_refl _, Int.le_refl _⟩ (.dig a b i)
    simp only [SI.least, SI.most] at this
    omega
theorem bytesL_inv : ∀ {l : List FV} {t : List SI}, convX.bytesL l = some t → l = t.map (.int .u8) ∧ ∀ ν, bytesIn ν t
  | [], t, h => by simp only [convX.bytesL, Option.some.injEq] at h; subst h; exact ⟨rfl, fun ν s hs => by simp at hs⟩
  | x :: l, t, h => by
    cases x <;> try exact nomatch (show none = some t from h)
    rename_i k z
    cases k <;> try exact nomatch (show none = some t from h)
    simp only [convX.bytesL] at h
    cases hb : byteOk z with
    | false => simp [hb] at h
    | true =>
      cases hl : convX.bytesL l with
      | none => simp [hl] at h
      | some t' =>
        simp only [hb, hl, cond_true, Option.some.injEq] at h; subst h
        obtain ⟨e1, e2⟩ := bytesL_inv hl
        exact ⟨by simp [e1], fun ν s hs => by rcases List.mem_cons.1 hs with rfl | hs; exact byteOk_ok hb ν; exact e2 ν s hs⟩
theorem VRs_ints {ν : Int} {m : Mp} : ∀ {t : List SI} {us : List Value}, VRs ν m (t.map (.int .u8)) us → us = (t.map fun z => z.ev ν).map (Value.int .u8)
  | [], us, h => by rw [show us = [] from h]; rfl
  | z :: t, us, h => by
    obtain ⟨u, us', rfl, h1, h2⟩ := h
    rw [VRs_ints h2, show u = _ from h1]
    rfl
theorem foldl_mkS (ν : Int) : ∀ (t : List SI) (r : ByteArray), (t.map fun z => z.ev ν).foldl (fun r n => r.push (UInt8.ofNat n.toNat)) r = ⟨r.data ++ (t.map (byteOfSI ν)).toArray⟩
  | [], r => by simp
  | z :: t, r => by
    simp only [List.map_cons, List.foldl_cons]
    rw [foldl_mkS ν t]
    simp [ByteArray.push, byteOfSI]
theorem l_bytes {sr d e : TypeId} {x : Operand} (hE : EnvOk E) (ho : o.op = .convert sr d x) (hs : und E.tt sr = some (.slice e)) (hd : und E.tt d = some .string) (he : isU8 E.tt e = true) :
    LOk E N o (fun T kk => evK (copd N x) T fun v => srcR v kk) (fun l kk => optK (convX.bytesL l) fun t => kk (.str t (lenL t))) := by
  intro T kk h
  obtain ⟨v, h1, hv⟩ := ev_inv h
  rcases srcR_inv h1 with ⟨rfl, h2⟩ | ⟨b, off, len, rfl, h2⟩
  · refine ⟨_, h2, fun l k hk => ?_⟩
    obtain ⟨t, ht, hk'⟩ := optK_inv hk
    refine ⟨_, hk', fun ν hν m D a hT hD w hrow _ => ?_⟩
    have hx : a.eval x = .slice none 0 0 := hv ν m D a hT (fun t e => hD t (by simp [ho, Op.operands, e]))
    have hl : l = [] := hrow
    subst hl
    have : t = [] := by simpa [convX.bytesL] using ht.symm
    subst this
    refine ⟨.string .empty, run_conv ho ?_, rfl, fun s hs => by simp at hs, rfl⟩
    rw [hx, run_convert_bytes_string w sr d e none 0 0 (und_ok hE hs) (isU8_ok hE he) (und_ok hE hd)]
    rfl
  · refine ⟨_, h2, fun l k hk => ?_⟩
    obtain ⟨t, ht, hk'⟩ := optK_inv hk
    obtain ⟨rfl, hbt⟩ := bytesL_inv ht
    refine ⟨_, hk', fun ν hν m D a hT hD w hrow hlen => ?_⟩
    have hln : t.length = len := by have := hlen _ rfl; simpa using this
    obtain ⟨p, cap, hp, hx, hc, h0, hlc⟩ := hv ν m D a hT (fun t e => hD t (by simp [ho, Op.operands, e]))
    obtain ⟨cs, nn, hB, g2, g3⟩ := hrow p hp
    obtain ⟨us, k1, k2, k3, k4⟩ := row_at' hB g2
    rw [← g3] at k1
    have hus := VRs_ints k1
    have hl := run_loadCells_list (P := E.P) w ⟨p.blk, p.off + off, none⟩ us k4
    rw [k2, hus] at hl
    refine ⟨.string (mkS ν t), run_conv ho ?_, rfl, hbt ν, lenL_eq t⟩
    rw [hx, run_convert_bytes_string w sr d e _ len cap (und_ok hE hs) (isU8_ok hE he) (und_ok hE hd), run_bytesToString w _ len cap (t.map fun z => z.ev ν) hl, foldl_mkS]
    simp [mkS]
end Go.Xc
end
section
/- Maps with texts for keys. -/
namespace Go.Xc

variable {E : Env} {N : TC} {o : Oper}

theorem mkS_eq {ν : Int} {x y : List SI} (hx : bytesIn ν x) (hy : bytesIn ν y) : (mkS ν x == mkS ν y) = decide (x.map (·.ev ν) = y.map (·.ev ν)) := by
  rw [← beq_bytes hx hy, show (mkS ν x == mkS ν y) = ((x.map (byteOfSI ν)).toArray == (y.map (byteOfSI ν)).toArray) from rfl]
  simp
theorem eqN_opt (c : Cx) (x y : SI) : ∃ q : Option Bool, ∀ k, eqN c x y k = optK q k := by
  cases x <;> cases y <;> first
    | exact ⟨some (ieq _ _), fun _ => rfl⟩
    | exact ⟨SI.eqS c _ _, fun _ => rfl⟩
theorem eqSL_opt (c : Cx) : ∀ (x y : List SI), ∃ q : Option Bool, ∀ k, eqSL c x y k = optK q k
  | [], [] => ⟨some true, fun _ => rfl⟩
  | [], _ :: _ => ⟨some false, fun _ => rfl⟩
  | _ :: _, [] => ⟨some false, fun _ => rfl⟩
  | a :: x, b :: y => by
    obtain ⟨q, hq⟩ := eqN_opt c a b
    obtain ⟨q', hq'⟩ := eqSL_opt c x y
    have h : ∀ k, eqSL c (a :: x) (b :: y) k = optK q (fun t => Bool.rec (k false) (eqSL c x y k) t) := fun k => hq _
    cases q with
    | none => exact ⟨none, fun k => h k⟩
    | some t =>
      cases t with
      | false => exact ⟨some false, fun k => h k⟩
      | true => exact ⟨q', fun k => (h k).trans (hq' k)⟩
theorem findK_opt (c : Cx) (a : List SI) : ∀ (es : List (FV × FV)), ∃ q : Option (Option FV), ∀ k, findK c a es k = optK q k
  | [] => ⟨some none, fun _ => rfl⟩
  | (x, y) :: es => by
    obtain ⟨q', hq'⟩ := findK_opt c a es
    cases x <;> try exact ⟨none, fun _ => rfl⟩
    rename_i l n
    obtain ⟨q, hq⟩ := eqSL_opt c a l
    have h : ∀ k, findK c a ((.str l n, y) :: es) k = optK q (fun t => Bool.rec (findK c a es k) (k (some y)) t) := fun k => hq _
    cases q with
    | none => exact ⟨none, fun k => h k⟩
    | some t =>
      cases t with
      | false => exact ⟨q', fun k => (h k).trans (hq' k)⟩
      | true => exact ⟨some (some y), fun k => h k⟩
def findA (a : List SI) (r : Option FV) (ν : Int) (m : Mp) (l : List MapEntry) : Prop :=
  ∀ i, ∃ q, Instr.findNow .string (.string (mkS ν a)) l i = some q ∧ match r with
    | none => q = none
    | some v => ∃ j u, q = some (j, u) ∧ VR ν m v u
theorem findK_ok {c : Cx} {a : List SI} : ∀ {es : List (FV × FV)} {k : Option FV → Bool}, findK c a es k = true →
    ∃ r, k r = true ∧ ∀ ν, c.has ν → ∀ m l, bytesIn ν a → MpR ν m es l → findA a r ν m l
  | [], k, h => ⟨none, h, fun ν _ m l _ hl i => ⟨none, by rw [show l = [] from hl]; rfl, rfl⟩⟩
  | (x, y) :: es, k, h => by
    obtain ⟨q, n, rfl, h1⟩ := asStr_inv (show x.asStr (fun q _ => eqSL c a q fun t => Bool.rec (findK c a es k) (k (some y)) t) = true from h)
    obtain ⟨t, h2, ht⟩ := eqSL_inv h1
    cases t with
    | true =>
      refine ⟨some y, h2, fun ν hν m l ha hl i => ?_⟩
      obtain ⟨e, es', rfl, g1, g2, g3⟩ := hl
      obtain ⟨g4, g5, _⟩ := g1
      have e1 := (ht ν hν).symm
      rw [← mkS_eq ha g5] at e1
      exact ⟨some (i, e.val), by simp only [Instr.findNow, g4, Instr.sameNow, e1], _, _, rfl, g2⟩
    | false =>
      obtain ⟨r, k1, k3⟩ := findK_ok (es := es) (k := k) h2
      refine ⟨r, k1, fun ν hν m l ha hl i => ?_⟩
      obtain ⟨e, es', rfl, g1, g2, g3⟩ := hl
      obtain ⟨g4, g5, _⟩ := g1
      have e1 := (ht ν hν).symm
      rw [← mkS_eq ha g5] at e1
      obtain ⟨q', f1, f2⟩ := k3 ν hν m es' ha g3 (i + 1)
      exact ⟨q', by simp only [Instr.findNow, g4, Instr.sameNow, e1]; exact f1, f2⟩
theorem zeroV_ok (hE : EnvOk E) {t : Nat} {z : FV} (h : zeroV E.tt t = some z) : ∃ i v, E.P.info? t = some i ∧ i.zero = some v ∧ ∀ ν m, VR ν m z v := by
  unfold zeroV at h
  cases hi : tyd E.tt t with
  | none => simp [hi] at h
  | some i =>
    simp only [hi] at h
    cases hz : i.zero with
    | none => simp [hz] at h
    | some v =>
      simp only [hz] at h
      exact ⟨i, v, hE.ty t i hi, hz, fun ν m => (fconst0_ok h ν m).1⟩
theorem m_lookup {t kt e : TypeId} {x y : Operand} {z : FV} (hE : EnvOk E) (ho : o.op = .lookup t x y false) (ht : und E.tt t = some (.map kt e)) (hk : und E.tt kt = some .string) (hz : zeroV E.tt e = some z) :
    MOk E N o E.c (copd N x) (copd N y) z := by
  intro T s k h
  obtain ⟨v, h1, hv⟩ := ev_inv h
  obtain ⟨b, rfl, h2⟩ := asMap_inv h1
  obtain ⟨u, h3, hu⟩ := ev_inv h2
  obtain ⟨l, n, rfl, h4⟩ := asStr_inv h3
  obtain ⟨bl, hb, h5⟩ := optK_inv h4
  obtain ⟨es, rfl, h6⟩ := asMp_inv h5
  obtain ⟨r, h7, hr⟩ := findK_ok h6
  have hE2 : ∃ v', k b v' = true ∧ v' = (match r with | none => z | some v => v) := by cases r <;> exact ⟨_, h7, rfl⟩
  obtain ⟨v', h8, hv'⟩ := hE2
  refine ⟨b, es, v', hb, h8, fun ν hν m D a hT hD w hB => ?_⟩
  · obtain ⟨p, hp, hx⟩ := hv ν m D a hT (fun t e => hD t (by simp [ho, Op.operands, e]))
    obtain ⟨hy, hby, _⟩ := hu ν m D a hT (fun t e => hD t (by simp [ho, Op.operands, e]))
    obtain ⟨hoff, ents, clock, g1, g2⟩ := hB p hp
    obtain ⟨q', g3, g4⟩ := hr ν hν m _ hby g2 0
    obtain ⟨i, zv, z1, z2, z3⟩ := zeroV_ok hE hz
    have hz1 := z3 ν m
    have hkt := und_ok hE hk
    have hc : ∀ em, (Instr.checkKey em 10000 kt (.string (mkS ν l))).run E.P w = .ok () w := fun em => MapKept.run_checkKey hkt (show MapKept.IsKey .string (.string (mkS ν l)) from trivial) em 9999
    have hf := MapKept.run_findKey (w := w) hkt g3
    cases r with
    | none =>
      subst hv'
      simp only at g4
      subst g4
      refine ⟨zv, ?_, hz1⟩
      simp only [execOp, ho, Instr.lookup, hx, hy, Sem.run_bind, run_underlying (und_ok hE ht), Result.andThen_ok, MapKept.run_getObj_map g1, Sem.run_pure, hc, hf, run_zero z1 z2]
      rfl
    | some v =>
      subst hv'
      obtain ⟨j, u', rfl, g5⟩ := g4
      refine ⟨u', ?_, g5⟩
      simp only [execOp, ho, Instr.lookup, hx, hy, Sem.run_bind, run_underlying (und_ok hE ht), Result.andThen_ok, MapKept.run_getObj_map g1, Sem.run_pure, hc, hf]
      rfl
theorem MpR_snoc {ν : Int} {m : Mp} {x y : FV} {e : MapEntry} (hx : VR ν m x e.key) (hy : VR ν m y e.val) : ∀ {es : List (FV × FV)} {l : List MapEntry}, MpR ν m es l → MpR ν m (es ++ [(x, y)]) (l ++ [e])
  | [], _, h => by rw [show _ = [] from h]; exact ⟨e, [], rfl, hx, hy, rfl⟩
  | (k, v) :: r, _, ⟨e', es', h1, h2, h3, h4⟩ => by subst h1; exact ⟨e', _, rfl, h2, h3, MpR_snoc hx hy h4⟩
theorem w_insert {t kt e : TypeId} {x y z : Operand} (hE : EnvOk E) (ho : o.op = .insert t x y z) (ht : und E.tt t = some (.map kt e)) (hk : und E.tt kt = some .string) :
    WOk E N o (fun _ T s k => evK (copd N x) T fun m => m.asMap fun b => evK (copd N y) T fun a => a.asStr fun a n => evK (copd N z) T fun v => optK (PT.get s.h b) fun bl => bl.asMp fun es => findK E.c a es fun r => Option.rec (k .undef (s.upd b (some (.mp (appL es [(.str a n, v)]))))) (fun _ => false) r) := by
  intro call _ T s k h
  obtain ⟨v, h1, hv⟩ := ev_inv h
  obtain ⟨b, rfl, h2⟩ := asMap_inv h1
  obtain ⟨u, h3, hu⟩ := ev_inv h2
  obtain ⟨l, n, rfl, h4⟩ := asStr_inv h3
  obtain ⟨q, hq1, hq⟩ := ev_inv h4
  obtain ⟨bl, hb, h5⟩ := optK_inv hq1
  obtain ⟨es, rfl, h6⟩ := asMp_inv h5
  obtain ⟨r, h7, hr⟩ := findK_ok h6
  cases r with
  | some _ => exact nomatch (show false = true from h7)
  | none =>
    refine ⟨_, _, h7, fun ν hν m D a base w0 w hT hD hR next Q K => ?_⟩
    obtain ⟨p, hp, hx⟩ := hv ν m D a hT (fun t e => hD t (by simp [ho, Op.operands, e]))
    have hy' := hu ν m D a hT (fun t e => hD t (by simp [ho, Op.operands, e]))
    have hy := hy'.1
    have hz := hq ν m D a hT (fun t e => hD t (by simp [ho, Op.operands, e]))
    obtain ⟨hoff, ents, clock, g1, g2⟩ := hR.ok b _ p hb hp
    obtain ⟨q', g3, g4⟩ := hr ν hν m _ hy'.2.1 g2 0
    have g4 : q' = none := g4
    subst g4
    have hkt := und_ok hE hk
    have hc := MapKept.run_checkKey (P := E.P) (w := w) hkt (show MapKept.IsKey .string (.string (mkS ν l)) from trivial) false 9999
    have hf := MapKept.run_findKey (w := w) hkt g3
    have hlt : p.blk < w.heap.size := by
      rcases Nat.lt_or_ge p.blk w.heap.size with g | g
      · exact g
      · rw [Array.getElem?_eq_none g] at g1; cases g1
    have hrun : (execOp a.eval o).run E.P w = .ok .skip { w with heap := w.heap.setIfInBounds p.blk (.map (ents.push { key := .string (mkS ν l), val := a.eval z, born := clock }) (clock + 1)) } := by
      simp only [execOp, ho, Instr.mapUpdate, hx, hy, Sem.run_bind, run_underlying (und_ok hE ht), Result.andThen_ok, MapKept.run_getObj_map g1, hc, hf, MapKept.run_setObj_map _ g1]
      rfl
    obtain ⟨r1, r2⟩ := rel_upd hR b _ p (some (.mp (appL es [(.str l n, q)]))) (w' := { w with heap := w.heap.setIfInBounds p.blk (.map (ents.push { key := .string (mkS ν l), val := a.eval z, born := clock }) (clock + 1)) }) hb hp
      (fun c hc => by simp [Array.getElem?_setIfInBounds_ne (Ne.symm hc)]) (by simp) rfl rfl rfl (fun y e => by
        cases e
        refine ⟨hoff, _, _, by simp [hlt]; exact ⟨rfl, rfl⟩, ?_⟩
        rw [appL_eq, Array.toList_push]
        exact MpR_snoc (hy ▸ hy') hz g2)
    unfold Oper.wp
    rw [hrun]
    exact K m _ _ rfl r1 r2
end Go.Xc
end
section
/- Ranging over texts. -/
namespace Go.Xc

variable {E : Env} {N : TC} {o : Oper}

theorem w_range {t : TypeId} {x : Operand} (hE : EnvOk E) (ho : o.op = .range t x) (ht : und E.tt t = some .string) :
    WOk E N o (fun _ T s k => evK (copd N x) T fun v => v.asStr fun l _ => newK s (.it l 0) fun b s' => k (.ptr b 0) s') := by
  intro call _ T s k h
  obtain ⟨v, h1, hv⟩ := ev_inv h
  obtain ⟨l, n, rfl, h2⟩ := asStr_inv h1
  refine ⟨_, _, h2, fun ν hν m D a base w0 w hT hD hR next Q K => ?_⟩
  obtain ⟨hx, hb, hn⟩ := hv ν m D a hT (fun t e => hD t (by simp [ho, Op.operands, e]))
  obtain ⟨m', g1, g2, g3⟩ := rel_new hR (.stringIter (mkS ν l) 0) (.it l 0) 0 (w' := w.alloc (.stringIter (mkS ν l) 0)) rfl rfl rfl rfl (fun m' _ => ⟨rfl, alloc_get w _, hb⟩)
  have hrun : (execOp a.eval o).run E.P w = .ok (.value (.pointer (some ⟨w.heap.size, 0, none⟩))) (w.alloc (.stringIter (mkS ν l) 0)) := by
    simp [execOp, ho, hx, Instr.range, run_underlying (und_ok hE ht)]
  unfold Oper.wp
  rw [hrun]
  exact K m' _ _ ⟨_, g1, rfl⟩ g2 g3
theorem decode_small {s : ByteArray} {i : Nat} (h : (s.get! i).toNat < 128) : Utf8.decode s i = ((s.get! i).toNat, 1) := by
  unfold Utf8.decode
  simp only [Nat.add_zero]
  rw [if_pos (by omega)]
theorem mkS_getB {ν : Int} {l : List SI} {i : Nat} {z : SI} (h : l[i]? = some z) : (mkS ν l).get! i = byteOfSI ν z := by
  obtain ⟨hi, e⟩ := List.getElem?_eq_some_iff.1 h
  show (mkS ν l).data[i]! = _
  rw [getElem!_pos _ _ (by simpa [mkS] using hi)]
  simp [mkS, e]
theorem runeK_inv {z : SI} {k : Bool} (h : cop.runeK z k = true) : k = true ∧ ∀ ν, 0 ≤ z.ev ν ∧ z.ev ν < 128 := by
  cases z with
  | lit n =>
    cases n with
    | ofNat n =>
      obtain ⟨g1, g2⟩ := ifK_left h
      simp only [Nat.blt_eq] at g1
      exact ⟨g2, fun ν => by show 0 ≤ (n : Int) ∧ (n : Int) < 128; omega⟩
    | negSucc n => exact nomatch (show false = true from h)
  | lin a b => exact nomatch (show false = true from h)
  | dig a b i =>
    refine ⟨h, fun ν => ?_⟩
    have := SI.bounds (c := ⟨ν, ν⟩) (ν := ν) ⟨Int.le_refl _, Int.le_refl _⟩ (.dig a b i)
    simp only [SI.least, SI.most] at this
    omega
theorem w_next {x : Operand} (ho : o.op = .next x true) :
    WOk E N o (fun _ T s k => evK (copd N x) T fun v => v.asPtr fun b o => ifK (Nat.beq o 0) (optK (PT.get s.h b) fun bl => bl.asIt fun l p => ifK (Nat.blt p (lenL l)) (nthK p l fun z => cop.runeK z (k (.tuple [.bool true, .int .i64 (.lit (.ofNat p)), .int .i32 z]) (s.upd b (some (.it l (Nat.succ p)))))) (k (.tuple [.bool false]) s)) false) := by
  intro call _ T s k h
  obtain ⟨v, h1, hv⟩ := ev_inv h
  obtain ⟨b, off, rfl, h2⟩ := asPtr_inv h1
  obtain ⟨h3, h4⟩ := ifK_left h2
  have h3 := Nat.eq_of_beq_eq_true h3
  subst h3
  obtain ⟨bl, hb, h5⟩ := optK_inv h4
  obtain ⟨l, p, rfl, h6⟩ := asIt_inv h5
  have key : ∀ ν m D a base w0 w, TR ν m N D T a → (∀ t, Operand.tmp t ∈ o.op.operands.toList → D t) → Rel ν base w0 m s w → ∃ q, m b = some q ∧ a.eval x = .pointer (some ⟨q.blk, 0, none⟩) ∧ w.heap[q.blk]? = some (.stringIter (mkS ν l) p) ∧ bytesIn ν l ∧ q.off = 0 := by
    intro ν m D a base w0 w hT hD hR
    obtain ⟨q, hq, hx⟩ := hv ν m D a hT (fun t e => hD t (by simp [ho, Op.operands, e]))
    obtain ⟨g1, g2, g3⟩ := hR.ok b _ q hb hq
    rw [g1] at hx
    exact ⟨q, hq, hx, g2, g3, g1⟩
  rcases ifK_inv h6 with ⟨h7, h8⟩ | ⟨h7, h8⟩
  · obtain ⟨z, hz, h9⟩ := nthK_inv h8
    obtain ⟨h10, hr⟩ := runeK_inv h9
    refine ⟨_, _, h10, fun ν hν m D a base w0 w hT hD hR next Q K => ?_⟩
    obtain ⟨q, hq, hx, hw, hby, hoff⟩ := key ν m D a base w0 w hT hD hR
    simp only [Nat.blt_eq, lenL_eq] at h7
    have hbz : (byteOfSI ν z).toNat < 128 := by
      have := byteOf_back (ν := ν) (z := z) ⟨(hr ν).1, by have := (hr ν).2; omega⟩
      have := (hr ν).2
      omega
    have hd := decode_small (s := mkS ν l) (i := p) (by rw [mkS_getB hz]; exact hbz)
    rw [mkS_getB hz] at hd
    have hlt : q.blk < w.heap.size := by
      rcases Nat.lt_or_ge q.blk w.heap.size with g | g
      · exact g
      · rw [Array.getElem?_eq_none g] at hw; cases hw
    have hrun : (execOp a.eval o).run E.P w = .ok (.value (.tuple #[.bool true, goInt p, .int .i32 ((byteOfSI ν z).toNat : Int)])) { w with heap := w.heap.setIfInBounds q.blk (.stringIter (mkS ν l) (p + 1)) } := by
      simp [execOp, ho, hx, Instr.next, getObj, setObj, Sem.run, hw, mkS_size, h7, hd]
    obtain ⟨r1, r2⟩ := rel_upd hR b _ q (some (.it l (p + 1))) (w' := { w with heap := w.heap.setIfInBounds q.blk (.stringIter (mkS ν l) (p + 1)) }) hb hq
      (fun c hc => by simp [Array.getElem?_setIfInBounds_ne (Ne.symm hc)]) (by simp) rfl rfl rfl (fun y e => by
        cases e
        exact ⟨hoff, by simp [hlt], hby⟩)
    unfold Oper.wp
    rw [hrun]
    refine K m _ _ ⟨_, rfl, ⟨_, _, rfl, rfl, _, _, rfl, rfl, _, _, rfl, ?_, rfl⟩⟩ r1 r2
    show Value.int .i32 ((byteOfSI ν z).toNat : Int) = Value.int .i32 (z.ev ν)
    rw [byteOf_back ⟨(hr ν).1, by have := (hr ν).2; omega⟩]
  · refine ⟨_, _, h8, fun ν hν m D a base w0 w hT hD hR next Q K => ?_⟩
    obtain ⟨q, hq, hx, hw, hby, hoff⟩ := key ν m D a base w0 w hT hD hR
    have h7' : ¬ p < l.length := by
      intro hlt
      rw [lenL_eq] at h7
      have : Nat.blt p l.length = true := by simpa using hlt
      rw [this] at h7; cases h7
    have hrun : (execOp a.eval o).run E.P w = .ok (.value (.tuple #[.bool false])) w := by
      simp [execOp, ho, hx, Instr.next, getObj, setObj, Sem.run, hw, mkS_size, h7']
    unfold Oper.wp
    rw [hrun]
    exact K m _ _ ⟨_, rfl, ⟨_, _, rfl, rfl, rfl⟩⟩ hR (After.refl m s w w rfl rfl rfl rfl hR.hd)
end Go.Xc
end
section
/- What append, copy and clear do. -/
namespace Go.Xc

variable {E : Env} {N : TC} {o : Oper}

theorem rel_heap {ν : Int} {base : Nat} {w0 : World} {m : Mp} {s : FS} {w w' : World} (h : Rel ν base w0 m s w) (hh : w'.heap = w.heap) : Rel ν base w0 m s w' :=
  ⟨h.pre, fun c hc => by rw [hh]; exact h.same c hc, by rw [hh]; exact h.big, h.dom, h.hd, fun b blk p e ep => BlkOk_mono (Ext.refl m) (by rw [hh]) (h.ok b blk p e ep), h.lo, h.inj⟩
theorem cell_heap {w w' : World} (h : w'.heap = w.heap) (a : Addr) : w'.cell? a = w.cell? a := by unfold World.cell?; rw [h]
theorem rel_single {ν : Int} {base : Nat} {w0 : World} {m : Mp} {s : FS} {w : World} {b : Pos} {p : Place} {cs : List FV} {n : Nat} (h : Rel ν base w0 m s w) (hb : s.h.get b = some (.cells cs n)) (hp : m b = some p) : ∀ x ∈ cs, single x = true := by
  intro x hx
  obtain ⟨i, hi, e⟩ := List.mem_iff_getElem.1 hx
  obtain ⟨_, c, elem, fr, h1, h2, h3, h4, h5⟩ := h.ok b _ p hb hp
  exact (h4 i x (by rw [List.getElem?_eq_getElem hi, e])).1
theorem srcK_ok {s : FS} {es : Nat} {v : FV} {k : List FV → Nat → Bool} (h : srcK s es v k = true) :
    ∃ new n, k new n = true ∧ ∀ (P : Program) ν m base w0 w u, VR ν m v u → Rel ν base w0 m s w → new.length = n * es ∧ (∀ x ∈ new, single x = true) ∧
      ∃ us : List Value, VRs ν m new us ∧ ∀ w', w'.heap = w.heap → (Builtin.lenOf u).run P w' = .ok n w' ∧ ∀ n', n' ≤ n → (Builtin.firstCells es n' u).run P w' = .ok (us.take (n' * es)).toArray w' := by
  cases v <;> try exact nomatch (show false = true from h)
  case str l n =>
    obtain ⟨h1, h2⟩ := ifK_left h
    have h1 := Nat.eq_of_beq_eq_true h1
    subst h1
    refine ⟨_, _, h2, fun P ν m base w0 w u hu hR => ?_⟩
    obtain ⟨rfl, hb, hn⟩ := hu
    refine ⟨by simp [hn], fun x hx => by simp only [List.mem_map] at hx; obtain ⟨z, _, rfl⟩ := hx; rfl, _, VRs_bytes hb, fun w' _ => ⟨by simp [Builtin.lenOf, mkS_size, hn], fun n' hn' => ?_⟩⟩
    simp only [Builtin.firstCells, Sem.run_pure, Nat.mul_one]
    congr 1
    apply Array.ext'
    simp [mkS]
    rfl
  case nils =>
    refine ⟨_, _, h, fun P ν m base w0 w u hu hR => ?_⟩
    have : u = .slice none 0 0 := hu
    subst this
    exact ⟨by simp, by simp, [], rfl, fun w' _ => ⟨rfl, fun n' hn' => by simp [Builtin.firstCells]⟩⟩
  case sl0 =>
    refine ⟨_, _, h, fun P ν m base w0 w u hu hR => ?_⟩
    obtain ⟨ad, c, rfl⟩ := hu
    refine ⟨by simp, by simp, [], rfl, fun w' _ => ⟨rfl, fun n' hn' => ?_⟩⟩
    have : n' = 0 := by omega
    subst this
    cases ad with
    | none => simp [Builtin.firstCells]
    | some ad =>
      have := run_loadCells_list (P := P) w' ad [] (by simp)
      simpa [Builtin.firstCells] using this
  case slice b off len es' =>
    obtain ⟨h1, h2⟩ := ifK_left h
    have h1 := Nat.eq_of_beq_eq_true h1
    subst h1
    obtain ⟨cs, nn, hb, h3⟩ := rdB_inv h2
    obtain ⟨h4, h5⟩ := dropK_inv h3
    obtain ⟨h6, h7⟩ := takeK_inv h5
    have h6' : len * es ≤ (cs.drop off).length := h6
    refine ⟨_, _, h7, fun P ν m base w0 w u hu hR => ?_⟩
    obtain ⟨p, cap, hp, rfl, hc, h0, hlc⟩ := hu
    refine ⟨by simp only [List.length_take]; show min (len * es) _ = _; omega, fun x hx => rel_single hR hb hp x (List.mem_of_mem_drop (List.mem_of_mem_take hx)), ?_⟩
    obtain ⟨us, k1, k2, k3, k4⟩ := row_at (hR.ok b _ p hb hp) h4 h6'
    refine ⟨us, k1, fun w' hw' => ⟨rfl, fun n' hn' => ?_⟩⟩
    have hle : n' * es ≤ us.length := by rw [k2]; exact Nat.mul_le_mul_right _ hn'
    have hl := run_loadCells_list (P := P) w' ⟨p.blk, p.off + off, none⟩ (us.take (n' * es)) (fun j v hj => by
      rw [cell_heap hw']
      rw [List.getElem?_take] at hj
      split at hj
      · exact k4 j v hj
      · cases hj)
    rw [List.length_take, Nat.min_eq_left hle] at hl
    exact hl
def isIntD : TypeDesc → Bool
  | .int _ => true
  | _ => false
theorem exec_append {P : Program} {w w' : World} {c : Call} {x y : Operand} {t t' : TypeId} {a : Go.Act} {u : Value} (ho : o.op = .call c) (hc : c.callee = .builtin .append) (ha : c.args = #[x, y]) (hat : c.argTypes = #[t, t'])
    (h : (Builtin.append_ #[t, t'] o.type #[a.eval x, a.eval y]).run P w = .ok u w') : (execOp a.eval o).run P w = .ok (.value u) w' := by
  simp [execOp, ho, resolve, hc, ha, hat, invoke, builtin, h]
/-- The three ways of append: nothing is put, there is room, there is none. -/
theorem run_append {P : Program} {w : World} {t t' ty e : TypeId} {i : TypeInfo} {z : Value} {d : TypeDesc} (ht : P.underlying t = some (.slice e)) (ht' : P.underlying t' = some d) (hd : isIntD d = false) (hi : P.info? e = some i) (hz : i.zero = some z)
    {base : Option Addr} {len cap n : Nat} {src : Value} (hn : ∀ w', w'.heap = w.heap → (Builtin.lenOf src).run P w' = .ok n w') {news : List Value} (hs : ∀ w', w'.heap = w.heap → (Builtin.firstCells i.size n src).run P w' = .ok news.toArray w') :
    (len + n ≤ cap → ∀ w', (match base with | some a => (storeCells (a.add (len * i.size)) news).run P w = .ok () w' | none => w' = w) → (Builtin.append_ #[t, t'] ty #[.slice base len cap, src]).run P w = .ok (.slice base (len + n) cap) w') ∧
    (cap < len + n → len + n ≤ 100000 → i.bytes ≤ 10000 → ∀ olds : List Value, (∀ w', w'.heap = w.heap → (Builtin.firstCells i.size len (.slice base len cap)).run P w' = .ok olds.toArray w') →
      (Builtin.append_ #[t, t'] ty #[.slice base len cap, src]).run P w = .ok (.slice (some ⟨w.heap.size, 0, none⟩) (len + n) (grownCap w (len + n) cap e))
        (w.drew.alloc (.cells (olds.toArray ++ news.toArray ++ Builtin.zeroCells z.cells (grownCap w (len + n) cap e - (len + n))) e))) := by
  have hsz : ∀ w, (sizeOf e).run P w = .ok i.size w := fun w => by rw [run_sizeOf w hi]; simp [Program.cellsOf, hi]
  have hti : ∀ w, (typeInfo e).run P w = .ok i w := fun w => run_typeInfo w hi
  have hn0 := hn w rfl
  constructor
  · intro hle w' hw'
    cases d <;> first | (simp [isIntD] at hd; done) | skip
    all_goals simp only [Builtin.append_, List.getElem?_toArray, List.getElem?_cons_zero, List.getElem?_cons_succ, Sem.run_bind, run_underlying ht, run_underlying ht', Result.andThen_ok, hsz, Sem.run_pure, Bool.false_eq_true, if_false, hn0, if_pos hle, Bool.not_false, if_true, hs w rfl]
    all_goals cases base with
      | none => simp only at hw'; subst hw'; rfl
      | some a => simp only at hw'; simp only [Sem.run_bind, hw', Result.andThen_ok, Sem.run_pure]
  · intro hlt h1 h2 olds ho
    have h63 : ¬ (((len + n : Nat) : Int) > IntKind.i64.max ∧ (False ∨ i.bytes = 0)) := by
      intro hh; have := hh.1; simp [IntKind.max, IntKind.bits, IntKind.signed] at this; omega
    have h48 : ¬ (Builtin.nextslicecap (len + n) cap * i.bytes > 2 ^ 48) := by
      have a1 := nextslicecap_le hlt
      have a2 : Builtin.nextslicecap (len + n) cap * i.bytes ≤ (2 * (len + n)) * 10000 := Nat.mul_le_mul a1 h2
      omega
    cases d <;> first | (simp [isIntD] at hd; done) | skip
    all_goals simp only [Builtin.append_, List.getElem?_toArray, List.getElem?_cons_zero, List.getElem?_cons_succ, Sem.run_bind, run_underlying ht, run_underlying ht', Result.andThen_ok, hsz, Sem.run_pure, Bool.false_eq_true, if_false, hn0, if_neg (Nat.not_le.2 hlt), Bool.not_false, if_true, hti, if_neg h63, if_neg h48, run_choose, Question.forced, World.drew_eq, run_askRoom, ho w.drew rfl, hs w.drew rfl, run_zero hi hz]
    all_goals rfl
end Go.Xc
end
section
/- append. -/
namespace Go.Xc

variable {E : Env} {N : TC} {o : Oper}

theorem zeroCells_size (z : Array Value) (n : Nat) : (Builtin.zeroCells z n).size = n * z.size := by simp [Builtin.zeroCells]
theorem apK_ok {P : Program} {t t' ty e : TypeId} {i : TypeInfo} {z : Value} {d : TypeDesc} (ht : P.underlying t = some (.slice e)) (ht' : P.underlying t' = some d) (hd : isIntD d = false) (hi : P.info? e = some i) (hz : i.zero = some z) (hzs : z.cells.size = i.size)
    (h0 : 0 < i.size) (hby : i.bytes ≤ 10000) {s : FS} {v : FV} {new : List FV} {n : Nat} {k : K} (h : apK i.size s v new n k = true) :
    ∃ v' s', k v' s' = true ∧ ∀ ν m base w0 w u src, VR ν m v u → Rel ν base w0 m s w → new.length = n * i.size → (∀ x ∈ new, single x = true) →
      (∀ w', w'.heap = w.heap → (Builtin.lenOf src).run P w' = .ok n w') → (∃ news : List Value, VRs ν m new news ∧ ∀ w', w'.heap = w.heap → (Builtin.firstCells i.size n src).run P w' = .ok news.toArray w') →
      ∃ r w' m', (Builtin.append_ #[t, t'] ty #[u, src]).run P w = .ok r w' ∧ VR ν m' v' r ∧ Rel ν base w0 m' s' w' ∧ After m s w m' s' w' := by
  rcases ifK_inv h with ⟨hn, h1⟩ | ⟨hn, h1⟩
  · have hn := Nat.eq_of_beq_eq_true hn
    subst hn
    have nil : ∀ {ν m} {news : List Value}, new.length = 0 * i.size → VRs ν m new news → news = [] := fun hl hv => by
      have := VRs_len hv
      exact List.eq_nil_of_length_eq_zero (by omega)
    cases v <;> try exact nomatch (show false = true from h1)
    case nils =>
      refine ⟨_, _, h1, fun ν m base w0 w u src hu hR hl hs hln hfc => ?_⟩
      obtain ⟨news, hv, hf⟩ := hfc
      have hu : u = .slice none 0 0 := hu
      subst hu
      exact ⟨_, w, m, (run_append ht ht' hd hi hz hln hf).1 (Nat.le_refl _) w rfl, rfl, hR, After.refl m s w w rfl rfl rfl rfl hR.hd⟩
    case slice b off len es' =>
      refine ⟨_, _, h1, fun ν m base w0 w u src hu hR hl hs hln hfc => ?_⟩
      obtain ⟨news, hv, hf⟩ := hfc
      have := nil hl hv
      subst this
      have hu' := hu
      obtain ⟨p, cap, hp, rfl, hc, hes, hlc⟩ := hu
      exact ⟨_, w, m, (run_append ht ht' hd hi hz hln hf).1 (by omega) w rfl, hu', hR, After.refl m s w w rfl rfl rfl rfl hR.hd⟩
    case sl0 =>
      refine ⟨_, _, h1, fun ν m base w0 w u src hu hR hl hs hln hfc => ?_⟩
      obtain ⟨news, hv, hf⟩ := hfc
      have := nil hl hv
      subst this
      obtain ⟨ad, c, rfl⟩ := hu
      exact ⟨_, w, m, (run_append ht ht' hd hi hz hln hf).1 (by omega) w (by cases ad <;> rfl), ⟨ad, c, rfl⟩, hR, After.refl m s w w rfl rfl rfl rfl hR.hd⟩
  · have hn0 : 0 < n := by
      rcases Nat.eq_zero_or_pos n with e | e
      · subst e; exact nomatch hn
      · exact e
    cases v <;> try exact nomatch (show false = true from h1)
    case nils =>
      obtain ⟨h2, h3⟩ := ifK_left h1
      have h2 := Nat.le_of_ble_eq_true h2
      refine ⟨_, _, h3, fun ν m base w0 w u src hu hR hl hs hln hfc => ?_⟩
      obtain ⟨news, hv, hf⟩ := hfc
      have hu : u = .slice none 0 0 := hu
      subst hu
      have hvl := VRs_len hv
      have hg : n ≤ grownCap w (0 + n) 0 e := by unfold grownCap Question.cut; simp only; omega
      have hrun := (run_append (P := P) (w := w) (ty := ty) ht ht' hd hi hz (base := none) (len := 0) (cap := 0) hln hf).2 (by omega) (by omega) hby [] (fun w' _ => by simp [Builtin.firstCells])
      have hsz : ((#[] : Array Value) ++ news.toArray ++ Builtin.zeroCells z.cells (grownCap w (0 + n) 0 e - (0 + n))).size = grownCap w (0 + n) 0 e * i.size := by
        simp only [Array.size_append, zeroCells_size, List.size_toArray, List.length_nil, hzs, ← hvl, hl]
        rw [Nat.zero_add, ← Nat.add_mul, Nat.zero_add] at *
        congr 1; omega
      obtain ⟨m', g1, g2, g3⟩ := rel_new hR (.cells (([] : List Value).toArray ++ news.toArray ++ Builtin.zeroCells z.cells (grownCap w (0 + n) 0 e - (0 + n))) e) (.cells new (n * i.size)) (grownCap w (0 + n) 0 e * i.size) (w' := w.drew.alloc _) rfl rfl rfl rfl (fun m' hm => by
        rw [← hsz]
        refine blk_new (e := e) (fr := (0, 0)) (alloc_get w.drew _) (fun j x hx => ?_) hs ?_ hl.symm (.inr rfl)
        · obtain ⟨q, q1, q2⟩ := VRs_get (VRs_mono hm _ _ hv) j x hx
          exact ⟨q, by rw [Array.getElem?_append_left (by
            have := (List.getElem?_eq_some_iff.1 q1).1
            simpa using this)]; simpa using q1, q2⟩
        · rw [hsz, hl]; exact Nat.mul_le_mul_right _ hg)
      refine ⟨_, _, m', hrun, ⟨_, grownCap w (0 + n) 0 e, g1, by simp, by simp, h0, hg⟩, g2, g3⟩
    case slice b off len es' =>
      obtain ⟨h2, h3⟩ := ifK_left h1
      have h2 := Nat.eq_of_beq_eq_true h2
      subst h2
      obtain ⟨cs, nn, hb, h4⟩ := rdB_inv h3
      rcases ifK_inv h4 with ⟨h5, h6⟩ | ⟨h5, h6⟩
      · -- among the cells that are known
        have h5 : off + (len + n) * i.size ≤ nn := Nat.le_of_ble_eq_true h5
        rw [Nat.add_mul] at h5
        refine ⟨_, _, h6, fun ν m base w0 w u src hu hR hl hs hln hfc => ?_⟩
        obtain ⟨news, hv, hf⟩ := hfc
        obtain ⟨p, cap, hp, rfl, hc, hes, hlc⟩ := hu
        have hB := hR.ok b _ p hb hp
        have hnn : nn = cs.length := hB.1
        have hpl : cs.length ≤ p.len := by obtain ⟨_, c, elem, fr, _, _, h3, _⟩ := hB; exact h3
        have hle : len + n ≤ cap := by
          have : (len + n) * i.size ≤ cap * i.size := by rw [Nat.add_mul]; omega
          exact Nat.le_of_mul_le_mul_right this h0
        obtain ⟨w', g1, g2, g3, g4, g5, g6, g7⟩ := blk_store (o := off + len * i.size) P hB (by omega) hv hs
        obtain ⟨r1, r2⟩ := rel_upd hR b _ p (some (.cells (setL (off + len * i.size) cs new) nn)) hb hp g3 g4 g5 g6 g7 (fun y e => by cases e; exact g2)
        have hadd : (⟨p.blk, p.off + off, none⟩ : Addr).add (len * i.size) = ⟨p.blk, p.off + (off + len * i.size), none⟩ := by
          unfold Addr.add; split
          · rename_i h; simp [h]
          · simp [Nat.add_assoc]
        have hrun := (run_append (P := P) (w := w) (ty := ty) ht ht' hd hi hz (base := some ⟨p.blk, p.off + off, none⟩) (len := len) (cap := cap) hln hf).1 hle w' (by simp only; rw [hadd]; exact g1)
        exact ⟨_, w', m, hrun, ⟨p, cap, hp, rfl, hc, h0, hle⟩, r1, r2⟩
      · obtain ⟨h7, h8⟩ := ifK_left h6
        have h7 : len + n ≤ 100000 := Nat.le_of_ble_eq_true h7
        obtain ⟨h9, h10⟩ := dropK_inv h8
        obtain ⟨h11, h12⟩ := takeK_inv h10
        have h11 : len * i.size ≤ (cs.drop off).length := h11
        refine ⟨_, _, h12, fun ν m base w0 w u src hu hR hl hs hln hfc => ?_⟩
        obtain ⟨news, hv, hf⟩ := hfc
        obtain ⟨p, cap, hp, rfl, hc, hes, hlc⟩ := hu
        have hB := hR.ok b _ p hb hp
        have hcs := rel_single hR hb hp
        have hvl := VRs_len hv
        obtain ⟨olds, k1, k2, k3, k4⟩ := row_at hB h9 h11
        have hold : (appL ((cs.drop off).take (len * i.size)) new).length = (len + n) * i.size := by
          rw [appL_eq, List.length_append, VRs_len k1, k2, hl, Nat.add_mul]
        have hsing : ∀ x ∈ appL ((cs.drop off).take (len * i.size)) new, single x = true := by
          intro x hx
          rw [appL_eq] at hx
          rcases List.mem_append.1 hx with hx | hx
          · exact k3 x hx
          · exact hs x hx
        by_cases hle : len + n ≤ cap
        · -- there is room
          obtain ⟨hB0, c, elem, fr, b1, b2, b3, b4, b5⟩ := hB
          have hle' : len * i.size + n * i.size ≤ cap * i.size := by rw [← Nat.add_mul]; exact Nat.mul_le_mul_right _ hle
          obtain ⟨w', c', g1, g2, g3, g4, g5, g6, g7, g8, g9⟩ := run_storeCells_blk P p.blk (p.off + (off + len * i.size)) news 0 w c elem fr b1 (by omega) (fun v hv' => by
              obtain ⟨j, hj, e⟩ := List.mem_iff_getElem.1 hv'
              have hj' : j < new.length := by omega
              obtain ⟨q, e1, e2⟩ := VRs_get hv j new[j] (List.getElem?_eq_getElem hj')
              rw [List.getElem?_eq_getElem hj, e] at e1
              cases e1
              exact single_one (hs _ (List.getElem_mem hj')) e2) (fun j hj => by
              have := b5 (off + len * i.size + j) (by omega)
              rwa [show p.off + (off + len * i.size) + 0 + j = p.off + (off + len * i.size + j) by omega])
          have hok : ∀ m', Ext m m' → BlkOk ν m' w' ⟨p.blk, p.off + off, p.len - off⟩ (.cells (appL ((cs.drop off).take (len * i.size)) new) ((len + n) * i.size)) := by
            intro m' hm
            refine ⟨hold.symm, c', elem, fr, g2, ?_, ?_, ?_, ?_⟩
            · simp only; omega
            · simp only; rw [hold, Nat.add_mul]; omega
            · intro j x hx
              refine ⟨hsing x (List.mem_of_getElem? hx), ?_⟩
              have hj := (List.getElem?_eq_some_iff.1 hx).1
              rw [hold, Nat.add_mul] at hj
              have hv2 := VRs_get (VRs_append (VRs_mono hm _ _ k1) (VRs_mono hm _ _ hv)) j x (by rw [← appL_eq]; exact hx)
              obtain ⟨q, q1, q2⟩ := hv2
              refine ⟨q, ?_, q2⟩
              simp only
              rw [g4]
              by_cases hjl : j < len * i.size
              · rw [if_neg (by omega)]
                rw [List.getElem?_append_left (by omega)] at q1
                have := k4 j q q1
                unfold World.cell? at this
                have hadd : (⟨p.blk, p.off + off, none⟩ : Addr).add j = ⟨p.blk, p.off + off + j, none⟩ := by
                  unfold Addr.add; split
                  · rename_i h; simp [h]
                  · rfl
                rw [hadd] at this
                simp only [b1] at this
                exact this
              · rw [if_pos (by omega)]
                rw [List.getElem?_append_right (by omega), k2] at q1
                rw [← q1]
                congr 1; omega
            · intro j hj
              simp only at hj ⊢
              have := b5 (off + j) (by omega)
              rwa [show p.off + off + j = p.off + (off + j) by omega]
          obtain ⟨m', r1, r2, r3⟩ := rel_move hR b _ p ⟨p.blk, p.off + off, p.len - off⟩ (.cells (appL ((cs.drop off).take (len * i.size)) new) ((len + n) * i.size)) hb hp rfl g5 g6 g7 g8 g9 hok
          have hadd : (⟨p.blk, p.off + off, none⟩ : Addr).add (len * i.size) = ⟨p.blk, p.off + (off + len * i.size), none⟩ := by
            unfold Addr.add; split
            · rename_i h; simp [h]
            · simp [Nat.add_assoc]
          have hrun := (run_append (P := P) (w := w) (ty := ty) ht ht' hd hi hz (base := some ⟨p.blk, p.off + off, none⟩) (len := len) (cap := cap) hln hf).1 hle w' (by simp only; rw [hadd]; exact g1)
          exact ⟨_, w', m', hrun, ⟨_, cap, r1, rfl, by simp only; omega, h0, hle⟩, r2, r3⟩
        · -- there is none
          have hlt : cap < len + n := by omega
          have hg : len + n ≤ grownCap w (len + n) cap e := by unfold grownCap Question.cut; simp only; omega
          have hfo : ∀ w', w'.heap = w.heap → (Builtin.firstCells i.size len (.slice (some ⟨p.blk, p.off + off, none⟩) len cap)).run P w' = .ok olds.toArray w' := fun w' hw' =>
            run_firstCells_some w' i.size len _ len cap olds k2 (fun j v hj => by rw [cell_heap hw']; exact k4 j v hj)
          have hrun := (run_append (P := P) (w := w) (ty := ty) ht ht' hd hi hz (base := some ⟨p.blk, p.off + off, none⟩) (len := len) (cap := cap) hln hf).2 hlt h7 hby olds hfo
          obtain ⟨r1, r2⟩ := rel_upd hR b _ p none (w' := w) hb hp (fun _ _ => rfl) rfl rfl rfl rfl (fun y e => by cases e)
          have hsz : (olds.toArray ++ news.toArray ++ Builtin.zeroCells z.cells (grownCap w (len + n) cap e - (len + n))).size = grownCap w (len + n) cap e * i.size := by
            simp only [Array.size_append, zeroCells_size, List.size_toArray, hzs, ← hvl, hl, k2]
            rw [← Nat.add_mul, ← Nat.add_mul]
            congr 1; omega
          obtain ⟨m', g1, g2, g3⟩ := rel_new r1 (.cells (olds.toArray ++ news.toArray ++ Builtin.zeroCells z.cells (grownCap w (len + n) cap e - (len + n))) e) (.cells (appL ((cs.drop off).take (len * i.size)) new) ((len + n) * i.size)) (grownCap w (len + n) cap e * i.size) (w' := w.drew.alloc _) rfl rfl rfl rfl (fun m' hm => by
            rw [← hsz]
            refine blk_new (e := e) (fr := (0, 0)) (alloc_get w.drew _) (fun j x hx => ?_) hsing ?_ hold.symm (.inr rfl)
            · obtain ⟨q, q1, q2⟩ := VRs_get (VRs_append (VRs_mono hm _ _ k1) (VRs_mono hm _ _ hv)) j x (by rw [← appL_eq]; exact hx)
              have hj := (List.getElem?_eq_some_iff.1 q1).1
              exact ⟨q, by rw [Array.getElem?_append_left (by simpa using hj)]; rw [← q1]; simp, q2⟩
            · rw [hsz, hold]; exact Nat.mul_le_mul_right _ hg)
          exact ⟨_, _, m', hrun, ⟨_, grownCap w (len + n) cap e, g1, by simp, by simp, h0, hg⟩, g2, r2.trans g3⟩
theorem w_append {c : Call} {x y : Operand} {t t' e : TypeId} {i : TypeInfo} {z : List FV} {d : TypeDesc} (hE : EnvOk E) (ho : o.op = .call c) (hc : c.callee = .builtin .append) (ha : c.args = #[x, y]) (hat : c.argTypes = #[t, t'])
    (ht : elemT E.tt t = some e) (ht' : und E.tt t' = some d) (hd : isIntD d = false) (hi : tyd E.tt e = some i) (hz : zeroL E.tt e = some z) (h0 : Nat.blt 0 i.size = true) (hby : Nat.ble i.bytes 10000 = true) :
    WOk E N o (fun _ T s k => evK (copd N x) T fun v => evK (copd N y) T fun u => srcK s i.size u fun new n => apK i.size s v new n k) := by
  intro call _ T s k h
  obtain ⟨v, h1, hv⟩ := ev_inv h
  obtain ⟨u, h2, hu⟩ := ev_inv h1
  obtain ⟨new, n, h3, hs⟩ := srcK_ok h2
  obtain ⟨i', zv, g1, g2, g3, g4, g5, g6⟩ := zero_ok hE hz
  have : i' = i := by have := hE.ty e i hi; rw [g1] at this; exact Option.some.inj this
  subst this
  obtain ⟨v', s', h4, hap⟩ := apK_ok (P := E.P) (ty := o.type) (elemT_ok hE ht) (und_ok hE ht') hd g1 g2 g4 (by simpa using h0) (Nat.le_of_ble_eq_true hby) h3
  refine ⟨v', s', h4, fun ν hν m D a base w0 w hT hD hR next Q K => ?_⟩
  have hx := hv ν m D a hT (fun t e => hD t (by simp [ho, Op.operands, Call.operands, hc, ha, e]))
  have hy := hu ν m D a hT (fun t e => hD t (by simp [ho, Op.operands, Call.operands, hc, ha, e]))
  obtain ⟨l1, l2, us, l3, l4⟩ := hs E.P ν m base w0 w _ hy hR
  have hlen := VRs_len l3
  obtain ⟨r, w', m', r1, r2, r3, r4⟩ := hap ν m base w0 w (a.eval x) (a.eval y) hx hR l1 l2 (fun w' hw' => (l4 w' hw').1) ⟨us, l3, fun w' hw' => by
    have := (l4 w' hw').2 n (Nat.le_refl _)
    rwa [List.take_of_length_le (by omega)] at this⟩
  unfold Oper.wp
  rw [exec_append ho hc ha hat r1]
  exact K m' r w' r2 r3 r4
end Go.Xc
end
section
/- copy and clear. -/
namespace Go.Xc

variable {E : Env} {N : TC} {o : Oper}

theorem w_copy {c : Call} {x y : Operand} {t e es : Nat} {ts : List TypeId} {ag : Bool} (hE : EnvOk E) (ho : o.op = .call c) (hc : c.callee = .builtin .copy) (ha : c.args = #[x, y]) (hat : c.argTypes = (t :: ts).toArray)
    (ht : elemT E.tt t = some e) (hs : szag E.tt e = some (es, ag)) :
    WOk E N o (fun _ T s k => evK (copd N x) T fun v => evK (copd N y) T fun u => srcK s es u fun new n => v.asSlice fun b o len es' => ifK (Nat.beq es es') (rdB s b fun cs m => ifK (Nat.ble (Nat.add o (Nat.mul len es)) m) (k (.int .i64 (.lit (.ofNat (Nat.min n len)))) (s.upd b (some (.cells (setL o cs (new.take (Nat.mul (Nat.min n len) es))) m)))) false) false) := by
  intro call _ T s k h
  obtain ⟨v, h1, hv⟩ := ev_inv h
  obtain ⟨u, h2, hu⟩ := ev_inv h1
  obtain ⟨new, n, h3, hsr⟩ := srcK_ok h2
  obtain ⟨b, off, len, es', rfl, h4⟩ := asSlice_inv h3
  obtain ⟨h5, h6⟩ := ifK_left h4
  have h5 := Nat.eq_of_beq_eq_true h5
  subst h5
  obtain ⟨cs, nn, hb, h7⟩ := rdB_inv h6
  obtain ⟨h8, h9⟩ := ifK_left h7
  have h8 : off + len * es ≤ nn := Nat.le_of_ble_eq_true h8
  refine ⟨_, _, h9, fun ν hν m D a base w0 w hT hD hR next Q K => ?_⟩
  obtain ⟨p, cap, hp, hx, hcap, h0, hlc⟩ := hv ν m D a hT (fun t e => hD t (by simp [ho, Op.operands, Call.operands, hc, ha, e]))
  have hy := hu ν m D a hT (fun t e => hD t (by simp [ho, Op.operands, Call.operands, hc, ha, e]))
  obtain ⟨l1, l2, us, l3, l4⟩ := hsr E.P ν m base w0 w _ hy hR
  have hB := hR.ok b _ p hb hp
  have hnn : nn = cs.length := hB.1
  have hmn : Nat.min n len ≤ n := Nat.min_le_left _ _
  have hml : Nat.min n len ≤ len := Nat.min_le_right _ _
  have hmle : Nat.min n len * es ≤ len * es := Nat.mul_le_mul_right _ hml
  have htk : (new.take (Nat.mul (Nat.min n len) es)).length ≤ Nat.min n len * es := by rw [List.length_take]; exact Nat.min_le_left _ _
  obtain ⟨w', g1, g2, g3, g4, g5, g6, g7⟩ := blk_store (o := off) E.P hB (by omega) (VRs_take (Nat.mul (Nat.min n len) es) l3) (fun x hx => l2 x (List.mem_of_mem_take hx))
  obtain ⟨r1, r2⟩ := rel_upd hR b _ p (some (.cells (setL off cs (new.take (Nat.mul (Nat.min n len) es))) nn)) hb hp g3 g4 g5 g6 g7 (fun y e => by cases e; exact g2)
  have hrun : (execOp a.eval o).run E.P w = .ok (.value (goInt (Nat.min n len))) w' := by
    have hf := (l4 w rfl).2 (Nat.min n len) hmn
    simp only [execOp, ho, resolve, hc, ha, hat, invoke, builtin, Builtin.copy_, hx, List.map_toArray, List.map_cons, List.map_nil, List.getElem?_toArray, List.getElem?_cons_zero, List.getElem?_cons_succ, Sem.run_bind, run_underlying (elemT_ok hE ht), Result.andThen_ok, (l4 w rfl).1, (szag_ok hE hs).1, hf, Sem.run_pure]
    rw [show (storeCells ⟨p.blk, p.off + off, none⟩ (us.take (Nat.min n len * es)).toArray.toList).run E.P w = .ok () w' from g1]
    rfl
  unfold Oper.wp
  rw [hrun]
  exact K m _ w' rfl r1 r2
theorem w_clear {c : Call} {x : Operand} {t e es : Nat} {z : List FV} {ag : Bool} (hE : EnvOk E) (ho : o.op = .call c) (hc : c.callee = .builtin .clear) (ha : c.args = #[x]) (hat : c.argTypes = #[t])
    (ht : elemT E.tt t = some e) (hz : zeroL E.tt e = some z) (hs : szag E.tt e = some (es, ag)) :
    WOk E N o (fun _ T s k => evK (copd N x) T fun v => v.asSlice fun b o len es' => ifK (Nat.beq es es') (ifK (Nat.beq len 0) (k (.tuple []) s) (rdB s b fun cs m => ifK (Nat.ble (Nat.add o (Nat.mul len es)) m) (k (.tuple []) (s.upd b (some (.cells (setL o cs (callX.replL z len)) m)))) false)) false) := by
  intro call _ T s k h
  obtain ⟨v, h1, hv⟩ := ev_inv h
  obtain ⟨b, off, len, es', rfl, h4⟩ := asSlice_inv h1
  obtain ⟨h5, h6⟩ := ifK_left h4
  have h5 := Nat.eq_of_beq_eq_true h5
  subst h5
  obtain ⟨i, zv, z1, z2, z3, z4, z5, z6⟩ := zero_ok hE hz
  have he : i.size = es := by have := (szag_ok hE hs).2.2; rw [z1] at this; simpa using this
  rcases ifK_inv h6 with ⟨h7, h8⟩ | ⟨h7, h8⟩
  · have h7 := Nat.eq_of_beq_eq_true h7
    subst h7
    refine ⟨_, _, h8, fun ν hν m D a base w0 w hT hD hR next Q K => ?_⟩
    obtain ⟨p, cap, hp, hx, hcap, h0, hlc⟩ := hv ν m D a hT (fun t e => hD t (by simp [ho, Op.operands, Call.operands, hc, ha, e]))
    have hrun : (execOp a.eval o).run E.P w = .ok (.value (.tuple #[])) w := by
      simp only [execOp, ho, resolve, hc, ha, hat, invoke, builtin, Builtin.clear_, hx, List.map_toArray, List.map_cons, List.map_nil, List.getElem?_toArray, List.getElem?_cons_zero, Sem.run_bind, run_underlying (elemT_ok hE ht), Result.andThen_ok, Sem.run_pure]
    unfold Oper.wp
    rw [hrun]
    exact K m _ w ⟨_, rfl, rfl⟩ hR (After.refl m s w w rfl rfl rfl rfl hR.hd)
  · obtain ⟨cs, nn, hb, h9⟩ := rdB_inv h8
    obtain ⟨h10, h11⟩ := ifK_left h9
    have h10 : off + len * es ≤ nn := Nat.le_of_ble_eq_true h10
    refine ⟨_, _, h11, fun ν hν m D a base w0 w hT hD hR next Q K => ?_⟩
    obtain ⟨p, cap, hp, hx, hcap, h0, hlc⟩ := hv ν m D a hT (fun t e => hD t (by simp [ho, Op.operands, Call.operands, hc, ha, e]))
    have hB := hR.ok b _ p hb hp
    have hnn : nn = cs.length := hB.1
    have hzl : z.length = es := z3.trans he
    obtain ⟨w', g1, g2, g3, g4, g5, g6, g7⟩ := blk_store (o := off) E.P hB (by rw [replL_length, hzl]; omega) (VRs_zeros (n := len) (z5 ν m)) (fun x hx => z6 x (mem_replL _ hx))
    obtain ⟨r1, r2⟩ := rel_upd hR b _ p (some (.cells (setL off cs (callX.replL z len)) nn)) hb hp g3 g4 g5 g6 g7 (fun y e => by cases e; exact g2)
    have hzc : Builtin.zeroCells zv.cells len = (Array.range (len * z.length)).map (zv.cells[· % zv.cells.size]!) := by unfold Builtin.zeroCells; rw [z4, z3]
    have hl0 : ∃ n, len = n + 1 := by
      cases len with
      | zero => exact nomatch h7
      | succ n => exact ⟨n, rfl⟩
    obtain ⟨n, rfl⟩ := hl0
    have hrun : (execOp a.eval o).run E.P w = .ok (.value (.tuple #[])) w' := by
      simp only [execOp, ho, resolve, hc, ha, hat, invoke, builtin, Builtin.clear_, hx, List.map_toArray, List.map_cons, List.map_nil, List.getElem?_toArray, List.getElem?_cons_zero, Sem.run_bind, run_underlying (elemT_ok hE ht), Result.andThen_ok, Sem.run_pure, run_zero z1 z2, hzc, g1]
    unfold Oper.wp
    rw [hrun]
    exact K m _ w' ⟨_, rfl, rfl⟩ r1 r2
end Go.Xc
end
section
/- Calls, and each operation: what the executor makes of it is sound. -/
namespace Go.Xc

variable {E : Env} {N : TC} {o : Oper}

theorem calls_of_enters {f : Nat} {fn : Func} {c : Code} {args : List FV} {s s' : FS} {v : FV} (hE : EnvOk E) (hf : E.P.funcs[f]? = some fn) (hb : fn.body = some c) (h : EntersTo E f args s v s') : CallsTo E f args s v s' := by
  intro ν hν m base w0 w vs hvs hR o a next Q K
  have hrun : (callFunc f vs).run E.P w = .ok (.enter f vs) w := by

    simp [callFunc, hf, hb, hE.num f fn hf]
  rw [hrun, Oper.upon_enter]
  refine Calls.mono (h ν hν m base w0 w vs hvs hR) fun e w' he => ?_
  cases e with
  | returned u => obtain ⟨m', h1, h2, h3⟩ := he; exact K m' u w' h1 h2 h3
  | panicked c => exact he.elim
  | outgrown => exact he.elim
theorem w_callS {c : Call} {f : Nat} (ho : o.op = .call c) (hc : c.callee = .value (.func f)) :
    WOk E N o (fun call T s k => evKL (c.args.toList.map (copd N)) T fun l => call f l s k) := by
  intro call hcall T s k h
  obtain ⟨l, h1, hl⟩ := evL_inv h
  obtain ⟨v, s', h2, hT⟩ := hcall f l s k h1
  refine ⟨v, s', h2, fun ν hν m D a base w0 w hTR hD hR next Q K => ?_⟩
  have hv := hl ν m D a hTR (fun t e => hD t (by simp [ho, Op.operands, Call.operands, hc]; simpa using e))
  have hexec : execOp a.eval o = callFunc f (#[] ++ c.args.map a.eval ++ #[]) := by
    obtain ⟨dst, op, type, pos, after, guard⟩ := o
    simp only at ho
    subst ho
    simp only [execOp, resolve, hc]
    rfl
  unfold Oper.wp
  rw [hexec]
  refine hT ν hν m base w0 w _ (by simpa using hv) hR o a next Q K
theorem w_callV {c : Call} {x : Operand} (ho : o.op = .call c) (hc : c.callee = .value x) :
    WOk E N o (fun call T s k => evK (copd N x) T fun v => v.asFunc fun g p q => evKL (c.args.toList.map (copd N)) T fun l => call g (appL p (appL l q)) s k) := by
  intro call hcall T s k h
  obtain ⟨fv, h0, hf⟩ := ev_inv h
  obtain ⟨g, p, q, rfl, h00⟩ := asFunc_inv h0
  obtain ⟨l, h1, hl⟩ := evL_inv h00
  obtain ⟨v, s', h2, hT⟩ := hcall g _ s k h1
  refine ⟨v, s', h2, fun ν hν m D a base w0 w hTR hD hR next Q K => ?_⟩
  have hv := hl ν m D a hTR (fun t e => hD t (by simp [ho, Op.operands, Call.operands, hc]; exact .inr (by simpa using e)))
  obtain ⟨p', q', hx, hp, hq⟩ := hf ν m D a hTR (fun t e => hD t (by simp [ho, Op.operands, Call.operands, hc, e]))
  have hexec : execOp a.eval o = callFunc g (p' ++ c.args.map a.eval ++ q') := by
    obtain ⟨dst, op, type, pos, after, guard⟩ := o
    simp only at ho
    subst ho
    simp only [execOp, resolve, hc, hx]
    rfl
  unfold Oper.wp
  rw [hexec]
  refine hT ν hν m base w0 w _ ?_ hR o a next Q K
  rw [appL_eq, appL_eq, ← List.append_assoc]
  have := VRs_append (VRs_append hp (by simpa using hv : VRs ν m l (c.args.map a.eval).toList)) hq
  simpa using this
end Go.Xc
end
section
/- Each operation: what the executor makes of it is sound. -/
namespace Go.Xc

variable {E : Env} {N : TC} {o : Oper}

theorem x_bad : XOk E N o badX := w_bad
theorem bif_ok {b : Bool} {x : XO} (h : b = true → XOk E N o x) : XOk E N o (bif b then x else badX) := by
  cases b
  · exact x_bad
  · exact h rfl
theorem bin_ok (hE : EnvOk E) {op : BinOp} {t t' : TypeId} {x y : Operand} (ho : o.op = .binOp op t x y t') : XOk E N o (binX E.tt E.c E.okS op t (isK x || isK y) (copd N x) (copd N y)) := by
  unfold binX
  split
  · cases h : isSh op with
    | true => exact q_sh ho
    | false => exact q_binI ho
  · exact q_binS ho
  · rename_i ht; exact q_binB hE ho ht
  · rename_i ht; exact q_refP hE ho ht
  · rename_i ht; exact q_refS hE ho ht
  · rename_i ht; exact q_refM hE ho ht
  · rename_i ht; exact q_refF hE ho ht
  · rename_i ht; exact q_refI hE ho ht
  · rename_i fs ht
    split
    · rename_i ck hck
      refine bif_ok fun hb => ?_
      have : t ∈ E.okS := by
        obtain ⟨u, hu, he⟩ := List.any_eq_true.1 hb
        have := Nat.eq_of_beq_eq_true he
        subst this
        exact hu
      exact q_binSt hE ho ht hck this
    · exact x_bad
  · exact x_bad
theorem conv_ok (hE : EnvOk E) {s d : TypeId} {x : Operand} (ho : o.op = .convert s d x) : XOk E N o (convX E s d (copd N x)) := by
  unfold convX
  split
  · rename_i hs hd; exact q_convI hE ho hs hd
  · rename_i hs hd; exact q_convIS hE ho hs hd
  · rename_i hs hd; exact q_convSS hE ho hs hd
  · rename_i hs hd; exact bif_ok fun hb => q_convSB hE ho hs hd hb
  · rename_i hs hd; exact bif_ok fun hb => l_bytes hE ho hs hd hb
  · exact x_bad
theorem call_ok (hE : EnvOk E) {c : Call} (ho : o.op = .call c) : XOk E N o (callX E N c) := by
  unfold callX
  split
  · rename_i f hc; exact w_callS ho hc
  · rename_i x hx hc; exact w_callV ho hc
  · exact x_bad
  · rename_i b hc
    split
    · rename_i x t ha hat
      have ha' : c.args = #[x] := by rw [← Array.toList_inj]; simpa using ha
      have hat' : c.argTypes = #[t] := by rw [← Array.toList_inj]; simpa using hat
      split
      · rename_i ht; exact q_lenS hE ho hc ha' hat' ht
      · rename_i ht; exact q_len hE ho hc ha' hat' ht
      · rename_i ht; exact q_lenA hE ho hc ha' hat' ht
      · exact x_bad
    · rename_i x y t t' ha hat
      have ha' : c.args = #[x, y] := by rw [← Array.toList_inj]; simpa using ha
      have hat' : c.argTypes = #[t, t'] := by rw [← Array.toList_inj]; simpa using hat
      split
      · rename_i e d he hd
        split
        · rename_i i z hi hz
          refine bif_ok fun hb => ?_
          simp only [Bool.and_eq_true] at hb
          exact w_append hE ho hc ha' hat' he hd (by have := hb.2; cases d <;> first | rfl | exact nomatch this) hi hz hb.1.1 hb.1.2
        · exact x_bad
      · exact x_bad
    · rename_i x y ha
      have ha' : c.args = #[x, y] := by rw [← Array.toList_inj]; simpa using ha
      exact q_min ho hc ha'
    · rename_i x y ha
      have ha' : c.args = #[x, y] := by rw [← Array.toList_inj]; simpa using ha
      exact q_max ho hc ha'
    · rename_i x y t ts ha hat
      have ha' : c.args = #[x, y] := by rw [← Array.toList_inj]; simpa using ha
      have hat' : c.argTypes = (t :: ts).toArray := by rw [← Array.toList_inj]; simpa using hat
      split
      · rename_i e he
        split
        · rename_i es ag hs; exact w_copy hE ho hc ha' hat' he hs
        · exact x_bad
      · exact x_bad
    · rename_i x t ha hat
      have ha' : c.args = #[x] := by rw [← Array.toList_inj]; simpa using ha
      have hat' : c.argTypes = #[t] := by rw [← Array.toList_inj]; simpa using hat
      split
      · rename_i e he
        split
        · rename_i z es ag hz hs; exact w_clear hE ho hc ha' hat' he hz hs
        · exact x_bad
      · exact x_bad
    · exact x_bad
theorem cop_ok (hE : EnvOk E) (N : TC) (o : Oper) : XOk E N o (cop E N o.op) := by
  generalize ho : o.op = op
  unfold cop
  split
  · exact q_move ho
  · exact q_assign ho
  · exact q_pick ho
  · split
    · rename_i hz; exact q_alloc hE ho hz
    · exact x_bad
  · exact q_box ho
  · split
    · rename_i hz ht
      split
      · rename_i hps; refine bif_ok fun hb => ?_; simp only [Bool.and_eq_true] at hb; exact q_buildS hE ho hz ht hps hb.1 hb.2
      · exact x_bad
    · rename_i hz ht
      split
      · rename_i hs; exact bif_ok fun hb => q_buildA hE ho hz ht hs hb
      · exact x_bad
    · exact x_bad
  · split
    · rename_i he
      split
      · rename_i hz hs
        refine bif_ok fun hb => ?_
        simp only [Bool.and_eq_true] at hb
        exact q_buildSlice hE ho he hz hs hb.1.1 hb.1.2 hb.2
      · exact x_bad
    · exact x_bad
  · split
    · rename_i hs; exact l_load hE ho hs
    · exact x_bad
  · split
    · rename_i hs; exact w_store hE ho hs
    · exact x_bad
  · exact q_nilCheck ho
  · exact bin_ok hE ho
  · exact q_not ho
  · exact q_neg ho
  · exact conv_ok hE ho
  · split
    · exact x_bad
    · rename_i hd; exact q_iface hE ho hd (by intro ms e; subst e; simp_all)
    · exact x_bad
  · exact q_func ho
  · exact q_map ho
  · split
    · rename_i he
      split
      · rename_i hz hi
        refine bif_ok fun hb => ?_
        simp only [Bool.and_eq_true] at hb
        exact q_makeSlice hE ho he hz hi hb.1 hb.2
      · exact x_bad
    · exact x_bad
  · split
    · rename_i ht; exact q_sliceS hE ho ht
    · rename_i ht
      split
      · rename_i hs; exact q_slice hE ho ht hs
      · exact x_bad
    · exact x_bad
  · split
    · rename_i ht
      split
      · rename_i hs; exact q_slice3 hE ho ht hs
      · exact x_bad
    · exact x_bad
  · split
    · rename_i hf
      split
      · rename_i hs; exact bif_ok fun hb => q_fieldAddr hE ho hf hs hb
      · exact x_bad
    · exact x_bad
  · split
    · rename_i hf
      split
      · rename_i hs; exact q_field hE ho hf hs
      · exact x_bad
    · exact x_bad
  · split
    · rename_i ht
      split
      · rename_i hs; exact q_indexAddr hE ho ht hs
      · exact x_bad
    · rename_i ht
      split
      · rename_i hs; exact q_indexAddrA hE ho ht hs
      · exact x_bad
    · exact x_bad
  · split
    · rename_i ht; exact q_indexS hE ho ht
    · rename_i ht
      split
      · rename_i hs; exact q_indexA hE ho ht hs
      · exact x_bad
    · exact x_bad
  · exact q_extract ho
  · split
    · rename_i ht
      split
      · rename_i hk; exact w_insert hE ho ht hk
      · exact x_bad
    · exact x_bad
  · split
    · rename_i ht
      split
      · rename_i hk hz; exact m_lookup hE ho ht hk hz
      · exact x_bad
    · exact x_bad
  · split
    · rename_i ht; exact w_range hE ho ht
    · exact x_bad
  · exact w_next ho
  · exact call_ok hE ho
  · exact x_bad
end Go.Xc
end
