/- This seat's program, and pieces of code run by the executor. -/
import Derived.Test.YtnemookdabbaiaaGreatDoorProg
import Derived.KernelRfl
import Derived.Test.YtnemookdabbaiaaGreatDoorYe
import Derived.Test.YtnemookdabbaiaaGreatDoorYf
section
/- This seat's program, and the executor over it. -/
open Go.Proofs
namespace Go.Xc

noncomputable def typT : PT TypeInfo := ptOf Tryz.prog.types.toList 0 .lf
noncomputable def codeT : PT Func := ptOf Tryz.prog.funcs.toList 0 .lf
noncomputable def EZ (c : Cx) : Env := { P := Tryz.prog, c := c, tt := typT, okS := [88, 33] }
noncomputable def orcZ (c : Cx) : Nat → Option Orc := fun f =>
  bif Nat.beq f 33 then some (ixO c) else bif Nat.beq f 46 then some joinO else bif Nat.beq f 32 then some (itoaO c) else bif Nat.beq f 72 then some (atoiO c) else none
noncomputable def fiZ (c : Cx) : Nat → FI := compF (EZ c) (orcZ c) codeT

def namesOk (d : Option TypeDesc) : Bool := match d with
  | some (.struct fs) => fs.toList.all (fun f => f.name != "_")
  | _ => true
theorem namesOk_ok {d : Option TypeDesc} (h : namesOk d = true) : ∀ fs, d = some (.struct fs) → ∀ f ∈ fs.toList, f.name ≠ "_" := by
  intro fs hd f hf
  subst hd
  have := List.all_eq_true.1 (show fs.toList.all (fun f => f.name != "_") = true from h) f hf
  simpa using this
def noNum (l : List Func) : Bool := l.all (fun fn => fn.name != "runtime.NumGoroutine")
theorem noNum_ok {l : List Func} (h : noNum l = true) {f : Nat} {fn : Func} (hf : l[f]? = some fn) : fn.name ≠ "runtime.NumGoroutine" := by
  have := List.all_eq_true.1 h fn (List.mem_of_getElem? hf)
  simpa using this
theorem zNum : noNum Tryz.prog.funcs.toList = true := by kernel_rfl
theorem zMix : Tryz.prog.follows .mixedOrders = true := by kernel_rfl
def small {α : Type} (xs : Array α) : Bool := Nat.ble xs.size 1000000
theorem small_le {α : Type} {xs : Array α} (h : small xs = true) : xs.size ≤ 1000000 := Nat.le_of_ble_eq_true h
theorem small_len {α : Type} {xs : Array α} (h : small xs = true) : xs.toList.length ≤ 1000000 := by simpa using small_le h
theorem zTypes : small Tryz.prog.types = true := by kernel_rfl
theorem zFuncs : small Tryz.prog.funcs = true := by kernel_rfl
theorem zS88 : Tryz.prog.stoodInHeld 88 = false := by kernel_rfl
theorem zS33 : Tryz.prog.stoodInHeld 33 = false := by kernel_rfl
theorem zG88 : Tryz.prog.eqGuardType Tryz.prog.depth 88 = false := by kernel_rfl
theorem zG33 : Tryz.prog.eqGuardType Tryz.prog.depth 33 = false := by kernel_rfl
theorem zN88 : namesOk (Tryz.prog.underlying 88) = true := by kernel_rfl
theorem zN33 : namesOk (Tryz.prog.underlying 33) = true := by kernel_rfl
theorem zTab : Tryz.prog.globalNamed "internal/strconv.uint64pow10" = some tabG := by kernel_rfl
theorem arr_at {α : Type} (xs : Array α) {i : Nat} {x : α} (h : xs.toList[i]? = some x) : xs[i]? = some x := by simpa using h
theorem at_arr {α : Type} (xs : Array α) {i : Nat} {x : α} (h : xs[i]? = some x) : xs.toList[i]? = some x := by simpa using h
theorem zTy {t : Nat} {i : TypeInfo} (h : tyd typT t = some i) : Tryz.prog.info? t = some i := tyd_at (P := Tryz.prog) (small_le zTypes) h
theorem zFn {f : Nat} {fn : Func} (hf : f < 1000000) (h : codeT.get (Pos.of f) = some fn) : Tryz.prog.funcs[f]? = some fn := arr_at Tryz.prog.funcs (ptOf_at (small_len zFuncs) hf h)
theorem zNm {f : Nat} {fn : Func} (h : Tryz.prog.funcs[f]? = some fn) : fn.name ≠ "runtime.NumGoroutine" := noNum_ok zNum (at_arr Tryz.prog.funcs h)
theorem zSt (t : Nat) (ht : t ∈ [88, 33]) : Tryz.prog.stoodInHeld t = false ∧ Tryz.prog.eqGuardType Tryz.prog.depth t = false ∧ ∀ fs, Tryz.prog.underlying t = some (.struct fs) → ∀ f ∈ fs.toList, f.name ≠ "_" := by
  simp only [List.mem_cons, List.not_mem_nil, or_false] at ht
  rcases ht with e | e
  · rw [e]; exact ⟨zS88, zG88, namesOk_ok zN88⟩
  · rw [e]; exact ⟨zS33, zG33, namesOk_ok zN33⟩
theorem ez_ty (c : Cx) (t : Nat) (i : TypeInfo) (h : tyd (EZ c).tt t = some i) : (EZ c).P.info? t = some i := by
  have e1 : (EZ c).tt = typT := by simp only [EZ]
  have e2 : (EZ c).P = Tryz.prog := by simp only [EZ]
  rw [e1] at h
  rw [e2]
  exact zTy h
theorem ez_st (c : Cx) (t : Nat) (h : t ∈ (EZ c).okS) : (EZ c).P.stoodInHeld t = false ∧ (EZ c).P.eqGuardType (EZ c).P.depth t = false ∧ ∀ fs, (EZ c).P.underlying t = some (.struct fs) → ∀ f ∈ fs.toList, f.name ≠ "_" := zSt t h
theorem ez_mx (c : Cx) : (EZ c).P.follows .mixedOrders = true := zMix
theorem ez_nm (c : Cx) (f : Nat) (fn : Func) (h : (EZ c).P.funcs[f]? = some fn) : fn.name ≠ "runtime.NumGoroutine" := zNm h
theorem env_ok (c : Cx) : EnvOk (EZ c) := ⟨ez_ty c, ez_st c, ez_mx c, ez_nm c⟩
theorem zB32 : (match Tryz.f32.body with | some _ => true | none => false) = true := by kernel_rfl
theorem zB33 : (match Tryz.f33.body with | some _ => true | none => false) = true := by kernel_rfl
theorem zB46 : (match Tryz.f46.body with | some _ => true | none => false) = true := by kernel_rfl
theorem zB72 : (match Tryz.f72.body with | some _ => true | none => false) = true := by kernel_rfl
theorem fiZ_ok (c : Cx) : FiOk (EZ c) (fiZ c) := by
  have hbody : ∀ fn : Func, (match fn.body with | some _ => true | none => false) = true → ∃ b, fn.body = some b := by
    intro fn h
    cases hb : fn.body with
    | none => rw [hb] at h; cases h
    | some b => exact ⟨b, rfl⟩
  obtain ⟨b32, h32⟩ := hbody Tryz.f32 zB32
  obtain ⟨b33, h33⟩ := hbody Tryz.f33 zB33
  obtain ⟨b46, h46⟩ := hbody Tryz.f46 zB46
  obtain ⟨b72, h72⟩ := hbody Tryz.f72 zB72
  refine fi_ok (fun f g h => ?_) (fun f fn hf h => zFn hf h)
  unfold orcZ at h
  cases e1 : Nat.beq f 33 with
  | true =>
    rw [e1] at h
    have := Nat.eq_of_beq_eq_true e1
    subst this
    cases h
    exact ix_ok (env_ok c) Tryz.func33 h33 Tryz.strings_IndexByte
  | false =>
    cases e2 : Nat.beq f 46 with
    | true =>
      rw [e1, e2] at h
      have := Nat.eq_of_beq_eq_true e2
      subst this
      cases h
      exact join_ok (env_ok c) Tryz.func46 h46 Tryz.strings_Join_none (fun bk o cc xs sep w a1 a2 a3 a4 a5 => Tryz.strings_Join bk o cc xs sep w a1 a2 a3 a4 a5)
    | false =>
      cases e3 : Nat.beq f 32 with
      | true =>
        rw [e1, e2, e3] at h
        have := Nat.eq_of_beq_eq_true e3
        subst this
        cases h
        exact itoa_ok (env_ok c) Tryz.func32 h32 zTab (fun n a1 a2 w a3 => Tryz.strconv_Itoa n a1 a2 w a3)
      | false =>
        cases e4 : Nat.beq f 72 with
        | true =>
          rw [e1, e2, e3, e4] at h
          have := Nat.eq_of_beq_eq_true e4
          subst this
          cases h
          exact atoi_ok (env_ok c) Tryz.func72 h72 5 (fun s n a1 a2 w => Tryz.strconv_Atoi s n a1 a2 w)
        | false => rw [e1, e2, e3, e4] at h; cases h
end Go.Xc
end
section
/- A piece of a function's code, run by the executor from an empty abstract heap: what is asked ahead and what holds behind. -/
namespace Go.Xc

variable {E : Env}

/-- Of no memory. -/
def plainV : FV → Bool
  | .bool _ => true
  | .int _ _ => true
  | .str _ _ => true
  | .nils => true
  | .sl0 => true
  | _ => false
theorem plainV_move {v : FV} (h : plainV v = true) {ν : Int} {m m' : Mp} {u : Value} (hv : VR ν m v u) : VR ν m' v u := by
  cases v <;> first | exact hv | exact nomatch (show false = true from h)
noncomputable def putL : List (Nat × FV) → PT FV → PT FV
  | [], T => T
  | (t, v) :: l, T => putL l (PT.set T (Pos.of t) (some v))
def exiB : Exi → Exi → Bool
  | .normal, .normal => true
  | .ret, .ret => true
  | _, _ => false
theorem exiB_eq {a b : Exi} (h : exiB a b = true) : a = b := by cases a <;> cases b <;> first | rfl | exact nomatch (show false = true from h)
noncomputable def ckL (N : TC) (T : FT) : List (Nat × FV) → Bool
  | [] => true
  | (t, v) :: l => Nat.blt t N.N && N.esc.testBit t && plainV v && optK (PT.get T.t (Pos.of t)) (fun u => feq u v) && ckL N T l
noncomputable def ckP (N : TC) (ex : Exi) (l : List (Nat × FV)) : Exi → FT → FS → Bool := fun e T _ => exiB e ex && ckL N T l
/-- How the temporaries stand between two pieces. -/
structure TR0 (ν : Int) (N : TC) (l : List (Nat × FV)) (a : Go.Act) : Prop where
  size : N.N ≤ a.tmps.size
  defers : a.defers = []
  at_ : ∀ t v, (t, v) ∈ l → VR ν (fun _ => none) v (a.tmps.getD t undef)
theorem putL_get : ∀ (l : List (Nat × FV)) (T : PT FV) (p : Pos) (v : FV), (putL l T).get p = some v → T.get p = some v ∨ ∃ t, (t, v) ∈ l ∧ Pos.of t = p
  | [], T, p, v, h => .inl h
  | (t, u) :: l, T, p, v, h => by
    rcases putL_get l _ p v h with g | ⟨t', g1, g2⟩
    · by_cases e : p = Pos.of t
      · subst e
        rw [PT.get_set_same] at g
        simp only [Option.some.injEq] at g
        subst g
        exact .inr ⟨t, by simp, rfl⟩
      · rw [PT.get_set_ne _ _ e] at g
        exact .inl g
    · exact .inr ⟨t', by simp [g1], g2⟩
theorem ckL_ok {N : TC} {T : FT} {ν : Int} {m : Mp} {a : Go.Act} (hT : TR ν m N AllT T a) : ∀ {l : List (Nat × FV)}, ckL N T l = true → ∀ t v, (t, v) ∈ l → VR ν (fun _ => none) v (a.tmps.getD t undef)
  | [], _, t, v, h => by simp at h
  | (t', v') :: l, hc, t, v, h => by
    simp only [ckL, Bool.and_eq_true] at hc
    obtain ⟨⟨⟨⟨h1, h2⟩, h3⟩, h4⟩, h5⟩ := hc
    rcases List.mem_cons.1 h with e | h
    · simp only [Prod.mk.injEq] at e
      obtain ⟨rfl, rfl⟩ := e
      obtain ⟨u, e1, e2⟩ := optK_inv h4
      have := feq_eq e2
      subst this
      exact plainV_move h3 (hT.t t u (by simpa using h1) h2 trivial e1)
    · exact ckL_ok hT h5 t v h
def lowL (l : List (Nat × FV)) : Bool := l.all fun x => Nat.blt x.1 1000000
/-- The table of powers is there. -/
def TabAt (w : World) : Prop := TabPre w.heap.size w
theorem TabAt.below {w w' : World} (h : TabAt w) (hb : RowKit.Below w.heap.size w w') : TabAt w' := by
  obtain ⟨h1, e, fr, h2⟩ := h
  exact ⟨Nat.lt_of_lt_of_le h1 hb.size, e, fr, by rw [hb.block _ h1]; exact h2⟩
theorem pt_lf (p : Pos) : (PT.lf : PT FV).get p = none := PT.get_lf p
theorem pb_lf (p : Pos) : (PT.lf : PT FB).get p = none := PT.get_lf p
theorem pb_none {p : Pos} {b : FB} (h : (PT.lf : PT FB).get p = some b) : False := by rw [pb_lf] at h; cases h
theorem piece (hE : EnvOk E) {fi : Nat → FI} (hfi : FiOk E fi) {n : Nat} {N : TC} {c : Code} {l l' : List (Nat × FV)} {ex : Exi} (hN : N.N < 1000000) (hL : N.L = []) (hl : lowL l = true)
    (h : execF fi n (comp E N c) ⟨putL l .lf, []⟩ ⟨.lf, .h⟩ (ckP N ex l') = true) {ν : Int} (hν : E.c.has ν) {a : Go.Act} {w : World} {Q : Exit → Go.Act → World → Prop}
    (hT : TR0 ν N l a) (hw : TabAt w) (K : ∀ a' w', TR0 ν N l' a' → RowKit.Below w.heap.size w w' → Q (exitOf ex) a' w') : c.wp E.P Q a w := by
  obtain ⟨e, T', s', h1, h2⟩ := (exec_all hE hfi n).1 N c hN hL _ _ _ h
  simp only [ckP, Bool.and_eq_true] at h1
  obtain ⟨h3, h4⟩ := h1
  have := exiB_eq h3
  subst this
  refine h2 ν hν (fun _ => none) a w.heap.size w w ?_ ?_ Q fun m' a' w' hT' _ hA => K a' w' ⟨hT'.size, hT'.defers, ckL_ok hT' h4⟩ ⟨hA.os, hA.tape, hA.output, hA.size, fun k hk => hA.frame k hk fun b blk p hb _ => (pb_none hb).elim⟩
  · refine ⟨hT.size, hT.defers, fun t v ht _ _ hg => ?_, fun t k v hx _ _ => by rw [hL] at hx; simp [ixOf] at hx⟩
    rcases putL_get l .lf _ v hg with g | ⟨t', g1, g2⟩
    · rw [pt_lf] at g; cases g
    · have hlt : t' < 1000000 := by simpa using List.all_eq_true.1 hl _ g1
      have := Pos.of_inj hlt (by omega) g2
      subst this
      exact hT.at_ t' v g1
  · exact ⟨hw, fun _ _ => rfl, Nat.le_refl _, fun _ _ => rfl, fun b blk hb => (pb_none hb).elim, fun b blk p hb => (pb_none hb).elim, fun b blk p hb => (pb_none hb).elim, fun b b' blk blk' p p' hb => (pb_none hb).elim⟩
/-- The same of a call. -/
theorem called (hE : EnvOk E) {fi : Nat → FI} (hfi : FiOk E fi) {n f : Nat} {args : List FV} {v : FV} (hb : BodyOk E f (fi f)) (ho : (fi f).orc = none) (hp : plainV v = true)
    (h : callOf fi (execF fi n) f args ⟨.lf, .h⟩ (fun u _ => feq u v) = true) {ν : Int} (hν : E.c.has ν) {w : World} {vs : Array Value} (hvs : VRs ν (fun _ => none) args vs.toList) (hw : TabAt w) :
    Calls E.P f vs w fun e w' => (∃ u, e = .returned u ∧ VR ν (fun _ => none) v u) ∧ RowKit.Below w.heap.size w w' := by
  obtain ⟨u, s', h1, h2⟩ := enters_ok hE (exec_all hE hfi n).1 hb ho h
  have := feq_eq h1
  subst this
  refine Calls.mono (h2 ν hν (fun _ => none) w.heap.size w w vs hvs ?_) fun e w' he => ?_
  · exact ⟨hw, fun _ _ => rfl, Nat.le_refl _, fun _ _ => rfl, fun b blk hb => (pb_none hb).elim, fun b blk p hb => (pb_none hb).elim, fun b blk p hb => (pb_none hb).elim, fun b b' blk blk' p p' hb => (pb_none hb).elim⟩
  · cases e with
    | returned x =>
      obtain ⟨m', g1, _, hA⟩ := he
      exact ⟨⟨x, rfl, plainV_move hp g1⟩, ⟨hA.os, hA.tape, hA.output, hA.size, fun k hk => hA.frame k hk fun b blk p hb _ => (pb_none hb).elim⟩⟩
    | panicked c => exact he.elim
    | outgrown => exact he.elim
end Go.Xc
end
