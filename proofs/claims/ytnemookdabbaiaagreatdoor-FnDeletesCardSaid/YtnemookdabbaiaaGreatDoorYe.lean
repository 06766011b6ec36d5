/- Functions of the library taken by their contracts. -/
import Derived.Test.YtnemookdabbaiaaGreatDoorYd
import Derived.Lib.Bytealg
import Derived.Lib.Join
import Derived.Lib.ItoaNum
import Derived.Lib.LaidTab
import Derived.Below
import Derived.Sort.Grow
import Derived.Deep.Draws
import Derived.Lib.Atoi
import Derived.Lib.ConvBytes
section
/- Functions made ready, and tables of functions and types. -/
namespace Go.Xc

variable {E : Env}

theorem fi_ok {orc : Nat → Option Orc} {ft : PT Func} (ho : ∀ f g, orc f = some g → OrcOk E f g) (hf : ∀ f fn, f < 1000000 → ft.get (Pos.of f) = some fn → E.P.funcs[f]? = some fn) : FiOk E (compF E orc ft) := by
  intro f
  unfold compF
  cases hg : orc f with
  | some g => exact .inl ⟨g, rfl, ho f g hg⟩
  | none =>
    refine .inr ?_
    simp only
    cases hlt : Nat.blt f 1000000 with
    | false => exact ⟨rfl, .inr rfl⟩
    | true =>
      simp only [cond_true]
      cases hfn : ft.get (Pos.of f) with
      | none => exact ⟨rfl, .inr rfl⟩
      | some fn =>
        simp only
        cases hb : fn.body with
        | none => exact ⟨rfl, .inr rfl⟩
        | some c =>
          simp only
          cases hr : resOf E ⟨fn.ntmps, Nat.lor (escC c) (escRes fn.results.toList), []⟩ fn.results.toList with
          | none => exact ⟨rfl, .inr rfl⟩
          | some r =>
            simp only
            cases hn : Nat.blt fn.ntmps 1000000 with
            | false => exact ⟨rfl, .inr rfl⟩
            | true =>
              exact ⟨rfl, .inl ⟨fn, c, _, hf f fn (by simpa using hlt) hfn, hb, rfl, by simpa using hn, rfl, rfl, hr⟩⟩
theorem ptOf_get {α : Type} : ∀ (l : List α) (n : Nat) (t : PT α), n + l.length ≤ 1000000 → ∀ i, i < 1000000 → (ptOf l n t).get (Pos.of i) = if n ≤ i ∧ i < n + l.length then l[i - n]? else t.get (Pos.of i)
  | [], n, t, _, i, _ => by rw [if_neg (by simp)]; rfl
  | a :: l, n, t, h, i, hi => by
    simp only [List.length_cons] at h
    show (ptOf l (n + 1) (PT.set t (Pos.of n) (some a))).get (Pos.of i) = _
    rw [ptOf_get l (n + 1) _ (by omega) i hi]
    simp only [List.length_cons]
    by_cases h1 : n + 1 ≤ i ∧ i < n + 1 + l.length
    · rw [if_pos h1, if_pos (by omega), show i - n = (i - (n + 1)) + 1 by omega]
      simp
    · rw [if_neg h1]
      by_cases h2 : i = n
      · subst h2
        rw [PT.get_set_same, if_pos (by omega)]
        simp
      · rw [PT.get_set_ne _ _ (fun e => h2 (Pos.of_inj hi (by omega) e)), if_neg (by omega)]
theorem ptOf_at {α : Type} {l : List α} (h : l.length ≤ 1000000) {i : Nat} (hi : i < 1000000) {x : α} (hx : (ptOf l 0 .lf).get (Pos.of i) = some x) : l[i]? = some x := by
  rw [ptOf_get l 0 .lf (by omega) i hi] at hx
  split at hx
  · simpa using hx
  · rw [PT.get_lf] at hx; cases hx
theorem tyd_at {P : Program} (h : P.types.size ≤ 1000000) {t : Nat} {i : TypeInfo} (hx : tyd (ptOf P.types.toList 0 .lf) t = some i) : P.info? t = some i := by
  unfold tyd at hx
  cases hlt : Nat.blt t 1000000 with
  | false => rw [hlt] at hx; cases hx
  | true =>
    rw [hlt] at hx
    have := ptOf_at (by simpa using h) (by simpa using hlt) hx
    have h2 : P.types[t]? = some i := by simpa using this
    have h3 := (Array.getElem?_eq_some_iff.1 h2).1
    unfold Tables.info?
    rw [if_pos h3]
    exact h2
end Go.Xc
end
section
/- What the library's functions that are not walked come to: their place taken by a contract. -/
namespace Go.Xc

variable {E : Env}

/-- A world in which old blocks stand as they stood. -/
theorem rel_below {ν : Int} {base : Nat} {w0 : World} {m : Mp} {s : FS} {w w' : World} (h : Rel ν base w0 m s w) (hb : RowKit.Below w.heap.size w w') : Rel ν base w0 m s w' ∧ After m s w m s w' := by
  have hlt : ∀ b blk p, s.h.get b = some blk → m b = some p → p.blk < w.heap.size := fun b blk p e ep => BlkOk_lt (h.ok b blk p e ep)
  refine ⟨⟨h.pre, fun c hc => ?_, Nat.le_trans h.big hb.size, h.dom, h.hd, fun b blk p e ep => BlkOk_mono (Ext.refl m) (hb.block _ (hlt b blk p e ep)) (h.ok b blk p e ep), h.lo, h.inj⟩,
    ⟨Ext.refl m, fun _ _ => rfl, Nat.le_refl _, hb.os, hb.tape, hb.output, hb.size, fun c hc _ => hb.block c hc, fun b blk p e ep _ => ⟨b, blk, p, e, ep, rfl⟩, fun b blk e hn => absurd (h.hd b blk e) (by omega), fun b blk e _ => ⟨blk, e⟩⟩⟩
  rw [hb.block c (Nat.lt_of_lt_of_le hc h.big)]; exact h.same c hc
noncomputable def ixb (c : Cx) (x : SI) (l : List SI) (k : Int → Bool) : Nat → Bool :=
  List.rec (fun _ => k (-1)) (fun y _ ih n => eqN c x y fun t => Bool.rec (ih (Nat.succ n)) (k (.ofNat n)) t) l
noncomputable def ixO (c : Cx) : Orc := fun l _ k => match l with
  | [.str t _, .int .u8 x] => ifK (byteOk x) (ixb c x t (fun i => k (.int .i64 (.lit i))) 0) false
  | _ => false
theorem ixb_ok {c : Cx} {x : SI} : ∀ {l : List SI} {k : Int → Bool} {n : Nat}, ixb c x l k n = true →
    ∃ i, k i = true ∧ ∀ ν, c.has ν → bytesIn ν l → 0 ≤ x.ev ν ∧ x.ev ν < 256 → i = if Lib.indexByte (l.map (byteOfSI ν)) (byteOfSI ν x) == -1 then -1 else (n : Int) + Lib.indexByte (l.map (byteOfSI ν)) (byteOfSI ν x)
  | [], k, n, h => ⟨-1, h, fun ν _ _ _ => by simp [Lib.indexByte]⟩
  | y :: l, k, n, h => by
    obtain ⟨t, h1, h2⟩ := eqN_inv (show eqN c x y (fun t => Bool.rec (ixb c x l k (Nat.succ n)) (k (.ofNat n)) t) = true from h)
    cases t with
    | true =>
      refine ⟨_, h1, fun ν hν hb hx => ?_⟩
      have e : x.ev ν = y.ev ν := by simpa using (h2 ν hν).symm
      have e' : byteOfSI ν y = byteOfSI ν x := by unfold byteOfSI; rw [e]
      simp [Lib.indexByte, e']
    | false =>
      obtain ⟨i, h3, h4⟩ := ixb_ok (l := l) (k := k) (n := Nat.succ n) h1
      refine ⟨i, h3, fun ν hν hb hx => ?_⟩
      have e : ¬ x.ev ν = y.ev ν := by simpa using (h2 ν hν).symm
      have e' : (byteOfSI ν y == byteOfSI ν x) = false := by
        rw [beq_eq_false_iff_ne]
        intro h; exact e ((byte_inj (hb y (by simp)) hx).1 h).symm
      have h5 := h4 ν hν (fun s hs => hb s (by simp [hs])) hx
      rw [h5]
      simp only [List.map_cons, Lib.indexByte, e', Bool.false_eq_true, if_false]
      have hge := Lib.indexByte_ge (l.map (byteOfSI ν)) (byteOfSI ν x)
      generalize Lib.indexByte (l.map (byteOfSI ν)) (byteOfSI ν x) = q at hge
      by_cases hq : q = -1
      · subst hq; simp
      · have : (q == -1) = false := by simpa using hq
        have h6 : (q + 1 == -1) = false := by simp; omega
        simp only [this, h6, Bool.false_eq_true, if_false]
        omega
theorem ix_ok (hE : EnvOk E) {f : Nat} {fn : Func} {b : Code} (hf : E.P.funcs[f]? = some fn) (hb : fn.body = some b)
    (hc : ∀ (s : ByteArray) (c : Int) (w : World), Calls E.P f #[.string s, .int .u8 c] w fun e w' => e = .returned (.int .i64 (Lib.indexByte s.data.toList c.toNat.toUInt8)) ∧ w' = w) : OrcOk E f (ixO E.c) := by
  intro args s k h
  unfold ixO at h
  split at h
  · rename_i t nn x
    obtain ⟨h1, h2⟩ := ifK_left h
    obtain ⟨i, h3, h4⟩ := ixb_ok h2
    refine ⟨_, h3, calls_of_enters hE hf hb fun ν hν m base w0 w vs hvs hR => ?_⟩
    obtain ⟨u1, us1, e1, v1, r1⟩ := hvs
    obtain ⟨u2, us2, e2, v2, r2⟩ := r1
    have e3 : us2 = [] := r2
    subst e3 e2
    obtain ⟨g1, g2, _⟩ := v1
    have g3 : u2 = .int .u8 (x.ev ν) := v2
    subst g1 g3
    have hvs' : vs = #[.string (mkS ν t), .int .u8 (x.ev ν)] := by rw [← Array.toList_inj]; exact e1
    rw [hvs']
    refine Calls.mono (hc (mkS ν t) (x.ev ν) w) fun e w' he => ?_
    obtain ⟨rfl, rfl⟩ := he
    refine ⟨m, ?_, hR, After.refl m s w' w' rfl rfl rfl rfl hR.hd⟩
    have h5 := h4 ν hν g2 (byteOk_ok h1 ν)
    show Value.int .i64 _ = Value.int .i64 i
    rw [h5]
    have e6 : (mkS ν t).data.toList = t.map (byteOfSI ν) := by simp [mkS]
    have e7 : (x.ev ν).toNat.toUInt8 = byteOfSI ν x := rfl
    rw [e6, e7]
    generalize Lib.indexByte (t.map (byteOfSI ν)) (byteOfSI ν x) = q
    by_cases hq : q = -1
    · subst hq; simp
    · have : (q == -1) = false := by simpa using hq
      simp [this]
  · cases h
def joinL (sep : List SI) : List FV → Option (List SI)
  | [] => some []
  | [.str x _] => some x
  | .str x _ :: r => match joinL sep r with
    | some l => some (x ++ (sep ++ l))
    | none => none
  | _ => none
noncomputable def joinO : Orc := fun l s k => match l with
  | [.slice b o len es, .str sep _] => ifK (Nat.beq es 1) (ifK (Nat.blt 0 len && Nat.ble len 1000000) (rdB s b fun cs _ => dropK o cs fun cs => takeK len cs fun l => optK (joinL sep l) fun t => ifK (Nat.ble (lenL t) 1000000) (k (.str t (lenL t))) false) false) false
  | [.nils, .str _ _] => k (.str [] 0)
  | _ => false
theorem joinL_ok {sep : List SI} : ∀ {l : List FV} {t : List SI}, joinL sep l = some t → ∀ ν m us, bytesIn ν sep → VRs ν m l us → ∃ xs : List ByteArray, us = xs.map Value.string ∧ bytesIn ν t ∧ (l ≠ [] → t.map (byteOfSI ν) = Lib.join (xs.map (·.data.toList)) (sep.map (byteOfSI ν)))
  | [], t, h, ν, m, us, hs, hv => by
    simp only [joinL, Option.some.injEq] at h
    subst h
    exact ⟨[], by rw [show us = [] from hv]; rfl, fun s hs => by simp at hs, fun h => absurd rfl h⟩
  | [.str x n], t, h, ν, m, us, hs, hv => by
    simp only [joinL, Option.some.injEq] at h
    subst h
    obtain ⟨u, us', rfl, v1, v2⟩ := hv
    obtain ⟨g1, g2, g3⟩ := v1
    refine ⟨[mkS ν x], by rw [show us' = [] from v2, g1]; rfl, g2, fun _ => ?_⟩
    simp [Lib.join_one, mkS]
  | .str x n :: y :: r, t, h, ν, m, us, hs, hv => by
    unfold joinL at h
    cases hr : joinL sep (y :: r) with
    | none => rw [hr] at h; cases h
    | some l =>
      rw [hr] at h
      simp only [Option.some.injEq] at h
      subst h
      obtain ⟨u, us', rfl, v1, v2⟩ := hv
      obtain ⟨g1, g2, g3⟩ := v1
      obtain ⟨xs, k1, k2, k3⟩ := joinL_ok hr ν m us' hs v2
      refine ⟨mkS ν x :: xs, by rw [g1, k1]; rfl, ?_, fun _ => ?_⟩
      · intro q hq
        rcases List.mem_append.1 hq with hq | hq
        · exact g2 q hq
        · rcases List.mem_append.1 hq with hq | hq
          · exact hs q hq
          · exact k2 q hq
      · have k4 := k3 (by simp)
        have hne : ∃ z zs, xs = z :: zs := by
          cases xs with
          | nil =>
            obtain ⟨_, _, e, _⟩ := v2
            rw [k1] at e; cases e
          | cons z zs => exact ⟨z, zs, rfl⟩
        obtain ⟨z, zs, rfl⟩ := hne
        rw [List.map_append, List.map_append, k4]
        simp [Lib.join, List.intercalate, mkS]
  | .any :: _, t, h, _, _, _, _, _ => nomatch h
  | .undef :: _, t, h, _, _, _, _, _ => nomatch h
  | .bool _ :: _, t, h, _, _, _, _, _ => nomatch h
  | .int _ _ :: _, t, h, _, _, _, _, _ => nomatch h
  | .nilp :: _, t, h, _, _, _, _, _ => nomatch h
  | .ptr _ _ :: _, t, h, _, _, _, _, _ => nomatch h
  | .nils :: _, t, h, _, _, _, _, _ => nomatch h
  | .slice _ _ _ _ :: _, t, h, _, _, _, _, _ => nomatch h
  | .sl0 :: _, t, h, _, _, _, _, _ => nomatch h
  | .nilm :: _, t, h, _, _, _, _, _ => nomatch h
  | .map _ :: _, t, h, _, _, _, _, _ => nomatch h
  | .func _ _ _ :: _, t, h, _, _, _, _, _ => nomatch h
  | .nilf :: _, t, h, _, _, _, _, _ => nomatch h
  | .iface _ _ :: _, t, h, _, _, _, _, _ => nomatch h
  | .nili :: _, t, h, _, _, _, _, _ => nomatch h
  | .agg _ :: _, t, h, _, _, _, _, _ => nomatch h
  | .tuple _ :: _, t, h, _, _, _, _, _ => nomatch h
end Go.Xc
end
section
/- Join, and numbers in words. -/
namespace Go.Xc

variable {E : Env}

theorem join_ok (hE : EnvOk E) {f : Nat} {fn : Func} {b : Code} (hf : E.P.funcs[f]? = some fn) (hb : fn.body = some b)
    (hn : ∀ (a : Option Addr) (c : Nat) (sep : ByteArray) (w : World), Calls E.P f #[.slice a 0 c, .string sep] w fun e w' => e = .returned (.string ⟨#[]⟩) ∧ w' = w)
    (hc : ∀ (bk o c : Nat) (xs : List ByteArray) (sep : ByteArray) (w : World), (∀ (j : Nat) x, xs[j]? = some x → w.cell? ⟨bk, o + j, none⟩ = some (.string x)) → bk < w.heap.size → xs.length ≤ 140737488355328 → xs.length ≤ c → (Lib.join (xs.map (·.data.toList)) sep.data.toList).length ≤ 140737488355328 →
      Calls E.P f #[.slice (some ⟨bk, o, none⟩) xs.length c, .string sep] w fun e w' => e = .returned (.string ⟨(Lib.join (xs.map (·.data.toList)) sep.data.toList).toArray⟩) ∧ RowKit.Below w.heap.size w w') : OrcOk E f joinO := by
  intro args s k h
  unfold joinO at h
  split at h
  · rename_i bl off len es sep sn
    obtain ⟨h1, h2⟩ := ifK_left h
    have h1 := Nat.eq_of_beq_eq_true h1
    subst h1
    obtain ⟨h3, h4⟩ := ifK_left h2
    simp only [Bool.and_eq_true] at h3
    have h30 := Nat.le_of_ble_eq_true h3.2
    have h3 : 0 < len := by simpa using h3.1
    obtain ⟨cs, nn, hb1, h5⟩ := rdB_inv h4
    obtain ⟨h6, h7⟩ := dropK_inv h5
    obtain ⟨h8, h9⟩ := takeK_inv h7
    obtain ⟨t, h10, h11⟩ := optK_inv h9
    obtain ⟨h12, h13⟩ := ifK_left h11
    have h12 := Nat.le_of_ble_eq_true h12
    rw [lenL_eq] at h12
    refine ⟨_, h13, calls_of_enters hE hf hb fun ν hν m base w0 w vs hvs hR => ?_⟩
    obtain ⟨u1, us1, e1, v1, r1⟩ := hvs
    obtain ⟨u2, us2, e2, v2, r2⟩ := r1
    have e3 : us2 = [] := r2
    subst e3 e2
    obtain ⟨p, cap, hp, g1, g2, g3, g4⟩ := v1
    obtain ⟨k1, k2, k3⟩ := v2
    subst g1 k1
    have hvs' : vs = #[.slice (some ⟨p.blk, p.off + off, none⟩) len cap, .string (mkS ν sep)] := by rw [← Array.toList_inj]; exact e1
    rw [hvs']
    have hB := hR.ok bl _ p hb1 hp
    obtain ⟨us, q1, q2, q3, q4⟩ := row_at hB h6 h8
    obtain ⟨xs, x1, x2, x3⟩ := joinL_ok h10 ν m us k2 q1
    have hxl : xs.length = len := by rw [← q2, x1]; simp
    have hne : (cs.drop off).take len ≠ [] := by
      intro e
      have := congrArg List.length e
      rw [List.length_take] at this
      simp only [List.length_nil] at this
      omega
    have hsep : (mkS ν sep).data.toList = sep.map (byteOfSI ν) := by simp [mkS]
    have hjoin := x3 hne
    rw [← hsep] at hjoin
    have hcap : cap ≤ p.len := by omega
    have := hc p.blk (p.off + off) cap xs (mkS ν sep) w (fun j x hx => by
        have := q4 j (.string x) (by rw [x1]; simp [hx])
        have hadd : (⟨p.blk, p.off + off, none⟩ : Addr).add j = ⟨p.blk, p.off + off + j, none⟩ := by
          unfold Addr.add; split
          · rename_i h; simp [h]
          · rfl
        rwa [hadd] at this) (BlkOk_lt hB) (by omega) (by omega) (by rw [← hjoin]; simp; omega)
    rw [hxl] at this
    refine Calls.mono this fun e w' he => ?_
    obtain ⟨rfl, hbel⟩ := he
    obtain ⟨r3, r4⟩ := rel_below hR hbel
    refine ⟨m, ⟨?_, x2, lenL_eq t⟩, r3, r4⟩
    rw [← hjoin]; rfl
  · rename_i sep sn
    refine ⟨_, h, calls_of_enters hE hf hb fun ν hν m base w0 w vs hvs hR => ?_⟩
    obtain ⟨u1, us1, e1, v1, r1⟩ := hvs
    obtain ⟨u2, us2, e2, v2, r2⟩ := r1
    have e3 : us2 = [] := r2
    subst e3 e2
    have g1 : u1 = .slice none 0 0 := v1
    obtain ⟨k1, k2, k3⟩ := v2
    subst g1 k1
    have hvs' : vs = #[.slice none 0 0, .string (mkS ν sep)] := by rw [← Array.toList_inj]; exact e1
    rw [hvs']
    refine Calls.mono (hn none 0 (mkS ν sep) w) fun e w' he => ?_
    obtain ⟨rfl, rfl⟩ := he
    exact ⟨m, ⟨rfl, fun s hs => by simp at hs, rfl⟩, hR, After.refl m s w' w' rfl rfl rfl rfl hR.hd⟩
  · cases h
end Go.Xc
end
section
/- Numbers in words. -/
namespace Go.Xc

variable {E : Env}

def dec : Nat → Nat → List SI → List SI
  | 0, _, acc => acc
  | f + 1, n, acc => bif Nat.blt n 10 then .lit (.ofNat (48 + n)) :: acc else dec f (n / 10) (.lit (.ofNat (48 + n % 10)) :: acc)
def digs (a b : Int) : Nat → List SI
  | 0 => []
  | d + 1 => .dig a b d :: digs a b d
/-- How many digits. -/
def nd : Nat → Nat → Nat
  | 0, _ => 0
  | f + 1, n => bif Nat.blt n 10 then 1 else Nat.succ (nd f (n / 10))
noncomputable def itoaO (c : Cx) : Orc := fun l _ k => match l with
  | [.int .i64 (.lit (.ofNat n))] => ifK (Nat.blt n 1000000000000) (k (.str (dec 30 n []) (lenL (dec 30 n [])))) false
  | [.int .i64 (.lit (.negSucc n))] => ifK (Nat.blt n 1000000000000) (k (.str (.lit 45 :: dec 30 (n + 1) []) (lenL (dec 30 (n + 1) []) + 1))) false
  | [.int .i64 (.lin a b)] => match (SI.lin a b).least c, (SI.lin a b).most c with
    | .ofNat lo, .ofNat hi => ifK (Nat.blt hi 1000000000000 && Nat.beq (nd 30 lo) (nd 30 hi)) (k (.str (digs a b (nd 30 hi)) (nd 30 hi))) false
    | _, _ => false
  | _ => false
theorem dec_ok (ν : Int) : ∀ (f n : Nat) (acc : List SI), n < 10 ^ f → (dec f n acc).map (byteOfSI ν) = Lib.decDigits n ++ acc.map (byteOfSI ν) ∨ f = 0
  | 0, _, _, _ => .inr rfl
  | f + 1, n, acc, h => by
    left
    unfold dec
    rw [Lib.decDigits]
    by_cases hn : n < 10
    · have hb : Nat.blt n 10 = true := by simpa using hn
      rw [hb, dif_pos hn]
      simp only [cond_true, List.map_cons, List.cons_append, List.nil_append]
      congr 1
    · have hb : Nat.blt n 10 = false := by
        cases hq : Nat.blt n 10 with
        | false => rfl
        | true => exact absurd (by simpa using hq) hn
      rw [hb, dif_neg hn]
      simp only [cond_false]
      have hlt : n / 10 < 10 ^ f := by
        rw [Nat.pow_succ] at h
        exact Nat.div_lt_of_lt_mul (by omega)
      rcases dec_ok ν f (n / 10) (.lit (.ofNat (48 + n % 10)) :: acc) hlt with e | e
      · rw [e, List.append_assoc]
        rfl
      · subst e
        simp at h; omega
theorem dec_bytes (ν : Int) : ∀ (f n : Nat) (acc : List SI), bytesIn ν acc → bytesIn ν (dec f n acc)
  | 0, _, _, h => h
  | f + 1, n, acc, h => by
    unfold dec
    have cons : ∀ q : Nat, q < 10 → bytesIn ν (SI.lit (.ofNat (48 + q)) :: acc) := by
      intro q hq s hs
      rcases List.mem_cons.1 hs with rfl | hs
      · show 0 ≤ ((48 + q : Nat) : Int) ∧ ((48 + q : Nat) : Int) < 256; omega
      · exact h s hs
    cases hb : Nat.blt n 10 with
    | true => exact cons n (by simpa using hb)
    | false => exact dec_bytes ν f (n / 10) _ (cons (n % 10) (Nat.mod_lt _ (by omega)))
def digsN (u : Nat) : Nat → List UInt8
  | 0 => []
  | d + 1 => UInt8.ofNat (48 + u / 10 ^ d % 10) :: digsN u d
theorem digsN_div (u : Nat) : ∀ d, digsN (u / 10) d ++ [UInt8.ofNat (48 + u % 10)] = digsN u (d + 1)
  | 0 => by simp [digsN]
  | d + 1 => by
    show UInt8.ofNat (48 + u / 10 / 10 ^ d % 10) :: (digsN (u / 10) d ++ [UInt8.ofNat (48 + u % 10)]) = _
    rw [digsN_div u d, Nat.div_div_eq_div_mul, Nat.mul_comm, ← Nat.pow_succ]
    rfl
theorem decDigits_digs : ∀ (f u : Nat), u < 10 ^ f → Lib.decDigits u = digsN u (nd f u) ∨ f = 0
  | 0, _, _ => .inr rfl
  | f + 1, u, h => by
    left
    unfold nd
    rw [Lib.decDigits]
    by_cases hn : u < 10
    · have hb : Nat.blt u 10 = true := by simpa using hn
      rw [hb, dif_pos hn]
      simp [digsN, Nat.mod_eq_of_lt hn]
    · have hb : Nat.blt u 10 = false := by
        cases hq : Nat.blt u 10 with
        | false => rfl
        | true => exact absurd (by simpa using hq) hn
      rw [hb, dif_neg hn]
      simp only [cond_false]
      have hlt : u / 10 < 10 ^ f := by
        rw [Nat.pow_succ] at h
        exact Nat.div_lt_of_lt_mul (by omega)
      rcases decDigits_digs f (u / 10) hlt with e | e
      · rw [e, digsN_div]
      · subst e
        simp at h; omega
theorem nd_mono : ∀ (f x y : Nat), x ≤ y → nd f x ≤ nd f y
  | 0, _, _, _ => Nat.le_refl _
  | f + 1, x, y, h => by
    unfold nd
    cases hx : Nat.blt x 10 <;> cases hy : Nat.blt y 10
    · exact Nat.succ_le_succ (nd_mono f _ _ (Nat.div_le_div_right h))
    · have hy' : y < 10 := by simpa using hy
      have : Nat.blt x 10 = true := by simp; omega
      rw [this] at hx; cases hx
    · simp
    · simp
theorem digs_ok (ν a b : Int) (u : Nat) (hu : u = (a * ν + b).toNat) : ∀ d, (digs a b d).map (byteOfSI ν) = digsN u d
  | 0 => rfl
  | d + 1 => by
    show byteOfSI ν (.dig a b d) :: _ = UInt8.ofNat (48 + u / 10 ^ d % 10) :: _
    rw [digs_ok ν a b u hu d]
    congr 1
    show UInt8.ofNat (48 + (((a * ν + b).toNat / 10 ^ d % 10 : Nat) : Int)).toNat = _
    rw [← hu]
    congr 1
theorem digs_bytes (ν a b : Int) : ∀ d, bytesIn ν (digs a b d)
  | 0 => fun s hs => by simp [digs] at hs
  | d + 1 => fun s hs => by
    rcases List.mem_cons.1 hs with rfl | hs
    · have := SI.bounds (c := ⟨ν, ν⟩) (ν := ν) ⟨Int.le_refl _, Int.le_refl _⟩ (.dig a b d)
      simp only [SI.least, SI.most] at this
      omega
    · exact digs_bytes ν a b d s hs
theorem digs_len (a b : Int) : ∀ d, (digs a b d).length = d
  | 0 => rfl
  | d + 1 => by simp [digs, digs_len a b d]
end Go.Xc
end
section
/- Itoa. -/
namespace Go.Xc

variable {E : Env}

theorem tab_is {P : Program} {ν : Int} {base : Nat} {w0 : World} {m : Mp} {s : FS} {w : World} (hg : P.globalNamed "internal/strconv.uint64pow10" = some tabG) (h : Rel ν base w0 m s w) : Lib.TabIs P w "internal/strconv.uint64pow10" .u64 Lib.pow10Tab := by
  obtain ⟨h1, e, fr, h2⟩ := h.pre
  unfold Lib.TabIs World.var?
  rw [hg]
  simp only [Option.bind_some]
  rw [h.same tabG h1, h2]
  simp [Lib.pow10Tab]
theorem below_grow (w : World) (k : Nat) (os : Array Obj) : RowKit.Below w.heap.size w (Sort.grow (w.drewN k) os) := by
  refine ⟨rfl, rfl, rfl, ?_, fun j hj => ?_⟩
  · show w.heap.size ≤ (w.heap ++ os).size
    simp
  · show (w.heap ++ os)[j]? = _
    rw [Array.getElem?_append_left hj]
theorem itoa_ok (hE : EnvOk E) {f : Nat} {fn : Func} {b : Code} (hf : E.P.funcs[f]? = some fn) (hb : fn.body = some b) (hg : E.P.globalNamed "internal/strconv.uint64pow10" = some tabG)
    (hc : ∀ (n : Int), -9223372036854775808 ≤ n → n ≤ 9223372036854775807 → ∀ (w : World), Lib.TabIs E.P w "internal/strconv.uint64pow10" .u64 Lib.pow10Tab →
      Calls E.P f #[.int .i64 n] w fun e w' => e = .returned (.string ⟨(Lib.itoa n).toArray⟩) ∧ ∃ k os, w' = Sort.grow (w.drewN k) os) : OrcOk E f (itoaO E.c) := by
  have key : ∀ (z : SI) (t : List SI) (n : Nat) (s : FS), n = t.length → (∀ ν, E.c.has ν → bytesIn ν t ∧ -9223372036854775808 ≤ z.ev ν ∧ z.ev ν ≤ 9223372036854775807 ∧ t.map (byteOfSI ν) = Lib.itoa (z.ev ν)) → CallsTo E f [.int .i64 z] s (.str t n) s := by
    intro z t n s hn ht
    refine calls_of_enters hE hf hb fun ν hν m base w0 w vs hvs hR => ?_
    obtain ⟨u1, us1, e1, v1, r1⟩ := hvs
    have e3 : us1 = [] := r1
    subst e3
    have g1 : u1 = .int .i64 (z.ev ν) := v1
    subst g1
    have hvs' : vs = #[.int .i64 (z.ev ν)] := by rw [← Array.toList_inj]; exact e1
    rw [hvs']
    obtain ⟨t1, t2, t3, t4⟩ := ht ν hν
    refine Calls.mono (hc (z.ev ν) t2 t3 w (tab_is hg hR)) fun e w' he => ?_
    obtain ⟨rfl, k, os, rfl⟩ := he
    obtain ⟨r3, r4⟩ := rel_below hR (below_grow w k os)
    refine ⟨m, ⟨?_, t1, hn⟩, r3, r4⟩
    rw [← t4]; rfl
  intro args s k h
  unfold itoaO at h
  split at h
  · rename_i n
    obtain ⟨h1, h2⟩ := ifK_left h
    have h1 : n < 1000000000000 := by simpa using h1
    refine ⟨_, h2, key _ _ _ s (lenL_eq _) fun ν _ => ⟨dec_bytes ν 30 n [] (fun s hs => by simp at hs), by show -9223372036854775808 ≤ (n : Int); omega, by show (n : Int) ≤ 9223372036854775807; omega, ?_⟩⟩
    rcases dec_ok ν 30 n [] (by omega) with e | e
    · rw [e]
      show Lib.decDigits n ++ [] = Lib.itoa (n : Int)
      unfold Lib.itoa
      rw [if_neg (by omega)]
      simp
    · cases e
  · rename_i n
    obtain ⟨h1, h2⟩ := ifK_left h
    have h1 : n < 1000000000000 := by simpa using h1
    refine ⟨_, h2, key _ _ _ s (by rw [lenL_eq]; rfl) fun ν _ => ⟨?_, by show -9223372036854775808 ≤ Int.negSucc n; omega, by show Int.negSucc n ≤ 9223372036854775807; omega, ?_⟩⟩
    · intro q hq
      rcases List.mem_cons.1 hq with rfl | hq
      · show (0 : Int) ≤ 45 ∧ (45 : Int) < 256; omega
      · exact dec_bytes ν 30 (n + 1) [] (fun s hs => by simp at hs) q hq
    · rcases dec_ok ν 30 (n + 1) [] (by omega) with e | e
      · show byteOfSI ν (.lit 45) :: (dec 30 (n + 1) []).map (byteOfSI ν) = Lib.itoa (Int.negSucc n)
        rw [e]
        unfold Lib.itoa
        rw [if_pos (by omega)]
        simp
        rfl
      · cases e
  · rename_i a c
    split at h
    · rename_i lo hi hlo hhi
      obtain ⟨h1, h2⟩ := ifK_left h
      simp only [Bool.and_eq_true] at h1
      have h3 : hi < 1000000000000 := by simpa using h1.1
      have h4 := Nat.eq_of_beq_eq_true h1.2
      refine ⟨_, h2, key _ _ _ s (digs_len a c _).symm fun ν hν => ?_⟩
      have hbd := SI.bounds hν (.lin a c)
      rw [hlo, hhi] at hbd
      have hev : (SI.lin a c).ev ν = a * ν + c := rfl
      rw [hev] at hbd ⊢
      have hb1 : (lo : Int) ≤ a * ν + c := hbd.1
      have hb2 : a * ν + c ≤ (hi : Int) := hbd.2
      refine ⟨digs_bytes ν a c _, by omega, by omega, ?_⟩
      have hu : lo ≤ (a * ν + c).toNat ∧ (a * ν + c).toNat ≤ hi := by omega
      have hn : nd 30 (a * ν + c).toNat = nd 30 hi := by
        have g1 := nd_mono 30 _ _ hu.1
        have g2 := nd_mono 30 _ _ hu.2
        omega
      rw [digs_ok ν a c _ rfl, ← hn]
      unfold Lib.itoa
      rw [if_neg (by omega)]
      rcases decDigits_digs 30 (a * ν + c).toNat (by omega) with e | e
      · exact e.symm
      · cases e
    · cases h
  · cases h
end Go.Xc
end
section
/- Atoi, of digits that are known, and of all digits of a number that hangs on ν. -/
namespace Go.Xc

variable {E : Env}

/-- Are these the last d digits of a·ν+b? -/
def isDigs (a b : Int) : Nat → List SI → Bool
  | 0, [] => true
  | d + 1, .dig a' b' i :: r => ieq a a' && ieq b b' && Nat.beq i d && isDigs a b d r
  | _, _ => false
theorem isDigs_ok {a b : Int} : ∀ {d : Nat} {l : List SI}, isDigs a b d l = true → l = digs a b d
  | 0, [], _ => rfl
  | 0, _ :: _, h => by simp [isDigs] at h
  | d + 1, [], h => by simp [isDigs] at h
  | d + 1, .lit _ :: r, h => by simp [isDigs] at h
  | d + 1, .lin _ _ :: r, h => by simp [isDigs] at h
  | d + 1, .dig a' b' i :: r, h => by
    simp only [isDigs, Bool.and_eq_true] at h
    obtain ⟨⟨⟨h1, h2⟩, h3⟩, h4⟩ := h
    have e1 := ieq_iff.1 h1
    have e2 := ieq_iff.1 h2
    have e3 := Nat.eq_of_beq_eq_true h3
    subst e1 e2 e3
    rw [isDigs_ok h4]
    rfl
/-- The number that known digits spell. -/
def litV (acc : Nat) : List SI → Option Nat
  | [] => some acc
  | .lit (.ofNat c) :: r => bif Nat.ble 48 c && Nat.ble c 57 then litV (acc * 10 + (c - 48)) r else none
  | _ => none
theorem litV_ok (ν : Int) : ∀ {l : List SI} {acc v : Nat}, litV acc l = some v → Lib.decFrom acc (l.map (byteOfSI ν)) = some v ∧ ∀ x ∈ l, 48 ≤ (byteOfSI ν x).toNat ∧ (byteOfSI ν x).toNat ≤ 57
  | [], acc, v, h => by simp only [litV] at h; exact ⟨h, by simp⟩
  | .lit (.ofNat c) :: r, acc, v, h => by
    simp only [litV] at h
    cases hb : (Nat.ble 48 c && Nat.ble c 57) with
    | false => rw [hb] at h; cases h
    | true =>
      rw [hb] at h
      simp only [cond_true] at h
      simp only [Bool.and_eq_true, Nat.ble_eq] at hb
      obtain ⟨h1, h2⟩ := litV_ok ν h
      have hc : (byteOfSI ν (.lit (.ofNat c))).toNat = c := by
        show (UInt8.ofNat ((c : Int)).toNat).toNat = c
        simp
        omega
      refine ⟨?_, ?_⟩
      · simp only [List.map_cons, Lib.decFrom, Lib.digitVal, hc, hb.1, hb.2, and_self, if_true]
        exact h1
      · intro x hx
        rcases List.mem_cons.1 hx with rfl | hx
        · rw [hc]; exact hb
        · exact h2 x hx
  | .lit (.negSucc c) :: r, acc, v, h => by simp [litV] at h
  | .lin _ _ :: r, acc, v, h => by simp [litV] at h
  | .dig _ _ _ :: r, acc, v, h => by simp [litV] at h
theorem atoi_dec {l : List UInt8} {v : Nat} (hne : l ≠ []) (hd : ∀ x ∈ l, 48 ≤ x.toNat ∧ x.toNat ≤ 57) (h : Lib.decFrom 0 l = some v) : Lib.atoi l = some (v : Int) := by
  cases l with
  | nil => exact absurd rfl hne
  | cons x r =>
    have hx := hd x (by simp)
    have n45 : (x == 45) = false := by
      rw [beq_eq_false_iff_ne]; rintro rfl; have : (45 : UInt8).toNat = 45 := rfl; omega
    have n43 : (x == 43) = false := by
      rw [beq_eq_false_iff_ne]; rintro rfl; have : (43 : UInt8).toNat = 43 := rfl; omega
    unfold Lib.atoi Lib.decNat
    simp [n45, n43, h]
theorem digsN_dec (u : Nat) : ∀ (d acc : Nat), Lib.decFrom acc (digsN u d) = some (acc * 10 ^ d + u % 10 ^ d)
  | 0, acc => by simp [digsN, Lib.decFrom, Nat.mod_one]
  | d + 1, acc => by
    have hq : u / 10 ^ d % 10 < 10 := Nat.mod_lt _ (by omega)
    have hc : (UInt8.ofNat (48 + u / 10 ^ d % 10)).toNat = 48 + u / 10 ^ d % 10 := by
      simp
      omega
    show Lib.decFrom acc (UInt8.ofNat (48 + u / 10 ^ d % 10) :: digsN u d) = _
    simp only [Lib.decFrom, Lib.digitVal, hc]
    rw [if_pos (by omega)]
    simp only
    rw [show 48 + u / 10 ^ d % 10 - 48 = u / 10 ^ d % 10 by omega, digsN_dec u d, Nat.pow_succ, Nat.mod_mul, Nat.add_mul, Nat.mul_assoc, Nat.mul_comm (10 ^ d) 10, Nat.mul_comm (u / 10 ^ d % 10)]
    congr 1
    omega
theorem digsN_rng (u : Nat) : ∀ d, ∀ x ∈ digsN u d, 48 ≤ x.toNat ∧ x.toNat ≤ 57
  | 0, x, h => by simp [digsN] at h
  | d + 1, x, h => by
    rcases List.mem_cons.1 h with rfl | h
    · have hq : u / 10 ^ d % 10 < 10 := Nat.mod_lt _ (by omega)
      simp
      omega
    · exact digsN_rng u d x h
theorem nd_lt : ∀ (f u : Nat), u < 10 ^ f → u < 10 ^ nd f u
  | 0, u, h => h
  | f + 1, u, h => by
    unfold nd
    cases hb : Nat.blt u 10 with
    | true => simpa using hb
    | false =>
      simp only [cond_false]
      have hlt : u / 10 < 10 ^ f := by
        rw [Nat.pow_succ] at h
        exact Nat.div_lt_of_lt_mul (by omega)
      have := nd_lt f (u / 10) hlt
      show u < 10 ^ (nd f (u / 10) + 1)
      rw [Nat.pow_succ]
      omega
noncomputable def atoiO (c : Cx) : Orc := fun l _ k => match l with
  | [.str (.dig a b i :: r) n] => match (SI.lin a b).least c, (SI.lin a b).most c with
    | .ofNat lo, .ofNat hi => ifK (Nat.blt 0 n && Nat.ble n 12 && Nat.blt hi 1000000000000 && Nat.beq (nd 30 lo) (nd 30 hi) && Nat.beq (nd 30 hi) n && isDigs a b n (.dig a b i :: r)) (k (.tuple [.int .i64 (.lin a b), .nili])) false
    | _, _ => false
  | [.str (.lit z :: r) n] => ifK (Nat.ble n 12) (optK (litV 0 (.lit z :: r)) fun v => k (.tuple [.int .i64 (.lit (.ofNat v)), .nili])) false
  | _ => false
theorem below_bytes (w : World) (e : TypeId) (s : ByteArray) : RowKit.Below w.heap.size w (Lib.bytesWorld w e s) := by
  refine ⟨rfl, rfl, rfl, ?_, fun j hj => Lib.bytesWorld_at_old w e s j hj⟩
  rw [Lib.bytesWorld_size]; omega
theorem atoi_ok (hE : EnvOk E) {f : Nat} {fn : Func} {b : Code} (hf : E.P.funcs[f]? = some fn) (hb : fn.body = some b) (T : TypeId)
    (hc : ∀ (s : ByteArray) (n : Int), s.size ≤ 18 → Lib.atoi s.data.toList = some n → ∀ (w : World),
      Calls E.P f #[.string s] w fun e w' => e = .returned (.tuple #[.int .i64 n, .nilIface]) ∧ ∃ t, w' = Lib.bytesWorld w T t) : OrcOk E f (atoiO E.c) := by
  have key : ∀ (t : List SI) (n : Nat) (z : SI) (s : FS), n ≤ 18 → (∀ ν, E.c.has ν → bytesIn ν t → n = t.length → Lib.atoi (t.map (byteOfSI ν)) = some (z.ev ν)) → CallsTo E f [.str t n] s (.tuple [.int .i64 z, .nili]) s := by
    intro t n z s hn ht
    refine calls_of_enters hE hf hb fun ν hν m base w0 w vs hvs hR => ?_
    obtain ⟨u1, us1, e1, v1, r1⟩ := hvs
    have e3 : us1 = [] := r1
    subst e3
    obtain ⟨g1, g2, g3⟩ := v1
    subst g1
    have hvs' : vs = #[.string (mkS ν t)] := by rw [← Array.toList_inj]; exact e1
    rw [hvs']
    have e6 : (mkS ν t).data.toList = t.map (byteOfSI ν) := by simp [mkS]
    have e7 : (mkS ν t).size = t.length := by simp [mkS, ByteArray.size]
    refine Calls.mono (hc (mkS ν t) (z.ev ν) (by omega) (by rw [e6]; exact ht ν hν g2 g3) w) fun e w' he => ?_
    obtain ⟨rfl, q, rfl⟩ := he
    obtain ⟨r3, r4⟩ := rel_below hR (below_bytes w T q)
    exact ⟨m, ⟨_, rfl, _, _, rfl, rfl, _, _, rfl, rfl, rfl⟩, r3, r4⟩
  intro args s k h
  unfold atoiO at h
  split at h
  · rename_i a c i r n
    split at h
    · rename_i lo hi hlo hhi
      obtain ⟨h1, h2⟩ := ifK_left h
      simp only [Bool.and_eq_true] at h1
      obtain ⟨⟨⟨⟨⟨h10, h11⟩, h12⟩, h13⟩, h14⟩, h15⟩ := h1
      have h11 := Nat.le_of_ble_eq_true h11
      have h12 : hi < 1000000000000 := by simpa using h12
      have h13 := Nat.eq_of_beq_eq_true h13
      have h14 := Nat.eq_of_beq_eq_true h14
      refine ⟨_, h2, key _ _ _ s (by omega) fun ν hν _ hl => ?_⟩
      have hbd := SI.bounds hν (.lin a c)
      rw [hlo, hhi] at hbd
      have hev : (SI.lin a c).ev ν = a * ν + c := rfl
      rw [hev] at hbd ⊢
      have hb1 : (lo : Int) ≤ a * ν + c := hbd.1
      have hb2 : a * ν + c ≤ (hi : Int) := hbd.2
      have hu : lo ≤ (a * ν + c).toNat ∧ (a * ν + c).toNat ≤ hi := by omega
      have hn : nd 30 (a * ν + c).toNat = n := by
        have g1 := nd_mono 30 _ _ hu.1
        have g2 := nd_mono 30 _ _ hu.2
        omega
      have hlt := nd_lt 30 (a * ν + c).toNat (by omega)
      rw [hn] at hlt
      have hne : (SI.dig a c i :: r).map (byteOfSI ν) ≠ [] := by simp
      have e8 : (SI.dig a c i :: r).map (byteOfSI ν) = digsN (a * ν + c).toNat n := by rw [isDigs_ok h15, digs_ok ν a c _ rfl]
      rw [e8] at hne ⊢
      rw [atoi_dec hne (digsN_rng _ _) (digsN_dec _ _ _), Nat.mod_eq_of_lt hlt]
      congr 1
      omega
    · cases h
  · rename_i z r n
    obtain ⟨h1, h2⟩ := ifK_left h
    have h1 := Nat.le_of_ble_eq_true h1
    obtain ⟨v, h3, h4⟩ := optK_inv h2
    refine ⟨_, h4, key _ _ _ s (by omega) fun ν hν _ hl => ?_⟩
    obtain ⟨k1, k2⟩ := litV_ok ν h3
    exact atoi_dec (by simp) (by intro x hx; rcases List.mem_map.1 hx with ⟨y, hy, rfl⟩; exact k2 y hy) k1
  · cases h
end Go.Xc
end
