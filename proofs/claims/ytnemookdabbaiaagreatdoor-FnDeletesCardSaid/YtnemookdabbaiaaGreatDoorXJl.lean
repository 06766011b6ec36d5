/- FnDeletes: for every input the law returns true; its argument reads behind the call as it did before. No condition of its own; the package variables read as the row lists them. -/
import Derived.Test.YtnemookdabbaiaaGreatDoorXJa
import Derived.Test.YtnemookdabbaiaaGreatDoorXJb
import Derived.Test.YtnemookdabbaiaaGreatDoorXJc
import Derived.Test.YtnemookdabbaiaaGreatDoorXJd
import Derived.Test.YtnemookdabbaiaaGreatDoorXJe
import Derived.Test.YtnemookdabbaiaaGreatDoorXJf
import Derived.Test.YtnemookdabbaiaaGreatDoorYh
namespace Go.Proofs.YtnemookdabbaiaaGreatDoor.LwDeletes
open Go Go.ChangeShapes Go.WideShapes Go.ChangeAt Go.RowKit Go.Xc

def Out (W : World) (e : Ending) (w' : World) : Prop := e = .returned (.bool true) ∧ Below W.heap.size W w'
def Dig (k : Int) (l : List SI) (W : World) (e : Ending) (w' : World) : Prop := e = .returned (.string (mkS k l)) ∧ Below W.heap.size W w'
theorem calledZ {c : Cx} {n f : Nat} {args : List FV} {v : FV} (hp : plainV v = true) (ho : ((fiZ c) f).orc.isNone = true)
    (h : callOf (fiZ c) (execF (fiZ c) n) f args ⟨.lf, .h⟩ (fun u _ => feq u v) = true) {ν : Int} (hν : c.has ν) {w : World} {vs : Array Value} (hvs : VRs ν (fun _ => none) args vs.toList) (hw : TabAt w) :
    Calls Tryz.prog f vs w fun e w' => (∃ u, e = .returned u ∧ VR ν (fun _ => none) v u) ∧ Below w.heap.size w w' := by
  have e : (EZ c).P = Tryz.prog := by simp only [EZ]
  have hν' : (EZ c).c.has ν := by simp only [EZ]; exact hν
  rcases fiZ_ok c f with ⟨g, h1, _⟩ | ⟨h1, h2 | h2⟩
  · rw [h1] at ho; cases ho
  · have := called (env_ok c) (fiZ_ok c) h2 h1 hp h hν' hvs hw
    rw [e] at this
    exact this
  · exfalso
    unfold callOf at h
    rw [h1, h2] at h
    obtain ⟨_, h⟩ := ifK_left (show ifK _ _ false = true from h)
    have hb := (exec_ok (env_ok c) (draw_ok (env_ok c)) (fiZ_ok c) n).2.2
    rw [hb] at h
    cases h
theorem t2_of {k : Int} {a : Act} (t : TR0 k N [(2, .bool true)] a) : a.tmps.getD 2 undef = .bool true := t.at_ 2 (.bool true) (by simp)
theorem tr_str {k : Int} {l : List SI} {n : Nat} {s : ByteArray} {a : Act} (h1 : a.tmps.size = 39) (h2 : a.defers = []) (h3 : a.tmps.getD 3 undef = .string s) (hs : s = mkS k l) (hb : bytesIn k l) (hn : n = l.length) : TR0 k N [(3, .str l n)] a := by
  refine ⟨by rw [h1]; exact Nat.le_refl _, h2, fun t v h => ?_⟩
  simp only [List.mem_cons, Prod.mk.injEq, List.not_mem_nil, or_false] at h
  obtain ⟨rfl, rfl⟩ := h
  exact ⟨by rw [h3, hs], hb, hn⟩
theorem dig_0 {W : World} (hw : TabAt W) : Calls Tryz.prog 13 #[.int .i64 0] W (Dig 0 ([.lit 48]) W) :=
  (calledZ (ν := 0) rfl o_0 d_0 ⟨by decide, by decide⟩ (vs := #[.int .i64 0]) ⟨_, _, rfl, rfl, rfl⟩ hw).mono fun e w' ⟨⟨u, hu, hv⟩, hb⟩ => by
    obtain ⟨h1, _, _⟩ := hv
    exact ⟨by rw [hu, h1], hb⟩
set_option maxRecDepth 100000 in
theorem walk_0 {W : World} {v : Value} (hb : Calls Tryz.prog 11 #[v] W fun e w' => e = .returned (.bool false) ∧ w' = W) (hk : Calls Tryz.prog 12 #[v, .int .i64 2] W fun e w' => e = .returned (.int .i64 0) ∧ w' = W) (hw : TabAt W) : Calls Tryz.prog 4 #[v] W (Out W) := by
  have hd := dig_0 hw
  have HW := Lib.hid hw
  clear hw
  go_enter Tryz.func4, Tryz.ntmps4
  go_upto_region 4 with (first | (go_at_call 11; refine hb.mono ?_; rintro e w' ⟨rfl, rfl⟩) | (go_at_call 12; refine hk.mono ?_; rintro e w' ⟨rfl, rfl⟩) | (go_at_call 13; refine hd.mono ?_; rintro e w' ⟨rfl, HB0⟩; have HB := Lib.hid HB0; clear HB0))
  rename_i W0 K hK
  have hT : TabAt _ := HW.out.below HB.out
  refine wp_mono (c := c4) (pieceZ p4_0 (by decide) rfl rfl (ν := 0) ⟨by decide, by decide⟩ (tr_str rfl rfl rfl rfl (fun s hs => by simp only [List.mem_cons, List.not_mem_nil, or_false] at hs; subst hs; exact ⟨by decide, by decide⟩) rfl) hT (Q := Exit.then (fun a w => c5.wp Tryz.prog (bodyPost Tryz.prog Tryz.f4 (Out W0)) a w) (bodyPost Tryz.prog Tryz.f4 (Out W0))) fun a1 w1 t1 b1 => ?_) fun e a w h => ?_
  · refine pieceZ p5_0 (by decide) rfl rfl (ν := 0) ⟨by decide, by decide⟩ t1 (hT.below b1) fun a2 w2 t2 b2 => fin_true rfl t2.defers (t2_of t2) ⟨rfl, ?_⟩
    exact (HB.out.trans (b1.mono HB.out.size)).trans (b2.mono (Nat.le_trans HB.out.size b1.size))
  · cases e with
    | normal => exact hK a w h
    | exit i => exact h
    | goto l => exact h
    | ret => exact h
    | panic c => exact h
    | outgrown => exact h
theorem dig_1 {W : World} (hw : TabAt W) : Calls Tryz.prog 13 #[.int .i64 1] W (Dig 0 ([.lit 49]) W) :=
  (calledZ (ν := 0) rfl o_1 d_1 ⟨by decide, by decide⟩ (vs := #[.int .i64 1]) ⟨_, _, rfl, rfl, rfl⟩ hw).mono fun e w' ⟨⟨u, hu, hv⟩, hb⟩ => by
    obtain ⟨h1, _, _⟩ := hv
    exact ⟨by rw [hu, h1], hb⟩
set_option maxRecDepth 100000 in
theorem walk_1 {W : World} {v : Value} (hb : Calls Tryz.prog 11 #[v] W fun e w' => e = .returned (.bool false) ∧ w' = W) (hk : Calls Tryz.prog 12 #[v, .int .i64 2] W fun e w' => e = .returned (.int .i64 1) ∧ w' = W) (hw : TabAt W) : Calls Tryz.prog 4 #[v] W (Out W) := by
  have hd := dig_1 hw
  have HW := Lib.hid hw
  clear hw
  go_enter Tryz.func4, Tryz.ntmps4
  go_upto_region 4 with (first | (go_at_call 11; refine hb.mono ?_; rintro e w' ⟨rfl, rfl⟩) | (go_at_call 12; refine hk.mono ?_; rintro e w' ⟨rfl, rfl⟩) | (go_at_call 13; refine hd.mono ?_; rintro e w' ⟨rfl, HB0⟩; have HB := Lib.hid HB0; clear HB0))
  rename_i W0 K hK
  have hT : TabAt _ := HW.out.below HB.out
  refine wp_mono (c := c4) (pieceZ p4_1 (by decide) rfl rfl (ν := 0) ⟨by decide, by decide⟩ (tr_str rfl rfl rfl rfl (fun s hs => by simp only [List.mem_cons, List.not_mem_nil, or_false] at hs; subst hs; exact ⟨by decide, by decide⟩) rfl) hT (Q := Exit.then (fun a w => c5.wp Tryz.prog (bodyPost Tryz.prog Tryz.f4 (Out W0)) a w) (bodyPost Tryz.prog Tryz.f4 (Out W0))) fun a1 w1 t1 b1 => ?_) fun e a w h => ?_
  · refine pieceZ p5_1 (by decide) rfl rfl (ν := 0) ⟨by decide, by decide⟩ t1 (hT.below b1) fun a2 w2 t2 b2 => fin_true rfl t2.defers (t2_of t2) ⟨rfl, ?_⟩
    exact (HB.out.trans (b1.mono HB.out.size)).trans (b2.mono (Nat.le_trans HB.out.size b1.size))
  · cases e with
    | normal => exact hK a w h
    | exit i => exact h
    | goto l => exact h
    | ret => exact h
    | panic c => exact h
    | outgrown => exact h
theorem dig_2 {W : World} (hw : TabAt W) : Calls Tryz.prog 13 #[.int .i64 2] W (Dig 0 ([.lit 50]) W) :=
  (calledZ (ν := 0) rfl o_2 d_2 ⟨by decide, by decide⟩ (vs := #[.int .i64 2]) ⟨_, _, rfl, rfl, rfl⟩ hw).mono fun e w' ⟨⟨u, hu, hv⟩, hb⟩ => by
    obtain ⟨h1, _, _⟩ := hv
    exact ⟨by rw [hu, h1], hb⟩
set_option maxRecDepth 100000 in
theorem walk_2 {W : World} {v : Value} (hb : Calls Tryz.prog 11 #[v] W fun e w' => e = .returned (.bool false) ∧ w' = W) (hk : Calls Tryz.prog 12 #[v, .int .i64 2] W fun e w' => e = .returned (.int .i64 2) ∧ w' = W) (hw : TabAt W) : Calls Tryz.prog 4 #[v] W (Out W) := by
  have hd := dig_2 hw
  have HW := Lib.hid hw
  clear hw
  go_enter Tryz.func4, Tryz.ntmps4
  go_upto_region 4 with (first | (go_at_call 11; refine hb.mono ?_; rintro e w' ⟨rfl, rfl⟩) | (go_at_call 12; refine hk.mono ?_; rintro e w' ⟨rfl, rfl⟩) | (go_at_call 13; refine hd.mono ?_; rintro e w' ⟨rfl, HB0⟩; have HB := Lib.hid HB0; clear HB0))
  rename_i W0 K hK
  have hT : TabAt _ := HW.out.below HB.out
  refine wp_mono (c := c4) (pieceZ p4_2 (by decide) rfl rfl (ν := 0) ⟨by decide, by decide⟩ (tr_str rfl rfl rfl rfl (fun s hs => by simp only [List.mem_cons, List.not_mem_nil, or_false] at hs; subst hs; exact ⟨by decide, by decide⟩) rfl) hT (Q := Exit.then (fun a w => c5.wp Tryz.prog (bodyPost Tryz.prog Tryz.f4 (Out W0)) a w) (bodyPost Tryz.prog Tryz.f4 (Out W0))) fun a1 w1 t1 b1 => ?_) fun e a w h => ?_
  · refine pieceZ p5_2 (by decide) rfl rfl (ν := 0) ⟨by decide, by decide⟩ t1 (hT.below b1) fun a2 w2 t2 b2 => fin_true rfl t2.defers (t2_of t2) ⟨rfl, ?_⟩
    exact (HB.out.trans (b1.mono HB.out.size)).trans (b2.mono (Nat.le_trans HB.out.size b1.size))
  · cases e with
    | normal => exact hK a w h
    | exit i => exact h
    | goto l => exact h
    | ret => exact h
    | panic c => exact h
    | outgrown => exact h
theorem dig_3 {k : Int} (g0 : 3 ≤ k) (g1 : k ≤ 4) {W : World} (hw : TabAt W) : Calls Tryz.prog 13 #[.int .i64 k] W (Dig k (digs (1) (0) 1) W) :=
  (calledZ (ν := k) rfl o_3 d_3 ⟨g0, g1⟩ (vs := #[.int .i64 k]) ⟨_, _, rfl, by show Value.int .i64 k = .int .i64 (1 * k + 0); congr 1; omega, rfl⟩ hw).mono fun e w' ⟨⟨u, hu, hv⟩, hb⟩ => by
    obtain ⟨h1, _, _⟩ := hv
    exact ⟨by rw [hu, h1], hb⟩
set_option maxRecDepth 100000 in
theorem walk_3 {k : Int} (g0 : 3 ≤ k) (g1 : k ≤ 4) {W : World} {v : Value} (hb : Calls Tryz.prog 11 #[v] W fun e w' => e = .returned (.bool false) ∧ w' = W) (hk : Calls Tryz.prog 12 #[v, .int .i64 2] W fun e w' => e = .returned (.int .i64 k) ∧ w' = W) (hw : TabAt W) : Calls Tryz.prog 4 #[v] W (Out W) := by
  have hd := dig_3 g0 g1 hw
  have HW := Lib.hid hw
  clear hw
  go_enter Tryz.func4, Tryz.ntmps4
  go_upto_region 4 with (first | (go_at_call 11; refine hb.mono ?_; rintro e w' ⟨rfl, rfl⟩) | (go_at_call 12; refine hk.mono ?_; rintro e w' ⟨rfl, rfl⟩) | (go_at_call 13; refine hd.mono ?_; rintro e w' ⟨rfl, HB0⟩; have HB := Lib.hid HB0; clear HB0))
  rename_i W0 K hK
  have hT : TabAt _ := HW.out.below HB.out
  refine wp_mono (c := c4) (pieceZ p4_3 (by decide) rfl rfl (ν := k) ⟨g0, g1⟩ (tr_str rfl rfl rfl rfl (digs_bytes _ _ _ _) rfl) hT (Q := Exit.then (fun a w => c5.wp Tryz.prog (bodyPost Tryz.prog Tryz.f4 (Out W0)) a w) (bodyPost Tryz.prog Tryz.f4 (Out W0))) fun a1 w1 t1 b1 => ?_) fun e a w h => ?_
  · refine pieceZ p5_3 (by decide) rfl rfl (ν := k) ⟨g0, g1⟩ t1 (hT.below b1) fun a2 w2 t2 b2 => fin_true rfl t2.defers (t2_of t2) ⟨rfl, ?_⟩
    exact (HB.out.trans (b1.mono HB.out.size)).trans (b2.mono (Nat.le_trans HB.out.size b1.size))
  · cases e with
    | normal => exact hK a w h
    | exit i => exact h
    | goto l => exact h
    | ret => exact h
    | panic c => exact h
    | outgrown => exact h
theorem dig_4 {W : World} (hw : TabAt W) : Calls Tryz.prog 13 #[.int .i64 5] W (Dig 0 ([.lit 53]) W) :=
  (calledZ (ν := 0) rfl o_4 d_4 ⟨by decide, by decide⟩ (vs := #[.int .i64 5]) ⟨_, _, rfl, rfl, rfl⟩ hw).mono fun e w' ⟨⟨u, hu, hv⟩, hb⟩ => by
    obtain ⟨h1, _, _⟩ := hv
    exact ⟨by rw [hu, h1], hb⟩
set_option maxRecDepth 100000 in
theorem walk_4 {W : World} {v : Value} (hb : Calls Tryz.prog 11 #[v] W fun e w' => e = .returned (.bool false) ∧ w' = W) (hk : Calls Tryz.prog 12 #[v, .int .i64 2] W fun e w' => e = .returned (.int .i64 5) ∧ w' = W) (hw : TabAt W) : Calls Tryz.prog 4 #[v] W (Out W) := by
  have hd := dig_4 hw
  have HW := Lib.hid hw
  clear hw
  go_enter Tryz.func4, Tryz.ntmps4
  go_upto_region 4 with (first | (go_at_call 11; refine hb.mono ?_; rintro e w' ⟨rfl, rfl⟩) | (go_at_call 12; refine hk.mono ?_; rintro e w' ⟨rfl, rfl⟩) | (go_at_call 13; refine hd.mono ?_; rintro e w' ⟨rfl, HB0⟩; have HB := Lib.hid HB0; clear HB0))
  rename_i W0 K hK
  have hT : TabAt _ := HW.out.below HB.out
  refine wp_mono (c := c4) (pieceZ p4_4 (by decide) rfl rfl (ν := 0) ⟨by decide, by decide⟩ (tr_str rfl rfl rfl rfl (fun s hs => by simp only [List.mem_cons, List.not_mem_nil, or_false] at hs; subst hs; exact ⟨by decide, by decide⟩) rfl) hT (Q := Exit.then (fun a w => c5.wp Tryz.prog (bodyPost Tryz.prog Tryz.f4 (Out W0)) a w) (bodyPost Tryz.prog Tryz.f4 (Out W0))) fun a1 w1 t1 b1 => ?_) fun e a w h => ?_
  · refine pieceZ p5_4 (by decide) rfl rfl (ν := 0) ⟨by decide, by decide⟩ t1 (hT.below b1) fun a2 w2 t2 b2 => fin_true rfl t2.defers (t2_of t2) ⟨rfl, ?_⟩
    exact (HB.out.trans (b1.mono HB.out.size)).trans (b2.mono (Nat.le_trans HB.out.size b1.size))
  · cases e with
    | normal => exact hK a w h
    | exit i => exact h
    | goto l => exact h
    | ret => exact h
    | panic c => exact h
    | outgrown => exact h
theorem dig_5 {k : Int} (g0 : 6 ≤ k) (g1 : k ≤ 9) {W : World} (hw : TabAt W) : Calls Tryz.prog 13 #[.int .i64 k] W (Dig k (digs (1) (0) 1) W) :=
  (calledZ (ν := k) rfl o_5 d_5 ⟨g0, g1⟩ (vs := #[.int .i64 k]) ⟨_, _, rfl, by show Value.int .i64 k = .int .i64 (1 * k + 0); congr 1; omega, rfl⟩ hw).mono fun e w' ⟨⟨u, hu, hv⟩, hb⟩ => by
    obtain ⟨h1, _, _⟩ := hv
    exact ⟨by rw [hu, h1], hb⟩
set_option maxRecDepth 100000 in
theorem walk_5 {k : Int} (g0 : 6 ≤ k) (g1 : k ≤ 9) {W : World} {v : Value} (hb : Calls Tryz.prog 11 #[v] W fun e w' => e = .returned (.bool false) ∧ w' = W) (hk : Calls Tryz.prog 12 #[v, .int .i64 2] W fun e w' => e = .returned (.int .i64 k) ∧ w' = W) (hw : TabAt W) : Calls Tryz.prog 4 #[v] W (Out W) := by
  have hd := dig_5 g0 g1 hw
  have HW := Lib.hid hw
  clear hw
  go_enter Tryz.func4, Tryz.ntmps4
  go_upto_region 4 with (first | (go_at_call 11; refine hb.mono ?_; rintro e w' ⟨rfl, rfl⟩) | (go_at_call 12; refine hk.mono ?_; rintro e w' ⟨rfl, rfl⟩) | (go_at_call 13; refine hd.mono ?_; rintro e w' ⟨rfl, HB0⟩; have HB := Lib.hid HB0; clear HB0))
  rename_i W0 K hK
  have hT : TabAt _ := HW.out.below HB.out
  refine wp_mono (c := c4) (pieceZ p4_5 (by decide) rfl rfl (ν := k) ⟨g0, g1⟩ (tr_str rfl rfl rfl rfl (digs_bytes _ _ _ _) rfl) hT (Q := Exit.then (fun a w => c5.wp Tryz.prog (bodyPost Tryz.prog Tryz.f4 (Out W0)) a w) (bodyPost Tryz.prog Tryz.f4 (Out W0))) fun a1 w1 t1 b1 => ?_) fun e a w h => ?_
  · refine pieceZ p5_5 (by decide) rfl rfl (ν := k) ⟨g0, g1⟩ t1 (hT.below b1) fun a2 w2 t2 b2 => fin_true rfl t2.defers (t2_of t2) ⟨rfl, ?_⟩
    exact (HB.out.trans (b1.mono HB.out.size)).trans (b2.mono (Nat.le_trans HB.out.size b1.size))
  · cases e with
    | normal => exact hK a w h
    | exit i => exact h
    | goto l => exact h
    | ret => exact h
    | panic c => exact h
    | outgrown => exact h
theorem dig_6 {k : Int} (g0 : 10 ≤ k) (g1 : k ≤ 99) {W : World} (hw : TabAt W) : Calls Tryz.prog 13 #[.int .i64 k] W (Dig k (digs (1) (0) 2) W) :=
  (calledZ (ν := k) rfl o_6 d_6 ⟨g0, g1⟩ (vs := #[.int .i64 k]) ⟨_, _, rfl, by show Value.int .i64 k = .int .i64 (1 * k + 0); congr 1; omega, rfl⟩ hw).mono fun e w' ⟨⟨u, hu, hv⟩, hb⟩ => by
    obtain ⟨h1, _, _⟩ := hv
    exact ⟨by rw [hu, h1], hb⟩
set_option maxRecDepth 100000 in
theorem walk_6 {k : Int} (g0 : 10 ≤ k) (g1 : k ≤ 99) {W : World} {v : Value} (hb : Calls Tryz.prog 11 #[v] W fun e w' => e = .returned (.bool false) ∧ w' = W) (hk : Calls Tryz.prog 12 #[v, .int .i64 2] W fun e w' => e = .returned (.int .i64 k) ∧ w' = W) (hw : TabAt W) : Calls Tryz.prog 4 #[v] W (Out W) := by
  have hd := dig_6 g0 g1 hw
  have HW := Lib.hid hw
  clear hw
  go_enter Tryz.func4, Tryz.ntmps4
  go_upto_region 4 with (first | (go_at_call 11; refine hb.mono ?_; rintro e w' ⟨rfl, rfl⟩) | (go_at_call 12; refine hk.mono ?_; rintro e w' ⟨rfl, rfl⟩) | (go_at_call 13; refine hd.mono ?_; rintro e w' ⟨rfl, HB0⟩; have HB := Lib.hid HB0; clear HB0))
  rename_i W0 K hK
  have hT : TabAt _ := HW.out.below HB.out
  refine wp_mono (c := c4) (pieceZ p4_6 (by decide) rfl rfl (ν := k) ⟨g0, g1⟩ (tr_str rfl rfl rfl rfl (digs_bytes _ _ _ _) rfl) hT (Q := Exit.then (fun a w => c5.wp Tryz.prog (bodyPost Tryz.prog Tryz.f4 (Out W0)) a w) (bodyPost Tryz.prog Tryz.f4 (Out W0))) fun a1 w1 t1 b1 => ?_) fun e a w h => ?_
  · refine pieceZ p5_6 (by decide) rfl rfl (ν := k) ⟨g0, g1⟩ t1 (hT.below b1) fun a2 w2 t2 b2 => fin_true rfl t2.defers (t2_of t2) ⟨rfl, ?_⟩
    exact (HB.out.trans (b1.mono HB.out.size)).trans (b2.mono (Nat.le_trans HB.out.size b1.size))
  · cases e with
    | normal => exact hK a w h
    | exit i => exact h
    | goto l => exact h
    | ret => exact h
    | panic c => exact h
    | outgrown => exact h
theorem dig_7 {k : Int} (g0 : 100 ≤ k) (g1 : k ≤ 255) {W : World} (hw : TabAt W) : Calls Tryz.prog 13 #[.int .i64 k] W (Dig k (digs (1) (0) 3) W) :=
  (calledZ (ν := k) rfl o_7 d_7 ⟨g0, g1⟩ (vs := #[.int .i64 k]) ⟨_, _, rfl, by show Value.int .i64 k = .int .i64 (1 * k + 0); congr 1; omega, rfl⟩ hw).mono fun e w' ⟨⟨u, hu, hv⟩, hb⟩ => by
    obtain ⟨h1, _, _⟩ := hv
    exact ⟨by rw [hu, h1], hb⟩
set_option maxRecDepth 100000 in
theorem walk_7 {k : Int} (g0 : 100 ≤ k) (g1 : k ≤ 255) {W : World} {v : Value} (hb : Calls Tryz.prog 11 #[v] W fun e w' => e = .returned (.bool false) ∧ w' = W) (hk : Calls Tryz.prog 12 #[v, .int .i64 2] W fun e w' => e = .returned (.int .i64 k) ∧ w' = W) (hw : TabAt W) : Calls Tryz.prog 4 #[v] W (Out W) := by
  have hd := dig_7 g0 g1 hw
  have HW := Lib.hid hw
  clear hw
  go_enter Tryz.func4, Tryz.ntmps4
  go_upto_region 4 with (first | (go_at_call 11; refine hb.mono ?_; rintro e w' ⟨rfl, rfl⟩) | (go_at_call 12; refine hk.mono ?_; rintro e w' ⟨rfl, rfl⟩) | (go_at_call 13; refine hd.mono ?_; rintro e w' ⟨rfl, HB0⟩; have HB := Lib.hid HB0; clear HB0))
  rename_i W0 K hK
  have hT : TabAt _ := HW.out.below HB.out
  refine wp_mono (c := c4) (pieceZ p4_7 (by decide) rfl rfl (ν := k) ⟨g0, g1⟩ (tr_str rfl rfl rfl rfl (digs_bytes _ _ _ _) rfl) hT (Q := Exit.then (fun a w => c5.wp Tryz.prog (bodyPost Tryz.prog Tryz.f4 (Out W0)) a w) (bodyPost Tryz.prog Tryz.f4 (Out W0))) fun a1 w1 t1 b1 => ?_) fun e a w h => ?_
  · refine pieceZ p5_7 (by decide) rfl rfl (ν := k) ⟨g0, g1⟩ t1 (hT.below b1) fun a2 w2 t2 b2 => fin_true rfl t2.defers (t2_of t2) ⟨rfl, ?_⟩
    exact (HB.out.trans (b1.mono HB.out.size)).trans (b2.mono (Nat.le_trans HB.out.size b1.size))
  · cases e with
    | normal => exact hK a w h
    | exit i => exact h
    | goto l => exact h
    | ret => exact h
    | panic c => exact h
    | outgrown => exact h
set_option maxRecDepth 100000 in
theorem walk {W : World} {v : Value} (hv : ByteArg W v) (hw : TabAt W) : Calls Tryz.prog 4 #[v] W (Out W) := by
  obtain ⟨b, hb⟩ := big_says hv
  obtain ⟨k, h0, h1, hk⟩ := at_says hv
  unfold BigSays at hb
  unfold AtSays at hk
  clear hv
  cases b with
  | true =>
    go_enter Tryz.func4, Tryz.ntmps4
    go_wp2_with (first | (go_at_call 11; refine hb.mono ?_; rintro e w' ⟨rfl, rfl⟩))
    all_goals go_ret
    all_goals exact ⟨rfl, Below.refl _ _⟩
  | false =>
    by_cases e0 : k = 0
    · subst e0; exact walk_0 hb hk hw
    by_cases e1 : k = 1
    · subst e1; exact walk_1 hb hk hw
    by_cases e2 : k = 2
    · subst e2; exact walk_2 hb hk hw
    by_cases e3 : k ≤ 4
    · exact walk_3 (by omega) e3 hb hk hw
    by_cases e4 : k = 5
    · subst e4; exact walk_4 hb hk hw
    by_cases e5 : k ≤ 9
    · exact walk_5 (by omega) e5 hb hk hw
    by_cases e6 : k ≤ 99
    · exact walk_6 (by omega) e6 hb hk hw
    exact walk_7 (by omega) (by omega) hb hk hw

set_option maxRecDepth 100000 in
theorem contract (H : Type) (enc : TypeId × Value → H) (W : World) (base : Nat) (args : Array Value) (ds gs : List (DataW H)) (before : List MemPlace)
    (hval : ∀ (j : Nat) t v, Tryz.f4.params[j]? = some t → args[j]? = some v → Value.okWide Tryz.prog W .any base t v)
    (hW : DataW.Whole enc Tryz.prog Tryz.f4.params.toList Rows.fnDeletesSpec.vars false W args.toList ds gs before) (hL : laidMetH Tryz.prog Rows.fnDeletesRow.laid W) :
    Calls Tryz.prog 4 args W fun e W' => ∃ v, e = .returned v ∧ Rows.fnDeletesSpec.post enc Tryz.prog Tryz.f4 false true false false W args v W' := by
  have hW' := hW
  obtain ⟨p, q, hA0, hV, rfl, hfz, hnd⟩ := hW
  have hA : DataW.TrodAll enc Tryz.prog W 0 (fun _ => true) true Tryz.f4.params.toList args.toList ds p := hA0
  rw [Tryz.params4] at hA hval
  obtain ⟨v0, d0, rfl, rfl, h0⟩ := trodAll_one hA
  obtain ⟨rfl, rfl⟩ := trodVars_none hV
  have h0k := h0
  obtain ⟨fuel, hf⟩ := h0
  clear hA0
  simp only [List.append_nil] at hW'
  have hlt : ∀ x ∈ p, x.block < W.heap.size := fun x hx => by simpa using hW'.lt x hx
  have hargs : ∀ (W' : World), Below W.heap.size W W' → DataW.Trod enc Tryz.prog W' 0 (fun b => decide (b < W.heap.size)) true 22 v0 d0 p :=
    fun W' hn => Below.trod laidOut (by kernel_rfl) (of_decide_eq_true (by kernel_rfl)) h0k hn hlt
  have hb := byteArg_of (hval 0 22 v0 rfl rfl) hf
  refine (walk hb (tab_of hL)).mono fun e W' ⟨he, hg⟩ => ?_
  subst he
  exact ⟨_, rfl, ⟨_, _, _, [], _, [], hW', trodAll_mk1 (shut_bool Tryz.underlying4 true), trodAll_mk1 (hargs _ hg), rfl, hg.frame _, fun h => by cases h⟩⟩

theorem reads (os : Os) {H : Type} (enc : TypeId × Value → H) : ∃ places, DataW.whole enc Tryz.prog ((World.doorLaid Tryz.prog 400 os).forCall (fun _ _ => 0) ⟨#[], #[.slice none 0 0], []⟩).memory Tryz.f4.params.toList Rows.fnDeletesSpec.vars false #[Value.slice none 0 0].toList 8 = some ([.nil], [], places) :=
  ⟨[], by kernel_rfl⟩
theorem hok (os : Os) : Input.okWideB Tryz.checked.prog ((World.doorLaid Tryz.prog 400 os).forCall (fun _ _ => 0) ⟨#[], #[.slice none 0 0], []⟩) 4 ⟨#[], #[.slice none 0 0], []⟩ = true := by kernel_rfl
theorem sized (os : Os) {H : Type} (enc : TypeId × Value → H) : (OpenSpec.ofChange Rows.fnDeletesSpec).bare.sizedB enc Tryz.prog Tryz.f4 false ((World.doorLaid Tryz.prog 400 os).forCall (fun _ _ => 0) ⟨#[], #[.slice none 0 0], []⟩).memory #[.slice none 0 0] 8 = true := by kernel_rfl
theorem noInit : Tryz.checked.prog.inits.idxOf? 4 = none := by kernel_rfl
set_option maxRecDepth 100000 in
theorem lifted (os : Os) (started : os.Started) (H : Type) (enc : TypeId × Value → H) (F : Stop.Interp) :
    ReturnsInHanded {} Tryz.checked os 4 .any ((OpenSpec.ofChange Rows.fnDeletesSpec).preRow enc Tryz.prog Tryz.f4 Rows.fnDeletesRow.domain false Rows.fnDeletesRow.laid) (((OpenSpec.ofChange Rows.fnDeletesSpec).at F).post enc Tryz.prog Tryz.f4 false true false false) := by
  obtain ⟨places, hx⟩ := reads os enc
  refine returnsInHanded_of_row (C := Tryz.checked) (s := OpenSpec.ofChange Rows.fnDeletesSpec) own started noInit Tryz.func4
    (witness_row_atRef (enc := enc) (C := Tryz.checked) false (World.doorLaid Tryz.prog 400 os) #[.slice none 0 0] rfl (start_vars os) (start_heap os) (hok os)
      (OpenSpec.preRow_of_cond 8 hx rfl (fun k hk => by cases hk) (sized os enc) (door_met os _))) ?_
  intro W base args ds gs before hval hW _ _ _ hL _ _
  exact contract H enc W base args ds gs before hval hW hL
theorem clos : Tryz.pinned.checked.prog.closure 4 = [4, 11, 12, 13, 16, 19, 32, 67, 136, 187, 188, 255, 254, 256, 189, 190, 257, 258, 318, 319, 14, 17, 20, 33, 68, 137, 34, 69, 70, 81, 138, 71, 72, 139, 191, 259, 320, 321, 140, 192, 260, 193, 194, 261, 195, 73, 74, 75, 76, 141, 196, 21, 35, 22, 36, 37, 38, 77, 142, 39, 78, 147, 79, 143, 144, 145, 146, 23, 24, 40, 80, 41, 42, 82, 148, 197, 149, 150, 198, 262, 83, 151, 199, 263, 85, 153, 86, 119, 120, 169, 207, 274, 328, 329, 344, 357, 345, 275, 330, 346, 348, 347, 358, 349, 276, 331, 46, 89, 154, 200, 155, 201, 90, 91, 350, 122, 84, 152, 43, 44, 88, 87, 26, 47, 92, 156, 202, 48, 93, 25, 45, 18, 27, 49, 94, 53, 95, 111, 96, 159, 160, 99, 112, 110, 162, 205, 273, 204, 264, 270, 327, 265, 322, 266, 323, 324, 267, 325, 326, 343, 268, 269, 271, 272, 163, 157, 52, 107, 108, 109, 158, 203, 97, 98, 100, 50, 101, 103, 104, 105, 161, 102, 51, 106, 54, 55, 113, 115, 56, 114, 116, 121, 117, 118, 164, 57, 123, 165, 206, 166, 167, 15, 168, 170, 208, 171, 172, 209, 124, 173, 210, 211, 212, 174, 215, 214, 213, 277, 278, 332, 279, 280, 29, 59, 125, 63, 128, 176, 177, 126, 60, 61, 127, 62, 175, 216, 130, 178, 129, 224, 179, 180, 225, 226, 290, 338, 337, 227, 230, 287, 334, 333, 288, 336, 335, 284, 286, 222, 228, 229, 291, 292, 231, 293, 295, 340, 354, 355, 356, 232, 233, 294, 339, 351, 352, 353, 359, 234, 235, 217, 281, 219, 283, 218, 282, 220, 221, 285, 185, 223, 289, 64, 28, 58, 31, 65, 131, 181, 182, 66, 132, 133, 183, 184, 134, 135, 186, 236, 296, 237, 297, 298, 299, 300, 238, 249, 314, 301, 302, 239, 250, 307, 303, 304, 305, 241, 309, 308, 240, 306, 242, 310, 311, 342, 341, 312, 243, 244, 313, 245, 246, 247, 252, 248, 251, 315, 253, 316, 317, 30] := by kernel_rfl
theorem f1 : (Rows.fnDeletesRow.inPlace == Tryz.pinned.checked.prog.inPlace 4) = true := by unfold Program.inPlace; rw [clos]; kernel_rfl
theorem f2 : (Rows.fnDeletesRow.unfollowed == Tryz.pinned.checked.prog.unfollowed 4) = true := by unfold Program.unfollowed; rw [clos]; kernel_rfl
theorem f3 : (Rows.fnDeletesRow.recurses == Tryz.pinned.checked.prog.recurses 4) = true := by unfold Program.recurses Program.unfollowed; rw [clos]; kernel_rfl
theorem f4 : (Rows.fnDeletesRow.named == Tryz.pinned.checked.prog.varsNamed 4) = true := by unfold Program.varsNamed; rw [clos]; kernel_rfl
set_option maxRecDepth 100000 in
theorem facts : joinedFacts Tryz.pinned.checked.prog 4 Tryz.f4 (OpenSpec.ofChange Rows.fnDeletesSpec).bare Rows.fnDeletesRow = true := by
  unfold joinedFacts
  rw [f1, f2, f3, f4]
  kernel_rfl
theorem wrap : Tryz.f4.isWrapper Tryz.pinned.checked.prog Rows.fnDeletesRow.wrapper Rows.fnDeletesRow.mainSum := by
  unfold Func.isWrapper
  first | (rw [if_pos (by decide +kernel)]; kernel_rfl) | (rw [if_neg (by decide +kernel)]; exact ⟨rfl, rfl⟩)
set_option maxRecDepth 100000 in
theorem said : Rows.FnDeletesSaid :=
  OpenClaim.holds_of_cond 4 Tryz.f4 rfl rfl rfl rfl rfl rfl rfl ⟨rfl, rfl, rfl, rfl, rfl⟩ rfl rfl rfl rfl rfl (by kernel_rfl) Tryz.func4 facts
    (of_decide_eq_true (by kernel_rfl)) wrap
    (fun os started H enc _ F => by rw [OpenClaim.pre_eq_preRow]; exact lifted os started H enc F)
set_option maxRecDepth 100000 in
theorem plain (f : FuncId) (fn : Func) (hf : Tryz.pinned.checked.prog.funcNamed "loop.example/g00288/laws.FnDeletes" = some f) (hfn : Tryz.pinned.checked.prog.funcs[f]? = some fn) :
    true = Tryz.pinned.checked.prog.looks [] ∧ ∀ (j : Nat) t, fn.params[j]? = some t → Tryz.pinned.checked.prog.wantsStandIn t = false := by
  obtain rfl : f = 4 := Option.some.inj ((show Tryz.prog.funcNamed "loop.example/g00288/laws.FnDeletes" = some 4 by kernel_rfl).symm.trans hf) |>.symm
  obtain rfl : fn = Tryz.f4 := (Option.some.inj (Tryz.func4.symm.trans hfn)).symm
  refine ⟨by kernel_rfl, fun j t ht => ?_⟩
  rw [Tryz.params4] at ht
  obtain rfl : t = 22 := by simpa using Array.mem_of_getElem? ht
  exact (show Tryz.prog.wantsStandIn 22 = false by kernel_rfl)
theorem named : Tryz.pinned.checked.prog.funcNamed "loop.example/g00288/laws.FnDeletes" = some 4 := by kernel_rfl
theorem goes : Tryz.pinned.checked.prog.goes 4 = false := by unfold Program.goes Program.unfollowed; rw [clos]; kernel_rfl
set_option maxRecDepth 100000 in
theorem goesBy_of {P : Program} {c : OpenClaim} {f : FuncId} (hs : c.start = .entering) (hn : P.funcNamed c.func = some f) (hg : P.goes f = false) : false = c.goesBy P := by
  unfold OpenClaim.goesBy Program.goesAt Program.goesFrom
  rw [hs, hn]
  simp [hg]
theorem goesBy : false = Rows.fnDeletesRow.goesBy Tryz.pinned.checked.prog := goesBy_of rfl named goes
theorem byText : Rows.fnDeletesRow.wfByText (OpenSpec.ofChange Rows.fnDeletesSpec) = true := by kernel_rfl
set_option maxRecDepth 100000 in
/-- The tied card. -/
theorem card : Rows.FnDeletesCardSaid :=
  Claim7.holds_tied_plain_at (p := Tryz.pinned) (s := OpenSpec.ofChange Rows.fnDeletesSpec) (c := Rows.fnDeletesRow) .later [] [.data, .data, .data, .sentinel, .sentinel] true (true, "3fb557fa729faaca30da29cd43f6cec920fccce7b13d4175707add449f0e3c36") true
    said (fun _ h => by cases h) byText (fun _ h => by cases h) fnDeletes_row_tie rfl ⟨rfl, rfl⟩ mainIs rfl plain goesBy
end Go.Proofs.YtnemookdabbaiaaGreatDoor.LwDeletes
