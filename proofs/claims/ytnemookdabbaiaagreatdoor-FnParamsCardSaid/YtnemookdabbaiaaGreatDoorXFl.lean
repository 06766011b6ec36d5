/- FnParams: for every input the law returns true; its argument reads behind the call as it did before. No condition of its own; the package variables read as the row lists them. -/
import Derived.Test.YtnemookdabbaiaaGreatDoorXFa
import Derived.Test.YtnemookdabbaiaaGreatDoorXFb
import Derived.Test.YtnemookdabbaiaaGreatDoorXFc
import Derived.Test.YtnemookdabbaiaaGreatDoorXFd
import Derived.Test.YtnemookdabbaiaaGreatDoorXh
namespace Go.Proofs.YtnemookdabbaiaaGreatDoor.LwParams
open Go Go.ChangeShapes Go.WideShapes Go.ChangeAt Go.RowKit Go.Xc

def Out (W : World) (e : Ending) (w' : World) : Prop := e = .returned (.bool true) ∧ Below W.heap.size W w'
theorem tr_lit {k : Int} {a : Act} (h1 : a.tmps.size = 38) (h2 : a.defers = []) (h3 : a.tmps.getD 3 undef = .int .i64 k) : TR0 0 N [(3, .int .i64 (.lit k))] a := by
  refine ⟨by rw [h1]; exact Nat.le_refl _, h2, fun t v h => ?_⟩
  simp only [List.mem_cons, Prod.mk.injEq, List.not_mem_nil, or_false] at h
  obtain ⟨rfl, rfl⟩ := h
  exact h3
theorem tr_lin {k : Int} {a : Act} (h1 : a.tmps.size = 38) (h2 : a.defers = []) (h3 : a.tmps.getD 3 undef = .int .i64 k) : TR0 k N [(3, .int .i64 (.lin 1 (0)))] a := by
  refine ⟨by rw [h1]; exact Nat.le_refl _, h2, fun t v h => ?_⟩
  simp only [List.mem_cons, Prod.mk.injEq, List.not_mem_nil, or_false] at h
  obtain ⟨rfl, rfl⟩ := h
  show a.tmps.getD 3 undef = .int .i64 (1 * k + 0)
  rw [h3]; congr 1; omega
theorem t2_of {k : Int} {a : Act} (t : TR0 k N [(2, .bool true)] a) : a.tmps.getD 2 undef = .bool true := t.at_ 2 (.bool true) (by simp)
def Tail (a : Act) (w : World) (Q : Exit → Act → World → Prop) : Prop :=
  (∀ (a' : Act) (w' : World), a'.defers = [] → a'.tmps.getD 2 undef = .bool true → Below w.heap.size w w' → Q .ret a' w') → c4.wp Tryz.prog (Exit.then (fun a w => (c5).wp Tryz.prog Q a w) Q) a w
theorem tail_0 {a : Act} {w : World} {Q : Exit → Act → World → Prop} (h1 : a.tmps.size = 38) (h2 : a.defers = []) (h3 : a.tmps.getD 3 undef = .int .i64 0) (hw : TabAt w) : Tail a w Q := fun K => by
  refine pieceZ p4_0 (by decide) rfl rfl (ν := 0) ⟨by decide, by decide⟩ (tr_lit h1 h2 h3) hw fun a1 w1 t1 b1 => ?_
  refine pieceZ p5_0 (by decide) rfl rfl (ν := 0) ⟨by decide, by decide⟩ t1 (hw.below b1) fun a2 w2 t2 b2 => K a2 w2 t2.defers (t2_of t2) ?_
  exact (b1.trans (b2.mono b1.size))
theorem tail_1 {a : Act} {w : World} {Q : Exit → Act → World → Prop} (h1 : a.tmps.size = 38) (h2 : a.defers = []) (h3 : a.tmps.getD 3 undef = .int .i64 1) (hw : TabAt w) : Tail a w Q := fun K => by
  refine pieceZ p4_1 (by decide) rfl rfl (ν := 0) ⟨by decide, by decide⟩ (tr_lit h1 h2 h3) hw fun a1 w1 t1 b1 => ?_
  refine pieceZ p5_1 (by decide) rfl rfl (ν := 0) ⟨by decide, by decide⟩ t1 (hw.below b1) fun a2 w2 t2 b2 => K a2 w2 t2.defers (t2_of t2) ?_
  exact (b1.trans (b2.mono b1.size))
theorem tail_2 {a : Act} {w : World} {Q : Exit → Act → World → Prop} (h1 : a.tmps.size = 38) (h2 : a.defers = []) (h3 : a.tmps.getD 3 undef = .int .i64 2) (hw : TabAt w) : Tail a w Q := fun K => by
  refine pieceZ p4_2 (by decide) rfl rfl (ν := 0) ⟨by decide, by decide⟩ (tr_lit h1 h2 h3) hw fun a1 w1 t1 b1 => ?_
  refine pieceZ p5_2 (by decide) rfl rfl (ν := 0) ⟨by decide, by decide⟩ t1 (hw.below b1) fun a2 w2 t2 b2 => K a2 w2 t2.defers (t2_of t2) ?_
  exact (b1.trans (b2.mono b1.size))
theorem tail_3 {a : Act} {w : World} {Q : Exit → Act → World → Prop} (h1 : a.tmps.size = 38) (h2 : a.defers = []) (h3 : a.tmps.getD 3 undef = .int .i64 3) (hw : TabAt w) : Tail a w Q := fun K => by
  refine pieceZ p4_3 (by decide) rfl rfl (ν := 0) ⟨by decide, by decide⟩ (tr_lit h1 h2 h3) hw fun a1 w1 t1 b1 => ?_
  refine pieceZ p5_3 (by decide) rfl rfl (ν := 0) ⟨by decide, by decide⟩ t1 (hw.below b1) fun a2 w2 t2 b2 => K a2 w2 t2.defers (t2_of t2) ?_
  exact (b1.trans (b2.mono b1.size))
theorem tail_4 {k : Int} (g0 : 4 ≤ k) (g1 : k ≤ 8) {a : Act} {w : World} {Q : Exit → Act → World → Prop} (h1 : a.tmps.size = 38) (h2 : a.defers = []) (h3 : a.tmps.getD 3 undef = .int .i64 k) (hw : TabAt w) : Tail a w Q := fun K => by
  refine pieceZ p4_4 (by decide) rfl rfl (ν := k) ⟨g0, g1⟩ (tr_lin h1 h2 h3) hw fun a1 w1 t1 b1 => ?_
  refine pieceZ p5_4 (by decide) rfl rfl (ν := k) ⟨g0, g1⟩ t1 (hw.below b1) fun a2 w2 t2 b2 => K a2 w2 t2.defers (t2_of t2) ?_
  exact (b1.trans (b2.mono b1.size))
theorem tail_5 {a : Act} {w : World} {Q : Exit → Act → World → Prop} (h1 : a.tmps.size = 38) (h2 : a.defers = []) (h3 : a.tmps.getD 3 undef = .int .i64 9) (hw : TabAt w) : Tail a w Q := fun K => by
  refine pieceZ p4_5 (by decide) rfl rfl (ν := 0) ⟨by decide, by decide⟩ (tr_lit h1 h2 h3) hw fun a1 w1 t1 b1 => ?_
  refine pieceZ p5_5 (by decide) rfl rfl (ν := 0) ⟨by decide, by decide⟩ t1 (hw.below b1) fun a2 w2 t2 b2 => K a2 w2 t2.defers (t2_of t2) ?_
  exact (b1.trans (b2.mono b1.size))
theorem tail_6 {k : Int} (g0 : 10 ≤ k) (g1 : k ≤ 48) {a : Act} {w : World} {Q : Exit → Act → World → Prop} (h1 : a.tmps.size = 38) (h2 : a.defers = []) (h3 : a.tmps.getD 3 undef = .int .i64 k) (hw : TabAt w) : Tail a w Q := fun K => by
  refine pieceZ p4_6 (by decide) rfl rfl (ν := k) ⟨g0, g1⟩ (tr_lin h1 h2 h3) hw fun a1 w1 t1 b1 => ?_
  refine pieceZ p5_6 (by decide) rfl rfl (ν := k) ⟨g0, g1⟩ t1 (hw.below b1) fun a2 w2 t2 b2 => K a2 w2 t2.defers (t2_of t2) ?_
  exact (b1.trans (b2.mono b1.size))
theorem tail_7 {k : Int} (g0 : 49 ≤ k) (g1 : k ≤ 98) {a : Act} {w : World} {Q : Exit → Act → World → Prop} (h1 : a.tmps.size = 38) (h2 : a.defers = []) (h3 : a.tmps.getD 3 undef = .int .i64 k) (hw : TabAt w) : Tail a w Q := fun K => by
  refine pieceZ p4_7 (by decide) rfl rfl (ν := k) ⟨g0, g1⟩ (tr_lin h1 h2 h3) hw fun a1 w1 t1 b1 => ?_
  refine pieceZ p5_7 (by decide) rfl rfl (ν := k) ⟨g0, g1⟩ t1 (hw.below b1) fun a2 w2 t2 b2 => K a2 w2 t2.defers (t2_of t2) ?_
  exact (b1.trans (b2.mono b1.size))
theorem tail_8 {a : Act} {w : World} {Q : Exit → Act → World → Prop} (h1 : a.tmps.size = 38) (h2 : a.defers = []) (h3 : a.tmps.getD 3 undef = .int .i64 99) (hw : TabAt w) : Tail a w Q := fun K => by
  refine pieceZ p4_8 (by decide) rfl rfl (ν := 0) ⟨by decide, by decide⟩ (tr_lit h1 h2 h3) hw fun a1 w1 t1 b1 => ?_
  refine pieceZ p5_8 (by decide) rfl rfl (ν := 0) ⟨by decide, by decide⟩ t1 (hw.below b1) fun a2 w2 t2 b2 => K a2 w2 t2.defers (t2_of t2) ?_
  exact (b1.trans (b2.mono b1.size))
theorem tail_9 {k : Int} (g0 : 100 ≤ k) (g1 : k ≤ 255) {a : Act} {w : World} {Q : Exit → Act → World → Prop} (h1 : a.tmps.size = 38) (h2 : a.defers = []) (h3 : a.tmps.getD 3 undef = .int .i64 k) (hw : TabAt w) : Tail a w Q := fun K => by
  refine pieceZ p4_9 (by decide) rfl rfl (ν := k) ⟨g0, g1⟩ (tr_lin h1 h2 h3) hw fun a1 w1 t1 b1 => ?_
  refine pieceZ p5_9 (by decide) rfl rfl (ν := k) ⟨g0, g1⟩ t1 (hw.below b1) fun a2 w2 t2 b2 => K a2 w2 t2.defers (t2_of t2) ?_
  exact (b1.trans (b2.mono b1.size))
theorem rest {k : Int} (h0 : 0 ≤ k) (h1 : k < 256) {a : Act} {w : World} {Q : Exit → Act → World → Prop} (s1 : a.tmps.size = 38) (s2 : a.defers = []) (s3 : a.tmps.getD 3 undef = .int .i64 k) (hw : TabAt w) : Tail a w Q := by
  by_cases e0 : k = 0
  · subst e0; exact tail_0 s1 s2 s3 hw
  by_cases e1 : k = 1
  · subst e1; exact tail_1 s1 s2 s3 hw
  by_cases e2 : k = 2
  · subst e2; exact tail_2 s1 s2 s3 hw
  by_cases e3 : k = 3
  · subst e3; exact tail_3 s1 s2 s3 hw
  by_cases e4 : k ≤ 8
  · exact tail_4 (by omega) e4 s1 s2 s3 hw
  by_cases e5 : k = 9
  · subst e5; exact tail_5 s1 s2 s3 hw
  by_cases e6 : k ≤ 48
  · exact tail_6 (by omega) e6 s1 s2 s3 hw
  by_cases e7 : k ≤ 98
  · exact tail_7 (by omega) e7 s1 s2 s3 hw
  by_cases e8 : k = 99
  · subst e8; exact tail_8 s1 s2 s3 hw
  exact tail_9 (by omega) (by omega) s1 s2 s3 hw
set_option maxRecDepth 100000 in
theorem walk {W : World} {v : Value} (hv : ByteArg W v) (hw : TabAt W) : Calls Tryz.prog 9 #[v] W (Out W) := by
  obtain ⟨b, hb⟩ := big_says hv
  obtain ⟨k, h0, h1, hk⟩ := at_says hv
  unfold BigSays at hb
  unfold AtSays at hk
  clear hv
  cases b with
  | true =>
    go_enter Tryz.func9, Tryz.ntmps9
    go_wp2_with (first | (go_at_call 11; refine hb.mono ?_; rintro e w' ⟨rfl, rfl⟩))
    all_goals go_ret
    all_goals exact ⟨rfl, Below.refl _ _⟩
  | false =>
    have HW := Lib.hid hw
    clear hw
    go_enter Tryz.func9, Tryz.ntmps9
    go_upto_region 4 with (first | (go_at_call 11; refine hb.mono ?_; rintro e w' ⟨rfl, rfl⟩) | (go_at_call 12; refine hk.mono ?_; rintro e w' ⟨rfl, rfl⟩))
    rename_i K hK
    refine wp_mono (c := c4) (rest (k := k) (by omega) (by omega) rfl rfl rfl HW.out (Q := bodyPost Tryz.prog Tryz.f9 (Out _)) fun a' w' d t b => fin_true rfl d t ⟨rfl, b⟩) fun e a w h => ?_
    cases e with
    | normal => exact hK a w h
    | exit i => exact h
    | goto l => exact h
    | ret => exact h
    | panic c => exact h
    | outgrown => exact h

set_option maxRecDepth 100000 in
theorem contract (H : Type) (enc : TypeId × Value → H) (W : World) (base : Nat) (args : Array Value) (ds gs : List (DataW H)) (before : List MemPlace)
    (hval : ∀ (j : Nat) t v, Tryz.f9.params[j]? = some t → args[j]? = some v → Value.okWide Tryz.prog W .any base t v)
    (hW : DataW.Whole enc Tryz.prog Tryz.f9.params.toList Rows.fnParamsSpec.vars false W args.toList ds gs before) (hL : laidMetH Tryz.prog Rows.fnParamsRow.laid W) :
    Calls Tryz.prog 9 args W fun e W' => ∃ v, e = .returned v ∧ Rows.fnParamsSpec.post enc Tryz.prog Tryz.f9 false true false false W args v W' := by
  have hW' := hW
  obtain ⟨p, q, hA0, hV, rfl, hfz, hnd⟩ := hW
  have hA : DataW.TrodAll enc Tryz.prog W 0 (fun _ => true) true Tryz.f9.params.toList args.toList ds p := hA0
  rw [Tryz.params9] at hA hval
  obtain ⟨v0, d0, rfl, rfl, h0⟩ := trodAll_one hA
  obtain ⟨rfl, rfl⟩ := trodVars_none hV
  have h0k := h0
  obtain ⟨fuel, hf⟩ := h0
  clear hA0
  simp only [List.append_nil] at hW'
  have hlt : ∀ x ∈ p, x.block < W.heap.size := fun x hx => by simpa using hW'.lt x hx
  have hargs : ∀ (W' : World), Below W.heap.size W W' → DataW.Trod enc Tryz.prog W' 0 (fun b => decide (b < W.heap.size)) true 22 v0 d0 p :=
    fun W' hn => Below.trod laidOut (by kernel_rfl) (of_decide_eq_true (by kernel_rfl)) h0k hn hlt
  have hb := byteArg_of (hval 0 22 v0 rfl rfl) hf
  refine (walk hb (tab_of hL)).mono fun e W' ⟨he, hg⟩ => ?_
  subst he
  exact ⟨_, rfl, ⟨_, _, _, [], _, [], hW', trodAll_mk1 (shut_bool Tryz.underlying4 true), trodAll_mk1 (hargs _ hg), rfl, hg.frame _, fun h => by cases h⟩⟩

theorem reads (os : Os) {H : Type} (enc : TypeId × Value → H) : ∃ places, DataW.whole enc Tryz.prog ((World.doorLaid Tryz.prog 400 os).forCall (fun _ _ => 0) ⟨#[], #[.slice none 0 0], []⟩).memory Tryz.f9.params.toList Rows.fnParamsSpec.vars false #[Value.slice none 0 0].toList 8 = some ([.nil], [], places) :=
  ⟨[], by kernel_rfl⟩
theorem hok (os : Os) : Input.okWideB Tryz.checked.prog ((World.doorLaid Tryz.prog 400 os).forCall (fun _ _ => 0) ⟨#[], #[.slice none 0 0], []⟩) 9 ⟨#[], #[.slice none 0 0], []⟩ = true := by kernel_rfl
theorem sized (os : Os) {H : Type} (enc : TypeId × Value → H) : (OpenSpec.ofChange Rows.fnParamsSpec).bare.sizedB enc Tryz.prog Tryz.f9 false ((World.doorLaid Tryz.prog 400 os).forCall (fun _ _ => 0) ⟨#[], #[.slice none 0 0], []⟩).memory #[.slice none 0 0] 8 = true := by kernel_rfl
theorem noInit : Tryz.checked.prog.inits.idxOf? 9 = none := by kernel_rfl
set_option maxRecDepth 100000 in
theorem lifted (os : Os) (started : os.Started) (H : Type) (enc : TypeId × Value → H) (F : Stop.Interp) :
    ReturnsInHanded {} Tryz.checked os 9 .any ((OpenSpec.ofChange Rows.fnParamsSpec).preRow enc Tryz.prog Tryz.f9 Rows.fnParamsRow.domain false Rows.fnParamsRow.laid) (((OpenSpec.ofChange Rows.fnParamsSpec).at F).post enc Tryz.prog Tryz.f9 false true false false) := by
  obtain ⟨places, hx⟩ := reads os enc
  refine returnsInHanded_of_row (C := Tryz.checked) (s := OpenSpec.ofChange Rows.fnParamsSpec) own started noInit Tryz.func9
    (witness_row_atRef (enc := enc) (C := Tryz.checked) false (World.doorLaid Tryz.prog 400 os) #[.slice none 0 0] rfl (start_vars os) (start_heap os) (hok os)
      (OpenSpec.preRow_of_cond 8 hx rfl (fun k hk => by cases hk) (sized os enc) (door_met os _))) ?_
  intro W base args ds gs before hval hW _ _ _ hL _ _
  exact contract H enc W base args ds gs before hval hW hL
theorem clos : Tryz.pinned.checked.prog.closure 9 = [9, 11, 12, 13, 16, 19, 32, 67, 136, 187, 188, 255, 254, 256, 189, 190, 257, 258, 318, 319, 14, 17, 20, 33, 68, 137, 34, 69, 70, 81, 138, 71, 72, 139, 191, 259, 320, 321, 140, 192, 260, 193, 194, 261, 195, 73, 74, 75, 76, 141, 196, 21, 35, 22, 36, 37, 38, 77, 142, 39, 78, 147, 79, 143, 144, 145, 146, 23, 24, 40, 80, 41, 42, 82, 148, 197, 149, 150, 198, 262, 83, 151, 199, 263, 85, 153, 86, 119, 120, 169, 207, 274, 328, 329, 344, 357, 345, 275, 330, 346, 348, 347, 358, 349, 276, 331, 46, 89, 154, 200, 155, 201, 90, 91, 350, 122, 84, 152, 43, 44, 88, 87, 26, 47, 92, 156, 202, 48, 93, 25, 45, 18, 27, 49, 94, 53, 95, 111, 96, 159, 160, 99, 112, 110, 162, 205, 273, 204, 264, 270, 327, 265, 322, 266, 323, 324, 267, 325, 326, 343, 268, 269, 271, 272, 163, 157, 52, 107, 108, 109, 158, 203, 97, 98, 100, 50, 101, 103, 104, 105, 161, 102, 51, 106, 54, 55, 113, 115, 56, 114, 116, 121, 117, 118, 164, 57, 123, 165, 206, 166, 167, 15, 168, 170, 208, 171, 172, 209, 124, 173, 210, 211, 212, 174, 215, 214, 213, 277, 278, 332, 279, 280, 29, 59, 125, 63, 128, 176, 177, 126, 60, 61, 127, 62, 175, 216, 130, 178, 129, 224, 179, 180, 225, 226, 290, 338, 337, 227, 230, 287, 334, 333, 288, 336, 335, 284, 286, 222, 228, 229, 291, 292, 231, 293, 295, 340, 354, 355, 356, 232, 233, 294, 339, 351, 352, 353, 359, 234, 235, 217, 281, 219, 283, 218, 282, 220, 221, 285, 185, 223, 289, 64, 28, 58, 31, 65, 131, 181, 182, 66, 132, 133, 183, 184, 134, 135, 186, 236, 296, 237, 297, 298, 299, 300, 238, 249, 314, 301, 302, 239, 250, 307, 303, 304, 305, 241, 309, 308, 240, 306, 242, 310, 311, 342, 341, 312, 243, 244, 313, 245, 246, 247, 252, 248, 251, 315, 253, 316, 317, 30] := by kernel_rfl
theorem f1 : (Rows.fnParamsRow.inPlace == Tryz.pinned.checked.prog.inPlace 9) = true := by unfold Program.inPlace; rw [clos]; kernel_rfl
theorem f2 : (Rows.fnParamsRow.unfollowed == Tryz.pinned.checked.prog.unfollowed 9) = true := by unfold Program.unfollowed; rw [clos]; kernel_rfl
theorem f3 : (Rows.fnParamsRow.recurses == Tryz.pinned.checked.prog.recurses 9) = true := by unfold Program.recurses Program.unfollowed; rw [clos]; kernel_rfl
theorem f4 : (Rows.fnParamsRow.named == Tryz.pinned.checked.prog.varsNamed 9) = true := by unfold Program.varsNamed; rw [clos]; kernel_rfl
set_option maxRecDepth 100000 in
theorem facts : joinedFacts Tryz.pinned.checked.prog 9 Tryz.f9 (OpenSpec.ofChange Rows.fnParamsSpec).bare Rows.fnParamsRow = true := by
  unfold joinedFacts
  rw [f1, f2, f3, f4]
  kernel_rfl
theorem wrap : Tryz.f9.isWrapper Tryz.pinned.checked.prog Rows.fnParamsRow.wrapper Rows.fnParamsRow.mainSum := by
  unfold Func.isWrapper
  first | (rw [if_pos (by decide +kernel)]; kernel_rfl) | (rw [if_neg (by decide +kernel)]; exact ⟨rfl, rfl⟩)
set_option maxRecDepth 100000 in
theorem said : Rows.FnParamsSaid :=
  OpenClaim.holds_of_cond 9 Tryz.f9 rfl rfl rfl rfl rfl rfl rfl ⟨rfl, rfl, rfl, rfl, rfl⟩ rfl rfl rfl rfl rfl (by kernel_rfl) Tryz.func9 facts
    (of_decide_eq_true (by kernel_rfl)) wrap
    (fun os started H enc _ F => by rw [OpenClaim.pre_eq_preRow]; exact lifted os started H enc F)
set_option maxRecDepth 100000 in
theorem plain (f : FuncId) (fn : Func) (hf : Tryz.pinned.checked.prog.funcNamed "loop.example/g00288/laws.FnParams" = some f) (hfn : Tryz.pinned.checked.prog.funcs[f]? = some fn) :
    true = Tryz.pinned.checked.prog.looks [] ∧ ∀ (j : Nat) t, fn.params[j]? = some t → Tryz.pinned.checked.prog.wantsStandIn t = false := by
  obtain rfl : f = 9 := Option.some.inj ((show Tryz.prog.funcNamed "loop.example/g00288/laws.FnParams" = some 9 by kernel_rfl).symm.trans hf) |>.symm
  obtain rfl : fn = Tryz.f9 := (Option.some.inj (Tryz.func9.symm.trans hfn)).symm
  refine ⟨by kernel_rfl, fun j t ht => ?_⟩
  rw [Tryz.params9] at ht
  obtain rfl : t = 22 := by simpa using Array.mem_of_getElem? ht
  exact (show Tryz.prog.wantsStandIn 22 = false by kernel_rfl)
theorem named : Tryz.pinned.checked.prog.funcNamed "loop.example/g00288/laws.FnParams" = some 9 := by kernel_rfl
theorem goes : Tryz.pinned.checked.prog.goes 9 = false := by unfold Program.goes Program.unfollowed; rw [clos]; kernel_rfl
set_option maxRecDepth 100000 in
theorem goesBy_of {P : Program} {c : OpenClaim} {f : FuncId} (hs : c.start = .entering) (hn : P.funcNamed c.func = some f) (hg : P.goes f = false) : false = c.goesBy P := by
  unfold OpenClaim.goesBy Program.goesAt Program.goesFrom
  rw [hs, hn]
  simp [hg]
theorem goesBy : false = Rows.fnParamsRow.goesBy Tryz.pinned.checked.prog := goesBy_of rfl named goes
theorem byText : Rows.fnParamsRow.wfByText (OpenSpec.ofChange Rows.fnParamsSpec) = true := by kernel_rfl
set_option maxRecDepth 100000 in
/-- The tied card. -/
theorem card : Rows.FnParamsCardSaid :=
  Claim7.holds_tied_plain_at (p := Tryz.pinned) (s := OpenSpec.ofChange Rows.fnParamsSpec) (c := Rows.fnParamsRow) .later [] [.data, .data, .data, .sentinel, .sentinel] true (true, "3fb557fa729faaca30da29cd43f6cec920fccce7b13d4175707add449f0e3c36") true
    said (fun _ h => by cases h) byText (fun _ h => by cases h) fnParams_row_tie rfl ⟨rfl, rfl⟩ mainIs rfl plain goesBy
end Go.Proofs.YtnemookdabbaiaaGreatDoor.LwParams
