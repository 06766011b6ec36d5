/- What the laws of this seat share. -/
import Derived.Test.YtnemookdabbaiaaGreatDoorYg
import Derived.Test.YtnemookdabbaiaaGreatDoorCards
import Derived.Test.YtnemookdabbaiaaGreatDoorTie
import Derived.WalkKit
import Derived.ProofKit
import Derived.OpenShut
import Derived.ChangeSlices
import Derived.Below
import Derived.ChangeSame
import Derived.Deep.DeepHandedRow
import Derived.Deep.DeepWitnessRowRef
import Derived.Deep.Cut
import Derived.Lib.LaidTab
import Derived.Carry
import Derived.Lib.Hide
import Derived.LaidMore
import Derived.Stop.Joined
section
/- What the laws of this seat share: their one argument, 'big', 'at', the table that the row lists, a start that fits. -/
namespace Go.Proofs.YtnemookdabbaiaaGreatDoor
open Go.ChangeShapes Go.WideShapes Go.ChangeAt Go.RowKit Go.Xc

/-- A slice of bytes that can be read. -/
def ByteArg (W : World) (v : Value) : Prop :=
  v = .slice none 0 0 ∨ ∃ (a : Addr) (len cap : Nat) (zs : List Int), v = .slice (some a) len cap ∧ len ≤ cap ∧ cap ≤ maxLen ∧ len ≤ zs.length ∧ (∀ i, i < zs.length → W.cell? (a.add i) = some (.int .u8 (zs.getD i 0))) ∧ ∀ n ∈ zs, 0 ≤ n ∧ n < 256
def BigSays (W : World) (v : Value) (b : Bool) : Prop := Calls Tryz.prog 11 #[v] W fun e w' => e = .returned (.bool b) ∧ w' = W
theorem big_says {W : World} {v : Value} (h : ByteArg W v) : ∃ b, BigSays W v b := by
  rcases h with rfl | ⟨a, len, cap, zs, rfl, _⟩
  · refine ⟨false, ?_⟩
    unfold BigSays
    go_enter Tryz.func11, Tryz.ntmps11
    go_wp2
    go_ret
    exact ⟨rfl, rfl⟩
  · by_cases hn : 1048576 < len
    · refine ⟨true, ?_⟩
      have h : decide ((len : Int) > 1048576) = true := by simp; omega
      unfold BigSays
      go_enter Tryz.func11, Tryz.ntmps11
      go_wp2
      all_goals go_ret
      all_goals exact ⟨by simp [*], rfl⟩
    · refine ⟨false, ?_⟩
      have h : decide ((len : Int) > 1048576) = false := by simp; omega
      unfold BigSays
      go_enter Tryz.func11, Tryz.ntmps11
      go_wp2
      all_goals go_ret
      all_goals exact ⟨by simp [*], rfl⟩
def AtSays (W : World) (v : Value) (k : Int) : Prop := Calls Tryz.prog 12 #[v, .int .i64 2] W fun e w' => e = .returned (.int .i64 k) ∧ w' = W
theorem at_says {W : World} {v : Value} (h : ByteArg W v) : ∃ k : Int, 0 ≤ k ∧ k < 256 ∧ AtSays W v k := by
  rcases h with rfl | ⟨a, len, cap, zs, rfl, h1, h2, h3, h4, h5⟩
  · refine ⟨62, by omega, by omega, ?_⟩
    unfold AtSays
    go_enter Tryz.func12, Tryz.ntmps12
    go_wp2
    all_goals go_ret
    all_goals exact ⟨by first | rfl | (congr 2), rfl⟩
  · unfold maxLen at h2
    by_cases hn : 2 < len
    · have hc := h4 2 (by omega)
      have hs0 := World.cell?_spot (h4 0 (by omega))
      have hm : zs.getD 2 0 ∈ zs := by
        have : zs.getD 2 0 = zs[2]'(by omega) := by simp [List.getD, show 2 < zs.length by omega]
        rw [this]; exact List.getElem_mem _
      obtain ⟨h6, h7⟩ := h5 _ hm
      generalize zs.getD 2 0 = z at hc h6 h7
      refine ⟨z, h6, h7, ?_⟩
      clear h4 h5 hm
      obtain ⟨b, off, spot⟩ := a
      have hspot : spot = none := by simpa [Addr.add] using hs0
      subst hspot
      have hc : W.cell? ⟨b, off + 2, none⟩ = some (.int .u8 z) := by simpa [Addr.add] using hc
      have h : decide ((2 : Int) < (len : Int)) = true := by simp; omega
      unfold AtSays
      go_enter Tryz.func12, Tryz.ntmps12
      go_wp2
      all_goals go_ret
      all_goals exact ⟨rfl, rfl⟩
    · clear h4 h5
      obtain rfl | rfl | rfl : len = 0 ∨ len = 1 ∨ len = 2 := by omega
      · refine ⟨62, by omega, by omega, ?_⟩
        unfold AtSays
        go_enter Tryz.func12, Tryz.ntmps12
        go_wp2
        all_goals go_ret
        all_goals exact ⟨rfl, rfl⟩
      · refine ⟨69, by omega, by omega, ?_⟩
        unfold AtSays
        go_enter Tryz.func12, Tryz.ntmps12
        go_wp2
        all_goals go_ret
        all_goals exact ⟨rfl, rfl⟩
      · refine ⟨76, by omega, by omega, ?_⟩
        unfold AtSays
        go_enter Tryz.func12, Tryz.ntmps12
        go_wp2
        all_goals go_ret
        all_goals exact ⟨rfl, rfl⟩

theorem own : ownKnob Tryz.prog.godebug = none := by kernel_rfl
theorem gTab : Tryz.prog.globalNamed "internal/strconv.uint64pow10" = some 1 := by kernel_rfl
theorem gTabType : (Tryz.prog.globals[1]?).map (·.type) = some 313 := by kernel_rfl
theorem cellsTab : Tryz.prog.cellsOf 313 = 20 := by kernel_rfl
theorem cellsU64 : Tryz.prog.cellsOf 252 = 1 := by kernel_rfl
def lst : List (String × DataW Unit) := [("math/bits.deBruijn32tab", Rows.laid_math_bits_deBruijn32tab), ("math/bits.deBruijn64tab", Rows.laid_math_bits_deBruijn64tab), ("internal/strconv.uint64pow10", Rows.laid_internal_strconv_uint64pow10), ("strconv.ErrRange", Rows.laid_strconv_ErrRange), ("strconv.ErrSyntax", Rows.laid_strconv_ErrSyntax)]
theorem tab_of {W : World} (h : laidMetH Tryz.prog lst W) : TabAt W := by
  rw [MakeChecks.laidMetH_plain _ _ _ (by kernel_rfl)] at h
  obtain ⟨ps, ⟨_, _, _, _, _, _, _, _, _, _, ⟨_, _, _, _, _, _, _, _, _, _, ⟨g, t, cs, fuel, p, q, hg, ht, hv, hd, _⟩, _⟩, _⟩, _⟩ := h
  obtain rfl := Option.some.inj (gTab.symm.trans hg)
  obtain rfl := Option.some.inj (gTabType.symm.trans ht)
  have hcs := Lib.cells_of_tab (zs := (List.range 20).map fun i => ((10 ^ i : Nat) : Int)) Tryz.underlying313 Tryz.underlying252 cellsU64 cellsTab hd
  unfold World.var? at hv
  rw [gTab] at hv
  simp only [Option.bind_some] at hv
  have hlt : 1 < W.heap.size := by
    rcases Nat.lt_or_ge 1 W.heap.size with h' | h'
    · exact h'
    · rw [Array.getElem?_eq_none h'] at hv; simp at hv
  refine ⟨hlt, ?_⟩
  show ∃ e fr, W.heap[1]? = _
  cases hb : W.heap[1]? with
  | none => rw [hb] at hv; simp at hv
  | some o =>
    rw [hb] at hv
    cases o with
    | cells c e fr =>
      simp only [Option.some.injEq] at hv
      subst hv
      refine ⟨e, fr, ?_⟩
      have : c = (((List.range 20).map fun i => Value.int .u64 ((10 ^ i : Nat) : Int)).toArray) := by
        rw [← Array.toList_inj, hcs]
        simp
      rw [this]
    | _ => simp at hv
theorem door_met (os : Os) (args : Array Value) : laidMetH Tryz.prog lst ((World.doorLaid Tryz.prog 400 os).forCall (fun _ _ => 0) ⟨#[], args, []⟩).memory :=
  laidMetH_of_parts3 (fuel := 8) (laidMet_of_run' 8 (by kernel_rfl) (by kernel_rfl)) (by kernel_rfl) (by kernel_rfl)

theorem laidOut : laidOutB Tryz.prog = true := by kernel_rfl
theorem cells5 : Tryz.prog.cellsOf 5 = 1 := by kernel_rfl
set_option maxRecDepth 100000 in
theorem byteArg_of {H : Type} {enc : TypeId × Value → H} {W : World} {base fuel : Nat} {v : Value} {x : DataW H × List MemPlace} (hv : Value.okWide Tryz.prog W .any base 22 v) (h : DataW.trod enc Tryz.prog W 0 (fun _ => true) true fuel 22 v.cells.toList = some x) : ByteArg W v := by
  obtain ⟨a0, len, cap, hvv⟩ := okWide_slice Tryz.underlying22 hv
  clear hv
  subst hvv
  rcases open_ints Tryz.underlying22 Tryz.underlying5 cells5 h with ⟨hcs, hx⟩ | ⟨a, len', cap', zs, hcs, _, hl, hm, hz, hx, hcell, hwz⟩
  · simp [Value.cells] at hcs
    obtain ⟨rfl, rfl, rfl⟩ := hcs
    exact .inl rfl
  · simp [Value.cells] at hcs
    obtain ⟨rfl, rfl, rfl⟩ := hcs
    simp only [if_true] at hz
    have hlz : len ≤ zs.length := by rw [hz]; exact hl
    refine .inr ⟨a, _, _, zs, rfl, hl, hm, hlz, hcell, fun n hn => ?_⟩
    have := hwz n hn
    simp [Lit.wf, IntKind.min, IntKind.max, IntKind.signed, IntKind.bits] at this
    omega

/- pieces of a law's own code -/
def sL : Code → Code
  | .seq a _ => a
  | c => c
def sR : Code → Code
  | .seq _ b => b
  | c => c
def bodyOf (f : Func) : Code := match f.body with
  | some c => c
  | none => .skip
theorem pieceZ {c : Cx} {n : Nat} {N : TC} {co : Code} {l l' : List (Nat × FV)} {ex : Exi}
    (h : execF (fiZ c) n (comp (EZ c) N co) ⟨putL l .lf, []⟩ ⟨.lf, .h⟩ (ckP N ex l') = true) (hN : N.N < 1000000) (hL : N.L = []) (hl : lowL l = true) {ν : Int} (hν : c.has ν) {a : Act} {w : World} {Q : Exit → Act → World → Prop}
    (hT : TR0 ν N l a) (hw : TabAt w) (K : ∀ a' w', TR0 ν N l' a' → Below w.heap.size w w' → Q (exitOf ex) a' w') : co.wp Tryz.prog Q a w := by
  have e : (EZ c).P = Tryz.prog := by simp only [EZ]
  have hν' : (EZ c).c.has ν := by simp only [EZ]; exact hν
  have := piece (env_ok c) (fiZ_ok c) hN hL hl h hν' hT hw K
  rw [e] at this
  exact this
theorem fin_true {f : Func} {a : Act} {w : World} {R : Ending → World → Prop} (hr : f.results = #[.tmp 2]) (hd : a.defers = []) (h2 : a.tmps.getD 2 undef = .bool true) (hp : R (.returned (.bool true)) w) : bodyPost Tryz.prog f R .ret a w := by
  exact bodyPost_ret (v := .bool true) ((results_tmp hr a.tmps Tryz.prog w).trans (by rw [h2])) hd hp
end Go.Proofs.YtnemookdabbaiaaGreatDoor
end
section
/- The start that fits: what the rows' witness asks of it, the same for all laws of this seat. -/
namespace Go.Proofs.YtnemookdabbaiaaGreatDoor
theorem start_vars (os : Os) : ((World.doorLaid Tryz.prog 400 os).forCall (fun _ _ => 0) ⟨#[], #[.slice none 0 0], []⟩).variablesRefB Tryz.checked.prog = true := by kernel_rfl
theorem start_heap (os : Os) : (((World.doorLaid Tryz.prog 400 os).forCall (fun _ _ => 0) ⟨#[], #[.slice none 0 0], []⟩).heap.toList.drop Tryz.checked.prog.globals.size).take ((begin Tryz.checked.prog (fun _ _ => 0) default).world.heap.size - Tryz.checked.prog.globals.size) =
    (begin Tryz.checked.prog (fun _ _ => 0) default).world.heap.toList.drop Tryz.checked.prog.globals.size := by kernel_rfl
theorem mainIs : Tryz.pinned.checked.prog.mainIs = some (true, "3fb557fa729faaca30da29cd43f6cec920fccce7b13d4175707add449f0e3c36".toList) := by kernel_rfl
end Go.Proofs.YtnemookdabbaiaaGreatDoor
end
