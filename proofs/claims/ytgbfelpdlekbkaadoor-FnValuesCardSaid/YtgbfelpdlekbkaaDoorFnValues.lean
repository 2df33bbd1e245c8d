/- The law FnValues returns true for every input, and each argument reads afterwards as it did; its card: with the listed package variables tied to the program's text. -/
import Derived.Test.YtgbfelpdlekbkaaDoorCards
import Derived.Test.YtgbfelpdlekbkaaDoorTie
import Derived.Test.YtgbfelpdlekbkaaDoorEv5
import Derived.Test.YtgbfelpdlekbkaaDoorFv4
import Derived.Carry
import Derived.LaidMore
import Derived.WalkKit
import Derived.ProofKit
import Derived.OpenShut
import Derived.Deep.DeepHandedRow
import Derived.Lib.LaidTab
import Derived.Deep.DeepLaidRun
set_option linter.unusedVariables false
set_option linter.unusedSimpArgs false
namespace Go.Proofs.YtgbfelpdlekbkaaDoor.fnValues
open Go.ChangeShapes Go.WideShapes Go.ChangeAt Go.RowKit Go.Lin

theorem own : ownKnob Tryd.prog.godebug = none := by kernel_rfl
theorem laidOut : laidOutB Tryd.prog = true := by kernel_rfl
theorem cells5 : Tryd.prog.cellsOf 5 = 1 := by kernel_rfl

theorem maxLenCell {W : World} (h : W.ShapedOpen Tryd.prog) : ∃ m, W.cell? ⟨0, 0, none⟩ = some (.int .i64 m) :=
  Go.Proofs.cell_of_shapedOpen_int (g := 0) (t := 3) (zero := #[.int .i64 0]) h (of_decide_eq_true (by kernel_rfl)) (by kernel_rfl) rfl (by kernel_rfl) (by kernel_rfl) Tryd.underlying3

set_option maxRecDepth 100000 in
theorem contract (H : Type) (enc : TypeId × Value → H) (W : World) (base : Nat) (args : Array Value) (ds gs : List (DataW H)) (before : List MemPlace)
    (hval : ∀ (j : Nat) t v, Tryd.f3.params[j]? = some t → args[j]? = some v → Value.okWide Tryd.prog W .any base t v)
    (hW : DataW.Whole enc Tryd.prog Tryd.f3.params.toList Rows.fnValuesSpec.vars false W args.toList ds gs before) (hsh : W.ShapedOpen Tryd.prog) :
    Calls Tryd.prog 3 args W fun e W' => ∃ v, e = .returned v ∧ Rows.fnValuesSpec.post enc Tryd.prog Tryd.f3 false true false false W args v W' := by
  have hW' := hW
  obtain ⟨p, q, hA0, hV, rfl, hfz, hnd⟩ := hW
  have hA : DataW.TrodAll enc Tryd.prog W 0 (fun _ => true) true Tryd.f3.params.toList args.toList ds p := hA0
  rw [Tryd.params3] at hA hval
  obtain ⟨v0, vs0, d0, ds0, p0, q0, hargs, rfl, rfl, h0, r0⟩ := trodAll_cons hA
  obtain ⟨rfl, rfl, rfl⟩ := trodAll_nil r0
  obtain rfl : args = #[v0] := by cases args; simp_all
  obtain ⟨rfl, rfl⟩ := trodVars_none hV
  have h0k := h0
  obtain ⟨fuel, hf⟩ := h0
  obtain ⟨a0, len, cap, rfl⟩ := okWide_slice Tryd.underlying22 (hval 0 22 v0 rfl rfl)
  have hlt : ∀ x ∈ p0, x.block < W.heap.size := fun x hx => by simpa using hW'.lt x (by simpa using hx)
  have hpos : 0 < W.heap.size := by
    obtain ⟨m, hm⟩ := maxLenCell hsh
    rcases Nat.eq_zero_or_pos W.heap.size with h | h
    · simp [World.cell?, h] at hm
    · exact h
  have hrep : ∃ l : List Int, Rep (fun g => g < W.heap.size) W (.slice 5 (.int .u8)) l [.slice a0 len cap] := by
    rcases open_ints Tryd.underlying22 Tryd.underlying5 cells5 hf with ⟨hcs, hx⟩ | ⟨a, len', cap', zs, hcs, _, hl, hm, hz, hx, hcell, hwz⟩
    · simp [Value.cells] at hcs
      obtain ⟨rfl, rfl, rfl⟩ := hcs
      exact ⟨[], Rep.slice (l := []) ⟨0, 0, none⟩ (fun _ => []) (Nat.le_refl _) (Nat.zero_le _) (fun h => absurd h (Nat.lt_irrefl 0)) (fun j h => absurd h (Nat.not_lt_zero j)) (fun j h => absurd h (Nat.not_lt_zero j))⟩
    · simp [Value.cells] at hcs
      obtain ⟨rfl, rfl, rfl⟩ := hcs
      simp only [if_true] at hz
      have hlen : (zs.take len).length = len := by rw [List.length_take]; omega
      have hget : ∀ j, j < len → W.cell? (a.add j) = some (.int .u8 (zs.getD j 0)) := fun j hj => hcell j (by omega)
      have key := Rep.slice (F := fun g => g < W.heap.size) (w := W) (e := 5) (t := .int .u8) (l := zs.take len) (A := some a) (c := cap) a (fun j => [.int .u8 (zs.getD j 0)]) (by omega) hm
        (fun h => ⟨rfl, by
          have := hget 0 (by omega)
          rcases Nat.lt_or_ge a.block W.heap.size with h | h
          · exact h
          · have hn : W.heap[(a.add 0).block]? = none := by
              rw [Lin.block_add]; exact Array.getElem?_eq_none h
            simp [World.cell?, hn] at this⟩)
        (fun j h => by
          have e : (zs.take len)[j]'h = zs.getD j 0 := by
            have : j < zs.length := by rw [List.length_take] at h; omega
            rw [List.getElem_take, getD_at this]
          rw [e]; exact Rep.int)
        (fun j h i u hu => by
          rcases i with _ | i
          · simp at hu
            subst hu
            simpa [Ty.size] using hget j (by omega)
          · simp at hu)
      rw [hlen] at key
      exact ⟨_, key⟩
  obtain ⟨l, hrep⟩ := hrep
  obtain ⟨S, hc, hS⟩ := has_law
  obtain ⟨y, hy, e⟩ := hS l trivial
  have hm := hc l y hy (fun g => g < W.heap.size) W (fun _ => .bool false) #[.slice a0 len cap] (.cons (show RV _ _ _ _ (.slc 5 (.int .u8) l) _ from hrep) .nil)
    ⟨fun b x hx => by simp [encs, Sh.enc] at hx, fun b b' x x' g hx => by simp [encs, Sh.enc] at hx, fun g hg => hg, ⟨hpos, maxLenCell hsh⟩⟩
  refine hm.mono ?_
  rintro e' W' ⟨F', m', cv, rfl, hcv, _, _, _, _, hk⟩
  rw [e] at hcv
  obtain rfl : cv = .bool true := hcv
  have hbelow : Below W.heap.size W W' := ⟨hk.os, hk.tape, hk.output, hk.size, fun k hkl => hk.block k hkl (by
    rintro (⟨b, x, hx, _⟩ | h)
    · simp [encs, Sh.enc] at hx
    · omega)⟩
  refine ⟨_, rfl, post_below (pa := p0 ++ []) (pv := []) hW' hbelow (fun _ _ _ => trodAll_cons_mk (shut_bool Tryd.underlying4 _) trodAll_mk0) (fun sp hsp => trodAll_cons_mk ?_ trodAll_mk0) (fun _ _ => rfl) rfl
    (ok_one (by kernel_rfl) rfl (okWide_bool_mk Tryd.underlying4 _))⟩
  exact WideElems.Trod_stays laidOut (by kernel_rfl) (of_decide_eq_true (by kernel_rfl)) h0k (fun x hx => hbelow.same (hlt x hx)) fun x hx => hsp x (by simpa using hx)

/-- A table's cells, laid into an object. -/
def layObj (l : List Int) : Obj → Obj
  | .cells _ t frozen => .cells (l.map fun n => Value.int .u8 n).toArray t frozen
  | o => o
def accepts : List Int := [128, 191, 160, 191, 128, 159, 144, 191, 128, 143, 0, 0, 0, 0, 0, 0, 0, 0, 0, 0, 0, 0, 0, 0, 0, 0, 0, 0, 0, 0, 0, 0]
/-- A world for the witness: the settled one, its two listed tables laid. -/
noncomputable def laidWorld (os : Os) : World :=
  { World.holding Tryd.prog os ⟨#[], #[], []⟩ with heap := ((World.holding Tryd.prog os ⟨#[], #[], []⟩).heap.modify 1 (layObj (Pinned.utf8FirstZ.map Int.ofNat))).modify 2 (layObj accepts) }
set_option maxRecDepth 100000 in
theorem laid_met (os : Os) : laidMet Tryd.prog Rows.fnValuesRow.laid ((laidWorld os).forCall (fun _ _ => 0) ⟨#[], #[.slice none 0 0], []⟩).memory :=
  laidMet_of_run3 8 (by kernel_rfl) (by kernel_rfl) (by kernel_rfl)
theorem reads (os : Os) {H : Type} (enc : TypeId × Value → H) : ∃ places, DataW.whole enc Tryd.prog ((laidWorld os).forCall (fun _ _ => 0) ⟨#[], #[.slice none 0 0], []⟩).memory Tryd.f3.params.toList Rows.fnValuesSpec.vars false #[Value.slice none 0 0].toList 8 = some ([.nil], [], places) :=
  ⟨[], by kernel_rfl⟩

set_option maxRecDepth 100000 in
theorem lifted (os : Os) (started : os.Started) (H : Type) (enc : TypeId × Value → H) (F : Stop.Interp) :
    ReturnsInHanded {} Tryd.checked os 3 .any ((OpenSpec.ofChange Rows.fnValuesSpec).preRow enc Tryd.prog Tryd.f3 Rows.fnValuesRow.domain false Rows.fnValuesRow.laid) (((OpenSpec.ofChange Rows.fnValuesSpec).at F).post enc Tryd.prog Tryd.f3 false true false false) := by
  obtain ⟨places, hx⟩ := reads os enc
  refine returnsInHanded_of_row (C := Tryd.checked) (s := OpenSpec.ofChange Rows.fnValuesSpec) own started (by kernel_rfl) Tryd.func3
    (witness_row_at (enc := enc) (C := Tryd.checked) false (laidWorld os) #[.slice none 0 0] rfl (by kernel_rfl) (by kernel_rfl) (by kernel_rfl)
      (OpenSpec.preRow_of_cond 8 hx (by kernel_rfl) (fun k hk => by cases hk) (by kernel_rfl) (laid_met os))) ?_
  intro W base args ds gs before hval hW _ _ _ _ hsh _
  exact contract H enc W base args ds gs before hval hW hsh

set_option maxRecDepth 100000 in
theorem said : Rows.FnValuesSaid :=
  OpenClaim.holds_of_cond 3 Tryd.f3 rfl rfl rfl rfl rfl rfl rfl ⟨rfl, rfl, rfl, rfl, rfl⟩ rfl rfl rfl rfl rfl (by kernel_rfl) Tryd.func3 (by kernel_rfl)
    (of_decide_eq_true (by kernel_rfl)) (by unfold Func.isWrapper; first | (rw [if_pos (by decide +kernel)]; kernel_rfl) | (rw [if_neg (by decide +kernel)]; exact ⟨rfl, rfl⟩))
    (fun os started H enc _ F => by rw [OpenClaim.pre_eq_preRow]; exact lifted os started H enc F)

/-- No parameter wants a stand-in; the program's own looks are off. -/
theorem plain (f : FuncId) (fn : Func) (hf : Tryd.pinned.checked.prog.funcNamed "loop.example/g00119/laws.FnValues" = some f) (hfn : Tryd.pinned.checked.prog.funcs[f]? = some fn) :
    false = Tryd.pinned.checked.prog.looks [] ∧ ∀ (j : Nat) t, fn.params[j]? = some t → Tryd.pinned.checked.prog.wantsStandIn t = false := by
  obtain rfl : f = 3 := Option.some.inj ((show Tryd.prog.funcNamed "loop.example/g00119/laws.FnValues" = some 3 by kernel_rfl).symm.trans hf) |>.symm
  obtain rfl : fn = Tryd.f3 := (Option.some.inj (Tryd.func3.symm.trans hfn)).symm
  refine ⟨by kernel_rfl, fun j t ht => ?_⟩
  rw [Tryd.params3] at ht
  obtain rfl : t = 22 := by simpa using Array.mem_of_getElem? ht
  exact (show Tryd.prog.wantsStandIn 22 = false by kernel_rfl)

/-- The card of FnValues. -/
theorem card : Rows.FnValuesCardSaid :=
  Claim7.holds_tied_plain_at .later [] _ _ _ _ said (fun _ h => by cases h) (by kernel_rfl) (fun _ h => by cases h) fnValues_row_tie rfl ⟨rfl, rfl⟩ (by kernel_rfl) rfl plain (by kernel_rfl)
end Go.Proofs.YtgbfelpdlekbkaaDoor.fnValues
