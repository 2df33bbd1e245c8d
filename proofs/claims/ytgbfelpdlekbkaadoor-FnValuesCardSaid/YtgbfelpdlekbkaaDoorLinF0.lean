/- Go functions as plain functions, and that they are so. -/
import Derived.Test.YtgbfelpdlekbkaaDoorLinS
set_option linter.unusedVariables false
set_option linter.unusedSimpArgs false
set_option linter.unusedVariables false
namespace Go.Proofs.YtgbfelpdlekbkaaDoor
open Go Go.Proofs Go.Lin
/-! ### laws_FnValues -/
inductive laws_FnValues.L where
  | L0 (x0 : Bool) (x1 : Int) (x2 : Int) (x3 : Int) (x4 : ByteArray) (x5 : Int) (x6 : List ByteArray) (x7 : List GVal) (x8 : Int) (x9 : ByteArray) (x10 : Int) (x11 : List ByteArray) (x12 : List GVal)
def laws_FnValues.step (S_laws_big : ((List Int)) → Option ((Bool) × Unit)) (S_spec_DrawValueText : ((List Int)) → Option ((GVal) × Unit)) (S_impl_ValueText : (GVal) → Option ((ByteArray) × Unit)) (S_spec_ValueOk : (GVal) → Option ((Bool) × Unit)) (S_impl_ValueOk : (GVal) → Option ((Bool) × Unit)) (S_impl_SizeOf : (GVal) → Option ((Int) × Unit)) (S_impl_ParseValue : (ByteArray) → Option ((GVal × Bool) × Unit)) (S_impl_SameValue : (GVal × GVal) → Option ((Bool) × Unit)) (rec : laws_FnValues.L → Option ((Bool) × Unit)) : laws_FnValues.L → Option ((Bool) × Unit)
  | .L0 x0 x1 x2 x3 x4 x5 x6 x7 x8 x9 x10 x11 x12 =>
    bif (decide (x2 < (((List.length x7) : Nat) : Int))) then (
      bif (decide (0 ≤ x2)) then
      bif (decide (x2 < (((List.length x7) : Nat) : Int))) then
      (S_impl_SizeOf (re (List.getD x7 (Int.toNat x2) (GVal.zero )))).bind fun y3 =>
      rec (.L0 x0 (IntKind.wrap .i64 (x1 + y3.1)) (IntKind.wrap .i64 (x2 + 1)) x3 x4 x5 x6 x7 x8 x9 x10 x11 x12) else none else none) else
    bif x0 then (
      (S_impl_SameValue ((GVal.mk x8 x9 x10 x11 x12), (GVal.mk x3 x4 x5 x6 x7))).bind fun y0 =>
      bif y0.1 then (
        (S_impl_SizeOf (GVal.mk x3 x4 x5 x6 x7)).bind fun y1 =>
        bif (y1.1 == x1) then (
          (S_impl_ValueOk (GVal.mk x3 x4 x5 x6 x7)).bind fun y2 =>
          some (y2.1, ())) else
        some (false, ())) else
      some (false, ())) else
    some (false, ())
def laws_FnValues.body (S_laws_big : ((List Int)) → Option ((Bool) × Unit)) (S_spec_DrawValueText : ((List Int)) → Option ((GVal) × Unit)) (S_impl_ValueText : (GVal) → Option ((ByteArray) × Unit)) (S_spec_ValueOk : (GVal) → Option ((Bool) × Unit)) (S_impl_ValueOk : (GVal) → Option ((Bool) × Unit)) (S_impl_SizeOf : (GVal) → Option ((Int) × Unit)) (S_impl_ParseValue : (ByteArray) → Option ((GVal × Bool) × Unit)) (S_impl_SameValue : (GVal × GVal) → Option ((Bool) × Unit)) (rec : laws_FnValues.L → Option ((Bool) × Unit)) (p0 : (List Int)) : Option ((Bool) × Unit) :=
  (S_laws_big p0).bind fun y0 =>
  bif y0.1 then (
    some (true, ())) else
  (S_spec_DrawValueText p0).bind fun y1 =>
  (S_impl_ValueText (re y1.1)).bind fun y2 =>
  (S_spec_ValueOk (re y1.1)).bind fun y3 =>
  bif (Bool.not y3.1) then (
    bif (seq_ y2.1 (bs [])) then (
      (S_impl_ValueOk (re y1.1)).bind fun y5 =>
      bif (Bool.not y5.1) then (
        (S_impl_SizeOf (re y1.1)).bind fun y6 =>
        some ((y6.1 == 0), ())) else
      some (false, ())) else
    some (false, ())) else
  (S_impl_ParseValue y2.1).bind fun y4 =>
  rec (.L0 y4.1.2 1 0 y1.1.kind y1.1.text y1.1.num y1.1.keys y1.1.kids y4.1.1.kind y4.1.1.text y4.1.1.num y4.1.1.keys y4.1.1.kids)
noncomputable def laws_FnValues.code : Code := (Go.Proofs.Tryd.f3.body).getD .skip
noncomputable def laws_FnValues.E (S_laws_big : ((List Int)) → Option ((Bool) × Unit)) (S_spec_DrawValueText : ((List Int)) → Option ((GVal) × Unit)) (S_impl_ValueText : (GVal) → Option ((ByteArray) × Unit)) (S_spec_ValueOk : (GVal) → Option ((Bool) × Unit)) (S_impl_ValueOk : (GVal) → Option ((Bool) × Unit)) (S_impl_SizeOf : (GVal) → Option ((Int) × Unit)) (S_impl_ParseValue : (ByteArray) → Option ((GVal × Bool) × Unit)) (S_impl_SameValue : (GVal × GVal) → Option ((Bool) × Unit)) : Env ((Bool) × Unit) := mkE tt (fun _ => [row 5 sg_laws_big S_laws_big, row 6 sg_spec_DrawValueText S_spec_DrawValueText, row 7 sg_impl_ValueText S_impl_ValueText, row 8 sg_spec_ValueOk S_spec_ValueOk, row 9 sg_impl_ValueOk S_impl_ValueOk, row 10 sg_impl_SizeOf S_impl_SizeOf, row 11 sg_impl_ParseValue S_impl_ParseValue, row 12 sg_impl_SameValue S_impl_SameValue]) [(10, ⟨[3, 5, 6, 7, 8], [], []⟩)] [] sg_laws_FnValues Go.Proofs.Tryd.f3.results.toList
noncomputable def laws_FnValues.dec : laws_FnValues.L → List Item × St
  | .L0 x0 x1 x2 x3 x4 x5 x6 x7 x8 x9 x10 x11 x12 => (itemsAt 10 laws_FnValues.code [], ⟨slotsAt 66 [(3, .ptr 0 0), (5, .ptr 1 0), (6, .bool x0), (7, .int .i64 x1), (8, .int .i64 x2)], [.cells 27 [.int .i64 x3, .str x4, .int .i64 x5, .slc 9 .str x6, .slc 27 (.gval 9 27) x7], .cells 27 [.int .i64 x8, .str x9, .int .i64 x10, .slc 9 .str x11, .slc 27 (.gval 9 27) x12]]⟩)
theorem laws_FnValues.step_eq (S_laws_big : ((List Int)) → Option ((Bool) × Unit)) (S_spec_DrawValueText : ((List Int)) → Option ((GVal) × Unit)) (S_impl_ValueText : (GVal) → Option ((ByteArray) × Unit)) (S_spec_ValueOk : (GVal) → Option ((Bool) × Unit)) (S_impl_ValueOk : (GVal) → Option ((Bool) × Unit)) (S_impl_SizeOf : (GVal) → Option ((Int) × Unit)) (S_impl_ParseValue : (ByteArray) → Option ((GVal × Bool) × Unit)) (S_impl_SameValue : (GVal × GVal) → Option ((Bool) × Unit)) (again : List Item → St → Option ((Bool) × Unit)) : ∀ l, run1 (laws_FnValues.E S_laws_big S_spec_DrawValueText S_impl_ValueText S_spec_ValueOk S_impl_ValueOk S_impl_SizeOf S_impl_ParseValue S_impl_SameValue) again (laws_FnValues.dec l).1 (laws_FnValues.dec l).2 = laws_FnValues.step S_laws_big S_spec_DrawValueText S_impl_ValueText S_spec_ValueOk S_impl_ValueOk S_impl_SizeOf S_impl_ParseValue S_impl_SameValue (fun l => again (laws_FnValues.dec l).1 (laws_FnValues.dec l).2) l
  | .L0 x0 x1 x2 x3 x4 x5 x6 x7 x8 x9 x10 x11 x12 => by kernel_rfl
theorem laws_FnValues.body_eq (S_laws_big : ((List Int)) → Option ((Bool) × Unit)) (S_spec_DrawValueText : ((List Int)) → Option ((GVal) × Unit)) (S_impl_ValueText : (GVal) → Option ((ByteArray) × Unit)) (S_spec_ValueOk : (GVal) → Option ((Bool) × Unit)) (S_impl_ValueOk : (GVal) → Option ((Bool) × Unit)) (S_impl_SizeOf : (GVal) → Option ((Int) × Unit)) (S_impl_ParseValue : (ByteArray) → Option ((GVal × Bool) × Unit)) (S_impl_SameValue : (GVal × GVal) → Option ((Bool) × Unit)) (again : List Item → St → Option ((Bool) × Unit)) (p0 : (List Int)) : eval0 (laws_FnValues.E S_laws_big S_spec_DrawValueText S_impl_ValueText S_spec_ValueOk S_impl_ValueOk S_impl_SizeOf S_impl_ParseValue S_impl_SameValue) again laws_FnValues.code 66 (encs 0 (Sig.args sg_laws_FnValues) p0).1 (encs 0 (Sig.args sg_laws_FnValues) p0).2 = laws_FnValues.body S_laws_big S_spec_DrawValueText S_impl_ValueText S_spec_ValueOk S_impl_ValueOk S_impl_SizeOf S_impl_ParseValue S_impl_SameValue (fun l => again (laws_FnValues.dec l).1 (laws_FnValues.dec l).2) p0 := by kernel_rfl
theorem laws_FnValues.con (S_laws_big : ((List Int)) → Option ((Bool) × Unit)) (S_spec_DrawValueText : ((List Int)) → Option ((GVal) × Unit)) (S_impl_ValueText : (GVal) → Option ((ByteArray) × Unit)) (S_spec_ValueOk : (GVal) → Option ((Bool) × Unit)) (S_impl_ValueOk : (GVal) → Option ((Bool) × Unit)) (S_impl_SizeOf : (GVal) → Option ((Int) × Unit)) (S_impl_ParseValue : (ByteArray) → Option ((GVal × Bool) × Unit)) (S_impl_SameValue : (GVal × GVal) → Option ((Bool) × Unit)) (h_laws_big : Con Go.Proofs.Tryd.prog 5 sg_laws_big S_laws_big) (h_spec_DrawValueText : Con Go.Proofs.Tryd.prog 6 sg_spec_DrawValueText S_spec_DrawValueText) (h_impl_ValueText : Con Go.Proofs.Tryd.prog 7 sg_impl_ValueText S_impl_ValueText) (h_spec_ValueOk : Con Go.Proofs.Tryd.prog 8 sg_spec_ValueOk S_spec_ValueOk) (h_impl_ValueOk : Con Go.Proofs.Tryd.prog 9 sg_impl_ValueOk S_impl_ValueOk) (h_impl_SizeOf : Con Go.Proofs.Tryd.prog 10 sg_impl_SizeOf S_impl_SizeOf) (h_impl_ParseValue : Con Go.Proofs.Tryd.prog 11 sg_impl_ParseValue S_impl_ParseValue) (h_impl_SameValue : Con Go.Proofs.Tryd.prog 12 sg_impl_SameValue S_impl_SameValue) (n : Nat) : Con Go.Proofs.Tryd.prog 3 sg_laws_FnValues (fun p0 => laws_FnValues.body S_laws_big S_spec_DrawValueText S_impl_ValueText S_spec_ValueOk S_impl_ValueOk S_impl_SizeOf S_impl_ParseValue S_impl_SameValue (go (laws_FnValues.step S_laws_big S_spec_DrawValueText S_impl_ValueText S_spec_ValueOk S_impl_ValueOk S_impl_SizeOf S_impl_ParseValue S_impl_SameValue) n) p0) :=
  Con.of_eval (t := fun _ => [row 5 sg_laws_big S_laws_big, row 6 sg_spec_DrawValueText S_spec_DrawValueText, row 7 sg_impl_ValueText S_impl_ValueText, row 8 sg_spec_ValueOk S_spec_ValueOk, row 9 sg_impl_ValueOk S_impl_ValueOk, row 10 sg_impl_SizeOf S_impl_SizeOf, row 11 sg_impl_ParseValue S_impl_ParseValue, row 12 sg_impl_SameValue S_impl_SameValue]) mixed ttok (fun _ => (.cons callable5 h_laws_big (.cons callable6 h_spec_DrawValueText (.cons callable7 h_impl_ValueText (.cons callable8 h_spec_ValueOk (.cons callable9 h_impl_ValueOk (.cons callable10 h_impl_SizeOf (.cons callable11 h_impl_ParseValue (.cons callable12 h_impl_SameValue .nil))))))))) Go.Proofs.Tryd.func3 (c := laws_FnValues.code) (by kernel_rfl) (fun p0 y h => ⟨n, (evalFn_go (laws_FnValues.step_eq S_laws_big S_spec_DrawValueText S_impl_ValueText S_spec_ValueOk S_impl_ValueOk S_impl_SizeOf S_impl_ParseValue S_impl_SameValue) (body := fun rec => laws_FnValues.body S_laws_big S_spec_DrawValueText S_impl_ValueText S_spec_ValueOk S_impl_ValueOk S_impl_SizeOf S_impl_ParseValue S_impl_SameValue rec p0) (fun again => laws_FnValues.body_eq S_laws_big S_spec_DrawValueText S_impl_ValueText S_spec_ValueOk S_impl_ValueOk S_impl_SizeOf S_impl_ParseValue S_impl_SameValue again p0) n).trans h⟩)

/-! ### impl_SizeOf -/
def impl_SizeOf.body (S_impl_ValueOk : (GVal) → Option ((Bool) × Unit)) (S_impl_measured : (GVal × Int) → Option ((Int) × Unit))  (p0 : GVal) : Option ((Int) × Unit) :=
  (S_impl_ValueOk (re p0)).bind fun y0 =>
  bif (Bool.not y0.1) then (
    some (0, ())) else
  (S_impl_measured ((re p0), 6)).bind fun y1 =>
  some (y1.1, ())
noncomputable def impl_SizeOf.code : Code := (Go.Proofs.Tryd.f10.body).getD .skip
noncomputable def impl_SizeOf.E (S_impl_ValueOk : (GVal) → Option ((Bool) × Unit)) (S_impl_measured : (GVal × Int) → Option ((Int) × Unit)) : Env ((Int) × Unit) := mkE tt (fun _ => [row 9 sg_impl_ValueOk S_impl_ValueOk, row 21 sg_impl_measured S_impl_measured]) [] [] sg_impl_SizeOf Go.Proofs.Tryd.f10.results.toList
theorem impl_SizeOf.body_eq (S_impl_ValueOk : (GVal) → Option ((Bool) × Unit)) (S_impl_measured : (GVal × Int) → Option ((Int) × Unit)) (again : List Item → St → Option ((Int) × Unit)) (p0 : GVal) : eval0 (impl_SizeOf.E S_impl_ValueOk S_impl_measured) again impl_SizeOf.code 8 (encs 0 (Sig.args sg_impl_SizeOf) p0).1 (encs 0 (Sig.args sg_impl_SizeOf) p0).2 = impl_SizeOf.body S_impl_ValueOk S_impl_measured  p0 := by kernel_rfl
theorem impl_SizeOf.con (S_impl_ValueOk : (GVal) → Option ((Bool) × Unit)) (S_impl_measured : (GVal × Int) → Option ((Int) × Unit)) (h_impl_ValueOk : Con Go.Proofs.Tryd.prog 9 sg_impl_ValueOk S_impl_ValueOk) (h_impl_measured : Con Go.Proofs.Tryd.prog 21 sg_impl_measured S_impl_measured)  : Con Go.Proofs.Tryd.prog 10 sg_impl_SizeOf (fun p0 => impl_SizeOf.body S_impl_ValueOk S_impl_measured  p0) :=
  Con.of_eval (t := fun _ => [row 9 sg_impl_ValueOk S_impl_ValueOk, row 21 sg_impl_measured S_impl_measured]) mixed ttok (fun _ => (.cons callable9 h_impl_ValueOk (.cons callable21 h_impl_measured .nil))) Go.Proofs.Tryd.func10 (c := impl_SizeOf.code) (by kernel_rfl) (fun p0 y h => ⟨0, (impl_SizeOf.body_eq S_impl_ValueOk S_impl_measured _ p0).trans h⟩)

/-! ### spec_l4DrawAny -/
inductive spec_l4DrawAny.L where
  | L0 (x0 : Int) (x1 : List Int) (x2 : Int) (x3 : Int) (x4 : Int) (x5 : ByteArray) (x6 : Int) (x7 : Int) (x8 : ByteArray) (x9 : Int) (x10 : List GVal)
def spec_l4DrawAny.step (S_spec_l4Draw : (((List Int) × (Int × Int)) × Int) → Option ((GVal) × ((List Int) × (Int × Int)))) (S_spec_l1Once : (((List Int) × (Int × Int)) × Int) → Option ((Bool) × ((List Int) × (Int × Int)))) (S_spec_l4Bend : (((List Int) × (Int × Int)) × GVal) → Option ((GVal) × ((List Int) × (Int × Int)))) (S_spec_l1Below : (((List Int) × (Int × Int)) × Int) → Option ((Int) × ((List Int) × (Int × Int)))) (rec : spec_l4DrawAny.L → Option ((GVal) × ((List Int) × (Int × Int)))) : spec_l4DrawAny.L → Option ((GVal) × ((List Int) × (Int × Int)))
  | .L0 x0 x1 x2 x3 x4 x5 x6 x7 x8 x9 x10 =>
    (S_spec_l1Below ((x1, (x2, x3)), 2)).bind fun y0 =>
    bif (decide (x0 < (IntKind.wrap .i64 (299 + y0.1)))) then (
      bif (decide ((((List.length x10) + 1) * 80) ≤ 140737488355328)) then
      rec (.L0 (IntKind.wrap .i64 (x0 + 1)) y0.2.1 y0.2.2.1 y0.2.2.2 x4 x5 x6 x7 x8 x9 (x10 ++ [(GVal.mk 3 (bs []) 0 [] [])])) else none) else
    some ((GVal.mk x7 x8 x9 [] x10), (y0.2.1, (y0.2.2.1, y0.2.2.2)))
def spec_l4DrawAny.body (S_spec_l4Draw : (((List Int) × (Int × Int)) × Int) → Option ((GVal) × ((List Int) × (Int × Int)))) (S_spec_l1Once : (((List Int) × (Int × Int)) × Int) → Option ((Bool) × ((List Int) × (Int × Int)))) (S_spec_l4Bend : (((List Int) × (Int × Int)) × GVal) → Option ((GVal) × ((List Int) × (Int × Int)))) (S_spec_l1Below : (((List Int) × (Int × Int)) × Int) → Option ((Int) × ((List Int) × (Int × Int)))) (rec : spec_l4DrawAny.L → Option ((GVal) × ((List Int) × (Int × Int)))) (p0a : (List Int)) (p0ba : Int) (p0bb : Int) : Option ((GVal) × ((List Int) × (Int × Int))) :=
  (S_spec_l4Draw ((p0a, (p0ba, p0bb)), 4)).bind fun y0 =>
  (S_spec_l1Once ((y0.2.1, (y0.2.2.1, y0.2.2.2)), 5)).bind fun y1 =>
  bif y1.1 then (
    (S_spec_l4Bend ((y1.2.1, (y1.2.2.1, y1.2.2.2)), (re y0.1))).bind fun y3 =>
    (S_spec_l1Once ((y3.2.1, (y3.2.2.1, y3.2.2.2)), 40)).bind fun y4 =>
    bif y4.1 then (
      rec (.L0 0 y4.2.1 y4.2.2.1 y4.2.2.2 0 (bs []) 0 4 (bs []) 0 [])) else
    some ((re y3.1), (y4.2.1, (y4.2.2.1, y4.2.2.2)))) else
  (S_spec_l1Once ((y1.2.1, (y1.2.2.1, y1.2.2.2)), 40)).bind fun y2 =>
  bif y2.1 then (
    rec (.L0 0 y2.2.1 y2.2.2.1 y2.2.2.2 0 (bs []) 0 4 (bs []) 0 [])) else
  some ((re y0.1), (y2.2.1, (y2.2.2.1, y2.2.2.2)))
noncomputable def spec_l4DrawAny.code : Code := (Go.Proofs.Tryd.f18.body).getD .skip
noncomputable def spec_l4DrawAny.E (S_spec_l4Draw : (((List Int) × (Int × Int)) × Int) → Option ((GVal) × ((List Int) × (Int × Int)))) (S_spec_l1Once : (((List Int) × (Int × Int)) × Int) → Option ((Bool) × ((List Int) × (Int × Int)))) (S_spec_l4Bend : (((List Int) × (Int × Int)) × GVal) → Option ((GVal) × ((List Int) × (Int × Int)))) (S_spec_l1Below : (((List Int) × (Int × Int)) × Int) → Option ((Int) × ((List Int) × (Int × Int)))) : Env ((GVal) × ((List Int) × (Int × Int))) := mkE tt (fun _ => [row 33 sg_spec_l4Draw S_spec_l4Draw, row 34 sg_spec_l1Once S_spec_l1Once, row 35 sg_spec_l4Bend S_spec_l4Bend, row 36 sg_spec_l1Below S_spec_l1Below]) [(7, ⟨[0, 2, 3, 4], [], [(3, 4, .own 27 (.gval 9 27))]⟩)] [] sg_spec_l4DrawAny Go.Proofs.Tryd.f18.results.toList
noncomputable def spec_l4DrawAny.dec : spec_l4DrawAny.L → List Item × St
  | .L0 x0 x1 x2 x3 x4 x5 x6 x7 x8 x9 x10 => (itemsAt 7 spec_l4DrawAny.code [], ⟨slotsAt 29 [(0, .ptr 0 0), (2, .ptr 1 0), (3, .ptr 2 0), (4, .int .i64 x0)], [.cells 54 [.slc 5 (.int .u8) x1, .int .i64 x2, .int .i64 x3], .cells 27 [.int .i64 x4, .str x5, .int .i64 x6, .nils, .nils], .cells 27 [.int .i64 x7, .str x8, .int .i64 x9, .nils, .own 3], .row 27 (.gval 9 27) x10]⟩)
theorem spec_l4DrawAny.step_eq (S_spec_l4Draw : (((List Int) × (Int × Int)) × Int) → Option ((GVal) × ((List Int) × (Int × Int)))) (S_spec_l1Once : (((List Int) × (Int × Int)) × Int) → Option ((Bool) × ((List Int) × (Int × Int)))) (S_spec_l4Bend : (((List Int) × (Int × Int)) × GVal) → Option ((GVal) × ((List Int) × (Int × Int)))) (S_spec_l1Below : (((List Int) × (Int × Int)) × Int) → Option ((Int) × ((List Int) × (Int × Int)))) (again : List Item → St → Option ((GVal) × ((List Int) × (Int × Int)))) : ∀ l, run1 (spec_l4DrawAny.E S_spec_l4Draw S_spec_l1Once S_spec_l4Bend S_spec_l1Below) again (spec_l4DrawAny.dec l).1 (spec_l4DrawAny.dec l).2 = spec_l4DrawAny.step S_spec_l4Draw S_spec_l1Once S_spec_l4Bend S_spec_l1Below (fun l => again (spec_l4DrawAny.dec l).1 (spec_l4DrawAny.dec l).2) l
  | .L0 x0 x1 x2 x3 x4 x5 x6 x7 x8 x9 x10 => by kernel_rfl
theorem spec_l4DrawAny.body_eq (S_spec_l4Draw : (((List Int) × (Int × Int)) × Int) → Option ((GVal) × ((List Int) × (Int × Int)))) (S_spec_l1Once : (((List Int) × (Int × Int)) × Int) → Option ((Bool) × ((List Int) × (Int × Int)))) (S_spec_l4Bend : (((List Int) × (Int × Int)) × GVal) → Option ((GVal) × ((List Int) × (Int × Int)))) (S_spec_l1Below : (((List Int) × (Int × Int)) × Int) → Option ((Int) × ((List Int) × (Int × Int)))) (again : List Item → St → Option ((GVal) × ((List Int) × (Int × Int)))) (p0a : (List Int)) (p0ba : Int) (p0bb : Int) : eval0 (spec_l4DrawAny.E S_spec_l4Draw S_spec_l1Once S_spec_l4Bend S_spec_l1Below) again spec_l4DrawAny.code 29 (encs 0 (Sig.args sg_spec_l4DrawAny) (p0a, (p0ba, p0bb))).1 (encs 0 (Sig.args sg_spec_l4DrawAny) (p0a, (p0ba, p0bb))).2 = spec_l4DrawAny.body S_spec_l4Draw S_spec_l1Once S_spec_l4Bend S_spec_l1Below (fun l => again (spec_l4DrawAny.dec l).1 (spec_l4DrawAny.dec l).2) p0a p0ba p0bb := by kernel_rfl
theorem spec_l4DrawAny.con (S_spec_l4Draw : (((List Int) × (Int × Int)) × Int) → Option ((GVal) × ((List Int) × (Int × Int)))) (S_spec_l1Once : (((List Int) × (Int × Int)) × Int) → Option ((Bool) × ((List Int) × (Int × Int)))) (S_spec_l4Bend : (((List Int) × (Int × Int)) × GVal) → Option ((GVal) × ((List Int) × (Int × Int)))) (S_spec_l1Below : (((List Int) × (Int × Int)) × Int) → Option ((Int) × ((List Int) × (Int × Int)))) (h_spec_l4Draw : Con Go.Proofs.Tryd.prog 33 sg_spec_l4Draw S_spec_l4Draw) (h_spec_l1Once : Con Go.Proofs.Tryd.prog 34 sg_spec_l1Once S_spec_l1Once) (h_spec_l4Bend : Con Go.Proofs.Tryd.prog 35 sg_spec_l4Bend S_spec_l4Bend) (h_spec_l1Below : Con Go.Proofs.Tryd.prog 36 sg_spec_l1Below S_spec_l1Below) (n : Nat) : Con Go.Proofs.Tryd.prog 18 sg_spec_l4DrawAny (fun (p0a, (p0ba, p0bb)) => spec_l4DrawAny.body S_spec_l4Draw S_spec_l1Once S_spec_l4Bend S_spec_l1Below (go (spec_l4DrawAny.step S_spec_l4Draw S_spec_l1Once S_spec_l4Bend S_spec_l1Below) n) p0a p0ba p0bb) :=
  Con.of_eval (t := fun _ => [row 33 sg_spec_l4Draw S_spec_l4Draw, row 34 sg_spec_l1Once S_spec_l1Once, row 35 sg_spec_l4Bend S_spec_l4Bend, row 36 sg_spec_l1Below S_spec_l1Below]) mixed ttok (fun _ => (.cons callable33 h_spec_l4Draw (.cons callable34 h_spec_l1Once (.cons callable35 h_spec_l4Bend (.cons callable36 h_spec_l1Below .nil))))) Go.Proofs.Tryd.func18 (c := spec_l4DrawAny.code) (by kernel_rfl) (fun (p0a, (p0ba, p0bb)) y h => ⟨n, (evalFn_go (spec_l4DrawAny.step_eq S_spec_l4Draw S_spec_l1Once S_spec_l4Bend S_spec_l1Below) (body := fun rec => spec_l4DrawAny.body S_spec_l4Draw S_spec_l1Once S_spec_l4Bend S_spec_l1Below rec p0a p0ba p0bb) (fun again => spec_l4DrawAny.body_eq S_spec_l4Draw S_spec_l1Once S_spec_l4Bend S_spec_l1Below again p0a p0ba p0bb) n).trans h⟩)

/-! ### slices_EqualFunc_Value -/
inductive slices_EqualFunc_Value.L where
  | L0 (x0 : List GVal) (x1 : List GVal) (x2 : Int) (x3 : Int)
def slices_EqualFunc_Value.step (S_impl_SameValue : (GVal × GVal) → Option ((Bool) × Unit)) (rec : slices_EqualFunc_Value.L → Option ((Bool) × Unit)) : slices_EqualFunc_Value.L → Option ((Bool) × Unit)
  | .L0 x0 x1 x2 x3 =>
    bif (decide (x3 < x2)) then (
      bif (decide (0 ≤ x3)) then
      bif (decide (x3 < (((List.length x1) : Nat) : Int))) then
      bif (decide (0 ≤ x3)) then
      bif (decide (x3 < (((List.length x0) : Nat) : Int))) then
      (S_impl_SameValue ((re (List.getD x1 (Int.toNat x3) (GVal.zero ))), (re (List.getD x0 (Int.toNat x3) (GVal.zero ))))).bind fun y0 =>
      bif (Bool.not y0.1) then (
        some (false, ())) else
      rec (.L0 x0 x1 x2 (IntKind.wrap .i64 (x3 + 1))) else none else none else none else none) else
    some (true, ())
def slices_EqualFunc_Value.body (S_impl_SameValue : (GVal × GVal) → Option ((Bool) × Unit)) (rec : slices_EqualFunc_Value.L → Option ((Bool) × Unit)) (p0 : (List GVal)) (p1 : (List GVal)) : Option ((Bool) × Unit) :=
  bif ((((List.length p0) : Nat) : Int) != (((List.length p1) : Nat) : Int)) then (
    some (false, ())) else
  rec (.L0 p1 p0 (((List.length p0) : Nat) : Int) 0)
noncomputable def slices_EqualFunc_Value.code : Code := (Go.Proofs.Tryd.f24.body).getD .skip
noncomputable def slices_EqualFunc_Value.E (S_impl_SameValue : (GVal × GVal) → Option ((Bool) × Unit)) : Env ((Bool) × Unit) := mkE tt (fun _ => [row 12 sg_impl_SameValue S_impl_SameValue]) [(4, ⟨[1, 2, 15, 16, 17], [], []⟩)] [] sg_slices_EqualFunc_Value Go.Proofs.Tryd.f24.results.toList
noncomputable def slices_EqualFunc_Value.dec : slices_EqualFunc_Value.L → List Item × St
  | .L0 x0 x1 x2 x3 => (itemsAt 4 slices_EqualFunc_Value.code [], ⟨slotsAt 32 [(1, .slc 27 (.gval 9 27) x0), (2, .fn 12 []), (15, .slc 27 (.gval 9 27) x1), (16, .int .i64 x2), (17, .int .i64 x3)], []⟩)
theorem slices_EqualFunc_Value.step_eq (S_impl_SameValue : (GVal × GVal) → Option ((Bool) × Unit)) (again : List Item → St → Option ((Bool) × Unit)) : ∀ l, run1 (slices_EqualFunc_Value.E S_impl_SameValue) again (slices_EqualFunc_Value.dec l).1 (slices_EqualFunc_Value.dec l).2 = slices_EqualFunc_Value.step S_impl_SameValue (fun l => again (slices_EqualFunc_Value.dec l).1 (slices_EqualFunc_Value.dec l).2) l
  | .L0 x0 x1 x2 x3 => by kernel_rfl
theorem slices_EqualFunc_Value.body_eq (S_impl_SameValue : (GVal × GVal) → Option ((Bool) × Unit)) (again : List Item → St → Option ((Bool) × Unit)) (p0 : (List GVal)) (p1 : (List GVal)) : eval0 (slices_EqualFunc_Value.E S_impl_SameValue) again slices_EqualFunc_Value.code 32 (encs 0 (Sig.args sg_slices_EqualFunc_Value) (p0, p1, ())).1 (encs 0 (Sig.args sg_slices_EqualFunc_Value) (p0, p1, ())).2 = slices_EqualFunc_Value.body S_impl_SameValue (fun l => again (slices_EqualFunc_Value.dec l).1 (slices_EqualFunc_Value.dec l).2) p0 p1 := by kernel_rfl
theorem slices_EqualFunc_Value.con (S_impl_SameValue : (GVal × GVal) → Option ((Bool) × Unit)) (h_impl_SameValue : Con Go.Proofs.Tryd.prog 12 sg_impl_SameValue S_impl_SameValue) (n : Nat) : Con Go.Proofs.Tryd.prog 24 sg_slices_EqualFunc_Value (fun (p0, p1, ()) => slices_EqualFunc_Value.body S_impl_SameValue (go (slices_EqualFunc_Value.step S_impl_SameValue) n) p0 p1) :=
  Con.of_eval (t := fun _ => [row 12 sg_impl_SameValue S_impl_SameValue]) mixed ttok (fun _ => (.cons callable12 h_impl_SameValue .nil)) Go.Proofs.Tryd.func24 (c := slices_EqualFunc_Value.code) (by kernel_rfl) (fun (p0, p1, ()) y h => ⟨n, (evalFn_go (slices_EqualFunc_Value.step_eq S_impl_SameValue) (body := fun rec => slices_EqualFunc_Value.body S_impl_SameValue rec p0 p1) (fun again => slices_EqualFunc_Value.body_eq S_impl_SameValue again p0 p1) n).trans h⟩)

/-! ### spec_l1Once -/
def spec_l1Once.body (S_spec_l1Below : (((List Int) × (Int × Int)) × Int) → Option ((Int) × ((List Int) × (Int × Int))))  (p0a : (List Int)) (p0ba : Int) (p0bb : Int) (p1 : Int) : Option ((Bool) × ((List Int) × (Int × Int))) :=
  (S_spec_l1Below ((p0a, (p0ba, p0bb)), p1)).bind fun y0 =>
  some ((y0.1 == 0), (y0.2.1, (y0.2.2.1, y0.2.2.2)))
noncomputable def spec_l1Once.code : Code := (Go.Proofs.Tryd.f34.body).getD .skip
noncomputable def spec_l1Once.E (S_spec_l1Below : (((List Int) × (Int × Int)) × Int) → Option ((Int) × ((List Int) × (Int × Int)))) : Env ((Bool) × ((List Int) × (Int × Int))) := mkE tt (fun _ => [row 36 sg_spec_l1Below S_spec_l1Below]) [] [] sg_spec_l1Once Go.Proofs.Tryd.f34.results.toList
theorem spec_l1Once.body_eq (S_spec_l1Below : (((List Int) × (Int × Int)) × Int) → Option ((Int) × ((List Int) × (Int × Int)))) (again : List Item → St → Option ((Bool) × ((List Int) × (Int × Int)))) (p0a : (List Int)) (p0ba : Int) (p0bb : Int) (p1 : Int) : eval0 (spec_l1Once.E S_spec_l1Below) again spec_l1Once.code 9 (encs 0 (Sig.args sg_spec_l1Once) ((p0a, (p0ba, p0bb)), p1)).1 (encs 0 (Sig.args sg_spec_l1Once) ((p0a, (p0ba, p0bb)), p1)).2 = spec_l1Once.body S_spec_l1Below  p0a p0ba p0bb p1 := by kernel_rfl
theorem spec_l1Once.con (S_spec_l1Below : (((List Int) × (Int × Int)) × Int) → Option ((Int) × ((List Int) × (Int × Int)))) (h_spec_l1Below : Con Go.Proofs.Tryd.prog 36 sg_spec_l1Below S_spec_l1Below)  : Con Go.Proofs.Tryd.prog 34 sg_spec_l1Once (fun ((p0a, (p0ba, p0bb)), p1) => spec_l1Once.body S_spec_l1Below  p0a p0ba p0bb p1) :=
  Con.of_eval (t := fun _ => [row 36 sg_spec_l1Below S_spec_l1Below]) mixed ttok (fun _ => (.cons callable36 h_spec_l1Below .nil)) Go.Proofs.Tryd.func34 (c := spec_l1Once.code) (by kernel_rfl) (fun ((p0a, (p0ba, p0bb)), p1) y h => ⟨0, (spec_l1Once.body_eq S_spec_l1Below _ p0a p0ba p0bb p1).trans h⟩)

/-! ### spec_l1In -/
def spec_l1In.body   (p0 : Int) (p1 : Int) (p2 : Int) : Option ((Bool) × Unit) :=
  bif (decide (p1 ≤ p0)) then (
    some ((decide (p0 ≤ p2)), ())) else
  some (false, ())
noncomputable def spec_l1In.code : Code := (Go.Proofs.Tryd.f41.body).getD .skip
noncomputable def spec_l1In.E  : Env ((Bool) × Unit) := mkE tt (fun _ => []) [] [] sg_spec_l1In Go.Proofs.Tryd.f41.results.toList
theorem spec_l1In.body_eq  (again : List Item → St → Option ((Bool) × Unit)) (p0 : Int) (p1 : Int) (p2 : Int) : eval0 (spec_l1In.E ) again spec_l1In.code 15 (encs 0 (Sig.args sg_spec_l1In) (p0, p1, p2)).1 (encs 0 (Sig.args sg_spec_l1In) (p0, p1, p2)).2 = spec_l1In.body   p0 p1 p2 := by kernel_rfl
theorem spec_l1In.con    : Con Go.Proofs.Tryd.prog 41 sg_spec_l1In (fun (p0, p1, p2) => spec_l1In.body   p0 p1 p2) :=
  Con.of_eval (t := fun _ => []) mixed ttok (fun _ => .nil) Go.Proofs.Tryd.func41 (c := spec_l1In.code) (by kernel_rfl) (fun (p0, p1, p2) y h => ⟨0, (spec_l1In.body_eq  _ p0 p1 p2).trans h⟩)

/-! ### impl_parser_till -/
def impl_parser_till.body (S_strings_IndexAny : (ByteArray × ByteArray) → Option ((Int) × Unit))  (p0a : ByteArray) (p0b : Bool) (p1 : ByteArray) : Option ((ByteArray) × (ByteArray × Bool)) :=
  (S_strings_IndexAny (p0a, p1)).bind fun y0 =>
  bif (decide (y0.1 < 0)) then (
    bif (decide ((((ByteArray.size p0a) : Nat) : Int) ≤ (((ByteArray.size p0a) : Nat) : Int))) then
    bif (decide ((((ByteArray.size p0a) : Nat) : Int) ≤ (((ByteArray.size p0a) : Nat) : Int))) then
    bif (decide ((((ByteArray.size p0a) : Nat) : Int) ≤ (((ByteArray.size p0a) : Nat) : Int))) then
    some ((ByteArray.extract p0a 0 (Int.toNat (((ByteArray.size p0a) : Nat) : Int))), ((ByteArray.extract p0a (Int.toNat (((ByteArray.size p0a) : Nat) : Int)) (Int.toNat (((ByteArray.size p0a) : Nat) : Int))), p0b)) else none else none else none) else
  bif (decide (0 ≤ y0.1)) then
  bif (decide (y0.1 ≤ (((ByteArray.size p0a) : Nat) : Int))) then
  bif (decide (0 ≤ y0.1)) then
  bif (decide ((((ByteArray.size p0a) : Nat) : Int) ≤ (((ByteArray.size p0a) : Nat) : Int))) then
  bif (decide (0 ≤ y0.1)) then
  bif (decide (y0.1 ≤ (((ByteArray.size p0a) : Nat) : Int))) then
  some ((ByteArray.extract p0a 0 (Int.toNat y0.1)), ((ByteArray.extract p0a (Int.toNat y0.1) (Int.toNat (((ByteArray.size p0a) : Nat) : Int))), p0b)) else none else none else none else none else none else none
noncomputable def impl_parser_till.code : Code := (Go.Proofs.Tryd.f47.body).getD .skip
noncomputable def impl_parser_till.E (S_strings_IndexAny : (ByteArray × ByteArray) → Option ((Int) × Unit)) : Env ((ByteArray) × (ByteArray × Bool)) := mkE tt (fun _ => [row 71 sg_strings_IndexAny S_strings_IndexAny]) [] [] sg_impl_parser_till Go.Proofs.Tryd.f47.results.toList
theorem impl_parser_till.body_eq (S_strings_IndexAny : (ByteArray × ByteArray) → Option ((Int) × Unit)) (again : List Item → St → Option ((ByteArray) × (ByteArray × Bool))) (p0a : ByteArray) (p0b : Bool) (p1 : ByteArray) : eval0 (impl_parser_till.E S_strings_IndexAny) again impl_parser_till.code 36 (encs 0 (Sig.args sg_impl_parser_till) ((p0a, p0b), p1)).1 (encs 0 (Sig.args sg_impl_parser_till) ((p0a, p0b), p1)).2 = impl_parser_till.body S_strings_IndexAny  p0a p0b p1 := by kernel_rfl
theorem impl_parser_till.con (S_strings_IndexAny : (ByteArray × ByteArray) → Option ((Int) × Unit)) (h_strings_IndexAny : Con Go.Proofs.Tryd.prog 71 sg_strings_IndexAny S_strings_IndexAny)  : Con Go.Proofs.Tryd.prog 47 sg_impl_parser_till (fun ((p0a, p0b), p1) => impl_parser_till.body S_strings_IndexAny  p0a p0b p1) :=
  Con.of_eval (t := fun _ => [row 71 sg_strings_IndexAny S_strings_IndexAny]) mixed ttok (fun _ => (.cons callable71 h_strings_IndexAny .nil)) Go.Proofs.Tryd.func47 (c := impl_parser_till.code) (by kernel_rfl) (fun ((p0a, p0b), p1) y h => ⟨0, (impl_parser_till.body_eq S_strings_IndexAny _ p0a p0b p1).trans h⟩)

/-! ### spec_l4Quoted -/
inductive spec_l4Quoted.L where
  | L0 (x0 : ByteArray) (x1 : Int) (x2 : List Int)
def spec_l4Quoted.step  (rec : spec_l4Quoted.L → Option ((ByteArray) × Unit)) : spec_l4Quoted.L → Option ((ByteArray) × Unit)
  | .L0 x0 x1 x2 =>
    bif (decide (x1 < (((ByteArray.size x0) : Nat) : Int))) then (
      bif (decide (0 ≤ x1)) then
      bif (decide (x1 < (((ByteArray.size x0) : Nat) : Int))) then
      bif ((bt x0 x1) == 34) then (
        bif (decide ((((List.length x2) + 1) * 1) ≤ 140737488355328)) then
        bif (decide (0 ≤ x1)) then
        bif (decide (x1 < (((ByteArray.size x0) : Nat) : Int))) then
        bif (decide ((((List.length (x2 ++ [92])) + (List.length ((bt x0 x1) :: []))) * 1) ≤ 140737488355328)) then
        rec (.L0 x0 (IntKind.wrap .i64 (x1 + 1)) ((x2 ++ [92]) ++ ((bt x0 x1) :: []))) else none else none else none else none) else
      bif (decide (0 ≤ x1)) then
      bif (decide (x1 < (((ByteArray.size x0) : Nat) : Int))) then
      bif ((bt x0 x1) == 92) then (
        bif (decide ((((List.length x2) + 1) * 1) ≤ 140737488355328)) then
        bif (decide (0 ≤ x1)) then
        bif (decide (x1 < (((ByteArray.size x0) : Nat) : Int))) then
        bif (decide ((((List.length (x2 ++ [92])) + (List.length ((bt x0 x1) :: []))) * 1) ≤ 140737488355328)) then
        rec (.L0 x0 (IntKind.wrap .i64 (x1 + 1)) ((x2 ++ [92]) ++ ((bt x0 x1) :: []))) else none else none else none else none) else
      bif (decide (0 ≤ x1)) then
      bif (decide (x1 < (((ByteArray.size x0) : Nat) : Int))) then
      bif (decide ((((List.length x2) + (List.length ((bt x0 x1) :: []))) * 1) ≤ 140737488355328)) then
      rec (.L0 x0 (IntKind.wrap .i64 (x1 + 1)) (x2 ++ ((bt x0 x1) :: []))) else none else none else none else none else none else none else none) else
    bif (decide ((((List.length x2) + 1) * 1) ≤ 140737488355328)) then
    some ((ofBytes (x2 ++ [34])), ()) else none
def spec_l4Quoted.body  (rec : spec_l4Quoted.L → Option ((ByteArray) × Unit)) (p0 : ByteArray) : Option ((ByteArray) × Unit) :=
  rec (.L0 p0 0 [34])
noncomputable def spec_l4Quoted.code : Code := (Go.Proofs.Tryd.f53.body).getD .skip
noncomputable def spec_l4Quoted.E  : Env ((ByteArray) × Unit) := mkE tt (fun _ => []) [(3, ⟨[0, 3, 4], [], []⟩)] [] sg_spec_l4Quoted Go.Proofs.Tryd.f53.results.toList
noncomputable def spec_l4Quoted.dec : spec_l4Quoted.L → List Item × St
  | .L0 x0 x1 x2 => (itemsAt 3 spec_l4Quoted.code [], ⟨slotsAt 35 [(0, .str x0), (3, .own 0), (4, .int .i64 x1)], [.row 5 (.int .u8) x2]⟩)
theorem spec_l4Quoted.step_eq  (again : List Item → St → Option ((ByteArray) × Unit)) : ∀ l, run1 (spec_l4Quoted.E ) again (spec_l4Quoted.dec l).1 (spec_l4Quoted.dec l).2 = spec_l4Quoted.step  (fun l => again (spec_l4Quoted.dec l).1 (spec_l4Quoted.dec l).2) l
  | .L0 x0 x1 x2 => by kernel_rfl
theorem spec_l4Quoted.body_eq  (again : List Item → St → Option ((ByteArray) × Unit)) (p0 : ByteArray) : eval0 (spec_l4Quoted.E ) again spec_l4Quoted.code 35 (encs 0 (Sig.args sg_spec_l4Quoted) p0).1 (encs 0 (Sig.args sg_spec_l4Quoted) p0).2 = spec_l4Quoted.body  (fun l => again (spec_l4Quoted.dec l).1 (spec_l4Quoted.dec l).2) p0 := by kernel_rfl
theorem spec_l4Quoted.con   (n : Nat) : Con Go.Proofs.Tryd.prog 53 sg_spec_l4Quoted (fun p0 => spec_l4Quoted.body  (go (spec_l4Quoted.step ) n) p0) :=
  Con.of_eval (t := fun _ => []) mixed ttok (fun _ => .nil) Go.Proofs.Tryd.func53 (c := spec_l4Quoted.code) (by kernel_rfl) (fun p0 y h => ⟨n, (evalFn_go (spec_l4Quoted.step_eq ) (body := fun rec => spec_l4Quoted.body  rec p0) (fun again => spec_l4Quoted.body_eq  again p0) n).trans h⟩)

/-! ### spec_l1NameAny -/
def spec_l1NameAny.body (S_spec_l1Once : (((List Int) × (Int × Int)) × Int) → Option ((Bool) × ((List Int) × (Int × Int)))) (S_spec_l1Str : (((List Int) × (Int × Int)) × (List ByteArray)) → Option ((ByteArray) × ((List Int) × (Int × Int)))) (S_spec_l1Name : (((List Int) × (Int × Int))) → Option ((ByteArray) × ((List Int) × (Int × Int))))  (p0a : (List Int)) (p0ba : Int) (p0bb : Int) : Option ((ByteArray) × ((List Int) × (Int × Int))) :=
  (S_spec_l1Once ((p0a, (p0ba, p0bb)), 8)).bind fun y0 =>
  bif y0.1 then (
    (S_spec_l1Str ((y0.2.1, (y0.2.2.1, y0.2.2.2)), ((bs []) :: ((bs [45, 97]) :: ((bs [97, 45]) :: ((bs [65]) :: ((bs [97, 32, 98]) :: ((bs [97, 98, 99, 100, 101, 102, 103, 104, 105, 106, 107, 108, 109, 110, 111, 112, 113, 114, 115, 116, 117]) :: ((bs [255]) :: [(bs [97, 61, 98])]))))))))).bind fun y2 =>
    some (y2.1, (y2.2.1, (y2.2.2.1, y2.2.2.2)))) else
  (S_spec_l1Name (y0.2.1, (y0.2.2.1, y0.2.2.2))).bind fun y1 =>
  some (y1.1, (y1.2.1, (y1.2.2.1, y1.2.2.2)))
noncomputable def spec_l1NameAny.code : Code := (Go.Proofs.Tryd.f60.body).getD .skip
noncomputable def spec_l1NameAny.E (S_spec_l1Once : (((List Int) × (Int × Int)) × Int) → Option ((Bool) × ((List Int) × (Int × Int)))) (S_spec_l1Str : (((List Int) × (Int × Int)) × (List ByteArray)) → Option ((ByteArray) × ((List Int) × (Int × Int)))) (S_spec_l1Name : (((List Int) × (Int × Int))) → Option ((ByteArray) × ((List Int) × (Int × Int)))) : Env ((ByteArray) × ((List Int) × (Int × Int))) := mkE tt (fun _ => [row 34 sg_spec_l1Once S_spec_l1Once, row 56 sg_spec_l1Str S_spec_l1Str, row 76 sg_spec_l1Name S_spec_l1Name]) [] [] sg_spec_l1NameAny Go.Proofs.Tryd.f60.results.toList
theorem spec_l1NameAny.body_eq (S_spec_l1Once : (((List Int) × (Int × Int)) × Int) → Option ((Bool) × ((List Int) × (Int × Int)))) (S_spec_l1Str : (((List Int) × (Int × Int)) × (List ByteArray)) → Option ((ByteArray) × ((List Int) × (Int × Int)))) (S_spec_l1Name : (((List Int) × (Int × Int))) → Option ((ByteArray) × ((List Int) × (Int × Int)))) (again : List Item → St → Option ((ByteArray) × ((List Int) × (Int × Int)))) (p0a : (List Int)) (p0ba : Int) (p0bb : Int) : eval0 (spec_l1NameAny.E S_spec_l1Once S_spec_l1Str S_spec_l1Name) again spec_l1NameAny.code 10 (encs 0 (Sig.args sg_spec_l1NameAny) (p0a, (p0ba, p0bb))).1 (encs 0 (Sig.args sg_spec_l1NameAny) (p0a, (p0ba, p0bb))).2 = spec_l1NameAny.body S_spec_l1Once S_spec_l1Str S_spec_l1Name  p0a p0ba p0bb := by kernel_rfl
theorem spec_l1NameAny.con (S_spec_l1Once : (((List Int) × (Int × Int)) × Int) → Option ((Bool) × ((List Int) × (Int × Int)))) (S_spec_l1Str : (((List Int) × (Int × Int)) × (List ByteArray)) → Option ((ByteArray) × ((List Int) × (Int × Int)))) (S_spec_l1Name : (((List Int) × (Int × Int))) → Option ((ByteArray) × ((List Int) × (Int × Int)))) (h_spec_l1Once : Con Go.Proofs.Tryd.prog 34 sg_spec_l1Once S_spec_l1Once) (h_spec_l1Str : Con Go.Proofs.Tryd.prog 56 sg_spec_l1Str S_spec_l1Str) (h_spec_l1Name : Con Go.Proofs.Tryd.prog 76 sg_spec_l1Name S_spec_l1Name)  : Con Go.Proofs.Tryd.prog 60 sg_spec_l1NameAny (fun (p0a, (p0ba, p0bb)) => spec_l1NameAny.body S_spec_l1Once S_spec_l1Str S_spec_l1Name  p0a p0ba p0bb) :=
  Con.of_eval (t := fun _ => [row 34 sg_spec_l1Once S_spec_l1Once, row 56 sg_spec_l1Str S_spec_l1Str, row 76 sg_spec_l1Name S_spec_l1Name]) mixed ttok (fun _ => (.cons callable34 h_spec_l1Once (.cons callable56 h_spec_l1Str (.cons callable76 h_spec_l1Name .nil)))) Go.Proofs.Tryd.func60 (c := spec_l1NameAny.code) (by kernel_rfl) (fun (p0a, (p0ba, p0bb)) y h => ⟨0, (spec_l1NameAny.body_eq S_spec_l1Once S_spec_l1Str S_spec_l1Name _ p0a p0ba p0bb).trans h⟩)

/-! ### spec_l4Peek -/
def spec_l4Peek.body   (p0a : ByteArray) (p0ba : Int) (p0bb : Bool) : Option ((Int) × (ByteArray × (Int × Bool))) :=
  bif p0bb then (
    some (0, (p0a, (p0ba, p0bb)))) else
  bif (decide ((((ByteArray.size p0a) : Nat) : Int) ≤ p0ba)) then (
    some (0, (p0a, (p0ba, p0bb)))) else
  bif (decide (0 ≤ p0ba)) then
  bif (decide (p0ba < (((ByteArray.size p0a) : Nat) : Int))) then
  some ((bt p0a p0ba), (p0a, (p0ba, p0bb))) else none else none
noncomputable def spec_l4Peek.code : Code := (Go.Proofs.Tryd.f73.body).getD .skip
noncomputable def spec_l4Peek.E  : Env ((Int) × (ByteArray × (Int × Bool))) := mkE tt (fun _ => []) [] [] sg_spec_l4Peek Go.Proofs.Tryd.f73.results.toList
theorem spec_l4Peek.body_eq  (again : List Item → St → Option ((Int) × (ByteArray × (Int × Bool)))) (p0a : ByteArray) (p0ba : Int) (p0bb : Bool) : eval0 (spec_l4Peek.E ) again spec_l4Peek.code 28 (encs 0 (Sig.args sg_spec_l4Peek) (p0a, (p0ba, p0bb))).1 (encs 0 (Sig.args sg_spec_l4Peek) (p0a, (p0ba, p0bb))).2 = spec_l4Peek.body   p0a p0ba p0bb := by kernel_rfl
theorem spec_l4Peek.con    : Con Go.Proofs.Tryd.prog 73 sg_spec_l4Peek (fun (p0a, (p0ba, p0bb)) => spec_l4Peek.body   p0a p0ba p0bb) :=
  Con.of_eval (t := fun _ => []) mixed ttok (fun _ => .nil) Go.Proofs.Tryd.func73 (c := spec_l4Peek.code) (by kernel_rfl) (fun (p0a, (p0ba, p0bb)) y h => ⟨0, (spec_l4Peek.body_eq  _ p0a p0ba p0bb).trans h⟩)

/-! ### spec_LabelsOk -/
inductive spec_LabelsOk.L where
  | L0 (x0 : List (ByteArray × ByteArray)) (x1 : Int)
def spec_LabelsOk.step (S_spec_NameOk : (ByteArray) → Option ((Bool) × Unit)) (rec : spec_LabelsOk.L → Option ((Bool) × Unit)) : spec_LabelsOk.L → Option ((Bool) × Unit)
  | .L0 x0 x1 =>
    bif (decide (x1 < (((List.length x0) : Nat) : Int))) then (
      bif (decide (0 ≤ x1)) then
      bif (decide (x1 < (((List.length x0) : Nat) : Int))) then
      (S_spec_NameOk (List.getD x0 (Int.toNat x1) ((bs []), (bs []))).1).bind fun y0 =>
      bif (Bool.not y0.1) then (
        some (false, ())) else
      bif (decide (0 ≤ x1)) then
      bif (decide (x1 < (((List.length x0) : Nat) : Int))) then
      (S_spec_NameOk (List.getD x0 (Int.toNat x1) ((bs []), (bs []))).2).bind fun y1 =>
      bif (Bool.not y1.1) then (
        some (false, ())) else
      bif (decide (0 < x1)) then (
        bif (decide (0 ≤ (IntKind.wrap .i64 (x1 - 1)))) then
        bif (decide ((IntKind.wrap .i64 (x1 - 1)) < (((List.length x0) : Nat) : Int))) then
        bif (decide (0 ≤ x1)) then
        bif (decide (x1 < (((List.length x0) : Nat) : Int))) then
        bif (Bool.not (slt (List.getD x0 (Int.toNat (IntKind.wrap .i64 (x1 - 1))) ((bs []), (bs []))).1 (List.getD x0 (Int.toNat x1) ((bs []), (bs []))).1)) then (
          some (false, ())) else
        rec (.L0 x0 (IntKind.wrap .i64 (x1 + 1))) else none else none else none else none) else
      rec (.L0 x0 (IntKind.wrap .i64 (x1 + 1))) else none else none else none else none) else
    some ((decide ((((List.length x0) : Nat) : Int) ≤ 8)), ())
def spec_LabelsOk.body (S_spec_NameOk : (ByteArray) → Option ((Bool) × Unit)) (rec : spec_LabelsOk.L → Option ((Bool) × Unit)) (p0 : (List (ByteArray × ByteArray))) : Option ((Bool) × Unit) :=
  rec (.L0 p0 0)
noncomputable def spec_LabelsOk.code : Code := (Go.Proofs.Tryd.f88.body).getD .skip
noncomputable def spec_LabelsOk.E (S_spec_NameOk : (ByteArray) → Option ((Bool) × Unit)) : Env ((Bool) × Unit) := mkE tt (fun _ => [row 66 sg_spec_NameOk S_spec_NameOk]) [(2, ⟨[0, 3], [], []⟩)] [] sg_spec_LabelsOk Go.Proofs.Tryd.f88.results.toList
noncomputable def spec_LabelsOk.dec : spec_LabelsOk.L → List Item × St
  | .L0 x0 x1 => (itemsAt 2 spec_LabelsOk.code [], ⟨slotsAt 47 [(0, .slc 77 (.pair .str .str) x0), (3, .int .i64 x1)], []⟩)
theorem spec_LabelsOk.step_eq (S_spec_NameOk : (ByteArray) → Option ((Bool) × Unit)) (again : List Item → St → Option ((Bool) × Unit)) : ∀ l, run1 (spec_LabelsOk.E S_spec_NameOk) again (spec_LabelsOk.dec l).1 (spec_LabelsOk.dec l).2 = spec_LabelsOk.step S_spec_NameOk (fun l => again (spec_LabelsOk.dec l).1 (spec_LabelsOk.dec l).2) l
  | .L0 x0 x1 => by kernel_rfl
theorem spec_LabelsOk.body_eq (S_spec_NameOk : (ByteArray) → Option ((Bool) × Unit)) (again : List Item → St → Option ((Bool) × Unit)) (p0 : (List (ByteArray × ByteArray))) : eval0 (spec_LabelsOk.E S_spec_NameOk) again spec_LabelsOk.code 47 (encs 0 (Sig.args sg_spec_LabelsOk) p0).1 (encs 0 (Sig.args sg_spec_LabelsOk) p0).2 = spec_LabelsOk.body S_spec_NameOk (fun l => again (spec_LabelsOk.dec l).1 (spec_LabelsOk.dec l).2) p0 := by kernel_rfl
theorem spec_LabelsOk.con (S_spec_NameOk : (ByteArray) → Option ((Bool) × Unit)) (h_spec_NameOk : Con Go.Proofs.Tryd.prog 66 sg_spec_NameOk S_spec_NameOk) (n : Nat) : Con Go.Proofs.Tryd.prog 88 sg_spec_LabelsOk (fun p0 => spec_LabelsOk.body S_spec_NameOk (go (spec_LabelsOk.step S_spec_NameOk) n) p0) :=
  Con.of_eval (t := fun _ => [row 66 sg_spec_NameOk S_spec_NameOk]) mixed ttok (fun _ => (.cons callable66 h_spec_NameOk .nil)) Go.Proofs.Tryd.func88 (c := spec_LabelsOk.code) (by kernel_rfl) (fun p0 y h => ⟨n, (evalFn_go (spec_LabelsOk.step_eq S_spec_NameOk) (body := fun rec => spec_LabelsOk.body S_spec_NameOk rec p0) (fun again => spec_LabelsOk.body_eq S_spec_NameOk again p0) n).trans h⟩)

/-! ### stringslite_TrimPrefix -/
def stringslite_TrimPrefix.body (S_stringslite_HasPrefix : (ByteArray × ByteArray) → Option ((Bool) × Unit))  (p0 : ByteArray) (p1 : ByteArray) : Option ((ByteArray) × Unit) :=
  (S_stringslite_HasPrefix (p0, p1)).bind fun y0 =>
  bif y0.1 then (
    bif (decide ((((ByteArray.size p0) : Nat) : Int) ≤ (((ByteArray.size p0) : Nat) : Int))) then
    bif (decide ((((ByteArray.size p1) : Nat) : Int) ≤ (((ByteArray.size p0) : Nat) : Int))) then
    some ((ByteArray.extract p0 (Int.toNat (((ByteArray.size p1) : Nat) : Int)) (Int.toNat (((ByteArray.size p0) : Nat) : Int))), ()) else none else none) else
  some (p0, ())
noncomputable def stringslite_TrimPrefix.code : Code := (Go.Proofs.Tryd.f86.body).getD .skip
noncomputable def stringslite_TrimPrefix.E (S_stringslite_HasPrefix : (ByteArray × ByteArray) → Option ((Bool) × Unit)) : Env ((ByteArray) × Unit) := mkE tt (fun _ => [row 95 sg_stringslite_HasPrefix S_stringslite_HasPrefix]) [] [] sg_stringslite_TrimPrefix Go.Proofs.Tryd.f86.results.toList
theorem stringslite_TrimPrefix.body_eq (S_stringslite_HasPrefix : (ByteArray × ByteArray) → Option ((Bool) × Unit)) (again : List Item → St → Option ((ByteArray) × Unit)) (p0 : ByteArray) (p1 : ByteArray) : eval0 (stringslite_TrimPrefix.E S_stringslite_HasPrefix) again stringslite_TrimPrefix.code 13 (encs 0 (Sig.args sg_stringslite_TrimPrefix) (p0, p1)).1 (encs 0 (Sig.args sg_stringslite_TrimPrefix) (p0, p1)).2 = stringslite_TrimPrefix.body S_stringslite_HasPrefix  p0 p1 := by kernel_rfl
theorem stringslite_TrimPrefix.con (S_stringslite_HasPrefix : (ByteArray × ByteArray) → Option ((Bool) × Unit)) (h_stringslite_HasPrefix : Con Go.Proofs.Tryd.prog 95 sg_stringslite_HasPrefix S_stringslite_HasPrefix)  : Con Go.Proofs.Tryd.prog 86 sg_stringslite_TrimPrefix (fun (p0, p1) => stringslite_TrimPrefix.body S_stringslite_HasPrefix  p0 p1) :=
  Con.of_eval (t := fun _ => [row 95 sg_stringslite_HasPrefix S_stringslite_HasPrefix]) mixed ttok (fun _ => (.cons callable95 h_stringslite_HasPrefix .nil)) Go.Proofs.Tryd.func86 (c := stringslite_TrimPrefix.code) (by kernel_rfl) (fun (p0, p1) y h => ⟨0, (stringslite_TrimPrefix.body_eq S_stringslite_HasPrefix _ p0 p1).trans h⟩)

end Go.Proofs.YtgbfelpdlekbkaaDoor
