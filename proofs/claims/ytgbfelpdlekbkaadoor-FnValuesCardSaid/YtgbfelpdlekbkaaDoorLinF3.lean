/- Go functions as plain functions, and that they are so. -/
import Derived.Test.YtgbfelpdlekbkaaDoorLinS
set_option linter.unusedVariables false
set_option linter.unusedSimpArgs false
set_option linter.unusedVariables false
namespace Go.Proofs.YtgbfelpdlekbkaaDoor
open Go Go.Proofs Go.Lin
/-! ### impl_ValueText -/
def impl_ValueText.body (S_impl_ValueOk : (GVal) → Option ((Bool) × Unit)) (S_impl_written : (GVal) → Option ((ByteArray) × Unit))  (p0 : GVal) : Option ((ByteArray) × Unit) :=
  (S_impl_ValueOk (re p0)).bind fun y0 =>
  bif (Bool.not y0.1) then (
    some ((bs []), ())) else
  (S_impl_written (re p0)).bind fun y1 =>
  some (y1.1, ())
noncomputable def impl_ValueText.code : Code := (Go.Proofs.Tryd.f7.body).getD .skip
noncomputable def impl_ValueText.E (S_impl_ValueOk : (GVal) → Option ((Bool) × Unit)) (S_impl_written : (GVal) → Option ((ByteArray) × Unit)) : Env ((ByteArray) × Unit) := mkE tt (fun _ => [row 9 sg_impl_ValueOk S_impl_ValueOk, row 19 sg_impl_written S_impl_written]) [] [] sg_impl_ValueText Go.Proofs.Tryd.f7.results.toList
theorem impl_ValueText.body_eq (S_impl_ValueOk : (GVal) → Option ((Bool) × Unit)) (S_impl_written : (GVal) → Option ((ByteArray) × Unit)) (again : List Item → St → Option ((ByteArray) × Unit)) (p0 : GVal) : eval0 (impl_ValueText.E S_impl_ValueOk S_impl_written) again impl_ValueText.code 8 (encs 0 (Sig.args sg_impl_ValueText) p0).1 (encs 0 (Sig.args sg_impl_ValueText) p0).2 = impl_ValueText.body S_impl_ValueOk S_impl_written  p0 := by kernel_rfl
theorem impl_ValueText.con (S_impl_ValueOk : (GVal) → Option ((Bool) × Unit)) (S_impl_written : (GVal) → Option ((ByteArray) × Unit)) (h_impl_ValueOk : Con Go.Proofs.Tryd.prog 9 sg_impl_ValueOk S_impl_ValueOk) (h_impl_written : Con Go.Proofs.Tryd.prog 19 sg_impl_written S_impl_written)  : Con Go.Proofs.Tryd.prog 7 sg_impl_ValueText (fun p0 => impl_ValueText.body S_impl_ValueOk S_impl_written  p0) :=
  Con.of_eval (t := fun _ => [row 9 sg_impl_ValueOk S_impl_ValueOk, row 19 sg_impl_written S_impl_written]) mixed ttok (fun _ => (.cons callable9 h_impl_ValueOk (.cons callable19 h_impl_written .nil))) Go.Proofs.Tryd.func7 (c := impl_ValueText.code) (by kernel_rfl) (fun p0 y h => ⟨0, (impl_ValueText.body_eq S_impl_ValueOk S_impl_written _ p0).trans h⟩)

/-! ### spec_ParseValue -/
def spec_ParseValue.body (S_spec_ValueOk : (GVal) → Option ((Bool) × Unit)) (S_spec_l4Read : ((ByteArray × (Int × Bool)) × Int) → Option ((GVal) × (ByteArray × (Int × Bool)))) (S_spec_l4Print : (GVal) → Option ((ByteArray) × Unit))  (p0 : ByteArray) : Option ((GVal × Bool) × Unit) :=
  (S_spec_l4Read ((p0, (0, false)), 6)).bind fun y0 =>
  bif y0.2.2.2 then (
    some (((GVal.mk 0 (bs []) 0 [] []), false), ())) else
  (S_spec_ValueOk (re y0.1)).bind fun y1 =>
  bif (Bool.not y1.1) then (
    some (((GVal.mk 0 (bs []) 0 [] []), false), ())) else
  (S_spec_l4Print (re y0.1)).bind fun y2 =>
  bif (Bool.not (seq_ y2.1 p0)) then (
    some (((GVal.mk 0 (bs []) 0 [] []), false), ())) else
  some (((re y0.1), true), ())
noncomputable def spec_ParseValue.code : Code := (Go.Proofs.Tryd.f13.body).getD .skip
noncomputable def spec_ParseValue.E (S_spec_ValueOk : (GVal) → Option ((Bool) × Unit)) (S_spec_l4Read : ((ByteArray × (Int × Bool)) × Int) → Option ((GVal) × (ByteArray × (Int × Bool)))) (S_spec_l4Print : (GVal) → Option ((ByteArray) × Unit)) : Env ((GVal × Bool) × Unit) := mkE tt (fun _ => [row 8 sg_spec_ValueOk S_spec_ValueOk, row 25 sg_spec_l4Read S_spec_l4Read, row 26 sg_spec_l4Print S_spec_l4Print]) [] [] sg_spec_ParseValue Go.Proofs.Tryd.f13.results.toList
theorem spec_ParseValue.body_eq (S_spec_ValueOk : (GVal) → Option ((Bool) × Unit)) (S_spec_l4Read : ((ByteArray × (Int × Bool)) × Int) → Option ((GVal) × (ByteArray × (Int × Bool)))) (S_spec_l4Print : (GVal) → Option ((ByteArray) × Unit)) (again : List Item → St → Option ((GVal × Bool) × Unit)) (p0 : ByteArray) : eval0 (spec_ParseValue.E S_spec_ValueOk S_spec_l4Read S_spec_l4Print) again spec_ParseValue.code 28 (encs 0 (Sig.args sg_spec_ParseValue) p0).1 (encs 0 (Sig.args sg_spec_ParseValue) p0).2 = spec_ParseValue.body S_spec_ValueOk S_spec_l4Read S_spec_l4Print  p0 := by kernel_rfl
theorem spec_ParseValue.con (S_spec_ValueOk : (GVal) → Option ((Bool) × Unit)) (S_spec_l4Read : ((ByteArray × (Int × Bool)) × Int) → Option ((GVal) × (ByteArray × (Int × Bool)))) (S_spec_l4Print : (GVal) → Option ((ByteArray) × Unit)) (h_spec_ValueOk : Con Go.Proofs.Tryd.prog 8 sg_spec_ValueOk S_spec_ValueOk) (h_spec_l4Read : Con Go.Proofs.Tryd.prog 25 sg_spec_l4Read S_spec_l4Read) (h_spec_l4Print : Con Go.Proofs.Tryd.prog 26 sg_spec_l4Print S_spec_l4Print)  : Con Go.Proofs.Tryd.prog 13 sg_spec_ParseValue (fun p0 => spec_ParseValue.body S_spec_ValueOk S_spec_l4Read S_spec_l4Print  p0) :=
  Con.of_eval (t := fun _ => [row 8 sg_spec_ValueOk S_spec_ValueOk, row 25 sg_spec_l4Read S_spec_l4Read, row 26 sg_spec_l4Print S_spec_l4Print]) mixed ttok (fun _ => (.cons callable8 h_spec_ValueOk (.cons callable25 h_spec_l4Read (.cons callable26 h_spec_l4Print .nil)))) Go.Proofs.Tryd.func13 (c := spec_ParseValue.code) (by kernel_rfl) (fun p0 y h => ⟨0, (spec_ParseValue.body_eq S_spec_ValueOk S_spec_l4Read S_spec_l4Print _ p0).trans h⟩)

/-! ### impl_measured -/
inductive impl_measured.L where
  | L0 (x0 : Int) (x1 : Int) (x2 : List GVal) (x3 : Int) (x4 : Int)
def impl_measured.step (S_impl_measured : (GVal × Int) → Option ((Int) × Unit)) (S_impl_shapeOk : (GVal) → Option ((Bool) × Unit)) (rec : impl_measured.L → Option ((Int) × Unit)) : impl_measured.L → Option ((Int) × Unit)
  | .L0 x0 x1 x2 x3 x4 =>
    bif (decide (x4 < x3)) then (
      bif (decide (0 ≤ x4)) then
      bif (decide (x4 < (((List.length x2) : Nat) : Int))) then
      (S_impl_measured ((re (List.getD x2 (Int.toNat x4) (GVal.zero ))), (IntKind.wrap .i64 (x0 - 1)))).bind fun y0 =>
      bif (decide (300 < (IntKind.wrap .i64 (x1 + y0.1)))) then (
        some (301, ())) else
      rec (.L0 x0 (IntKind.wrap .i64 (x1 + y0.1)) x2 x3 (IntKind.wrap .i64 (x4 + 1))) else none else none) else
    some (x1, ())
def impl_measured.body (S_impl_measured : (GVal × Int) → Option ((Int) × Unit)) (S_impl_shapeOk : (GVal) → Option ((Bool) × Unit)) (rec : impl_measured.L → Option ((Int) × Unit)) (p0 : GVal) (p1 : Int) : Option ((Int) × Unit) :=
  bif (p1 == 0) then (
    some (301, ())) else
  (S_impl_shapeOk (re p0)).bind fun y0 =>
  bif (Bool.not y0.1) then (
    some (301, ())) else
  rec (.L0 p1 1 p0.kids (((List.length p0.kids) : Nat) : Int) 0)
noncomputable def impl_measured.code : Code := (Go.Proofs.Tryd.f21.body).getD .skip
noncomputable def impl_measured.E (S_impl_measured : (GVal × Int) → Option ((Int) × Unit)) (S_impl_shapeOk : (GVal) → Option ((Bool) × Unit)) : Env ((Int) × Unit) := mkE tt (fun _ => [row 21 sg_impl_measured S_impl_measured, row 43 sg_impl_shapeOk S_impl_shapeOk]) [(5, ⟨[1, 5, 16, 17, 18], [], []⟩)] [] sg_impl_measured Go.Proofs.Tryd.f21.results.toList
noncomputable def impl_measured.dec : impl_measured.L → List Item × St
  | .L0 x0 x1 x2 x3 x4 => (itemsAt 5 impl_measured.code [], ⟨slotsAt 32 [(1, .int .i64 x0), (5, .int .i64 x1), (16, .slc 27 (.gval 9 27) x2), (17, .int .i64 x3), (18, .int .i64 x4)], []⟩)
theorem impl_measured.step_eq (S_impl_measured : (GVal × Int) → Option ((Int) × Unit)) (S_impl_shapeOk : (GVal) → Option ((Bool) × Unit)) (again : List Item → St → Option ((Int) × Unit)) : ∀ l, run1 (impl_measured.E S_impl_measured S_impl_shapeOk) again (impl_measured.dec l).1 (impl_measured.dec l).2 = impl_measured.step S_impl_measured S_impl_shapeOk (fun l => again (impl_measured.dec l).1 (impl_measured.dec l).2) l
  | .L0 x0 x1 x2 x3 x4 => by kernel_rfl
theorem impl_measured.body_eq (S_impl_measured : (GVal × Int) → Option ((Int) × Unit)) (S_impl_shapeOk : (GVal) → Option ((Bool) × Unit)) (again : List Item → St → Option ((Int) × Unit)) (p0 : GVal) (p1 : Int) : eval0 (impl_measured.E S_impl_measured S_impl_shapeOk) again impl_measured.code 32 (encs 0 (Sig.args sg_impl_measured) (p0, p1)).1 (encs 0 (Sig.args sg_impl_measured) (p0, p1)).2 = impl_measured.body S_impl_measured S_impl_shapeOk (fun l => again (impl_measured.dec l).1 (impl_measured.dec l).2) p0 p1 := by kernel_rfl
theorem impl_measured.con (S_impl_measured : (GVal × Int) → Option ((Int) × Unit)) (S_impl_shapeOk : (GVal) → Option ((Bool) × Unit)) (h_impl_measured : Con Go.Proofs.Tryd.prog 21 sg_impl_measured S_impl_measured) (h_impl_shapeOk : Con Go.Proofs.Tryd.prog 43 sg_impl_shapeOk S_impl_shapeOk) (n : Nat) : Con Go.Proofs.Tryd.prog 21 sg_impl_measured (fun (p0, p1) => impl_measured.body S_impl_measured S_impl_shapeOk (go (impl_measured.step S_impl_measured S_impl_shapeOk) n) p0 p1) :=
  Con.of_eval (t := fun _ => [row 21 sg_impl_measured S_impl_measured, row 43 sg_impl_shapeOk S_impl_shapeOk]) mixed ttok (fun _ => (.cons callable21 h_impl_measured (.cons callable43 h_impl_shapeOk .nil))) Go.Proofs.Tryd.func21 (c := impl_measured.code) (by kernel_rfl) (fun (p0, p1) y h => ⟨n, (evalFn_go (impl_measured.step_eq S_impl_measured S_impl_shapeOk) (body := fun rec => impl_measured.body S_impl_measured S_impl_shapeOk rec p0 p1) (fun again => impl_measured.body_eq S_impl_measured S_impl_shapeOk again p0 p1) n).trans h⟩)

/-! ### laws_eqStringS -/
inductive laws_eqStringS.L where
  | L0 (x0 : List ByteArray) (x1 : List ByteArray) (x2 : Int)
def laws_eqStringS.step  (rec : laws_eqStringS.L → Option ((Bool) × Unit)) : laws_eqStringS.L → Option ((Bool) × Unit)
  | .L0 x0 x1 x2 =>
    bif (decide (x2 < (((List.length x0) : Nat) : Int))) then (
      bif (decide (0 ≤ x2)) then
      bif (decide (x2 < (((List.length x0) : Nat) : Int))) then
      bif (decide (0 ≤ x2)) then
      bif (decide (x2 < (((List.length x1) : Nat) : Int))) then
      bif (Bool.not (seq_ (List.getD x0 (Int.toNat x2) (bs [])) (List.getD x1 (Int.toNat x2) (bs [])))) then (
        some (false, ())) else
      rec (.L0 x0 x1 (IntKind.wrap .i64 (x2 + 1))) else none else none else none else none) else
    some (true, ())
def laws_eqStringS.body  (rec : laws_eqStringS.L → Option ((Bool) × Unit)) (p0 : (List ByteArray)) (p1 : (List ByteArray)) : Option ((Bool) × Unit) :=
  bif ((((List.length p0) : Nat) : Int) != (((List.length p1) : Nat) : Int)) then (
    some (false, ())) else
  rec (.L0 p0 p1 0)
noncomputable def laws_eqStringS.code : Code := (Go.Proofs.Tryd.f27.body).getD .skip
noncomputable def laws_eqStringS.E  : Env ((Bool) × Unit) := mkE tt (fun _ => []) [(4, ⟨[0, 1, 5], [], []⟩)] [] sg_laws_eqStringS Go.Proofs.Tryd.f27.results.toList
noncomputable def laws_eqStringS.dec : laws_eqStringS.L → List Item × St
  | .L0 x0 x1 x2 => (itemsAt 4 laws_eqStringS.code [], ⟨slotsAt 26 [(0, .slc 9 .str x0), (1, .slc 9 .str x1), (5, .int .i64 x2)], []⟩)
theorem laws_eqStringS.step_eq  (again : List Item → St → Option ((Bool) × Unit)) : ∀ l, run1 (laws_eqStringS.E ) again (laws_eqStringS.dec l).1 (laws_eqStringS.dec l).2 = laws_eqStringS.step  (fun l => again (laws_eqStringS.dec l).1 (laws_eqStringS.dec l).2) l
  | .L0 x0 x1 x2 => by kernel_rfl
theorem laws_eqStringS.body_eq  (again : List Item → St → Option ((Bool) × Unit)) (p0 : (List ByteArray)) (p1 : (List ByteArray)) : eval0 (laws_eqStringS.E ) again laws_eqStringS.code 26 (encs 0 (Sig.args sg_laws_eqStringS) (p0, p1)).1 (encs 0 (Sig.args sg_laws_eqStringS) (p0, p1)).2 = laws_eqStringS.body  (fun l => again (laws_eqStringS.dec l).1 (laws_eqStringS.dec l).2) p0 p1 := by kernel_rfl
theorem laws_eqStringS.con   (n : Nat) : Con Go.Proofs.Tryd.prog 27 sg_laws_eqStringS (fun (p0, p1) => laws_eqStringS.body  (go (laws_eqStringS.step ) n) p0 p1) :=
  Con.of_eval (t := fun _ => []) mixed ttok (fun _ => .nil) Go.Proofs.Tryd.func27 (c := laws_eqStringS.code) (by kernel_rfl) (fun (p0, p1) y h => ⟨n, (evalFn_go (laws_eqStringS.step_eq ) (body := fun rec => laws_eqStringS.body  rec p0 p1) (fun again => laws_eqStringS.body_eq  again p0 p1) n).trans h⟩)

/-! ### impl_quoted -/
def impl_quoted.body (S_strings_ReplaceAll : (ByteArray × ByteArray × ByteArray) → Option ((ByteArray) × Unit))  (p0 : ByteArray) : Option ((ByteArray) × Unit) :=
  (S_strings_ReplaceAll (p0, ((bs [92]), (bs [92, 92])))).bind fun y0 =>
  (S_strings_ReplaceAll (y0.1, ((bs [34]), (bs [92, 34])))).bind fun y1 =>
  bif (decide ((1 + (ByteArray.size y1.1)) ≤ 9223372036854775807)) then
  bif (decide (((ByteArray.size ((bs [34]) ++ y1.1)) + 1) ≤ 9223372036854775807)) then
  some ((((bs [34]) ++ y1.1) ++ (bs [34])), ()) else none else none
noncomputable def impl_quoted.code : Code := (Go.Proofs.Tryd.f37.body).getD .skip
noncomputable def impl_quoted.E (S_strings_ReplaceAll : (ByteArray × ByteArray × ByteArray) → Option ((ByteArray) × Unit)) : Env ((ByteArray) × Unit) := mkE tt (fun _ => [row 62 sg_strings_ReplaceAll S_strings_ReplaceAll]) [] [] sg_impl_quoted Go.Proofs.Tryd.f37.results.toList
theorem impl_quoted.body_eq (S_strings_ReplaceAll : (ByteArray × ByteArray × ByteArray) → Option ((ByteArray) × Unit)) (again : List Item → St → Option ((ByteArray) × Unit)) (p0 : ByteArray) : eval0 (impl_quoted.E S_strings_ReplaceAll) again impl_quoted.code 8 (encs 0 (Sig.args sg_impl_quoted) p0).1 (encs 0 (Sig.args sg_impl_quoted) p0).2 = impl_quoted.body S_strings_ReplaceAll  p0 := by kernel_rfl
theorem impl_quoted.con (S_strings_ReplaceAll : (ByteArray × ByteArray × ByteArray) → Option ((ByteArray) × Unit)) (h_strings_ReplaceAll : Con Go.Proofs.Tryd.prog 62 sg_strings_ReplaceAll S_strings_ReplaceAll)  : Con Go.Proofs.Tryd.prog 37 sg_impl_quoted (fun p0 => impl_quoted.body S_strings_ReplaceAll  p0) :=
  Con.of_eval (t := fun _ => [row 62 sg_strings_ReplaceAll S_strings_ReplaceAll]) mixed ttok (fun _ => (.cons callable62 h_strings_ReplaceAll .nil)) Go.Proofs.Tryd.func37 (c := impl_quoted.code) (by kernel_rfl) (fun p0 y h => ⟨0, (impl_quoted.body_eq S_strings_ReplaceAll _ p0).trans h⟩)

/-! ### impl_parser_take -/
def impl_parser_take.body (S_strings_CutPrefix : (ByteArray × ByteArray) → Option ((ByteArray × Bool) × Unit))  (p0a : ByteArray) (p0b : Bool) (p1 : ByteArray) : Option ((Bool) × (ByteArray × Bool)) :=
  (S_strings_CutPrefix (p0a, p1)).bind fun y0 =>
  some (y0.1.2, (y0.1.1, p0b))
noncomputable def impl_parser_take.code : Code := (Go.Proofs.Tryd.f44.body).getD .skip
noncomputable def impl_parser_take.E (S_strings_CutPrefix : (ByteArray × ByteArray) → Option ((ByteArray × Bool) × Unit)) : Env ((Bool) × (ByteArray × Bool)) := mkE tt (fun _ => [row 69 sg_strings_CutPrefix S_strings_CutPrefix]) [] [] sg_impl_parser_take Go.Proofs.Tryd.f44.results.toList
theorem impl_parser_take.body_eq (S_strings_CutPrefix : (ByteArray × ByteArray) → Option ((ByteArray × Bool) × Unit)) (again : List Item → St → Option ((Bool) × (ByteArray × Bool))) (p0a : ByteArray) (p0b : Bool) (p1 : ByteArray) : eval0 (impl_parser_take.E S_strings_CutPrefix) again impl_parser_take.code 21 (encs 0 (Sig.args sg_impl_parser_take) ((p0a, p0b), p1)).1 (encs 0 (Sig.args sg_impl_parser_take) ((p0a, p0b), p1)).2 = impl_parser_take.body S_strings_CutPrefix  p0a p0b p1 := by kernel_rfl
theorem impl_parser_take.con (S_strings_CutPrefix : (ByteArray × ByteArray) → Option ((ByteArray × Bool) × Unit)) (h_strings_CutPrefix : Con Go.Proofs.Tryd.prog 69 sg_strings_CutPrefix S_strings_CutPrefix)  : Con Go.Proofs.Tryd.prog 44 sg_impl_parser_take (fun ((p0a, p0b), p1) => impl_parser_take.body S_strings_CutPrefix  p0a p0b p1) :=
  Con.of_eval (t := fun _ => [row 69 sg_strings_CutPrefix S_strings_CutPrefix]) mixed ttok (fun _ => (.cons callable69 h_strings_CutPrefix .nil)) Go.Proofs.Tryd.func44 (c := impl_parser_take.code) (by kernel_rfl) (fun ((p0a, p0b), p1) y h => ⟨0, (impl_parser_take.body_eq S_strings_CutPrefix _ p0a p0b p1).trans h⟩)

/-! ### spec_l4ReadText -/
inductive spec_l4ReadText.L where
  | L0 (x0 : ByteArray) (x1 : Int) (x2 : Bool) (x3 : List Int)
def spec_l4ReadText.step (S_spec_l4Peek : ((ByteArray × (Int × Bool))) → Option ((Int) × (ByteArray × (Int × Bool)))) (rec : spec_l4ReadText.L → Option ((ByteArray) × (ByteArray × (Int × Bool)))) : spec_l4ReadText.L → Option ((ByteArray) × (ByteArray × (Int × Bool)))
  | .L0 x0 x1 x2 x3 =>
    (S_spec_l4Peek (x0, (x1, x2))).bind fun y0 =>
    bif (y0.1 != 34) then (
      (S_spec_l4Peek (y0.2.1, (y0.2.2.1, y0.2.2.2))).bind fun y1 =>
      bif (y1.1 == 92) then (
        (S_spec_l4Peek (y1.2.1, ((IntKind.wrap .i64 (y1.2.2.1 + 1)), y1.2.2.2))).bind fun y3 =>
        bif (y3.1 == 0) then (
          some ((bs []), (y3.2.1, (y3.2.2.1, true)))) else
        bif (decide (0 ≤ y3.2.2.1)) then
        bif (decide (y3.2.2.1 < (((ByteArray.size y3.2.1) : Nat) : Int))) then
        bif (decide ((((List.length x3) + (List.length ((bt y3.2.1 y3.2.2.1) :: []))) * 1) ≤ 140737488355328)) then
        rec (.L0 y3.2.1 (IntKind.wrap .i64 (y3.2.2.1 + 1)) y3.2.2.2 (x3 ++ ((bt y3.2.1 y3.2.2.1) :: []))) else none else none else none) else
      (S_spec_l4Peek (y1.2.1, (y1.2.2.1, y1.2.2.2))).bind fun y2 =>
      bif (y2.1 == 0) then (
        some ((bs []), (y2.2.1, (y2.2.2.1, true)))) else
      bif (decide (0 ≤ y2.2.2.1)) then
      bif (decide (y2.2.2.1 < (((ByteArray.size y2.2.1) : Nat) : Int))) then
      bif (decide ((((List.length x3) + (List.length ((bt y2.2.1 y2.2.2.1) :: []))) * 1) ≤ 140737488355328)) then
      rec (.L0 y2.2.1 (IntKind.wrap .i64 (y2.2.2.1 + 1)) y2.2.2.2 (x3 ++ ((bt y2.2.1 y2.2.2.1) :: []))) else none else none else none) else
    some ((ofBytes x3), (y0.2.1, ((IntKind.wrap .i64 (y0.2.2.1 + 1)), y0.2.2.2)))
def spec_l4ReadText.body (S_spec_l4Peek : ((ByteArray × (Int × Bool))) → Option ((Int) × (ByteArray × (Int × Bool)))) (rec : spec_l4ReadText.L → Option ((ByteArray) × (ByteArray × (Int × Bool)))) (p0a : ByteArray) (p0ba : Int) (p0bb : Bool) : Option ((ByteArray) × (ByteArray × (Int × Bool))) :=
  rec (.L0 p0a p0ba p0bb [])
noncomputable def spec_l4ReadText.code : Code := (Go.Proofs.Tryd.f50.body).getD .skip
noncomputable def spec_l4ReadText.E (S_spec_l4Peek : ((ByteArray × (Int × Bool))) → Option ((Int) × (ByteArray × (Int × Bool)))) : Env ((ByteArray) × (ByteArray × (Int × Bool))) := mkE tt (fun _ => [row 73 sg_spec_l4Peek S_spec_l4Peek]) [(2, ⟨[0, 3], [], []⟩)] [] sg_spec_l4ReadText Go.Proofs.Tryd.f50.results.toList
noncomputable def spec_l4ReadText.dec : spec_l4ReadText.L → List Item × St
  | .L0 x0 x1 x2 x3 => (itemsAt 2 spec_l4ReadText.code [], ⟨slotsAt 55 [(0, .ptr 0 0), (3, .own 1)], [.cells 48 [.str x0, .int .i64 x1, .bool x2], .row 5 (.int .u8) x3]⟩)
theorem spec_l4ReadText.step_eq (S_spec_l4Peek : ((ByteArray × (Int × Bool))) → Option ((Int) × (ByteArray × (Int × Bool)))) (again : List Item → St → Option ((ByteArray) × (ByteArray × (Int × Bool)))) : ∀ l, run1 (spec_l4ReadText.E S_spec_l4Peek) again (spec_l4ReadText.dec l).1 (spec_l4ReadText.dec l).2 = spec_l4ReadText.step S_spec_l4Peek (fun l => again (spec_l4ReadText.dec l).1 (spec_l4ReadText.dec l).2) l
  | .L0 x0 x1 x2 x3 => by kernel_rfl
theorem spec_l4ReadText.body_eq (S_spec_l4Peek : ((ByteArray × (Int × Bool))) → Option ((Int) × (ByteArray × (Int × Bool)))) (again : List Item → St → Option ((ByteArray) × (ByteArray × (Int × Bool)))) (p0a : ByteArray) (p0ba : Int) (p0bb : Bool) : eval0 (spec_l4ReadText.E S_spec_l4Peek) again spec_l4ReadText.code 55 (encs 0 (Sig.args sg_spec_l4ReadText) (p0a, (p0ba, p0bb))).1 (encs 0 (Sig.args sg_spec_l4ReadText) (p0a, (p0ba, p0bb))).2 = spec_l4ReadText.body S_spec_l4Peek (fun l => again (spec_l4ReadText.dec l).1 (spec_l4ReadText.dec l).2) p0a p0ba p0bb := by kernel_rfl
theorem spec_l4ReadText.con (S_spec_l4Peek : ((ByteArray × (Int × Bool))) → Option ((Int) × (ByteArray × (Int × Bool)))) (h_spec_l4Peek : Con Go.Proofs.Tryd.prog 73 sg_spec_l4Peek S_spec_l4Peek) (n : Nat) : Con Go.Proofs.Tryd.prog 50 sg_spec_l4ReadText (fun (p0a, (p0ba, p0bb)) => spec_l4ReadText.body S_spec_l4Peek (go (spec_l4ReadText.step S_spec_l4Peek) n) p0a p0ba p0bb) :=
  Con.of_eval (t := fun _ => [row 73 sg_spec_l4Peek S_spec_l4Peek]) mixed ttok (fun _ => (.cons callable73 h_spec_l4Peek .nil)) Go.Proofs.Tryd.func50 (c := spec_l4ReadText.code) (by kernel_rfl) (fun (p0a, (p0ba, p0bb)) y h => ⟨n, (evalFn_go (spec_l4ReadText.step_eq S_spec_l4Peek) (body := fun rec => spec_l4ReadText.body S_spec_l4Peek rec p0a p0ba p0bb) (fun again => spec_l4ReadText.body_eq S_spec_l4Peek again p0a p0ba p0bb) n).trans h⟩)

/-! ### spec_l1Int -/
def spec_l1Int.body (S_spec_l1Below : (((List Int) × (Int × Int)) × Int) → Option ((Int) × ((List Int) × (Int × Int))))  (p0a : (List Int)) (p0ba : Int) (p0bb : Int) (p1 : (List Int)) : Option ((Int) × ((List Int) × (Int × Int))) :=
  (S_spec_l1Below ((p0a, (p0ba, p0bb)), (((List.length p1) : Nat) : Int))).bind fun y0 =>
  bif (decide (0 ≤ y0.1)) then
  bif (decide (y0.1 < (((List.length p1) : Nat) : Int))) then
  some ((List.getD p1 (Int.toNat y0.1) 0), (y0.2.1, (y0.2.2.1, y0.2.2.2))) else none else none
noncomputable def spec_l1Int.code : Code := (Go.Proofs.Tryd.f57.body).getD .skip
noncomputable def spec_l1Int.E (S_spec_l1Below : (((List Int) × (Int × Int)) × Int) → Option ((Int) × ((List Int) × (Int × Int)))) : Env ((Int) × ((List Int) × (Int × Int))) := mkE tt (fun _ => [row 36 sg_spec_l1Below S_spec_l1Below]) [] [] sg_spec_l1Int Go.Proofs.Tryd.f57.results.toList
theorem spec_l1Int.body_eq (S_spec_l1Below : (((List Int) × (Int × Int)) × Int) → Option ((Int) × ((List Int) × (Int × Int)))) (again : List Item → St → Option ((Int) × ((List Int) × (Int × Int)))) (p0a : (List Int)) (p0ba : Int) (p0bb : Int) (p1 : (List Int)) : eval0 (spec_l1Int.E S_spec_l1Below) again spec_l1Int.code 12 (encs 0 (Sig.args sg_spec_l1Int) ((p0a, (p0ba, p0bb)), p1)).1 (encs 0 (Sig.args sg_spec_l1Int) ((p0a, (p0ba, p0bb)), p1)).2 = spec_l1Int.body S_spec_l1Below  p0a p0ba p0bb p1 := by kernel_rfl
theorem spec_l1Int.con (S_spec_l1Below : (((List Int) × (Int × Int)) × Int) → Option ((Int) × ((List Int) × (Int × Int)))) (h_spec_l1Below : Con Go.Proofs.Tryd.prog 36 sg_spec_l1Below S_spec_l1Below)  : Con Go.Proofs.Tryd.prog 57 sg_spec_l1Int (fun ((p0a, (p0ba, p0bb)), p1) => spec_l1Int.body S_spec_l1Below  p0a p0ba p0bb p1) :=
  Con.of_eval (t := fun _ => [row 36 sg_spec_l1Below S_spec_l1Below]) mixed ttok (fun _ => (.cons callable36 h_spec_l1Below .nil)) Go.Proofs.Tryd.func57 (c := spec_l1Int.code) (by kernel_rfl) (fun ((p0a, (p0ba, p0bb)), p1) y h => ⟨0, (spec_l1Int.body_eq S_spec_l1Below _ p0a p0ba p0bb p1).trans h⟩)

/-! ### impl_within -/
def impl_within.body   (p0 : Int) (p1 : Int) (p2 : Int) : Option ((Bool) × Unit) :=
  bif (decide (p1 ≤ p0)) then (
    some ((decide (p0 ≤ p2)), ())) else
  some (false, ())
noncomputable def impl_within.code : Code := (Go.Proofs.Tryd.f67.body).getD .skip
noncomputable def impl_within.E  : Env ((Bool) × Unit) := mkE tt (fun _ => []) [] [] sg_impl_within Go.Proofs.Tryd.f67.results.toList
theorem impl_within.body_eq  (again : List Item → St → Option ((Bool) × Unit)) (p0 : Int) (p1 : Int) (p2 : Int) : eval0 (impl_within.E ) again impl_within.code 15 (encs 0 (Sig.args sg_impl_within) (p0, p1, p2)).1 (encs 0 (Sig.args sg_impl_within) (p0, p1, p2)).2 = impl_within.body   p0 p1 p2 := by kernel_rfl
theorem impl_within.con    : Con Go.Proofs.Tryd.prog 67 sg_impl_within (fun (p0, p1, p2) => impl_within.body   p0 p1 p2) :=
  Con.of_eval (t := fun _ => []) mixed ttok (fun _ => .nil) Go.Proofs.Tryd.func67 (c := impl_within.code) (by kernel_rfl) (fun (p0, p1, p2) y h => ⟨0, (impl_within.body_eq  _ p0 p1 p2).trans h⟩)

/-! ### spec_l1Name -/
def spec_l1Name.body (S_spec_l1Str : (((List Int) × (Int × Int)) × (List ByteArray)) → Option ((ByteArray) × ((List Int) × (Int × Int))))  (p0a : (List Int)) (p0ba : Int) (p0bb : Int) : Option ((ByteArray) × ((List Int) × (Int × Int))) :=
  (S_spec_l1Str ((p0a, (p0ba, p0bb)), ((bs [97]) :: ((bs [98]) :: ((bs [99]) :: ((bs [122, 111, 110, 101]) :: ((bs [116, 105, 101, 114]) :: ((bs [103, 111, 108, 100]) :: ((bs [101, 97, 115, 116]) :: ((bs [120, 45, 49]) :: [(bs [97, 98, 99, 100, 101, 102, 103, 104, 105, 106, 107, 108, 109, 110, 111, 112, 113, 114, 115, 116])])))))))))).bind fun y0 =>
  some (y0.1, (y0.2.1, (y0.2.2.1, y0.2.2.2)))
noncomputable def spec_l1Name.code : Code := (Go.Proofs.Tryd.f76.body).getD .skip
noncomputable def spec_l1Name.E (S_spec_l1Str : (((List Int) × (Int × Int)) × (List ByteArray)) → Option ((ByteArray) × ((List Int) × (Int × Int)))) : Env ((ByteArray) × ((List Int) × (Int × Int))) := mkE tt (fun _ => [row 56 sg_spec_l1Str S_spec_l1Str]) [] [] sg_spec_l1Name Go.Proofs.Tryd.f76.results.toList
theorem spec_l1Name.body_eq (S_spec_l1Str : (((List Int) × (Int × Int)) × (List ByteArray)) → Option ((ByteArray) × ((List Int) × (Int × Int)))) (again : List Item → St → Option ((ByteArray) × ((List Int) × (Int × Int)))) (p0a : (List Int)) (p0ba : Int) (p0bb : Int) : eval0 (spec_l1Name.E S_spec_l1Str) again spec_l1Name.code 6 (encs 0 (Sig.args sg_spec_l1Name) (p0a, (p0ba, p0bb))).1 (encs 0 (Sig.args sg_spec_l1Name) (p0a, (p0ba, p0bb))).2 = spec_l1Name.body S_spec_l1Str  p0a p0ba p0bb := by kernel_rfl
theorem spec_l1Name.con (S_spec_l1Str : (((List Int) × (Int × Int)) × (List ByteArray)) → Option ((ByteArray) × ((List Int) × (Int × Int)))) (h_spec_l1Str : Con Go.Proofs.Tryd.prog 56 sg_spec_l1Str S_spec_l1Str)  : Con Go.Proofs.Tryd.prog 76 sg_spec_l1Name (fun (p0a, (p0ba, p0bb)) => spec_l1Name.body S_spec_l1Str  p0a p0ba p0bb) :=
  Con.of_eval (t := fun _ => [row 56 sg_spec_l1Str S_spec_l1Str]) mixed ttok (fun _ => (.cons callable56 h_spec_l1Str .nil)) Go.Proofs.Tryd.func76 (c := spec_l1Name.code) (by kernel_rfl) (fun (p0a, (p0ba, p0bb)) y h => ⟨0, (spec_l1Name.body_eq S_spec_l1Str _ p0a p0ba p0bb).trans h⟩)

/-! ### strings_CutPrefix -/
def strings_CutPrefix.body (S_stringslite_CutPrefix : (ByteArray × ByteArray) → Option ((ByteArray × Bool) × Unit))  (p0 : ByteArray) (p1 : ByteArray) : Option ((ByteArray × Bool) × Unit) :=
  (S_stringslite_CutPrefix (p0, p1)).bind fun y0 =>
  some ((y0.1.1, y0.1.2), ())
noncomputable def strings_CutPrefix.code : Code := (Go.Proofs.Tryd.f69.body).getD .skip
noncomputable def strings_CutPrefix.E (S_stringslite_CutPrefix : (ByteArray × ByteArray) → Option ((ByteArray × Bool) × Unit)) : Env ((ByteArray × Bool) × Unit) := mkE tt (fun _ => [row 81 sg_stringslite_CutPrefix S_stringslite_CutPrefix]) [] [] sg_strings_CutPrefix Go.Proofs.Tryd.f69.results.toList
theorem strings_CutPrefix.body_eq (S_stringslite_CutPrefix : (ByteArray × ByteArray) → Option ((ByteArray × Bool) × Unit)) (again : List Item → St → Option ((ByteArray × Bool) × Unit)) (p0 : ByteArray) (p1 : ByteArray) : eval0 (strings_CutPrefix.E S_stringslite_CutPrefix) again strings_CutPrefix.code 11 (encs 0 (Sig.args sg_strings_CutPrefix) (p0, p1)).1 (encs 0 (Sig.args sg_strings_CutPrefix) (p0, p1)).2 = strings_CutPrefix.body S_stringslite_CutPrefix  p0 p1 := by kernel_rfl
theorem strings_CutPrefix.con (S_stringslite_CutPrefix : (ByteArray × ByteArray) → Option ((ByteArray × Bool) × Unit)) (h_stringslite_CutPrefix : Con Go.Proofs.Tryd.prog 81 sg_stringslite_CutPrefix S_stringslite_CutPrefix)  : Con Go.Proofs.Tryd.prog 69 sg_strings_CutPrefix (fun (p0, p1) => strings_CutPrefix.body S_stringslite_CutPrefix  p0 p1) :=
  Con.of_eval (t := fun _ => [row 81 sg_stringslite_CutPrefix S_stringslite_CutPrefix]) mixed ttok (fun _ => (.cons callable81 h_stringslite_CutPrefix .nil)) Go.Proofs.Tryd.func69 (c := strings_CutPrefix.code) (by kernel_rfl) (fun (p0, p1) y h => ⟨0, (strings_CutPrefix.body_eq S_stringslite_CutPrefix _ p0 p1).trans h⟩)

end Go.Proofs.YtgbfelpdlekbkaaDoor
