/- Go functions as plain functions, and that they are so. -/
import Derived.Test.YtgbfelpdlekbkaaDoorLinS
set_option linter.unusedVariables false
set_option linter.unusedSimpArgs false
set_option linter.unusedVariables false
namespace Go.Proofs.YtgbfelpdlekbkaaDoor
open Go Go.Proofs Go.Lin
/-! ### laws_big -/
def laws_big.body   (p0 : (List Int)) : Option ((Bool) × Unit) :=
  some ((decide (1048576 < (((List.length p0) : Nat) : Int))), ())
noncomputable def laws_big.code : Code := (Go.Proofs.Tryd.f5.body).getD .skip
noncomputable def laws_big.E  : Env ((Bool) × Unit) := mkE tt (fun _ => []) [] [] sg_laws_big Go.Proofs.Tryd.f5.results.toList
theorem laws_big.body_eq  (again : List Item → St → Option ((Bool) × Unit)) (p0 : (List Int)) : eval0 (laws_big.E ) again laws_big.code 6 (encs 0 (Sig.args sg_laws_big) p0).1 (encs 0 (Sig.args sg_laws_big) p0).2 = laws_big.body   p0 := by kernel_rfl
theorem laws_big.con    : Con Go.Proofs.Tryd.prog 5 sg_laws_big (fun p0 => laws_big.body   p0) :=
  Con.of_eval (t := fun _ => []) mixed ttok (fun _ => .nil) Go.Proofs.Tryd.func5 (c := laws_big.code) (by kernel_rfl) (fun p0 y h => ⟨0, (laws_big.body_eq  _ p0).trans h⟩)

/-! ### impl_ParseValue -/
def impl_ParseValue.body (S_impl_ValueOk : (GVal) → Option ((Bool) × Unit)) (S_impl_written : (GVal) → Option ((ByteArray) × Unit)) (S_impl_parser_value : ((ByteArray × Bool) × Int) → Option ((GVal) × (ByteArray × Bool)))  (p0 : ByteArray) : Option ((GVal × Bool) × Unit) :=
  (S_impl_parser_value ((p0, true), 6)).bind fun y0 =>
  bif (Bool.not y0.2.2) then (
    some (((GVal.mk 0 (bs []) 0 [] []), false), ())) else
  bif (Bool.not (seq_ y0.2.1 (bs []))) then (
    some (((GVal.mk 0 (bs []) 0 [] []), false), ())) else
  (S_impl_ValueOk (re y0.1)).bind fun y1 =>
  bif (Bool.not y1.1) then (
    some (((GVal.mk 0 (bs []) 0 [] []), false), ())) else
  (S_impl_written (re y0.1)).bind fun y2 =>
  bif (Bool.not (seq_ y2.1 p0)) then (
    some (((GVal.mk 0 (bs []) 0 [] []), false), ())) else
  some (((re y0.1), true), ())
noncomputable def impl_ParseValue.code : Code := (Go.Proofs.Tryd.f11.body).getD .skip
noncomputable def impl_ParseValue.E (S_impl_ValueOk : (GVal) → Option ((Bool) × Unit)) (S_impl_written : (GVal) → Option ((ByteArray) × Unit)) (S_impl_parser_value : ((ByteArray × Bool) × Int) → Option ((GVal) × (ByteArray × Bool))) : Env ((GVal × Bool) × Unit) := mkE tt (fun _ => [row 9 sg_impl_ValueOk S_impl_ValueOk, row 19 sg_impl_written S_impl_written, row 22 sg_impl_parser_value S_impl_parser_value]) [] [] sg_impl_ParseValue Go.Proofs.Tryd.f11.results.toList
theorem impl_ParseValue.body_eq (S_impl_ValueOk : (GVal) → Option ((Bool) × Unit)) (S_impl_written : (GVal) → Option ((ByteArray) × Unit)) (S_impl_parser_value : ((ByteArray × Bool) × Int) → Option ((GVal) × (ByteArray × Bool))) (again : List Item → St → Option ((GVal × Bool) × Unit)) (p0 : ByteArray) : eval0 (impl_ParseValue.E S_impl_ValueOk S_impl_written S_impl_parser_value) again impl_ParseValue.code 36 (encs 0 (Sig.args sg_impl_ParseValue) p0).1 (encs 0 (Sig.args sg_impl_ParseValue) p0).2 = impl_ParseValue.body S_impl_ValueOk S_impl_written S_impl_parser_value  p0 := by kernel_rfl
theorem impl_ParseValue.con (S_impl_ValueOk : (GVal) → Option ((Bool) × Unit)) (S_impl_written : (GVal) → Option ((ByteArray) × Unit)) (S_impl_parser_value : ((ByteArray × Bool) × Int) → Option ((GVal) × (ByteArray × Bool))) (h_impl_ValueOk : Con Go.Proofs.Tryd.prog 9 sg_impl_ValueOk S_impl_ValueOk) (h_impl_written : Con Go.Proofs.Tryd.prog 19 sg_impl_written S_impl_written) (h_impl_parser_value : Con Go.Proofs.Tryd.prog 22 sg_impl_parser_value S_impl_parser_value)  : Con Go.Proofs.Tryd.prog 11 sg_impl_ParseValue (fun p0 => impl_ParseValue.body S_impl_ValueOk S_impl_written S_impl_parser_value  p0) :=
  Con.of_eval (t := fun _ => [row 9 sg_impl_ValueOk S_impl_ValueOk, row 19 sg_impl_written S_impl_written, row 22 sg_impl_parser_value S_impl_parser_value]) mixed ttok (fun _ => (.cons callable9 h_impl_ValueOk (.cons callable19 h_impl_written (.cons callable22 h_impl_parser_value .nil)))) Go.Proofs.Tryd.func11 (c := impl_ParseValue.code) (by kernel_rfl) (fun p0 y h => ⟨0, (impl_ParseValue.body_eq S_impl_ValueOk S_impl_written S_impl_parser_value _ p0).trans h⟩)

/-! ### impl_written -/
inductive impl_written.L where
  | L0 (x0 : List GVal) (x1 : Int) (x2 : Int) (x3 : Int) (x4 : ByteArray) (x5 : Int) (x6 : List ByteArray) (x7 : List GVal) (x8 : List ByteArray)
def impl_written.step (S_impl_written : (GVal) → Option ((ByteArray) × Unit)) (S_impl_quoted : (ByteArray) → Option ((ByteArray) × Unit)) (S_impl_decimal : (Int) → Option ((ByteArray) × Unit)) (S_strings_Join : ((List ByteArray) × ByteArray) → Option ((ByteArray) × Unit)) (rec : impl_written.L → Option ((ByteArray) × Unit)) : impl_written.L → Option ((ByteArray) × Unit)
  | .L0 x0 x1 x2 x3 x4 x5 x6 x7 x8 =>
    bif (decide (x2 < x1)) then (
      bif (decide (0 ≤ x2)) then
      bif (decide (x2 < (((List.length x0) : Nat) : Int))) then
      (S_impl_written (re (List.getD x0 (Int.toNat x2) (GVal.zero )))).bind fun y1 =>
      bif (x3 == 5) then (
        bif (decide (0 ≤ x2)) then
        bif (decide (x2 < (((List.length x6) : Nat) : Int))) then
        bif (decide (((ByteArray.size (List.getD x6 (Int.toNat x2) (bs []))) + 1) ≤ 9223372036854775807)) then
        bif (decide (((ByteArray.size ((List.getD x6 (Int.toNat x2) (bs [])) ++ (bs [58]))) + (ByteArray.size y1.1)) ≤ 9223372036854775807)) then
        bif (decide ((((List.length x8) + (List.length ((((List.getD x6 (Int.toNat x2) (bs [])) ++ (bs [58])) ++ y1.1) :: []))) * 16) ≤ 140737488355328)) then
        rec (.L0 x0 x1 (IntKind.wrap .i64 (x2 + 1)) x3 x4 x5 x6 x7 (x8 ++ ((((List.getD x6 (Int.toNat x2) (bs [])) ++ (bs [58])) ++ y1.1) :: []))) else none else none else none else none else none) else
      bif (decide ((((List.length x8) + (List.length (y1.1 :: []))) * 16) ≤ 140737488355328)) then
      rec (.L0 x0 x1 (IntKind.wrap .i64 (x2 + 1)) x3 x4 x5 x6 x7 (x8 ++ (y1.1 :: []))) else none else none else none) else
    (S_strings_Join (x8, (bs [44]))).bind fun y0 =>
    bif (x3 == 5) then (
      bif (decide ((1 + (ByteArray.size y0.1)) ≤ 9223372036854775807)) then
      bif (decide (((ByteArray.size ((bs [123]) ++ y0.1)) + 1) ≤ 9223372036854775807)) then
      some ((((bs [123]) ++ y0.1) ++ (bs [125])), ()) else none else none) else
    bif (decide ((1 + (ByteArray.size y0.1)) ≤ 9223372036854775807)) then
    bif (decide (((ByteArray.size ((bs [91]) ++ y0.1)) + 1) ≤ 9223372036854775807)) then
    some ((((bs [91]) ++ y0.1) ++ (bs [93])), ()) else none else none
def impl_written.body (S_impl_written : (GVal) → Option ((ByteArray) × Unit)) (S_impl_quoted : (ByteArray) → Option ((ByteArray) × Unit)) (S_impl_decimal : (Int) → Option ((ByteArray) × Unit)) (S_strings_Join : ((List ByteArray) × ByteArray) → Option ((ByteArray) × Unit)) (rec : impl_written.L → Option ((ByteArray) × Unit)) (p0 : GVal) : Option ((ByteArray) × Unit) :=
  bif (p0.kind == 1) then (
    (S_impl_quoted p0.text).bind fun y1 =>
    some (y1.1, ())) else
  bif (p0.kind == 2) then (
    (S_impl_decimal p0.num).bind fun y0 =>
    some (y0.1, ())) else
  bif (p0.kind == 3) then (
    bif (p0.num == 1) then (
      some ((bs [116, 114, 117, 101]), ())) else
    some ((bs [102, 97, 108, 115, 101]), ())) else
  rec (.L0 p0.kids (((List.length p0.kids) : Nat) : Int) 0 p0.kind p0.text p0.num p0.keys p0.kids [])
noncomputable def impl_written.code : Code := (Go.Proofs.Tryd.f19.body).getD .skip
noncomputable def impl_written.E (S_impl_written : (GVal) → Option ((ByteArray) × Unit)) (S_impl_quoted : (ByteArray) → Option ((ByteArray) × Unit)) (S_impl_decimal : (Int) → Option ((ByteArray) × Unit)) (S_strings_Join : ((List ByteArray) × ByteArray) → Option ((ByteArray) × Unit)) : Env ((ByteArray) × Unit) := mkE tt (fun _ => [row 19 sg_impl_written S_impl_written, row 37 sg_impl_quoted S_impl_quoted, row 38 sg_impl_decimal S_impl_decimal, row 39 sg_strings_Join S_strings_Join]) [(12, ⟨[1, 3, 27, 28, 29], [], []⟩)] [] sg_impl_written Go.Proofs.Tryd.f19.results.toList
noncomputable def impl_written.dec : impl_written.L → List Item × St
  | .L0 x0 x1 x2 x3 x4 x5 x6 x7 x8 => (itemsAt 12 impl_written.code [], ⟨slotsAt 63 [(1, .ptr 0 0), (3, .own 1), (27, .slc 27 (.gval 9 27) x0), (28, .int .i64 x1), (29, .int .i64 x2)], [.cells 27 [.int .i64 x3, .str x4, .int .i64 x5, .slc 9 .str x6, .slc 27 (.gval 9 27) x7], .row 9 .str x8]⟩)
theorem impl_written.step_eq (S_impl_written : (GVal) → Option ((ByteArray) × Unit)) (S_impl_quoted : (ByteArray) → Option ((ByteArray) × Unit)) (S_impl_decimal : (Int) → Option ((ByteArray) × Unit)) (S_strings_Join : ((List ByteArray) × ByteArray) → Option ((ByteArray) × Unit)) (again : List Item → St → Option ((ByteArray) × Unit)) : ∀ l, run1 (impl_written.E S_impl_written S_impl_quoted S_impl_decimal S_strings_Join) again (impl_written.dec l).1 (impl_written.dec l).2 = impl_written.step S_impl_written S_impl_quoted S_impl_decimal S_strings_Join (fun l => again (impl_written.dec l).1 (impl_written.dec l).2) l
  | .L0 x0 x1 x2 x3 x4 x5 x6 x7 x8 => by kernel_rfl
theorem impl_written.body_eq (S_impl_written : (GVal) → Option ((ByteArray) × Unit)) (S_impl_quoted : (ByteArray) → Option ((ByteArray) × Unit)) (S_impl_decimal : (Int) → Option ((ByteArray) × Unit)) (S_strings_Join : ((List ByteArray) × ByteArray) → Option ((ByteArray) × Unit)) (again : List Item → St → Option ((ByteArray) × Unit)) (p0 : GVal) : eval0 (impl_written.E S_impl_written S_impl_quoted S_impl_decimal S_strings_Join) again impl_written.code 63 (encs 0 (Sig.args sg_impl_written) p0).1 (encs 0 (Sig.args sg_impl_written) p0).2 = impl_written.body S_impl_written S_impl_quoted S_impl_decimal S_strings_Join (fun l => again (impl_written.dec l).1 (impl_written.dec l).2) p0 := by kernel_rfl
theorem impl_written.con (S_impl_written : (GVal) → Option ((ByteArray) × Unit)) (S_impl_quoted : (ByteArray) → Option ((ByteArray) × Unit)) (S_impl_decimal : (Int) → Option ((ByteArray) × Unit)) (S_strings_Join : ((List ByteArray) × ByteArray) → Option ((ByteArray) × Unit)) (h_impl_written : Con Go.Proofs.Tryd.prog 19 sg_impl_written S_impl_written) (h_impl_quoted : Con Go.Proofs.Tryd.prog 37 sg_impl_quoted S_impl_quoted) (h_impl_decimal : Con Go.Proofs.Tryd.prog 38 sg_impl_decimal S_impl_decimal) (h_strings_Join : Con Go.Proofs.Tryd.prog 39 sg_strings_Join S_strings_Join) (n : Nat) : Con Go.Proofs.Tryd.prog 19 sg_impl_written (fun p0 => impl_written.body S_impl_written S_impl_quoted S_impl_decimal S_strings_Join (go (impl_written.step S_impl_written S_impl_quoted S_impl_decimal S_strings_Join) n) p0) :=
  Con.of_eval (t := fun _ => [row 19 sg_impl_written S_impl_written, row 37 sg_impl_quoted S_impl_quoted, row 38 sg_impl_decimal S_impl_decimal, row 39 sg_strings_Join S_strings_Join]) mixed ttok (fun _ => (.cons callable19 h_impl_written (.cons callable37 h_impl_quoted (.cons callable38 h_impl_decimal (.cons callable39 h_strings_Join .nil))))) Go.Proofs.Tryd.func19 (c := impl_written.code) (by kernel_rfl) (fun p0 y h => ⟨n, (evalFn_go (impl_written.step_eq S_impl_written S_impl_quoted S_impl_decimal S_strings_Join) (body := fun rec => impl_written.body S_impl_written S_impl_quoted S_impl_decimal S_strings_Join rec p0) (fun again => impl_written.body_eq S_impl_written S_impl_quoted S_impl_decimal S_strings_Join again p0) n).trans h⟩)

/-! ### spec_l4Read -/
def spec_l4Read.body (S_spec_l4Take : ((ByteArray × (Int × Bool)) × ByteArray) → Option ((Bool) × (ByteArray × (Int × Bool)))) (S_spec_l4ReadText : ((ByteArray × (Int × Bool))) → Option ((ByteArray) × (ByteArray × (Int × Bool)))) (S_spec_l4ReadKids : ((ByteArray × (Int × Bool)) × Int × ByteArray × Int) → Option ((GVal) × (ByteArray × (Int × Bool)))) (S_spec_l4ReadInt : ((ByteArray × (Int × Bool))) → Option ((Int) × (ByteArray × (Int × Bool))))  (p0a : ByteArray) (p0ba : Int) (p0bb : Bool) (p1 : Int) : Option ((GVal) × (ByteArray × (Int × Bool))) :=
  bif (p1 == 0) then (
    some ((GVal.mk 0 (bs []) 0 [] []), (p0a, (p0ba, true)))) else
  bif p0bb then (
    some ((GVal.mk 0 (bs []) 0 [] []), (p0a, (p0ba, p0bb)))) else
  (S_spec_l4Take ((p0a, (p0ba, p0bb)), (bs [34]))).bind fun y0 =>
  bif y0.1 then (
    (S_spec_l4ReadText (y0.2.1, (y0.2.2.1, y0.2.2.2))).bind fun y8 =>
    some ((GVal.mk 1 y8.1 0 [] []), (y8.2.1, (y8.2.2.1, y8.2.2.2)))) else
  (S_spec_l4Take ((y0.2.1, (y0.2.2.1, y0.2.2.2)), (bs [116, 114, 117, 101]))).bind fun y1 =>
  bif y1.1 then (
    some ((GVal.mk 3 (bs []) 1 [] []), (y1.2.1, (y1.2.2.1, y1.2.2.2)))) else
  (S_spec_l4Take ((y1.2.1, (y1.2.2.1, y1.2.2.2)), (bs [102, 97, 108, 115, 101]))).bind fun y2 =>
  bif y2.1 then (
    some ((GVal.mk 3 (bs []) 0 [] []), (y2.2.1, (y2.2.2.1, y2.2.2.2)))) else
  (S_spec_l4Take ((y2.2.1, (y2.2.2.1, y2.2.2.2)), (bs [91]))).bind fun y3 =>
  bif y3.1 then (
    (S_spec_l4ReadKids ((y3.2.1, (y3.2.2.1, y3.2.2.2)), (4, ((bs [93]), p1)))).bind fun y7 =>
    some ((re y7.1), (y7.2.1, (y7.2.2.1, y7.2.2.2)))) else
  (S_spec_l4Take ((y3.2.1, (y3.2.2.1, y3.2.2.2)), (bs [123]))).bind fun y4 =>
  bif y4.1 then (
    (S_spec_l4ReadKids ((y4.2.1, (y4.2.2.1, y4.2.2.2)), (5, ((bs [125]), p1)))).bind fun y6 =>
    some ((re y6.1), (y6.2.1, (y6.2.2.1, y6.2.2.2)))) else
  (S_spec_l4ReadInt (y4.2.1, (y4.2.2.1, y4.2.2.2))).bind fun y5 =>
  some ((GVal.mk 2 (bs []) y5.1 [] []), (y5.2.1, (y5.2.2.1, y5.2.2.2)))
noncomputable def spec_l4Read.code : Code := (Go.Proofs.Tryd.f25.body).getD .skip
noncomputable def spec_l4Read.E (S_spec_l4Take : ((ByteArray × (Int × Bool)) × ByteArray) → Option ((Bool) × (ByteArray × (Int × Bool)))) (S_spec_l4ReadText : ((ByteArray × (Int × Bool))) → Option ((ByteArray) × (ByteArray × (Int × Bool)))) (S_spec_l4ReadKids : ((ByteArray × (Int × Bool)) × Int × ByteArray × Int) → Option ((GVal) × (ByteArray × (Int × Bool)))) (S_spec_l4ReadInt : ((ByteArray × (Int × Bool))) → Option ((Int) × (ByteArray × (Int × Bool)))) : Env ((GVal) × (ByteArray × (Int × Bool))) := mkE tt (fun _ => [row 49 sg_spec_l4Take S_spec_l4Take, row 50 sg_spec_l4ReadText S_spec_l4ReadText, row 51 sg_spec_l4ReadKids S_spec_l4ReadKids, row 52 sg_spec_l4ReadInt S_spec_l4ReadInt]) [] [] sg_spec_l4Read Go.Proofs.Tryd.f25.results.toList
theorem spec_l4Read.body_eq (S_spec_l4Take : ((ByteArray × (Int × Bool)) × ByteArray) → Option ((Bool) × (ByteArray × (Int × Bool)))) (S_spec_l4ReadText : ((ByteArray × (Int × Bool))) → Option ((ByteArray) × (ByteArray × (Int × Bool)))) (S_spec_l4ReadKids : ((ByteArray × (Int × Bool)) × Int × ByteArray × Int) → Option ((GVal) × (ByteArray × (Int × Bool)))) (S_spec_l4ReadInt : ((ByteArray × (Int × Bool))) → Option ((Int) × (ByteArray × (Int × Bool)))) (again : List Item → St → Option ((GVal) × (ByteArray × (Int × Bool)))) (p0a : ByteArray) (p0ba : Int) (p0bb : Bool) (p1 : Int) : eval0 (spec_l4Read.E S_spec_l4Take S_spec_l4ReadText S_spec_l4ReadKids S_spec_l4ReadInt) again spec_l4Read.code 45 (encs 0 (Sig.args sg_spec_l4Read) ((p0a, (p0ba, p0bb)), p1)).1 (encs 0 (Sig.args sg_spec_l4Read) ((p0a, (p0ba, p0bb)), p1)).2 = spec_l4Read.body S_spec_l4Take S_spec_l4ReadText S_spec_l4ReadKids S_spec_l4ReadInt  p0a p0ba p0bb p1 := by kernel_rfl
theorem spec_l4Read.con (S_spec_l4Take : ((ByteArray × (Int × Bool)) × ByteArray) → Option ((Bool) × (ByteArray × (Int × Bool)))) (S_spec_l4ReadText : ((ByteArray × (Int × Bool))) → Option ((ByteArray) × (ByteArray × (Int × Bool)))) (S_spec_l4ReadKids : ((ByteArray × (Int × Bool)) × Int × ByteArray × Int) → Option ((GVal) × (ByteArray × (Int × Bool)))) (S_spec_l4ReadInt : ((ByteArray × (Int × Bool))) → Option ((Int) × (ByteArray × (Int × Bool)))) (h_spec_l4Take : Con Go.Proofs.Tryd.prog 49 sg_spec_l4Take S_spec_l4Take) (h_spec_l4ReadText : Con Go.Proofs.Tryd.prog 50 sg_spec_l4ReadText S_spec_l4ReadText) (h_spec_l4ReadKids : Con Go.Proofs.Tryd.prog 51 sg_spec_l4ReadKids S_spec_l4ReadKids) (h_spec_l4ReadInt : Con Go.Proofs.Tryd.prog 52 sg_spec_l4ReadInt S_spec_l4ReadInt)  : Con Go.Proofs.Tryd.prog 25 sg_spec_l4Read (fun ((p0a, (p0ba, p0bb)), p1) => spec_l4Read.body S_spec_l4Take S_spec_l4ReadText S_spec_l4ReadKids S_spec_l4ReadInt  p0a p0ba p0bb p1) :=
  Con.of_eval (t := fun _ => [row 49 sg_spec_l4Take S_spec_l4Take, row 50 sg_spec_l4ReadText S_spec_l4ReadText, row 51 sg_spec_l4ReadKids S_spec_l4ReadKids, row 52 sg_spec_l4ReadInt S_spec_l4ReadInt]) mixed ttok (fun _ => (.cons callable49 h_spec_l4Take (.cons callable50 h_spec_l4ReadText (.cons callable51 h_spec_l4ReadKids (.cons callable52 h_spec_l4ReadInt .nil))))) Go.Proofs.Tryd.func25 (c := spec_l4Read.code) (by kernel_rfl) (fun ((p0a, (p0ba, p0bb)), p1) y h => ⟨0, (spec_l4Read.body_eq S_spec_l4Take S_spec_l4ReadText S_spec_l4ReadKids S_spec_l4ReadInt _ p0a p0ba p0bb p1).trans h⟩)

/-! ### spec_l4Bend -/
inductive spec_l4Bend.L where
  | L0 (x0 : Int) (x1 : List Int) (x2 : Int) (x3 : Int) (x4 : Int) (x5 : ByteArray) (x6 : Int) (x7 : Int) (x8 : ByteArray) (x9 : Int) (x10 : List ByteArray) (x11 : List GVal)
def spec_l4Bend.step (S_spec_l1Once : (((List Int) × (Int × Int)) × Int) → Option ((Bool) × ((List Int) × (Int × Int)))) (S_spec_l4Bend : (((List Int) × (Int × Int)) × GVal) → Option ((GVal) × ((List Int) × (Int × Int)))) (S_spec_l1Below : (((List Int) × (Int × Int)) × Int) → Option ((Int) × ((List Int) × (Int × Int)))) (S_spec_l1Str : (((List Int) × (Int × Int)) × (List ByteArray)) → Option ((ByteArray) × ((List Int) × (Int × Int)))) (S_spec_l4CopyO : (GVal) → Option ((GVal) × Unit)) (S_spec_l1NameAny : (((List Int) × (Int × Int))) → Option ((ByteArray) × ((List Int) × (Int × Int)))) (rec : spec_l4Bend.L → Option ((GVal) × ((List Int) × (Int × Int)))) : spec_l4Bend.L → Option ((GVal) × ((List Int) × (Int × Int)))
  | .L0 x0 x1 x2 x3 x4 x5 x6 x7 x8 x9 x10 x11 =>
    bif (decide (x0 < 6)) then (
      rec (.L0 (IntKind.wrap .i64 (x0 + 1)) x1 x2 x3 x4 x5 x6 4 (bs []) 0 [] ((GVal.mk x7 x8 x9 x10 x11) :: []))) else
    some ((GVal.mk x7 x8 x9 x10 x11), (x1, (x2, x3)))
def spec_l4Bend.body (S_spec_l1Once : (((List Int) × (Int × Int)) × Int) → Option ((Bool) × ((List Int) × (Int × Int)))) (S_spec_l4Bend : (((List Int) × (Int × Int)) × GVal) → Option ((GVal) × ((List Int) × (Int × Int)))) (S_spec_l1Below : (((List Int) × (Int × Int)) × Int) → Option ((Int) × ((List Int) × (Int × Int)))) (S_spec_l1Str : (((List Int) × (Int × Int)) × (List ByteArray)) → Option ((ByteArray) × ((List Int) × (Int × Int)))) (S_spec_l4CopyO : (GVal) → Option ((GVal) × Unit)) (S_spec_l1NameAny : (((List Int) × (Int × Int))) → Option ((ByteArray) × ((List Int) × (Int × Int)))) (rec : spec_l4Bend.L → Option ((GVal) × ((List Int) × (Int × Int)))) (p0a : (List Int)) (p0ba : Int) (p0bb : Int) (p1 : GVal) : Option ((GVal) × ((List Int) × (Int × Int))) :=
  (S_spec_l4CopyO (re p1)).bind fun y0 =>
  bif (decide (0 < (((List.length y0.1.kids) : Nat) : Int))) then (
    (S_spec_l1Once ((p0a, (p0ba, p0bb)), 2)).bind fun y5 =>
    bif y5.1 then (
      (S_spec_l1Below ((y5.2.1, (y5.2.2.1, y5.2.2.2)), (((List.length y0.1.kids) : Nat) : Int))).bind fun y10 =>
      bif (decide (0 ≤ y10.1)) then
      bif (decide (y10.1 < (((List.length y0.1.kids) : Nat) : Int))) then
      (S_spec_l4Bend ((y10.2.1, (y10.2.2.1, y10.2.2.2)), (re (List.getD y0.1.kids (Int.toNat y10.1) (GVal.zero ))))).bind fun y11 =>
      bif (decide (0 ≤ y10.1)) then
      bif (decide (y10.1 < (((List.length y0.1.kids) : Nat) : Int))) then
      some ((GVal.mk y0.1.kind y0.1.text y0.1.num y0.1.keys (List.set y0.1.kids (Int.toNat y10.1) (re y11.1))), (y11.2.1, (y11.2.2.1, y11.2.2.2))) else none else none else none else none) else
    (S_spec_l1Below ((y5.2.1, (y5.2.2.1, y5.2.2.2)), 6)).bind fun y6 =>
    bif (y6.1 == 0) then (
      (S_spec_l1Below ((y6.2.1, (y6.2.2.1, y6.2.2.2)), 7)).bind fun y9 =>
      some ((GVal.mk y9.1 y0.1.text y0.1.num y0.1.keys y0.1.kids), (y9.2.1, (y9.2.2.1, y9.2.2.2)))) else
    bif (y6.1 == 1) then (
      (S_spec_l1Str ((y6.2.1, (y6.2.2.1, y6.2.2.2)), ((bs [97]) :: ((bs [10]) :: [(bs [127])])))).bind fun y8 =>
      some ((GVal.mk y0.1.kind y8.1 y0.1.num y0.1.keys y0.1.kids), (y8.2.1, (y8.2.2.1, y8.2.2.2)))) else
    bif (y6.1 == 2) then (
      some ((GVal.mk y0.1.kind y0.1.text (IntKind.wrap .i64 (y0.1.num + 1)) y0.1.keys y0.1.kids), (y6.2.1, (y6.2.2.1, y6.2.2.2)))) else
    bif (y6.1 == 3) then (
      (S_spec_l1NameAny (y6.2.1, (y6.2.2.1, y6.2.2.2))).bind fun y7 =>
      bif (decide ((((List.length y0.1.keys) + (List.length (y7.1 :: []))) * 16) ≤ 140737488355328)) then
      some ((GVal.mk y0.1.kind y0.1.text y0.1.num (y0.1.keys ++ (y7.1 :: [])) y0.1.kids), (y7.2.1, (y7.2.2.1, y7.2.2.2))) else none) else
    bif (y6.1 == 4) then (
      bif (decide ((((List.length y0.1.kids) + 1) * 80) ≤ 140737488355328)) then
      some ((GVal.mk y0.1.kind y0.1.text y0.1.num y0.1.keys (y0.1.kids ++ [(GVal.mk 2 (bs []) 0 [] [])])), (y6.2.1, (y6.2.2.1, y6.2.2.2))) else none) else
    bif (y6.1 == 5) then (
      rec (.L0 0 y6.2.1 y6.2.2.1 y6.2.2.2 0 (bs []) 0 y0.1.kind y0.1.text y0.1.num y0.1.keys y0.1.kids)) else
    some ((re y0.1), (y6.2.1, (y6.2.2.1, y6.2.2.2)))) else
  (S_spec_l1Below ((p0a, (p0ba, p0bb)), 6)).bind fun y1 =>
  bif (y1.1 == 0) then (
    (S_spec_l1Below ((y1.2.1, (y1.2.2.1, y1.2.2.2)), 7)).bind fun y4 =>
    some ((GVal.mk y4.1 y0.1.text y0.1.num y0.1.keys y0.1.kids), (y4.2.1, (y4.2.2.1, y4.2.2.2)))) else
  bif (y1.1 == 1) then (
    (S_spec_l1Str ((y1.2.1, (y1.2.2.1, y1.2.2.2)), ((bs [97]) :: ((bs [10]) :: [(bs [127])])))).bind fun y3 =>
    some ((GVal.mk y0.1.kind y3.1 y0.1.num y0.1.keys y0.1.kids), (y3.2.1, (y3.2.2.1, y3.2.2.2)))) else
  bif (y1.1 == 2) then (
    some ((GVal.mk y0.1.kind y0.1.text (IntKind.wrap .i64 (y0.1.num + 1)) y0.1.keys y0.1.kids), (y1.2.1, (y1.2.2.1, y1.2.2.2)))) else
  bif (y1.1 == 3) then (
    (S_spec_l1NameAny (y1.2.1, (y1.2.2.1, y1.2.2.2))).bind fun y2 =>
    bif (decide ((((List.length y0.1.keys) + (List.length (y2.1 :: []))) * 16) ≤ 140737488355328)) then
    some ((GVal.mk y0.1.kind y0.1.text y0.1.num (y0.1.keys ++ (y2.1 :: [])) y0.1.kids), (y2.2.1, (y2.2.2.1, y2.2.2.2))) else none) else
  bif (y1.1 == 4) then (
    bif (decide ((((List.length y0.1.kids) + 1) * 80) ≤ 140737488355328)) then
    some ((GVal.mk y0.1.kind y0.1.text y0.1.num y0.1.keys (y0.1.kids ++ [(GVal.mk 2 (bs []) 0 [] [])])), (y1.2.1, (y1.2.2.1, y1.2.2.2))) else none) else
  bif (y1.1 == 5) then (
    rec (.L0 0 y1.2.1 y1.2.2.1 y1.2.2.2 0 (bs []) 0 y0.1.kind y0.1.text y0.1.num y0.1.keys y0.1.kids)) else
  some ((re y0.1), (y1.2.1, (y1.2.2.1, y1.2.2.2)))
noncomputable def spec_l4Bend.code : Code := (Go.Proofs.Tryd.f35.body).getD .skip
noncomputable def spec_l4Bend.E (S_spec_l1Once : (((List Int) × (Int × Int)) × Int) → Option ((Bool) × ((List Int) × (Int × Int)))) (S_spec_l4Bend : (((List Int) × (Int × Int)) × GVal) → Option ((GVal) × ((List Int) × (Int × Int)))) (S_spec_l1Below : (((List Int) × (Int × Int)) × Int) → Option ((Int) × ((List Int) × (Int × Int)))) (S_spec_l1Str : (((List Int) × (Int × Int)) × (List ByteArray)) → Option ((ByteArray) × ((List Int) × (Int × Int)))) (S_spec_l4CopyO : (GVal) → Option ((GVal) × Unit)) (S_spec_l1NameAny : (((List Int) × (Int × Int))) → Option ((ByteArray) × ((List Int) × (Int × Int)))) : Env ((GVal) × ((List Int) × (Int × Int))) := mkE tt (fun _ => [row 34 sg_spec_l1Once S_spec_l1Once, row 35 sg_spec_l4Bend S_spec_l4Bend, row 36 sg_spec_l1Below S_spec_l1Below, row 56 sg_spec_l1Str S_spec_l1Str, row 59 sg_spec_l4CopyO S_spec_l4CopyO, row 60 sg_spec_l1NameAny S_spec_l1NameAny]) [(19, ⟨[4, 5, 7], [], [(5, 3, .own 9 .str)]⟩)] [] sg_spec_l4Bend Go.Proofs.Tryd.f35.results.toList
noncomputable def spec_l4Bend.dec : spec_l4Bend.L → List Item × St
  | .L0 x0 x1 x2 x3 x4 x5 x6 x7 x8 x9 x10 x11 => (itemsAt 19 spec_l4Bend.code [], ⟨slotsAt 81 [(4, .ptr 1 0), (5, .ptr 2 0), (7, .int .i64 x0)], [.cells 54 [.slc 5 (.int .u8) x1, .int .i64 x2, .int .i64 x3], .cells 27 [.int .i64 x4, .str x5, .int .i64 x6, .nils, .nils], .cells 27 [.int .i64 x7, .str x8, .int .i64 x9, .own 3, .own 4], .row 9 .str x10, .row 27 (.gval 9 27) x11]⟩)
theorem spec_l4Bend.step_eq (S_spec_l1Once : (((List Int) × (Int × Int)) × Int) → Option ((Bool) × ((List Int) × (Int × Int)))) (S_spec_l4Bend : (((List Int) × (Int × Int)) × GVal) → Option ((GVal) × ((List Int) × (Int × Int)))) (S_spec_l1Below : (((List Int) × (Int × Int)) × Int) → Option ((Int) × ((List Int) × (Int × Int)))) (S_spec_l1Str : (((List Int) × (Int × Int)) × (List ByteArray)) → Option ((ByteArray) × ((List Int) × (Int × Int)))) (S_spec_l4CopyO : (GVal) → Option ((GVal) × Unit)) (S_spec_l1NameAny : (((List Int) × (Int × Int))) → Option ((ByteArray) × ((List Int) × (Int × Int)))) (again : List Item → St → Option ((GVal) × ((List Int) × (Int × Int)))) : ∀ l, run1 (spec_l4Bend.E S_spec_l1Once S_spec_l4Bend S_spec_l1Below S_spec_l1Str S_spec_l4CopyO S_spec_l1NameAny) again (spec_l4Bend.dec l).1 (spec_l4Bend.dec l).2 = spec_l4Bend.step S_spec_l1Once S_spec_l4Bend S_spec_l1Below S_spec_l1Str S_spec_l4CopyO S_spec_l1NameAny (fun l => again (spec_l4Bend.dec l).1 (spec_l4Bend.dec l).2) l
  | .L0 x0 x1 x2 x3 x4 x5 x6 x7 x8 x9 x10 x11 => by kernel_rfl
theorem spec_l4Bend.body_eq (S_spec_l1Once : (((List Int) × (Int × Int)) × Int) → Option ((Bool) × ((List Int) × (Int × Int)))) (S_spec_l4Bend : (((List Int) × (Int × Int)) × GVal) → Option ((GVal) × ((List Int) × (Int × Int)))) (S_spec_l1Below : (((List Int) × (Int × Int)) × Int) → Option ((Int) × ((List Int) × (Int × Int)))) (S_spec_l1Str : (((List Int) × (Int × Int)) × (List ByteArray)) → Option ((ByteArray) × ((List Int) × (Int × Int)))) (S_spec_l4CopyO : (GVal) → Option ((GVal) × Unit)) (S_spec_l1NameAny : (((List Int) × (Int × Int))) → Option ((ByteArray) × ((List Int) × (Int × Int)))) (again : List Item → St → Option ((GVal) × ((List Int) × (Int × Int)))) (p0a : (List Int)) (p0ba : Int) (p0bb : Int) (p1 : GVal) : eval0 (spec_l4Bend.E S_spec_l1Once S_spec_l4Bend S_spec_l1Below S_spec_l1Str S_spec_l4CopyO S_spec_l1NameAny) again spec_l4Bend.code 81 (encs 0 (Sig.args sg_spec_l4Bend) ((p0a, (p0ba, p0bb)), p1)).1 (encs 0 (Sig.args sg_spec_l4Bend) ((p0a, (p0ba, p0bb)), p1)).2 = spec_l4Bend.body S_spec_l1Once S_spec_l4Bend S_spec_l1Below S_spec_l1Str S_spec_l4CopyO S_spec_l1NameAny (fun l => again (spec_l4Bend.dec l).1 (spec_l4Bend.dec l).2) p0a p0ba p0bb p1 := by kernel_rfl
theorem spec_l4Bend.con (S_spec_l1Once : (((List Int) × (Int × Int)) × Int) → Option ((Bool) × ((List Int) × (Int × Int)))) (S_spec_l4Bend : (((List Int) × (Int × Int)) × GVal) → Option ((GVal) × ((List Int) × (Int × Int)))) (S_spec_l1Below : (((List Int) × (Int × Int)) × Int) → Option ((Int) × ((List Int) × (Int × Int)))) (S_spec_l1Str : (((List Int) × (Int × Int)) × (List ByteArray)) → Option ((ByteArray) × ((List Int) × (Int × Int)))) (S_spec_l4CopyO : (GVal) → Option ((GVal) × Unit)) (S_spec_l1NameAny : (((List Int) × (Int × Int))) → Option ((ByteArray) × ((List Int) × (Int × Int)))) (h_spec_l1Once : Con Go.Proofs.Tryd.prog 34 sg_spec_l1Once S_spec_l1Once) (h_spec_l4Bend : Con Go.Proofs.Tryd.prog 35 sg_spec_l4Bend S_spec_l4Bend) (h_spec_l1Below : Con Go.Proofs.Tryd.prog 36 sg_spec_l1Below S_spec_l1Below) (h_spec_l1Str : Con Go.Proofs.Tryd.prog 56 sg_spec_l1Str S_spec_l1Str) (h_spec_l4CopyO : Con Go.Proofs.Tryd.prog 59 sg_spec_l4CopyO S_spec_l4CopyO) (h_spec_l1NameAny : Con Go.Proofs.Tryd.prog 60 sg_spec_l1NameAny S_spec_l1NameAny) (n : Nat) : Con Go.Proofs.Tryd.prog 35 sg_spec_l4Bend (fun ((p0a, (p0ba, p0bb)), p1) => spec_l4Bend.body S_spec_l1Once S_spec_l4Bend S_spec_l1Below S_spec_l1Str S_spec_l4CopyO S_spec_l1NameAny (go (spec_l4Bend.step S_spec_l1Once S_spec_l4Bend S_spec_l1Below S_spec_l1Str S_spec_l4CopyO S_spec_l1NameAny) n) p0a p0ba p0bb p1) :=
  Con.of_eval (t := fun _ => [row 34 sg_spec_l1Once S_spec_l1Once, row 35 sg_spec_l4Bend S_spec_l4Bend, row 36 sg_spec_l1Below S_spec_l1Below, row 56 sg_spec_l1Str S_spec_l1Str, row 59 sg_spec_l4CopyO S_spec_l4CopyO, row 60 sg_spec_l1NameAny S_spec_l1NameAny]) mixed ttok (fun _ => (.cons callable34 h_spec_l1Once (.cons callable35 h_spec_l4Bend (.cons callable36 h_spec_l1Below (.cons callable56 h_spec_l1Str (.cons callable59 h_spec_l4CopyO (.cons callable60 h_spec_l1NameAny .nil))))))) Go.Proofs.Tryd.func35 (c := spec_l4Bend.code) (by kernel_rfl) (fun ((p0a, (p0ba, p0bb)), p1) y h => ⟨n, (evalFn_go (spec_l4Bend.step_eq S_spec_l1Once S_spec_l4Bend S_spec_l1Below S_spec_l1Str S_spec_l4CopyO S_spec_l1NameAny) (body := fun rec => spec_l4Bend.body S_spec_l1Once S_spec_l4Bend S_spec_l1Below S_spec_l1Str S_spec_l4CopyO S_spec_l1NameAny rec p0a p0ba p0bb p1) (fun again => spec_l4Bend.body_eq S_spec_l1Once S_spec_l4Bend S_spec_l1Below S_spec_l1Str S_spec_l4CopyO S_spec_l1NameAny again p0a p0ba p0bb p1) n).trans h⟩)

/-! ### spec_l4Keys -/
inductive spec_l4Keys.L where
  | L0 (x0 : Int) (x1 : Int) (x2 : ByteArray) (x3 : Int) (x4 : List ByteArray) (x5 : List GVal)
def spec_l4Keys.step (S_spec_NameOk : (ByteArray) → Option ((Bool) × Unit)) (rec : spec_l4Keys.L → Option ((Bool) × Unit)) : spec_l4Keys.L → Option ((Bool) × Unit)
  | .L0 x0 x1 x2 x3 x4 x5 =>
    bif (decide (x0 < (((List.length x4) : Nat) : Int))) then (
      bif (decide (0 ≤ x0)) then
      bif (decide (x0 < (((List.length x4) : Nat) : Int))) then
      (S_spec_NameOk (List.getD x4 (Int.toNat x0) (bs []))).bind fun y0 =>
      bif (Bool.not y0.1) then (
        some (false, ())) else
      bif (decide (0 < x0)) then (
        bif (decide (0 ≤ (IntKind.wrap .i64 (x0 - 1)))) then
        bif (decide ((IntKind.wrap .i64 (x0 - 1)) < (((List.length x4) : Nat) : Int))) then
        bif (decide (0 ≤ x0)) then
        bif (decide (x0 < (((List.length x4) : Nat) : Int))) then
        bif (Bool.not (slt (List.getD x4 (Int.toNat (IntKind.wrap .i64 (x0 - 1))) (bs [])) (List.getD x4 (Int.toNat x0) (bs [])))) then (
          some (false, ())) else
        rec (.L0 (IntKind.wrap .i64 (x0 + 1)) x1 x2 x3 x4 x5) else none else none else none else none) else
      rec (.L0 (IntKind.wrap .i64 (x0 + 1)) x1 x2 x3 x4 x5) else none else none) else
    some (((((List.length x4) : Nat) : Int) == (((List.length x5) : Nat) : Int)), ())
def spec_l4Keys.body (S_spec_NameOk : (ByteArray) → Option ((Bool) × Unit)) (rec : spec_l4Keys.L → Option ((Bool) × Unit)) (p0 : GVal) : Option ((Bool) × Unit) :=
  rec (.L0 0 p0.kind p0.text p0.num p0.keys p0.kids)
noncomputable def spec_l4Keys.code : Code := (Go.Proofs.Tryd.f42.body).getD .skip
noncomputable def spec_l4Keys.E (S_spec_NameOk : (ByteArray) → Option ((Bool) × Unit)) : Env ((Bool) × Unit) := mkE tt (fun _ => [row 66 sg_spec_NameOk S_spec_NameOk]) [(2, ⟨[1, 3], [], []⟩)] [] sg_spec_l4Keys Go.Proofs.Tryd.f42.results.toList
noncomputable def spec_l4Keys.dec : spec_l4Keys.L → List Item × St
  | .L0 x0 x1 x2 x3 x4 x5 => (itemsAt 2 spec_l4Keys.code [], ⟨slotsAt 43 [(1, .ptr 0 0), (3, .int .i64 x0)], [.cells 27 [.int .i64 x1, .str x2, .int .i64 x3, .slc 9 .str x4, .slc 27 (.gval 9 27) x5]]⟩)
theorem spec_l4Keys.step_eq (S_spec_NameOk : (ByteArray) → Option ((Bool) × Unit)) (again : List Item → St → Option ((Bool) × Unit)) : ∀ l, run1 (spec_l4Keys.E S_spec_NameOk) again (spec_l4Keys.dec l).1 (spec_l4Keys.dec l).2 = spec_l4Keys.step S_spec_NameOk (fun l => again (spec_l4Keys.dec l).1 (spec_l4Keys.dec l).2) l
  | .L0 x0 x1 x2 x3 x4 x5 => by kernel_rfl
theorem spec_l4Keys.body_eq (S_spec_NameOk : (ByteArray) → Option ((Bool) × Unit)) (again : List Item → St → Option ((Bool) × Unit)) (p0 : GVal) : eval0 (spec_l4Keys.E S_spec_NameOk) again spec_l4Keys.code 43 (encs 0 (Sig.args sg_spec_l4Keys) p0).1 (encs 0 (Sig.args sg_spec_l4Keys) p0).2 = spec_l4Keys.body S_spec_NameOk (fun l => again (spec_l4Keys.dec l).1 (spec_l4Keys.dec l).2) p0 := by kernel_rfl
theorem spec_l4Keys.con (S_spec_NameOk : (ByteArray) → Option ((Bool) × Unit)) (h_spec_NameOk : Con Go.Proofs.Tryd.prog 66 sg_spec_NameOk S_spec_NameOk) (n : Nat) : Con Go.Proofs.Tryd.prog 42 sg_spec_l4Keys (fun p0 => spec_l4Keys.body S_spec_NameOk (go (spec_l4Keys.step S_spec_NameOk) n) p0) :=
  Con.of_eval (t := fun _ => [row 66 sg_spec_NameOk S_spec_NameOk]) mixed ttok (fun _ => (.cons callable66 h_spec_NameOk .nil)) Go.Proofs.Tryd.func42 (c := spec_l4Keys.code) (by kernel_rfl) (fun p0 y h => ⟨n, (evalFn_go (spec_l4Keys.step_eq S_spec_NameOk) (body := fun rec => spec_l4Keys.body S_spec_NameOk rec p0) (fun again => spec_l4Keys.body_eq S_spec_NameOk again p0) n).trans h⟩)

/-! ### impl_integer -/
inductive impl_integer.L where
  | L0 (x0 : ByteArray) (x1 : ByteArray) (x2 : Int) (x3 : Int) (x4 : Int)
def impl_integer.step (S_impl_decimal : (Int) → Option ((ByteArray) × Unit)) (S_strings_TrimPrefix : (ByteArray × ByteArray) → Option ((ByteArray) × Unit)) (rec : impl_integer.L → Option ((Int × Bool) × Unit)) : impl_integer.L → Option ((Int × Bool) × Unit)
  | .L0 x0 x1 x2 x3 x4 =>
    bif (decide (x4 < x3)) then (
      bif (decide (0 ≤ x4)) then
      bif (decide (x4 < (((ByteArray.size x1) : Nat) : Int))) then
      bif (decide ((bt x1 x4) < 48)) then (
        some ((0, false), ())) else
      bif (decide (0 ≤ x4)) then
      bif (decide (x4 < (((ByteArray.size x1) : Nat) : Int))) then
      bif (decide (57 < (bt x1 x4))) then (
        some ((0, false), ())) else
      bif (decide (0 ≤ x4)) then
      bif (decide (x4 < (((ByteArray.size x1) : Nat) : Int))) then
      rec (.L0 x0 x1 (IntKind.wrap .i64 ((IntKind.wrap .i64 (10 * x2)) - (IntKind.wrap .i64 (IntKind.wrap .u8 ((bt x1 x4) - 48))))) x3 (IntKind.wrap .i64 (x4 + 1))) else none else none else none else none else none else none) else
    bif ((((ByteArray.size x1) : Nat) : Int) == (((ByteArray.size x0) : Nat) : Int)) then (
      (S_impl_decimal (IntKind.wrap .i64 (0 - x2))).bind fun y1 =>
      some (((IntKind.wrap .i64 (0 - x2)), (seq_ y1.1 x0)), ())) else
    (S_impl_decimal x2).bind fun y0 =>
    some ((x2, (seq_ y0.1 x0)), ())
def impl_integer.body (S_impl_decimal : (Int) → Option ((ByteArray) × Unit)) (S_strings_TrimPrefix : (ByteArray × ByteArray) → Option ((ByteArray) × Unit)) (rec : impl_integer.L → Option ((Int × Bool) × Unit)) (p0 : ByteArray) : Option ((Int × Bool) × Unit) :=
  (S_strings_TrimPrefix (p0, (bs [45]))).bind fun y0 =>
  bif (seq_ y0.1 (bs [])) then (
    some ((0, false), ())) else
  bif (decide (19 < (((ByteArray.size y0.1) : Nat) : Int))) then (
    some ((0, false), ())) else
  rec (.L0 p0 y0.1 0 (((ByteArray.size y0.1) : Nat) : Int) 0)
noncomputable def impl_integer.code : Code := (Go.Proofs.Tryd.f48.body).getD .skip
noncomputable def impl_integer.E (S_impl_decimal : (Int) → Option ((ByteArray) × Unit)) (S_strings_TrimPrefix : (ByteArray × ByteArray) → Option ((ByteArray) × Unit)) : Env ((Int × Bool) × Unit) := mkE tt (fun _ => [row 38 sg_impl_decimal S_impl_decimal, row 72 sg_strings_TrimPrefix S_strings_TrimPrefix]) [(6, ⟨[0, 4, 5, 17, 18], [], []⟩)] [] sg_impl_integer Go.Proofs.Tryd.f48.results.toList
noncomputable def impl_integer.dec : impl_integer.L → List Item × St
  | .L0 x0 x1 x2 x3 x4 => (itemsAt 6 impl_integer.code [], ⟨slotsAt 52 [(0, .str x0), (4, .str x1), (5, .int .i64 x2), (17, .int .i64 x3), (18, .int .i64 x4)], []⟩)
theorem impl_integer.step_eq (S_impl_decimal : (Int) → Option ((ByteArray) × Unit)) (S_strings_TrimPrefix : (ByteArray × ByteArray) → Option ((ByteArray) × Unit)) (again : List Item → St → Option ((Int × Bool) × Unit)) : ∀ l, run1 (impl_integer.E S_impl_decimal S_strings_TrimPrefix) again (impl_integer.dec l).1 (impl_integer.dec l).2 = impl_integer.step S_impl_decimal S_strings_TrimPrefix (fun l => again (impl_integer.dec l).1 (impl_integer.dec l).2) l
  | .L0 x0 x1 x2 x3 x4 => by kernel_rfl
theorem impl_integer.body_eq (S_impl_decimal : (Int) → Option ((ByteArray) × Unit)) (S_strings_TrimPrefix : (ByteArray × ByteArray) → Option ((ByteArray) × Unit)) (again : List Item → St → Option ((Int × Bool) × Unit)) (p0 : ByteArray) : eval0 (impl_integer.E S_impl_decimal S_strings_TrimPrefix) again impl_integer.code 52 (encs 0 (Sig.args sg_impl_integer) p0).1 (encs 0 (Sig.args sg_impl_integer) p0).2 = impl_integer.body S_impl_decimal S_strings_TrimPrefix (fun l => again (impl_integer.dec l).1 (impl_integer.dec l).2) p0 := by kernel_rfl
theorem impl_integer.con (S_impl_decimal : (Int) → Option ((ByteArray) × Unit)) (S_strings_TrimPrefix : (ByteArray × ByteArray) → Option ((ByteArray) × Unit)) (h_impl_decimal : Con Go.Proofs.Tryd.prog 38 sg_impl_decimal S_impl_decimal) (h_strings_TrimPrefix : Con Go.Proofs.Tryd.prog 72 sg_strings_TrimPrefix S_strings_TrimPrefix) (n : Nat) : Con Go.Proofs.Tryd.prog 48 sg_impl_integer (fun p0 => impl_integer.body S_impl_decimal S_strings_TrimPrefix (go (impl_integer.step S_impl_decimal S_strings_TrimPrefix) n) p0) :=
  Con.of_eval (t := fun _ => [row 38 sg_impl_decimal S_impl_decimal, row 72 sg_strings_TrimPrefix S_strings_TrimPrefix]) mixed ttok (fun _ => (.cons callable38 h_impl_decimal (.cons callable72 h_strings_TrimPrefix .nil))) Go.Proofs.Tryd.func48 (c := impl_integer.code) (by kernel_rfl) (fun p0 y h => ⟨n, (evalFn_go (impl_integer.step_eq S_impl_decimal S_strings_TrimPrefix) (body := fun rec => impl_integer.body S_impl_decimal S_strings_TrimPrefix rec p0) (fun again => impl_integer.body_eq S_impl_decimal S_strings_TrimPrefix again p0) n).trans h⟩)

/-! ### spec_l4Int -/
inductive spec_l4Int.L where
  | L0 (x0 : Int) (x1 : ByteArray) (x2 : ByteArray)
def spec_l4Int.step  (rec : spec_l4Int.L → Option ((ByteArray) × Unit)) : spec_l4Int.L → Option ((ByteArray) × Unit)
  | .L0 x0 x1 x2 =>
    bif (decide (10 ≤ x0)) then (
      bif (decide (((ByteArray.size (ofBytes ((IntKind.wrap .u8 (IntKind.wrap .u64 (48 + (Int.tmod x0 10)))) :: []))) + (ByteArray.size x2)) ≤ 9223372036854775807)) then
      rec (.L0 (IntKind.wrap .u64 (Int.tdiv x0 10)) x1 ((ofBytes ((IntKind.wrap .u8 (IntKind.wrap .u64 (48 + (Int.tmod x0 10)))) :: [])) ++ x2)) else none) else
    bif (decide (((ByteArray.size x1) + (ByteArray.size (ofBytes ((IntKind.wrap .u8 (IntKind.wrap .u64 (48 + x0))) :: [])))) ≤ 9223372036854775807)) then
    bif (decide (((ByteArray.size (x1 ++ (ofBytes ((IntKind.wrap .u8 (IntKind.wrap .u64 (48 + x0))) :: [])))) + (ByteArray.size x2)) ≤ 9223372036854775807)) then
    some (((x1 ++ (ofBytes ((IntKind.wrap .u8 (IntKind.wrap .u64 (48 + x0))) :: []))) ++ x2), ()) else none else none
def spec_l4Int.body  (rec : spec_l4Int.L → Option ((ByteArray) × Unit)) (p0 : Int) : Option ((ByteArray) × Unit) :=
  bif (decide (p0 < 0)) then (
    rec (.L0 (IntKind.wrap .u64 ((IntKind.wrap .u64 (IntKind.wrap .i64 (0 - (IntKind.wrap .i64 (p0 + 1))))) + 1)) (bs [45]) (bs []))) else
  rec (.L0 (IntKind.wrap .u64 p0) (bs []) (bs []))
noncomputable def spec_l4Int.code : Code := (Go.Proofs.Tryd.f54.body).getD .skip
noncomputable def spec_l4Int.E  : Env ((ByteArray) × Unit) := mkE tt (fun _ => []) [(7, ⟨[3, 4, 5], [], []⟩)] [] sg_spec_l4Int Go.Proofs.Tryd.f54.results.toList
noncomputable def spec_l4Int.dec : spec_l4Int.L → List Item × St
  | .L0 x0 x1 x2 => (itemsAt 7 spec_l4Int.code [], ⟨slotsAt 36 [(3, .int .u64 x0), (4, .str x1), (5, .str x2)], []⟩)
theorem spec_l4Int.step_eq  (again : List Item → St → Option ((ByteArray) × Unit)) : ∀ l, run1 (spec_l4Int.E ) again (spec_l4Int.dec l).1 (spec_l4Int.dec l).2 = spec_l4Int.step  (fun l => again (spec_l4Int.dec l).1 (spec_l4Int.dec l).2) l
  | .L0 x0 x1 x2 => by kernel_rfl
theorem spec_l4Int.body_eq  (again : List Item → St → Option ((ByteArray) × Unit)) (p0 : Int) : eval0 (spec_l4Int.E ) again spec_l4Int.code 36 (encs 0 (Sig.args sg_spec_l4Int) p0).1 (encs 0 (Sig.args sg_spec_l4Int) p0).2 = spec_l4Int.body  (fun l => again (spec_l4Int.dec l).1 (spec_l4Int.dec l).2) p0 := by kernel_rfl
theorem spec_l4Int.con   (n : Nat) : Con Go.Proofs.Tryd.prog 54 sg_spec_l4Int (fun p0 => spec_l4Int.body  (go (spec_l4Int.step ) n) p0) :=
  Con.of_eval (t := fun _ => []) mixed ttok (fun _ => .nil) Go.Proofs.Tryd.func54 (c := spec_l4Int.code) (by kernel_rfl) (fun p0 y h => ⟨n, (evalFn_go (spec_l4Int.step_eq ) (body := fun rec => spec_l4Int.body  rec p0) (fun again => spec_l4Int.body_eq  again p0) n).trans h⟩)

/-! ### spec_l1Byte -/
def spec_l1Byte.body   (p0a : (List Int)) (p0ba : Int) (p0bb : Int) : Option ((Int) × ((List Int) × (Int × Int))) :=
  bif (decide (p0ba < (((List.length p0a) : Nat) : Int))) then (
    bif (decide (0 ≤ p0ba)) then
    bif (decide (p0ba < (((List.length p0a) : Nat) : Int))) then
    some ((iand .i64 (IntKind.wrap .i64 ((iand .i64 (ixor .i64 (ishr .i64 (IntKind.wrap .i64 ((IntKind.wrap .i64 (p0bb * 6364136223846793005)) + 1442695040888963407)) 33) (ishr .i64 (IntKind.wrap .i64 ((IntKind.wrap .i64 (p0bb * 6364136223846793005)) + 1442695040888963407)) 47)) 255) + (IntKind.wrap .i64 (List.getD p0a (Int.toNat p0ba) 0)))) 255), (p0a, ((IntKind.wrap .i64 (p0ba + 1)), (IntKind.wrap .i64 ((IntKind.wrap .i64 (p0bb * 6364136223846793005)) + 1442695040888963407))))) else none else none) else
  some ((iand .i64 (ixor .i64 (ishr .i64 (IntKind.wrap .i64 ((IntKind.wrap .i64 (p0bb * 6364136223846793005)) + 1442695040888963407)) 33) (ishr .i64 (IntKind.wrap .i64 ((IntKind.wrap .i64 (p0bb * 6364136223846793005)) + 1442695040888963407)) 47)) 255), (p0a, (p0ba, (IntKind.wrap .i64 ((IntKind.wrap .i64 (p0bb * 6364136223846793005)) + 1442695040888963407)))))
noncomputable def spec_l1Byte.code : Code := (Go.Proofs.Tryd.f61.body).getD .skip
noncomputable def spec_l1Byte.E  : Env ((Int) × ((List Int) × (Int × Int))) := mkE tt (fun _ => []) [] [] sg_spec_l1Byte Go.Proofs.Tryd.f61.results.toList
theorem spec_l1Byte.body_eq  (again : List Item → St → Option ((Int) × ((List Int) × (Int × Int)))) (p0a : (List Int)) (p0ba : Int) (p0bb : Int) : eval0 (spec_l1Byte.E ) again spec_l1Byte.code 58 (encs 0 (Sig.args sg_spec_l1Byte) (p0a, (p0ba, p0bb))).1 (encs 0 (Sig.args sg_spec_l1Byte) (p0a, (p0ba, p0bb))).2 = spec_l1Byte.body   p0a p0ba p0bb := by kernel_rfl
theorem spec_l1Byte.con    : Con Go.Proofs.Tryd.prog 61 sg_spec_l1Byte (fun (p0a, (p0ba, p0bb)) => spec_l1Byte.body   p0a p0ba p0bb) :=
  Con.of_eval (t := fun _ => []) mixed ttok (fun _ => .nil) Go.Proofs.Tryd.func61 (c := spec_l1Byte.code) (by kernel_rfl) (fun (p0a, (p0ba, p0bb)) y h => ⟨0, (spec_l1Byte.body_eq  _ p0a p0ba p0bb).trans h⟩)

/-! ### spec_l4ReadWord -/
inductive spec_l4ReadWord.L where
  | L0 (x0 : Int) (x1 : ByteArray) (x2 : Int) (x3 : Bool)
def spec_l4ReadWord.step (S_spec_l4Peek : ((ByteArray × (Int × Bool))) → Option ((Int) × (ByteArray × (Int × Bool)))) (rec : spec_l4ReadWord.L → Option ((ByteArray) × (ByteArray × (Int × Bool)))) : spec_l4ReadWord.L → Option ((ByteArray) × (ByteArray × (Int × Bool)))
  | .L0 x0 x1 x2 x3 =>
    bif (Bool.not x3) then (
      (S_spec_l4Peek (x1, (x2, x3))).bind fun y0 =>
      bif (y0.1 != 58) then (
        (S_spec_l4Peek (y0.2.1, (y0.2.2.1, y0.2.2.2))).bind fun y1 =>
        bif (y1.1 != 0) then (
          rec (.L0 x0 y1.2.1 (IntKind.wrap .i64 (y1.2.2.1 + 1)) y1.2.2.2)) else
        bif (decide (0 ≤ y1.2.2.1)) then
        bif (decide (y1.2.2.1 ≤ (((ByteArray.size y1.2.1) : Nat) : Int))) then
        bif (decide (0 ≤ x0)) then
        bif (decide (x0 ≤ y1.2.2.1)) then
        some ((ByteArray.extract y1.2.1 (Int.toNat x0) (Int.toNat y1.2.2.1)), (y1.2.1, (y1.2.2.1, y1.2.2.2))) else none else none else none else none) else
      bif (decide (0 ≤ y0.2.2.1)) then
      bif (decide (y0.2.2.1 ≤ (((ByteArray.size y0.2.1) : Nat) : Int))) then
      bif (decide (0 ≤ x0)) then
      bif (decide (x0 ≤ y0.2.2.1)) then
      some ((ByteArray.extract y0.2.1 (Int.toNat x0) (Int.toNat y0.2.2.1)), (y0.2.1, (y0.2.2.1, y0.2.2.2))) else none else none else none else none) else
    bif (decide (0 ≤ x2)) then
    bif (decide (x2 ≤ (((ByteArray.size x1) : Nat) : Int))) then
    bif (decide (0 ≤ x0)) then
    bif (decide (x0 ≤ x2)) then
    some ((ByteArray.extract x1 (Int.toNat x0) (Int.toNat x2)), (x1, (x2, x3))) else none else none else none else none
def spec_l4ReadWord.body (S_spec_l4Peek : ((ByteArray × (Int × Bool))) → Option ((Int) × (ByteArray × (Int × Bool)))) (rec : spec_l4ReadWord.L → Option ((ByteArray) × (ByteArray × (Int × Bool)))) (p0a : ByteArray) (p0ba : Int) (p0bb : Bool) : Option ((ByteArray) × (ByteArray × (Int × Bool))) :=
  rec (.L0 p0ba p0a p0ba p0bb)
noncomputable def spec_l4ReadWord.code : Code := (Go.Proofs.Tryd.f74.body).getD .skip
noncomputable def spec_l4ReadWord.E (S_spec_l4Peek : ((ByteArray × (Int × Bool))) → Option ((Int) × (ByteArray × (Int × Bool)))) : Env ((ByteArray) × (ByteArray × (Int × Bool))) := mkE tt (fun _ => [row 73 sg_spec_l4Peek S_spec_l4Peek]) [(2, ⟨[0, 3], [], []⟩)] [] sg_spec_l4ReadWord Go.Proofs.Tryd.f74.results.toList
noncomputable def spec_l4ReadWord.dec : spec_l4ReadWord.L → List Item × St
  | .L0 x0 x1 x2 x3 => (itemsAt 2 spec_l4ReadWord.code [], ⟨slotsAt 41 [(0, .ptr 0 0), (3, .int .i64 x0)], [.cells 48 [.str x1, .int .i64 x2, .bool x3]]⟩)
theorem spec_l4ReadWord.step_eq (S_spec_l4Peek : ((ByteArray × (Int × Bool))) → Option ((Int) × (ByteArray × (Int × Bool)))) (again : List Item → St → Option ((ByteArray) × (ByteArray × (Int × Bool)))) : ∀ l, run1 (spec_l4ReadWord.E S_spec_l4Peek) again (spec_l4ReadWord.dec l).1 (spec_l4ReadWord.dec l).2 = spec_l4ReadWord.step S_spec_l4Peek (fun l => again (spec_l4ReadWord.dec l).1 (spec_l4ReadWord.dec l).2) l
  | .L0 x0 x1 x2 x3 => by kernel_rfl
theorem spec_l4ReadWord.body_eq (S_spec_l4Peek : ((ByteArray × (Int × Bool))) → Option ((Int) × (ByteArray × (Int × Bool)))) (again : List Item → St → Option ((ByteArray) × (ByteArray × (Int × Bool)))) (p0a : ByteArray) (p0ba : Int) (p0bb : Bool) : eval0 (spec_l4ReadWord.E S_spec_l4Peek) again spec_l4ReadWord.code 41 (encs 0 (Sig.args sg_spec_l4ReadWord) (p0a, (p0ba, p0bb))).1 (encs 0 (Sig.args sg_spec_l4ReadWord) (p0a, (p0ba, p0bb))).2 = spec_l4ReadWord.body S_spec_l4Peek (fun l => again (spec_l4ReadWord.dec l).1 (spec_l4ReadWord.dec l).2) p0a p0ba p0bb := by kernel_rfl
theorem spec_l4ReadWord.con (S_spec_l4Peek : ((ByteArray × (Int × Bool))) → Option ((Int) × (ByteArray × (Int × Bool)))) (h_spec_l4Peek : Con Go.Proofs.Tryd.prog 73 sg_spec_l4Peek S_spec_l4Peek) (n : Nat) : Con Go.Proofs.Tryd.prog 74 sg_spec_l4ReadWord (fun (p0a, (p0ba, p0bb)) => spec_l4ReadWord.body S_spec_l4Peek (go (spec_l4ReadWord.step S_spec_l4Peek) n) p0a p0ba p0bb) :=
  Con.of_eval (t := fun _ => [row 73 sg_spec_l4Peek S_spec_l4Peek]) mixed ttok (fun _ => (.cons callable73 h_spec_l4Peek .nil)) Go.Proofs.Tryd.func74 (c := spec_l4ReadWord.code) (by kernel_rfl) (fun (p0a, (p0ba, p0bb)) y h => ⟨n, (evalFn_go (spec_l4ReadWord.step_eq S_spec_l4Peek) (body := fun rec => spec_l4ReadWord.body S_spec_l4Peek rec p0a p0ba p0bb) (fun again => spec_l4ReadWord.body_eq S_spec_l4Peek again p0a p0ba p0bb) n).trans h⟩)

/-! ### spec_l1Labels -/
def spec_l1Labels.body   (p0 : (List (ByteArray × ByteArray))) : Option (((List (ByteArray × ByteArray))) × Unit) :=
  bif (decide (((0 + (List.length p0)) * 32) ≤ 140737488355328)) then
  some (([] ++ p0), ()) else none
noncomputable def spec_l1Labels.code : Code := (Go.Proofs.Tryd.f89.body).getD .skip
noncomputable def spec_l1Labels.E  : Env (((List (ByteArray × ByteArray))) × Unit) := mkE tt (fun _ => []) [] [] sg_spec_l1Labels Go.Proofs.Tryd.f89.results.toList
theorem spec_l1Labels.body_eq  (again : List Item → St → Option (((List (ByteArray × ByteArray))) × Unit)) (p0 : (List (ByteArray × ByteArray))) : eval0 (spec_l1Labels.E ) again spec_l1Labels.code 6 (encs 0 (Sig.args sg_spec_l1Labels) p0).1 (encs 0 (Sig.args sg_spec_l1Labels) p0).2 = spec_l1Labels.body   p0 := by kernel_rfl
theorem spec_l1Labels.con    : Con Go.Proofs.Tryd.prog 89 sg_spec_l1Labels (fun p0 => spec_l1Labels.body   p0) :=
  Con.of_eval (t := fun _ => []) mixed ttok (fun _ => .nil) Go.Proofs.Tryd.func89 (c := spec_l1Labels.code) (by kernel_rfl) (fun p0 y h => ⟨0, (spec_l1Labels.body_eq  _ p0).trans h⟩)

/-! ### stringslite_HasPrefix -/
def stringslite_HasPrefix.body   (p0 : ByteArray) (p1 : ByteArray) : Option ((Bool) × Unit) :=
  bif (decide ((((ByteArray.size p1) : Nat) : Int) ≤ (((ByteArray.size p0) : Nat) : Int))) then (
    bif (decide ((((ByteArray.size p1) : Nat) : Int) ≤ (((ByteArray.size p0) : Nat) : Int))) then
    some ((seq_ (ByteArray.extract p0 0 (Int.toNat (((ByteArray.size p1) : Nat) : Int))) p1), ()) else none) else
  some (false, ())
noncomputable def stringslite_HasPrefix.code : Code := (Go.Proofs.Tryd.f95.body).getD .skip
noncomputable def stringslite_HasPrefix.E  : Env ((Bool) × Unit) := mkE tt (fun _ => []) [] [] sg_stringslite_HasPrefix Go.Proofs.Tryd.f95.results.toList
theorem stringslite_HasPrefix.body_eq  (again : List Item → St → Option ((Bool) × Unit)) (p0 : ByteArray) (p1 : ByteArray) : eval0 (stringslite_HasPrefix.E ) again stringslite_HasPrefix.code 18 (encs 0 (Sig.args sg_stringslite_HasPrefix) (p0, p1)).1 (encs 0 (Sig.args sg_stringslite_HasPrefix) (p0, p1)).2 = stringslite_HasPrefix.body   p0 p1 := by kernel_rfl
theorem stringslite_HasPrefix.con    : Con Go.Proofs.Tryd.prog 95 sg_stringslite_HasPrefix (fun (p0, p1) => stringslite_HasPrefix.body   p0 p1) :=
  Con.of_eval (t := fun _ => []) mixed ttok (fun _ => .nil) Go.Proofs.Tryd.func95 (c := stringslite_HasPrefix.code) (by kernel_rfl) (fun (p0, p1) y h => ⟨0, (stringslite_HasPrefix.body_eq  _ p0 p1).trans h⟩)

end Go.Proofs.YtgbfelpdlekbkaaDoor
