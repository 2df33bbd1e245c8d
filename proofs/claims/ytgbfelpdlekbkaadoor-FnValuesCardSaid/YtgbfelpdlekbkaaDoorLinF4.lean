/- Go functions as plain functions, and that they are so. -/
import Derived.Test.YtgbfelpdlekbkaaDoorLinS
set_option linter.unusedVariables false
set_option linter.unusedSimpArgs false
set_option linter.unusedVariables false
namespace Go.Proofs.YtgbfelpdlekbkaaDoor
open Go Go.Proofs Go.Lin
/-! ### spec_ValueOk -/
def spec_ValueOk.body (S_spec_l4Look : (GVal × Int) → Option ((Int) × Unit))  (p0 : GVal) : Option ((Bool) × Unit) :=
  (S_spec_l4Look ((re p0), 6)).bind fun y0 =>
  some ((decide (0 < y0.1)), ())
noncomputable def spec_ValueOk.code : Code := (Go.Proofs.Tryd.f8.body).getD .skip
noncomputable def spec_ValueOk.E (S_spec_l4Look : (GVal × Int) → Option ((Int) × Unit)) : Env ((Bool) × Unit) := mkE tt (fun _ => [row 20 sg_spec_l4Look S_spec_l4Look]) [] [] sg_spec_ValueOk Go.Proofs.Tryd.f8.results.toList
theorem spec_ValueOk.body_eq (S_spec_l4Look : (GVal × Int) → Option ((Int) × Unit)) (again : List Item → St → Option ((Bool) × Unit)) (p0 : GVal) : eval0 (spec_ValueOk.E S_spec_l4Look) again spec_ValueOk.code 6 (encs 0 (Sig.args sg_spec_ValueOk) p0).1 (encs 0 (Sig.args sg_spec_ValueOk) p0).2 = spec_ValueOk.body S_spec_l4Look  p0 := by kernel_rfl
theorem spec_ValueOk.con (S_spec_l4Look : (GVal × Int) → Option ((Int) × Unit)) (h_spec_l4Look : Con Go.Proofs.Tryd.prog 20 sg_spec_l4Look S_spec_l4Look)  : Con Go.Proofs.Tryd.prog 8 sg_spec_ValueOk (fun p0 => spec_ValueOk.body S_spec_l4Look  p0) :=
  Con.of_eval (t := fun _ => [row 20 sg_spec_l4Look S_spec_l4Look]) mixed ttok (fun _ => (.cons callable20 h_spec_l4Look .nil)) Go.Proofs.Tryd.func8 (c := spec_ValueOk.code) (by kernel_rfl) (fun p0 y h => ⟨0, (spec_ValueOk.body_eq S_spec_l4Look _ p0).trans h⟩)

/-! ### laws_eqValue -/
def laws_eqValue.body (S_laws_eqStringS : ((List ByteArray) × (List ByteArray)) → Option ((Bool) × Unit)) (S_laws_eqValueS : ((List GVal) × (List GVal)) → Option ((Bool) × Unit))  (p0 : GVal) (p1 : GVal) : Option ((Bool) × Unit) :=
  bif (p0.kind != p1.kind) then (
    some (false, ())) else
  bif (Bool.not (seq_ p0.text p1.text)) then (
    some (false, ())) else
  bif (p0.num != p1.num) then (
    some (false, ())) else
  (S_laws_eqStringS (p0.keys, p1.keys)).bind fun y0 =>
  bif (Bool.not y0.1) then (
    some (false, ())) else
  (S_laws_eqValueS (p0.kids, p1.kids)).bind fun y1 =>
  bif (Bool.not y1.1) then (
    some (false, ())) else
  some (true, ())
noncomputable def laws_eqValue.code : Code := (Go.Proofs.Tryd.f14.body).getD .skip
noncomputable def laws_eqValue.E (S_laws_eqStringS : ((List ByteArray) × (List ByteArray)) → Option ((Bool) × Unit)) (S_laws_eqValueS : ((List GVal) × (List GVal)) → Option ((Bool) × Unit)) : Env ((Bool) × Unit) := mkE tt (fun _ => [row 27 sg_laws_eqStringS S_laws_eqStringS, row 28 sg_laws_eqValueS S_laws_eqValueS]) [] [] sg_laws_eqValue Go.Proofs.Tryd.f14.results.toList
theorem laws_eqValue.body_eq (S_laws_eqStringS : ((List ByteArray) × (List ByteArray)) → Option ((Bool) × Unit)) (S_laws_eqValueS : ((List GVal) × (List GVal)) → Option ((Bool) × Unit)) (again : List Item → St → Option ((Bool) × Unit)) (p0 : GVal) (p1 : GVal) : eval0 (laws_eqValue.E S_laws_eqStringS S_laws_eqValueS) again laws_eqValue.code 32 (encs 0 (Sig.args sg_laws_eqValue) (p0, p1)).1 (encs 0 (Sig.args sg_laws_eqValue) (p0, p1)).2 = laws_eqValue.body S_laws_eqStringS S_laws_eqValueS  p0 p1 := by kernel_rfl
theorem laws_eqValue.con (S_laws_eqStringS : ((List ByteArray) × (List ByteArray)) → Option ((Bool) × Unit)) (S_laws_eqValueS : ((List GVal) × (List GVal)) → Option ((Bool) × Unit)) (h_laws_eqStringS : Con Go.Proofs.Tryd.prog 27 sg_laws_eqStringS S_laws_eqStringS) (h_laws_eqValueS : Con Go.Proofs.Tryd.prog 28 sg_laws_eqValueS S_laws_eqValueS)  : Con Go.Proofs.Tryd.prog 14 sg_laws_eqValue (fun (p0, p1) => laws_eqValue.body S_laws_eqStringS S_laws_eqValueS  p0 p1) :=
  Con.of_eval (t := fun _ => [row 27 sg_laws_eqStringS S_laws_eqStringS, row 28 sg_laws_eqValueS S_laws_eqValueS]) mixed ttok (fun _ => (.cons callable27 h_laws_eqStringS (.cons callable28 h_laws_eqValueS .nil))) Go.Proofs.Tryd.func14 (c := laws_eqValue.code) (by kernel_rfl) (fun (p0, p1) y h => ⟨0, (laws_eqValue.body_eq S_laws_eqStringS S_laws_eqValueS _ p0 p1).trans h⟩)

/-! ### impl_parser_value -/
def impl_parser_value.body (S_impl_parser_take : ((ByteArray × Bool) × ByteArray) → Option ((Bool) × (ByteArray × Bool))) (S_impl_parser_text : ((ByteArray × Bool)) → Option ((ByteArray) × (ByteArray × Bool))) (S_impl_parser_kids : ((ByteArray × Bool) × Int × ByteArray × Int) → Option ((GVal) × (ByteArray × Bool))) (S_impl_parser_till : ((ByteArray × Bool) × ByteArray) → Option ((ByteArray) × (ByteArray × Bool))) (S_impl_integer : (ByteArray) → Option ((Int × Bool) × Unit))  (p0a : ByteArray) (p0b : Bool) (p1 : Int) : Option ((GVal) × (ByteArray × Bool)) :=
  bif (p1 == 0) then (
    some ((GVal.mk 0 (bs []) 0 [] []), (p0a, false))) else
  (S_impl_parser_take ((p0a, p0b), (bs [34]))).bind fun y0 =>
  bif y0.1 then (
    (S_impl_parser_text (y0.2.1, y0.2.2)).bind fun y7 =>
    some ((GVal.mk 1 y7.1 0 [] []), (y7.2.1, y7.2.2))) else
  (S_impl_parser_take ((y0.2.1, y0.2.2), (bs [91]))).bind fun y1 =>
  bif y1.1 then (
    (S_impl_parser_kids ((y1.2.1, y1.2.2), (4, ((bs [93]), p1)))).bind fun y6 =>
    some ((re y6.1), (y6.2.1, y6.2.2))) else
  (S_impl_parser_take ((y1.2.1, y1.2.2), (bs [123]))).bind fun y2 =>
  bif y2.1 then (
    (S_impl_parser_kids ((y2.2.1, y2.2.2), (5, ((bs [125]), p1)))).bind fun y5 =>
    some ((re y5.1), (y5.2.1, y5.2.2))) else
  (S_impl_parser_till ((y2.2.1, y2.2.2), (bs [44, 93, 125]))).bind fun y3 =>
  bif (seq_ y3.1 (bs [116, 114, 117, 101])) then (
    some ((GVal.mk 3 (bs []) 1 [] []), (y3.2.1, y3.2.2))) else
  bif (seq_ y3.1 (bs [102, 97, 108, 115, 101])) then (
    some ((GVal.mk 3 (bs []) 0 [] []), (y3.2.1, y3.2.2))) else
  (S_impl_integer y3.1).bind fun y4 =>
  bif y3.2.2 then (
    some ((GVal.mk 2 (bs []) y4.1.1 [] []), (y3.2.1, y4.1.2))) else
  some ((GVal.mk 2 (bs []) y4.1.1 [] []), (y3.2.1, false))
noncomputable def impl_parser_value.code : Code := (Go.Proofs.Tryd.f22.body).getD .skip
noncomputable def impl_parser_value.E (S_impl_parser_take : ((ByteArray × Bool) × ByteArray) → Option ((Bool) × (ByteArray × Bool))) (S_impl_parser_text : ((ByteArray × Bool)) → Option ((ByteArray) × (ByteArray × Bool))) (S_impl_parser_kids : ((ByteArray × Bool) × Int × ByteArray × Int) → Option ((GVal) × (ByteArray × Bool))) (S_impl_parser_till : ((ByteArray × Bool) × ByteArray) → Option ((ByteArray) × (ByteArray × Bool))) (S_impl_integer : (ByteArray) → Option ((Int × Bool) × Unit)) : Env ((GVal) × (ByteArray × Bool)) := mkE tt (fun _ => [row 44 sg_impl_parser_take S_impl_parser_take, row 45 sg_impl_parser_text S_impl_parser_text, row 46 sg_impl_parser_kids S_impl_parser_kids, row 47 sg_impl_parser_till S_impl_parser_till, row 48 sg_impl_integer S_impl_integer]) [] [] sg_impl_parser_value Go.Proofs.Tryd.f22.results.toList
theorem impl_parser_value.body_eq (S_impl_parser_take : ((ByteArray × Bool) × ByteArray) → Option ((Bool) × (ByteArray × Bool))) (S_impl_parser_text : ((ByteArray × Bool)) → Option ((ByteArray) × (ByteArray × Bool))) (S_impl_parser_kids : ((ByteArray × Bool) × Int × ByteArray × Int) → Option ((GVal) × (ByteArray × Bool))) (S_impl_parser_till : ((ByteArray × Bool) × ByteArray) → Option ((ByteArray) × (ByteArray × Bool))) (S_impl_integer : (ByteArray) → Option ((Int × Bool) × Unit)) (again : List Item → St → Option ((GVal) × (ByteArray × Bool))) (p0a : ByteArray) (p0b : Bool) (p1 : Int) : eval0 (impl_parser_value.E S_impl_parser_take S_impl_parser_text S_impl_parser_kids S_impl_parser_till S_impl_integer) again impl_parser_value.code 61 (encs 0 (Sig.args sg_impl_parser_value) ((p0a, p0b), p1)).1 (encs 0 (Sig.args sg_impl_parser_value) ((p0a, p0b), p1)).2 = impl_parser_value.body S_impl_parser_take S_impl_parser_text S_impl_parser_kids S_impl_parser_till S_impl_integer  p0a p0b p1 := by kernel_rfl
theorem impl_parser_value.con (S_impl_parser_take : ((ByteArray × Bool) × ByteArray) → Option ((Bool) × (ByteArray × Bool))) (S_impl_parser_text : ((ByteArray × Bool)) → Option ((ByteArray) × (ByteArray × Bool))) (S_impl_parser_kids : ((ByteArray × Bool) × Int × ByteArray × Int) → Option ((GVal) × (ByteArray × Bool))) (S_impl_parser_till : ((ByteArray × Bool) × ByteArray) → Option ((ByteArray) × (ByteArray × Bool))) (S_impl_integer : (ByteArray) → Option ((Int × Bool) × Unit)) (h_impl_parser_take : Con Go.Proofs.Tryd.prog 44 sg_impl_parser_take S_impl_parser_take) (h_impl_parser_text : Con Go.Proofs.Tryd.prog 45 sg_impl_parser_text S_impl_parser_text) (h_impl_parser_kids : Con Go.Proofs.Tryd.prog 46 sg_impl_parser_kids S_impl_parser_kids) (h_impl_parser_till : Con Go.Proofs.Tryd.prog 47 sg_impl_parser_till S_impl_parser_till) (h_impl_integer : Con Go.Proofs.Tryd.prog 48 sg_impl_integer S_impl_integer)  : Con Go.Proofs.Tryd.prog 22 sg_impl_parser_value (fun ((p0a, p0b), p1) => impl_parser_value.body S_impl_parser_take S_impl_parser_text S_impl_parser_kids S_impl_parser_till S_impl_integer  p0a p0b p1) :=
  Con.of_eval (t := fun _ => [row 44 sg_impl_parser_take S_impl_parser_take, row 45 sg_impl_parser_text S_impl_parser_text, row 46 sg_impl_parser_kids S_impl_parser_kids, row 47 sg_impl_parser_till S_impl_parser_till, row 48 sg_impl_integer S_impl_integer]) mixed ttok (fun _ => (.cons callable44 h_impl_parser_take (.cons callable45 h_impl_parser_text (.cons callable46 h_impl_parser_kids (.cons callable47 h_impl_parser_till (.cons callable48 h_impl_integer .nil)))))) Go.Proofs.Tryd.func22 (c := impl_parser_value.code) (by kernel_rfl) (fun ((p0a, p0b), p1) y h => ⟨0, (impl_parser_value.body_eq S_impl_parser_take S_impl_parser_text S_impl_parser_kids S_impl_parser_till S_impl_integer _ p0a p0b p1).trans h⟩)

/-! ### laws_eqValueS -/
inductive laws_eqValueS.L where
  | L0 (x0 : List GVal) (x1 : List GVal) (x2 : Int)
def laws_eqValueS.step (S_laws_eqValue : (GVal × GVal) → Option ((Bool) × Unit)) (rec : laws_eqValueS.L → Option ((Bool) × Unit)) : laws_eqValueS.L → Option ((Bool) × Unit)
  | .L0 x0 x1 x2 =>
    bif (decide (x2 < (((List.length x0) : Nat) : Int))) then (
      bif (decide (0 ≤ x2)) then
      bif (decide (x2 < (((List.length x0) : Nat) : Int))) then
      bif (decide (0 ≤ x2)) then
      bif (decide (x2 < (((List.length x1) : Nat) : Int))) then
      (S_laws_eqValue ((re (List.getD x0 (Int.toNat x2) (GVal.zero ))), (re (List.getD x1 (Int.toNat x2) (GVal.zero ))))).bind fun y0 =>
      bif (Bool.not y0.1) then (
        some (false, ())) else
      rec (.L0 x0 x1 (IntKind.wrap .i64 (x2 + 1))) else none else none else none else none) else
    some (true, ())
def laws_eqValueS.body (S_laws_eqValue : (GVal × GVal) → Option ((Bool) × Unit)) (rec : laws_eqValueS.L → Option ((Bool) × Unit)) (p0 : (List GVal)) (p1 : (List GVal)) : Option ((Bool) × Unit) :=
  bif ((((List.length p0) : Nat) : Int) != (((List.length p1) : Nat) : Int)) then (
    some (false, ())) else
  rec (.L0 p0 p1 0)
noncomputable def laws_eqValueS.code : Code := (Go.Proofs.Tryd.f28.body).getD .skip
noncomputable def laws_eqValueS.E (S_laws_eqValue : (GVal × GVal) → Option ((Bool) × Unit)) : Env ((Bool) × Unit) := mkE tt (fun _ => [row 14 sg_laws_eqValue S_laws_eqValue]) [(4, ⟨[0, 1, 5], [], []⟩)] [] sg_laws_eqValueS Go.Proofs.Tryd.f28.results.toList
noncomputable def laws_eqValueS.dec : laws_eqValueS.L → List Item × St
  | .L0 x0 x1 x2 => (itemsAt 4 laws_eqValueS.code [], ⟨slotsAt 27 [(0, .slc 27 (.gval 9 27) x0), (1, .slc 27 (.gval 9 27) x1), (5, .int .i64 x2)], []⟩)
theorem laws_eqValueS.step_eq (S_laws_eqValue : (GVal × GVal) → Option ((Bool) × Unit)) (again : List Item → St → Option ((Bool) × Unit)) : ∀ l, run1 (laws_eqValueS.E S_laws_eqValue) again (laws_eqValueS.dec l).1 (laws_eqValueS.dec l).2 = laws_eqValueS.step S_laws_eqValue (fun l => again (laws_eqValueS.dec l).1 (laws_eqValueS.dec l).2) l
  | .L0 x0 x1 x2 => by kernel_rfl
theorem laws_eqValueS.body_eq (S_laws_eqValue : (GVal × GVal) → Option ((Bool) × Unit)) (again : List Item → St → Option ((Bool) × Unit)) (p0 : (List GVal)) (p1 : (List GVal)) : eval0 (laws_eqValueS.E S_laws_eqValue) again laws_eqValueS.code 27 (encs 0 (Sig.args sg_laws_eqValueS) (p0, p1)).1 (encs 0 (Sig.args sg_laws_eqValueS) (p0, p1)).2 = laws_eqValueS.body S_laws_eqValue (fun l => again (laws_eqValueS.dec l).1 (laws_eqValueS.dec l).2) p0 p1 := by kernel_rfl
theorem laws_eqValueS.con (S_laws_eqValue : (GVal × GVal) → Option ((Bool) × Unit)) (h_laws_eqValue : Con Go.Proofs.Tryd.prog 14 sg_laws_eqValue S_laws_eqValue) (n : Nat) : Con Go.Proofs.Tryd.prog 28 sg_laws_eqValueS (fun (p0, p1) => laws_eqValueS.body S_laws_eqValue (go (laws_eqValueS.step S_laws_eqValue) n) p0 p1) :=
  Con.of_eval (t := fun _ => [row 14 sg_laws_eqValue S_laws_eqValue]) mixed ttok (fun _ => (.cons callable14 h_laws_eqValue .nil)) Go.Proofs.Tryd.func28 (c := laws_eqValueS.code) (by kernel_rfl) (fun (p0, p1) y h => ⟨n, (evalFn_go (laws_eqValueS.step_eq S_laws_eqValue) (body := fun rec => laws_eqValueS.body S_laws_eqValue rec p0 p1) (fun again => laws_eqValueS.body_eq S_laws_eqValue again p0 p1) n).trans h⟩)

/-! ### impl_decimal -/
def impl_decimal.body (S_impl_decimal : (Int) → Option ((ByteArray) × Unit))  (p0 : Int) : Option ((ByteArray) × Unit) :=
  bif (decide (p0 < 0)) then (
    bif (decide ((-10) < p0)) then (
      (S_impl_decimal (IntKind.wrap .i64 (0 - p0))).bind fun y6 =>
      bif (decide ((1 + (ByteArray.size y6.1)) ≤ 9223372036854775807)) then
      some (((bs [45]) ++ y6.1), ()) else none) else
    bif (decide (p0 < 0)) then (
      (S_impl_decimal (IntKind.wrap .i64 (Int.tdiv p0 10))).bind fun y4 =>
      (S_impl_decimal (IntKind.wrap .i64 (0 - (Int.tmod p0 10)))).bind fun y5 =>
      bif (decide (((ByteArray.size y4.1) + (ByteArray.size y5.1)) ≤ 9223372036854775807)) then
      some ((y4.1 ++ y5.1), ()) else none) else
    bif (decide (p0 < 10)) then (
      some ((Utf8.encode (IntKind.wrap .i32 (IntKind.wrap .i64 (48 + p0)))), ())) else
    (S_impl_decimal (IntKind.wrap .i64 (Int.tdiv p0 10))).bind fun y3 =>
    bif (decide (((ByteArray.size y3.1) + (ByteArray.size (Utf8.encode (IntKind.wrap .i32 (IntKind.wrap .i64 (48 + (Int.tmod p0 10))))))) ≤ 9223372036854775807)) then
    some ((y3.1 ++ (Utf8.encode (IntKind.wrap .i32 (IntKind.wrap .i64 (48 + (Int.tmod p0 10)))))), ()) else none) else
  bif (decide (p0 < 0)) then (
    (S_impl_decimal (IntKind.wrap .i64 (Int.tdiv p0 10))).bind fun y1 =>
    (S_impl_decimal (IntKind.wrap .i64 (0 - (Int.tmod p0 10)))).bind fun y2 =>
    bif (decide (((ByteArray.size y1.1) + (ByteArray.size y2.1)) ≤ 9223372036854775807)) then
    some ((y1.1 ++ y2.1), ()) else none) else
  bif (decide (p0 < 10)) then (
    some ((Utf8.encode (IntKind.wrap .i32 (IntKind.wrap .i64 (48 + p0)))), ())) else
  (S_impl_decimal (IntKind.wrap .i64 (Int.tdiv p0 10))).bind fun y0 =>
  bif (decide (((ByteArray.size y0.1) + (ByteArray.size (Utf8.encode (IntKind.wrap .i32 (IntKind.wrap .i64 (48 + (Int.tmod p0 10))))))) ≤ 9223372036854775807)) then
  some ((y0.1 ++ (Utf8.encode (IntKind.wrap .i32 (IntKind.wrap .i64 (48 + (Int.tmod p0 10)))))), ()) else none
noncomputable def impl_decimal.code : Code := (Go.Proofs.Tryd.f38.body).getD .skip
noncomputable def impl_decimal.E (S_impl_decimal : (Int) → Option ((ByteArray) × Unit)) : Env ((ByteArray) × Unit) := mkE tt (fun _ => [row 38 sg_impl_decimal S_impl_decimal]) [] [] sg_impl_decimal Go.Proofs.Tryd.f38.results.toList
theorem impl_decimal.body_eq (S_impl_decimal : (Int) → Option ((ByteArray) × Unit)) (again : List Item → St → Option ((ByteArray) × Unit)) (p0 : Int) : eval0 (impl_decimal.E S_impl_decimal) again impl_decimal.code 41 (encs 0 (Sig.args sg_impl_decimal) p0).1 (encs 0 (Sig.args sg_impl_decimal) p0).2 = impl_decimal.body S_impl_decimal  p0 := by kernel_rfl
theorem impl_decimal.con (S_impl_decimal : (Int) → Option ((ByteArray) × Unit)) (h_impl_decimal : Con Go.Proofs.Tryd.prog 38 sg_impl_decimal S_impl_decimal)  : Con Go.Proofs.Tryd.prog 38 sg_impl_decimal (fun p0 => impl_decimal.body S_impl_decimal  p0) :=
  Con.of_eval (t := fun _ => [row 38 sg_impl_decimal S_impl_decimal]) mixed ttok (fun _ => (.cons callable38 h_impl_decimal .nil)) Go.Proofs.Tryd.func38 (c := impl_decimal.code) (by kernel_rfl) (fun p0 y h => ⟨0, (impl_decimal.body_eq S_impl_decimal _ p0).trans h⟩)

/-! ### impl_parser_text -/
inductive impl_parser_text.L where
  | L0 (x0 : ByteArray) (x1 : Bool) (x2 : List Int)
def impl_parser_text.step  (rec : impl_parser_text.L → Option ((ByteArray) × (ByteArray × Bool))) : impl_parser_text.L → Option ((ByteArray) × (ByteArray × Bool))
  | .L0 x0 x1 x2 =>
    bif x1 then (
      bif (Bool.not (seq_ x0 (bs []))) then (
        bif (decide (0 < (((ByteArray.size x0) : Nat) : Int))) then
        bif (decide ((((ByteArray.size x0) : Nat) : Int) ≤ (((ByteArray.size x0) : Nat) : Int))) then
        bif (decide (1 ≤ (((ByteArray.size x0) : Nat) : Int))) then
        bif ((bt x0 0) == 34) then (
          some ((ofBytes x2), ((ByteArray.extract x0 1 (Int.toNat (((ByteArray.size x0) : Nat) : Int))), x1))) else
        bif ((bt x0 0) == 92) then (
          bif (Bool.not (seq_ (ByteArray.extract x0 1 (Int.toNat (((ByteArray.size x0) : Nat) : Int))) (bs []))) then (
            bif (decide (0 < (((ByteArray.size (ByteArray.extract x0 1 (Int.toNat (((ByteArray.size x0) : Nat) : Int)))) : Nat) : Int))) then
            bif (decide ((((ByteArray.size (ByteArray.extract x0 1 (Int.toNat (((ByteArray.size x0) : Nat) : Int)))) : Nat) : Int) ≤ (((ByteArray.size (ByteArray.extract x0 1 (Int.toNat (((ByteArray.size x0) : Nat) : Int)))) : Nat) : Int))) then
            bif (decide (1 ≤ (((ByteArray.size (ByteArray.extract x0 1 (Int.toNat (((ByteArray.size x0) : Nat) : Int)))) : Nat) : Int))) then
            bif (decide ((((List.length x2) + (List.length ((bt (ByteArray.extract x0 1 (Int.toNat (((ByteArray.size x0) : Nat) : Int))) 0) :: []))) * 1) ≤ 140737488355328)) then
            rec (.L0 (ByteArray.extract (ByteArray.extract x0 1 (Int.toNat (((ByteArray.size x0) : Nat) : Int))) 1 (Int.toNat (((ByteArray.size (ByteArray.extract x0 1 (Int.toNat (((ByteArray.size x0) : Nat) : Int)))) : Nat) : Int))) x1 (x2 ++ ((bt (ByteArray.extract x0 1 (Int.toNat (((ByteArray.size x0) : Nat) : Int))) 0) :: []))) else none else none else none else none) else
          bif (decide ((((List.length x2) + (List.length ((bt x0 0) :: []))) * 1) ≤ 140737488355328)) then
          rec (.L0 (ByteArray.extract x0 1 (Int.toNat (((ByteArray.size x0) : Nat) : Int))) x1 (x2 ++ ((bt x0 0) :: []))) else none) else
        bif (decide ((((List.length x2) + (List.length ((bt x0 0) :: []))) * 1) ≤ 140737488355328)) then
        rec (.L0 (ByteArray.extract x0 1 (Int.toNat (((ByteArray.size x0) : Nat) : Int))) x1 (x2 ++ ((bt x0 0) :: []))) else none else none else none else none) else
      some ((bs []), (x0, false))) else
    some ((bs []), (x0, false))
def impl_parser_text.body  (rec : impl_parser_text.L → Option ((ByteArray) × (ByteArray × Bool))) (p0a : ByteArray) (p0b : Bool) : Option ((ByteArray) × (ByteArray × Bool)) :=
  rec (.L0 p0a p0b [])
noncomputable def impl_parser_text.code : Code := (Go.Proofs.Tryd.f45.body).getD .skip
noncomputable def impl_parser_text.E  : Env ((ByteArray) × (ByteArray × Bool)) := mkE tt (fun _ => []) [(2, ⟨[0, 3], [], []⟩)] [] sg_impl_parser_text Go.Proofs.Tryd.f45.results.toList
noncomputable def impl_parser_text.dec : impl_parser_text.L → List Item × St
  | .L0 x0 x1 x2 => (itemsAt 2 impl_parser_text.code [], ⟨slotsAt 63 [(0, .ptr 0 0), (3, .own 1)], [.cells 42 [.str x0, .bool x1], .row 5 (.int .u8) x2]⟩)
theorem impl_parser_text.step_eq  (again : List Item → St → Option ((ByteArray) × (ByteArray × Bool))) : ∀ l, run1 (impl_parser_text.E ) again (impl_parser_text.dec l).1 (impl_parser_text.dec l).2 = impl_parser_text.step  (fun l => again (impl_parser_text.dec l).1 (impl_parser_text.dec l).2) l
  | .L0 x0 x1 x2 => by kernel_rfl
theorem impl_parser_text.body_eq  (again : List Item → St → Option ((ByteArray) × (ByteArray × Bool))) (p0a : ByteArray) (p0b : Bool) : eval0 (impl_parser_text.E ) again impl_parser_text.code 63 (encs 0 (Sig.args sg_impl_parser_text) (p0a, p0b)).1 (encs 0 (Sig.args sg_impl_parser_text) (p0a, p0b)).2 = impl_parser_text.body  (fun l => again (impl_parser_text.dec l).1 (impl_parser_text.dec l).2) p0a p0b := by kernel_rfl
theorem impl_parser_text.con   (n : Nat) : Con Go.Proofs.Tryd.prog 45 sg_impl_parser_text (fun (p0a, p0b) => impl_parser_text.body  (go (impl_parser_text.step ) n) p0a p0b) :=
  Con.of_eval (t := fun _ => []) mixed ttok (fun _ => .nil) Go.Proofs.Tryd.func45 (c := impl_parser_text.code) (by kernel_rfl) (fun (p0a, p0b) y h => ⟨n, (evalFn_go (impl_parser_text.step_eq ) (body := fun rec => impl_parser_text.body  rec p0a p0b) (fun again => impl_parser_text.body_eq  again p0a p0b) n).trans h⟩)

/-! ### spec_l4ReadKids -/
inductive spec_l4ReadKids.L where
  | L0 (x0 : Int) (x1 : ByteArray) (x2 : Int) (x3 : ByteArray) (x4 : Int) (x5 : Bool) (x6 : Int) (x7 : ByteArray) (x8 : Int) (x9 : Int) (x10 : ByteArray) (x11 : Int) (x12 : List ByteArray) (x13 : List GVal)
def spec_l4ReadKids.step (S_spec_l4Read : ((ByteArray × (Int × Bool)) × Int) → Option ((GVal) × (ByteArray × (Int × Bool)))) (S_spec_l4Take : ((ByteArray × (Int × Bool)) × ByteArray) → Option ((Bool) × (ByteArray × (Int × Bool)))) (S_spec_l4ReadWord : ((ByteArray × (Int × Bool))) → Option ((ByteArray) × (ByteArray × (Int × Bool)))) (rec : spec_l4ReadKids.L → Option ((GVal) × (ByteArray × (Int × Bool)))) : spec_l4ReadKids.L → Option ((GVal) × (ByteArray × (Int × Bool)))
  | .L0 x0 x1 x2 x3 x4 x5 x6 x7 x8 x9 x10 x11 x12 x13 =>
    bif (Bool.not x5) then (
      (S_spec_l4Take ((x3, (x4, x5)), x1)).bind fun y0 =>
      bif (Bool.not y0.1) then (
        bif (decide (0 < (((List.length x13) : Nat) : Int))) then (
          (S_spec_l4Take ((y0.2.1, (y0.2.2.1, y0.2.2.2)), (bs [44]))).bind fun y6 =>
          bif (Bool.not y6.1) then (
            bif (x0 == 5) then (
              (S_spec_l4ReadWord (y6.2.1, (y6.2.2.1, true))).bind fun y13 =>
              bif (decide ((((List.length x12) + (List.length (y13.1 :: []))) * 16) ≤ 140737488355328)) then
              bif y13.2.2.2 then (
                (S_spec_l4Read ((y13.2.1, (y13.2.2.1, true)), (IntKind.wrap .i64 (x2 - 1)))).bind fun y16 =>
                bif (decide ((((List.length x13) + (List.length ((re y16.1) :: []))) * 80) ≤ 140737488355328)) then
                bif y16.2.2.2 then (
                  rec (.L0 x0 x1 x2 y16.2.1 y16.2.2.1 true x6 x7 x8 x9 x10 x11 (x12 ++ (y13.1 :: [])) (x13 ++ ((re y16.1) :: [])))) else
                rec (.L0 x0 x1 x2 y16.2.1 y16.2.2.1 (decide (300 < (((List.length (x13 ++ ((re y16.1) :: []))) : Nat) : Int))) x6 x7 x8 x9 x10 x11 (x12 ++ (y13.1 :: [])) (x13 ++ ((re y16.1) :: []))) else none) else
              (S_spec_l4Take ((y13.2.1, (y13.2.2.1, y13.2.2.2)), (bs [58]))).bind fun y14 =>
              (S_spec_l4Read ((y14.2.1, (y14.2.2.1, (Bool.not y14.1))), (IntKind.wrap .i64 (x2 - 1)))).bind fun y15 =>
              bif (decide ((((List.length x13) + (List.length ((re y15.1) :: []))) * 80) ≤ 140737488355328)) then
              bif y15.2.2.2 then (
                rec (.L0 x0 x1 x2 y15.2.1 y15.2.2.1 true x6 x7 x8 x9 x10 x11 (x12 ++ (y13.1 :: [])) (x13 ++ ((re y15.1) :: [])))) else
              rec (.L0 x0 x1 x2 y15.2.1 y15.2.2.1 (decide (300 < (((List.length (x13 ++ ((re y15.1) :: []))) : Nat) : Int))) x6 x7 x8 x9 x10 x11 (x12 ++ (y13.1 :: [])) (x13 ++ ((re y15.1) :: []))) else none else none) else
            (S_spec_l4Read ((y6.2.1, (y6.2.2.1, true)), (IntKind.wrap .i64 (x2 - 1)))).bind fun y12 =>
            bif (decide ((((List.length x13) + (List.length ((re y12.1) :: []))) * 80) ≤ 140737488355328)) then
            bif y12.2.2.2 then (
              rec (.L0 x0 x1 x2 y12.2.1 y12.2.2.1 true x6 x7 x8 x9 x10 x11 x12 (x13 ++ ((re y12.1) :: [])))) else
            rec (.L0 x0 x1 x2 y12.2.1 y12.2.2.1 (decide (300 < (((List.length (x13 ++ ((re y12.1) :: []))) : Nat) : Int))) x6 x7 x8 x9 x10 x11 x12 (x13 ++ ((re y12.1) :: []))) else none) else
          bif (x0 == 5) then (
            (S_spec_l4ReadWord (y6.2.1, (y6.2.2.1, y6.2.2.2))).bind fun y8 =>
            bif (decide ((((List.length x12) + (List.length (y8.1 :: []))) * 16) ≤ 140737488355328)) then
            bif y8.2.2.2 then (
              (S_spec_l4Read ((y8.2.1, (y8.2.2.1, true)), (IntKind.wrap .i64 (x2 - 1)))).bind fun y11 =>
              bif (decide ((((List.length x13) + (List.length ((re y11.1) :: []))) * 80) ≤ 140737488355328)) then
              bif y11.2.2.2 then (
                rec (.L0 x0 x1 x2 y11.2.1 y11.2.2.1 true x6 x7 x8 x9 x10 x11 (x12 ++ (y8.1 :: [])) (x13 ++ ((re y11.1) :: [])))) else
              rec (.L0 x0 x1 x2 y11.2.1 y11.2.2.1 (decide (300 < (((List.length (x13 ++ ((re y11.1) :: []))) : Nat) : Int))) x6 x7 x8 x9 x10 x11 (x12 ++ (y8.1 :: [])) (x13 ++ ((re y11.1) :: []))) else none) else
            (S_spec_l4Take ((y8.2.1, (y8.2.2.1, y8.2.2.2)), (bs [58]))).bind fun y9 =>
            (S_spec_l4Read ((y9.2.1, (y9.2.2.1, (Bool.not y9.1))), (IntKind.wrap .i64 (x2 - 1)))).bind fun y10 =>
            bif (decide ((((List.length x13) + (List.length ((re y10.1) :: []))) * 80) ≤ 140737488355328)) then
            bif y10.2.2.2 then (
              rec (.L0 x0 x1 x2 y10.2.1 y10.2.2.1 true x6 x7 x8 x9 x10 x11 (x12 ++ (y8.1 :: [])) (x13 ++ ((re y10.1) :: [])))) else
            rec (.L0 x0 x1 x2 y10.2.1 y10.2.2.1 (decide (300 < (((List.length (x13 ++ ((re y10.1) :: []))) : Nat) : Int))) x6 x7 x8 x9 x10 x11 (x12 ++ (y8.1 :: [])) (x13 ++ ((re y10.1) :: []))) else none else none) else
          (S_spec_l4Read ((y6.2.1, (y6.2.2.1, y6.2.2.2)), (IntKind.wrap .i64 (x2 - 1)))).bind fun y7 =>
          bif (decide ((((List.length x13) + (List.length ((re y7.1) :: []))) * 80) ≤ 140737488355328)) then
          bif y7.2.2.2 then (
            rec (.L0 x0 x1 x2 y7.2.1 y7.2.2.1 true x6 x7 x8 x9 x10 x11 x12 (x13 ++ ((re y7.1) :: [])))) else
          rec (.L0 x0 x1 x2 y7.2.1 y7.2.2.1 (decide (300 < (((List.length (x13 ++ ((re y7.1) :: []))) : Nat) : Int))) x6 x7 x8 x9 x10 x11 x12 (x13 ++ ((re y7.1) :: []))) else none) else
        bif (x0 == 5) then (
          (S_spec_l4ReadWord (y0.2.1, (y0.2.2.1, y0.2.2.2))).bind fun y2 =>
          bif (decide ((((List.length x12) + (List.length (y2.1 :: []))) * 16) ≤ 140737488355328)) then
          bif y2.2.2.2 then (
            (S_spec_l4Read ((y2.2.1, (y2.2.2.1, true)), (IntKind.wrap .i64 (x2 - 1)))).bind fun y5 =>
            bif (decide ((((List.length x13) + (List.length ((re y5.1) :: []))) * 80) ≤ 140737488355328)) then
            bif y5.2.2.2 then (
              rec (.L0 x0 x1 x2 y5.2.1 y5.2.2.1 true x6 x7 x8 x9 x10 x11 (x12 ++ (y2.1 :: [])) (x13 ++ ((re y5.1) :: [])))) else
            rec (.L0 x0 x1 x2 y5.2.1 y5.2.2.1 (decide (300 < (((List.length (x13 ++ ((re y5.1) :: []))) : Nat) : Int))) x6 x7 x8 x9 x10 x11 (x12 ++ (y2.1 :: [])) (x13 ++ ((re y5.1) :: []))) else none) else
          (S_spec_l4Take ((y2.2.1, (y2.2.2.1, y2.2.2.2)), (bs [58]))).bind fun y3 =>
          (S_spec_l4Read ((y3.2.1, (y3.2.2.1, (Bool.not y3.1))), (IntKind.wrap .i64 (x2 - 1)))).bind fun y4 =>
          bif (decide ((((List.length x13) + (List.length ((re y4.1) :: []))) * 80) ≤ 140737488355328)) then
          bif y4.2.2.2 then (
            rec (.L0 x0 x1 x2 y4.2.1 y4.2.2.1 true x6 x7 x8 x9 x10 x11 (x12 ++ (y2.1 :: [])) (x13 ++ ((re y4.1) :: [])))) else
          rec (.L0 x0 x1 x2 y4.2.1 y4.2.2.1 (decide (300 < (((List.length (x13 ++ ((re y4.1) :: []))) : Nat) : Int))) x6 x7 x8 x9 x10 x11 (x12 ++ (y2.1 :: [])) (x13 ++ ((re y4.1) :: []))) else none else none) else
        (S_spec_l4Read ((y0.2.1, (y0.2.2.1, y0.2.2.2)), (IntKind.wrap .i64 (x2 - 1)))).bind fun y1 =>
        bif (decide ((((List.length x13) + (List.length ((re y1.1) :: []))) * 80) ≤ 140737488355328)) then
        bif y1.2.2.2 then (
          rec (.L0 x0 x1 x2 y1.2.1 y1.2.2.1 true x6 x7 x8 x9 x10 x11 x12 (x13 ++ ((re y1.1) :: [])))) else
        rec (.L0 x0 x1 x2 y1.2.1 y1.2.2.1 (decide (300 < (((List.length (x13 ++ ((re y1.1) :: []))) : Nat) : Int))) x6 x7 x8 x9 x10 x11 x12 (x13 ++ ((re y1.1) :: []))) else none) else
      some ((GVal.mk x9 x10 x11 x12 x13), (y0.2.1, (y0.2.2.1, y0.2.2.2)))) else
    some ((GVal.mk x9 x10 x11 x12 x13), (x3, (x4, x5)))
def spec_l4ReadKids.body (S_spec_l4Read : ((ByteArray × (Int × Bool)) × Int) → Option ((GVal) × (ByteArray × (Int × Bool)))) (S_spec_l4Take : ((ByteArray × (Int × Bool)) × ByteArray) → Option ((Bool) × (ByteArray × (Int × Bool)))) (S_spec_l4ReadWord : ((ByteArray × (Int × Bool))) → Option ((ByteArray) × (ByteArray × (Int × Bool)))) (rec : spec_l4ReadKids.L → Option ((GVal) × (ByteArray × (Int × Bool)))) (p0a : ByteArray) (p0ba : Int) (p0bb : Bool) (p1 : Int) (p2 : ByteArray) (p3 : Int) : Option ((GVal) × (ByteArray × (Int × Bool))) :=
  rec (.L0 p1 p2 p3 p0a p0ba p0bb 0 (bs []) 0 p1 (bs []) 0 [] [])
noncomputable def spec_l4ReadKids.code : Code := (Go.Proofs.Tryd.f51.body).getD .skip
noncomputable def spec_l4ReadKids.E (S_spec_l4Read : ((ByteArray × (Int × Bool)) × Int) → Option ((GVal) × (ByteArray × (Int × Bool)))) (S_spec_l4Take : ((ByteArray × (Int × Bool)) × ByteArray) → Option ((Bool) × (ByteArray × (Int × Bool)))) (S_spec_l4ReadWord : ((ByteArray × (Int × Bool))) → Option ((ByteArray) × (ByteArray × (Int × Bool)))) : Env ((GVal) × (ByteArray × (Int × Bool))) := mkE tt (fun _ => [row 25 sg_spec_l4Read S_spec_l4Read, row 49 sg_spec_l4Take S_spec_l4Take, row 74 sg_spec_l4ReadWord S_spec_l4ReadWord]) [(2, ⟨[0, 1, 2, 3, 8, 9], [], [(9, 3, .own 9 .str), (9, 4, .own 27 (.gval 9 27))]⟩)] [] sg_spec_l4ReadKids Go.Proofs.Tryd.f51.results.toList
noncomputable def spec_l4ReadKids.dec : spec_l4ReadKids.L → List Item × St
  | .L0 x0 x1 x2 x3 x4 x5 x6 x7 x8 x9 x10 x11 x12 x13 => (itemsAt 2 spec_l4ReadKids.code [], ⟨slotsAt 79 [(0, .ptr 0 0), (1, .int .i64 x0), (2, .str x1), (3, .int .i64 x2), (8, .ptr 1 0), (9, .ptr 2 0)], [.cells 48 [.str x3, .int .i64 x4, .bool x5], .cells 27 [.int .i64 x6, .str x7, .int .i64 x8, .nils, .nils], .cells 27 [.int .i64 x9, .str x10, .int .i64 x11, .own 3, .own 4], .row 9 .str x12, .row 27 (.gval 9 27) x13]⟩)
theorem spec_l4ReadKids.step_eq (S_spec_l4Read : ((ByteArray × (Int × Bool)) × Int) → Option ((GVal) × (ByteArray × (Int × Bool)))) (S_spec_l4Take : ((ByteArray × (Int × Bool)) × ByteArray) → Option ((Bool) × (ByteArray × (Int × Bool)))) (S_spec_l4ReadWord : ((ByteArray × (Int × Bool))) → Option ((ByteArray) × (ByteArray × (Int × Bool)))) (again : List Item → St → Option ((GVal) × (ByteArray × (Int × Bool)))) : ∀ l, run1 (spec_l4ReadKids.E S_spec_l4Read S_spec_l4Take S_spec_l4ReadWord) again (spec_l4ReadKids.dec l).1 (spec_l4ReadKids.dec l).2 = spec_l4ReadKids.step S_spec_l4Read S_spec_l4Take S_spec_l4ReadWord (fun l => again (spec_l4ReadKids.dec l).1 (spec_l4ReadKids.dec l).2) l
  | .L0 x0 x1 x2 x3 x4 x5 x6 x7 x8 x9 x10 x11 x12 x13 => by kernel_rfl
theorem spec_l4ReadKids.body_eq (S_spec_l4Read : ((ByteArray × (Int × Bool)) × Int) → Option ((GVal) × (ByteArray × (Int × Bool)))) (S_spec_l4Take : ((ByteArray × (Int × Bool)) × ByteArray) → Option ((Bool) × (ByteArray × (Int × Bool)))) (S_spec_l4ReadWord : ((ByteArray × (Int × Bool))) → Option ((ByteArray) × (ByteArray × (Int × Bool)))) (again : List Item → St → Option ((GVal) × (ByteArray × (Int × Bool)))) (p0a : ByteArray) (p0ba : Int) (p0bb : Bool) (p1 : Int) (p2 : ByteArray) (p3 : Int) : eval0 (spec_l4ReadKids.E S_spec_l4Read S_spec_l4Take S_spec_l4ReadWord) again spec_l4ReadKids.code 79 (encs 0 (Sig.args sg_spec_l4ReadKids) ((p0a, (p0ba, p0bb)), p1, p2, p3)).1 (encs 0 (Sig.args sg_spec_l4ReadKids) ((p0a, (p0ba, p0bb)), p1, p2, p3)).2 = spec_l4ReadKids.body S_spec_l4Read S_spec_l4Take S_spec_l4ReadWord (fun l => again (spec_l4ReadKids.dec l).1 (spec_l4ReadKids.dec l).2) p0a p0ba p0bb p1 p2 p3 := by kernel_rfl
theorem spec_l4ReadKids.con (S_spec_l4Read : ((ByteArray × (Int × Bool)) × Int) → Option ((GVal) × (ByteArray × (Int × Bool)))) (S_spec_l4Take : ((ByteArray × (Int × Bool)) × ByteArray) → Option ((Bool) × (ByteArray × (Int × Bool)))) (S_spec_l4ReadWord : ((ByteArray × (Int × Bool))) → Option ((ByteArray) × (ByteArray × (Int × Bool)))) (h_spec_l4Read : Con Go.Proofs.Tryd.prog 25 sg_spec_l4Read S_spec_l4Read) (h_spec_l4Take : Con Go.Proofs.Tryd.prog 49 sg_spec_l4Take S_spec_l4Take) (h_spec_l4ReadWord : Con Go.Proofs.Tryd.prog 74 sg_spec_l4ReadWord S_spec_l4ReadWord) (n : Nat) : Con Go.Proofs.Tryd.prog 51 sg_spec_l4ReadKids (fun ((p0a, (p0ba, p0bb)), p1, p2, p3) => spec_l4ReadKids.body S_spec_l4Read S_spec_l4Take S_spec_l4ReadWord (go (spec_l4ReadKids.step S_spec_l4Read S_spec_l4Take S_spec_l4ReadWord) n) p0a p0ba p0bb p1 p2 p3) :=
  Con.of_eval (t := fun _ => [row 25 sg_spec_l4Read S_spec_l4Read, row 49 sg_spec_l4Take S_spec_l4Take, row 74 sg_spec_l4ReadWord S_spec_l4ReadWord]) mixed ttok (fun _ => (.cons callable25 h_spec_l4Read (.cons callable49 h_spec_l4Take (.cons callable74 h_spec_l4ReadWord .nil)))) Go.Proofs.Tryd.func51 (c := spec_l4ReadKids.code) (by kernel_rfl) (fun ((p0a, (p0ba, p0bb)), p1, p2, p3) y h => ⟨n, (evalFn_go (spec_l4ReadKids.step_eq S_spec_l4Read S_spec_l4Take S_spec_l4ReadWord) (body := fun rec => spec_l4ReadKids.body S_spec_l4Read S_spec_l4Take S_spec_l4ReadWord rec p0a p0ba p0bb p1 p2 p3) (fun again => spec_l4ReadKids.body_eq S_spec_l4Read S_spec_l4Take S_spec_l4ReadWord again p0a p0ba p0bb p1 p2 p3) n).trans h⟩)

/-! ### spec_l1Draw -/
inductive spec_l1Draw.L where
  | L0 (x0 : List (ByteArray × ByteArray)) (x1 : Int) (x2 : List Int) (x3 : Int) (x4 : Int)
def spec_l1Draw.step (S_spec_l1Below : (((List Int) × (Int × Int)) × Int) → Option ((Int) × ((List Int) × (Int × Int)))) (S_spec_LabelSet : ((List (ByteArray × ByteArray)) × ByteArray × ByteArray) → Option (((List (ByteArray × ByteArray)) × Bool) × Unit)) (S_spec_l1Name : (((List Int) × (Int × Int))) → Option ((ByteArray) × ((List Int) × (Int × Int)))) (rec : spec_l1Draw.L → Option (((List (ByteArray × ByteArray))) × ((List Int) × (Int × Int)))) : spec_l1Draw.L → Option (((List (ByteArray × ByteArray))) × ((List Int) × (Int × Int)))
  | .L0 x0 x1 x2 x3 x4 =>
    bif (decide (0 < x1)) then (
      (S_spec_l1Name (x2, (x3, x4))).bind fun y0 =>
      (S_spec_l1Name (y0.2.1, (y0.2.2.1, y0.2.2.2))).bind fun y1 =>
      (S_spec_LabelSet (x0, (y0.1, y1.1))).bind fun y2 =>
      rec (.L0 y2.1.1 (IntKind.wrap .i64 (x1 - 1)) y1.2.1 y1.2.2.1 y1.2.2.2)) else
    some (x0, (x2, (x3, x4)))
def spec_l1Draw.body (S_spec_l1Below : (((List Int) × (Int × Int)) × Int) → Option ((Int) × ((List Int) × (Int × Int)))) (S_spec_LabelSet : ((List (ByteArray × ByteArray)) × ByteArray × ByteArray) → Option (((List (ByteArray × ByteArray)) × Bool) × Unit)) (S_spec_l1Name : (((List Int) × (Int × Int))) → Option ((ByteArray) × ((List Int) × (Int × Int)))) (rec : spec_l1Draw.L → Option (((List (ByteArray × ByteArray))) × ((List Int) × (Int × Int)))) (p0a : (List Int)) (p0ba : Int) (p0bb : Int) (p1 : Int) : Option (((List (ByteArray × ByteArray))) × ((List Int) × (Int × Int))) :=
  (S_spec_l1Below ((p0a, (p0ba, p0bb)), p1)).bind fun y0 =>
  rec (.L0 [] y0.1 y0.2.1 y0.2.2.1 y0.2.2.2)
noncomputable def spec_l1Draw.code : Code := (Go.Proofs.Tryd.f58.body).getD .skip
noncomputable def spec_l1Draw.E (S_spec_l1Below : (((List Int) × (Int × Int)) × Int) → Option ((Int) × ((List Int) × (Int × Int)))) (S_spec_LabelSet : ((List (ByteArray × ByteArray)) × ByteArray × ByteArray) → Option (((List (ByteArray × ByteArray)) × Bool) × Unit)) (S_spec_l1Name : (((List Int) × (Int × Int))) → Option ((ByteArray) × ((List Int) × (Int × Int)))) : Env (((List (ByteArray × ByteArray))) × ((List Int) × (Int × Int))) := mkE tt (fun _ => [row 36 sg_spec_l1Below S_spec_l1Below, row 75 sg_spec_LabelSet S_spec_LabelSet, row 76 sg_spec_l1Name S_spec_l1Name]) [(3, ⟨[0, 5, 6], [(5, .dat (.slice 77 (.pair .str .str)))], []⟩)] [] sg_spec_l1Draw Go.Proofs.Tryd.f58.results.toList
noncomputable def spec_l1Draw.dec : spec_l1Draw.L → List Item × St
  | .L0 x0 x1 x2 x3 x4 => (itemsAt 3 spec_l1Draw.code [], ⟨slotsAt 25 [(0, .ptr 0 0), (5, .slc 77 (.pair .str .str) x0), (6, .int .i64 x1)], [.cells 54 [.slc 5 (.int .u8) x2, .int .i64 x3, .int .i64 x4]]⟩)
theorem spec_l1Draw.step_eq (S_spec_l1Below : (((List Int) × (Int × Int)) × Int) → Option ((Int) × ((List Int) × (Int × Int)))) (S_spec_LabelSet : ((List (ByteArray × ByteArray)) × ByteArray × ByteArray) → Option (((List (ByteArray × ByteArray)) × Bool) × Unit)) (S_spec_l1Name : (((List Int) × (Int × Int))) → Option ((ByteArray) × ((List Int) × (Int × Int)))) (again : List Item → St → Option (((List (ByteArray × ByteArray))) × ((List Int) × (Int × Int)))) : ∀ l, run1 (spec_l1Draw.E S_spec_l1Below S_spec_LabelSet S_spec_l1Name) again (spec_l1Draw.dec l).1 (spec_l1Draw.dec l).2 = spec_l1Draw.step S_spec_l1Below S_spec_LabelSet S_spec_l1Name (fun l => again (spec_l1Draw.dec l).1 (spec_l1Draw.dec l).2) l
  | .L0 x0 x1 x2 x3 x4 => by kernel_rfl
theorem spec_l1Draw.body_eq (S_spec_l1Below : (((List Int) × (Int × Int)) × Int) → Option ((Int) × ((List Int) × (Int × Int)))) (S_spec_LabelSet : ((List (ByteArray × ByteArray)) × ByteArray × ByteArray) → Option (((List (ByteArray × ByteArray)) × Bool) × Unit)) (S_spec_l1Name : (((List Int) × (Int × Int))) → Option ((ByteArray) × ((List Int) × (Int × Int)))) (again : List Item → St → Option (((List (ByteArray × ByteArray))) × ((List Int) × (Int × Int)))) (p0a : (List Int)) (p0ba : Int) (p0bb : Int) (p1 : Int) : eval0 (spec_l1Draw.E S_spec_l1Below S_spec_LabelSet S_spec_l1Name) again spec_l1Draw.code 25 (encs 0 (Sig.args sg_spec_l1Draw) ((p0a, (p0ba, p0bb)), p1)).1 (encs 0 (Sig.args sg_spec_l1Draw) ((p0a, (p0ba, p0bb)), p1)).2 = spec_l1Draw.body S_spec_l1Below S_spec_LabelSet S_spec_l1Name (fun l => again (spec_l1Draw.dec l).1 (spec_l1Draw.dec l).2) p0a p0ba p0bb p1 := by kernel_rfl
theorem spec_l1Draw.con (S_spec_l1Below : (((List Int) × (Int × Int)) × Int) → Option ((Int) × ((List Int) × (Int × Int)))) (S_spec_LabelSet : ((List (ByteArray × ByteArray)) × ByteArray × ByteArray) → Option (((List (ByteArray × ByteArray)) × Bool) × Unit)) (S_spec_l1Name : (((List Int) × (Int × Int))) → Option ((ByteArray) × ((List Int) × (Int × Int)))) (h_spec_l1Below : Con Go.Proofs.Tryd.prog 36 sg_spec_l1Below S_spec_l1Below) (h_spec_LabelSet : Con Go.Proofs.Tryd.prog 75 sg_spec_LabelSet S_spec_LabelSet) (h_spec_l1Name : Con Go.Proofs.Tryd.prog 76 sg_spec_l1Name S_spec_l1Name) (n : Nat) : Con Go.Proofs.Tryd.prog 58 sg_spec_l1Draw (fun ((p0a, (p0ba, p0bb)), p1) => spec_l1Draw.body S_spec_l1Below S_spec_LabelSet S_spec_l1Name (go (spec_l1Draw.step S_spec_l1Below S_spec_LabelSet S_spec_l1Name) n) p0a p0ba p0bb p1) :=
  Con.of_eval (t := fun _ => [row 36 sg_spec_l1Below S_spec_l1Below, row 75 sg_spec_LabelSet S_spec_LabelSet, row 76 sg_spec_l1Name S_spec_l1Name]) mixed ttok (fun _ => (.cons callable36 h_spec_l1Below (.cons callable75 h_spec_LabelSet (.cons callable76 h_spec_l1Name .nil)))) Go.Proofs.Tryd.func58 (c := spec_l1Draw.code) (by kernel_rfl) (fun ((p0a, (p0ba, p0bb)), p1) y h => ⟨n, (evalFn_go (spec_l1Draw.step_eq S_spec_l1Below S_spec_LabelSet S_spec_l1Name) (body := fun rec => spec_l1Draw.body S_spec_l1Below S_spec_LabelSet S_spec_l1Name rec p0a p0ba p0bb p1) (fun again => spec_l1Draw.body_eq S_spec_l1Below S_spec_LabelSet S_spec_l1Name again p0a p0ba p0bb p1) n).trans h⟩)

/-! ### impl_namesOk -/
inductive impl_namesOk.L where
  | L0 (x0 : List ByteArray) (x1 : Int) (x2 : List ByteArray) (x3 : Int) (x4 : Int)
def impl_namesOk.step (S_impl_NameOk : (ByteArray) → Option ((Bool) × Unit)) (rec : impl_namesOk.L → Option ((Bool) × Unit)) : impl_namesOk.L → Option ((Bool) × Unit)
  | .L0 x0 x1 x2 x3 x4 =>
    bif (decide (x4 < x3)) then (
      bif (decide (0 ≤ x4)) then
      bif (decide (x4 < (((List.length x2) : Nat) : Int))) then
      (S_impl_NameOk (List.getD x2 (Int.toNat x4) (bs []))).bind fun y0 =>
      bif (Bool.not y0.1) then (
        some (false, ())) else
      bif (decide (0 < x4)) then (
        bif (decide (0 ≤ (IntKind.wrap .i64 (x4 - 1)))) then
        bif (decide ((IntKind.wrap .i64 (x4 - 1)) < (((List.length x0) : Nat) : Int))) then
        bif (Bool.not (slt (List.getD x0 (Int.toNat (IntKind.wrap .i64 (x4 - 1))) (bs [])) (List.getD x2 (Int.toNat x4) (bs [])))) then (
          some (false, ())) else
        rec (.L0 x0 x1 x2 x3 (IntKind.wrap .i64 (x4 + 1))) else none else none) else
      rec (.L0 x0 x1 x2 x3 (IntKind.wrap .i64 (x4 + 1))) else none else none) else
    some ((decide ((((List.length x0) : Nat) : Int) ≤ x1)), ())
def impl_namesOk.body (S_impl_NameOk : (ByteArray) → Option ((Bool) × Unit)) (rec : impl_namesOk.L → Option ((Bool) × Unit)) (p0 : (List ByteArray)) (p1 : Int) : Option ((Bool) × Unit) :=
  rec (.L0 p0 p1 p0 (((List.length p0) : Nat) : Int) 0)
noncomputable def impl_namesOk.code : Code := (Go.Proofs.Tryd.f68.body).getD .skip
noncomputable def impl_namesOk.E (S_impl_NameOk : (ByteArray) → Option ((Bool) × Unit)) : Env ((Bool) × Unit) := mkE tt (fun _ => [row 80 sg_impl_NameOk S_impl_NameOk]) [(2, ⟨[0, 1, 7, 8, 9], [], []⟩)] [] sg_impl_namesOk Go.Proofs.Tryd.f68.results.toList
noncomputable def impl_namesOk.dec : impl_namesOk.L → List Item × St
  | .L0 x0 x1 x2 x3 x4 => (itemsAt 2 impl_namesOk.code [], ⟨slotsAt 35 [(0, .slc 9 .str x0), (1, .int .i64 x1), (7, .slc 9 .str x2), (8, .int .i64 x3), (9, .int .i64 x4)], []⟩)
theorem impl_namesOk.step_eq (S_impl_NameOk : (ByteArray) → Option ((Bool) × Unit)) (again : List Item → St → Option ((Bool) × Unit)) : ∀ l, run1 (impl_namesOk.E S_impl_NameOk) again (impl_namesOk.dec l).1 (impl_namesOk.dec l).2 = impl_namesOk.step S_impl_NameOk (fun l => again (impl_namesOk.dec l).1 (impl_namesOk.dec l).2) l
  | .L0 x0 x1 x2 x3 x4 => by kernel_rfl
theorem impl_namesOk.body_eq (S_impl_NameOk : (ByteArray) → Option ((Bool) × Unit)) (again : List Item → St → Option ((Bool) × Unit)) (p0 : (List ByteArray)) (p1 : Int) : eval0 (impl_namesOk.E S_impl_NameOk) again impl_namesOk.code 35 (encs 0 (Sig.args sg_impl_namesOk) (p0, p1)).1 (encs 0 (Sig.args sg_impl_namesOk) (p0, p1)).2 = impl_namesOk.body S_impl_NameOk (fun l => again (impl_namesOk.dec l).1 (impl_namesOk.dec l).2) p0 p1 := by kernel_rfl
theorem impl_namesOk.con (S_impl_NameOk : (ByteArray) → Option ((Bool) × Unit)) (h_impl_NameOk : Con Go.Proofs.Tryd.prog 80 sg_impl_NameOk S_impl_NameOk) (n : Nat) : Con Go.Proofs.Tryd.prog 68 sg_impl_namesOk (fun (p0, p1) => impl_namesOk.body S_impl_NameOk (go (impl_namesOk.step S_impl_NameOk) n) p0 p1) :=
  Con.of_eval (t := fun _ => [row 80 sg_impl_NameOk S_impl_NameOk]) mixed ttok (fun _ => (.cons callable80 h_impl_NameOk .nil)) Go.Proofs.Tryd.func68 (c := impl_namesOk.code) (by kernel_rfl) (fun (p0, p1) y h => ⟨n, (evalFn_go (impl_namesOk.step_eq S_impl_NameOk) (body := fun rec => impl_namesOk.body S_impl_NameOk rec p0 p1) (fun again => impl_namesOk.body_eq S_impl_NameOk again p0 p1) n).trans h⟩)

/-! ### impl_NameOk -/
inductive impl_NameOk.L where
  | L0 (x0 : ByteArray) (x1 : Int) (x2 : Int)
def impl_NameOk.step (S_impl_within : (Int × Int × Int) → Option ((Bool) × Unit)) (rec : impl_NameOk.L → Option ((Bool) × Unit)) : impl_NameOk.L → Option ((Bool) × Unit)
  | .L0 x0 x1 x2 =>
    bif (decide (x2 < x1)) then (
      bif (decide (0 ≤ x2)) then
      bif (decide (x2 < (((ByteArray.size x0) : Nat) : Int))) then
      bif (decide ((bt x0 x2) < 97)) then (
        bif (decide ((bt x0 x2) < 48)) then (
          bif ((bt x0 x2) != 45) then (
            some (false, ())) else
          rec (.L0 x0 x1 (IntKind.wrap .i64 (x2 + 1)))) else
        bif (decide (57 < (bt x0 x2))) then (
          bif ((bt x0 x2) != 45) then (
            some (false, ())) else
          rec (.L0 x0 x1 (IntKind.wrap .i64 (x2 + 1)))) else
        rec (.L0 x0 x1 (IntKind.wrap .i64 (x2 + 1)))) else
      bif (decide (122 < (bt x0 x2))) then (
        bif (decide ((bt x0 x2) < 48)) then (
          bif ((bt x0 x2) != 45) then (
            some (false, ())) else
          rec (.L0 x0 x1 (IntKind.wrap .i64 (x2 + 1)))) else
        bif (decide (57 < (bt x0 x2))) then (
          bif ((bt x0 x2) != 45) then (
            some (false, ())) else
          rec (.L0 x0 x1 (IntKind.wrap .i64 (x2 + 1)))) else
        rec (.L0 x0 x1 (IntKind.wrap .i64 (x2 + 1)))) else
      rec (.L0 x0 x1 (IntKind.wrap .i64 (x2 + 1))) else none else none) else
    (S_impl_within ((((ByteArray.size x0) : Nat) : Int), (1, 20))).bind fun y0 =>
    bif y0.1 then (
      bif (decide (0 < (((ByteArray.size x0) : Nat) : Int))) then
      bif ((bt x0 0) != 45) then (
        bif (decide (0 ≤ (IntKind.wrap .i64 ((((ByteArray.size x0) : Nat) : Int) - 1)))) then
        bif (decide ((IntKind.wrap .i64 ((((ByteArray.size x0) : Nat) : Int) - 1)) < (((ByteArray.size x0) : Nat) : Int))) then
        some (((bt x0 (IntKind.wrap .i64 ((((ByteArray.size x0) : Nat) : Int) - 1))) != 45), ()) else none else none) else
      some (false, ()) else none) else
    some (false, ())
def impl_NameOk.body (S_impl_within : (Int × Int × Int) → Option ((Bool) × Unit)) (rec : impl_NameOk.L → Option ((Bool) × Unit)) (p0 : ByteArray) : Option ((Bool) × Unit) :=
  rec (.L0 p0 (((ByteArray.size p0) : Nat) : Int) 0)
noncomputable def impl_NameOk.code : Code := (Go.Proofs.Tryd.f80.body).getD .skip
noncomputable def impl_NameOk.E (S_impl_within : (Int × Int × Int) → Option ((Bool) × Unit)) : Env ((Bool) × Unit) := mkE tt (fun _ => [row 67 sg_impl_within S_impl_within]) [(2, ⟨[0, 6, 7], [], []⟩)] [] sg_impl_NameOk Go.Proofs.Tryd.f80.results.toList
noncomputable def impl_NameOk.dec : impl_NameOk.L → List Item × St
  | .L0 x0 x1 x2 => (itemsAt 2 impl_NameOk.code [], ⟨slotsAt 48 [(0, .str x0), (6, .int .i64 x1), (7, .int .i64 x2)], []⟩)
theorem impl_NameOk.step_eq (S_impl_within : (Int × Int × Int) → Option ((Bool) × Unit)) (again : List Item → St → Option ((Bool) × Unit)) : ∀ l, run1 (impl_NameOk.E S_impl_within) again (impl_NameOk.dec l).1 (impl_NameOk.dec l).2 = impl_NameOk.step S_impl_within (fun l => again (impl_NameOk.dec l).1 (impl_NameOk.dec l).2) l
  | .L0 x0 x1 x2 => by kernel_rfl
theorem impl_NameOk.body_eq (S_impl_within : (Int × Int × Int) → Option ((Bool) × Unit)) (again : List Item → St → Option ((Bool) × Unit)) (p0 : ByteArray) : eval0 (impl_NameOk.E S_impl_within) again impl_NameOk.code 48 (encs 0 (Sig.args sg_impl_NameOk) p0).1 (encs 0 (Sig.args sg_impl_NameOk) p0).2 = impl_NameOk.body S_impl_within (fun l => again (impl_NameOk.dec l).1 (impl_NameOk.dec l).2) p0 := by kernel_rfl
theorem impl_NameOk.con (S_impl_within : (Int × Int × Int) → Option ((Bool) × Unit)) (h_impl_within : Con Go.Proofs.Tryd.prog 67 sg_impl_within S_impl_within) (n : Nat) : Con Go.Proofs.Tryd.prog 80 sg_impl_NameOk (fun p0 => impl_NameOk.body S_impl_within (go (impl_NameOk.step S_impl_within) n) p0) :=
  Con.of_eval (t := fun _ => [row 67 sg_impl_within S_impl_within]) mixed ttok (fun _ => (.cons callable67 h_impl_within .nil)) Go.Proofs.Tryd.func80 (c := impl_NameOk.code) (by kernel_rfl) (fun p0 y h => ⟨n, (evalFn_go (impl_NameOk.step_eq S_impl_within) (body := fun rec => impl_NameOk.body S_impl_within rec p0) (fun again => impl_NameOk.body_eq S_impl_within again p0) n).trans h⟩)

/-! ### stringslite_CutPrefix -/
def stringslite_CutPrefix.body (S_stringslite_HasPrefix : (ByteArray × ByteArray) → Option ((Bool) × Unit))  (p0 : ByteArray) (p1 : ByteArray) : Option ((ByteArray × Bool) × Unit) :=
  (S_stringslite_HasPrefix (p0, p1)).bind fun y0 =>
  bif (Bool.not y0.1) then (
    some ((p0, false), ())) else
  bif (decide ((((ByteArray.size p0) : Nat) : Int) ≤ (((ByteArray.size p0) : Nat) : Int))) then
  bif (decide ((((ByteArray.size p1) : Nat) : Int) ≤ (((ByteArray.size p0) : Nat) : Int))) then
  some (((ByteArray.extract p0 (Int.toNat (((ByteArray.size p1) : Nat) : Int)) (Int.toNat (((ByteArray.size p0) : Nat) : Int))), true), ()) else none else none
noncomputable def stringslite_CutPrefix.code : Code := (Go.Proofs.Tryd.f81.body).getD .skip
noncomputable def stringslite_CutPrefix.E (S_stringslite_HasPrefix : (ByteArray × ByteArray) → Option ((Bool) × Unit)) : Env ((ByteArray × Bool) × Unit) := mkE tt (fun _ => [row 95 sg_stringslite_HasPrefix S_stringslite_HasPrefix]) [] [] sg_stringslite_CutPrefix Go.Proofs.Tryd.f81.results.toList
theorem stringslite_CutPrefix.body_eq (S_stringslite_HasPrefix : (ByteArray × ByteArray) → Option ((Bool) × Unit)) (again : List Item → St → Option ((ByteArray × Bool) × Unit)) (p0 : ByteArray) (p1 : ByteArray) : eval0 (stringslite_CutPrefix.E S_stringslite_HasPrefix) again stringslite_CutPrefix.code 15 (encs 0 (Sig.args sg_stringslite_CutPrefix) (p0, p1)).1 (encs 0 (Sig.args sg_stringslite_CutPrefix) (p0, p1)).2 = stringslite_CutPrefix.body S_stringslite_HasPrefix  p0 p1 := by kernel_rfl
theorem stringslite_CutPrefix.con (S_stringslite_HasPrefix : (ByteArray × ByteArray) → Option ((Bool) × Unit)) (h_stringslite_HasPrefix : Con Go.Proofs.Tryd.prog 95 sg_stringslite_HasPrefix S_stringslite_HasPrefix)  : Con Go.Proofs.Tryd.prog 81 sg_stringslite_CutPrefix (fun (p0, p1) => stringslite_CutPrefix.body S_stringslite_HasPrefix  p0 p1) :=
  Con.of_eval (t := fun _ => [row 95 sg_stringslite_HasPrefix S_stringslite_HasPrefix]) mixed ttok (fun _ => (.cons callable95 h_stringslite_HasPrefix .nil)) Go.Proofs.Tryd.func81 (c := stringslite_CutPrefix.code) (by kernel_rfl) (fun (p0, p1) y h => ⟨0, (stringslite_CutPrefix.body_eq S_stringslite_HasPrefix _ p0 p1).trans h⟩)

end Go.Proofs.YtgbfelpdlekbkaaDoor
