/- Go functions as plain functions, and that they are so. -/
import Derived.Test.YtgbfelpdlekbkaaDoorLinS
set_option linter.unusedVariables false
set_option linter.unusedSimpArgs false
set_option linter.unusedVariables false
namespace Go.Proofs.YtgbfelpdlekbkaaDoor
open Go Go.Proofs Go.Lin
/-! ### spec_DrawValueText -/
def spec_DrawValueText.body (S_spec_l1New : ((List Int)) → Option ((((List Int) × (Int × Int))) × Unit)) (S_spec_l4DrawAny : (((List Int) × (Int × Int))) → Option ((GVal) × ((List Int) × (Int × Int))))  (p0 : (List Int)) : Option ((GVal) × Unit) :=
  (S_spec_l1New p0).bind fun y0 =>
  (S_spec_l4DrawAny (y0.1.1, (y0.1.2.1, y0.1.2.2))).bind fun y1 =>
  some ((re y1.1), ())
noncomputable def spec_DrawValueText.code : Code := (Go.Proofs.Tryd.f6.body).getD .skip
noncomputable def spec_DrawValueText.E (S_spec_l1New : ((List Int)) → Option ((((List Int) × (Int × Int))) × Unit)) (S_spec_l4DrawAny : (((List Int) × (Int × Int))) → Option ((GVal) × ((List Int) × (Int × Int)))) : Env ((GVal) × Unit) := mkE tt (fun _ => [row 17 sg_spec_l1New S_spec_l1New, row 18 sg_spec_l4DrawAny S_spec_l4DrawAny]) [] [] sg_spec_DrawValueText Go.Proofs.Tryd.f6.results.toList
theorem spec_DrawValueText.body_eq (S_spec_l1New : ((List Int)) → Option ((((List Int) × (Int × Int))) × Unit)) (S_spec_l4DrawAny : (((List Int) × (Int × Int))) → Option ((GVal) × ((List Int) × (Int × Int)))) (again : List Item → St → Option ((GVal) × Unit)) (p0 : (List Int)) : eval0 (spec_DrawValueText.E S_spec_l1New S_spec_l4DrawAny) again spec_DrawValueText.code 8 (encs 0 (Sig.args sg_spec_DrawValueText) p0).1 (encs 0 (Sig.args sg_spec_DrawValueText) p0).2 = spec_DrawValueText.body S_spec_l1New S_spec_l4DrawAny  p0 := by kernel_rfl
theorem spec_DrawValueText.con (S_spec_l1New : ((List Int)) → Option ((((List Int) × (Int × Int))) × Unit)) (S_spec_l4DrawAny : (((List Int) × (Int × Int))) → Option ((GVal) × ((List Int) × (Int × Int)))) (h_spec_l1New : Con Go.Proofs.Tryd.prog 17 sg_spec_l1New S_spec_l1New) (h_spec_l4DrawAny : Con Go.Proofs.Tryd.prog 18 sg_spec_l4DrawAny S_spec_l4DrawAny)  : Con Go.Proofs.Tryd.prog 6 sg_spec_DrawValueText (fun p0 => spec_DrawValueText.body S_spec_l1New S_spec_l4DrawAny  p0) :=
  Con.of_eval (t := fun _ => [row 17 sg_spec_l1New S_spec_l1New, row 18 sg_spec_l4DrawAny S_spec_l4DrawAny]) mixed ttok (fun _ => (.cons callable17 h_spec_l1New (.cons callable18 h_spec_l4DrawAny .nil))) Go.Proofs.Tryd.func6 (c := spec_DrawValueText.code) (by kernel_rfl) (fun p0 y h => ⟨0, (spec_DrawValueText.body_eq S_spec_l1New S_spec_l4DrawAny _ p0).trans h⟩)

/-! ### impl_SameValue -/
def impl_SameValue.body (S_impl_SameValue : (GVal × GVal) → Option ((Bool) × Unit)) (S_slices_Equal_string : ((List ByteArray) × (List ByteArray)) → Option ((Bool) × Unit)) (S_slices_EqualFunc_Value : ((List GVal) × (List GVal) × Unit) → Option ((Bool) × Unit))  (p0 : GVal) (p1 : GVal) : Option ((Bool) × Unit) :=
  bif (p0.kind == p1.kind) then (
    bif (seq_ p0.text p1.text) then (
      bif (p0.num == p1.num) then (
        (S_slices_Equal_string (p0.keys, p1.keys)).bind fun y0 =>
        bif y0.1 then (
          (S_slices_EqualFunc_Value (p0.kids, (p1.kids, ()))).bind fun y1 =>
          some (y1.1, ())) else
        some (false, ())) else
      some (false, ())) else
    some (false, ())) else
  some (false, ())
noncomputable def impl_SameValue.code : Code := (Go.Proofs.Tryd.f12.body).getD .skip
noncomputable def impl_SameValue.E (S_impl_SameValue : (GVal × GVal) → Option ((Bool) × Unit)) (S_slices_Equal_string : ((List ByteArray) × (List ByteArray)) → Option ((Bool) × Unit)) (S_slices_EqualFunc_Value : ((List GVal) × (List GVal) × Unit) → Option ((Bool) × Unit)) : Env ((Bool) × Unit) := mkE tt (fun _ => [row 12 sg_impl_SameValue S_impl_SameValue, row 23 sg_slices_Equal_string S_slices_Equal_string, row 24 sg_slices_EqualFunc_Value S_slices_EqualFunc_Value]) [] [] sg_impl_SameValue Go.Proofs.Tryd.f12.results.toList
theorem impl_SameValue.body_eq (S_impl_SameValue : (GVal × GVal) → Option ((Bool) × Unit)) (S_slices_Equal_string : ((List ByteArray) × (List ByteArray)) → Option ((Bool) × Unit)) (S_slices_EqualFunc_Value : ((List GVal) × (List GVal) × Unit) → Option ((Bool) × Unit)) (again : List Item → St → Option ((Bool) × Unit)) (p0 : GVal) (p1 : GVal) : eval0 (impl_SameValue.E S_impl_SameValue S_slices_Equal_string S_slices_EqualFunc_Value) again impl_SameValue.code 38 (encs 0 (Sig.args sg_impl_SameValue) (p0, p1)).1 (encs 0 (Sig.args sg_impl_SameValue) (p0, p1)).2 = impl_SameValue.body S_impl_SameValue S_slices_Equal_string S_slices_EqualFunc_Value  p0 p1 := by kernel_rfl
theorem impl_SameValue.con (S_impl_SameValue : (GVal × GVal) → Option ((Bool) × Unit)) (S_slices_Equal_string : ((List ByteArray) × (List ByteArray)) → Option ((Bool) × Unit)) (S_slices_EqualFunc_Value : ((List GVal) × (List GVal) × Unit) → Option ((Bool) × Unit)) (h_impl_SameValue : Con Go.Proofs.Tryd.prog 12 sg_impl_SameValue S_impl_SameValue) (h_slices_Equal_string : Con Go.Proofs.Tryd.prog 23 sg_slices_Equal_string S_slices_Equal_string) (h_slices_EqualFunc_Value : Con Go.Proofs.Tryd.prog 24 sg_slices_EqualFunc_Value S_slices_EqualFunc_Value)  : Con Go.Proofs.Tryd.prog 12 sg_impl_SameValue (fun (p0, p1) => impl_SameValue.body S_impl_SameValue S_slices_Equal_string S_slices_EqualFunc_Value  p0 p1) :=
  Con.of_eval (t := fun _ => [row 12 sg_impl_SameValue S_impl_SameValue, row 23 sg_slices_Equal_string S_slices_Equal_string, row 24 sg_slices_EqualFunc_Value S_slices_EqualFunc_Value]) mixed ttok (fun _ => (.cons callable12 h_impl_SameValue (.cons callable23 h_slices_Equal_string (.cons callable24 h_slices_EqualFunc_Value .nil)))) Go.Proofs.Tryd.func12 (c := impl_SameValue.code) (by kernel_rfl) (fun (p0, p1) y h => ⟨0, (impl_SameValue.body_eq S_impl_SameValue S_slices_Equal_string S_slices_EqualFunc_Value _ p0 p1).trans h⟩)

/-! ### spec_l4Look -/
inductive spec_l4Look.L where
  | L0 (x0 : Int) (x1 : Int) (x2 : Int) (x3 : Int) (x4 : ByteArray) (x5 : Int) (x6 : List ByteArray) (x7 : List GVal)
def spec_l4Look.step (S_spec_l4Look : (GVal × Int) → Option ((Int) × Unit)) (S_spec_l4Text : (ByteArray) → Option ((Bool) × Unit)) (S_spec_l1In : (Int × Int × Int) → Option ((Bool) × Unit)) (S_spec_l4Keys : (GVal) → Option ((Bool) × Unit)) (rec : spec_l4Look.L → Option ((Int) × Unit)) : spec_l4Look.L → Option ((Int) × Unit)
  | .L0 x0 x1 x2 x3 x4 x5 x6 x7 =>
    bif (decide (x2 < (((List.length x7) : Nat) : Int))) then (
      bif (decide (0 ≤ x2)) then
      bif (decide (x2 < (((List.length x7) : Nat) : Int))) then
      (S_spec_l4Look ((re (List.getD x7 (Int.toNat x2) (GVal.zero ))), (IntKind.wrap .i64 (x0 - 1)))).bind fun y4 =>
      bif (y4.1 == 0) then (
        some (0, ())) else
      bif (decide (300 < (IntKind.wrap .i64 (x1 + y4.1)))) then (
        some (0, ())) else
      rec (.L0 x0 (IntKind.wrap .i64 (x1 + y4.1)) (IntKind.wrap .i64 (x2 + 1)) x3 x4 x5 x6 x7) else none else none) else
    bif ((((List.length x6) : Nat) : Int) == 0) then (
      bif (x3 == 1) then (
        bif ((((List.length x7) : Nat) : Int) == 0) then (
          bif (x5 == 0) then (
            (S_spec_l4Text x4).bind fun y3 =>
            bif (Bool.not y3.1) then (
              some (0, ())) else
            some (x1, ())) else
          some (0, ())) else
        some (0, ())) else
      bif (x3 == 2) then (
        bif ((((List.length x7) : Nat) : Int) == 0) then (
          bif (Bool.not (seq_ x4 (bs []))) then (
            some (0, ())) else
          some (x1, ())) else
        some (0, ())) else
      bif (x3 == 3) then (
        bif ((((List.length x7) : Nat) : Int) == 0) then (
          bif (seq_ x4 (bs [])) then (
            (S_spec_l1In (x5, (0, 1))).bind fun y2 =>
            bif (Bool.not y2.1) then (
              some (0, ())) else
            some (x1, ())) else
          some (0, ())) else
        some (0, ())) else
      bif (x3 == 4) then (
        bif ((((List.length x6) : Nat) : Int) == 0) then (
          bif (seq_ x4 (bs [])) then (
            bif (Bool.not (x5 == 0)) then (
              some (0, ())) else
            some (x1, ())) else
          some (0, ())) else
        some (0, ())) else
      bif (x3 == 5) then (
        (S_spec_l4Keys (GVal.mk x3 x4 x5 x6 x7)).bind fun y1 =>
        bif y1.1 then (
          bif (seq_ x4 (bs [])) then (
            bif (Bool.not (x5 == 0)) then (
              some (0, ())) else
            some (x1, ())) else
          some (0, ())) else
        some (0, ())) else
      some (0, ())) else
    bif (x3 == 1) then (
      some (0, ())) else
    bif (x3 == 2) then (
      some (0, ())) else
    bif (x3 == 3) then (
      some (0, ())) else
    bif (x3 == 4) then (
      bif ((((List.length x6) : Nat) : Int) == 0) then (
        bif (seq_ x4 (bs [])) then (
          bif (Bool.not (x5 == 0)) then (
            some (0, ())) else
          some (x1, ())) else
        some (0, ())) else
      some (0, ())) else
    bif (x3 == 5) then (
      (S_spec_l4Keys (GVal.mk x3 x4 x5 x6 x7)).bind fun y0 =>
      bif y0.1 then (
        bif (seq_ x4 (bs [])) then (
          bif (Bool.not (x5 == 0)) then (
            some (0, ())) else
          some (x1, ())) else
        some (0, ())) else
      some (0, ())) else
    some (0, ())
def spec_l4Look.body (S_spec_l4Look : (GVal × Int) → Option ((Int) × Unit)) (S_spec_l4Text : (ByteArray) → Option ((Bool) × Unit)) (S_spec_l1In : (Int × Int × Int) → Option ((Bool) × Unit)) (S_spec_l4Keys : (GVal) → Option ((Bool) × Unit)) (rec : spec_l4Look.L → Option ((Int) × Unit)) (p0 : GVal) (p1 : Int) : Option ((Int) × Unit) :=
  bif (p1 == 0) then (
    some (0, ())) else
  rec (.L0 p1 1 0 p0.kind p0.text p0.num p0.keys p0.kids)
noncomputable def spec_l4Look.code : Code := (Go.Proofs.Tryd.f20.body).getD .skip
noncomputable def spec_l4Look.E (S_spec_l4Look : (GVal × Int) → Option ((Int) × Unit)) (S_spec_l4Text : (ByteArray) → Option ((Bool) × Unit)) (S_spec_l1In : (Int × Int × Int) → Option ((Bool) × Unit)) (S_spec_l4Keys : (GVal) → Option ((Bool) × Unit)) : Env ((Int) × Unit) := mkE tt (fun _ => [row 20 sg_spec_l4Look S_spec_l4Look, row 40 sg_spec_l4Text S_spec_l4Text, row 41 sg_spec_l1In S_spec_l1In, row 42 sg_spec_l4Keys S_spec_l4Keys]) [(5, ⟨[1, 2, 5, 6], [], []⟩)] [] sg_spec_l4Look Go.Proofs.Tryd.f20.results.toList
noncomputable def spec_l4Look.dec : spec_l4Look.L → List Item × St
  | .L0 x0 x1 x2 x3 x4 x5 x6 x7 => (itemsAt 5 spec_l4Look.code [], ⟨slotsAt 117 [(1, .int .i64 x0), (2, .ptr 0 0), (5, .int .i64 x1), (6, .int .i64 x2)], [.cells 27 [.int .i64 x3, .str x4, .int .i64 x5, .slc 9 .str x6, .slc 27 (.gval 9 27) x7]]⟩)
theorem spec_l4Look.step_eq (S_spec_l4Look : (GVal × Int) → Option ((Int) × Unit)) (S_spec_l4Text : (ByteArray) → Option ((Bool) × Unit)) (S_spec_l1In : (Int × Int × Int) → Option ((Bool) × Unit)) (S_spec_l4Keys : (GVal) → Option ((Bool) × Unit)) (again : List Item → St → Option ((Int) × Unit)) : ∀ l, run1 (spec_l4Look.E S_spec_l4Look S_spec_l4Text S_spec_l1In S_spec_l4Keys) again (spec_l4Look.dec l).1 (spec_l4Look.dec l).2 = spec_l4Look.step S_spec_l4Look S_spec_l4Text S_spec_l1In S_spec_l4Keys (fun l => again (spec_l4Look.dec l).1 (spec_l4Look.dec l).2) l
  | .L0 x0 x1 x2 x3 x4 x5 x6 x7 => by kernel_rfl
theorem spec_l4Look.body_eq (S_spec_l4Look : (GVal × Int) → Option ((Int) × Unit)) (S_spec_l4Text : (ByteArray) → Option ((Bool) × Unit)) (S_spec_l1In : (Int × Int × Int) → Option ((Bool) × Unit)) (S_spec_l4Keys : (GVal) → Option ((Bool) × Unit)) (again : List Item → St → Option ((Int) × Unit)) (p0 : GVal) (p1 : Int) : eval0 (spec_l4Look.E S_spec_l4Look S_spec_l4Text S_spec_l1In S_spec_l4Keys) again spec_l4Look.code 117 (encs 0 (Sig.args sg_spec_l4Look) (p0, p1)).1 (encs 0 (Sig.args sg_spec_l4Look) (p0, p1)).2 = spec_l4Look.body S_spec_l4Look S_spec_l4Text S_spec_l1In S_spec_l4Keys (fun l => again (spec_l4Look.dec l).1 (spec_l4Look.dec l).2) p0 p1 := by kernel_rfl
theorem spec_l4Look.con (S_spec_l4Look : (GVal × Int) → Option ((Int) × Unit)) (S_spec_l4Text : (ByteArray) → Option ((Bool) × Unit)) (S_spec_l1In : (Int × Int × Int) → Option ((Bool) × Unit)) (S_spec_l4Keys : (GVal) → Option ((Bool) × Unit)) (h_spec_l4Look : Con Go.Proofs.Tryd.prog 20 sg_spec_l4Look S_spec_l4Look) (h_spec_l4Text : Con Go.Proofs.Tryd.prog 40 sg_spec_l4Text S_spec_l4Text) (h_spec_l1In : Con Go.Proofs.Tryd.prog 41 sg_spec_l1In S_spec_l1In) (h_spec_l4Keys : Con Go.Proofs.Tryd.prog 42 sg_spec_l4Keys S_spec_l4Keys) (n : Nat) : Con Go.Proofs.Tryd.prog 20 sg_spec_l4Look (fun (p0, p1) => spec_l4Look.body S_spec_l4Look S_spec_l4Text S_spec_l1In S_spec_l4Keys (go (spec_l4Look.step S_spec_l4Look S_spec_l4Text S_spec_l1In S_spec_l4Keys) n) p0 p1) :=
  Con.of_eval (t := fun _ => [row 20 sg_spec_l4Look S_spec_l4Look, row 40 sg_spec_l4Text S_spec_l4Text, row 41 sg_spec_l1In S_spec_l1In, row 42 sg_spec_l4Keys S_spec_l4Keys]) mixed ttok (fun _ => (.cons callable20 h_spec_l4Look (.cons callable40 h_spec_l4Text (.cons callable41 h_spec_l1In (.cons callable42 h_spec_l4Keys .nil))))) Go.Proofs.Tryd.func20 (c := spec_l4Look.code) (by kernel_rfl) (fun (p0, p1) y h => ⟨n, (evalFn_go (spec_l4Look.step_eq S_spec_l4Look S_spec_l4Text S_spec_l1In S_spec_l4Keys) (body := fun rec => spec_l4Look.body S_spec_l4Look S_spec_l4Text S_spec_l1In S_spec_l4Keys rec p0 p1) (fun again => spec_l4Look.body_eq S_spec_l4Look S_spec_l4Text S_spec_l1In S_spec_l4Keys again p0 p1) n).trans h⟩)

/-! ### spec_l4Print -/
inductive spec_l4Print.L where
  | L0 (x0 : ByteArray) (x1 : ByteArray) (x2 : Int) (x3 : Int) (x4 : ByteArray) (x5 : Int) (x6 : List ByteArray) (x7 : List GVal)
def spec_l4Print.step (S_spec_l4Print : (GVal) → Option ((ByteArray) × Unit)) (S_spec_l4Quoted : (ByteArray) → Option ((ByteArray) × Unit)) (S_spec_l4Int : (Int) → Option ((ByteArray) × Unit)) (rec : spec_l4Print.L → Option ((ByteArray) × Unit)) : spec_l4Print.L → Option ((ByteArray) × Unit)
  | .L0 x0 x1 x2 x3 x4 x5 x6 x7 =>
    bif (decide (x2 < (((List.length x7) : Nat) : Int))) then (
      bif (decide (0 < x2)) then (
        bif (decide (((ByteArray.size x0) + 1) ≤ 9223372036854775807)) then
        bif (x3 == 5) then (
          bif (decide (0 ≤ x2)) then
          bif (decide (x2 < (((List.length x6) : Nat) : Int))) then
          bif (decide (((ByteArray.size (x0 ++ (bs [44]))) + (ByteArray.size (List.getD x6 (Int.toNat x2) (bs [])))) ≤ 9223372036854775807)) then
          bif (decide (((ByteArray.size ((x0 ++ (bs [44])) ++ (List.getD x6 (Int.toNat x2) (bs [])))) + 1) ≤ 9223372036854775807)) then
          bif (decide (0 ≤ x2)) then
          bif (decide (x2 < (((List.length x7) : Nat) : Int))) then
          (S_spec_l4Print (re (List.getD x7 (Int.toNat x2) (GVal.zero )))).bind fun y3 =>
          bif (decide (((ByteArray.size (((x0 ++ (bs [44])) ++ (List.getD x6 (Int.toNat x2) (bs []))) ++ (bs [58]))) + (ByteArray.size y3.1)) ≤ 9223372036854775807)) then
          rec (.L0 ((((x0 ++ (bs [44])) ++ (List.getD x6 (Int.toNat x2) (bs []))) ++ (bs [58])) ++ y3.1) x1 (IntKind.wrap .i64 (x2 + 1)) x3 x4 x5 x6 x7) else none else none else none else none else none else none else none) else
        bif (decide (0 ≤ x2)) then
        bif (decide (x2 < (((List.length x7) : Nat) : Int))) then
        (S_spec_l4Print (re (List.getD x7 (Int.toNat x2) (GVal.zero )))).bind fun y2 =>
        bif (decide (((ByteArray.size (x0 ++ (bs [44]))) + (ByteArray.size y2.1)) ≤ 9223372036854775807)) then
        rec (.L0 ((x0 ++ (bs [44])) ++ y2.1) x1 (IntKind.wrap .i64 (x2 + 1)) x3 x4 x5 x6 x7) else none else none else none else none) else
      bif (x3 == 5) then (
        bif (decide (0 ≤ x2)) then
        bif (decide (x2 < (((List.length x6) : Nat) : Int))) then
        bif (decide (((ByteArray.size x0) + (ByteArray.size (List.getD x6 (Int.toNat x2) (bs [])))) ≤ 9223372036854775807)) then
        bif (decide (((ByteArray.size (x0 ++ (List.getD x6 (Int.toNat x2) (bs [])))) + 1) ≤ 9223372036854775807)) then
        bif (decide (0 ≤ x2)) then
        bif (decide (x2 < (((List.length x7) : Nat) : Int))) then
        (S_spec_l4Print (re (List.getD x7 (Int.toNat x2) (GVal.zero )))).bind fun y1 =>
        bif (decide (((ByteArray.size ((x0 ++ (List.getD x6 (Int.toNat x2) (bs []))) ++ (bs [58]))) + (ByteArray.size y1.1)) ≤ 9223372036854775807)) then
        rec (.L0 (((x0 ++ (List.getD x6 (Int.toNat x2) (bs []))) ++ (bs [58])) ++ y1.1) x1 (IntKind.wrap .i64 (x2 + 1)) x3 x4 x5 x6 x7) else none else none else none else none else none else none else none) else
      bif (decide (0 ≤ x2)) then
      bif (decide (x2 < (((List.length x7) : Nat) : Int))) then
      (S_spec_l4Print (re (List.getD x7 (Int.toNat x2) (GVal.zero )))).bind fun y0 =>
      bif (decide (((ByteArray.size x0) + (ByteArray.size y0.1)) ≤ 9223372036854775807)) then
      rec (.L0 (x0 ++ y0.1) x1 (IntKind.wrap .i64 (x2 + 1)) x3 x4 x5 x6 x7) else none else none else none) else
    bif (decide (((ByteArray.size x0) + (ByteArray.size x1)) ≤ 9223372036854775807)) then
    some ((x0 ++ x1), ()) else none
def spec_l4Print.body (S_spec_l4Print : (GVal) → Option ((ByteArray) × Unit)) (S_spec_l4Quoted : (ByteArray) → Option ((ByteArray) × Unit)) (S_spec_l4Int : (Int) → Option ((ByteArray) × Unit)) (rec : spec_l4Print.L → Option ((ByteArray) × Unit)) (p0 : GVal) : Option ((ByteArray) × Unit) :=
  bif (p0.kind == 1) then (
    (S_spec_l4Quoted p0.text).bind fun y1 =>
    some (y1.1, ())) else
  bif (p0.kind == 2) then (
    (S_spec_l4Int p0.num).bind fun y0 =>
    some (y0.1, ())) else
  bif (p0.kind == 3) then (
    bif (p0.num == 1) then (
      some ((bs [116, 114, 117, 101]), ())) else
    some ((bs [102, 97, 108, 115, 101]), ())) else
  bif (p0.kind == 5) then (
    rec (.L0 (bs [123]) (bs [125]) 0 p0.kind p0.text p0.num p0.keys p0.kids)) else
  rec (.L0 (bs [91]) (bs [93]) 0 p0.kind p0.text p0.num p0.keys p0.kids)
noncomputable def spec_l4Print.code : Code := (Go.Proofs.Tryd.f26.body).getD .skip
noncomputable def spec_l4Print.E (S_spec_l4Print : (GVal) → Option ((ByteArray) × Unit)) (S_spec_l4Quoted : (ByteArray) → Option ((ByteArray) × Unit)) (S_spec_l4Int : (Int) → Option ((ByteArray) × Unit)) : Env ((ByteArray) × Unit) := mkE tt (fun _ => [row 26 sg_spec_l4Print S_spec_l4Print, row 53 sg_spec_l4Quoted S_spec_l4Quoted, row 54 sg_spec_l4Int S_spec_l4Int]) [(16, ⟨[1, 3, 4, 5], [], []⟩)] [] sg_spec_l4Print Go.Proofs.Tryd.f26.results.toList
noncomputable def spec_l4Print.dec : spec_l4Print.L → List Item × St
  | .L0 x0 x1 x2 x3 x4 x5 x6 x7 => (itemsAt 16 spec_l4Print.code [], ⟨slotsAt 59 [(1, .ptr 0 0), (3, .str x0), (4, .str x1), (5, .int .i64 x2)], [.cells 27 [.int .i64 x3, .str x4, .int .i64 x5, .slc 9 .str x6, .slc 27 (.gval 9 27) x7]]⟩)
theorem spec_l4Print.step_eq (S_spec_l4Print : (GVal) → Option ((ByteArray) × Unit)) (S_spec_l4Quoted : (ByteArray) → Option ((ByteArray) × Unit)) (S_spec_l4Int : (Int) → Option ((ByteArray) × Unit)) (again : List Item → St → Option ((ByteArray) × Unit)) : ∀ l, run1 (spec_l4Print.E S_spec_l4Print S_spec_l4Quoted S_spec_l4Int) again (spec_l4Print.dec l).1 (spec_l4Print.dec l).2 = spec_l4Print.step S_spec_l4Print S_spec_l4Quoted S_spec_l4Int (fun l => again (spec_l4Print.dec l).1 (spec_l4Print.dec l).2) l
  | .L0 x0 x1 x2 x3 x4 x5 x6 x7 => by kernel_rfl
theorem spec_l4Print.body_eq (S_spec_l4Print : (GVal) → Option ((ByteArray) × Unit)) (S_spec_l4Quoted : (ByteArray) → Option ((ByteArray) × Unit)) (S_spec_l4Int : (Int) → Option ((ByteArray) × Unit)) (again : List Item → St → Option ((ByteArray) × Unit)) (p0 : GVal) : eval0 (spec_l4Print.E S_spec_l4Print S_spec_l4Quoted S_spec_l4Int) again spec_l4Print.code 59 (encs 0 (Sig.args sg_spec_l4Print) p0).1 (encs 0 (Sig.args sg_spec_l4Print) p0).2 = spec_l4Print.body S_spec_l4Print S_spec_l4Quoted S_spec_l4Int (fun l => again (spec_l4Print.dec l).1 (spec_l4Print.dec l).2) p0 := by kernel_rfl
theorem spec_l4Print.con (S_spec_l4Print : (GVal) → Option ((ByteArray) × Unit)) (S_spec_l4Quoted : (ByteArray) → Option ((ByteArray) × Unit)) (S_spec_l4Int : (Int) → Option ((ByteArray) × Unit)) (h_spec_l4Print : Con Go.Proofs.Tryd.prog 26 sg_spec_l4Print S_spec_l4Print) (h_spec_l4Quoted : Con Go.Proofs.Tryd.prog 53 sg_spec_l4Quoted S_spec_l4Quoted) (h_spec_l4Int : Con Go.Proofs.Tryd.prog 54 sg_spec_l4Int S_spec_l4Int) (n : Nat) : Con Go.Proofs.Tryd.prog 26 sg_spec_l4Print (fun p0 => spec_l4Print.body S_spec_l4Print S_spec_l4Quoted S_spec_l4Int (go (spec_l4Print.step S_spec_l4Print S_spec_l4Quoted S_spec_l4Int) n) p0) :=
  Con.of_eval (t := fun _ => [row 26 sg_spec_l4Print S_spec_l4Print, row 53 sg_spec_l4Quoted S_spec_l4Quoted, row 54 sg_spec_l4Int S_spec_l4Int]) mixed ttok (fun _ => (.cons callable26 h_spec_l4Print (.cons callable53 h_spec_l4Quoted (.cons callable54 h_spec_l4Int .nil)))) Go.Proofs.Tryd.func26 (c := spec_l4Print.code) (by kernel_rfl) (fun p0 y h => ⟨n, (evalFn_go (spec_l4Print.step_eq S_spec_l4Print S_spec_l4Quoted S_spec_l4Int) (body := fun rec => spec_l4Print.body S_spec_l4Print S_spec_l4Quoted S_spec_l4Int rec p0) (fun again => spec_l4Print.body_eq S_spec_l4Print S_spec_l4Quoted S_spec_l4Int again p0) n).trans h⟩)

/-! ### spec_l1Below -/
def spec_l1Below.body (S_spec_l1Byte : (((List Int) × (Int × Int))) → Option ((Int) × ((List Int) × (Int × Int))))  (p0a : (List Int)) (p0ba : Int) (p0bb : Int) (p1 : Int) : Option ((Int) × ((List Int) × (Int × Int))) :=
  bif (decide (p1 ≤ 0)) then (
    some (0, (p0a, (p0ba, p0bb)))) else
  bif (decide (p1 ≤ 256)) then (
    (S_spec_l1Byte (p0a, (p0ba, p0bb))).bind fun y3 =>
    bif (Bool.not (p1 == 0)) then
    some ((Int.tmod y3.1 p1), (y3.2.1, (y3.2.2.1, y3.2.2.2))) else none) else
  (S_spec_l1Byte (p0a, (p0ba, p0bb))).bind fun y0 =>
  (S_spec_l1Byte (y0.2.1, (y0.2.2.1, y0.2.2.2))).bind fun y1 =>
  (S_spec_l1Byte (y1.2.1, (y1.2.2.1, y1.2.2.2))).bind fun y2 =>
  bif (Bool.not (p1 == 0)) then
  some ((Int.tmod (IntKind.wrap .i64 ((IntKind.wrap .i64 ((IntKind.wrap .i64 (y0.1 * 65536)) + (IntKind.wrap .i64 (y1.1 * 256)))) + y2.1)) p1), (y2.2.1, (y2.2.2.1, y2.2.2.2))) else none
noncomputable def spec_l1Below.code : Code := (Go.Proofs.Tryd.f36.body).getD .skip
noncomputable def spec_l1Below.E (S_spec_l1Byte : (((List Int) × (Int × Int))) → Option ((Int) × ((List Int) × (Int × Int)))) : Env ((Int) × ((List Int) × (Int × Int))) := mkE tt (fun _ => [row 61 sg_spec_l1Byte S_spec_l1Byte]) [] [] sg_spec_l1Below Go.Proofs.Tryd.f36.results.toList
theorem spec_l1Below.body_eq (S_spec_l1Byte : (((List Int) × (Int × Int))) → Option ((Int) × ((List Int) × (Int × Int)))) (again : List Item → St → Option ((Int) × ((List Int) × (Int × Int)))) (p0a : (List Int)) (p0ba : Int) (p0bb : Int) (p1 : Int) : eval0 (spec_l1Below.E S_spec_l1Byte) again spec_l1Below.code 31 (encs 0 (Sig.args sg_spec_l1Below) ((p0a, (p0ba, p0bb)), p1)).1 (encs 0 (Sig.args sg_spec_l1Below) ((p0a, (p0ba, p0bb)), p1)).2 = spec_l1Below.body S_spec_l1Byte  p0a p0ba p0bb p1 := by kernel_rfl
theorem spec_l1Below.con (S_spec_l1Byte : (((List Int) × (Int × Int))) → Option ((Int) × ((List Int) × (Int × Int)))) (h_spec_l1Byte : Con Go.Proofs.Tryd.prog 61 sg_spec_l1Byte S_spec_l1Byte)  : Con Go.Proofs.Tryd.prog 36 sg_spec_l1Below (fun ((p0a, (p0ba, p0bb)), p1) => spec_l1Below.body S_spec_l1Byte  p0a p0ba p0bb p1) :=
  Con.of_eval (t := fun _ => [row 61 sg_spec_l1Byte S_spec_l1Byte]) mixed ttok (fun _ => (.cons callable61 h_spec_l1Byte .nil)) Go.Proofs.Tryd.func36 (c := spec_l1Below.code) (by kernel_rfl) (fun ((p0a, (p0ba, p0bb)), p1) y h => ⟨0, (spec_l1Below.body_eq S_spec_l1Byte _ p0a p0ba p0bb p1).trans h⟩)

/-! ### impl_shapeOk -/
inductive impl_shapeOk.L where
  | L0 (x0 : Bool) (x1 : Bool) (x2 : Bool) (x3 : Int) (x4 : Int) (x5 : Int) (x6 : ByteArray) (x7 : Int) (x8 : List ByteArray) (x9 : List GVal)
def impl_shapeOk.step (S_impl_within : (Int × Int × Int) → Option ((Bool) × Unit)) (S_impl_namesOk : ((List ByteArray) × Int) → Option ((Bool) × Unit)) (rec : impl_shapeOk.L → Option ((Bool) × Unit)) : impl_shapeOk.L → Option ((Bool) × Unit)
  | .L0 x0 x1 x2 x3 x4 x5 x6 x7 x8 x9 =>
    bif (decide (x4 < x3)) then (
      bif (decide (0 ≤ x4)) then
      bif (decide (x4 < (((ByteArray.size x6) : Nat) : Int))) then
      (S_impl_within ((IntKind.wrap .i64 (bt x6 x4)), (32, 126))).bind fun y0 =>
      bif (Bool.not y0.1) then (
        some (false, ())) else
      rec (.L0 x0 x1 x2 x3 (IntKind.wrap .i64 (x4 + 1)) x5 x6 x7 x8 x9) else none else none) else
    bif (decide ((((ByteArray.size x6) : Nat) : Int) ≤ 100)) then (
      bif x0 then (
        bif x1 then (
          some (x2, ())) else
        some (false, ())) else
      some (false, ())) else
    some (false, ())
def impl_shapeOk.body (S_impl_within : (Int × Int × Int) → Option ((Bool) × Unit)) (S_impl_namesOk : ((List ByteArray) × Int) → Option ((Bool) × Unit)) (rec : impl_shapeOk.L → Option ((Bool) × Unit)) (p0 : GVal) : Option ((Bool) × Unit) :=
  bif (p0.kind == 1) then (
    rec (.L0 (p0.num == 0) ((((List.length p0.keys) : Nat) : Int) == 0) ((((List.length p0.kids) : Nat) : Int) == 0) (((ByteArray.size p0.text) : Nat) : Int) 0 p0.kind p0.text p0.num p0.keys p0.kids)) else
  bif (p0.kind == 2) then (
    bif (seq_ p0.text (bs [])) then (
      bif ((((List.length p0.keys) : Nat) : Int) == 0) then (
        some (((((List.length p0.kids) : Nat) : Int) == 0), ())) else
      some (false, ())) else
    some (false, ())) else
  bif (p0.kind == 3) then (
    (S_impl_within (p0.num, (0, 1))).bind fun y1 =>
    bif (seq_ p0.text (bs [])) then (
      bif y1.1 then (
        bif ((((List.length p0.keys) : Nat) : Int) == 0) then (
          some (((((List.length p0.kids) : Nat) : Int) == 0), ())) else
        some (false, ())) else
      some (false, ())) else
    some (false, ())) else
  bif (p0.kind == 4) then (
    bif (seq_ p0.text (bs [])) then (
      bif (p0.num == 0) then (
        bif ((((List.length p0.keys) : Nat) : Int) == 0) then (
          some (true, ())) else
        some (false, ())) else
      some (false, ())) else
    some (false, ())) else
  bif (p0.kind == 5) then (
    (S_impl_namesOk (p0.keys, 300)).bind fun y0 =>
    bif y0.1 then (
      bif (seq_ p0.text (bs [])) then (
        bif (p0.num == 0) then (
          bif ((((List.length p0.keys) : Nat) : Int) == (((List.length p0.kids) : Nat) : Int)) then (
            some (true, ())) else
          some (false, ())) else
        some (false, ())) else
      some (false, ())) else
    bif (seq_ p0.text (bs [])) then (
      bif (p0.num == 0) then (
        some (false, ())) else
      some (false, ())) else
    some (false, ())) else
  some (false, ())
noncomputable def impl_shapeOk.code : Code := (Go.Proofs.Tryd.f43.body).getD .skip
noncomputable def impl_shapeOk.E (S_impl_within : (Int × Int × Int) → Option ((Bool) × Unit)) (S_impl_namesOk : ((List ByteArray) × Int) → Option ((Bool) × Unit)) : Env ((Bool) × Unit) := mkE tt (fun _ => [row 67 sg_impl_within S_impl_within, row 68 sg_impl_namesOk S_impl_namesOk]) [(6, ⟨[1, 4, 5, 6, 28, 29], [], []⟩)] [] sg_impl_shapeOk Go.Proofs.Tryd.f43.results.toList
noncomputable def impl_shapeOk.dec : impl_shapeOk.L → List Item × St
  | .L0 x0 x1 x2 x3 x4 x5 x6 x7 x8 x9 => (itemsAt 6 impl_shapeOk.code [], ⟨slotsAt 77 [(1, .ptr 0 0), (4, .bool x0), (5, .bool x1), (6, .bool x2), (28, .int .i64 x3), (29, .int .i64 x4)], [.cells 27 [.int .i64 x5, .str x6, .int .i64 x7, .slc 9 .str x8, .slc 27 (.gval 9 27) x9]]⟩)
theorem impl_shapeOk.step_eq (S_impl_within : (Int × Int × Int) → Option ((Bool) × Unit)) (S_impl_namesOk : ((List ByteArray) × Int) → Option ((Bool) × Unit)) (again : List Item → St → Option ((Bool) × Unit)) : ∀ l, run1 (impl_shapeOk.E S_impl_within S_impl_namesOk) again (impl_shapeOk.dec l).1 (impl_shapeOk.dec l).2 = impl_shapeOk.step S_impl_within S_impl_namesOk (fun l => again (impl_shapeOk.dec l).1 (impl_shapeOk.dec l).2) l
  | .L0 x0 x1 x2 x3 x4 x5 x6 x7 x8 x9 => by kernel_rfl
theorem impl_shapeOk.body_eq (S_impl_within : (Int × Int × Int) → Option ((Bool) × Unit)) (S_impl_namesOk : ((List ByteArray) × Int) → Option ((Bool) × Unit)) (again : List Item → St → Option ((Bool) × Unit)) (p0 : GVal) : eval0 (impl_shapeOk.E S_impl_within S_impl_namesOk) again impl_shapeOk.code 77 (encs 0 (Sig.args sg_impl_shapeOk) p0).1 (encs 0 (Sig.args sg_impl_shapeOk) p0).2 = impl_shapeOk.body S_impl_within S_impl_namesOk (fun l => again (impl_shapeOk.dec l).1 (impl_shapeOk.dec l).2) p0 := by kernel_rfl
theorem impl_shapeOk.con (S_impl_within : (Int × Int × Int) → Option ((Bool) × Unit)) (S_impl_namesOk : ((List ByteArray) × Int) → Option ((Bool) × Unit)) (h_impl_within : Con Go.Proofs.Tryd.prog 67 sg_impl_within S_impl_within) (h_impl_namesOk : Con Go.Proofs.Tryd.prog 68 sg_impl_namesOk S_impl_namesOk) (n : Nat) : Con Go.Proofs.Tryd.prog 43 sg_impl_shapeOk (fun p0 => impl_shapeOk.body S_impl_within S_impl_namesOk (go (impl_shapeOk.step S_impl_within S_impl_namesOk) n) p0) :=
  Con.of_eval (t := fun _ => [row 67 sg_impl_within S_impl_within, row 68 sg_impl_namesOk S_impl_namesOk]) mixed ttok (fun _ => (.cons callable67 h_impl_within (.cons callable68 h_impl_namesOk .nil))) Go.Proofs.Tryd.func43 (c := impl_shapeOk.code) (by kernel_rfl) (fun p0 y h => ⟨n, (evalFn_go (impl_shapeOk.step_eq S_impl_within S_impl_namesOk) (body := fun rec => impl_shapeOk.body S_impl_within S_impl_namesOk rec p0) (fun again => impl_shapeOk.body_eq S_impl_within S_impl_namesOk again p0) n).trans h⟩)

/-! ### spec_l4Take -/
def spec_l4Take.body   (p0a : ByteArray) (p0ba : Int) (p0bb : Bool) (p1 : ByteArray) : Option ((Bool) × (ByteArray × (Int × Bool))) :=
  bif p0bb then (
    some (false, (p0a, (p0ba, p0bb)))) else
  bif (decide ((IntKind.wrap .i64 ((((ByteArray.size p0a) : Nat) : Int) - p0ba)) < (((ByteArray.size p1) : Nat) : Int))) then (
    some (false, (p0a, (p0ba, p0bb)))) else
  bif (decide (0 ≤ (IntKind.wrap .i64 (p0ba + (((ByteArray.size p1) : Nat) : Int))))) then
  bif (decide ((IntKind.wrap .i64 (p0ba + (((ByteArray.size p1) : Nat) : Int))) ≤ (((ByteArray.size p0a) : Nat) : Int))) then
  bif (decide (0 ≤ p0ba)) then
  bif (decide (p0ba ≤ (IntKind.wrap .i64 (p0ba + (((ByteArray.size p1) : Nat) : Int))))) then
  bif (Bool.not (seq_ (ByteArray.extract p0a (Int.toNat p0ba) (Int.toNat (IntKind.wrap .i64 (p0ba + (((ByteArray.size p1) : Nat) : Int))))) p1)) then (
    some (false, (p0a, (p0ba, p0bb)))) else
  some (true, (p0a, ((IntKind.wrap .i64 (p0ba + (((ByteArray.size p1) : Nat) : Int))), p0bb))) else none else none else none else none
noncomputable def spec_l4Take.code : Code := (Go.Proofs.Tryd.f49.body).getD .skip
noncomputable def spec_l4Take.E  : Env ((Bool) × (ByteArray × (Int × Bool))) := mkE tt (fun _ => []) [] [] sg_spec_l4Take Go.Proofs.Tryd.f49.results.toList
theorem spec_l4Take.body_eq  (again : List Item → St → Option ((Bool) × (ByteArray × (Int × Bool)))) (p0a : ByteArray) (p0ba : Int) (p0bb : Bool) (p1 : ByteArray) : eval0 (spec_l4Take.E ) again spec_l4Take.code 54 (encs 0 (Sig.args sg_spec_l4Take) ((p0a, (p0ba, p0bb)), p1)).1 (encs 0 (Sig.args sg_spec_l4Take) ((p0a, (p0ba, p0bb)), p1)).2 = spec_l4Take.body   p0a p0ba p0bb p1 := by kernel_rfl
theorem spec_l4Take.con    : Con Go.Proofs.Tryd.prog 49 sg_spec_l4Take (fun ((p0a, (p0ba, p0bb)), p1) => spec_l4Take.body   p0a p0ba p0bb p1) :=
  Con.of_eval (t := fun _ => []) mixed ttok (fun _ => .nil) Go.Proofs.Tryd.func49 (c := spec_l4Take.code) (by kernel_rfl) (fun ((p0a, (p0ba, p0bb)), p1) y h => ⟨0, (spec_l4Take.body_eq  _ p0a p0ba p0bb p1).trans h⟩)

/-! ### spec_l1Str -/
def spec_l1Str.body (S_spec_l1Below : (((List Int) × (Int × Int)) × Int) → Option ((Int) × ((List Int) × (Int × Int))))  (p0a : (List Int)) (p0ba : Int) (p0bb : Int) (p1 : (List ByteArray)) : Option ((ByteArray) × ((List Int) × (Int × Int))) :=
  (S_spec_l1Below ((p0a, (p0ba, p0bb)), (((List.length p1) : Nat) : Int))).bind fun y0 =>
  bif (decide (0 ≤ y0.1)) then
  bif (decide (y0.1 < (((List.length p1) : Nat) : Int))) then
  some ((List.getD p1 (Int.toNat y0.1) (bs [])), (y0.2.1, (y0.2.2.1, y0.2.2.2))) else none else none
noncomputable def spec_l1Str.code : Code := (Go.Proofs.Tryd.f56.body).getD .skip
noncomputable def spec_l1Str.E (S_spec_l1Below : (((List Int) × (Int × Int)) × Int) → Option ((Int) × ((List Int) × (Int × Int)))) : Env ((ByteArray) × ((List Int) × (Int × Int))) := mkE tt (fun _ => [row 36 sg_spec_l1Below S_spec_l1Below]) [] [] sg_spec_l1Str Go.Proofs.Tryd.f56.results.toList
theorem spec_l1Str.body_eq (S_spec_l1Below : (((List Int) × (Int × Int)) × Int) → Option ((Int) × ((List Int) × (Int × Int)))) (again : List Item → St → Option ((ByteArray) × ((List Int) × (Int × Int)))) (p0a : (List Int)) (p0ba : Int) (p0bb : Int) (p1 : (List ByteArray)) : eval0 (spec_l1Str.E S_spec_l1Below) again spec_l1Str.code 12 (encs 0 (Sig.args sg_spec_l1Str) ((p0a, (p0ba, p0bb)), p1)).1 (encs 0 (Sig.args sg_spec_l1Str) ((p0a, (p0ba, p0bb)), p1)).2 = spec_l1Str.body S_spec_l1Below  p0a p0ba p0bb p1 := by kernel_rfl
theorem spec_l1Str.con (S_spec_l1Below : (((List Int) × (Int × Int)) × Int) → Option ((Int) × ((List Int) × (Int × Int)))) (h_spec_l1Below : Con Go.Proofs.Tryd.prog 36 sg_spec_l1Below S_spec_l1Below)  : Con Go.Proofs.Tryd.prog 56 sg_spec_l1Str (fun ((p0a, (p0ba, p0bb)), p1) => spec_l1Str.body S_spec_l1Below  p0a p0ba p0bb p1) :=
  Con.of_eval (t := fun _ => [row 36 sg_spec_l1Below S_spec_l1Below]) mixed ttok (fun _ => (.cons callable36 h_spec_l1Below .nil)) Go.Proofs.Tryd.func56 (c := spec_l1Str.code) (by kernel_rfl) (fun ((p0a, (p0ba, p0bb)), p1) y h => ⟨0, (spec_l1Str.body_eq S_spec_l1Below _ p0a p0ba p0bb p1).trans h⟩)

/-! ### spec_NameOk -/
inductive spec_NameOk.L where
  | L0 (x0 : ByteArray) (x1 : Int)
def spec_NameOk.step (S_spec_l1In : (Int × Int × Int) → Option ((Bool) × Unit)) (rec : spec_NameOk.L → Option ((Bool) × Unit)) : spec_NameOk.L → Option ((Bool) × Unit)
  | .L0 x0 x1 =>
    bif (decide (x1 < (((ByteArray.size x0) : Nat) : Int))) then (
      bif (decide (0 ≤ x1)) then
      bif (decide (x1 < (((ByteArray.size x0) : Nat) : Int))) then
      (S_spec_l1In ((IntKind.wrap .i64 (bt x0 x1)), (97, 122))).bind fun y1 =>
      bif (Bool.not y1.1) then (
        bif (decide (0 ≤ x1)) then
        bif (decide (x1 < (((ByteArray.size x0) : Nat) : Int))) then
        (S_spec_l1In ((IntKind.wrap .i64 (bt x0 x1)), (48, 57))).bind fun y2 =>
        bif (Bool.not y2.1) then (
          bif (decide (0 ≤ x1)) then
          bif (decide (x1 < (((ByteArray.size x0) : Nat) : Int))) then
          bif ((bt x0 x1) != 45) then (
            some (false, ())) else
          rec (.L0 x0 (IntKind.wrap .i64 (x1 + 1))) else none else none) else
        rec (.L0 x0 (IntKind.wrap .i64 (x1 + 1))) else none else none) else
      rec (.L0 x0 (IntKind.wrap .i64 (x1 + 1))) else none else none) else
    (S_spec_l1In ((((ByteArray.size x0) : Nat) : Int), (1, 20))).bind fun y0 =>
    bif y0.1 then (
      bif (decide (0 < (((ByteArray.size x0) : Nat) : Int))) then
      bif ((bt x0 0) != 45) then (
        bif (decide (0 ≤ (IntKind.wrap .i64 ((((ByteArray.size x0) : Nat) : Int) - 1)))) then
        bif (decide ((IntKind.wrap .i64 ((((ByteArray.size x0) : Nat) : Int) - 1)) < (((ByteArray.size x0) : Nat) : Int))) then
        some (((bt x0 (IntKind.wrap .i64 ((((ByteArray.size x0) : Nat) : Int) - 1))) != 45), ()) else none else none) else
      some (false, ()) else none) else
    some (false, ())
def spec_NameOk.body (S_spec_l1In : (Int × Int × Int) → Option ((Bool) × Unit)) (rec : spec_NameOk.L → Option ((Bool) × Unit)) (p0 : ByteArray) : Option ((Bool) × Unit) :=
  rec (.L0 p0 0)
noncomputable def spec_NameOk.code : Code := (Go.Proofs.Tryd.f66.body).getD .skip
noncomputable def spec_NameOk.E (S_spec_l1In : (Int × Int × Int) → Option ((Bool) × Unit)) : Env ((Bool) × Unit) := mkE tt (fun _ => [row 41 sg_spec_l1In S_spec_l1In]) [(2, ⟨[0, 3], [], []⟩)] [] sg_spec_NameOk Go.Proofs.Tryd.f66.results.toList
noncomputable def spec_NameOk.dec : spec_NameOk.L → List Item × St
  | .L0 x0 x1 => (itemsAt 2 spec_NameOk.code [], ⟨slotsAt 46 [(0, .str x0), (3, .int .i64 x1)], []⟩)
theorem spec_NameOk.step_eq (S_spec_l1In : (Int × Int × Int) → Option ((Bool) × Unit)) (again : List Item → St → Option ((Bool) × Unit)) : ∀ l, run1 (spec_NameOk.E S_spec_l1In) again (spec_NameOk.dec l).1 (spec_NameOk.dec l).2 = spec_NameOk.step S_spec_l1In (fun l => again (spec_NameOk.dec l).1 (spec_NameOk.dec l).2) l
  | .L0 x0 x1 => by kernel_rfl
theorem spec_NameOk.body_eq (S_spec_l1In : (Int × Int × Int) → Option ((Bool) × Unit)) (again : List Item → St → Option ((Bool) × Unit)) (p0 : ByteArray) : eval0 (spec_NameOk.E S_spec_l1In) again spec_NameOk.code 46 (encs 0 (Sig.args sg_spec_NameOk) p0).1 (encs 0 (Sig.args sg_spec_NameOk) p0).2 = spec_NameOk.body S_spec_l1In (fun l => again (spec_NameOk.dec l).1 (spec_NameOk.dec l).2) p0 := by kernel_rfl
theorem spec_NameOk.con (S_spec_l1In : (Int × Int × Int) → Option ((Bool) × Unit)) (h_spec_l1In : Con Go.Proofs.Tryd.prog 41 sg_spec_l1In S_spec_l1In) (n : Nat) : Con Go.Proofs.Tryd.prog 66 sg_spec_NameOk (fun p0 => spec_NameOk.body S_spec_l1In (go (spec_NameOk.step S_spec_l1In) n) p0) :=
  Con.of_eval (t := fun _ => [row 41 sg_spec_l1In S_spec_l1In]) mixed ttok (fun _ => (.cons callable41 h_spec_l1In .nil)) Go.Proofs.Tryd.func66 (c := spec_NameOk.code) (by kernel_rfl) (fun p0 y h => ⟨n, (evalFn_go (spec_NameOk.step_eq S_spec_l1In) (body := fun rec => spec_NameOk.body S_spec_l1In rec p0) (fun again => spec_NameOk.body_eq S_spec_l1In again p0) n).trans h⟩)

/-! ### spec_LabelSet -/
inductive spec_LabelSet.L where
  | L0 (x0 : List (ByteArray × ByteArray)) (x1 : ByteArray) (x2 : ByteArray) (x3 : Bool) (x4 : Int) (x5 : List (ByteArray × ByteArray))
def spec_LabelSet.step (S_spec_NameOk : (ByteArray) → Option ((Bool) × Unit)) (S_spec_LabelGet : ((List (ByteArray × ByteArray)) × ByteArray) → Option ((ByteArray × Bool) × Unit)) (S_spec_LabelsOk : ((List (ByteArray × ByteArray))) → Option ((Bool) × Unit)) (S_spec_l1Labels : ((List (ByteArray × ByteArray))) → Option (((List (ByteArray × ByteArray))) × Unit)) (rec : spec_LabelSet.L → Option (((List (ByteArray × ByteArray)) × Bool) × Unit)) : spec_LabelSet.L → Option (((List (ByteArray × ByteArray)) × Bool) × Unit)
  | .L0 x0 x1 x2 x3 x4 x5 =>
    bif (decide (x4 < (((List.length x0) : Nat) : Int))) then (
      bif (Bool.not x3) then (
        bif (decide (0 ≤ x4)) then
        bif (decide (x4 < (((List.length x0) : Nat) : Int))) then
        bif (Bool.not (slt (List.getD x0 (Int.toNat x4) ((bs []), (bs []))).1 x1)) then (
          bif (decide ((((List.length x5) + (List.length ((x1, x2) :: []))) * 32) ≤ 140737488355328)) then
          bif (decide (0 ≤ x4)) then
          bif (decide (x4 < (((List.length x0) : Nat) : Int))) then
          bif (Bool.not (seq_ (List.getD x0 (Int.toNat x4) ((bs []), (bs []))).1 x1)) then (
            bif (decide (0 ≤ x4)) then
            bif (decide (x4 < (((List.length x0) : Nat) : Int))) then
            bif (decide ((((List.length (x5 ++ ((x1, x2) :: []))) + (List.length (((List.getD x0 (Int.toNat x4) ((bs []), (bs []))).1, (List.getD x0 (Int.toNat x4) ((bs []), (bs []))).2) :: []))) * 32) ≤ 140737488355328)) then
            rec (.L0 x0 x1 x2 true (IntKind.wrap .i64 (x4 + 1)) ((x5 ++ ((x1, x2) :: [])) ++ (((List.getD x0 (Int.toNat x4) ((bs []), (bs []))).1, (List.getD x0 (Int.toNat x4) ((bs []), (bs []))).2) :: []))) else none else none else none) else
          rec (.L0 x0 x1 x2 true (IntKind.wrap .i64 (x4 + 1)) (x5 ++ ((x1, x2) :: []))) else none else none else none) else
        bif (decide (0 ≤ x4)) then
        bif (decide (x4 < (((List.length x0) : Nat) : Int))) then
        bif (Bool.not (seq_ (List.getD x0 (Int.toNat x4) ((bs []), (bs []))).1 x1)) then (
          bif (decide (0 ≤ x4)) then
          bif (decide (x4 < (((List.length x0) : Nat) : Int))) then
          bif (decide ((((List.length x5) + (List.length (((List.getD x0 (Int.toNat x4) ((bs []), (bs []))).1, (List.getD x0 (Int.toNat x4) ((bs []), (bs []))).2) :: []))) * 32) ≤ 140737488355328)) then
          rec (.L0 x0 x1 x2 x3 (IntKind.wrap .i64 (x4 + 1)) (x5 ++ (((List.getD x0 (Int.toNat x4) ((bs []), (bs []))).1, (List.getD x0 (Int.toNat x4) ((bs []), (bs []))).2) :: []))) else none else none else none) else
        rec (.L0 x0 x1 x2 x3 (IntKind.wrap .i64 (x4 + 1)) x5) else none else none else none else none) else
      bif (decide (0 ≤ x4)) then
      bif (decide (x4 < (((List.length x0) : Nat) : Int))) then
      bif (Bool.not (seq_ (List.getD x0 (Int.toNat x4) ((bs []), (bs []))).1 x1)) then (
        bif (decide (0 ≤ x4)) then
        bif (decide (x4 < (((List.length x0) : Nat) : Int))) then
        bif (decide ((((List.length x5) + (List.length (((List.getD x0 (Int.toNat x4) ((bs []), (bs []))).1, (List.getD x0 (Int.toNat x4) ((bs []), (bs []))).2) :: []))) * 32) ≤ 140737488355328)) then
        rec (.L0 x0 x1 x2 x3 (IntKind.wrap .i64 (x4 + 1)) (x5 ++ (((List.getD x0 (Int.toNat x4) ((bs []), (bs []))).1, (List.getD x0 (Int.toNat x4) ((bs []), (bs []))).2) :: []))) else none else none else none) else
      rec (.L0 x0 x1 x2 x3 (IntKind.wrap .i64 (x4 + 1)) x5) else none else none) else
    bif (Bool.not x3) then (
      bif (decide ((((List.length x5) + (List.length ((x1, x2) :: []))) * 32) ≤ 140737488355328)) then
      some (((x5 ++ ((x1, x2) :: [])), true), ()) else none) else
    some ((x5, true), ())
def spec_LabelSet.body (S_spec_NameOk : (ByteArray) → Option ((Bool) × Unit)) (S_spec_LabelGet : ((List (ByteArray × ByteArray)) × ByteArray) → Option ((ByteArray × Bool) × Unit)) (S_spec_LabelsOk : ((List (ByteArray × ByteArray))) → Option ((Bool) × Unit)) (S_spec_l1Labels : ((List (ByteArray × ByteArray))) → Option (((List (ByteArray × ByteArray))) × Unit)) (rec : spec_LabelSet.L → Option (((List (ByteArray × ByteArray)) × Bool) × Unit)) (p0 : (List (ByteArray × ByteArray))) (p1 : ByteArray) (p2 : ByteArray) : Option (((List (ByteArray × ByteArray)) × Bool) × Unit) :=
  (S_spec_LabelGet (p0, p1)).bind fun y0 =>
  (S_spec_LabelsOk p0).bind fun y1 =>
  bif (Bool.not y1.1) then (
    (S_spec_l1Labels p0).bind fun y7 =>
    some ((y7.1, false), ())) else
  (S_spec_NameOk p1).bind fun y2 =>
  bif (Bool.not y2.1) then (
    (S_spec_l1Labels p0).bind fun y6 =>
    some ((y6.1, false), ())) else
  (S_spec_NameOk p2).bind fun y3 =>
  bif (Bool.not y3.1) then (
    (S_spec_l1Labels p0).bind fun y5 =>
    some ((y5.1, false), ())) else
  bif (Bool.not y0.1.2) then (
    bif ((((List.length p0) : Nat) : Int) == 8) then (
      (S_spec_l1Labels p0).bind fun y4 =>
      some ((y4.1, false), ())) else
    rec (.L0 p0 p1 p2 false 0 [])) else
  rec (.L0 p0 p1 p2 false 0 [])
noncomputable def spec_LabelSet.code : Code := (Go.Proofs.Tryd.f75.body).getD .skip
noncomputable def spec_LabelSet.E (S_spec_NameOk : (ByteArray) → Option ((Bool) × Unit)) (S_spec_LabelGet : ((List (ByteArray × ByteArray)) × ByteArray) → Option ((ByteArray × Bool) × Unit)) (S_spec_LabelsOk : ((List (ByteArray × ByteArray))) → Option ((Bool) × Unit)) (S_spec_l1Labels : ((List (ByteArray × ByteArray))) → Option (((List (ByteArray × ByteArray))) × Unit)) : Env (((List (ByteArray × ByteArray)) × Bool) × Unit) := mkE tt (fun _ => [row 66 sg_spec_NameOk S_spec_NameOk, row 87 sg_spec_LabelGet S_spec_LabelGet, row 88 sg_spec_LabelsOk S_spec_LabelsOk, row 89 sg_spec_l1Labels S_spec_l1Labels]) [(7, ⟨[0, 1, 2, 10, 11, 12], [], []⟩)] [] sg_spec_LabelSet Go.Proofs.Tryd.f75.results.toList
noncomputable def spec_LabelSet.dec : spec_LabelSet.L → List Item × St
  | .L0 x0 x1 x2 x3 x4 x5 => (itemsAt 7 spec_LabelSet.code [], ⟨slotsAt 90 [(0, .slc 77 (.pair .str .str) x0), (1, .str x1), (2, .str x2), (10, .own 0), (11, .bool x3), (12, .int .i64 x4)], [.row 77 (.pair .str .str) x5]⟩)
theorem spec_LabelSet.step_eq (S_spec_NameOk : (ByteArray) → Option ((Bool) × Unit)) (S_spec_LabelGet : ((List (ByteArray × ByteArray)) × ByteArray) → Option ((ByteArray × Bool) × Unit)) (S_spec_LabelsOk : ((List (ByteArray × ByteArray))) → Option ((Bool) × Unit)) (S_spec_l1Labels : ((List (ByteArray × ByteArray))) → Option (((List (ByteArray × ByteArray))) × Unit)) (again : List Item → St → Option (((List (ByteArray × ByteArray)) × Bool) × Unit)) : ∀ l, run1 (spec_LabelSet.E S_spec_NameOk S_spec_LabelGet S_spec_LabelsOk S_spec_l1Labels) again (spec_LabelSet.dec l).1 (spec_LabelSet.dec l).2 = spec_LabelSet.step S_spec_NameOk S_spec_LabelGet S_spec_LabelsOk S_spec_l1Labels (fun l => again (spec_LabelSet.dec l).1 (spec_LabelSet.dec l).2) l
  | .L0 x0 x1 x2 x3 x4 x5 => by kernel_rfl
theorem spec_LabelSet.body_eq (S_spec_NameOk : (ByteArray) → Option ((Bool) × Unit)) (S_spec_LabelGet : ((List (ByteArray × ByteArray)) × ByteArray) → Option ((ByteArray × Bool) × Unit)) (S_spec_LabelsOk : ((List (ByteArray × ByteArray))) → Option ((Bool) × Unit)) (S_spec_l1Labels : ((List (ByteArray × ByteArray))) → Option (((List (ByteArray × ByteArray))) × Unit)) (again : List Item → St → Option (((List (ByteArray × ByteArray)) × Bool) × Unit)) (p0 : (List (ByteArray × ByteArray))) (p1 : ByteArray) (p2 : ByteArray) : eval0 (spec_LabelSet.E S_spec_NameOk S_spec_LabelGet S_spec_LabelsOk S_spec_l1Labels) again spec_LabelSet.code 90 (encs 0 (Sig.args sg_spec_LabelSet) (p0, p1, p2)).1 (encs 0 (Sig.args sg_spec_LabelSet) (p0, p1, p2)).2 = spec_LabelSet.body S_spec_NameOk S_spec_LabelGet S_spec_LabelsOk S_spec_l1Labels (fun l => again (spec_LabelSet.dec l).1 (spec_LabelSet.dec l).2) p0 p1 p2 := by kernel_rfl
theorem spec_LabelSet.con (S_spec_NameOk : (ByteArray) → Option ((Bool) × Unit)) (S_spec_LabelGet : ((List (ByteArray × ByteArray)) × ByteArray) → Option ((ByteArray × Bool) × Unit)) (S_spec_LabelsOk : ((List (ByteArray × ByteArray))) → Option ((Bool) × Unit)) (S_spec_l1Labels : ((List (ByteArray × ByteArray))) → Option (((List (ByteArray × ByteArray))) × Unit)) (h_spec_NameOk : Con Go.Proofs.Tryd.prog 66 sg_spec_NameOk S_spec_NameOk) (h_spec_LabelGet : Con Go.Proofs.Tryd.prog 87 sg_spec_LabelGet S_spec_LabelGet) (h_spec_LabelsOk : Con Go.Proofs.Tryd.prog 88 sg_spec_LabelsOk S_spec_LabelsOk) (h_spec_l1Labels : Con Go.Proofs.Tryd.prog 89 sg_spec_l1Labels S_spec_l1Labels) (n : Nat) : Con Go.Proofs.Tryd.prog 75 sg_spec_LabelSet (fun (p0, p1, p2) => spec_LabelSet.body S_spec_NameOk S_spec_LabelGet S_spec_LabelsOk S_spec_l1Labels (go (spec_LabelSet.step S_spec_NameOk S_spec_LabelGet S_spec_LabelsOk S_spec_l1Labels) n) p0 p1 p2) :=
  Con.of_eval (t := fun _ => [row 66 sg_spec_NameOk S_spec_NameOk, row 87 sg_spec_LabelGet S_spec_LabelGet, row 88 sg_spec_LabelsOk S_spec_LabelsOk, row 89 sg_spec_l1Labels S_spec_l1Labels]) mixed ttok (fun _ => (.cons callable66 h_spec_NameOk (.cons callable87 h_spec_LabelGet (.cons callable88 h_spec_LabelsOk (.cons callable89 h_spec_l1Labels .nil))))) Go.Proofs.Tryd.func75 (c := spec_LabelSet.code) (by kernel_rfl) (fun (p0, p1, p2) y h => ⟨n, (evalFn_go (spec_LabelSet.step_eq S_spec_NameOk S_spec_LabelGet S_spec_LabelsOk S_spec_l1Labels) (body := fun rec => spec_LabelSet.body S_spec_NameOk S_spec_LabelGet S_spec_LabelsOk S_spec_l1Labels rec p0 p1 p2) (fun again => spec_LabelSet.body_eq S_spec_NameOk S_spec_LabelGet S_spec_LabelsOk S_spec_l1Labels again p0 p1 p2) n).trans h⟩)

/-! ### spec_l4CopyO -/
inductive spec_l4CopyO.L where
  | L0 (x0 : Int) (x1 : Int) (x2 : ByteArray) (x3 : Int) (x4 : List ByteArray) (x5 : List GVal) (x6 : Int) (x7 : ByteArray) (x8 : Int) (x9 : Int) (x10 : ByteArray) (x11 : Int) (x12 : List ByteArray) (x13 : List GVal)
def spec_l4CopyO.step (S_spec_l4Copy : (GVal) → Option ((GVal) × Unit)) (rec : spec_l4CopyO.L → Option ((GVal) × Unit)) : spec_l4CopyO.L → Option ((GVal) × Unit)
  | .L0 x0 x1 x2 x3 x4 x5 x6 x7 x8 x9 x10 x11 x12 x13 =>
    bif (decide (x0 < (((List.length x5) : Nat) : Int))) then (
      bif (decide (0 ≤ x0)) then
      bif (decide (x0 < (((List.length x5) : Nat) : Int))) then
      (S_spec_l4Copy (re (List.getD x5 (Int.toNat x0) (GVal.zero )))).bind fun y0 =>
      bif (decide ((((List.length x13) + (List.length ((re y0.1) :: []))) * 80) ≤ 140737488355328)) then
      rec (.L0 (IntKind.wrap .i64 (x0 + 1)) x1 x2 x3 x4 x5 x6 x7 x8 x9 x10 x11 x12 (x13 ++ ((re y0.1) :: []))) else none else none else none) else
    some ((GVal.mk x9 x10 x11 x12 x13), ())
def spec_l4CopyO.body (S_spec_l4Copy : (GVal) → Option ((GVal) × Unit)) (rec : spec_l4CopyO.L → Option ((GVal) × Unit)) (p0 : GVal) : Option ((GVal) × Unit) :=
  bif (decide (((0 + (List.length p0.keys)) * 16) ≤ 140737488355328)) then
  rec (.L0 0 p0.kind p0.text p0.num p0.keys p0.kids 0 (bs []) 0 p0.kind p0.text p0.num ([] ++ p0.keys) []) else none
noncomputable def spec_l4CopyO.code : Code := (Go.Proofs.Tryd.f59.body).getD .skip
noncomputable def spec_l4CopyO.E (S_spec_l4Copy : (GVal) → Option ((GVal) × Unit)) : Env ((GVal) × Unit) := mkE tt (fun _ => [row 59 sg_spec_l4Copy S_spec_l4Copy]) [(3, ⟨[1, 2, 3, 4], [], [(3, 4, .own 27 (.gval 9 27))]⟩)] [] sg_spec_l4CopyO Go.Proofs.Tryd.f59.results.toList
noncomputable def spec_l4CopyO.dec : spec_l4CopyO.L → List Item × St
  | .L0 x0 x1 x2 x3 x4 x5 x6 x7 x8 x9 x10 x11 x12 x13 => (itemsAt 3 spec_l4CopyO.code [], ⟨slotsAt 35 [(1, .ptr 0 0), (2, .ptr 1 0), (3, .ptr 2 0), (4, .int .i64 x0)], [.cells 27 [.int .i64 x1, .str x2, .int .i64 x3, .slc 9 .str x4, .slc 27 (.gval 9 27) x5], .cells 27 [.int .i64 x6, .str x7, .int .i64 x8, .nils, .nils], .cells 27 [.int .i64 x9, .str x10, .int .i64 x11, .own 3, .own 4], .row 9 .str x12, .row 27 (.gval 9 27) x13]⟩)
theorem spec_l4CopyO.step_eq (S_spec_l4Copy : (GVal) → Option ((GVal) × Unit)) (again : List Item → St → Option ((GVal) × Unit)) : ∀ l, run1 (spec_l4CopyO.E S_spec_l4Copy) again (spec_l4CopyO.dec l).1 (spec_l4CopyO.dec l).2 = spec_l4CopyO.step S_spec_l4Copy (fun l => again (spec_l4CopyO.dec l).1 (spec_l4CopyO.dec l).2) l
  | .L0 x0 x1 x2 x3 x4 x5 x6 x7 x8 x9 x10 x11 x12 x13 => by kernel_rfl
theorem spec_l4CopyO.body_eq (S_spec_l4Copy : (GVal) → Option ((GVal) × Unit)) (again : List Item → St → Option ((GVal) × Unit)) (p0 : GVal) : eval0 (spec_l4CopyO.E S_spec_l4Copy) again spec_l4CopyO.code 35 (encs 0 (Sig.args sg_spec_l4CopyO) p0).1 (encs 0 (Sig.args sg_spec_l4CopyO) p0).2 = spec_l4CopyO.body S_spec_l4Copy (fun l => again (spec_l4CopyO.dec l).1 (spec_l4CopyO.dec l).2) p0 := by kernel_rfl
theorem spec_l4CopyO.con (S_spec_l4Copy : (GVal) → Option ((GVal) × Unit)) (h_spec_l4Copy : Con Go.Proofs.Tryd.prog 59 sg_spec_l4Copy S_spec_l4Copy) (n : Nat) : Con Go.Proofs.Tryd.prog 59 sg_spec_l4CopyO (fun p0 => spec_l4CopyO.body S_spec_l4Copy (go (spec_l4CopyO.step S_spec_l4Copy) n) p0) :=
  Con.of_eval (t := fun _ => [row 59 sg_spec_l4Copy S_spec_l4Copy]) mixed ttok (fun _ => (.cons callable59 h_spec_l4Copy .nil)) Go.Proofs.Tryd.func59 (c := spec_l4CopyO.code) (by kernel_rfl) (fun p0 y h => ⟨n, (evalFn_go (spec_l4CopyO.step_eq S_spec_l4Copy) (body := fun rec => spec_l4CopyO.body S_spec_l4Copy rec p0) (fun again => spec_l4CopyO.body_eq S_spec_l4Copy again p0) n).trans h⟩)

end Go.Proofs.YtgbfelpdlekbkaaDoor
