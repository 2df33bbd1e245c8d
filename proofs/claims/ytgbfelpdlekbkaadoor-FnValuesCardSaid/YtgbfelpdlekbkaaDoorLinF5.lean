/- Go functions as plain functions, and that they are so. -/
import Derived.Test.YtgbfelpdlekbkaaDoorLinS
set_option linter.unusedVariables false
set_option linter.unusedSimpArgs false
set_option linter.unusedVariables false
namespace Go.Proofs.YtgbfelpdlekbkaaDoor
open Go Go.Proofs Go.Lin
/-! ### impl_ValueOk -/
def impl_ValueOk.body (S_impl_measured : (GVal × Int) → Option ((Int) × Unit))  (p0 : GVal) : Option ((Bool) × Unit) :=
  (S_impl_measured ((re p0), 6)).bind fun y0 =>
  some ((decide (y0.1 ≤ 300)), ())
noncomputable def impl_ValueOk.code : Code := (Go.Proofs.Tryd.f9.body).getD .skip
noncomputable def impl_ValueOk.E (S_impl_measured : (GVal × Int) → Option ((Int) × Unit)) : Env ((Bool) × Unit) := mkE tt (fun _ => [row 21 sg_impl_measured S_impl_measured]) [] [] sg_impl_ValueOk Go.Proofs.Tryd.f9.results.toList
theorem impl_ValueOk.body_eq (S_impl_measured : (GVal × Int) → Option ((Int) × Unit)) (again : List Item → St → Option ((Bool) × Unit)) (p0 : GVal) : eval0 (impl_ValueOk.E S_impl_measured) again impl_ValueOk.code 6 (encs 0 (Sig.args sg_impl_ValueOk) p0).1 (encs 0 (Sig.args sg_impl_ValueOk) p0).2 = impl_ValueOk.body S_impl_measured  p0 := by kernel_rfl
theorem impl_ValueOk.con (S_impl_measured : (GVal × Int) → Option ((Int) × Unit)) (h_impl_measured : Con Go.Proofs.Tryd.prog 21 sg_impl_measured S_impl_measured)  : Con Go.Proofs.Tryd.prog 9 sg_impl_ValueOk (fun p0 => impl_ValueOk.body S_impl_measured  p0) :=
  Con.of_eval (t := fun _ => [row 21 sg_impl_measured S_impl_measured]) mixed ttok (fun _ => (.cons callable21 h_impl_measured .nil)) Go.Proofs.Tryd.func9 (c := impl_ValueOk.code) (by kernel_rfl) (fun p0 y h => ⟨0, (impl_ValueOk.body_eq S_impl_measured _ p0).trans h⟩)

/-! ### spec_l1New -/
inductive spec_l1New.L where
  | L0 (x0 : List Int) (x1 : Int) (x2 : Int)
def spec_l1New.step  (rec : spec_l1New.L → Option ((((List Int) × (Int × Int))) × Unit)) : spec_l1New.L → Option ((((List Int) × (Int × Int))) × Unit)
  | .L0 x0 x1 x2 =>
    bif (decide (x2 < (((List.length x0) : Nat) : Int))) then (
      bif (decide (x2 < 4000)) then (
        bif (decide (0 ≤ x2)) then
        bif (decide (x2 < (((List.length x0) : Nat) : Int))) then
        rec (.L0 x0 (iand .i64 (IntKind.wrap .i64 ((IntKind.wrap .i64 ((IntKind.wrap .i64 (x1 * 137)) + (IntKind.wrap .i64 (List.getD x0 (Int.toNat x2) 0)))) + 11)) 1073741823) (IntKind.wrap .i64 (x2 + 1))) else none else none) else
      some ((x0, (0, x1)), ())) else
    some ((x0, (0, x1)), ())
def spec_l1New.body  (rec : spec_l1New.L → Option ((((List Int) × (Int × Int))) × Unit)) (p0 : (List Int)) : Option ((((List Int) × (Int × Int))) × Unit) :=
  rec (.L0 p0 (IntKind.wrap .i64 (138138 + (((List.length p0) : Nat) : Int))) 0)
noncomputable def spec_l1New.code : Code := (Go.Proofs.Tryd.f17.body).getD .skip
noncomputable def spec_l1New.E  : Env ((((List Int) × (Int × Int))) × Unit) := mkE tt (fun _ => []) [(3, ⟨[0, 3, 4], [], []⟩)] [] sg_spec_l1New Go.Proofs.Tryd.f17.results.toList
noncomputable def spec_l1New.dec : spec_l1New.L → List Item × St
  | .L0 x0 x1 x2 => (itemsAt 3 spec_l1New.code [], ⟨slotsAt 32 [(0, .slc 5 (.int .u8) x0), (3, .int .i64 x1), (4, .int .i64 x2)], []⟩)
theorem spec_l1New.step_eq  (again : List Item → St → Option ((((List Int) × (Int × Int))) × Unit)) : ∀ l, run1 (spec_l1New.E ) again (spec_l1New.dec l).1 (spec_l1New.dec l).2 = spec_l1New.step  (fun l => again (spec_l1New.dec l).1 (spec_l1New.dec l).2) l
  | .L0 x0 x1 x2 => by kernel_rfl
theorem spec_l1New.body_eq  (again : List Item → St → Option ((((List Int) × (Int × Int))) × Unit)) (p0 : (List Int)) : eval0 (spec_l1New.E ) again spec_l1New.code 32 (encs 0 (Sig.args sg_spec_l1New) p0).1 (encs 0 (Sig.args sg_spec_l1New) p0).2 = spec_l1New.body  (fun l => again (spec_l1New.dec l).1 (spec_l1New.dec l).2) p0 := by kernel_rfl
theorem spec_l1New.con   (n : Nat) : Con Go.Proofs.Tryd.prog 17 sg_spec_l1New (fun p0 => spec_l1New.body  (go (spec_l1New.step ) n) p0) :=
  Con.of_eval (t := fun _ => []) mixed ttok (fun _ => .nil) Go.Proofs.Tryd.func17 (c := spec_l1New.code) (by kernel_rfl) (fun p0 y h => ⟨n, (evalFn_go (spec_l1New.step_eq ) (body := fun rec => spec_l1New.body  rec p0) (fun again => spec_l1New.body_eq  again p0) n).trans h⟩)

/-! ### slices_Equal_string -/
inductive slices_Equal_string.L where
  | L0 (x0 : List ByteArray) (x1 : List ByteArray) (x2 : Int) (x3 : Int)
def slices_Equal_string.step  (rec : slices_Equal_string.L → Option ((Bool) × Unit)) : slices_Equal_string.L → Option ((Bool) × Unit)
  | .L0 x0 x1 x2 x3 =>
    bif (decide (x3 < x2)) then (
      bif (decide (0 ≤ x3)) then
      bif (decide (x3 < (((List.length x0) : Nat) : Int))) then
      bif (decide (0 ≤ x3)) then
      bif (decide (x3 < (((List.length x1) : Nat) : Int))) then
      bif (Bool.not (seq_ (List.getD x0 (Int.toNat x3) (bs [])) (List.getD x1 (Int.toNat x3) (bs [])))) then (
        some (false, ())) else
      rec (.L0 x0 x1 x2 (IntKind.wrap .i64 (x3 + 1))) else none else none else none else none) else
    some (true, ())
def slices_Equal_string.body  (rec : slices_Equal_string.L → Option ((Bool) × Unit)) (p0 : (List ByteArray)) (p1 : (List ByteArray)) : Option ((Bool) × Unit) :=
  bif ((((List.length p0) : Nat) : Int) != (((List.length p1) : Nat) : Int)) then (
    some (false, ())) else
  rec (.L0 p0 p1 (((List.length p0) : Nat) : Int) 0)
noncomputable def slices_Equal_string.code : Code := (Go.Proofs.Tryd.f23.body).getD .skip
noncomputable def slices_Equal_string.E  : Env ((Bool) × Unit) := mkE tt (fun _ => []) [(4, ⟨[0, 1, 12, 13], [], []⟩)] [] sg_slices_Equal_string Go.Proofs.Tryd.f23.results.toList
noncomputable def slices_Equal_string.dec : slices_Equal_string.L → List Item × St
  | .L0 x0 x1 x2 x3 => (itemsAt 4 slices_Equal_string.code [], ⟨slotsAt 26 [(0, .slc 9 .str x0), (1, .slc 9 .str x1), (12, .int .i64 x2), (13, .int .i64 x3)], []⟩)
theorem slices_Equal_string.step_eq  (again : List Item → St → Option ((Bool) × Unit)) : ∀ l, run1 (slices_Equal_string.E ) again (slices_Equal_string.dec l).1 (slices_Equal_string.dec l).2 = slices_Equal_string.step  (fun l => again (slices_Equal_string.dec l).1 (slices_Equal_string.dec l).2) l
  | .L0 x0 x1 x2 x3 => by kernel_rfl
theorem slices_Equal_string.body_eq  (again : List Item → St → Option ((Bool) × Unit)) (p0 : (List ByteArray)) (p1 : (List ByteArray)) : eval0 (slices_Equal_string.E ) again slices_Equal_string.code 26 (encs 0 (Sig.args sg_slices_Equal_string) (p0, p1)).1 (encs 0 (Sig.args sg_slices_Equal_string) (p0, p1)).2 = slices_Equal_string.body  (fun l => again (slices_Equal_string.dec l).1 (slices_Equal_string.dec l).2) p0 p1 := by kernel_rfl
theorem slices_Equal_string.con   (n : Nat) : Con Go.Proofs.Tryd.prog 23 sg_slices_Equal_string (fun (p0, p1) => slices_Equal_string.body  (go (slices_Equal_string.step ) n) p0 p1) :=
  Con.of_eval (t := fun _ => []) mixed ttok (fun _ => .nil) Go.Proofs.Tryd.func23 (c := slices_Equal_string.code) (by kernel_rfl) (fun (p0, p1) y h => ⟨n, (evalFn_go (slices_Equal_string.step_eq ) (body := fun rec => slices_Equal_string.body  rec p0 p1) (fun again => slices_Equal_string.body_eq  again p0 p1) n).trans h⟩)

/-! ### spec_l4Draw -/
inductive spec_l4Draw.L where
  | L0 (x0 : Int) (x1 : Int) (x2 : List Int) (x3 : Int) (x4 : Int) (x5 : Int) (x6 : ByteArray) (x7 : Int) (x8 : Int) (x9 : ByteArray) (x10 : Int) (x11 : List GVal)
  | L1 (x0 : Int) (x1 : List (ByteArray × ByteArray)) (x2 : Int) (x3 : List Int) (x4 : Int) (x5 : Int) (x6 : Int) (x7 : ByteArray) (x8 : Int) (x9 : Int) (x10 : ByteArray) (x11 : Int) (x12 : List ByteArray) (x13 : List GVal)
def spec_l4Draw.step (S_spec_l4Draw : (((List Int) × (Int × Int)) × Int) → Option ((GVal) × ((List Int) × (Int × Int)))) (S_spec_l1Below : (((List Int) × (Int × Int)) × Int) → Option ((Int) × ((List Int) × (Int × Int)))) (S_spec_l1Str : (((List Int) × (Int × Int)) × (List ByteArray)) → Option ((ByteArray) × ((List Int) × (Int × Int)))) (S_spec_l1Int : (((List Int) × (Int × Int)) × (List Int)) → Option ((Int) × ((List Int) × (Int × Int)))) (S_spec_l1Draw : (((List Int) × (Int × Int)) × Int) → Option (((List (ByteArray × ByteArray))) × ((List Int) × (Int × Int)))) (rec : spec_l4Draw.L → Option ((GVal) × ((List Int) × (Int × Int)))) : spec_l4Draw.L → Option ((GVal) × ((List Int) × (Int × Int)))
  | .L0 x0 x1 x2 x3 x4 x5 x6 x7 x8 x9 x10 x11 =>
    bif (decide (0 < x1)) then (
      (S_spec_l4Draw ((x2, (x3, x4)), (IntKind.wrap .i64 (x0 - 1)))).bind fun y0 =>
      bif (decide ((((List.length x11) + (List.length ((re y0.1) :: []))) * 80) ≤ 140737488355328)) then
      rec (.L0 x0 (IntKind.wrap .i64 (x1 - 1)) y0.2.1 y0.2.2.1 y0.2.2.2 x5 x6 x7 x8 x9 x10 (x11 ++ ((re y0.1) :: []))) else none) else
    some ((GVal.mk x8 x9 x10 [] x11), (x2, (x3, x4)))
  | .L1 x0 x1 x2 x3 x4 x5 x6 x7 x8 x9 x10 x11 x12 x13 =>
    bif (decide (x2 < (((List.length x1) : Nat) : Int))) then (
      bif (decide (0 ≤ x2)) then
      bif (decide (x2 < (((List.length x1) : Nat) : Int))) then
      bif (decide ((((List.length x12) + (List.length ((List.getD x1 (Int.toNat x2) ((bs []), (bs []))).1 :: []))) * 16) ≤ 140737488355328)) then
      (S_spec_l4Draw ((x3, (x4, x5)), (IntKind.wrap .i64 (x0 - 1)))).bind fun y0 =>
      bif (decide ((((List.length x13) + (List.length ((re y0.1) :: []))) * 80) ≤ 140737488355328)) then
      rec (.L1 x0 x1 (IntKind.wrap .i64 (x2 + 1)) y0.2.1 y0.2.2.1 y0.2.2.2 x6 x7 x8 x9 x10 x11 (x12 ++ ((List.getD x1 (Int.toNat x2) ((bs []), (bs []))).1 :: [])) (x13 ++ ((re y0.1) :: []))) else none else none else none else none) else
    some ((GVal.mk x9 x10 x11 x12 x13), (x3, (x4, x5)))
def spec_l4Draw.body (S_spec_l4Draw : (((List Int) × (Int × Int)) × Int) → Option ((GVal) × ((List Int) × (Int × Int)))) (S_spec_l1Below : (((List Int) × (Int × Int)) × Int) → Option ((Int) × ((List Int) × (Int × Int)))) (S_spec_l1Str : (((List Int) × (Int × Int)) × (List ByteArray)) → Option ((ByteArray) × ((List Int) × (Int × Int)))) (S_spec_l1Int : (((List Int) × (Int × Int)) × (List Int)) → Option ((Int) × ((List Int) × (Int × Int)))) (S_spec_l1Draw : (((List Int) × (Int × Int)) × Int) → Option (((List (ByteArray × ByteArray))) × ((List Int) × (Int × Int)))) (rec : spec_l4Draw.L → Option ((GVal) × ((List Int) × (Int × Int)))) (p0a : (List Int)) (p0ba : Int) (p0bb : Int) (p1 : Int) : Option ((GVal) × ((List Int) × (Int × Int))) :=
  (S_spec_l1Below ((p0a, (p0ba, p0bb)), 5)).bind fun y0 =>
  bif (decide (p1 ≤ 1)) then (
    bif (decide (3 < (IntKind.wrap .i64 (1 + y0.1)))) then (
      (S_spec_l1Int ((y0.2.1, (y0.2.2.1, y0.2.2.2)), (0 :: (1 :: (80 :: ((-5) :: (9223372036854775807 :: [(-9223372036854775808)]))))))).bind fun y11 =>
      some ((GVal.mk 2 (bs []) y11.1 [] []), (y11.2.1, (y11.2.2.1, y11.2.2.2)))) else
    bif ((IntKind.wrap .i64 (1 + y0.1)) == 1) then (
      (S_spec_l1Str ((y0.2.1, (y0.2.2.1, y0.2.2.2)), ((bs []) :: ((bs [97]) :: ((bs [120, 32, 121]) :: ((bs [34]) :: ((bs [92, 110]) :: [(bs [105, 109, 97, 103, 101, 58, 49])]))))))).bind fun y10 =>
      some ((GVal.mk (IntKind.wrap .i64 (1 + y0.1)) y10.1 0 [] []), (y10.2.1, (y10.2.2.1, y10.2.2.2)))) else
    bif ((IntKind.wrap .i64 (1 + y0.1)) == 2) then (
      (S_spec_l1Int ((y0.2.1, (y0.2.2.1, y0.2.2.2)), (0 :: (1 :: (80 :: ((-5) :: (9223372036854775807 :: [(-9223372036854775808)]))))))).bind fun y9 =>
      some ((GVal.mk (IntKind.wrap .i64 (1 + y0.1)) (bs []) y9.1 [] []), (y9.2.1, (y9.2.2.1, y9.2.2.2)))) else
    bif ((IntKind.wrap .i64 (1 + y0.1)) == 3) then (
      (S_spec_l1Below ((y0.2.1, (y0.2.2.1, y0.2.2.2)), 2)).bind fun y8 =>
      some ((GVal.mk (IntKind.wrap .i64 (1 + y0.1)) (bs []) y8.1 [] []), (y8.2.1, (y8.2.2.1, y8.2.2.2)))) else
    bif ((IntKind.wrap .i64 (1 + y0.1)) == 4) then (
      (S_spec_l1Below ((y0.2.1, (y0.2.2.1, y0.2.2.2)), 4)).bind fun y7 =>
      rec (.L0 p1 y7.1 y7.2.1 y7.2.2.1 y7.2.2.2 0 (bs []) 0 (IntKind.wrap .i64 (1 + y0.1)) (bs []) 0 [])) else
    bif ((IntKind.wrap .i64 (1 + y0.1)) == 5) then (
      (S_spec_l1Draw ((y0.2.1, (y0.2.2.1, y0.2.2.2)), 5)).bind fun y6 =>
      rec (.L1 p1 y6.1 0 y6.2.1 y6.2.2.1 y6.2.2.2 0 (bs []) 0 (IntKind.wrap .i64 (1 + y0.1)) (bs []) 0 [] [])) else
    some ((GVal.mk (IntKind.wrap .i64 (1 + y0.1)) (bs []) 0 [] []), (y0.2.1, (y0.2.2.1, y0.2.2.2)))) else
  bif ((IntKind.wrap .i64 (1 + y0.1)) == 1) then (
    (S_spec_l1Str ((y0.2.1, (y0.2.2.1, y0.2.2.2)), ((bs []) :: ((bs [97]) :: ((bs [120, 32, 121]) :: ((bs [34]) :: ((bs [92, 110]) :: [(bs [105, 109, 97, 103, 101, 58, 49])]))))))).bind fun y5 =>
    some ((GVal.mk (IntKind.wrap .i64 (1 + y0.1)) y5.1 0 [] []), (y5.2.1, (y5.2.2.1, y5.2.2.2)))) else
  bif ((IntKind.wrap .i64 (1 + y0.1)) == 2) then (
    (S_spec_l1Int ((y0.2.1, (y0.2.2.1, y0.2.2.2)), (0 :: (1 :: (80 :: ((-5) :: (9223372036854775807 :: [(-9223372036854775808)]))))))).bind fun y4 =>
    some ((GVal.mk (IntKind.wrap .i64 (1 + y0.1)) (bs []) y4.1 [] []), (y4.2.1, (y4.2.2.1, y4.2.2.2)))) else
  bif ((IntKind.wrap .i64 (1 + y0.1)) == 3) then (
    (S_spec_l1Below ((y0.2.1, (y0.2.2.1, y0.2.2.2)), 2)).bind fun y3 =>
    some ((GVal.mk (IntKind.wrap .i64 (1 + y0.1)) (bs []) y3.1 [] []), (y3.2.1, (y3.2.2.1, y3.2.2.2)))) else
  bif ((IntKind.wrap .i64 (1 + y0.1)) == 4) then (
    (S_spec_l1Below ((y0.2.1, (y0.2.2.1, y0.2.2.2)), 4)).bind fun y2 =>
    rec (.L0 p1 y2.1 y2.2.1 y2.2.2.1 y2.2.2.2 0 (bs []) 0 (IntKind.wrap .i64 (1 + y0.1)) (bs []) 0 [])) else
  bif ((IntKind.wrap .i64 (1 + y0.1)) == 5) then (
    (S_spec_l1Draw ((y0.2.1, (y0.2.2.1, y0.2.2.2)), 5)).bind fun y1 =>
    rec (.L1 p1 y1.1 0 y1.2.1 y1.2.2.1 y1.2.2.2 0 (bs []) 0 (IntKind.wrap .i64 (1 + y0.1)) (bs []) 0 [] [])) else
  some ((GVal.mk (IntKind.wrap .i64 (1 + y0.1)) (bs []) 0 [] []), (y0.2.1, (y0.2.2.1, y0.2.2.2)))
noncomputable def spec_l4Draw.code : Code := (Go.Proofs.Tryd.f33.body).getD .skip
noncomputable def spec_l4Draw.E (S_spec_l4Draw : (((List Int) × (Int × Int)) × Int) → Option ((GVal) × ((List Int) × (Int × Int)))) (S_spec_l1Below : (((List Int) × (Int × Int)) × Int) → Option ((Int) × ((List Int) × (Int × Int)))) (S_spec_l1Str : (((List Int) × (Int × Int)) × (List ByteArray)) → Option ((ByteArray) × ((List Int) × (Int × Int)))) (S_spec_l1Int : (((List Int) × (Int × Int)) × (List Int)) → Option ((Int) × ((List Int) × (Int × Int)))) (S_spec_l1Draw : (((List Int) × (Int × Int)) × Int) → Option (((List (ByteArray × ByteArray))) × ((List Int) × (Int × Int)))) : Env ((GVal) × ((List Int) × (Int × Int))) := mkE tt (fun _ => [row 33 sg_spec_l4Draw S_spec_l4Draw, row 36 sg_spec_l1Below S_spec_l1Below, row 56 sg_spec_l1Str S_spec_l1Str, row 57 sg_spec_l1Int S_spec_l1Int, row 58 sg_spec_l1Draw S_spec_l1Draw]) [(14, ⟨[0, 1, 4, 6, 7], [], [(6, 4, .own 27 (.gval 9 27))]⟩), (20, ⟨[0, 1, 4, 6, 8, 9], [], [(6, 3, .own 9 .str), (6, 4, .own 27 (.gval 9 27))]⟩)] [] sg_spec_l4Draw Go.Proofs.Tryd.f33.results.toList
noncomputable def spec_l4Draw.dec : spec_l4Draw.L → List Item × St
  | .L0 x0 x1 x2 x3 x4 x5 x6 x7 x8 x9 x10 x11 => (itemsAt 14 spec_l4Draw.code [], ⟨slotsAt 86 [(0, .ptr 0 0), (1, .int .i64 x0), (4, .ptr 1 0), (6, .ptr 2 0), (7, .int .i64 x1)], [.cells 54 [.slc 5 (.int .u8) x2, .int .i64 x3, .int .i64 x4], .cells 27 [.int .i64 x5, .str x6, .int .i64 x7, .nils, .nils], .cells 27 [.int .i64 x8, .str x9, .int .i64 x10, .nils, .own 3], .row 27 (.gval 9 27) x11]⟩)
  | .L1 x0 x1 x2 x3 x4 x5 x6 x7 x8 x9 x10 x11 x12 x13 => (itemsAt 20 spec_l4Draw.code [], ⟨slotsAt 86 [(0, .ptr 0 0), (1, .int .i64 x0), (4, .ptr 1 0), (6, .ptr 2 0), (8, .slc 77 (.pair .str .str) x1), (9, .int .i64 x2)], [.cells 54 [.slc 5 (.int .u8) x3, .int .i64 x4, .int .i64 x5], .cells 27 [.int .i64 x6, .str x7, .int .i64 x8, .nils, .nils], .cells 27 [.int .i64 x9, .str x10, .int .i64 x11, .own 3, .own 4], .row 9 .str x12, .row 27 (.gval 9 27) x13]⟩)
theorem spec_l4Draw.step_eq (S_spec_l4Draw : (((List Int) × (Int × Int)) × Int) → Option ((GVal) × ((List Int) × (Int × Int)))) (S_spec_l1Below : (((List Int) × (Int × Int)) × Int) → Option ((Int) × ((List Int) × (Int × Int)))) (S_spec_l1Str : (((List Int) × (Int × Int)) × (List ByteArray)) → Option ((ByteArray) × ((List Int) × (Int × Int)))) (S_spec_l1Int : (((List Int) × (Int × Int)) × (List Int)) → Option ((Int) × ((List Int) × (Int × Int)))) (S_spec_l1Draw : (((List Int) × (Int × Int)) × Int) → Option (((List (ByteArray × ByteArray))) × ((List Int) × (Int × Int)))) (again : List Item → St → Option ((GVal) × ((List Int) × (Int × Int)))) : ∀ l, run1 (spec_l4Draw.E S_spec_l4Draw S_spec_l1Below S_spec_l1Str S_spec_l1Int S_spec_l1Draw) again (spec_l4Draw.dec l).1 (spec_l4Draw.dec l).2 = spec_l4Draw.step S_spec_l4Draw S_spec_l1Below S_spec_l1Str S_spec_l1Int S_spec_l1Draw (fun l => again (spec_l4Draw.dec l).1 (spec_l4Draw.dec l).2) l
  | .L0 x0 x1 x2 x3 x4 x5 x6 x7 x8 x9 x10 x11 => by kernel_rfl
  | .L1 x0 x1 x2 x3 x4 x5 x6 x7 x8 x9 x10 x11 x12 x13 => by kernel_rfl
theorem spec_l4Draw.body_eq (S_spec_l4Draw : (((List Int) × (Int × Int)) × Int) → Option ((GVal) × ((List Int) × (Int × Int)))) (S_spec_l1Below : (((List Int) × (Int × Int)) × Int) → Option ((Int) × ((List Int) × (Int × Int)))) (S_spec_l1Str : (((List Int) × (Int × Int)) × (List ByteArray)) → Option ((ByteArray) × ((List Int) × (Int × Int)))) (S_spec_l1Int : (((List Int) × (Int × Int)) × (List Int)) → Option ((Int) × ((List Int) × (Int × Int)))) (S_spec_l1Draw : (((List Int) × (Int × Int)) × Int) → Option (((List (ByteArray × ByteArray))) × ((List Int) × (Int × Int)))) (again : List Item → St → Option ((GVal) × ((List Int) × (Int × Int)))) (p0a : (List Int)) (p0ba : Int) (p0bb : Int) (p1 : Int) : eval0 (spec_l4Draw.E S_spec_l4Draw S_spec_l1Below S_spec_l1Str S_spec_l1Int S_spec_l1Draw) again spec_l4Draw.code 86 (encs 0 (Sig.args sg_spec_l4Draw) ((p0a, (p0ba, p0bb)), p1)).1 (encs 0 (Sig.args sg_spec_l4Draw) ((p0a, (p0ba, p0bb)), p1)).2 = spec_l4Draw.body S_spec_l4Draw S_spec_l1Below S_spec_l1Str S_spec_l1Int S_spec_l1Draw (fun l => again (spec_l4Draw.dec l).1 (spec_l4Draw.dec l).2) p0a p0ba p0bb p1 := by kernel_rfl
theorem spec_l4Draw.con (S_spec_l4Draw : (((List Int) × (Int × Int)) × Int) → Option ((GVal) × ((List Int) × (Int × Int)))) (S_spec_l1Below : (((List Int) × (Int × Int)) × Int) → Option ((Int) × ((List Int) × (Int × Int)))) (S_spec_l1Str : (((List Int) × (Int × Int)) × (List ByteArray)) → Option ((ByteArray) × ((List Int) × (Int × Int)))) (S_spec_l1Int : (((List Int) × (Int × Int)) × (List Int)) → Option ((Int) × ((List Int) × (Int × Int)))) (S_spec_l1Draw : (((List Int) × (Int × Int)) × Int) → Option (((List (ByteArray × ByteArray))) × ((List Int) × (Int × Int)))) (h_spec_l4Draw : Con Go.Proofs.Tryd.prog 33 sg_spec_l4Draw S_spec_l4Draw) (h_spec_l1Below : Con Go.Proofs.Tryd.prog 36 sg_spec_l1Below S_spec_l1Below) (h_spec_l1Str : Con Go.Proofs.Tryd.prog 56 sg_spec_l1Str S_spec_l1Str) (h_spec_l1Int : Con Go.Proofs.Tryd.prog 57 sg_spec_l1Int S_spec_l1Int) (h_spec_l1Draw : Con Go.Proofs.Tryd.prog 58 sg_spec_l1Draw S_spec_l1Draw) (n : Nat) : Con Go.Proofs.Tryd.prog 33 sg_spec_l4Draw (fun ((p0a, (p0ba, p0bb)), p1) => spec_l4Draw.body S_spec_l4Draw S_spec_l1Below S_spec_l1Str S_spec_l1Int S_spec_l1Draw (go (spec_l4Draw.step S_spec_l4Draw S_spec_l1Below S_spec_l1Str S_spec_l1Int S_spec_l1Draw) n) p0a p0ba p0bb p1) :=
  Con.of_eval (t := fun _ => [row 33 sg_spec_l4Draw S_spec_l4Draw, row 36 sg_spec_l1Below S_spec_l1Below, row 56 sg_spec_l1Str S_spec_l1Str, row 57 sg_spec_l1Int S_spec_l1Int, row 58 sg_spec_l1Draw S_spec_l1Draw]) mixed ttok (fun _ => (.cons callable33 h_spec_l4Draw (.cons callable36 h_spec_l1Below (.cons callable56 h_spec_l1Str (.cons callable57 h_spec_l1Int (.cons callable58 h_spec_l1Draw .nil)))))) Go.Proofs.Tryd.func33 (c := spec_l4Draw.code) (by kernel_rfl) (fun ((p0a, (p0ba, p0bb)), p1) y h => ⟨n, (evalFn_go (spec_l4Draw.step_eq S_spec_l4Draw S_spec_l1Below S_spec_l1Str S_spec_l1Int S_spec_l1Draw) (body := fun rec => spec_l4Draw.body S_spec_l4Draw S_spec_l1Below S_spec_l1Str S_spec_l1Int S_spec_l1Draw rec p0a p0ba p0bb p1) (fun again => spec_l4Draw.body_eq S_spec_l4Draw S_spec_l1Below S_spec_l1Str S_spec_l1Int S_spec_l1Draw again p0a p0ba p0bb p1) n).trans h⟩)

/-! ### spec_l4Text -/
inductive spec_l4Text.L where
  | L0 (x0 : ByteArray) (x1 : Int)
def spec_l4Text.step (S_spec_l1In : (Int × Int × Int) → Option ((Bool) × Unit)) (rec : spec_l4Text.L → Option ((Bool) × Unit)) : spec_l4Text.L → Option ((Bool) × Unit)
  | .L0 x0 x1 =>
    bif (decide (x1 < (((ByteArray.size x0) : Nat) : Int))) then (
      bif (decide (0 ≤ x1)) then
      bif (decide (x1 < (((ByteArray.size x0) : Nat) : Int))) then
      (S_spec_l1In ((IntKind.wrap .i64 (bt x0 x1)), (32, 126))).bind fun y0 =>
      bif (Bool.not y0.1) then (
        some (false, ())) else
      rec (.L0 x0 (IntKind.wrap .i64 (x1 + 1))) else none else none) else
    some ((decide ((((ByteArray.size x0) : Nat) : Int) ≤ 100)), ())
def spec_l4Text.body (S_spec_l1In : (Int × Int × Int) → Option ((Bool) × Unit)) (rec : spec_l4Text.L → Option ((Bool) × Unit)) (p0 : ByteArray) : Option ((Bool) × Unit) :=
  rec (.L0 p0 0)
noncomputable def spec_l4Text.code : Code := (Go.Proofs.Tryd.f40.body).getD .skip
noncomputable def spec_l4Text.E (S_spec_l1In : (Int × Int × Int) → Option ((Bool) × Unit)) : Env ((Bool) × Unit) := mkE tt (fun _ => [row 41 sg_spec_l1In S_spec_l1In]) [(2, ⟨[0, 3], [], []⟩)] [] sg_spec_l4Text Go.Proofs.Tryd.f40.results.toList
noncomputable def spec_l4Text.dec : spec_l4Text.L → List Item × St
  | .L0 x0 x1 => (itemsAt 2 spec_l4Text.code [], ⟨slotsAt 19 [(0, .str x0), (3, .int .i64 x1)], []⟩)
theorem spec_l4Text.step_eq (S_spec_l1In : (Int × Int × Int) → Option ((Bool) × Unit)) (again : List Item → St → Option ((Bool) × Unit)) : ∀ l, run1 (spec_l4Text.E S_spec_l1In) again (spec_l4Text.dec l).1 (spec_l4Text.dec l).2 = spec_l4Text.step S_spec_l1In (fun l => again (spec_l4Text.dec l).1 (spec_l4Text.dec l).2) l
  | .L0 x0 x1 => by kernel_rfl
theorem spec_l4Text.body_eq (S_spec_l1In : (Int × Int × Int) → Option ((Bool) × Unit)) (again : List Item → St → Option ((Bool) × Unit)) (p0 : ByteArray) : eval0 (spec_l4Text.E S_spec_l1In) again spec_l4Text.code 19 (encs 0 (Sig.args sg_spec_l4Text) p0).1 (encs 0 (Sig.args sg_spec_l4Text) p0).2 = spec_l4Text.body S_spec_l1In (fun l => again (spec_l4Text.dec l).1 (spec_l4Text.dec l).2) p0 := by kernel_rfl
theorem spec_l4Text.con (S_spec_l1In : (Int × Int × Int) → Option ((Bool) × Unit)) (h_spec_l1In : Con Go.Proofs.Tryd.prog 41 sg_spec_l1In S_spec_l1In) (n : Nat) : Con Go.Proofs.Tryd.prog 40 sg_spec_l4Text (fun p0 => spec_l4Text.body S_spec_l1In (go (spec_l4Text.step S_spec_l1In) n) p0) :=
  Con.of_eval (t := fun _ => [row 41 sg_spec_l1In S_spec_l1In]) mixed ttok (fun _ => (.cons callable41 h_spec_l1In .nil)) Go.Proofs.Tryd.func40 (c := spec_l4Text.code) (by kernel_rfl) (fun p0 y h => ⟨n, (evalFn_go (spec_l4Text.step_eq S_spec_l1In) (body := fun rec => spec_l4Text.body S_spec_l1In rec p0) (fun again => spec_l4Text.body_eq S_spec_l1In again p0) n).trans h⟩)

/-! ### impl_parser_kids -/
inductive impl_parser_kids.L where
  | L0 (x0 : Int) (x1 : ByteArray) (x2 : Int) (x3 : ByteArray) (x4 : Bool) (x5 : Int) (x6 : ByteArray) (x7 : Int) (x8 : Int) (x9 : ByteArray) (x10 : Int) (x11 : List ByteArray) (x12 : List GVal)
def impl_parser_kids.step (S_impl_parser_value : ((ByteArray × Bool) × Int) → Option ((GVal) × (ByteArray × Bool))) (S_impl_parser_take : ((ByteArray × Bool) × ByteArray) → Option ((Bool) × (ByteArray × Bool))) (S_impl_parser_till : ((ByteArray × Bool) × ByteArray) → Option ((ByteArray) × (ByteArray × Bool))) (S_impl_parser_need : ((ByteArray × Bool) × ByteArray) → Option ((Unit) × (ByteArray × Bool))) (rec : impl_parser_kids.L → Option ((GVal) × (ByteArray × Bool))) : impl_parser_kids.L → Option ((GVal) × (ByteArray × Bool))
  | .L0 x0 x1 x2 x3 x4 x5 x6 x7 x8 x9 x10 x11 x12 =>
    bif x4 then (
      bif (decide ((((List.length x12) : Nat) : Int) ≤ 300)) then (
        bif (x0 == 5) then (
          (S_impl_parser_till ((x3, x4), (bs [58]))).bind fun y5 =>
          (S_impl_parser_need ((y5.2.1, y5.2.2), (bs [58]))).bind fun y6 =>
          bif (decide ((((List.length x11) + (List.length (y5.1 :: []))) * 16) ≤ 140737488355328)) then
          (S_impl_parser_value ((y6.2.1, y6.2.2), (IntKind.wrap .i64 (x2 - 1)))).bind fun y7 =>
          bif (decide ((((List.length x12) + (List.length ((re y7.1) :: []))) * 80) ≤ 140737488355328)) then
          (S_impl_parser_take ((y7.2.1, y7.2.2), (bs [44]))).bind fun y8 =>
          bif (Bool.not y8.1) then (
            (S_impl_parser_need ((y8.2.1, y8.2.2), x1)).bind fun y9 =>
            some ((GVal.mk x8 x9 x10 (x11 ++ (y5.1 :: [])) (x12 ++ ((re y7.1) :: []))), (y9.2.1, y9.2.2))) else
          rec (.L0 x0 x1 x2 y8.2.1 y8.2.2 x5 x6 x7 x8 x9 x10 (x11 ++ (y5.1 :: [])) (x12 ++ ((re y7.1) :: []))) else none else none) else
        (S_impl_parser_value ((x3, x4), (IntKind.wrap .i64 (x2 - 1)))).bind fun y2 =>
        bif (decide ((((List.length x12) + (List.length ((re y2.1) :: []))) * 80) ≤ 140737488355328)) then
        (S_impl_parser_take ((y2.2.1, y2.2.2), (bs [44]))).bind fun y3 =>
        bif (Bool.not y3.1) then (
          (S_impl_parser_need ((y3.2.1, y3.2.2), x1)).bind fun y4 =>
          some ((GVal.mk x8 x9 x10 x11 (x12 ++ ((re y2.1) :: []))), (y4.2.1, y4.2.2))) else
        rec (.L0 x0 x1 x2 y3.2.1 y3.2.2 x5 x6 x7 x8 x9 x10 x11 (x12 ++ ((re y2.1) :: []))) else none) else
      (S_impl_parser_need ((x3, x4), x1)).bind fun y1 =>
      some ((GVal.mk x8 x9 x10 x11 x12), (y1.2.1, y1.2.2))) else
    (S_impl_parser_need ((x3, x4), x1)).bind fun y0 =>
    some ((GVal.mk x8 x9 x10 x11 x12), (y0.2.1, y0.2.2))
def impl_parser_kids.body (S_impl_parser_value : ((ByteArray × Bool) × Int) → Option ((GVal) × (ByteArray × Bool))) (S_impl_parser_take : ((ByteArray × Bool) × ByteArray) → Option ((Bool) × (ByteArray × Bool))) (S_impl_parser_till : ((ByteArray × Bool) × ByteArray) → Option ((ByteArray) × (ByteArray × Bool))) (S_impl_parser_need : ((ByteArray × Bool) × ByteArray) → Option ((Unit) × (ByteArray × Bool))) (rec : impl_parser_kids.L → Option ((GVal) × (ByteArray × Bool))) (p0a : ByteArray) (p0b : Bool) (p1 : Int) (p2 : ByteArray) (p3 : Int) : Option ((GVal) × (ByteArray × Bool)) :=
  (S_impl_parser_take ((p0a, p0b), p2)).bind fun y0 =>
  bif y0.1 then (
    some ((GVal.mk p1 (bs []) 0 [] []), (y0.2.1, y0.2.2))) else
  rec (.L0 p1 p2 p3 y0.2.1 y0.2.2 0 (bs []) 0 p1 (bs []) 0 [] [])
noncomputable def impl_parser_kids.code : Code := (Go.Proofs.Tryd.f46.body).getD .skip
noncomputable def impl_parser_kids.E (S_impl_parser_value : ((ByteArray × Bool) × Int) → Option ((GVal) × (ByteArray × Bool))) (S_impl_parser_take : ((ByteArray × Bool) × ByteArray) → Option ((Bool) × (ByteArray × Bool))) (S_impl_parser_till : ((ByteArray × Bool) × ByteArray) → Option ((ByteArray) × (ByteArray × Bool))) (S_impl_parser_need : ((ByteArray × Bool) × ByteArray) → Option ((Unit) × (ByteArray × Bool))) : Env ((GVal) × (ByteArray × Bool)) := mkE tt (fun _ => [row 22 sg_impl_parser_value S_impl_parser_value, row 44 sg_impl_parser_take S_impl_parser_take, row 47 sg_impl_parser_till S_impl_parser_till, row 70 sg_impl_parser_need S_impl_parser_need]) [(4, ⟨[0, 1, 2, 3, 8, 9], [], [(9, 3, .own 9 .str), (9, 4, .own 27 (.gval 9 27))]⟩)] [] sg_impl_parser_kids Go.Proofs.Tryd.f46.results.toList
noncomputable def impl_parser_kids.dec : impl_parser_kids.L → List Item × St
  | .L0 x0 x1 x2 x3 x4 x5 x6 x7 x8 x9 x10 x11 x12 => (itemsAt 4 impl_parser_kids.code [], ⟨slotsAt 57 [(0, .ptr 0 0), (1, .int .i64 x0), (2, .str x1), (3, .int .i64 x2), (8, .ptr 1 0), (9, .ptr 2 0)], [.cells 42 [.str x3, .bool x4], .cells 27 [.int .i64 x5, .str x6, .int .i64 x7, .nils, .nils], .cells 27 [.int .i64 x8, .str x9, .int .i64 x10, .own 3, .own 4], .row 9 .str x11, .row 27 (.gval 9 27) x12]⟩)
theorem impl_parser_kids.step_eq (S_impl_parser_value : ((ByteArray × Bool) × Int) → Option ((GVal) × (ByteArray × Bool))) (S_impl_parser_take : ((ByteArray × Bool) × ByteArray) → Option ((Bool) × (ByteArray × Bool))) (S_impl_parser_till : ((ByteArray × Bool) × ByteArray) → Option ((ByteArray) × (ByteArray × Bool))) (S_impl_parser_need : ((ByteArray × Bool) × ByteArray) → Option ((Unit) × (ByteArray × Bool))) (again : List Item → St → Option ((GVal) × (ByteArray × Bool))) : ∀ l, run1 (impl_parser_kids.E S_impl_parser_value S_impl_parser_take S_impl_parser_till S_impl_parser_need) again (impl_parser_kids.dec l).1 (impl_parser_kids.dec l).2 = impl_parser_kids.step S_impl_parser_value S_impl_parser_take S_impl_parser_till S_impl_parser_need (fun l => again (impl_parser_kids.dec l).1 (impl_parser_kids.dec l).2) l
  | .L0 x0 x1 x2 x3 x4 x5 x6 x7 x8 x9 x10 x11 x12 => by kernel_rfl
theorem impl_parser_kids.body_eq (S_impl_parser_value : ((ByteArray × Bool) × Int) → Option ((GVal) × (ByteArray × Bool))) (S_impl_parser_take : ((ByteArray × Bool) × ByteArray) → Option ((Bool) × (ByteArray × Bool))) (S_impl_parser_till : ((ByteArray × Bool) × ByteArray) → Option ((ByteArray) × (ByteArray × Bool))) (S_impl_parser_need : ((ByteArray × Bool) × ByteArray) → Option ((Unit) × (ByteArray × Bool))) (again : List Item → St → Option ((GVal) × (ByteArray × Bool))) (p0a : ByteArray) (p0b : Bool) (p1 : Int) (p2 : ByteArray) (p3 : Int) : eval0 (impl_parser_kids.E S_impl_parser_value S_impl_parser_take S_impl_parser_till S_impl_parser_need) again impl_parser_kids.code 57 (encs 0 (Sig.args sg_impl_parser_kids) ((p0a, p0b), p1, p2, p3)).1 (encs 0 (Sig.args sg_impl_parser_kids) ((p0a, p0b), p1, p2, p3)).2 = impl_parser_kids.body S_impl_parser_value S_impl_parser_take S_impl_parser_till S_impl_parser_need (fun l => again (impl_parser_kids.dec l).1 (impl_parser_kids.dec l).2) p0a p0b p1 p2 p3 := by kernel_rfl
theorem impl_parser_kids.con (S_impl_parser_value : ((ByteArray × Bool) × Int) → Option ((GVal) × (ByteArray × Bool))) (S_impl_parser_take : ((ByteArray × Bool) × ByteArray) → Option ((Bool) × (ByteArray × Bool))) (S_impl_parser_till : ((ByteArray × Bool) × ByteArray) → Option ((ByteArray) × (ByteArray × Bool))) (S_impl_parser_need : ((ByteArray × Bool) × ByteArray) → Option ((Unit) × (ByteArray × Bool))) (h_impl_parser_value : Con Go.Proofs.Tryd.prog 22 sg_impl_parser_value S_impl_parser_value) (h_impl_parser_take : Con Go.Proofs.Tryd.prog 44 sg_impl_parser_take S_impl_parser_take) (h_impl_parser_till : Con Go.Proofs.Tryd.prog 47 sg_impl_parser_till S_impl_parser_till) (h_impl_parser_need : Con Go.Proofs.Tryd.prog 70 sg_impl_parser_need S_impl_parser_need) (n : Nat) : Con Go.Proofs.Tryd.prog 46 sg_impl_parser_kids (fun ((p0a, p0b), p1, p2, p3) => impl_parser_kids.body S_impl_parser_value S_impl_parser_take S_impl_parser_till S_impl_parser_need (go (impl_parser_kids.step S_impl_parser_value S_impl_parser_take S_impl_parser_till S_impl_parser_need) n) p0a p0b p1 p2 p3) :=
  Con.of_eval (t := fun _ => [row 22 sg_impl_parser_value S_impl_parser_value, row 44 sg_impl_parser_take S_impl_parser_take, row 47 sg_impl_parser_till S_impl_parser_till, row 70 sg_impl_parser_need S_impl_parser_need]) mixed ttok (fun _ => (.cons callable22 h_impl_parser_value (.cons callable44 h_impl_parser_take (.cons callable47 h_impl_parser_till (.cons callable70 h_impl_parser_need .nil))))) Go.Proofs.Tryd.func46 (c := impl_parser_kids.code) (by kernel_rfl) (fun ((p0a, p0b), p1, p2, p3) y h => ⟨n, (evalFn_go (impl_parser_kids.step_eq S_impl_parser_value S_impl_parser_take S_impl_parser_till S_impl_parser_need) (body := fun rec => impl_parser_kids.body S_impl_parser_value S_impl_parser_take S_impl_parser_till S_impl_parser_need rec p0a p0b p1 p2 p3) (fun again => impl_parser_kids.body_eq S_impl_parser_value S_impl_parser_take S_impl_parser_till S_impl_parser_need again p0a p0b p1 p2 p3) n).trans h⟩)

/-! ### spec_l4ReadInt -/
inductive spec_l4ReadInt.L where
  | L0 (x0 : Bool) (x1 : Int) (x2 : Int) (x3 : ByteArray) (x4 : Int) (x5 : Bool)
def spec_l4ReadInt.step (S_spec_l1In : (Int × Int × Int) → Option ((Bool) × Unit)) (S_spec_l4Take : ((ByteArray × (Int × Bool)) × ByteArray) → Option ((Bool) × (ByteArray × (Int × Bool)))) (S_spec_l4Peek : ((ByteArray × (Int × Bool))) → Option ((Int) × (ByteArray × (Int × Bool)))) (rec : spec_l4ReadInt.L → Option ((Int) × (ByteArray × (Int × Bool)))) : spec_l4ReadInt.L → Option ((Int) × (ByteArray × (Int × Bool)))
  | .L0 x0 x1 x2 x3 x4 x5 =>
    (S_spec_l4Peek (x3, (x4, x5))).bind fun y0 =>
    (S_spec_l1In ((IntKind.wrap .i64 y0.1), (48, 57))).bind fun y1 =>
    bif y1.1 then (
      bif (decide (x2 < 19)) then (
        bif (decide (0 ≤ y0.2.2.1)) then
        bif (decide (y0.2.2.1 < (((ByteArray.size y0.2.1) : Nat) : Int))) then
        rec (.L0 x0 (IntKind.wrap .u64 ((IntKind.wrap .u64 (x1 * 10)) + (IntKind.wrap .u64 (IntKind.wrap .u8 ((bt y0.2.1 y0.2.2.1) - 48))))) (IntKind.wrap .i64 (x2 + 1)) y0.2.1 (IntKind.wrap .i64 (y0.2.2.1 + 1)) y0.2.2.2) else none else none) else
      bif y0.2.2.2 then (
        bif x0 then (
          bif (decide (0 < x1)) then (
            some ((IntKind.wrap .i64 ((IntKind.wrap .i64 (0 - (IntKind.wrap .i64 (IntKind.wrap .u64 (x1 - 1))))) - 1)), (y0.2.1, (y0.2.2.1, true)))) else
          some ((IntKind.wrap .i64 x1), (y0.2.1, (y0.2.2.1, true)))) else
        some ((IntKind.wrap .i64 x1), (y0.2.1, (y0.2.2.1, true)))) else
      bif (x2 == 0) then (
        bif x0 then (
          bif (decide (0 < x1)) then (
            some ((IntKind.wrap .i64 ((IntKind.wrap .i64 (0 - (IntKind.wrap .i64 (IntKind.wrap .u64 (x1 - 1))))) - 1)), (y0.2.1, (y0.2.2.1, true)))) else
          some ((IntKind.wrap .i64 x1), (y0.2.1, (y0.2.2.1, true)))) else
        some ((IntKind.wrap .i64 x1), (y0.2.1, (y0.2.2.1, true)))) else
      bif (decide (9223372036854775808 < x1)) then (
        bif x0 then (
          bif (decide (0 < x1)) then (
            some ((IntKind.wrap .i64 ((IntKind.wrap .i64 (0 - (IntKind.wrap .i64 (IntKind.wrap .u64 (x1 - 1))))) - 1)), (y0.2.1, (y0.2.2.1, true)))) else
          some ((IntKind.wrap .i64 x1), (y0.2.1, (y0.2.2.1, true)))) else
        some ((IntKind.wrap .i64 x1), (y0.2.1, (y0.2.2.1, true)))) else
      bif (Bool.not x0) then (
        bif x0 then (
          bif (decide (0 < x1)) then (
            some ((IntKind.wrap .i64 ((IntKind.wrap .i64 (0 - (IntKind.wrap .i64 (IntKind.wrap .u64 (x1 - 1))))) - 1)), (y0.2.1, (y0.2.2.1, (x1 == 9223372036854775808))))) else
          some ((IntKind.wrap .i64 x1), (y0.2.1, (y0.2.2.1, (x1 == 9223372036854775808))))) else
        some ((IntKind.wrap .i64 x1), (y0.2.1, (y0.2.2.1, (x1 == 9223372036854775808))))) else
      bif x0 then (
        bif (decide (0 < x1)) then (
          some ((IntKind.wrap .i64 ((IntKind.wrap .i64 (0 - (IntKind.wrap .i64 (IntKind.wrap .u64 (x1 - 1))))) - 1)), (y0.2.1, (y0.2.2.1, false)))) else
        some ((IntKind.wrap .i64 x1), (y0.2.1, (y0.2.2.1, false)))) else
      some ((IntKind.wrap .i64 x1), (y0.2.1, (y0.2.2.1, false)))) else
    bif y0.2.2.2 then (
      bif x0 then (
        bif (decide (0 < x1)) then (
          some ((IntKind.wrap .i64 ((IntKind.wrap .i64 (0 - (IntKind.wrap .i64 (IntKind.wrap .u64 (x1 - 1))))) - 1)), (y0.2.1, (y0.2.2.1, true)))) else
        some ((IntKind.wrap .i64 x1), (y0.2.1, (y0.2.2.1, true)))) else
      some ((IntKind.wrap .i64 x1), (y0.2.1, (y0.2.2.1, true)))) else
    bif (x2 == 0) then (
      bif x0 then (
        bif (decide (0 < x1)) then (
          some ((IntKind.wrap .i64 ((IntKind.wrap .i64 (0 - (IntKind.wrap .i64 (IntKind.wrap .u64 (x1 - 1))))) - 1)), (y0.2.1, (y0.2.2.1, true)))) else
        some ((IntKind.wrap .i64 x1), (y0.2.1, (y0.2.2.1, true)))) else
      some ((IntKind.wrap .i64 x1), (y0.2.1, (y0.2.2.1, true)))) else
    bif (decide (9223372036854775808 < x1)) then (
      bif x0 then (
        bif (decide (0 < x1)) then (
          some ((IntKind.wrap .i64 ((IntKind.wrap .i64 (0 - (IntKind.wrap .i64 (IntKind.wrap .u64 (x1 - 1))))) - 1)), (y0.2.1, (y0.2.2.1, true)))) else
        some ((IntKind.wrap .i64 x1), (y0.2.1, (y0.2.2.1, true)))) else
      some ((IntKind.wrap .i64 x1), (y0.2.1, (y0.2.2.1, true)))) else
    bif (Bool.not x0) then (
      bif x0 then (
        bif (decide (0 < x1)) then (
          some ((IntKind.wrap .i64 ((IntKind.wrap .i64 (0 - (IntKind.wrap .i64 (IntKind.wrap .u64 (x1 - 1))))) - 1)), (y0.2.1, (y0.2.2.1, (x1 == 9223372036854775808))))) else
        some ((IntKind.wrap .i64 x1), (y0.2.1, (y0.2.2.1, (x1 == 9223372036854775808))))) else
      some ((IntKind.wrap .i64 x1), (y0.2.1, (y0.2.2.1, (x1 == 9223372036854775808))))) else
    bif x0 then (
      bif (decide (0 < x1)) then (
        some ((IntKind.wrap .i64 ((IntKind.wrap .i64 (0 - (IntKind.wrap .i64 (IntKind.wrap .u64 (x1 - 1))))) - 1)), (y0.2.1, (y0.2.2.1, false)))) else
      some ((IntKind.wrap .i64 x1), (y0.2.1, (y0.2.2.1, false)))) else
    some ((IntKind.wrap .i64 x1), (y0.2.1, (y0.2.2.1, false)))
def spec_l4ReadInt.body (S_spec_l1In : (Int × Int × Int) → Option ((Bool) × Unit)) (S_spec_l4Take : ((ByteArray × (Int × Bool)) × ByteArray) → Option ((Bool) × (ByteArray × (Int × Bool)))) (S_spec_l4Peek : ((ByteArray × (Int × Bool))) → Option ((Int) × (ByteArray × (Int × Bool)))) (rec : spec_l4ReadInt.L → Option ((Int) × (ByteArray × (Int × Bool)))) (p0a : ByteArray) (p0ba : Int) (p0bb : Bool) : Option ((Int) × (ByteArray × (Int × Bool))) :=
  (S_spec_l4Take ((p0a, (p0ba, p0bb)), (bs [45]))).bind fun y0 =>
  rec (.L0 y0.1 0 0 y0.2.1 y0.2.2.1 y0.2.2.2)
noncomputable def spec_l4ReadInt.code : Code := (Go.Proofs.Tryd.f52.body).getD .skip
noncomputable def spec_l4ReadInt.E (S_spec_l1In : (Int × Int × Int) → Option ((Bool) × Unit)) (S_spec_l4Take : ((ByteArray × (Int × Bool)) × ByteArray) → Option ((Bool) × (ByteArray × (Int × Bool)))) (S_spec_l4Peek : ((ByteArray × (Int × Bool))) → Option ((Int) × (ByteArray × (Int × Bool)))) : Env ((Int) × (ByteArray × (Int × Bool))) := mkE tt (fun _ => [row 41 sg_spec_l1In S_spec_l1In, row 49 sg_spec_l4Take S_spec_l4Take, row 73 sg_spec_l4Peek S_spec_l4Peek]) [(4, ⟨[0, 3, 4, 5], [], []⟩)] [] sg_spec_l4ReadInt Go.Proofs.Tryd.f52.results.toList
noncomputable def spec_l4ReadInt.dec : spec_l4ReadInt.L → List Item × St
  | .L0 x0 x1 x2 x3 x4 x5 => (itemsAt 4 spec_l4ReadInt.code [], ⟨slotsAt 75 [(0, .ptr 0 0), (3, .bool x0), (4, .int .u64 x1), (5, .int .i64 x2)], [.cells 48 [.str x3, .int .i64 x4, .bool x5]]⟩)
theorem spec_l4ReadInt.step_eq (S_spec_l1In : (Int × Int × Int) → Option ((Bool) × Unit)) (S_spec_l4Take : ((ByteArray × (Int × Bool)) × ByteArray) → Option ((Bool) × (ByteArray × (Int × Bool)))) (S_spec_l4Peek : ((ByteArray × (Int × Bool))) → Option ((Int) × (ByteArray × (Int × Bool)))) (again : List Item → St → Option ((Int) × (ByteArray × (Int × Bool)))) : ∀ l, run1 (spec_l4ReadInt.E S_spec_l1In S_spec_l4Take S_spec_l4Peek) again (spec_l4ReadInt.dec l).1 (spec_l4ReadInt.dec l).2 = spec_l4ReadInt.step S_spec_l1In S_spec_l4Take S_spec_l4Peek (fun l => again (spec_l4ReadInt.dec l).1 (spec_l4ReadInt.dec l).2) l
  | .L0 x0 x1 x2 x3 x4 x5 => by kernel_rfl
theorem spec_l4ReadInt.body_eq (S_spec_l1In : (Int × Int × Int) → Option ((Bool) × Unit)) (S_spec_l4Take : ((ByteArray × (Int × Bool)) × ByteArray) → Option ((Bool) × (ByteArray × (Int × Bool)))) (S_spec_l4Peek : ((ByteArray × (Int × Bool))) → Option ((Int) × (ByteArray × (Int × Bool)))) (again : List Item → St → Option ((Int) × (ByteArray × (Int × Bool)))) (p0a : ByteArray) (p0ba : Int) (p0bb : Bool) : eval0 (spec_l4ReadInt.E S_spec_l1In S_spec_l4Take S_spec_l4Peek) again spec_l4ReadInt.code 75 (encs 0 (Sig.args sg_spec_l4ReadInt) (p0a, (p0ba, p0bb))).1 (encs 0 (Sig.args sg_spec_l4ReadInt) (p0a, (p0ba, p0bb))).2 = spec_l4ReadInt.body S_spec_l1In S_spec_l4Take S_spec_l4Peek (fun l => again (spec_l4ReadInt.dec l).1 (spec_l4ReadInt.dec l).2) p0a p0ba p0bb := by kernel_rfl
theorem spec_l4ReadInt.con (S_spec_l1In : (Int × Int × Int) → Option ((Bool) × Unit)) (S_spec_l4Take : ((ByteArray × (Int × Bool)) × ByteArray) → Option ((Bool) × (ByteArray × (Int × Bool)))) (S_spec_l4Peek : ((ByteArray × (Int × Bool))) → Option ((Int) × (ByteArray × (Int × Bool)))) (h_spec_l1In : Con Go.Proofs.Tryd.prog 41 sg_spec_l1In S_spec_l1In) (h_spec_l4Take : Con Go.Proofs.Tryd.prog 49 sg_spec_l4Take S_spec_l4Take) (h_spec_l4Peek : Con Go.Proofs.Tryd.prog 73 sg_spec_l4Peek S_spec_l4Peek) (n : Nat) : Con Go.Proofs.Tryd.prog 52 sg_spec_l4ReadInt (fun (p0a, (p0ba, p0bb)) => spec_l4ReadInt.body S_spec_l1In S_spec_l4Take S_spec_l4Peek (go (spec_l4ReadInt.step S_spec_l1In S_spec_l4Take S_spec_l4Peek) n) p0a p0ba p0bb) :=
  Con.of_eval (t := fun _ => [row 41 sg_spec_l1In S_spec_l1In, row 49 sg_spec_l4Take S_spec_l4Take, row 73 sg_spec_l4Peek S_spec_l4Peek]) mixed ttok (fun _ => (.cons callable41 h_spec_l1In (.cons callable49 h_spec_l4Take (.cons callable73 h_spec_l4Peek .nil)))) Go.Proofs.Tryd.func52 (c := spec_l4ReadInt.code) (by kernel_rfl) (fun (p0a, (p0ba, p0bb)) y h => ⟨n, (evalFn_go (spec_l4ReadInt.step_eq S_spec_l1In S_spec_l4Take S_spec_l4Peek) (body := fun rec => spec_l4ReadInt.body S_spec_l1In S_spec_l4Take S_spec_l4Peek rec p0a p0ba p0bb) (fun again => spec_l4ReadInt.body_eq S_spec_l1In S_spec_l4Take S_spec_l4Peek again p0a p0ba p0bb) n).trans h⟩)

/-! ### spec_l4Copy -/
inductive spec_l4Copy.L where
  | L0 (x0 : Int) (x1 : Int) (x2 : ByteArray) (x3 : Int) (x4 : List ByteArray) (x5 : List GVal) (x6 : Int) (x7 : ByteArray) (x8 : Int) (x9 : Int) (x10 : ByteArray) (x11 : Int) (x12 : List ByteArray) (x13 : List GVal)
def spec_l4Copy.step (S_spec_l4Copy : (GVal) → Option ((GVal) × Unit)) (rec : spec_l4Copy.L → Option ((GVal) × Unit)) : spec_l4Copy.L → Option ((GVal) × Unit)
  | .L0 x0 x1 x2 x3 x4 x5 x6 x7 x8 x9 x10 x11 x12 x13 =>
    bif (decide (x0 < (((List.length x5) : Nat) : Int))) then (
      bif (decide (0 ≤ x0)) then
      bif (decide (x0 < (((List.length x5) : Nat) : Int))) then
      (S_spec_l4Copy (re (List.getD x5 (Int.toNat x0) (GVal.zero )))).bind fun y0 =>
      bif (decide ((((List.length x13) + (List.length ((re y0.1) :: []))) * 80) ≤ 140737488355328)) then
      rec (.L0 (IntKind.wrap .i64 (x0 + 1)) x1 x2 x3 x4 x5 x6 x7 x8 x9 x10 x11 x12 (x13 ++ ((re y0.1) :: []))) else none else none else none) else
    some ((GVal.mk x9 x10 x11 x12 x13), ())
def spec_l4Copy.body (S_spec_l4Copy : (GVal) → Option ((GVal) × Unit)) (rec : spec_l4Copy.L → Option ((GVal) × Unit)) (p0 : GVal) : Option ((GVal) × Unit) :=
  bif (decide (((0 + (List.length p0.keys)) * 16) ≤ 140737488355328)) then
  rec (.L0 0 p0.kind p0.text p0.num p0.keys p0.kids 0 (bs []) 0 p0.kind p0.text p0.num ([] ++ p0.keys) []) else none
noncomputable def spec_l4Copy.code : Code := (Go.Proofs.Tryd.f59.body).getD .skip
noncomputable def spec_l4Copy.E (S_spec_l4Copy : (GVal) → Option ((GVal) × Unit)) : Env ((GVal) × Unit) := mkE tt (fun _ => [row 59 sg_spec_l4Copy S_spec_l4Copy]) [(3, ⟨[1, 2, 3, 4], [], [(3, 4, .own 27 (.gval 9 27))]⟩)] [] sg_spec_l4Copy Go.Proofs.Tryd.f59.results.toList
noncomputable def spec_l4Copy.dec : spec_l4Copy.L → List Item × St
  | .L0 x0 x1 x2 x3 x4 x5 x6 x7 x8 x9 x10 x11 x12 x13 => (itemsAt 3 spec_l4Copy.code [], ⟨slotsAt 35 [(1, .ptr 0 0), (2, .ptr 1 0), (3, .ptr 2 0), (4, .int .i64 x0)], [.cells 27 [.int .i64 x1, .str x2, .int .i64 x3, .slc 9 .str x4, .slc 27 (.gval 9 27) x5], .cells 27 [.int .i64 x6, .str x7, .int .i64 x8, .nils, .nils], .cells 27 [.int .i64 x9, .str x10, .int .i64 x11, .own 3, .own 4], .row 9 .str x12, .row 27 (.gval 9 27) x13]⟩)
theorem spec_l4Copy.step_eq (S_spec_l4Copy : (GVal) → Option ((GVal) × Unit)) (again : List Item → St → Option ((GVal) × Unit)) : ∀ l, run1 (spec_l4Copy.E S_spec_l4Copy) again (spec_l4Copy.dec l).1 (spec_l4Copy.dec l).2 = spec_l4Copy.step S_spec_l4Copy (fun l => again (spec_l4Copy.dec l).1 (spec_l4Copy.dec l).2) l
  | .L0 x0 x1 x2 x3 x4 x5 x6 x7 x8 x9 x10 x11 x12 x13 => by kernel_rfl
theorem spec_l4Copy.body_eq (S_spec_l4Copy : (GVal) → Option ((GVal) × Unit)) (again : List Item → St → Option ((GVal) × Unit)) (p0 : GVal) : eval0 (spec_l4Copy.E S_spec_l4Copy) again spec_l4Copy.code 35 (encs 0 (Sig.args sg_spec_l4Copy) p0).1 (encs 0 (Sig.args sg_spec_l4Copy) p0).2 = spec_l4Copy.body S_spec_l4Copy (fun l => again (spec_l4Copy.dec l).1 (spec_l4Copy.dec l).2) p0 := by kernel_rfl
theorem spec_l4Copy.con (S_spec_l4Copy : (GVal) → Option ((GVal) × Unit)) (h_spec_l4Copy : Con Go.Proofs.Tryd.prog 59 sg_spec_l4Copy S_spec_l4Copy) (n : Nat) : Con Go.Proofs.Tryd.prog 59 sg_spec_l4Copy (fun p0 => spec_l4Copy.body S_spec_l4Copy (go (spec_l4Copy.step S_spec_l4Copy) n) p0) :=
  Con.of_eval (t := fun _ => [row 59 sg_spec_l4Copy S_spec_l4Copy]) mixed ttok (fun _ => (.cons callable59 h_spec_l4Copy .nil)) Go.Proofs.Tryd.func59 (c := spec_l4Copy.code) (by kernel_rfl) (fun p0 y h => ⟨n, (evalFn_go (spec_l4Copy.step_eq S_spec_l4Copy) (body := fun rec => spec_l4Copy.body S_spec_l4Copy rec p0) (fun again => spec_l4Copy.body_eq S_spec_l4Copy again p0) n).trans h⟩)

/-! ### impl_parser_need -/
def impl_parser_need.body (S_impl_parser_take : ((ByteArray × Bool) × ByteArray) → Option ((Bool) × (ByteArray × Bool)))  (p0a : ByteArray) (p0b : Bool) (p1 : ByteArray) : Option ((Unit) × (ByteArray × Bool)) :=
  (S_impl_parser_take ((p0a, p0b), p1)).bind fun y0 =>
  bif (Bool.not y0.1) then (
    some ((), (y0.2.1, false))) else
  some ((), (y0.2.1, y0.2.2))
noncomputable def impl_parser_need.code : Code := (Go.Proofs.Tryd.f70.body).getD .skip
noncomputable def impl_parser_need.E (S_impl_parser_take : ((ByteArray × Bool) × ByteArray) → Option ((Bool) × (ByteArray × Bool))) : Env ((Unit) × (ByteArray × Bool)) := mkE tt (fun _ => [row 44 sg_impl_parser_take S_impl_parser_take]) [] [] sg_impl_parser_need Go.Proofs.Tryd.f70.results.toList
theorem impl_parser_need.body_eq (S_impl_parser_take : ((ByteArray × Bool) × ByteArray) → Option ((Bool) × (ByteArray × Bool))) (again : List Item → St → Option ((Unit) × (ByteArray × Bool))) (p0a : ByteArray) (p0b : Bool) (p1 : ByteArray) : eval0 (impl_parser_need.E S_impl_parser_take) again impl_parser_need.code 11 (encs 0 (Sig.args sg_impl_parser_need) ((p0a, p0b), p1)).1 (encs 0 (Sig.args sg_impl_parser_need) ((p0a, p0b), p1)).2 = impl_parser_need.body S_impl_parser_take  p0a p0b p1 := by kernel_rfl
theorem impl_parser_need.con (S_impl_parser_take : ((ByteArray × Bool) × ByteArray) → Option ((Bool) × (ByteArray × Bool))) (h_impl_parser_take : Con Go.Proofs.Tryd.prog 44 sg_impl_parser_take S_impl_parser_take)  : Con Go.Proofs.Tryd.prog 70 sg_impl_parser_need (fun ((p0a, p0b), p1) => impl_parser_need.body S_impl_parser_take  p0a p0b p1) :=
  Con.of_eval (t := fun _ => [row 44 sg_impl_parser_take S_impl_parser_take]) mixed ttok (fun _ => (.cons callable44 h_impl_parser_take .nil)) Go.Proofs.Tryd.func70 (c := impl_parser_need.code) (by kernel_rfl) (fun ((p0a, p0b), p1) y h => ⟨0, (impl_parser_need.body_eq S_impl_parser_take _ p0a p0b p1).trans h⟩)

/-! ### spec_LabelGet -/
inductive spec_LabelGet.L where
  | L0 (x0 : List (ByteArray × ByteArray)) (x1 : ByteArray) (x2 : Int)
def spec_LabelGet.step  (rec : spec_LabelGet.L → Option ((ByteArray × Bool) × Unit)) : spec_LabelGet.L → Option ((ByteArray × Bool) × Unit)
  | .L0 x0 x1 x2 =>
    bif (decide (x2 < (((List.length x0) : Nat) : Int))) then (
      bif (decide (0 ≤ x2)) then
      bif (decide (x2 < (((List.length x0) : Nat) : Int))) then
      bif (seq_ (List.getD x0 (Int.toNat x2) ((bs []), (bs []))).1 x1) then (
        bif (decide (0 ≤ x2)) then
        bif (decide (x2 < (((List.length x0) : Nat) : Int))) then
        some (((List.getD x0 (Int.toNat x2) ((bs []), (bs []))).2, true), ()) else none else none) else
      rec (.L0 x0 x1 (IntKind.wrap .i64 (x2 + 1))) else none else none) else
    some (((bs []), false), ())
def spec_LabelGet.body  (rec : spec_LabelGet.L → Option ((ByteArray × Bool) × Unit)) (p0 : (List (ByteArray × ByteArray))) (p1 : ByteArray) : Option ((ByteArray × Bool) × Unit) :=
  rec (.L0 p0 p1 0)
noncomputable def spec_LabelGet.code : Code := (Go.Proofs.Tryd.f87.body).getD .skip
noncomputable def spec_LabelGet.E  : Env ((ByteArray × Bool) × Unit) := mkE tt (fun _ => []) [(2, ⟨[0, 1, 6], [], []⟩)] [] sg_spec_LabelGet Go.Proofs.Tryd.f87.results.toList
noncomputable def spec_LabelGet.dec : spec_LabelGet.L → List Item × St
  | .L0 x0 x1 x2 => (itemsAt 2 spec_LabelGet.code [], ⟨slotsAt 25 [(0, .slc 77 (.pair .str .str) x0), (1, .str x1), (6, .int .i64 x2)], []⟩)
theorem spec_LabelGet.step_eq  (again : List Item → St → Option ((ByteArray × Bool) × Unit)) : ∀ l, run1 (spec_LabelGet.E ) again (spec_LabelGet.dec l).1 (spec_LabelGet.dec l).2 = spec_LabelGet.step  (fun l => again (spec_LabelGet.dec l).1 (spec_LabelGet.dec l).2) l
  | .L0 x0 x1 x2 => by kernel_rfl
theorem spec_LabelGet.body_eq  (again : List Item → St → Option ((ByteArray × Bool) × Unit)) (p0 : (List (ByteArray × ByteArray))) (p1 : ByteArray) : eval0 (spec_LabelGet.E ) again spec_LabelGet.code 25 (encs 0 (Sig.args sg_spec_LabelGet) (p0, p1)).1 (encs 0 (Sig.args sg_spec_LabelGet) (p0, p1)).2 = spec_LabelGet.body  (fun l => again (spec_LabelGet.dec l).1 (spec_LabelGet.dec l).2) p0 p1 := by kernel_rfl
theorem spec_LabelGet.con   (n : Nat) : Con Go.Proofs.Tryd.prog 87 sg_spec_LabelGet (fun (p0, p1) => spec_LabelGet.body  (go (spec_LabelGet.step ) n) p0 p1) :=
  Con.of_eval (t := fun _ => []) mixed ttok (fun _ => .nil) Go.Proofs.Tryd.func87 (c := spec_LabelGet.code) (by kernel_rfl) (fun (p0, p1) y h => ⟨n, (evalFn_go (spec_LabelGet.step_eq ) (body := fun rec => spec_LabelGet.body  rec p0 p1) (fun again => spec_LabelGet.body_eq  again p0 p1) n).trans h⟩)

/-! ### strings_TrimPrefix -/
def strings_TrimPrefix.body (S_stringslite_TrimPrefix : (ByteArray × ByteArray) → Option ((ByteArray) × Unit))  (p0 : ByteArray) (p1 : ByteArray) : Option ((ByteArray) × Unit) :=
  (S_stringslite_TrimPrefix (p0, p1)).bind fun y0 =>
  some (y0.1, ())
noncomputable def strings_TrimPrefix.code : Code := (Go.Proofs.Tryd.f72.body).getD .skip
noncomputable def strings_TrimPrefix.E (S_stringslite_TrimPrefix : (ByteArray × ByteArray) → Option ((ByteArray) × Unit)) : Env ((ByteArray) × Unit) := mkE tt (fun _ => [row 86 sg_stringslite_TrimPrefix S_stringslite_TrimPrefix]) [] [] sg_strings_TrimPrefix Go.Proofs.Tryd.f72.results.toList
theorem strings_TrimPrefix.body_eq (S_stringslite_TrimPrefix : (ByteArray × ByteArray) → Option ((ByteArray) × Unit)) (again : List Item → St → Option ((ByteArray) × Unit)) (p0 : ByteArray) (p1 : ByteArray) : eval0 (strings_TrimPrefix.E S_stringslite_TrimPrefix) again strings_TrimPrefix.code 8 (encs 0 (Sig.args sg_strings_TrimPrefix) (p0, p1)).1 (encs 0 (Sig.args sg_strings_TrimPrefix) (p0, p1)).2 = strings_TrimPrefix.body S_stringslite_TrimPrefix  p0 p1 := by kernel_rfl
theorem strings_TrimPrefix.con (S_stringslite_TrimPrefix : (ByteArray × ByteArray) → Option ((ByteArray) × Unit)) (h_stringslite_TrimPrefix : Con Go.Proofs.Tryd.prog 86 sg_stringslite_TrimPrefix S_stringslite_TrimPrefix)  : Con Go.Proofs.Tryd.prog 72 sg_strings_TrimPrefix (fun (p0, p1) => strings_TrimPrefix.body S_stringslite_TrimPrefix  p0 p1) :=
  Con.of_eval (t := fun _ => [row 86 sg_stringslite_TrimPrefix S_stringslite_TrimPrefix]) mixed ttok (fun _ => (.cons callable86 h_stringslite_TrimPrefix .nil)) Go.Proofs.Tryd.func72 (c := strings_TrimPrefix.code) (by kernel_rfl) (fun (p0, p1) y h => ⟨0, (strings_TrimPrefix.body_eq S_stringslite_TrimPrefix _ p0 p1).trans h⟩)

end Go.Proofs.YtgbfelpdlekbkaaDoor
