/- The types of the seat, as the evaluator wants them. -/
import Derived.Test.YtgbfelpdlekbkaaDoorProg
import Derived.Test.YtgbfelpdlekbkaaDoorEv6
import Derived.KernelRfl
set_option linter.unusedVariables false
set_option linter.unusedSimpArgs false
namespace Go.Proofs.YtgbfelpdlekbkaaDoor
open Go Go.Proofs Go.Lin
/-- What is known of the package's variables: internal/bytealg.MaxLen is some number. -/
instance base : Base where
  G F w := F 0 ∧ ∃ m, w.cell? ⟨0, 0, none⟩ = some (.int .i64 m)
  later := fun hF hw ⟨h0, m, hm⟩ => ⟨hF 0 h0, m, (World.cell?_of_block (hw 0 h0)).trans hm⟩
def tt : TT := [(2, ⟨.int .i64, 1, 8, some (.int .i64)⟩),
  (3, ⟨.int .i64, 1, 8, some (.int .i64)⟩),
  (4, ⟨.bool, 1, 1, some (.bool)⟩),
  (5, ⟨.int .u8, 1, 1, some (.int .u8)⟩),
  (9, ⟨.str, 1, 16, some (.str)⟩),
  (12, ⟨.int .u64, 1, 8, some (.int .u64)⟩),
  (21, ⟨.int .i32, 1, 4, some (.int .i32)⟩),
  (22, ⟨.slice 5, 1, 24, some (.slice 5 (.int .u8))⟩),
  (24, ⟨.slice 9, 1, 24, some (.slice 9 (.str))⟩),
  (25, ⟨.slice 27, 1, 24, some (.slice 27 (.gval 9 27))⟩),
  (27, ⟨.struct [0, 1, 2, 3, 4] [3, 9, 3, 24, 25], 5, 80, some (.gval 9 27)⟩),
  (42, ⟨.struct [0, 1] [9, 4], 2, 24, some (.pair .str .bool)⟩),
  (48, ⟨.struct [0, 1, 2] [9, 3, 4], 3, 32, some (.pair .str (.pair (.int .i64) .bool))⟩),
  (54, ⟨.struct [0, 1, 2] [22, 3, 3], 3, 40, some (.pair (.slice 5 (.int .u8)) (.pair (.int .i64) (.int .i64)))⟩),
  (73, ⟨.slice 3, 1, 24, some (.slice 3 (.int .i64))⟩),
  (74, ⟨.slice 77, 1, 24, some (.slice 77 (.pair .str .str))⟩),
  (77, ⟨.struct [0, 1] [9, 9], 2, 32, some (.pair .str .str)⟩),
  (97, ⟨.int .u64, 1, 8, some (.int .u64)⟩),
  (100, ⟨.int .u64, 1, 8, some (.int .u64)⟩),
  (126, ⟨.struct [0, 1] [5, 5], 2, 2, some (.pair (.int .u8) (.int .u8))⟩),
  (128, ⟨.int .u32, 1, 4, some (.int .u32)⟩)]
theorem row2 : RowOK Tryd.prog tt 2 ⟨.int .i64, 1, 8, some (.int .i64)⟩ := RowOK.of (z := some (.int .i64 0)) (by kernel_rfl) Tryd.underlying2 (fun h => h.elim) ⟨rfl, by decide, _, rfl, fun _ _ _ _ => (.cons rfl .nil)⟩
theorem row3 : RowOK Tryd.prog tt 3 ⟨.int .i64, 1, 8, some (.int .i64)⟩ := RowOK.of (z := some (.int .i64 0)) (by kernel_rfl) Tryd.underlying3 (fun h => h.elim) ⟨rfl, by decide, _, rfl, fun _ _ _ _ => (.cons rfl .nil)⟩
theorem row4 : RowOK Tryd.prog tt 4 ⟨.bool, 1, 1, some (.bool)⟩ := RowOK.of (z := some (.bool false)) (by kernel_rfl) Tryd.underlying4 (fun h => h.elim) ⟨rfl, by decide, _, rfl, fun _ _ _ _ => (.cons rfl .nil)⟩
theorem row5 : RowOK Tryd.prog tt 5 ⟨.int .u8, 1, 1, some (.int .u8)⟩ := RowOK.of (z := some (.int .u8 0)) (by kernel_rfl) Tryd.underlying5 (fun _ => ⟨rfl, rfl, rfl⟩) ⟨rfl, by decide, _, rfl, fun _ _ _ _ => (.cons rfl .nil)⟩
theorem row9 : RowOK Tryd.prog tt 9 ⟨.str, 1, 16, some (.str)⟩ := RowOK.of (z := some (.string ⟨#[]⟩)) (by kernel_rfl) Tryd.underlying9 (fun h => h.elim) ⟨rfl, by decide, _, rfl, fun _ _ _ _ => (.cons rfl .nil)⟩
theorem row12 : RowOK Tryd.prog tt 12 ⟨.int .u64, 1, 8, some (.int .u64)⟩ := RowOK.of (z := some (.int .u64 0)) (by kernel_rfl) Tryd.underlying12 (fun h => h.elim) ⟨rfl, by decide, _, rfl, fun _ _ _ _ => (.cons rfl .nil)⟩
theorem row21 : RowOK Tryd.prog tt 21 ⟨.int .i32, 1, 4, some (.int .i32)⟩ := RowOK.of (z := some (.int .i32 0)) (by kernel_rfl) Tryd.underlying21 (fun h => h.elim) ⟨rfl, by decide, _, rfl, fun _ _ _ _ => (.cons rfl .nil)⟩
theorem row22 : RowOK Tryd.prog tt 22 ⟨.slice 5, 1, 24, some (.slice 5 (.int .u8))⟩ := RowOK.of (z := some (.slice none 0 0)) (by kernel_rfl) ⟨Tryd.underlying22, by decide⟩ (fun h => h.elim) ⟨rfl, by decide, _, rfl, fun _ _ _ _ => (.cons rfl .nil)⟩
theorem row24 : RowOK Tryd.prog tt 24 ⟨.slice 9, 1, 24, some (.slice 9 (.str))⟩ := RowOK.of (z := some (.slice none 0 0)) (by kernel_rfl) ⟨Tryd.underlying24, by decide⟩ (fun h => h.elim) ⟨rfl, by decide, _, rfl, fun _ _ _ _ => (.cons rfl .nil)⟩
theorem row25 : RowOK Tryd.prog tt 25 ⟨.slice 27, 1, 24, some (.slice 27 (.gval 9 27))⟩ := RowOK.of (z := some (.slice none 0 0)) (by kernel_rfl) ⟨Tryd.underlying25, by decide⟩ (fun h => h.elim) ⟨rfl, by decide, _, rfl, fun _ _ _ _ => (.cons rfl .nil)⟩
theorem row27 : RowOK Tryd.prog tt 27 ⟨.struct [0, 1, 2, 3, 4] [3, 9, 3, 24, 25], 5, 80, some (.gval 9 27)⟩ := RowOK.of (z := some (.agg #[.int .i64 0, .string ⟨#[]⟩, .int .i64 0, .slice none 0 0, .slice none 0 0])) (by kernel_rfl) ⟨_, Tryd.underlying27, rfl, rfl, fieldsOK_spec (by kernel_rfl)⟩ (fun h => h.elim) ⟨rfl, by decide, _, rfl, fun _ _ _ _ => (.cons rfl (.cons rfl (.cons rfl (.cons rfl (.cons rfl .nil)))))⟩
theorem row42 : RowOK Tryd.prog tt 42 ⟨.struct [0, 1] [9, 4], 2, 24, some (.pair .str .bool)⟩ := RowOK.of (z := some (.agg #[.string ⟨#[]⟩, .bool false])) (by kernel_rfl) ⟨_, Tryd.underlying42, rfl, rfl, fieldsOK_spec (by kernel_rfl)⟩ (fun h => h.elim) ⟨rfl, by decide, _, rfl, fun _ _ _ _ => (.cons rfl (.cons rfl .nil))⟩
theorem row48 : RowOK Tryd.prog tt 48 ⟨.struct [0, 1, 2] [9, 3, 4], 3, 32, some (.pair .str (.pair (.int .i64) .bool))⟩ := RowOK.of (z := some (.agg #[.string ⟨#[]⟩, .int .i64 0, .bool false])) (by kernel_rfl) ⟨_, Tryd.underlying48, rfl, rfl, fieldsOK_spec (by kernel_rfl)⟩ (fun h => h.elim) ⟨rfl, by decide, _, rfl, fun _ _ _ _ => (.cons rfl (.cons rfl (.cons rfl .nil)))⟩
theorem row54 : RowOK Tryd.prog tt 54 ⟨.struct [0, 1, 2] [22, 3, 3], 3, 40, some (.pair (.slice 5 (.int .u8)) (.pair (.int .i64) (.int .i64)))⟩ := RowOK.of (z := some (.agg #[.slice none 0 0, .int .i64 0, .int .i64 0])) (by kernel_rfl) ⟨_, Tryd.underlying54, rfl, rfl, fieldsOK_spec (by kernel_rfl)⟩ (fun h => h.elim) ⟨rfl, by decide, _, rfl, fun _ _ _ _ => (.cons rfl (.cons rfl (.cons rfl .nil)))⟩
theorem row73 : RowOK Tryd.prog tt 73 ⟨.slice 3, 1, 24, some (.slice 3 (.int .i64))⟩ := RowOK.of (z := some (.slice none 0 0)) (by kernel_rfl) ⟨Tryd.underlying73, by decide⟩ (fun h => h.elim) ⟨rfl, by decide, _, rfl, fun _ _ _ _ => (.cons rfl .nil)⟩
theorem row74 : RowOK Tryd.prog tt 74 ⟨.slice 77, 1, 24, some (.slice 77 (.pair .str .str))⟩ := RowOK.of (z := some (.slice none 0 0)) (by kernel_rfl) ⟨Tryd.underlying74, by decide⟩ (fun h => h.elim) ⟨rfl, by decide, _, rfl, fun _ _ _ _ => (.cons rfl .nil)⟩
theorem row77 : RowOK Tryd.prog tt 77 ⟨.struct [0, 1] [9, 9], 2, 32, some (.pair .str .str)⟩ := RowOK.of (z := some (.agg #[.string ⟨#[]⟩, .string ⟨#[]⟩])) (by kernel_rfl) ⟨_, Tryd.underlying77, rfl, rfl, fieldsOK_spec (by kernel_rfl)⟩ (fun h => h.elim) ⟨rfl, by decide, _, rfl, fun _ _ _ _ => (.cons rfl (.cons rfl .nil))⟩
theorem row97 : RowOK Tryd.prog tt 97 ⟨.int .u64, 1, 8, some (.int .u64)⟩ := RowOK.of (z := some (.int .u64 0)) (by kernel_rfl) Tryd.underlying97 (fun h => h.elim) ⟨rfl, by decide, _, rfl, fun _ _ _ _ => (.cons rfl .nil)⟩
theorem row100 : RowOK Tryd.prog tt 100 ⟨.int .u64, 1, 8, some (.int .u64)⟩ := RowOK.of (z := some (.int .u64 0)) (by kernel_rfl) Tryd.underlying100 (fun h => h.elim) ⟨rfl, by decide, _, rfl, fun _ _ _ _ => (.cons rfl .nil)⟩
theorem row126 : RowOK Tryd.prog tt 126 ⟨.struct [0, 1] [5, 5], 2, 2, some (.pair (.int .u8) (.int .u8))⟩ := RowOK.of (z := some (.agg #[.int .u8 0, .int .u8 0])) (by kernel_rfl) ⟨_, Tryd.underlying126, rfl, rfl, fieldsOK_spec (by kernel_rfl)⟩ (fun h => h.elim) ⟨rfl, by decide, _, rfl, fun _ _ _ _ => (.cons rfl (.cons rfl .nil))⟩
theorem row128 : RowOK Tryd.prog tt 128 ⟨.int .u32, 1, 4, some (.int .u32)⟩ := RowOK.of (z := some (.int .u32 0)) (by kernel_rfl) Tryd.underlying128 (fun h => h.elim) ⟨rfl, by decide, _, rfl, fun _ _ _ _ => (.cons rfl .nil)⟩
theorem ttok : TTok Tryd.prog tt := TTok.of_rows fun p hp => by
  simp only [tt, List.mem_cons, List.not_mem_nil, or_false] at hp
  rcases hp with rfl | rfl | rfl | rfl | rfl | rfl | rfl | rfl | rfl | rfl | rfl | rfl | rfl | rfl | rfl | rfl | rfl | rfl | rfl | rfl | rfl
  · exact row2
  · exact row3
  · exact row4
  · exact row5
  · exact row9
  · exact row12
  · exact row21
  · exact row22
  · exact row24
  · exact row25
  · exact row27
  · exact row42
  · exact row48
  · exact row54
  · exact row73
  · exact row74
  · exact row77
  · exact row97
  · exact row100
  · exact row126
  · exact row128
end Go.Proofs.YtgbfelpdlekbkaaDoor
