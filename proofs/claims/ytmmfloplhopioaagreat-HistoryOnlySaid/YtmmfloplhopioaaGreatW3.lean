/- Part 3 of a proof layer and of the contracts of the functions. -/
import Derived.Test.YtmmfloplhopioaaGreatProg
import Derived.WideLaws
import Derived.Test.YtmmfloplhopioaaGreatW2
set_option linter.unusedVariables false
set_option linter.unusedSimpArgs false
/- The types of this seat. Written by tab.py. -/
namespace Go.Proofs.YtmmfloplhopioaaGreat
open Go.AL
def tabL : List (Nat × TI) := [
  (3, ⟨.int .i64, 1, 8, [.int .i64 0]⟩),
  (94, ⟨.int .u32, 1, 4, [.int .u32 0]⟩),
  (46, ⟨.slice 94, 1, 24, [.slice none 0 0]⟩),
  (48, ⟨.struct #[{ name := "Neg", type := 4, offset := 0, embedded := false, tag := "", pkgPath := "", byteOffset := 0 }, { name := "Words", type := 46, offset := 1, embedded := false, tag := "", pkgPath := "", byteOffset := 8 }], 2, 32, [.bool false, .slice none 0 0]⟩),
  (4, ⟨.bool, 1, 1, [.bool false]⟩),
  (92, ⟨.int .u64, 1, 8, [.int .u64 0]⟩),
  (25, ⟨.slice 3, 1, 24, [.slice none 0 0]⟩),
  (33, ⟨.slice 48, 1, 24, [.slice none 0 0]⟩),
  (158, ⟨.struct #[{ name := "Coef", type := 48, offset := 0, embedded := false, tag := "", pkgPath := "", byteOffset := 0 }, { name := "Exps", type := 25, offset := 2, embedded := false, tag := "", pkgPath := "", byteOffset := 32 }], 3, 56, [.bool false, .slice none 0 0, .slice none 0 0]⟩),
  (103, ⟨.slice 158, 1, 24, [.slice none 0 0]⟩),
  (105, ⟨.struct #[{ name := "Vars", type := 3, offset := 0, embedded := false, tag := "", pkgPath := "", byteOffset := 0 }, { name := "Terms", type := 103, offset := 1, embedded := false, tag := "", pkgPath := "", byteOffset := 8 }], 2, 32, [.int .i64 0, .slice none 0 0]⟩),
  (2, ⟨.int .i64, 1, 8, [.int .i64 0]⟩),
  (5, ⟨.int .u8, 1, 1, [.int .u8 0]⟩),
  (9, ⟨.string, 1, 16, [.string ⟨#[]⟩]⟩),
  (12, ⟨.int .u64, 1, 8, [.int .u64 0]⟩),
  (13, ⟨.struct #[{ name := "msg", type := 9, offset := 0, embedded := false, tag := "", pkgPath := "runtime", byteOffset := 0 }, { name := "addr", type := 12, offset := 1, embedded := false, tag := "", pkgPath := "runtime", byteOffset := 16 }], 2, 24, [.string ⟨#[]⟩, .int .u64 0]⟩),
  (21, ⟨.int .i32, 1, 4, [.int .i32 0]⟩),
  (22, ⟨.slice 77, 1, 24, [.slice none 0 0]⟩),
  (23, ⟨.struct #[{ name := "Regs", type := 3, offset := 0, embedded := false, tag := "", pkgPath := "", byteOffset := 0 }, { name := "Code", type := 22, offset := 1, embedded := false, tag := "", pkgPath := "", byteOffset := 8 }], 2, 32, [.int .i64 0, .slice none 0 0]⟩),
  (24, ⟨.struct #[{ name := "Regs", type := 3, offset := 0, embedded := false, tag := "", pkgPath := "", byteOffset := 0 }, { name := "Code", type := 22, offset := 1, embedded := false, tag := "", pkgPath := "", byteOffset := 8 }], 2, 32, [.int .i64 0, .slice none 0 0]⟩),
  (26, ⟨.pointer 79, 1, 8, [.pointer none]⟩),
  (30, ⟨.slice 71, 1, 24, [.slice none 0 0]⟩),
  (34, ⟨.int .i64, 1, 8, [.int .i64 0]⟩),
  (37, ⟨.slice 99, 1, 24, [.slice none 0 0]⟩),
  (38, ⟨.struct #[{ name := "Vars", type := 3, offset := 0, embedded := false, tag := "", pkgPath := "", byteOffset := 0 }, { name := "Links", type := 37, offset := 1, embedded := false, tag := "", pkgPath := "", byteOffset := 8 }], 2, 32, [.int .i64 0, .slice none 0 0]⟩),
  (39, ⟨.struct #[{ name := "Vars", type := 3, offset := 0, embedded := false, tag := "", pkgPath := "", byteOffset := 0 }, { name := "Links", type := 37, offset := 1, embedded := false, tag := "", pkgPath := "", byteOffset := 8 }], 2, 32, [.int .i64 0, .slice none 0 0]⟩),
  (47, ⟨.struct #[{ name := "Neg", type := 4, offset := 0, embedded := false, tag := "", pkgPath := "", byteOffset := 0 }, { name := "Words", type := 46, offset := 1, embedded := false, tag := "", pkgPath := "", byteOffset := 8 }], 2, 32, [.bool false, .slice none 0 0]⟩),
  (70, ⟨.struct #[{ name := "At", type := 3, offset := 0, embedded := false, tag := "", pkgPath := "", byteOffset := 0 }, { name := "Regs", type := 25, offset := 1, embedded := false, tag := "", pkgPath := "", byteOffset := 8 }], 2, 32, [.int .i64 0, .slice none 0 0]⟩),
  (71, ⟨.struct #[{ name := "At", type := 3, offset := 0, embedded := false, tag := "", pkgPath := "", byteOffset := 0 }, { name := "Regs", type := 25, offset := 1, embedded := false, tag := "", pkgPath := "", byteOffset := 8 }], 2, 32, [.int .i64 0, .slice none 0 0]⟩),
  (76, ⟨.struct #[{ name := "Op", type := 3, offset := 0, embedded := false, tag := "", pkgPath := "", byteOffset := 0 }, { name := "Reg", type := 3, offset := 1, embedded := false, tag := "", pkgPath := "", byteOffset := 8 }, { name := "Next", type := 3, offset := 2, embedded := false, tag := "", pkgPath := "", byteOffset := 16 }, { name := "Zero", type := 3, offset := 3, embedded := false, tag := "", pkgPath := "", byteOffset := 24 }], 4, 32, [.int .i64 0, .int .i64 0, .int .i64 0, .int .i64 0]⟩),
  (77, ⟨.struct #[{ name := "Op", type := 3, offset := 0, embedded := false, tag := "", pkgPath := "", byteOffset := 0 }, { name := "Reg", type := 3, offset := 1, embedded := false, tag := "", pkgPath := "", byteOffset := 8 }, { name := "Next", type := 3, offset := 2, embedded := false, tag := "", pkgPath := "", byteOffset := 16 }, { name := "Zero", type := 3, offset := 3, embedded := false, tag := "", pkgPath := "", byteOffset := 24 }], 4, 32, [.int .i64 0, .int .i64 0, .int .i64 0, .int .i64 0]⟩),
  (78, ⟨.struct #[{ name := "m", type := 24, offset := 0, embedded := false, tag := "", pkgPath := "arithmancy/arithmancytop", byteOffset := 0 }, { name := "at", type := 3, offset := 2, embedded := false, tag := "", pkgPath := "arithmancy/arithmancytop", byteOffset := 32 }, { name := "regs", type := 25, offset := 3, embedded := false, tag := "", pkgPath := "arithmancy/arithmancytop", byteOffset := 40 }, { name := "done", type := 4, offset := 4, embedded := false, tag := "", pkgPath := "arithmancy/arithmancytop", byteOffset := 64 }], 5, 72, [.int .i64 0, .slice none 0 0, .int .i64 0, .slice none 0 0, .bool false]⟩),
  (79, ⟨.struct #[{ name := "m", type := 24, offset := 0, embedded := false, tag := "", pkgPath := "arithmancy/arithmancytop", byteOffset := 0 }, { name := "at", type := 3, offset := 2, embedded := false, tag := "", pkgPath := "arithmancy/arithmancytop", byteOffset := 32 }, { name := "regs", type := 25, offset := 3, embedded := false, tag := "", pkgPath := "arithmancy/arithmancytop", byteOffset := 40 }, { name := "done", type := 4, offset := 4, embedded := false, tag := "", pkgPath := "arithmancy/arithmancytop", byteOffset := 64 }], 5, 72, [.int .i64 0, .slice none 0 0, .int .i64 0, .slice none 0 0, .bool false]⟩),
  (81, ⟨.struct #[{ name := "m", type := 24, offset := 0, embedded := false, tag := "", pkgPath := "arithmancy/history", byteOffset := 0 }, { name := "x", type := 25, offset := 2, embedded := false, tag := "", pkgPath := "arithmancy/history", byteOffset := 32 }, { name := "vars", type := 3, offset := 3, embedded := false, tag := "", pkgPath := "arithmancy/history", byteOffset := 56 }, { name := "add", type := 3, offset := 4, embedded := false, tag := "", pkgPath := "arithmancy/history", byteOffset := 64 }], 5, 72, [.int .i64 0, .slice none 0 0, .slice none 0 0, .int .i64 0, .int .i64 0]⟩),
  (82, ⟨.struct #[{ name := "m", type := 24, offset := 0, embedded := false, tag := "", pkgPath := "arithmancy/history", byteOffset := 0 }, { name := "x", type := 25, offset := 2, embedded := false, tag := "", pkgPath := "arithmancy/history", byteOffset := 32 }, { name := "vars", type := 3, offset := 3, embedded := false, tag := "", pkgPath := "arithmancy/history", byteOffset := 56 }, { name := "add", type := 3, offset := 4, embedded := false, tag := "", pkgPath := "arithmancy/history", byteOffset := 64 }], 5, 72, [.int .i64 0, .slice none 0 0, .slice none 0 0, .int .i64 0, .int .i64 0]⟩),
  (95, ⟨.int .u64, 1, 8, [.int .u64 0]⟩),
  (97, ⟨.slice 105, 1, 24, [.slice none 0 0]⟩),
  (98, ⟨.struct #[{ name := "Kind", type := 3, offset := 0, embedded := false, tag := "", pkgPath := "", byteOffset := 0 }, { name := "Vars", type := 25, offset := 1, embedded := false, tag := "", pkgPath := "", byteOffset := 8 }, { name := "Polys", type := 97, offset := 2, embedded := false, tag := "", pkgPath := "", byteOffset := 32 }], 3, 56, [.int .i64 0, .slice none 0 0, .slice none 0 0]⟩),
  (99, ⟨.struct #[{ name := "Kind", type := 3, offset := 0, embedded := false, tag := "", pkgPath := "", byteOffset := 0 }, { name := "Vars", type := 25, offset := 1, embedded := false, tag := "", pkgPath := "", byteOffset := 8 }, { name := "Polys", type := 97, offset := 2, embedded := false, tag := "", pkgPath := "", byteOffset := 32 }], 3, 56, [.int .i64 0, .slice none 0 0, .slice none 0 0]⟩),
  (100, ⟨.pointer 102, 1, 8, [.pointer none]⟩),
  (101, ⟨.struct #[{ name := "n", type := 3, offset := 0, embedded := false, tag := "", pkgPath := "arithmancy/arithmancyref14", byteOffset := 0 }, { name := "links", type := 37, offset := 1, embedded := false, tag := "", pkgPath := "arithmancy/arithmancyref14", byteOffset := 8 }], 2, 32, [.int .i64 0, .slice none 0 0]⟩),
  (102, ⟨.struct #[{ name := "n", type := 3, offset := 0, embedded := false, tag := "", pkgPath := "arithmancy/arithmancyref14", byteOffset := 0 }, { name := "links", type := 37, offset := 1, embedded := false, tag := "", pkgPath := "arithmancy/arithmancyref14", byteOffset := 8 }], 2, 32, [.int .i64 0, .slice none 0 0]⟩),
  (104, ⟨.struct #[{ name := "Vars", type := 3, offset := 0, embedded := false, tag := "", pkgPath := "", byteOffset := 0 }, { name := "Terms", type := 103, offset := 1, embedded := false, tag := "", pkgPath := "", byteOffset := 8 }], 2, 32, [.int .i64 0, .slice none 0 0]⟩),
  (124, ⟨.pointer 127, 1, 8, [.pointer none]⟩),
  (126, ⟨.struct #[{ name := "m", type := 24, offset := 0, embedded := false, tag := "", pkgPath := "arithmancy/register", byteOffset := 0 }, { name := "c", type := 71, offset := 2, embedded := false, tag := "", pkgPath := "arithmancy/register", byteOffset := 32 }], 4, 64, [.int .i64 0, .slice none 0 0, .int .i64 0, .slice none 0 0]⟩),
  (127, ⟨.struct #[{ name := "m", type := 24, offset := 0, embedded := false, tag := "", pkgPath := "arithmancy/register", byteOffset := 0 }, { name := "c", type := 71, offset := 2, embedded := false, tag := "", pkgPath := "arithmancy/register", byteOffset := 32 }], 4, 64, [.int .i64 0, .slice none 0 0, .int .i64 0, .slice none 0 0]⟩),
  (139, ⟨.pointer 144, 1, 8, [.pointer none]⟩),
  (140, ⟨.struct #[{ name := "vars", type := 3, offset := 0, embedded := false, tag := "", pkgPath := "arithmancy/expr", byteOffset := 0 }], 1, 8, [.int .i64 0]⟩),
  (141, ⟨.struct #[{ name := "vars", type := 3, offset := 0, embedded := false, tag := "", pkgPath := "arithmancy/expr", byteOffset := 0 }], 1, 8, [.int .i64 0]⟩),
  (143, ⟨.struct #[{ name := "sizes", type := 82, offset := 0, embedded := true, tag := "", pkgPath := "arithmancy/history", byteOffset := 0 }, { name := "Kit", type := 141, offset := 5, embedded := true, tag := "", pkgPath := "", byteOffset := 72 }, { name := "q", type := 105, offset := 6, embedded := false, tag := "", pkgPath := "arithmancy/history", byteOffset := 80 }, { name := "all", type := 105, offset := 8, embedded := false, tag := "", pkgPath := "arithmancy/history", byteOffset := 112 }, { name := "list", type := 37, offset := 10, embedded := false, tag := "", pkgPath := "arithmancy/history", byteOffset := 144 }], 11, 168, [.int .i64 0, .slice none 0 0, .slice none 0 0, .int .i64 0, .int .i64 0, .int .i64 0, .int .i64 0, .slice none 0 0, .int .i64 0, .slice none 0 0, .slice none 0 0]⟩),
  (144, ⟨.struct #[{ name := "sizes", type := 82, offset := 0, embedded := true, tag := "", pkgPath := "arithmancy/history", byteOffset := 0 }, { name := "Kit", type := 141, offset := 5, embedded := true, tag := "", pkgPath := "", byteOffset := 72 }, { name := "q", type := 105, offset := 6, embedded := false, tag := "", pkgPath := "arithmancy/history", byteOffset := 80 }, { name := "all", type := 105, offset := 8, embedded := false, tag := "", pkgPath := "arithmancy/history", byteOffset := 112 }, { name := "list", type := 37, offset := 10, embedded := false, tag := "", pkgPath := "arithmancy/history", byteOffset := 144 }], 11, 168, [.int .i64 0, .slice none 0 0, .slice none 0 0, .int .i64 0, .int .i64 0, .int .i64 0, .int .i64 0, .slice none 0 0, .int .i64 0, .slice none 0 0, .slice none 0 0]⟩),
  (157, ⟨.struct #[{ name := "Coef", type := 48, offset := 0, embedded := false, tag := "", pkgPath := "", byteOffset := 0 }, { name := "Exps", type := 25, offset := 2, embedded := false, tag := "", pkgPath := "", byteOffset := 32 }], 3, 56, [.bool false, .slice none 0 0, .slice none 0 0]⟩),
  (181, ⟨.pointer 3, 1, 8, [.pointer none]⟩),
  (182, ⟨.slice 94, 1, 24, [.slice none 0 0]⟩),
  (186, ⟨.slice 5, 1, 24, [.slice none 0 0]⟩),
  (215, ⟨.array 4 3, 4, 32, [.int .i64 0, .int .i64 0, .int .i64 0, .int .i64 0]⟩),
  (219, ⟨.int .i64, 1, 8, [.int .i64 0]⟩),
  (227, ⟨.pointer 245, 1, 8, [.pointer none]⟩),
  (228, ⟨.pointer 249, 1, 8, [.pointer none]⟩),
  (239, ⟨.struct #[{ name := "chi", type := 48, offset := 0, embedded := false, tag := "", pkgPath := "arithmancy/lucas", byteOffset := 0 }, { name := "psi", type := 48, offset := 2, embedded := false, tag := "", pkgPath := "arithmancy/lucas", byteOffset := 32 }], 4, 64, [.bool false, .slice none 0 0, .bool false, .slice none 0 0]⟩),
  (240, ⟨.struct #[{ name := "chi", type := 48, offset := 0, embedded := false, tag := "", pkgPath := "arithmancy/lucas", byteOffset := 0 }, { name := "psi", type := 48, offset := 2, embedded := false, tag := "", pkgPath := "arithmancy/lucas", byteOffset := 32 }], 4, 64, [.bool false, .slice none 0 0, .bool false, .slice none 0 0]⟩),
  (242, ⟨.struct #[{ name := "Err", type := 34, offset := 0, embedded := false, tag := "", pkgPath := "", byteOffset := 0 }], 1, 8, [.int .i64 0]⟩),
  (243, ⟨.struct #[{ name := "Err", type := 34, offset := 0, embedded := false, tag := "", pkgPath := "", byteOffset := 0 }], 1, 8, [.int .i64 0]⟩),
  (244, ⟨.struct #[{ name := "Chain", type := 243, offset := 0, embedded := true, tag := "", pkgPath := "", byteOffset := 0 }, { name := "a", type := 48, offset := 1, embedded := false, tag := "", pkgPath := "arithmancy/lucas", byteOffset := 8 }, { name := "rest", type := 200, offset := 3, embedded := false, tag := "", pkgPath := "arithmancy/lucas", byteOffset := 40 }], 4, 48, [.int .i64 0, .bool false, .slice none 0 0, .nilFunc]⟩),
  (245, ⟨.struct #[{ name := "Chain", type := 243, offset := 0, embedded := true, tag := "", pkgPath := "", byteOffset := 0 }, { name := "a", type := 48, offset := 1, embedded := false, tag := "", pkgPath := "arithmancy/lucas", byteOffset := 8 }, { name := "rest", type := 200, offset := 3, embedded := false, tag := "", pkgPath := "arithmancy/lucas", byteOffset := 40 }], 4, 48, [.int .i64 0, .bool false, .slice none 0 0, .nilFunc]⟩),
  (247, ⟨.map 251 48, 1, 8, [.map none]⟩),
  (248, ⟨.struct #[{ name := "vars", type := 3, offset := 0, embedded := false, tag := "", pkgPath := "arithmancy/poly", byteOffset := 0 }, { name := "all", type := 247, offset := 1, embedded := false, tag := "", pkgPath := "arithmancy/poly", byteOffset := 8 }], 2, 16, [.int .i64 0, .map none]⟩),
  (249, ⟨.struct #[{ name := "vars", type := 3, offset := 0, embedded := false, tag := "", pkgPath := "arithmancy/poly", byteOffset := 0 }, { name := "all", type := 247, offset := 1, embedded := false, tag := "", pkgPath := "arithmancy/poly", byteOffset := 8 }], 2, 16, [.int .i64 0, .map none]⟩),
  (250, ⟨.array 32 3, 32, 256, [.int .i64 0, .int .i64 0, .int .i64 0, .int .i64 0, .int .i64 0, .int .i64 0, .int .i64 0, .int .i64 0, .int .i64 0, .int .i64 0, .int .i64 0, .int .i64 0, .int .i64 0, .int .i64 0, .int .i64 0, .int .i64 0, .int .i64 0, .int .i64 0, .int .i64 0, .int .i64 0, .int .i64 0, .int .i64 0, .int .i64 0, .int .i64 0, .int .i64 0, .int .i64 0, .int .i64 0, .int .i64 0, .int .i64 0, .int .i64 0, .int .i64 0, .int .i64 0]⟩),
  (251, ⟨.array 32 3, 32, 256, [.int .i64 0, .int .i64 0, .int .i64 0, .int .i64 0, .int .i64 0, .int .i64 0, .int .i64 0, .int .i64 0, .int .i64 0, .int .i64 0, .int .i64 0, .int .i64 0, .int .i64 0, .int .i64 0, .int .i64 0, .int .i64 0, .int .i64 0, .int .i64 0, .int .i64 0, .int .i64 0, .int .i64 0, .int .i64 0, .int .i64 0, .int .i64 0, .int .i64 0, .int .i64 0, .int .i64 0, .int .i64 0, .int .i64 0, .int .i64 0, .int .i64 0, .int .i64 0]⟩),
  (257, ⟨.pointer 243, 1, 8, [.pointer none]⟩),
  (261, ⟨.int .i64, 1, 8, [.int .i64 0]⟩),
  (269, ⟨.int .u64, 1, 8, [.int .u64 0]⟩),
  (274, ⟨.pointer 269, 1, 8, [.pointer none]⟩),
  (286, ⟨.pointer 5, 1, 8, [.pointer none]⟩),
  (200, ⟨.func #[48] #[48] false, 1, 8, [.nilFunc]⟩),
  (209, ⟨.func #[] #[105] false, 1, 8, [.nilFunc]⟩),
  (285, ⟨.func #[291, 291] #[4] false, 1, 8, [.nilFunc]⟩)
]
def tab : Tab := lookT tabL
theorem ti3 : TIOk Tryz.prog 3 ⟨.int .i64, 1, 8, [.int .i64 0]⟩ := TIOk.of Tryz.underlying3 (.int .i64 0) (by kernel_rfl) rfl rfl
theorem ti94 : TIOk Tryz.prog 94 ⟨.int .u32, 1, 4, [.int .u32 0]⟩ := TIOk.of Tryz.underlying94 (.int .u32 0) (by kernel_rfl) rfl rfl
theorem ti46 : TIOk Tryz.prog 46 ⟨.slice 94, 1, 24, [.slice none 0 0]⟩ := TIOk.of Tryz.underlying46 (.slice none 0 0) (by kernel_rfl) rfl rfl
theorem ti48 : TIOk Tryz.prog 48 ⟨.struct #[{ name := "Neg", type := 4, offset := 0, embedded := false, tag := "", pkgPath := "", byteOffset := 0 }, { name := "Words", type := 46, offset := 1, embedded := false, tag := "", pkgPath := "", byteOffset := 8 }], 2, 32, [.bool false, .slice none 0 0]⟩ := TIOk.of Tryz.underlying48 (.agg #[.bool false, .slice none 0 0]) (by kernel_rfl) rfl rfl
theorem ti4 : TIOk Tryz.prog 4 ⟨.bool, 1, 1, [.bool false]⟩ := TIOk.of Tryz.underlying4 (.bool false) (by kernel_rfl) rfl rfl
theorem ti92 : TIOk Tryz.prog 92 ⟨.int .u64, 1, 8, [.int .u64 0]⟩ := TIOk.of Tryz.underlying92 (.int .u64 0) (by kernel_rfl) rfl rfl
theorem ti25 : TIOk Tryz.prog 25 ⟨.slice 3, 1, 24, [.slice none 0 0]⟩ := TIOk.of Tryz.underlying25 (.slice none 0 0) (by kernel_rfl) rfl rfl
theorem ti33 : TIOk Tryz.prog 33 ⟨.slice 48, 1, 24, [.slice none 0 0]⟩ := TIOk.of Tryz.underlying33 (.slice none 0 0) (by kernel_rfl) rfl rfl
theorem ti158 : TIOk Tryz.prog 158 ⟨.struct #[{ name := "Coef", type := 48, offset := 0, embedded := false, tag := "", pkgPath := "", byteOffset := 0 }, { name := "Exps", type := 25, offset := 2, embedded := false, tag := "", pkgPath := "", byteOffset := 32 }], 3, 56, [.bool false, .slice none 0 0, .slice none 0 0]⟩ := TIOk.of Tryz.underlying158 (.agg #[.bool false, .slice none 0 0, .slice none 0 0]) (by kernel_rfl) rfl rfl
theorem ti103 : TIOk Tryz.prog 103 ⟨.slice 158, 1, 24, [.slice none 0 0]⟩ := TIOk.of Tryz.underlying103 (.slice none 0 0) (by kernel_rfl) rfl rfl
theorem ti105 : TIOk Tryz.prog 105 ⟨.struct #[{ name := "Vars", type := 3, offset := 0, embedded := false, tag := "", pkgPath := "", byteOffset := 0 }, { name := "Terms", type := 103, offset := 1, embedded := false, tag := "", pkgPath := "", byteOffset := 8 }], 2, 32, [.int .i64 0, .slice none 0 0]⟩ := TIOk.of Tryz.underlying105 (.agg #[.int .i64 0, .slice none 0 0]) (by kernel_rfl) rfl rfl
theorem ti2 : TIOk Tryz.prog 2 ⟨.int .i64, 1, 8, [.int .i64 0]⟩ := TIOk.of Tryz.underlying2 (.int .i64 0) (by kernel_rfl) rfl rfl
theorem ti5 : TIOk Tryz.prog 5 ⟨.int .u8, 1, 1, [.int .u8 0]⟩ := TIOk.of Tryz.underlying5 (.int .u8 0) (by kernel_rfl) rfl rfl
theorem ti9 : TIOk Tryz.prog 9 ⟨.string, 1, 16, [.string ⟨#[]⟩]⟩ := TIOk.of Tryz.underlying9 (.string ⟨#[]⟩) (by kernel_rfl) rfl rfl
theorem ti12 : TIOk Tryz.prog 12 ⟨.int .u64, 1, 8, [.int .u64 0]⟩ := TIOk.of Tryz.underlying12 (.int .u64 0) (by kernel_rfl) rfl rfl
theorem ti13 : TIOk Tryz.prog 13 ⟨.struct #[{ name := "msg", type := 9, offset := 0, embedded := false, tag := "", pkgPath := "runtime", byteOffset := 0 }, { name := "addr", type := 12, offset := 1, embedded := false, tag := "", pkgPath := "runtime", byteOffset := 16 }], 2, 24, [.string ⟨#[]⟩, .int .u64 0]⟩ := TIOk.of Tryz.underlying13 (.agg #[.string ⟨#[]⟩, .int .u64 0]) (by kernel_rfl) rfl rfl
theorem ti21 : TIOk Tryz.prog 21 ⟨.int .i32, 1, 4, [.int .i32 0]⟩ := TIOk.of Tryz.underlying21 (.int .i32 0) (by kernel_rfl) rfl rfl
theorem ti22 : TIOk Tryz.prog 22 ⟨.slice 77, 1, 24, [.slice none 0 0]⟩ := TIOk.of Tryz.underlying22 (.slice none 0 0) (by kernel_rfl) rfl rfl
theorem ti23 : TIOk Tryz.prog 23 ⟨.struct #[{ name := "Regs", type := 3, offset := 0, embedded := false, tag := "", pkgPath := "", byteOffset := 0 }, { name := "Code", type := 22, offset := 1, embedded := false, tag := "", pkgPath := "", byteOffset := 8 }], 2, 32, [.int .i64 0, .slice none 0 0]⟩ := TIOk.of Tryz.underlying23 (.agg #[.int .i64 0, .slice none 0 0]) (by kernel_rfl) rfl rfl
theorem ti24 : TIOk Tryz.prog 24 ⟨.struct #[{ name := "Regs", type := 3, offset := 0, embedded := false, tag := "", pkgPath := "", byteOffset := 0 }, { name := "Code", type := 22, offset := 1, embedded := false, tag := "", pkgPath := "", byteOffset := 8 }], 2, 32, [.int .i64 0, .slice none 0 0]⟩ := TIOk.of Tryz.underlying24 (.agg #[.int .i64 0, .slice none 0 0]) (by kernel_rfl) rfl rfl
theorem ti26 : TIOk Tryz.prog 26 ⟨.pointer 79, 1, 8, [.pointer none]⟩ := TIOk.of Tryz.underlying26 (.pointer none) (by kernel_rfl) rfl rfl
theorem ti30 : TIOk Tryz.prog 30 ⟨.slice 71, 1, 24, [.slice none 0 0]⟩ := TIOk.of Tryz.underlying30 (.slice none 0 0) (by kernel_rfl) rfl rfl
theorem ti34 : TIOk Tryz.prog 34 ⟨.int .i64, 1, 8, [.int .i64 0]⟩ := TIOk.of Tryz.underlying34 (.int .i64 0) (by kernel_rfl) rfl rfl
theorem ti37 : TIOk Tryz.prog 37 ⟨.slice 99, 1, 24, [.slice none 0 0]⟩ := TIOk.of Tryz.underlying37 (.slice none 0 0) (by kernel_rfl) rfl rfl
theorem ti38 : TIOk Tryz.prog 38 ⟨.struct #[{ name := "Vars", type := 3, offset := 0, embedded := false, tag := "", pkgPath := "", byteOffset := 0 }, { name := "Links", type := 37, offset := 1, embedded := false, tag := "", pkgPath := "", byteOffset := 8 }], 2, 32, [.int .i64 0, .slice none 0 0]⟩ := TIOk.of Tryz.underlying38 (.agg #[.int .i64 0, .slice none 0 0]) (by kernel_rfl) rfl rfl
theorem ti39 : TIOk Tryz.prog 39 ⟨.struct #[{ name := "Vars", type := 3, offset := 0, embedded := false, tag := "", pkgPath := "", byteOffset := 0 }, { name := "Links", type := 37, offset := 1, embedded := false, tag := "", pkgPath := "", byteOffset := 8 }], 2, 32, [.int .i64 0, .slice none 0 0]⟩ := TIOk.of Tryz.underlying39 (.agg #[.int .i64 0, .slice none 0 0]) (by kernel_rfl) rfl rfl
theorem ti47 : TIOk Tryz.prog 47 ⟨.struct #[{ name := "Neg", type := 4, offset := 0, embedded := false, tag := "", pkgPath := "", byteOffset := 0 }, { name := "Words", type := 46, offset := 1, embedded := false, tag := "", pkgPath := "", byteOffset := 8 }], 2, 32, [.bool false, .slice none 0 0]⟩ := TIOk.of Tryz.underlying47 (.agg #[.bool false, .slice none 0 0]) (by kernel_rfl) rfl rfl
theorem ti70 : TIOk Tryz.prog 70 ⟨.struct #[{ name := "At", type := 3, offset := 0, embedded := false, tag := "", pkgPath := "", byteOffset := 0 }, { name := "Regs", type := 25, offset := 1, embedded := false, tag := "", pkgPath := "", byteOffset := 8 }], 2, 32, [.int .i64 0, .slice none 0 0]⟩ := TIOk.of Tryz.underlying70 (.agg #[.int .i64 0, .slice none 0 0]) (by kernel_rfl) rfl rfl
theorem ti71 : TIOk Tryz.prog 71 ⟨.struct #[{ name := "At", type := 3, offset := 0, embedded := false, tag := "", pkgPath := "", byteOffset := 0 }, { name := "Regs", type := 25, offset := 1, embedded := false, tag := "", pkgPath := "", byteOffset := 8 }], 2, 32, [.int .i64 0, .slice none 0 0]⟩ := TIOk.of Tryz.underlying71 (.agg #[.int .i64 0, .slice none 0 0]) (by kernel_rfl) rfl rfl
theorem ti76 : TIOk Tryz.prog 76 ⟨.struct #[{ name := "Op", type := 3, offset := 0, embedded := false, tag := "", pkgPath := "", byteOffset := 0 }, { name := "Reg", type := 3, offset := 1, embedded := false, tag := "", pkgPath := "", byteOffset := 8 }, { name := "Next", type := 3, offset := 2, embedded := false, tag := "", pkgPath := "", byteOffset := 16 }, { name := "Zero", type := 3, offset := 3, embedded := false, tag := "", pkgPath := "", byteOffset := 24 }], 4, 32, [.int .i64 0, .int .i64 0, .int .i64 0, .int .i64 0]⟩ := TIOk.of Tryz.underlying76 (.agg #[.int .i64 0, .int .i64 0, .int .i64 0, .int .i64 0]) (by kernel_rfl) rfl rfl
theorem ti77 : TIOk Tryz.prog 77 ⟨.struct #[{ name := "Op", type := 3, offset := 0, embedded := false, tag := "", pkgPath := "", byteOffset := 0 }, { name := "Reg", type := 3, offset := 1, embedded := false, tag := "", pkgPath := "", byteOffset := 8 }, { name := "Next", type := 3, offset := 2, embedded := false, tag := "", pkgPath := "", byteOffset := 16 }, { name := "Zero", type := 3, offset := 3, embedded := false, tag := "", pkgPath := "", byteOffset := 24 }], 4, 32, [.int .i64 0, .int .i64 0, .int .i64 0, .int .i64 0]⟩ := TIOk.of Tryz.underlying77 (.agg #[.int .i64 0, .int .i64 0, .int .i64 0, .int .i64 0]) (by kernel_rfl) rfl rfl
theorem ti78 : TIOk Tryz.prog 78 ⟨.struct #[{ name := "m", type := 24, offset := 0, embedded := false, tag := "", pkgPath := "arithmancy/arithmancytop", byteOffset := 0 }, { name := "at", type := 3, offset := 2, embedded := false, tag := "", pkgPath := "arithmancy/arithmancytop", byteOffset := 32 }, { name := "regs", type := 25, offset := 3, embedded := false, tag := "", pkgPath := "arithmancy/arithmancytop", byteOffset := 40 }, { name := "done", type := 4, offset := 4, embedded := false, tag := "", pkgPath := "arithmancy/arithmancytop", byteOffset := 64 }], 5, 72, [.int .i64 0, .slice none 0 0, .int .i64 0, .slice none 0 0, .bool false]⟩ := TIOk.of Tryz.underlying78 (.agg #[.int .i64 0, .slice none 0 0, .int .i64 0, .slice none 0 0, .bool false]) (by kernel_rfl) rfl rfl
theorem ti79 : TIOk Tryz.prog 79 ⟨.struct #[{ name := "m", type := 24, offset := 0, embedded := false, tag := "", pkgPath := "arithmancy/arithmancytop", byteOffset := 0 }, { name := "at", type := 3, offset := 2, embedded := false, tag := "", pkgPath := "arithmancy/arithmancytop", byteOffset := 32 }, { name := "regs", type := 25, offset := 3, embedded := false, tag := "", pkgPath := "arithmancy/arithmancytop", byteOffset := 40 }, { name := "done", type := 4, offset := 4, embedded := false, tag := "", pkgPath := "arithmancy/arithmancytop", byteOffset := 64 }], 5, 72, [.int .i64 0, .slice none 0 0, .int .i64 0, .slice none 0 0, .bool false]⟩ := TIOk.of Tryz.underlying79 (.agg #[.int .i64 0, .slice none 0 0, .int .i64 0, .slice none 0 0, .bool false]) (by kernel_rfl) rfl rfl
theorem ti81 : TIOk Tryz.prog 81 ⟨.struct #[{ name := "m", type := 24, offset := 0, embedded := false, tag := "", pkgPath := "arithmancy/history", byteOffset := 0 }, { name := "x", type := 25, offset := 2, embedded := false, tag := "", pkgPath := "arithmancy/history", byteOffset := 32 }, { name := "vars", type := 3, offset := 3, embedded := false, tag := "", pkgPath := "arithmancy/history", byteOffset := 56 }, { name := "add", type := 3, offset := 4, embedded := false, tag := "", pkgPath := "arithmancy/history", byteOffset := 64 }], 5, 72, [.int .i64 0, .slice none 0 0, .slice none 0 0, .int .i64 0, .int .i64 0]⟩ := TIOk.of Tryz.underlying81 (.agg #[.int .i64 0, .slice none 0 0, .slice none 0 0, .int .i64 0, .int .i64 0]) (by kernel_rfl) rfl rfl
theorem ti82 : TIOk Tryz.prog 82 ⟨.struct #[{ name := "m", type := 24, offset := 0, embedded := false, tag := "", pkgPath := "arithmancy/history", byteOffset := 0 }, { name := "x", type := 25, offset := 2, embedded := false, tag := "", pkgPath := "arithmancy/history", byteOffset := 32 }, { name := "vars", type := 3, offset := 3, embedded := false, tag := "", pkgPath := "arithmancy/history", byteOffset := 56 }, { name := "add", type := 3, offset := 4, embedded := false, tag := "", pkgPath := "arithmancy/history", byteOffset := 64 }], 5, 72, [.int .i64 0, .slice none 0 0, .slice none 0 0, .int .i64 0, .int .i64 0]⟩ := TIOk.of Tryz.underlying82 (.agg #[.int .i64 0, .slice none 0 0, .slice none 0 0, .int .i64 0, .int .i64 0]) (by kernel_rfl) rfl rfl
theorem ti95 : TIOk Tryz.prog 95 ⟨.int .u64, 1, 8, [.int .u64 0]⟩ := TIOk.of Tryz.underlying95 (.int .u64 0) (by kernel_rfl) rfl rfl
theorem ti97 : TIOk Tryz.prog 97 ⟨.slice 105, 1, 24, [.slice none 0 0]⟩ := TIOk.of Tryz.underlying97 (.slice none 0 0) (by kernel_rfl) rfl rfl
theorem ti98 : TIOk Tryz.prog 98 ⟨.struct #[{ name := "Kind", type := 3, offset := 0, embedded := false, tag := "", pkgPath := "", byteOffset := 0 }, { name := "Vars", type := 25, offset := 1, embedded := false, tag := "", pkgPath := "", byteOffset := 8 }, { name := "Polys", type := 97, offset := 2, embedded := false, tag := "", pkgPath := "", byteOffset := 32 }], 3, 56, [.int .i64 0, .slice none 0 0, .slice none 0 0]⟩ := TIOk.of Tryz.underlying98 (.agg #[.int .i64 0, .slice none 0 0, .slice none 0 0]) (by kernel_rfl) rfl rfl
theorem ti99 : TIOk Tryz.prog 99 ⟨.struct #[{ name := "Kind", type := 3, offset := 0, embedded := false, tag := "", pkgPath := "", byteOffset := 0 }, { name := "Vars", type := 25, offset := 1, embedded := false, tag := "", pkgPath := "", byteOffset := 8 }, { name := "Polys", type := 97, offset := 2, embedded := false, tag := "", pkgPath := "", byteOffset := 32 }], 3, 56, [.int .i64 0, .slice none 0 0, .slice none 0 0]⟩ := TIOk.of Tryz.underlying99 (.agg #[.int .i64 0, .slice none 0 0, .slice none 0 0]) (by kernel_rfl) rfl rfl
theorem ti100 : TIOk Tryz.prog 100 ⟨.pointer 102, 1, 8, [.pointer none]⟩ := TIOk.of Tryz.underlying100 (.pointer none) (by kernel_rfl) rfl rfl
theorem ti101 : TIOk Tryz.prog 101 ⟨.struct #[{ name := "n", type := 3, offset := 0, embedded := false, tag := "", pkgPath := "arithmancy/arithmancyref14", byteOffset := 0 }, { name := "links", type := 37, offset := 1, embedded := false, tag := "", pkgPath := "arithmancy/arithmancyref14", byteOffset := 8 }], 2, 32, [.int .i64 0, .slice none 0 0]⟩ := TIOk.of Tryz.underlying101 (.agg #[.int .i64 0, .slice none 0 0]) (by kernel_rfl) rfl rfl
theorem ti102 : TIOk Tryz.prog 102 ⟨.struct #[{ name := "n", type := 3, offset := 0, embedded := false, tag := "", pkgPath := "arithmancy/arithmancyref14", byteOffset := 0 }, { name := "links", type := 37, offset := 1, embedded := false, tag := "", pkgPath := "arithmancy/arithmancyref14", byteOffset := 8 }], 2, 32, [.int .i64 0, .slice none 0 0]⟩ := TIOk.of Tryz.underlying102 (.agg #[.int .i64 0, .slice none 0 0]) (by kernel_rfl) rfl rfl
theorem ti104 : TIOk Tryz.prog 104 ⟨.struct #[{ name := "Vars", type := 3, offset := 0, embedded := false, tag := "", pkgPath := "", byteOffset := 0 }, { name := "Terms", type := 103, offset := 1, embedded := false, tag := "", pkgPath := "", byteOffset := 8 }], 2, 32, [.int .i64 0, .slice none 0 0]⟩ := TIOk.of Tryz.underlying104 (.agg #[.int .i64 0, .slice none 0 0]) (by kernel_rfl) rfl rfl
theorem ti124 : TIOk Tryz.prog 124 ⟨.pointer 127, 1, 8, [.pointer none]⟩ := TIOk.of Tryz.underlying124 (.pointer none) (by kernel_rfl) rfl rfl
theorem ti126 : TIOk Tryz.prog 126 ⟨.struct #[{ name := "m", type := 24, offset := 0, embedded := false, tag := "", pkgPath := "arithmancy/register", byteOffset := 0 }, { name := "c", type := 71, offset := 2, embedded := false, tag := "", pkgPath := "arithmancy/register", byteOffset := 32 }], 4, 64, [.int .i64 0, .slice none 0 0, .int .i64 0, .slice none 0 0]⟩ := TIOk.of Tryz.underlying126 (.agg #[.int .i64 0, .slice none 0 0, .int .i64 0, .slice none 0 0]) (by kernel_rfl) rfl rfl
theorem ti127 : TIOk Tryz.prog 127 ⟨.struct #[{ name := "m", type := 24, offset := 0, embedded := false, tag := "", pkgPath := "arithmancy/register", byteOffset := 0 }, { name := "c", type := 71, offset := 2, embedded := false, tag := "", pkgPath := "arithmancy/register", byteOffset := 32 }], 4, 64, [.int .i64 0, .slice none 0 0, .int .i64 0, .slice none 0 0]⟩ := TIOk.of Tryz.underlying127 (.agg #[.int .i64 0, .slice none 0 0, .int .i64 0, .slice none 0 0]) (by kernel_rfl) rfl rfl
theorem ti139 : TIOk Tryz.prog 139 ⟨.pointer 144, 1, 8, [.pointer none]⟩ := TIOk.of Tryz.underlying139 (.pointer none) (by kernel_rfl) rfl rfl
theorem ti140 : TIOk Tryz.prog 140 ⟨.struct #[{ name := "vars", type := 3, offset := 0, embedded := false, tag := "", pkgPath := "arithmancy/expr", byteOffset := 0 }], 1, 8, [.int .i64 0]⟩ := TIOk.of Tryz.underlying140 (.agg #[.int .i64 0]) (by kernel_rfl) rfl rfl
theorem ti141 : TIOk Tryz.prog 141 ⟨.struct #[{ name := "vars", type := 3, offset := 0, embedded := false, tag := "", pkgPath := "arithmancy/expr", byteOffset := 0 }], 1, 8, [.int .i64 0]⟩ := TIOk.of Tryz.underlying141 (.agg #[.int .i64 0]) (by kernel_rfl) rfl rfl
theorem ti143 : TIOk Tryz.prog 143 ⟨.struct #[{ name := "sizes", type := 82, offset := 0, embedded := true, tag := "", pkgPath := "arithmancy/history", byteOffset := 0 }, { name := "Kit", type := 141, offset := 5, embedded := true, tag := "", pkgPath := "", byteOffset := 72 }, { name := "q", type := 105, offset := 6, embedded := false, tag := "", pkgPath := "arithmancy/history", byteOffset := 80 }, { name := "all", type := 105, offset := 8, embedded := false, tag := "", pkgPath := "arithmancy/history", byteOffset := 112 }, { name := "list", type := 37, offset := 10, embedded := false, tag := "", pkgPath := "arithmancy/history", byteOffset := 144 }], 11, 168, [.int .i64 0, .slice none 0 0, .slice none 0 0, .int .i64 0, .int .i64 0, .int .i64 0, .int .i64 0, .slice none 0 0, .int .i64 0, .slice none 0 0, .slice none 0 0]⟩ := TIOk.of Tryz.underlying143 (.agg #[.int .i64 0, .slice none 0 0, .slice none 0 0, .int .i64 0, .int .i64 0, .int .i64 0, .int .i64 0, .slice none 0 0, .int .i64 0, .slice none 0 0, .slice none 0 0]) (by kernel_rfl) rfl rfl
theorem ti144 : TIOk Tryz.prog 144 ⟨.struct #[{ name := "sizes", type := 82, offset := 0, embedded := true, tag := "", pkgPath := "arithmancy/history", byteOffset := 0 }, { name := "Kit", type := 141, offset := 5, embedded := true, tag := "", pkgPath := "", byteOffset := 72 }, { name := "q", type := 105, offset := 6, embedded := false, tag := "", pkgPath := "arithmancy/history", byteOffset := 80 }, { name := "all", type := 105, offset := 8, embedded := false, tag := "", pkgPath := "arithmancy/history", byteOffset := 112 }, { name := "list", type := 37, offset := 10, embedded := false, tag := "", pkgPath := "arithmancy/history", byteOffset := 144 }], 11, 168, [.int .i64 0, .slice none 0 0, .slice none 0 0, .int .i64 0, .int .i64 0, .int .i64 0, .int .i64 0, .slice none 0 0, .int .i64 0, .slice none 0 0, .slice none 0 0]⟩ := TIOk.of Tryz.underlying144 (.agg #[.int .i64 0, .slice none 0 0, .slice none 0 0, .int .i64 0, .int .i64 0, .int .i64 0, .int .i64 0, .slice none 0 0, .int .i64 0, .slice none 0 0, .slice none 0 0]) (by kernel_rfl) rfl rfl
theorem ti157 : TIOk Tryz.prog 157 ⟨.struct #[{ name := "Coef", type := 48, offset := 0, embedded := false, tag := "", pkgPath := "", byteOffset := 0 }, { name := "Exps", type := 25, offset := 2, embedded := false, tag := "", pkgPath := "", byteOffset := 32 }], 3, 56, [.bool false, .slice none 0 0, .slice none 0 0]⟩ := TIOk.of Tryz.underlying157 (.agg #[.bool false, .slice none 0 0, .slice none 0 0]) (by kernel_rfl) rfl rfl
theorem ti181 : TIOk Tryz.prog 181 ⟨.pointer 3, 1, 8, [.pointer none]⟩ := TIOk.of Tryz.underlying181 (.pointer none) (by kernel_rfl) rfl rfl
theorem ti182 : TIOk Tryz.prog 182 ⟨.slice 94, 1, 24, [.slice none 0 0]⟩ := TIOk.of Tryz.underlying182 (.slice none 0 0) (by kernel_rfl) rfl rfl
theorem ti186 : TIOk Tryz.prog 186 ⟨.slice 5, 1, 24, [.slice none 0 0]⟩ := TIOk.of Tryz.underlying186 (.slice none 0 0) (by kernel_rfl) rfl rfl
theorem ti215 : TIOk Tryz.prog 215 ⟨.array 4 3, 4, 32, [.int .i64 0, .int .i64 0, .int .i64 0, .int .i64 0]⟩ := TIOk.of Tryz.underlying215 (.agg #[.int .i64 0, .int .i64 0, .int .i64 0, .int .i64 0]) (by kernel_rfl) rfl rfl
theorem ti219 : TIOk Tryz.prog 219 ⟨.int .i64, 1, 8, [.int .i64 0]⟩ := TIOk.of Tryz.underlying219 (.int .i64 0) (by kernel_rfl) rfl rfl
theorem ti227 : TIOk Tryz.prog 227 ⟨.pointer 245, 1, 8, [.pointer none]⟩ := TIOk.of Tryz.underlying227 (.pointer none) (by kernel_rfl) rfl rfl
theorem ti228 : TIOk Tryz.prog 228 ⟨.pointer 249, 1, 8, [.pointer none]⟩ := TIOk.of Tryz.underlying228 (.pointer none) (by kernel_rfl) rfl rfl
theorem ti239 : TIOk Tryz.prog 239 ⟨.struct #[{ name := "chi", type := 48, offset := 0, embedded := false, tag := "", pkgPath := "arithmancy/lucas", byteOffset := 0 }, { name := "psi", type := 48, offset := 2, embedded := false, tag := "", pkgPath := "arithmancy/lucas", byteOffset := 32 }], 4, 64, [.bool false, .slice none 0 0, .bool false, .slice none 0 0]⟩ := TIOk.of Tryz.underlying239 (.agg #[.bool false, .slice none 0 0, .bool false, .slice none 0 0]) (by kernel_rfl) rfl rfl
theorem ti240 : TIOk Tryz.prog 240 ⟨.struct #[{ name := "chi", type := 48, offset := 0, embedded := false, tag := "", pkgPath := "arithmancy/lucas", byteOffset := 0 }, { name := "psi", type := 48, offset := 2, embedded := false, tag := "", pkgPath := "arithmancy/lucas", byteOffset := 32 }], 4, 64, [.bool false, .slice none 0 0, .bool false, .slice none 0 0]⟩ := TIOk.of Tryz.underlying240 (.agg #[.bool false, .slice none 0 0, .bool false, .slice none 0 0]) (by kernel_rfl) rfl rfl
theorem ti242 : TIOk Tryz.prog 242 ⟨.struct #[{ name := "Err", type := 34, offset := 0, embedded := false, tag := "", pkgPath := "", byteOffset := 0 }], 1, 8, [.int .i64 0]⟩ := TIOk.of Tryz.underlying242 (.agg #[.int .i64 0]) (by kernel_rfl) rfl rfl
theorem ti243 : TIOk Tryz.prog 243 ⟨.struct #[{ name := "Err", type := 34, offset := 0, embedded := false, tag := "", pkgPath := "", byteOffset := 0 }], 1, 8, [.int .i64 0]⟩ := TIOk.of Tryz.underlying243 (.agg #[.int .i64 0]) (by kernel_rfl) rfl rfl
theorem ti244 : TIOk Tryz.prog 244 ⟨.struct #[{ name := "Chain", type := 243, offset := 0, embedded := true, tag := "", pkgPath := "", byteOffset := 0 }, { name := "a", type := 48, offset := 1, embedded := false, tag := "", pkgPath := "arithmancy/lucas", byteOffset := 8 }, { name := "rest", type := 200, offset := 3, embedded := false, tag := "", pkgPath := "arithmancy/lucas", byteOffset := 40 }], 4, 48, [.int .i64 0, .bool false, .slice none 0 0, .nilFunc]⟩ := TIOk.of Tryz.underlying244 (.agg #[.int .i64 0, .bool false, .slice none 0 0, .nilFunc]) (by kernel_rfl) rfl rfl
theorem ti245 : TIOk Tryz.prog 245 ⟨.struct #[{ name := "Chain", type := 243, offset := 0, embedded := true, tag := "", pkgPath := "", byteOffset := 0 }, { name := "a", type := 48, offset := 1, embedded := false, tag := "", pkgPath := "arithmancy/lucas", byteOffset := 8 }, { name := "rest", type := 200, offset := 3, embedded := false, tag := "", pkgPath := "arithmancy/lucas", byteOffset := 40 }], 4, 48, [.int .i64 0, .bool false, .slice none 0 0, .nilFunc]⟩ := TIOk.of Tryz.underlying245 (.agg #[.int .i64 0, .bool false, .slice none 0 0, .nilFunc]) (by kernel_rfl) rfl rfl
theorem ti247 : TIOk Tryz.prog 247 ⟨.map 251 48, 1, 8, [.map none]⟩ := TIOk.of Tryz.underlying247 (.map none) (by kernel_rfl) rfl rfl
theorem ti248 : TIOk Tryz.prog 248 ⟨.struct #[{ name := "vars", type := 3, offset := 0, embedded := false, tag := "", pkgPath := "arithmancy/poly", byteOffset := 0 }, { name := "all", type := 247, offset := 1, embedded := false, tag := "", pkgPath := "arithmancy/poly", byteOffset := 8 }], 2, 16, [.int .i64 0, .map none]⟩ := TIOk.of Tryz.underlying248 (.agg #[.int .i64 0, .map none]) (by kernel_rfl) rfl rfl
theorem ti249 : TIOk Tryz.prog 249 ⟨.struct #[{ name := "vars", type := 3, offset := 0, embedded := false, tag := "", pkgPath := "arithmancy/poly", byteOffset := 0 }, { name := "all", type := 247, offset := 1, embedded := false, tag := "", pkgPath := "arithmancy/poly", byteOffset := 8 }], 2, 16, [.int .i64 0, .map none]⟩ := TIOk.of Tryz.underlying249 (.agg #[.int .i64 0, .map none]) (by kernel_rfl) rfl rfl
theorem ti250 : TIOk Tryz.prog 250 ⟨.array 32 3, 32, 256, [.int .i64 0, .int .i64 0, .int .i64 0, .int .i64 0, .int .i64 0, .int .i64 0, .int .i64 0, .int .i64 0, .int .i64 0, .int .i64 0, .int .i64 0, .int .i64 0, .int .i64 0, .int .i64 0, .int .i64 0, .int .i64 0, .int .i64 0, .int .i64 0, .int .i64 0, .int .i64 0, .int .i64 0, .int .i64 0, .int .i64 0, .int .i64 0, .int .i64 0, .int .i64 0, .int .i64 0, .int .i64 0, .int .i64 0, .int .i64 0, .int .i64 0, .int .i64 0]⟩ := TIOk.of Tryz.underlying250 (.agg #[.int .i64 0, .int .i64 0, .int .i64 0, .int .i64 0, .int .i64 0, .int .i64 0, .int .i64 0, .int .i64 0, .int .i64 0, .int .i64 0, .int .i64 0, .int .i64 0, .int .i64 0, .int .i64 0, .int .i64 0, .int .i64 0, .int .i64 0, .int .i64 0, .int .i64 0, .int .i64 0, .int .i64 0, .int .i64 0, .int .i64 0, .int .i64 0, .int .i64 0, .int .i64 0, .int .i64 0, .int .i64 0, .int .i64 0, .int .i64 0, .int .i64 0, .int .i64 0]) (by kernel_rfl) rfl rfl
theorem ti251 : TIOk Tryz.prog 251 ⟨.array 32 3, 32, 256, [.int .i64 0, .int .i64 0, .int .i64 0, .int .i64 0, .int .i64 0, .int .i64 0, .int .i64 0, .int .i64 0, .int .i64 0, .int .i64 0, .int .i64 0, .int .i64 0, .int .i64 0, .int .i64 0, .int .i64 0, .int .i64 0, .int .i64 0, .int .i64 0, .int .i64 0, .int .i64 0, .int .i64 0, .int .i64 0, .int .i64 0, .int .i64 0, .int .i64 0, .int .i64 0, .int .i64 0, .int .i64 0, .int .i64 0, .int .i64 0, .int .i64 0, .int .i64 0]⟩ := TIOk.of Tryz.underlying251 (.agg #[.int .i64 0, .int .i64 0, .int .i64 0, .int .i64 0, .int .i64 0, .int .i64 0, .int .i64 0, .int .i64 0, .int .i64 0, .int .i64 0, .int .i64 0, .int .i64 0, .int .i64 0, .int .i64 0, .int .i64 0, .int .i64 0, .int .i64 0, .int .i64 0, .int .i64 0, .int .i64 0, .int .i64 0, .int .i64 0, .int .i64 0, .int .i64 0, .int .i64 0, .int .i64 0, .int .i64 0, .int .i64 0, .int .i64 0, .int .i64 0, .int .i64 0, .int .i64 0]) (by kernel_rfl) rfl rfl
theorem ti257 : TIOk Tryz.prog 257 ⟨.pointer 243, 1, 8, [.pointer none]⟩ := TIOk.of Tryz.underlying257 (.pointer none) (by kernel_rfl) rfl rfl
theorem ti261 : TIOk Tryz.prog 261 ⟨.int .i64, 1, 8, [.int .i64 0]⟩ := TIOk.of Tryz.underlying261 (.int .i64 0) (by kernel_rfl) rfl rfl
theorem ti269 : TIOk Tryz.prog 269 ⟨.int .u64, 1, 8, [.int .u64 0]⟩ := TIOk.of Tryz.underlying269 (.int .u64 0) (by kernel_rfl) rfl rfl
theorem ti274 : TIOk Tryz.prog 274 ⟨.pointer 269, 1, 8, [.pointer none]⟩ := TIOk.of Tryz.underlying274 (.pointer none) (by kernel_rfl) rfl rfl
theorem ti286 : TIOk Tryz.prog 286 ⟨.pointer 5, 1, 8, [.pointer none]⟩ := TIOk.of Tryz.underlying286 (.pointer none) (by kernel_rfl) rfl rfl
theorem ti200 : TIOk Tryz.prog 200 ⟨.func #[48] #[48] false, 1, 8, [.nilFunc]⟩ := TIOk.of Tryz.underlying200 (.nilFunc) (by kernel_rfl) rfl rfl
theorem ti209 : TIOk Tryz.prog 209 ⟨.func #[] #[105] false, 1, 8, [.nilFunc]⟩ := TIOk.of Tryz.underlying209 (.nilFunc) (by kernel_rfl) rfl rfl
theorem ti285 : TIOk Tryz.prog 285 ⟨.func #[291, 291] #[4] false, 1, 8, [.nilFunc]⟩ := TIOk.of Tryz.underlying285 (.nilFunc) (by kernel_rfl) rfl rfl
theorem tabAll : AllTI Tryz.prog tabL := (.cons ti3 (.cons ti94 (.cons ti46 (.cons ti48 (.cons ti4 (.cons ti92 (.cons ti25 (.cons ti33 (.cons ti158 (.cons ti103 (.cons ti105 (.cons ti2 (.cons ti5 (.cons ti9 (.cons ti12 (.cons ti13 (.cons ti21 (.cons ti22 (.cons ti23 (.cons ti24 (.cons ti26 (.cons ti30 (.cons ti34 (.cons ti37 (.cons ti38 (.cons ti39 (.cons ti47 (.cons ti70 (.cons ti71 (.cons ti76 (.cons ti77 (.cons ti78 (.cons ti79 (.cons ti81 (.cons ti82 (.cons ti95 (.cons ti97 (.cons ti98 (.cons ti99 (.cons ti100 (.cons ti101 (.cons ti102 (.cons ti104 (.cons ti124 (.cons ti126 (.cons ti127 (.cons ti139 (.cons ti140 (.cons ti141 (.cons ti143 (.cons ti144 (.cons ti157 (.cons ti181 (.cons ti182 (.cons ti186 (.cons ti215 (.cons ti219 (.cons ti227 (.cons ti228 (.cons ti239 (.cons ti240 (.cons ti242 (.cons ti243 (.cons ti244 (.cons ti245 (.cons ti247 (.cons ti248 (.cons ti249 (.cons ti250 (.cons ti251 (.cons ti257 (.cons ti261 (.cons ti269 (.cons ti274 (.cons ti286 (.cons ti200 (.cons ti209 (.cons ti285 .nil))))))))))))))))))))))))))))))))))))))))))))))))))))))))))))))))))))))))))))))
theorem tabOk : TabOk Tryz.prog tab := tabOk_of tabAll
instance : Facts Tryz.prog tab := ⟨tabOk, by kernel_rfl⟩
end Go.Proofs.YtmmfloplhopioaaGreat
/- How the program's data are written az abstract values. -/
namespace Go.AL
def eW : Int → List AV := fun w => [.v (.int .u32 w)]
def eI : Int → List AV := fun i => [.v (.int .i64 i)]
abbrev aW (l : List Int) : AV := .sl 1 eW l
abbrev aI (l : List Int) : AV := .sl 1 eI l
abbrev aN (i : Int) : AV := .v (.int .i64 i)
abbrev aB (b : Bool) : AV := .v (.bool b)
abbrev aU (i : Int) : AV := .v (.int .u64 i)
structure Z where
  neg : Bool
  w : List Int
def eZ : Z → List AV := fun z => [aB z.neg, aW z.w]
abbrev aZ (z : Z) : AV := .agg [aB z.neg, aW z.w]
def zOf (x : Int) : Z := ⟨decide (x < 0), toW x.natAbs⟩
def eX : Int → List AV := fun x => [aB (decide (x < 0)), aW (toW x.natAbs)]
abbrev aX (x : Int) : AV := .agg [aB (decide (x < 0)), aW (toW x.natAbs)]
def Fit (x : Int) : Prop := x.natAbs < BB 4096
instance decFit (x : Int) : Decidable (Fit x) := inferInstanceAs (Decidable ((x.natAbs : Int) < BB 4096))
attribute [irreducible] decFit
theorem Fit.lt {x : Int} (h : Fit x) : (x.natAbs : Int) < BB 4096 := h
theorem Fit.mk {x : Int} (h : (x.natAbs : Int) < BB 4096) : Fit x := h
attribute [irreducible] Fit
end Go.AL
namespace Go.AL
theorem trimL_take0 {l : List Int} {n : Int} (h0 : 0 < n) (hx : l[(n - 1).toNat]? = some 0) : trimL (l.take (n - 1).toNat) = trimL (l.take n.toNat) := by
 have : n.toNat = (n - 1).toNat + 1 := by omega
 rw [this, take_snoc hx, trimL_snoc0]
theorem trimL_take1 {l : List Int} {n : Int} {x : Int} (h0 : 0 < n) (hx : l[(n - 1).toNat]? = some x) (hz : ¬ x = 0) : trimL (l.take n.toNat) = l.take n.toNat := by
 have : n.toNat = (n - 1).toNat + 1 := by omega
 rw [this, take_snoc hx, trimL_snoc hz]
end Go.AL
namespace Go.Proofs.YtmmfloplhopioaaGreat
open Go.AL
theorem trim_ok (l : List Int) (hl : WOk l) (hb : l.length ≤ 100000) : PureFn Tryz.prog 152 [aW l] (aW (toW (val l))) := by
 refine PureFn.of_body Tryz.func152 rfl Tryz.ntmps152 rfl rfl ?_;(repeat' (first |refine qv ?_ |apply qn |apply qs |apply qr |apply qb));refine AWP.loop (G := Int) (fun n => 0 ≤ n ∧ n ≤ l.length ∧ trimL (l.take n.toNat) = trimL l) (fun n => St.of [] [(0, aW l), (3, aN n)] []) (fun n => n.toNat) (l.length : Int) ⟨by omega, by omega, by simp⟩ ?_ ?_
 ·exact Ent.of [] ⟨⟨AV.Le.refl _, rfl⟩, ⟨AV.Le.refl _, rfl⟩, trivial⟩ trivial rfl rfl
 ·intro n ⟨h0, h1, h2⟩;(repeat' (first |refine qv ?_ |apply qn |apply qs |apply qr |refine qw ?_ |refine Fl.skip rfl rfl ?_ |refine AWP.condF rfl ?_ |(refine AWP.condD rfl ?_ ?_ <;> intro _ <;> try (exfalso; omega)) |apply qb |apply qk |apply qx |apply qt |(refine Fl.elW rfl rfl rfl rfl rfl rfl rfl rfl (by omega) (by omega) (by assumption) ?_; intro _ _ _ _) |(refine Fl.splitD rfl rfl ?_ ?_ <;> intro _ <;> try (exfalso; omega))))
  ·rename_i x hx hx0 hx1 hz;subst hz;refine LoopEnd.of (n - 1) ⟨by omega, by omega, ?_⟩ (by omega) ?_
   ·rw [← h2, trimL_take0 (by omega) hx]
   ·exact Ent.of [] ⟨⟨AV.Le.refl _, rfl⟩, ⟨AV.Le.refl _, rfl⟩, trivial⟩ trivial rfl rfl
  ·rename_i x hx hx0 hx1 hz;refine RetOk.of rfl (AV.Le.of_eq ?_);rw [← trimL_eq hl, ← h2, trimL_take1 (by omega) hx hz]
  ·refine RetOk.of rfl (AV.Le.of_eq ?_)
   have : n = 0 := by omega
   subst this;rw [← trimL_eq hl, ← h2]; simp [trimL]
end Go.Proofs.YtmmfloplhopioaaGreat
/- Words: comparing, adding, subtracting, multiplying; plain. -/
namespace Go.AL
def cmpI (x y : Int) : Int := if x < y then -1 else if y < x then 1 else 0
theorem cmpI_lt {x y : Int} (h : x < y) : cmpI x y = -1 := by simp [cmpI, h]
theorem cmpI_gt {x y : Int} (h : y < x) : cmpI x y = 1 := by unfold cmpI; rw [if_neg (by omega), if_pos h]
theorem cmpI_eq {x y : Int} (h : x = y) : cmpI x y = 0 := by unfold cmpI; rw [if_neg (by omega), if_neg (by omega)]
theorem toW_len_lt {x y : Int} (hx : 0 ≤ x) (hy : 0 ≤ y) (h : (toW x).length < (toW y).length) : x < y := by
 have h1 := (toW_len_le hx (toW x).length).1 (Nat.le_refl _)
 have h2 : ¬ y < BB (toW x).length := fun h2 => by have := (toW_len_le hy _).2 h2; omega
 omega
theorem val_split {l : List Int} {i : Nat} {x : Int} (hx : l[i]? = some x) : val l = val (l.take i) + BB i * (x + 4294967296 * val (l.drop (i + 1))) := by
 have hi : i < l.length := (List.getElem?_eq_some_iff.1 hx).1
 have h1 : l = l.take i ++ x :: l.drop (i + 1) := by
  rw [show x :: l.drop (i + 1) = l.drop i from ?_, List.take_append_drop];have := (List.getElem?_eq_some_iff.1 hx).2;rw [List.drop_eq_getElem_cons hi, this]
 conv => lhs; rw [h1, val_append, List.length_take, Nat.min_eq_left (by omega)]
 simp only [val]
theorem val_lt_at {a b : List Int} (ha : WOk a) (hb : WOk b) {i : Nat} {x y : Int} (hx : a[i]? = some x) (hy : b[i]? = some y) (hd : a.drop (i + 1) = b.drop (i + 1)) (h : x < y) : val a < val b := by
 rw [val_split hx, val_split hy, hd];have h1 := val_lt (ha.take i);have h2 := val_nonneg (hb.take i);have hi : i < a.length := (List.getElem?_eq_some_iff.1 hx).1;rw [List.length_take, Nat.min_eq_left (by omega)] at h1;have h3 : BB i * 1 ≤ BB i * (y - x) := Int.mul_le_mul_of_nonneg_left (by omega) (by have := BB_pos i; omega)
 have h4 : BB i * (y + 4294967296 * val (b.drop (i + 1))) = BB i * (x + 4294967296 * val (b.drop (i + 1))) + BB i * (y - x) := by grind
 omega
theorem drop_eq_of {a b : List Int} {i : Nat} {x y : Int} (hx : a[i]? = some x) (hy : b[i]? = some y) (hd : a.drop (i + 1) = b.drop (i + 1)) (h : x = y) : a.drop i = b.drop i := by
 have hi : i < a.length := (List.getElem?_eq_some_iff.1 hx).1;have hi2 : i < b.length := (List.getElem?_eq_some_iff.1 hy).1;rw [List.drop_eq_getElem_cons hi, List.drop_eq_getElem_cons hi2, hd, (List.getElem?_eq_some_iff.1 hx).2, (List.getElem?_eq_some_iff.1 hy).2, h]
theorem val_take_succ {A : List Int} {i : Nat} {x : Int} (h : A[i]? = some x) : val (A.take (i + 1)) = val (A.take i) + BB i * x := by
 have hi : i < A.length := (List.getElem?_eq_some_iff.1 h).1;rw [take_snoc h, val_snoc, List.length_take, Nat.min_eq_left (by omega)]
theorem val_take_end {B : List Int} {i : Nat} (h : B.length ≤ i) : val (B.take (i + 1)) = val (B.take i) + BB i * 0 := by
 rw [List.take_of_length_le h, List.take_of_length_le (by omega)]; omega
theorem set_rep {os : List Int} {n m k : Nat} {w w' : Int} (hk : k = os.length) (hn : n = m + 1) (hw : w = w') : (os ++ List.replicate n 0).set k w = os ++ [w'] ++ List.replicate m 0 := by
 subst hk hn hw;rw [List.replicate_succ, set_at]
theorem get_drop {α : Type} {os A : List α} {k : Nat} (hk : k = os.length) : (os ++ A.drop os.length)[k]? = A[os.length]? := by
 subst hk;rw [List.getElem?_append_right (Nat.le_refl _), Nat.sub_self, List.getElem?_drop]; rfl
theorem set_drop {α : Type} {os A : List α} {k : Nat} {w w' : α} (hk : k = os.length) (hl : os.length < A.length) (hw : w = w') : (os ++ A.drop os.length).set k w = os ++ [w'] ++ A.drop (os.length + 1) := by
 subst hk hw;rw [List.drop_eq_getElem_cons hl, set_at]
theorem plus_step {os A B : List Int} {c x y s : Int} (hA : A[os.length]? = some x) (hB : val (B.take (os.length + 1)) = val (B.take os.length) + BB os.length * y)
  (h : val os + BB os.length * c = val (A.take os.length) + val (B.take os.length)) (hs : s = c + x + y) :
  val (os ++ [s % 4294967296]) + BB (os.length + 1) * (s / 4294967296) = val (A.take (os.length + 1)) + val (B.take (os.length + 1)) := by
 rw [val_snoc, val_take_succ hA, hB, BB_succ]
 have h1 : s = s % 4294967296 + 4294967296 * (s / 4294967296) := by omega
 generalize s % 4294967296 = p at h1;generalize s / 4294967296 = q at h1;subst hs;grind
theorem minus_step {os A B : List Int} {c x y p q : Int} (hA : A[os.length]? = some x) (hB : val (B.take (os.length + 1)) = val (B.take os.length) + BB os.length * y)
  (h : val os = val (A.take os.length) - val (B.take os.length) + BB os.length * c) (hs : x - c - y = p - 4294967296 * q) :
  val (os ++ [p]) = val (A.take (os.length + 1)) - val (B.take (os.length + 1)) + BB (os.length + 1) * q := by
 rw [val_snoc, val_take_succ hA, hB, BB_succ];grind
theorem times_step {ps D B : List Int} {i k : Nat} {c x y w s : Int} (hn : ps.length = i + k) (hD : D[ps.length]? = some w) (hB : B[k]? = some y)
  (h : val ps + BB ps.length * c = val (D.take ps.length) + BB i * (x * val (B.take k))) (hs : s = c + (x * y + w)) :
  val (ps ++ [s % 4294967296]) + BB (ps.length + 1) * (s / 4294967296) = val (D.take (ps.length + 1)) + BB i * (x * val (B.take (k + 1))) := by
 rw [val_snoc, val_take_succ hD, val_take_succ hB, BB_succ]
 have h1 : s = s % 4294967296 + 4294967296 * (s / 4294967296) := by omega
 have h2 : BB ps.length = BB i * BB k := by rw [hn, BB_add]
 generalize s % 4294967296 = p at h1;generalize s / 4294967296 = q at h1
 generalize val (D.take ps.length) = d at *
 generalize val (B.take k) = b at *
 generalize BB ps.length = e at *
 subst hs h2;grind
end Go.AL
namespace Go.Proofs.YtmmfloplhopioaaGreat
open Go.AL
theorem compare_ok (x y : Int) (hx : 0 ≤ x) (hy : 0 ≤ y) (hxl : (toW x).length ≤ 100000) (hyl : (toW y).length ≤ 100000) : PureFn Tryz.prog 223 [aW (toW x), aW (toW y)] (aN (cmpI x y)) := by
 refine PureFn.of_body Tryz.func223 rfl Tryz.ntmps223 rfl rfl ?_;have wx := toW_ok x;have wy := toW_ok y;(repeat' (first |refine qv ?_ |apply qn |apply qs |apply qr |refine qw ?_ |(refine AWP.condD rfl ?_ ?_ <;> intro _ <;> try (exfalso; omega)) |(refine AWP.condN rfl ?_ ?_ <;> intro _ <;> try (exfalso; omega)) |apply qb |apply qk |apply qt))
 ·refine RetOk.of rfl (AV.Le.of_eq ?_);rw [cmpI_lt (toW_len_lt hx hy (by omega))]
 ·refine RetOk.of rfl (AV.Le.of_eq ?_);rw [cmpI_gt (toW_len_lt hy hx (by omega))]
 ·rename_i hl;refine AWP.loop (G := Int) (fun i => -1 ≤ i ∧ i < (toW x).length ∧ (toW x).drop (i + 1).toNat = (toW y).drop (i + 1).toNat) (fun i => St.of [] [(0, aW (toW x)), (1, aW (toW y)), (5, aN i)] []) (fun i => (i + 1).toNat) ((toW x).length - 1 : Int) ⟨by omega, by omega, by rw [List.drop_of_length_le (by omega), List.drop_of_length_le (by omega)]⟩ ?_ ?_
  ·refine Ent.of [] ?_ ?_ rfl rfl;(repeat' (first |exact True.intro |refine ⟨⟨AV.Le.refl _, rfl⟩, ?_⟩|fail))
  ·intro i ⟨h0, h1, h2⟩;have hsx := val_toW hx;have hsy := val_toW hy;(repeat' (first |refine qv ?_ |apply qn |refine Fl.nil (fun _ => by kernel_rfl) ?_ |apply qs |apply qr |refine qw ?_ |(refine AWP.condD rfl ?_ ?_ <;> intro _ <;> try (exfalso; omega)) |apply qb |apply qk |apply qx |apply qt |refine qK ?_ |(refine Fl.elW rfl rfl rfl rfl rfl rfl rfl rfl (by omega) (by omega) (by assumption) ?_; intro _ _ _ _)|fail))
   ·rename_i hi u hu _ _ v hv _ _ huv;refine RetOk.of rfl (AV.Le.of_eq ?_);have := val_lt_at wx wy hu hv (by rw [show i.toNat + 1 = (i + 1).toNat by omega]; exact h2) huv;rw [cmpI_lt (by omega)]
   ·rename_i hi u hu _ _ v hv _ _ _ huv;refine RetOk.of rfl (AV.Le.of_eq ?_);have := val_lt_at wy wx hv hu (by rw [show i.toNat + 1 = (i + 1).toNat by omega]; exact h2.symm) huv;rw [cmpI_gt (by omega)]
   ·rename_i hi u hu _ _ v hv _ _ huv hvu;refine LoopEnd.of (i - 1) ⟨by omega, by omega, ?_⟩ (by omega) ?_
    ·have := drop_eq_of hu hv (by rw [show i.toNat + 1 = (i + 1).toNat by omega]; exact h2) (by omega);rwa [show (i - 1 + 1).toNat = i.toNat by omega]
    ·refine Ent.of [] ?_ ?_ rfl rfl;(repeat' (first |exact True.intro |refine ⟨⟨AV.Le.refl _, rfl⟩, ?_⟩|fail))
   ·refine RetOk.of rfl (AV.Le.of_eq ?_)
    have : i = -1 := by omega
    subst this;rw [show ((-1 : Int) + 1).toNat = 0 from rfl, List.drop_zero, List.drop_zero] at h2;rw [cmpI_eq (by rw [← hsx, ← hsy, h2])]
end Go.Proofs.YtmmfloplhopioaaGreat
namespace Go.Proofs.YtmmfloplhopioaaGreat
open Go.AL
theorem plus_ok (x y : Int) (hx : 0 ≤ x) (hy : 0 ≤ y) (hxl : (toW x).length ≤ 50000) (hyl : (toW y).length ≤ 50000) : PureFn Tryz.prog 150 [aW (toW x), aW (toW y)] (aW (toW (x + y))) := by
 refine PureFn.of_body Tryz.func150 rfl Tryz.ntmps150 rfl rfl ?_;refine AWP.seqS ?_;(repeat' (first |refine qv ?_ |apply qn |apply qr));refine ⟨?_⟩;refine AWP.seqJ (G := List Int × List Int) (fun (A, B) => WOk A ∧ WOk B ∧ B.length ≤ A.length ∧ A.length ≤ 50000 ∧ val A + val B = x + y) (fun (A, B) => St.of [] [(0, aW A), (1, aW B)] []) ?_ ?_
 ·have wx := toW_ok x;have wy := toW_ok y;have hsx := val_toW hx;have hsy := val_toW hy;(repeat' (first |refine qv ?_ |apply qn |apply qs |apply qr |(refine AWP.condD rfl ?_ ?_ <;> intro _ <;> try (exfalso; omega)) |apply qk))
  ·refine JoinOk.of (toW y, toW x) ⟨wy, wx, by omega, by omega, by omega⟩ ?_;refine Ent.of [] ?_ ?_ rfl rfl;(repeat' (first |exact True.intro |refine ⟨⟨AV.Le.refl _, rfl⟩, ?_⟩|fail))
  ·refine JoinOk.of (toW x, toW y) ⟨wx, wy, by omega, by omega, by omega⟩ ?_;refine Ent.of [] ?_ ?_ rfl rfl;(repeat' (first |exact True.intro |refine ⟨⟨AV.Le.refl _, rfl⟩, ?_⟩|fail))
 ·intro ⟨A, B⟩ ⟨wA, wB, hl, hA, hs⟩;refine AWP.seqS ?_;(repeat' (first |refine qv ?_ |apply qn |apply qr |refine qw ?_ |refine Fl.make rfl rfl rfl rfl rfl rfl rfl rfl rfl rfl eW 0 (by exact LeL.refl _) (by rfl) (by first | omega | (dsimp only; omega)) (by first | omega | (dsimp only; omega)) (by first | omega | (dsimp only; omega)) ?_|fail));refine ⟨?_⟩;refine AWP.seqS ?_;(repeat' (first |refine qv ?_ |apply qn |apply qr));refine ⟨?_⟩;refine AWP.seqJ (G := List Int × Int) (fun (os, c) => os.length = A.length ∧ WOk os ∧ 0 ≤ c ∧ c ≤ 1 ∧ val os + BB os.length * c = x + y) (fun (os, c) => St.of [] [(0, aW A), (5, .row 19), (6, aU c)] [(19, .row 1 eW (os ++ List.replicate 1 0) 94)]) ?_ ?_
  ·(repeat' (first |refine qv ?_ |apply qn |apply qs |apply qr |apply qb));refine AWP.loop (G := List Int × Int) (fun (os, c) => os.length ≤ A.length ∧ WOk os ∧ 0 ≤ c ∧ c ≤ 1 ∧ val os + BB os.length * c = val (A.take os.length) + val (B.take os.length))
    (fun (os, c) => St.of [] [(0, aW A), (1, aW B), (5, .row 19), (6, aU c), (20, aW A), (21, aN A.length), (22, aN os.length)] [(19, .row 1 eW (os ++ List.replicate (A.length + 1 - os.length) 0) 94)])
    (fun (os, c) => A.length - os.length) ([], 0) ⟨by simp, WOk.nil, by omega, by omega, by simp [val, BB]⟩ ?_ ?_
   ·refine Ent.of [] ?_ ?_ rfl rfl;(repeat' (first |exact True.intro |refine ⟨⟨AV.Le.refl _, rfl⟩, ?_⟩ |refine ⟨⟨⟨_, rfl, BLe.row rfl⟩, rfl⟩, ?_⟩|fail))
   ·intro ⟨os, c⟩ ⟨h0, h1, h2, h3, h4⟩;(repeat' (first |refine qv ?_ |apply qn |apply qs |apply qr |refine qw ?_ |(refine AWP.condD rfl ?_ ?_ <;> intro _ <;> try (exfalso; omega)) |apply qb |apply qk |apply qx |(refine Fl.elW rfl rfl rfl rfl rfl rfl rfl rfl (by omega) (by omega) (by assumption) ?_; intro _ _ _ _) |refine Fl.rel rfl rfl rfl rfl rfl rfl rfl rfl (by omega) (by first | omega | (simp; omega)) ?_ |refine Fl.rst rfl rfl rfl rfl rfl rfl rfl rfl rfl rfl rfl (LeL.refl _) rfl (by first | omega | (simp; omega)) ?_|fail))
    ·rename_i hi u hu hu0 hu1 hj v hv hv0 hv1;rw [Int.toNat_natCast] at hu hv;have hstep := plus_step hu (val_take_succ hv) h4 rfl;refine LoopEnd.of (os ++ [(c + u + v) % 4294967296], (c + u + v) / 4294967296) ⟨by simp; omega, h1.append (WOk.cons (by omega) (by omega) WOk.nil), by omega, by omega, by rw [List.length_append]; exact hstep⟩ (by simp only [List.length_append, List.length_cons, List.length_nil]; omega) ?_;refine Ent.of [] ?_ ?_ rfl rfl;(repeat' (first |exact True.intro |refine ⟨⟨AV.Le.refl _, rfl⟩, ?_⟩ |refine ⟨⟨⟨_, rfl, BLe.row ?_⟩, rfl⟩, ?_⟩ |refine ⟨⟨AV.Le.int ?_, rfl⟩, ?_⟩|fail))
     ·simp
     ·exact set_rep (by simp) (by simp; omega) (by omega)
    ·rename_i hi u hu hu0 hu1 hj;rw [Int.toNat_natCast] at hu;have hstep := plus_step hu (val_take_end (by omega)) h4 rfl;refine LoopEnd.of (os ++ [(c + u + 0) % 4294967296], (c + u + 0) / 4294967296) ⟨by simp; omega, h1.append (WOk.cons (by omega) (by omega) WOk.nil), by omega, by omega, by rw [List.length_append]; exact hstep⟩ (by simp only [List.length_append, List.length_cons, List.length_nil]; omega) ?_;refine Ent.of [] ?_ ?_ rfl rfl;(repeat' (first |exact True.intro |refine ⟨⟨AV.Le.refl _, rfl⟩, ?_⟩ |refine ⟨⟨⟨_, rfl, BLe.row ?_⟩, rfl⟩, ?_⟩ |refine ⟨⟨AV.Le.int ?_, rfl⟩, ?_⟩|fail))
     ·rw [p32]; omega
     ·simp
     ·exact set_rep (by simp) (by simp; omega) (by omega)
    ·rename_i hi
     have hlen : os.length = A.length := by omega
     refine JoinOk.of (os, c) ⟨hlen, h1, h2, h3, ?_⟩ ?_
     ·rw [h4, List.take_of_length_le (by omega), List.take_of_length_le (by omega), hs]
     ·refine Ent.of [] ?_ ?_ rfl rfl;(repeat' (first |exact True.intro |refine ⟨⟨AV.Le.refl _, rfl⟩, ?_⟩ |refine ⟨⟨⟨_, rfl, BLe.row ?_⟩, rfl⟩, ?_⟩|fail));rw [hlen, show A.length + 1 - A.length = 1 by omega]
  ·intro ⟨os, c⟩ ⟨h0, h1, h2, h3, h4⟩;(repeat' (first |refine qv ?_ |apply qn |apply qs |apply qr |refine Fl.rel rfl rfl rfl rfl rfl rfl rfl rfl (by omega) (by first | omega | (simp; omega)) ?_ |refine Fl.rst rfl rfl rfl rfl rfl rfl rfl rfl rfl rfl rfl (LeL.refl _) rfl (by first | omega | (simp; omega)) ?_|fail));refine Fl.callF rfl 19 rfl (trim_ok (os ++ [c]) (h1.append (WOk.cons h2 (by omega) WOk.nil)) (by simp; omega)) rfl rfl rfl (LeL.cons (AV.Le.sl ?_) LeL.nil) ?_
   ·exact (set_rep (m := 0) (by simp; omega) rfl (by omega)).trans (List.append_nil _)
   (repeat' (first |refine qv ?_ |apply qn |apply qt));refine RetOk.of rfl (AV.Le.of_eq ?_);rw [val_snoc, h4]
end Go.Proofs.YtmmfloplhopioaaGreat
namespace Go.Proofs.YtmmfloplhopioaaGreat
open Go.AL
theorem clone_ok (l : List Int) (hl : l.length ≤ 100000) : PureFn Tryz.prog 186 [aW l] (aW l) := by
 refine PureFn.of_body Tryz.func186 rfl Tryz.ntmps186 rfl rfl ?_;refine AWP.seqS ?_;(repeat' (first |refine qv ?_ |apply qn |apply qr));refine ⟨AWP.seq (AWP.seq (AWP.nilTest rfl rfl rfl rfl rfl rfl rfl rfl rfl rfl ?_))⟩;intro b hb
 cases b with
 | true =>
  (repeat' (first |refine qv ?_ |apply qn |apply qs |apply qr |refine AWP.condT rfl ?_ |apply qt));rw [hb rfl];exact RetOk.of rfl (AV.Le.nil 1 eW)
 | false =>
  (repeat' (first |apply qs |apply qr |refine AWP.condF rfl ?_ |apply qk));refine Fl.litrow rfl rfl rfl rfl rfl rfl rfl eW [] rfl rfl rfl rfl (by simp) (LeL.refl _) ?_;(repeat' (first |refine qv ?_|fail));refine qa (hby := (by dsimp only [List.length_nil]; omega)) (hm := (by simp; omega)) (r := ?_);(repeat' (first |refine qv ?_ |apply qn |apply qt));refine RetOk.ent (Ent.freeze 7 rfl) ?_;exact RetOk.of rfl (AV.Le.refl _)
theorem minus_ok (x y : Int) (hy : 0 ≤ y) (hyx : y ≤ x) (hxl : (toW x).length ≤ 50000) : PureFn Tryz.prog 240 [aW (toW x), aW (toW y)] (aW (toW (x - y))) := by
  refine PureFn.of_body Tryz.func240 rfl Tryz.ntmps240 rfl rfl ?_;have wx := toW_ok x;have wy := toW_ok y;have hsx := val_toW (show 0 ≤ x by omega);have hsy := val_toW hy
  have hl : (toW y).length ≤ (toW x).length := by rcases Nat.lt_or_ge (toW x).length (toW y).length with h | h; · have := toW_len_lt (by omega) hy h; omega
                                                  · exact h
  generalize toW x = A at *
  generalize toW y = B at *
  refine AWP.seqS ?_;(repeat' (first |refine qv ?_ |apply qn |apply qr));refine ⟨AWP.seqS ?_⟩;(repeat' (first |refine qv ?_ |apply qn |apply qr |refine Fl.make rfl rfl rfl rfl rfl rfl rfl rfl rfl rfl eW 0 (by exact LeL.refl _) (by rfl) (by first | omega | (dsimp only; omega)) (by first | omega | (dsimp only; omega)) (by first | omega | (dsimp only; omega)) ?_|fail));refine ⟨AWP.seqS ?_⟩;(repeat' (first |refine qv ?_ |apply qr));refine Fl.copy rfl rfl rfl rfl rfl rfl rfl rfl rfl rfl (fun _ => rfl) (fun _ => rfl) (AV.Le.refl _) ?_;(repeat' (first |apply qn));refine ⟨AWP.seqS ?_⟩;(repeat' (first |refine qv ?_ |apply qn |apply qr));refine ⟨?_⟩;refine AWP.seqJ (G := List Int) (fun os => os.length = A.length ∧ WOk os ∧ val os = x - y) (fun os => St.of [] [(5, .row 11)] [(11, .row 1 eW os 94)]) ?_ ?_
  · (repeat' (first |refine qv ?_ |apply qn |apply qs |apply qr |apply qb));refine AWP.loop (G := List Int × Int) (fun (os, c) => os.length ≤ A.length ∧ WOk os ∧ 0 ≤ c ∧ c ≤ 1 ∧ val os = val (A.take os.length) - val (B.take os.length) + BB os.length * c)
      (fun (os, c) => St.of [] [(1, aW B), (5, .row 11), (6, aU c), (16, aN A.length), (17, aN os.length)] [(11, .row 1 eW (os ++ A.drop os.length) 94)])
      (fun (os, c) => A.length - os.length) ([], 0) ⟨by simp, WOk.nil, by omega, by omega, by simp [val, BB]⟩ ?_ ?_
    · refine Ent.of [] ?_ ?_ rfl rfl;(repeat' (first |exact True.intro |refine ⟨⟨AV.Le.refl _, rfl⟩, ?_⟩ |refine ⟨⟨⟨_, rfl, BLe.row ?_⟩, rfl⟩, ?_⟩ |refine ⟨⟨AV.Le.int ?_, rfl⟩, ?_⟩|fail))
      · simp
      · simp
    · intro ⟨os, c⟩ ⟨h0, h1, h2, h3, h4⟩;(repeat' (first |refine qv ?_ |apply qn |apply qs |apply qr |refine qw ?_ |(refine AWP.condD rfl ?_ ?_ <;> intro _ <;> try (exfalso; omega)) |apply qb |apply qk |apply qx |(refine Fl.elW rfl rfl rfl rfl rfl rfl rfl rfl (by omega) (by omega) (by assumption) ?_; intro _ _ _ _) |refine Fl.rel rfl rfl rfl rfl rfl rfl rfl rfl (by omega) (by first | omega | (simp; omega)) ?_ |(refine Fl.rld rfl rfl rfl rfl rfl rfl rfl (fun _ => rfl) (fun _ => rfl) (by first | omega | (simp; omega)) ?_; intro _ _) |refine Fl.rst rfl rfl rfl rfl rfl rfl rfl rfl rfl rfl rfl (LeL.refl _) rfl (by first | omega | (simp; omega)) ?_ |refine Fl.sumM rfl rfl rfl rfl rfl rfl ?_ |refine Fl.cvU rfl rfl rfl rfl rfl rfl ?_))
      · rename_i hi u hu hj v hv hv0 hv1;rw [Int.toNat_natCast] at hu hv;rw [get_drop rfl] at hu;have hub := wx.get hu;have hstep := minus_step (p := (u - c - v) % 4294967296) (q := -((u - c - v) / 4294967296)) hu (val_take_succ hv) h4 (by omega);refine LoopEnd.of (os ++ [(u - c - v) % 4294967296], -((u - c - v) / 4294967296)) ⟨by simp; omega, h1.append (WOk.cons (by omega) (by omega) WOk.nil), by omega, by omega, by rw [List.length_append]; exact hstep⟩ (by simp only [List.length_append, List.length_cons, List.length_nil]; omega) ?_;refine Ent.of [] ?_ ?_ rfl rfl;(repeat' (first |exact True.intro |refine ⟨⟨AV.Le.refl _, rfl⟩, ?_⟩ |refine ⟨⟨⟨_, rfl, BLe.row ?_⟩, rfl⟩, ?_⟩ |refine ⟨⟨AV.Le.int ?_, rfl⟩, ?_⟩|fail))
        · rw [p63]; omega
        · simp
        · rw [List.length_append]; exact set_drop (by simp) (by omega) (by omega)
      · rename_i hi u hu hj;rw [Int.toNat_natCast] at hu;rw [get_drop rfl] at hu;have hub := wx.get hu;have hstep := minus_step (p := (u - c - 0) % 4294967296) (q := -((u - c - 0) / 4294967296)) hu (val_take_end (by omega)) h4 (by omega);refine LoopEnd.of (os ++ [(u - c - 0) % 4294967296], -((u - c - 0) / 4294967296)) ⟨by simp; omega, h1.append (WOk.cons (by omega) (by omega) WOk.nil), by omega, by omega, by rw [List.length_append]; exact hstep⟩ (by simp only [List.length_append, List.length_cons, List.length_nil]; omega) ?_;refine Ent.of [] ?_ ?_ rfl rfl;(repeat' (first |exact True.intro |refine ⟨⟨AV.Le.refl _, rfl⟩, ?_⟩ |refine ⟨⟨⟨_, rfl, BLe.row ?_⟩, rfl⟩, ?_⟩ |refine ⟨⟨AV.Le.int ?_, rfl⟩, ?_⟩|fail))
        · rw [p63]; omega
        · simp
        · rw [List.length_append]; exact set_drop (by simp) (by omega) (by omega)
      · rename_i hi
        have hlen : os.length = A.length := by omega
        have hv : val os = x - y + BB A.length * c := by rw [h4, List.take_of_length_le (by omega), List.take_of_length_le (by omega), hlen, hsx, hsy]
        have hc : c = 0 := by
          have h5 := val_lt h1;rw [hlen] at h5
          have : c = 0 ∨ c = 1 := by omega
          rcases this with h | h
          · exact h
          · subst h; omega
        refine JoinOk.of os ⟨hlen, h1, by rw [hv, hc]; omega⟩ ?_;refine Ent.of [] ?_ ?_ rfl rfl;(repeat' (first |exact True.intro |refine ⟨⟨AV.Le.refl _, rfl⟩, ?_⟩ |refine ⟨⟨⟨_, rfl, BLe.row ?_⟩, rfl⟩, ?_⟩|fail));rw [List.drop_of_length_le (by omega), List.append_nil]
  · intro os ⟨h0, h1, h2⟩;(repeat' (first |refine qv ?_ |apply qs |apply qr));refine Fl.callF rfl 11 rfl (trim_ok os h1 (by omega)) rfl rfl rfl (LeL.refl _) ?_;(repeat' (first |refine qv ?_ |apply qn |apply qt));refine RetOk.of rfl (AV.Le.of_eq ?_);rw [h2]
end Go.Proofs.YtmmfloplhopioaaGreat
namespace Go.Proofs.YtmmfloplhopioaaGreat
open Go.AL
theorem times_ok (x y : Int) (hx : 0 ≤ x) (hy : 0 ≤ y) (hxl : (toW x).length ≤ 50000) (hyl : (toW y).length ≤ 50000) : PureFn Tryz.prog 151 [aW (toW x), aW (toW y)] (aW (toW (x * y))) := by
 refine PureFn.of_body Tryz.func151 rfl Tryz.ntmps151 rfl rfl ?_;have wx := toW_ok x;have wy := toW_ok y;have hsx := val_toW hx;have hsy := val_toW hy;have hnil : ∀ z : Int, 0 ≤ z → (toW z).length = 0 → z = 0 := fun z hz h => (toW_nil_iff hz).1 (List.eq_nil_of_length_eq_zero h);refine AWP.seqS ?_;(repeat' (first |refine qv ?_ |apply qn |apply qr));refine ⟨AWP.seqS ?_⟩;(repeat' (first |refine qv ?_ |apply qn |apply qs |apply qr |refine Fl.skip rfl rfl ?_ |refine AWP.condT rfl ?_ |(refine AWP.condD rfl ?_ ?_ <;> intro _ <;> try (exfalso; omega)) |apply qk |apply qt |(refine Fl.splitD rfl rfl ?_ ?_ <;> intro _ <;> try (exfalso; omega))))
 ·refine RetOk.of rfl ?_;rw [hnil x hx (by omega), Int.zero_mul, toW_zero];exact AV.Le.nil 1 eW
 ·rename_i h1 h2;refine RetOk.of rfl ?_;rw [hnil y hy (by omega), Int.mul_zero, toW_zero];exact AV.Le.nil 1 eW
 rename_i hx0 hy0
 generalize toW x = A at *
 generalize toW y = B at *
 refine ⟨AWP.seqS ?_⟩;(repeat' (first |refine qv ?_ |apply qn |apply qr |refine qw ?_ |refine Fl.make rfl rfl rfl rfl rfl rfl rfl rfl rfl rfl eW 0 (by exact LeL.refl _) (by rfl) (by first | omega | (dsimp only; omega)) (by first | omega | (dsimp only; omega)) (by first | omega | (dsimp only; omega)) ?_|fail));refine ⟨?_⟩;refine AWP.seqJ (G := List Int) (fun os => os.length = A.length + B.length ∧ WOk os ∧ val os = x * y) (fun os => St.of [] [(5, .row 24)] [(24, .row 1 eW os 94)]) ?_ ?_
 ·(repeat' (first |refine qv ?_ |apply qn |apply qs |apply qr |apply qb));refine AWP.loop (G := Nat × List Int) (fun (i, os) => i ≤ A.length ∧ os.length = i + B.length ∧ WOk os ∧ val os = val (A.take i) * val B)
   (fun (i, os) => St.of [] [(1, aW B), (5, .row 24), (25, aW A), (26, aN A.length), (27, aN i)] [(24, .row 1 eW (os ++ List.replicate (A.length - i) 0) 94)])
   (fun (i, os) => A.length - i) (0, List.replicate B.length 0) ⟨by omega, by simp, WOk.zeros _, by simp [val, val_zeros]⟩ ?_ ?_
  ·refine Ent.of [] ?_ ?_ rfl rfl;(repeat' (first |exact True.intro |refine ⟨⟨AV.Le.refl _, rfl⟩, ?_⟩ |refine ⟨⟨⟨_, rfl, BLe.row ?_⟩, rfl⟩, ?_⟩|fail));rw [List.replicate_append_replicate]; congr 1; omega
  ·intro ⟨i, os⟩ ⟨h0, h1, h2, h3⟩;(repeat' (first |refine qv ?_ |apply qn |apply qs |apply qr |(refine AWP.condD rfl ?_ ?_ <;> intro _ <;> try (exfalso; omega)) |apply qb |apply qk |apply qx |(refine Fl.elW rfl rfl rfl rfl rfl rfl rfl rfl (by omega) (by omega) (by assumption) ?_; intro _ _ _ _)|fail))
   ·rename_i hi u hu hu0 hu1;rw [Int.toNat_natCast] at hu;have hA : A.length ≤ 50000 := hxl;have hB : B.length ≤ 50000 := hyl;obtain ⟨D, hD⟩ : ∃ D, D = os ++ List.replicate (A.length - i) 0 := ⟨_, rfl⟩
    have hDl : D.length = A.length + B.length := by rw [hD, List.length_append, List.length_replicate]; omega
    have hDw : WOk D := by rw [hD]; exact h2.append (WOk.zeros _)
    refine AWP.loop (G := Nat × List Int × Int) (fun (k, ps, c) => k ≤ B.length ∧ ps.length = i + k ∧ WOk ps ∧ WOk (ps ++ D.drop ps.length) ∧ 0 ≤ c ∧ c < 4294967296 ∧ val ps + BB ps.length * c = val (D.take ps.length) + BB i * (u * val (B.take k)))
     (fun (k, ps, c) => St.of [] [(1, aW B), (5, .row 24), (6, aN i), (7, .v (.int .u32 u)), (8, aU c), (25, aW A), (26, aN A.length), (27, aN i), (32, aW B), (33, aN B.length), (34, aN k)] [(24, .row 1 eW (ps ++ D.drop ps.length) 94)])
     (fun (k, ps, c) => B.length - k) (0, D.take i, 0) ⟨by omega, by rw [List.length_take]; omega, hDw.take i, by rw [List.length_take, Nat.min_eq_left (by omega), List.take_append_drop]; exact hDw, by omega, by omega, by rw [List.length_take, Nat.min_eq_left (by omega)]; simp [val]⟩ ?_ ?_
    ·refine Ent.of [] ?_ ?_ rfl rfl;(repeat' (first |exact True.intro |refine ⟨⟨AV.Le.refl _, rfl⟩, ?_⟩ |refine ⟨⟨⟨_, rfl, BLe.row ?_⟩, rfl⟩, ?_⟩|fail));rw [List.length_take, Nat.min_eq_left (by omega), List.take_append_drop, hD]
    ·intro ⟨k, ps, c⟩ ⟨k0, k1, k2, k3, k4, k5, k6⟩
     have hkl : (ps ++ D.drop ps.length).length = A.length + B.length := by rw [List.length_append, List.length_drop]; omega
     (repeat' (first |refine qv ?_ |apply qn |apply qs |apply qr |refine qw ?_ |(refine Fl.mulW rfl rfl rfl rfl rfl (by omega) (by omega) (by omega) (by omega) ?_; intro _ _) |(refine AWP.condD rfl ?_ ?_ <;> intro _ <;> try (exfalso; omega)) |apply qb |apply qk |apply qx |(refine Fl.elW rfl rfl rfl rfl rfl rfl rfl rfl (by omega) (by omega) (by assumption) ?_; intro _ _ _ _) |refine Fl.rel rfl rfl rfl rfl rfl rfl rfl rfl (by omega) (by first | omega | (simp; omega)) ?_ |(refine Fl.rldW rfl rfl rfl rfl rfl rfl rfl (fun _ => rfl) (fun _ => rfl) (by first | omega | (simp; omega)) (by assumption) ?_; intro _ _ _ _) |refine Fl.rst rfl rfl rfl rfl rfl rfl rfl rfl rfl rfl rfl (LeL.refl _) rfl (by first | omega | (simp; omega)) ?_|fail))
     ·rename_i hk v hv hv0 hv1 hp0 hp1 w hw hw0 hw1;rw [Int.toNat_natCast] at hv
      have hw2 : D[ps.length]? = some w := by rw [← get_drop (os := ps) (k := (↑i + ↑k : Int).toNat) (by omega)]; exact hw
      have hstep := times_step k1 hw2 hv k6 rfl;refine LoopEnd.of (k + 1, ps ++ [(c + (u * v + w)) % 4294967296], (c + (u * v + w)) / 4294967296) ⟨by omega, by rw [List.length_append, k1]; rfl, k2.append (WOk.cons (by omega) (by omega) WOk.nil), ?_, by omega, by omega, by rw [List.length_append]; exact hstep⟩ (by simp only; omega) ?_
      ·rw [List.length_append];exact (k2.append (WOk.cons (by omega) (by omega) WOk.nil)).append (hDw.drop _)
      ·refine Ent.of [] ?_ ?_ rfl rfl;(repeat' (first |exact True.intro |refine ⟨⟨AV.Le.refl _, rfl⟩, ?_⟩ |refine ⟨⟨⟨_, rfl, BLe.row ?_⟩, rfl⟩, ?_⟩|fail));rw [List.length_append];exact set_drop (by omega) (by omega) rfl
     ·rename_i hk
      have hkk : k = B.length := by omega
      refine LoopEnd.of (i + 1, ps ++ [c]) ⟨by omega, by simp; omega, k2.append (WOk.cons k4 k5 WOk.nil), ?_⟩ (by simp only; omega) ?_
      ·rw [val_snoc, k6, val_take_succ hu, show ps.length = os.length by omega, hD, List.take_left, h3, hkk, List.take_length];grind
      ·refine Ent.of [] ?_ ?_ rfl rfl;(repeat' (first |exact True.intro |refine ⟨⟨AV.Le.refl _, rfl⟩, ?_⟩ |refine ⟨⟨⟨_, rfl, BLe.row ?_⟩, rfl⟩, ?_⟩|fail));rw [show D.drop ps.length = List.replicate (A.length - i) 0 by rw [hD, show ps.length = os.length by omega, List.drop_left]];exact set_rep (by omega) (by omega) (by omega)
   ·rename_i hi
    have hii : i = A.length := by omega
    refine JoinOk.of os ⟨by omega, h2, ?_⟩ ?_
    ·rw [h3, hii, List.take_length, hsx, hsy]
    ·refine Ent.of [] ?_ ?_ rfl rfl;(repeat' (first |exact True.intro |refine ⟨⟨AV.Le.refl _, rfl⟩, ?_⟩ |refine ⟨⟨⟨_, rfl, BLe.row ?_⟩, rfl⟩, ?_⟩|fail));rw [hii, Nat.sub_self]; simp
 ·intro os ⟨h0, h1, h2⟩;(repeat' (first |refine qv ?_ |apply qs |apply qr));refine Fl.callF rfl 24 rfl (trim_ok os h1 (by omega)) rfl rfl rfl (LeL.refl _) ?_;(repeat' (first |refine qv ?_ |apply qn |apply qt));refine RetOk.of rfl (AV.Le.of_eq ?_);rw [h2]
end Go.Proofs.YtmmfloplhopioaaGreat
/- Numbers of the program: their signs, their sizes. -/
namespace Go.AL
def clip (x : Int) : Int := if Fit x then x else 0
def szErr (x : Int) : Int := if Fit x then 0 else 4
theorem clip_fit {x : Int} (h : Fit x) : clip x = x := if_pos h
theorem clip_not {x : Int} (h : ¬ Fit x) : clip x = 0 := if_neg h
theorem szErr_fit {x : Int} (h : Fit x) : szErr x = 0 := if_pos h
theorem szErr_not {x : Int} (h : ¬ Fit x) : szErr x = 4 := if_neg h
theorem BB_4096_pos : 0 < BB 4096 := BB_pos _
theorem Fit.zero : Fit 0 := by unfold Fit; exact BB_4096_pos
theorem Fit.clip (x : Int) : Fit (clip x) := by
 unfold AL.clip;split
 ·assumption
 ·exact Fit.zero
theorem Fit.len {x : Int} (h : Fit x) : (toW x.natAbs).length ≤ 4096 := (toW_len_le (by omega) _).2 h.lt
theorem Fit.of_len {x : Int} (h : (toW x.natAbs).length ≤ 4096) : Fit x := .mk ((toW_len_le (by omega) _).1 h)
theorem Fit.iff {x : Int} : Fit x ↔ (toW x.natAbs).length ≤ 4096 := ⟨Fit.len, Fit.of_len⟩
abbrev aR (x : Int) : AV := .tup [aX (clip x), aN (szErr x)]
theorem aR_fit {x : Int} (h : Fit x) : aR x = .tup [aX x, aN 0] := by show AV.tup [aX (clip x), aN (szErr x)] = _; rw [clip_fit h, szErr_fit h]
theorem aR_not {x : Int} (h : ¬ Fit x) : aR x = .tup [aX 0, aN 4] := by show AV.tup [aX (clip x), aN (szErr x)] = _; rw [clip_not h, szErr_not h]
theorem aX_of {n : Bool} {w : List Int} {x : Int} (h1 : n = decide (x < 0)) (h2 : w = toW x.natAbs) : AV.agg [aB n, aW w] = aX x := by subst h1 h2; rfl
def sg (neg : Bool) (v : Int) : Int := if neg then -v else v
theorem sg_abs (neg : Bool) {v : Int} (h : 0 ≤ v) : ((sg neg v).natAbs : Int) = v := by unfold sg; split <;> omega
def OkZ (z : Z) : Prop := z.w.length ≤ 4096 ∧ trimL z.w = z.w ∧ (z.w = [] → z.neg = false)
instance decOkZ (z : Z) : Decidable (OkZ z) := inferInstanceAs (Decidable (_ ∧ _ ∧ _))
attribute [irreducible] decOkZ
theorem okZ_zOf {x : Int} (h : Fit x) : OkZ (zOf x) := by
 refine ⟨h.len, trim_toW _, fun he => ?_⟩;have := (toW_nil_iff (show (0 : Int) ≤ x.natAbs by omega)).1 he;simp only [zOf, decide_eq_false_iff_not]; omega
theorem okZ_last {z : Z} {e : Int} {k : Nat} (hk : k + 1 = z.w.length) (he : z.w[k]? = some e) (h1 : z.w.length ≤ 4096) : OkZ z ↔ e ≠ 0 := by
 have hw : z.w = z.w.take k ++ [e] := by
  have := take_snoc he;rwa [hk, List.take_length] at this
 constructor
 ·intro ⟨_, h, _⟩ h0;subst h0;rw [hw, trimL_snoc0] at h;have h2 := trimL_length (z.w.take k);rw [h] at h2;simp at h2;omega
 ·intro h0;refine ⟨h1, by rw [hw, trimL_snoc h0], fun hn => ?_⟩;rw [hn] at hk; simp at hk
theorem okZ_none {z : Z} (h : z.w.length = 0) : OkZ z ↔ z.neg = false := by
 have hn : z.w = [] := List.eq_nil_of_length_eq_zero h;simp [OkZ, hn, trimL]
def zval (z : Z) : Int := sg z.neg (val z.w)
theorem okZ_eq {z : Z} (hw : WOk z.w) (h : OkZ z) : z = zOf (zval z) ∧ Fit (zval z) := by
 obtain ⟨h1, h2, h3⟩ := h;have hv := val_nonneg hw;have hab : ((zval z).natAbs : Int) = val z.w := sg_abs _ hv
 have hz : z.w = toW (val z.w) := by rw [← trimL_eq hw, h2]
 constructor
 ·cases z with
  | mk neg w =>
   simp only [zOf, Z.mk.injEq];rw [hab];refine ⟨?_, hz⟩;simp only at h3 hz hv
   have hne : w = [] ↔ val w = 0 := by
    constructor
    ·rintro rfl; exact val_nil
    ·intro h0; rw [h0, toW_zero] at hz; exact hz
   simp only [zval, sg]
   cases neg with
   | true =>
    have : val w ≠ 0 := fun h0 => by have := h3 (hne.2 h0); cases this
    simp only [if_true];symm; simp; omega
   | false => simp; omega
 ·refine Fit.of_len ?_;rw [hab, ← hz]; exact h1
theorem aX_zero : (AV.agg [aB false, .v (.slice none 0 0)]).Le (aX 0) := AV.Le.agg (LeL.cons (AV.Le.bool rfl) (LeL.cons (by rw [show ((Int.natAbs 0 : Nat) : Int) = 0 from rfl, toW_zero]; exact AV.Le.nil 1 eW) LeL.nil))
theorem all_take_succ {α : Type} {p : α → Prop} {l : List α} {i : Nat} {x : α} (hx : l[i]? = some x) (h : ∀ z ∈ l.take i, p z) (h1 : p x) : ∀ z ∈ l.take (i + 1), p z := by
 rw [take_snoc hx];intro z hz;rcases List.mem_append.1 hz with hz | hz
 ·exact h z hz
 ·rw [List.mem_singleton.1 hz]; exact h1
theorem BB_len_le {z : Int} (h : 0 < z) : BB ((toW z).length - 1) ≤ z := by
 have hne := toW_ne_nil h;have hl : (toW z).length ≠ 0 := fun h0 => hne (List.eq_nil_of_length_eq_zero h0);have := (toW_len_le (show 0 ≤ z by omega) ((toW z).length - 1));rcases Int.lt_or_le z (BB ((toW z).length - 1)) with h1 | h1
 ·have := this.2 h1; omega
 ·exact h1
theorem mul_not_fit {x y : Int} (hx : x ≠ 0) (hy : y ≠ 0) (h : (toW x.natAbs).length + (toW y.natAbs).length > 4097) : ¬ Fit (x * y) := by
 unfold Fit;have h1 := BB_len_le (show (0 : Int) < x.natAbs by omega);have h2 := BB_len_le (show (0 : Int) < y.natAbs by omega)
 have hlx : (toW x.natAbs).length ≠ 0 := fun h0 => by
  have := (toW_nil_iff (show (0 : Int) ≤ x.natAbs by omega)).1 (List.eq_nil_of_length_eq_zero h0); omega
 have hly : (toW y.natAbs).length ≠ 0 := fun h0 => by
  have := (toW_nil_iff (show (0 : Int) ≤ y.natAbs by omega)).1 (List.eq_nil_of_length_eq_zero h0); omega
 have h3 : BB 4096 ≤ BB ((toW x.natAbs).length - 1 + ((toW y.natAbs).length - 1)) := BB_le (by omega);rw [BB_add] at h3;have h4 := Int.mul_le_mul h1 h2 (Int.le_of_lt (BB_pos _)) (by omega);rw [Int.natAbs_mul, Int.natCast_mul];omega
theorem mul_len {x y : Int} (hx : Fit x) (hy : Fit y) : (toW (x.natAbs * y.natAbs)).length ≤ 100000 := by
 have h0 : (0 : Int) ≤ x.natAbs * y.natAbs := Int.mul_nonneg (by omega) (by omega);rw [toW_len_le h0];have h1 : (x.natAbs : Int) * y.natAbs ≤ BB 4096 * BB 4096 := Int.mul_le_mul (Int.le_of_lt hx.lt) (Int.le_of_lt hy.lt) (by omega) (Int.le_of_lt (BB_pos _));rw [← BB_add] at h1
 have h2 : BB (4096 + 4096) < BB 8193 := by
  have h3 : BB 8193 = 4294967296 * BB (4096 + 4096) := BB_succ _;have := BB_pos (4096 + 4096);omega
 have h3 : BB 8193 ≤ BB 100000 := BB_le (by omega);omega
theorem sg_mul (x y : Int) : sg (!(decide (x < 0) == decide (y < 0))) (x.natAbs * y.natAbs) = x * y := by
 have e1 : ∀ z : Int, z < 0 → (z.natAbs : Int) = -z := fun z h => by omega
 have e2 : ∀ z : Int, ¬ z < 0 → (z.natAbs : Int) = z := fun z h => by omega
 by_cases hx : x < 0 <;> by_cases hy : y < 0
 ·rw [e1 x hx, e1 y hy]; simp [sg, hx, hy, Int.neg_mul_neg]
 ·rw [e1 x hx, e2 y hy]; simp [sg, hx, hy, Int.neg_mul]
 ·rw [e2 x hx, e1 y hy]; simp [sg, hx, hy, Int.mul_neg]
 ·rw [e2 x hx, e2 y hy]; simp [sg, hx, hy]
theorem fit_small {x : Int} (h0 : -18446744073709551616 < x) (h1 : x < 18446744073709551616) : Fit x := by
 have h2 := BB_2;have h3 : BB 2 ≤ BB 4096 := BB_le (by omega);unfold Fit;omega
theorem AV.Le.slMap {α β : Type} {sz : Nat} {enc : β → List AV} {f : α → β} {xs : List α} : (AV.sl sz enc (xs.map f)).Le (.sl sz (fun x => enc (f x)) xs) := fun h b u k => by
 simp only [Rep, List.length_map] at k ⊢;obtain ⟨A, c, e, h1, h2, h3⟩ := k;exact ⟨A, c, e, h1, h2, fun i x hx => h3 i (f x) (by rw [List.getElem?_map, hx]; rfl)⟩
theorem AV.Le.slUnmap {α β : Type} {sz : Nat} {enc : β → List AV} {f : α → β} {xs : List α} : (AV.sl sz (fun x => enc (f x)) xs).Le (.sl sz enc (xs.map f)) := fun h b u k => by
 simp only [Rep, List.length_map] at k ⊢;obtain ⟨A, c, e, h1, h2, h3⟩ := k;refine ⟨A, c, e, h1, h2, fun i x hx => ?_⟩;rw [List.getElem?_map] at hx;obtain ⟨y, hy, rfl⟩ := Option.map_eq_some_iff.1 hx;exact h3 i y hy
attribute [irreducible] clip szErr sg
end Go.AL
namespace Go.Proofs.YtmmfloplhopioaaGreat
open Go.AL
theorem made_ok (neg : Bool) (l : List Int) (hl : WOk l) (hb : l.length ≤ 100000) : PureFn Tryz.prog 153 [aB neg, aW l] (aR (sg neg (val l))) := by
 refine PureFn.of_body Tryz.func153 rfl Tryz.ntmps153 rfl rfl ?_;have hv := val_nonneg hl
 have hlen : (toW (val l)).length ≤ 100000 := by rw [← trimL_eq hl]; exact Nat.le_trans (trimL_length l) hb
 have hab : ((sg neg (val l)).natAbs : Int) = val l := sg_abs _ hv;(repeat' (first |refine qv ?_ |apply qn |apply qs |apply qr |refine qe ?_|fail));refine qc (trim_ok l hl hb) ?_;(repeat' (first |refine qv ?_ |apply qn |apply qs |apply qr |refine qe ?_ |refine Fl.skip rfl rfl ?_ |(refine AWP.condD rfl ?_ ?_ <;> intro _ <;> try (exfalso; omega)) |apply qk |apply qt |(refine Fl.splitB rfl rfl ?_ ?_ <;> (fail_if_success (intro hb_; exact absurd hb_ (by decide))) <;> intro _)|fail))
 ·rename_i h
  have hf : ¬ Fit (sg neg (val l)) := by rw [Fit.iff, hab]; omega
  refine RetOk.of rfl ?_;rw [aR_not hf];exact AV.Le.tup (LeL.cons aX_zero (LeL.refl _))
 ·refine qc (clone_ok _ hlen) ?_;(repeat' (first |refine qv ?_ |apply qn |refine qe ?_ |apply qt));rename_i h hn
  have hf : Fit (sg neg (val l)) := by rw [Fit.iff, hab]; omega
  refine RetOk.of rfl ?_;rw [aR_fit hf];refine AV.Le.tup (LeL.cons (AV.Le.of_eq (aX_of ?_ ?_)) (LeL.refl _))
  ·subst hn;simp only [sg, if_true];have := toW_nil_iff hv;by_cases h0 : val l = 0
   ·rw [h0, toW_zero]; rfl
   ·have h1 : (toW (val l)).length ≠ 0 := fun h => h0 (this.1 (List.eq_nil_of_length_eq_zero h));simp; omega
  ·rw [hab]
 ·refine qc (clone_ok _ hlen) ?_;(repeat' (first |refine qv ?_ |apply qn |refine qe ?_ |apply qt));rename_i h hn
  have hf : Fit (sg neg (val l)) := by rw [Fit.iff, hab]; omega
  refine RetOk.of rfl ?_;rw [aR_fit hf];refine AV.Le.tup (LeL.cons (AV.Le.of_eq (aX_of ?_ ?_)) (LeL.refl _))
  ·subst hn;simp [sg]; omega
  ·rw [hab]
theorem Valid_ok (z : Z) (hz : WOk z.w) : PureFn Tryz.prog 115 [aZ z] (aB (decide (OkZ z))) := by
 refine PureFn.of_body Tryz.func115 rfl Tryz.ntmps115 rfl rfl ?_;(repeat' (first |refine qv ?_ |apply qn |apply qs |apply qr |refine qw ?_ |refine qe ?_ |refine Fl.skip rfl rfl ?_ |apply qt |(refine Fl.elW rfl rfl rfl rfl rfl rfl rfl rfl (by omega) (by omega) (by assumption) ?_; intro _ _ _ _) |(refine Fl.splitD rfl rfl ?_ ?_ <;> intro _ <;> try (exfalso; omega)) |(refine Fl.splitN rfl rfl ?_ ?_ <;> intro _ <;> try (exfalso; omega))))
 ·rename_i h1 h2 e he _ _ h0;refine RetOk.of rfl (AV.Le.bool (Eq.symm ?_));exact decide_eq_true ((okZ_last (by omega) he (by omega)).2 h0)
 ·rename_i h1 h2 e he _ _ h0 h3;refine RetOk.of rfl (AV.Le.bool (Eq.symm ?_));exact decide_eq_false fun h => (okZ_last (by omega) he (by omega)).1 h h0
 ·rename_i h1 h2 h0;refine RetOk.of rfl (AV.Le.bool (Eq.symm ?_));have := okZ_none (z := z) (by omega)
  cases hn : z.neg <;> simp [this, hn]
 ·rename_i h1;refine RetOk.of rfl (AV.Le.bool (Eq.symm ?_));exact decide_eq_false fun h => h1 (by have := h.1; omega)
theorem valid_ok (zs : List Z) (hz : ∀ z ∈ zs, WOk z.w) (hl : zs.length ≤ 1000000000) : PureFn Tryz.prog 154 [.sl 2 eZ zs] (aB (decide (∀ z ∈ zs, OkZ z))) := by
 refine PureFn.of_body Tryz.func154 rfl Tryz.ntmps154 rfl rfl ?_;(repeat' (first |refine qv ?_ |apply qn |apply qs |apply qr |apply qb));refine AWP.loop (G := Nat) (fun i => i ≤ zs.length ∧ ∀ z ∈ zs.take i, OkZ z) (fun i => St.of [] [(5, .sl 2 eZ zs), (6, aN zs.length), (7, aN i)] []) (fun i => zs.length - i) 0 ⟨by omega, by simp⟩ ?_ ?_
 ·refine Ent.of [] ?_ ?_ rfl rfl;(repeat' (first |exact True.intro |refine ⟨⟨AV.Le.refl _, rfl⟩, ?_⟩|fail))
 ·intro i ⟨h0, h1⟩;(repeat' (first |refine qv ?_ |apply qn |apply qs |apply qr |refine qe ?_ |(refine AWP.condD rfl ?_ ?_ <;> intro _ <;> try (exfalso; omega)) |apply qb |apply qk |apply qx |apply qt |(refine Fl.el rfl rfl rfl rfl rfl rfl rfl rfl (by omega) (by omega) ?_; intro _ _)|fail))
  ·rename_i hi z hzi;rw [Int.toNat_natCast] at hzi;refine qc (Valid_ok z (hz z (List.mem_of_getElem? hzi))) ?_;(repeat' (first |refine qv ?_ |apply qn |apply qs |apply qr |refine qw ?_ |(refine AWP.condN rfl ?_ ?_ <;> intro _ <;> try (exfalso; omega)) |apply qk |apply qt))
   ·rename_i h2;refine RetOk.of rfl (AV.Le.bool (Eq.symm (decide_eq_false fun h => h2 (h z (List.mem_of_getElem? hzi)))))
   ·rename_i h2;refine LoopEnd.of (i + 1) ⟨by omega, all_take_succ hzi h1 h2⟩ (by omega) ?_;refine Ent.of [] ?_ ?_ rfl rfl;(repeat' (first |exact True.intro |refine ⟨⟨AV.Le.refl _, rfl⟩, ?_⟩|fail))
  ·refine RetOk.of rfl (AV.Le.bool (Eq.symm (decide_eq_true ?_)));rwa [show i = zs.length by omega, List.take_length] at h1
theorem valid_two (x y : Int) (hx : Fit x) (hy : Fit y) : PureFn Tryz.prog 154 [.sl 2 eZ [zOf x, zOf y]] (aB true) := by
 refine (valid_ok [zOf x, zOf y] ?_ (by simp)).le (LeL.refl _) (AV.Le.bool (decide_eq_true ?_))
 ·intro z hz;simp only [List.mem_cons, List.not_mem_nil, or_false] at hz;rcases hz with rfl | rfl <;> exact toW_ok _
 ·intro z hz;simp only [List.mem_cons, List.not_mem_nil, or_false] at hz;rcases hz with rfl | rfl
  ·exact okZ_zOf hx
  ·exact okZ_zOf hy
theorem Valid_int (x : Int) (hx : Fit x) : PureFn Tryz.prog 115 [aX x] (aB true) :=
 (Valid_ok (zOf x) (toW_ok _)).le (LeL.refl _) (AV.Le.bool (decide_eq_true (okZ_zOf hx)))
end Go.Proofs.YtmmfloplhopioaaGreat
namespace Go.Proofs.YtmmfloplhopioaaGreat
open Go.AL
theorem Cmp_ok (x y : Int) (hx : Fit x) (hy : Fit y) : PureFn Tryz.prog 207 [aX x, aX y] (.tup [aN (cmpI x y), aN 0]) := by
 refine PureFn.of_body Tryz.func207 rfl Tryz.ntmps207 rfl rfl ?_;have lx := hx.len;have ly := hy.len;(repeat' (first |refine qv ?_ |apply qn |apply qs |apply qr |refine qe ?_|fail));refine ql eZ [zOf x, zOf y] ?_;skip;refine qc (valid_two x y hx hy) ?_;(repeat' (first |refine qv ?_ |apply qn |apply qs |apply qr |refine Fl.skip rfl rfl ?_ |refine AWP.condF rfl ?_ |(refine AWP.condD rfl ?_ ?_ <;> intro _ <;> try (exfalso; omega)) |(refine AWP.condN rfl ?_ ?_ <;> intro _ <;> try (exfalso; omega)) |apply qb |apply qk |apply qt |(refine Fl.splitD rfl rfl ?_ ?_ <;> intro _ <;> try (exfalso; omega)) |(refine Fl.splitN rfl rfl ?_ ?_ <;> intro _ <;> try (exfalso; omega))))
 ·refine RetOk.of rfl (AV.Le.tup (LeL.cons (AV.Le.int ?_) (LeL.refl _)));rw [cmpI_lt (by omega)]
 ·refine qc (compare_ok y.natAbs x.natAbs (by omega) (by omega) (by omega) (by omega)) ?_;(repeat' (first |refine qv ?_ |apply qn |apply qt));refine RetOk.of rfl (AV.Le.tup (LeL.cons (AV.Le.int ?_) (LeL.refl _)));unfold cmpI
  (repeat' split) <;> first | rfl | omega
 ·refine RetOk.of rfl (AV.Le.tup (LeL.cons (AV.Le.int ?_) (LeL.refl _)));rw [cmpI_gt (by omega)]
 ·refine qc (compare_ok x.natAbs y.natAbs (by omega) (by omega) (by omega) (by omega)) ?_;(repeat' (first |refine qv ?_ |apply qn |apply qt));refine RetOk.of rfl (AV.Le.tup (LeL.cons (AV.Le.int ?_) (LeL.refl _)));unfold cmpI
  (repeat' split) <;> first | rfl | omega
theorem sum_ok (x y : Int) (neg : Bool) (hx : Fit x) (hy : Fit y) : PureFn Tryz.prog 232 [aX x, aX y, aB neg] (aR (x + sg neg y.natAbs)) := by
 refine PureFn.of_body Tryz.func232 rfl Tryz.ntmps232 rfl rfl ?_;have lx := hx.len;have ly := hy.len;have vx := val_toW (show (0 : Int) ≤ x.natAbs by omega);have vy := val_toW (show (0 : Int) ≤ y.natAbs by omega)
 have hle : ∀ z : Int, 0 ≤ z → z ≤ x.natAbs + y.natAbs → (toW z).length ≤ 50000 := fun z h0 h1 => by
  rw [toW_len_le h0];have h2 := hx.lt;have h3 := hy.lt;have h4 : BB 4097 = 4294967296 * BB 4096 := BB_succ 4096;have h5 : BB 4097 ≤ BB 50000 := BB_le (by omega);omega
 (repeat' (first |refine qv ?_ |apply qn |apply qs |apply qr |refine qe ?_ |(refine AWP.condD rfl ?_ ?_ <;> intro _ <;> try (exfalso; omega)) |apply qb))
 ·rename_i hs;refine qc (plus_ok x.natAbs y.natAbs (by omega) (by omega) (by omega) (by omega)) ?_;skip;refine Fl.call rfl (made_ok neg _ (toW_ok _) (by have := hle (x.natAbs + y.natAbs) (by omega) (by omega); omega)) rfl rfl rfl (LeL.refl _) ?_;(repeat' (first |refine qv ?_ |apply qn |refine qe ?_ |apply qt));refine RetOk.of rfl (AV.Le.of_eq ?_);rw [val_toW (by omega), show sg neg (x.natAbs + y.natAbs) = x + sg neg y.natAbs by simp only [sg]; cases neg <;> simp at hs ⊢ <;> omega]
 ·rename_i hs;refine qc (compare_ok x.natAbs y.natAbs (by omega) (by omega) (by omega) (by omega)) ?_;(repeat' (first |refine qv ?_ |apply qn |apply qs |apply qr |(refine AWP.condD rfl ?_ ?_ <;> intro _ <;> try (exfalso; omega)) |apply qk))
  ·rename_i hc
   have hc2 : (x.natAbs : Int) < y.natAbs := by
    unfold cmpI at hc;split at hc
    ·assumption
    ·split at hc <;> omega
   refine qc (minus_ok y.natAbs x.natAbs (by omega) (by omega) (by omega)) ?_;skip;refine Fl.call rfl (made_ok neg _ (toW_ok _) (by have := hle (y.natAbs - x.natAbs) (by omega) (by omega); omega)) rfl rfl rfl (LeL.refl _) ?_;(repeat' (first |refine qv ?_ |apply qn |refine qe ?_ |apply qt));refine RetOk.of rfl (AV.Le.of_eq ?_);rw [val_toW (by omega), show sg neg (y.natAbs - x.natAbs) = x + sg neg y.natAbs by simp only [sg]; cases neg <;> simp at hs ⊢ <;> omega]
  ·rename_i hc
   have hc2 : (y.natAbs : Int) ≤ x.natAbs := by
    unfold cmpI at hc;split at hc
    ·omega
    ·split at hc <;> omega
   refine qc (minus_ok x.natAbs y.natAbs (by omega) (by omega) (by omega)) ?_;skip;refine Fl.call rfl (made_ok (decide (x < 0)) _ (toW_ok _) (by have := hle (x.natAbs - y.natAbs) (by omega) (by omega); omega)) rfl rfl rfl (LeL.refl _) ?_;(repeat' (first |refine qv ?_ |refine Fl.nil (fun _ => by kernel_rfl) ?_ |refine qe ?_ |apply qt));refine RetOk.of rfl (AV.Le.of_eq ?_);rw [val_toW (by omega), show sg (decide (x < 0)) (x.natAbs - y.natAbs) = x + sg neg y.natAbs by simp only [sg]; cases neg <;> simp at hs ⊢ <;> split <;> omega]
theorem Add_ok (x y : Int) (hx : Fit x) (hy : Fit y) : PureFn Tryz.prog 222 [aX x, aX y] (aR (x + y)) := by
 refine PureFn.of_body Tryz.func222 rfl Tryz.ntmps222 rfl rfl ?_;(repeat' (first |refine qv ?_ |apply qn |apply qs |apply qr |refine qe ?_|fail));refine ql eZ [zOf x, zOf y] ?_;skip;refine qc (valid_two x y hx hy) ?_;(repeat' (first |refine qv ?_ |apply qn |apply qs |apply qr |refine AWP.condF rfl ?_ |apply qk));refine qc (sum_ok x y (decide (y < 0)) hx hy) ?_;(repeat' (first |refine qv ?_ |apply qn |refine qe ?_ |apply qt));refine RetOk.of rfl (AV.Le.of_eq ?_);rw [show sg (decide (y < 0)) y.natAbs = y by simp only [sg]; simp; split <;> omega]
theorem Sub_ok (x y : Int) (hx : Fit x) (hy : Fit y) : PureFn Tryz.prog 241 [aX x, aX y] (aR (x - y)) := by
 refine PureFn.of_body Tryz.func241 rfl Tryz.ntmps241 rfl rfl ?_;(repeat' (first |refine qv ?_ |apply qn |apply qs |apply qr |refine qe ?_|fail));refine ql eZ [zOf x, zOf y] ?_;skip;refine qc (valid_two x y hx hy) ?_;(repeat' (first |refine qv ?_ |apply qn |apply qs |apply qr |refine AWP.condF rfl ?_ |apply qk));refine qc (sum_ok x y (!decide (y < 0)) hx hy) ?_;(repeat' (first |refine qv ?_ |apply qn |refine qe ?_ |apply qt));refine RetOk.of rfl (AV.Le.of_eq ?_);rw [show x + sg (!decide (y < 0)) y.natAbs = x - y by simp only [sg]; simp; split <;> omega]
end Go.Proofs.YtmmfloplhopioaaGreat
namespace Go.AL
theorem toW_pos {x : Int} (h : 0 < ((toW x.natAbs).length : Int)) : x ≠ 0 := by
 rintro rfl;rw [show ((Int.natAbs 0 : Nat) : Int) = 0 from rfl, toW_zero] at h;simp at h
theorem p62 : ∀ n : Int, 0 ≤ n → n ≤ 9223372036854775807 → n / 2 ^ (63 : Int).toNat = 0 := fun n h0 h1 => by rw [p63]; omega
theorem half_pow (n : Int) (i : Int) (hi : 0 ≤ i) : n / 2 ^ i.toNat = 2 * (n / 2 ^ (i + 1).toNat) + (n / 2 ^ i.toNat) % 2 := by
 have h1 : (i + 1).toNat = i.toNat + 1 := by omega
 rw [h1, Int.pow_succ, ← Int.ediv_ediv_of_nonneg (by exact Int.le_of_lt (Int.pow_pos (by omega)))];omega
theorem fit_pow_le {x : Int} {j k : Nat} (h : j ≤ k) (hf : Fit (x ^ k)) : Fit (x ^ j) := by
 unfold Fit at *
 rw [Int.natAbs_pow] at *
 rcases Nat.eq_zero_or_pos x.natAbs with h0 | h0
 ·rw [h0]
  cases j with
  | zero => rw [Nat.pow_zero]; have := fit_small (x := 1) (by omega) (by omega); unfold Fit at this; exact this
  | succ j => rw [Nat.zero_pow (by omega)]; exact BB_4096_pos
 ·have h1 := Nat.pow_le_pow_right h0 h
  have h2 : ((x.natAbs ^ j : Nat) : Int) ≤ ((x.natAbs ^ k : Nat) : Int) := by exact_mod_cast h1
  omega
theorem szErr_eq {x : Int} : szErr x = 0 ↔ Fit x := by
 constructor
 ·intro h;rcases Classical.em (Fit x) with h1 | h1
  ·exact h1
  ·rw [szErr_not h1] at h; cases h
 ·exact szErr_fit
theorem bitN_and1 {a : Int} (h : 0 ≤ a) : bitN .and a 1 = a % 2 := by
 show ((a.toNat &&& (1 : Int).toNat : Nat) : Int) = a % 2;rw [show (1 : Int).toNat = 1 from rfl, Nat.and_one_is_mod];omega
theorem pow_dbl (x : Int) {m m' : Int} (h : 0 ≤ m) (e : m' = 2 * m) : x ^ m.toNat * x ^ m.toNat = x ^ m'.toNat := by
 rw [← Int.pow_add]; congr 1; omega
theorem pow_dbl1 (x : Int) {m m' : Int} (h : 0 ≤ m) (e : m' = 2 * m + 1) : x ^ m.toNat * x ^ m.toNat * x = x ^ m'.toNat := by
 rw [← Int.pow_add, ← Int.pow_succ]; congr 1; omega
end Go.AL
namespace Go.Proofs.YtmmfloplhopioaaGreat
open Go.AL
theorem Mul_ok (x y : Int) (hx : Fit x) (hy : Fit y) : PureFn Tryz.prog 88 [aX x, aX y] (aR (x * y)) := by
 refine PureFn.of_body Tryz.func88 rfl Tryz.ntmps88 rfl rfl ?_;have lx := hx.len;have ly := hy.len;have lm := mul_len hx hy;have h0 : (0 : Int) ≤ x.natAbs * y.natAbs := Int.mul_nonneg (by omega) (by omega);have htimes := times_ok x.natAbs y.natAbs (by omega) (by omega) (by omega) (by omega);have hmade := made_ok (!(decide (x < 0) == decide (y < 0))) _ (toW_ok (x.natAbs * y.natAbs)) lm;rw [val_toW h0, sg_mul] at hmade;(repeat' (first |refine qv ?_ |apply qn |apply qs |apply qr |refine qe ?_|fail));refine ql eZ [zOf x, zOf y] ?_;skip;refine qc (valid_two x y hx hy) ?_;(repeat' (first |refine qv ?_ |apply qn |apply qs |apply qr |refine qw ?_ |refine qe ?_ |refine Fl.skip rfl rfl ?_ |refine AWP.condF rfl ?_ |(refine AWP.condD rfl ?_ ?_ <;> intro _ <;> try (exfalso; omega)) |apply qk |apply qt |(refine Fl.splitD rfl rfl ?_ ?_ <;> intro _ <;> try (exfalso; omega))))
 ·rename_i h1 h2 h3;refine RetOk.of rfl ?_;rw [aR_not (mul_not_fit (toW_pos h1) (toW_pos h2) (by omega))];exact AV.Le.tup (LeL.cons aX_zero (LeL.refl _))
 all_goals
  refine Fl.call rfl htimes rfl rfl rfl (LeL.refl _) ?_;skip;refine Fl.call rfl hmade rfl rfl rfl (LeL.refl _) ?_;(repeat' (first |refine qv ?_ |refine Fl.nil (fun _ => by kernel_rfl) ?_ |refine qe ?_ |apply qt));exact RetOk.of rfl (AV.Le.refl _)
theorem Of_ok (n : Int) (h0 : -9223372036854775808 ≤ n) (h1 : n ≤ 9223372036854775807) : PureFn Tryz.prog 93 [aN n] (aX n) := by
 refine PureFn.of_body Tryz.func93 rfl Tryz.ntmps93 rfl rfl ?_;(repeat' (first |refine qv ?_ |apply qn |apply qs |apply qr |refine qw ?_ |refine qe ?_ |(refine AWP.condD rfl ?_ ?_ <;> intro _ <;> try (exfalso; omega)) |apply qk |refine Fl.cvU rfl rfl rfl rfl rfl rfl ?_))
 all_goals
  refine ql eW [_, _] ?_;skip;refine Fl.call rfl (made_ok (decide (n < 0)) _ (WOk.cons (by omega) (by omega) (WOk.cons (by omega) (by omega) WOk.nil)) (by simp)) rfl rfl rfl (LeL.refl _) ?_;(repeat' (first |refine qv ?_ |apply qn |apply qs |apply qr |refine qe ?_ |apply qt));refine RetOk.of rfl (AV.Le.of_eq ?_);simp only [val, p32];rw [show sg (decide (n < 0)) _ = n by simp only [sg]; simp; split <;> omega, clip_fit (fit_small (by omega) (by omega))]
theorem Power_ok (x n : Int) (hx : Fit x) (h0 : 0 ≤ n) (h1 : n ≤ 9223372036854775807) : PureFn Tryz.prog 94 [aX x, aN n] (aR (x ^ n.toNat)) := by
 refine PureFn.of_body Tryz.func94 rfl Tryz.ntmps94 rfl rfl ?_;(repeat' (first |refine qv ?_ |apply qn |apply qs |apply qr |refine qe ?_|fail));refine qc (Valid_int x hx) ?_;(repeat' (first |refine qv ?_ |apply qn |apply qs |apply qr |refine AWP.condF rfl ?_ |(refine AWP.condD rfl ?_ ?_ <;> intro _ <;> try (exfalso; omega)) |apply qk));refine qc (Of_ok 1 (by omega) (by omega)) ?_;(repeat' (first |refine qv ?_ |apply qn |apply qs |apply qr |refine qe ?_ |apply qb));refine AWP.loop (G := Int × Int) (fun (i, o) => -1 ≤ i ∧ i ≤ 62 ∧ o = x ^ (n / 2 ^ (i + 1).toNat).toNat ∧ Fit o)
  (fun (i, o) => St.of [] [(1, aN n), (2, .ptr 2 0), (4, .ptr 4 0), (6, .ptr 6 0), (7, aN i)] [(2, .cells (eX x) 48), (4, .cells [aB false, .v (.slice none 0 0)] 48), (6, .cells (eX o) 48)])
  (fun (i, o) => (i + 1).toNat) (62, 1) ⟨by omega, by omega, by rw [show ((62 : Int) + 1) = 63 from rfl, p62 n h0 h1]; exact (Int.pow_zero x).symm, fit_small (by omega) (by omega)⟩ ?_ ?_
 ·refine Ent.of [] ?_ ?_ rfl rfl;(repeat' (first |exact True.intro |refine ⟨⟨AV.Le.refl _, rfl⟩, ?_⟩ |refine ⟨⟨⟨_, rfl, BLe.cells (LeL.refl _)⟩, rfl⟩, ?_⟩|fail))
 ·intro ⟨i, o⟩ ⟨k0, k1, k2, k3⟩;have q0 : 0 ≤ n / 2 ^ i.toNat := Int.ediv_nonneg h0 (Int.le_of_lt (Int.pow_pos (by omega)));have q1 : n / 2 ^ i.toNat ≤ n := Int.ediv_le_self _ h0;(repeat' (first |refine qv ?_ |apply qn |apply qs |apply qr |refine qe ?_ |(refine AWP.condD rfl ?_ ?_ <;> intro _ <;> try (exfalso; omega)) |apply qb |apply qk |apply qx |apply qt))
  ·rename_i hi;have hh := half_pow n i hi;have q2 : 0 ≤ n / 2 ^ (i + 1).toNat := Int.ediv_nonneg h0 (Int.le_of_lt (Int.pow_pos (by omega)));have hb := bitN_and1 q0;refine qc (Mul_ok o o k3 k3) ?_;(repeat' (first |refine qv ?_ |apply qn |apply qs |apply qr |refine qw ?_ |refine qe ?_ |(refine AWP.condD rfl ?_ ?_ <;> intro _ <;> try (exfalso; omega)) |(refine AWP.condN rfl ?_ ?_ <;> intro _ <;> try (exfalso; omega)) |apply qk |apply qx |apply qt))
   ·rename_i he;have hf : ¬ Fit (o * o) := fun h => he (szErr_eq.2 h);refine RetOk.of rfl ?_;rw [aR_not (x := x ^ n.toNat) ?_, szErr_not hf]
    ·exact AV.Le.tup (LeL.cons aX_zero (LeL.refl _))
    ·intro h;refine hf ?_;rw [k2, pow_dbl x q2 rfl];exact fit_pow_le (by omega) h
   ·rename_i he hz;have hf := szErr_eq.1 he;refine LoopEnd.of (i - 1, clip (o * o)) ⟨by omega, by omega, ?_, Fit.clip _⟩ (by simp only; omega) ?_
    ·rw [clip_fit hf, k2, show i - 1 + 1 = i by omega];exact pow_dbl x q2 (by omega)
    ·refine Ent.of [] ?_ ?_ rfl rfl;(repeat' (first |exact True.intro |refine ⟨⟨AV.Le.refl _, rfl⟩, ?_⟩ |refine ⟨⟨⟨_, rfl, BLe.cells (LeL.refl _)⟩, rfl⟩, ?_⟩|fail))
   ·rename_i he hz;have hf := szErr_eq.1 he;refine qc (Mul_ok (clip (o * o)) x (Fit.clip _) hx) ?_
    have hp : o * o * x = x ^ (n / 2 ^ i.toNat).toNat := by rw [k2]; exact pow_dbl1 x q2 (by omega)
    (repeat' (first |refine qv ?_ |apply qn |apply qs |apply qr |refine qw ?_ |refine qe ?_ |(refine AWP.condN rfl ?_ ?_ <;> intro _ <;> try (exfalso; omega)) |apply qk |apply qt))
    ·rename_i he;rw [clip_fit hf] at he;have hf2 : ¬ Fit (o * o * x) := fun h => he (szErr_eq.2 h);refine RetOk.of rfl ?_;rw [aR_not (x := x ^ n.toNat) ?_, clip_fit hf, szErr_not hf2]
     ·exact AV.Le.tup (LeL.cons aX_zero (LeL.refl _))
     ·intro h;rw [hp] at hf2;exact hf2 (fit_pow_le (by omega) h)
    ·rename_i he;rw [clip_fit hf] at he;have hf2 := szErr_eq.1 he;refine LoopEnd.of (i - 1, clip (clip (o * o) * x)) ⟨by omega, by omega, ?_, Fit.clip _⟩ (by simp only; omega) ?_
     ·rw [clip_fit hf, clip_fit hf2, hp, show i - 1 + 1 = i by omega]
     ·refine Ent.of [] ?_ ?_ rfl rfl;(repeat' (first |exact True.intro |refine ⟨⟨AV.Le.refl _, rfl⟩, ?_⟩ |refine ⟨⟨⟨_, rfl, BLe.cells (LeL.refl _)⟩, rfl⟩, ?_⟩|fail))
  ·rename_i hi
   have hi1 : i = -1 := by omega
   subst hi1;refine RetOk.of rfl ?_;rw [show n / 2 ^ ((-1 : Int) + 1).toNat = n from Int.ediv_one n] at k2;rw [← k2, aR_fit k3];exact AV.Le.refl _
end Go.Proofs.YtmmfloplhopioaaGreat
/- Binary digits. -/
namespace Go.AL
def undI (x y : Int) : Prop := x.toNat &&& y.toNat = x.toNat
instance decUndI (x y : Int) : Decidable (undI x y) := inferInstanceAs (Decidable (_ = _))
attribute [irreducible] decUndI
theorem and_split {p q r s : Nat} (hp : p < 2 ^ 32) (hr : r < 2 ^ 32) : (p + 2 ^ 32 * q) &&& (r + 2 ^ 32 * s) = (p &&& r) + 2 ^ 32 * (q &&& s) := by
 have e : ∀ a b : Nat, a < 2 ^ 32 → a + 2 ^ 32 * b = b <<< 32 ||| a := by
  intro a b h;rw [← Nat.shiftLeft_add_eq_or_of_lt h, Nat.shiftLeft_eq]; omega
 rw [e p q hp, e r s hr, e _ _ (Nat.and_lt_two_pow _ hr)];apply Nat.eq_of_testBit_eq;intro i;simp only [Nat.testBit_and, Nat.testBit_or, Nat.testBit_shiftLeft];by_cases hi : 32 ≤ i
 ·have h1 : p.testBit i = false := Nat.testBit_lt_two_pow (Nat.lt_of_lt_of_le hp (Nat.pow_le_pow_right (by omega) hi));have h2 : r.testBit i = false := Nat.testBit_lt_two_pow (Nat.lt_of_lt_of_le hr (Nat.pow_le_pow_right (by omega) hi));simp [hi, h1, h2]
 ·simp [hi]
theorem undI_cons {x y : Int} {a b : List Int} (hx0 : 0 ≤ x) (hx1 : x < 4294967296) (hy0 : 0 ≤ y) (hy1 : y < 4294967296) (ha : 0 ≤ val a) (hb : 0 ≤ val b) :
  undI (val (x :: a)) (val (y :: b)) ↔ undI x y ∧ undI (val a) (val b) := by
 unfold undI;rw [show val (x :: a) = x + 4294967296 * val a by simp only [val], show val (y :: b) = y + 4294967296 * val b by simp only [val]]
 have e1 : (x + 4294967296 * val a).toNat = x.toNat + 2 ^ 32 * (val a).toNat := by omega
 have e2 : (y + 4294967296 * val b).toNat = y.toNat + 2 ^ 32 * (val b).toNat := by omega
 rw [e1, e2, and_split (by omega) (by omega)];have h1 : x.toNat &&& y.toNat < 2 ^ 32 := Nat.and_lt_two_pow _ (by omega)
 have h2 : x.toNat < 2 ^ 32 := by omega
 generalize x.toNat &&& y.toNat = u at *
 generalize (val a).toNat &&& (val b).toNat = w at *
 generalize x.toNat = p at *
 generalize (val a).toNat = q at *
 constructor
 ·intro h; constructor <;> omega
 ·rintro ⟨rfl, rfl⟩; rfl
theorem undI_words : ∀ {a b : List Int}, WOk a → WOk b → a.length ≤ b.length → (undI (val a) (val b) ↔ ∀ (j : Nat) (x y : Int), a[j]? = some x → b[j]? = some y → undI x y)
 | [], b, _, _, _ => by
  simp only [val_nil];constructor
  ·intro _ j x y h; simp at h
  ·intro _; unfold undI; simp
 | x :: a, [], _, _, h => by simp at h
 | x :: a, y :: b, ha, hb, h => by
  have hx := ha.head;have hy := hb.head;rw [undI_cons hx.1 hx.2 hy.1 hy.2 (val_nonneg ha.tail) (val_nonneg hb.tail), undI_words ha.tail hb.tail (by simpa using h)];constructor
  ·intro ⟨h1, h2⟩ j u v hu hv
   cases j with
   | zero => simp at hu hv; subst hu hv; exact h1
   | succ j => exact h2 j u v (by simpa using hu) (by simpa using hv)
  ·intro h1;exact ⟨h1 0 x y (by simp) (by simp), fun j u v hu hv => h1 (j + 1) u v (by simpa using hu) (by simpa using hv)⟩
theorem undI_le {x y : Int} (hx : 0 ≤ x) (hy : 0 ≤ y) (h : undI x y) : x ≤ y := by
 unfold undI at h;have := @Nat.and_le_right x.toNat y.toNat;omega
theorem xor_zero_iff {a b : Nat} : a ^^^ b = 0 ↔ a = b := by
 constructor
 ·intro h
  have h2 : (a ^^^ b) ^^^ b = 0 ^^^ b := by rw [h]
  rwa [Nat.xor_assoc, Nat.xor_self, Nat.xor_zero, Nat.zero_xor] at h2
 ·rintro rfl; exact Nat.xor_self _
theorem andNot_zero {x y : Int} : bitN .andNot x y = 0 ↔ undI x y := by
 show ((x.toNat ^^^ (x.toNat &&& y.toNat) : Nat) : Int) = 0 ↔ _;unfold undI;rw [Int.natCast_eq_zero, xor_zero_iff];exact eq_comm
end Go.AL
namespace Go.AL
def I64 (x : Int) : Prop := -9223372036854775808 ≤ x ∧ x ≤ 9223372036854775807
instance decI64 (x : Int) : Decidable (I64 x) := inferInstanceAs (Decidable (_ ∧ _))
attribute [irreducible] decI64
theorem or_shift {m u : Int} {i : Nat} (h0 : 0 ≤ m) (h1 : m < BB i) (h2 : 0 ≤ u) (h3 : u < 4294967296) (hi : i < 2) : bitN .or m (u * 2 ^ (32 * (i : Int)).toNat % 18446744073709551616) = m + BB i * u := by
 have hi2 : i = 0 ∨ i = 1 := by omega
 rcases hi2 with rfl | rfl
 ·rw [BB_zero] at h1 ⊢
  have : m = 0 := by omega
  subst this;show (((0 : Int).toNat ||| (u * 2 ^ (0 : Nat) % 18446744073709551616).toNat : Nat) : Int) = _;rw [show (0 : Int).toNat = 0 from rfl, Nat.zero_or];omega
 ·have hB : BB 1 = 4294967296 := by rw [BB_succ, BB_zero]; rfl
  rw [hB] at h1 ⊢;show ((m.toNat ||| (u * 2 ^ (32 : Nat) % 18446744073709551616).toNat : Nat) : Int) = _
  have e : (u * 2 ^ (32 : Nat) % 18446744073709551616).toNat = u.toNat <<< 32 := by rw [Nat.shiftLeft_eq]; omega
  rw [e, Nat.or_comm, ← Nat.shiftLeft_add_eq_or_of_lt (by omega : m.toNat < 2 ^ 32), Nat.shiftLeft_eq];omega
theorem not_I64 {x : Int} (h : 2 < (toW x.natAbs).length) : ¬ I64 x := by
 have h1 := BB_len_le (z := x.natAbs) (by
  rcases Nat.eq_zero_or_pos x.natAbs with h0 | h0
  ·rw [h0, show ((0 : Nat) : Int) = 0 from rfl, toW_zero] at h; simp at h
  ·omega)
 have h2 := BB_le (show 2 ≤ (toW x.natAbs).length - 1 by omega);rw [BB_2] at h2;unfold I64; omega
end Go.AL
namespace Go.Proofs.YtmmfloplhopioaaGreat
open Go.AL
theorem Small_ok (x : Int) (hx : Fit x) : PureFn Tryz.prog 51 [aX x] (.tup [aN (if I64 x then x else 0), aB (decide (I64 x))]) := by
 refine PureFn.of_body Tryz.func51 rfl Tryz.ntmps51 rfl rfl ?_;have lx := hx.len;have wx := toW_ok x.natAbs;have vx := val_toW (show (0 : Int) ≤ x.natAbs by omega);(repeat' (first |refine qv ?_ |apply qn |apply qs |apply qr |refine qe ?_|fail));refine qc (Valid_int x hx) ?_;(repeat' (first |refine qv ?_ |apply qn |apply qs |apply qr |(refine AWP.condD rfl ?_ ?_ <;> intro _ <;> try (exfalso; omega)) |apply qb |apply qk |apply qt))
 ·rename_i h;have hn := not_I64 (x := x) (by omega);refine RetOk.of rfl (AV.Le.tup (LeL.cons (AV.Le.int ?_) (LeL.cons (AV.Le.bool ?_) LeL.nil)))
  ·rw [if_neg hn]
  ·simp [hn]
 ·rename_i hl;refine AWP.loop (G := Nat × Int) (fun (i, m) => i ≤ (toW x.natAbs).length ∧ m = val ((toW x.natAbs).take i) ∧ 0 ≤ m ∧ m < BB i ∧ m ≤ 18446744073709551615)
   (fun (i, m) => St.of [] [(1, .ptr 1 0), (4, aU m), (17, aW (toW x.natAbs)), (18, aN (toW x.natAbs).length), (19, aN i)] [(1, .cells (eX x) 48)])
   (fun (i, m) => (toW x.natAbs).length - i) (0, 0) ⟨by omega, by simp [val], by omega, by rw [BB_zero]; omega, by omega⟩ ?_ ?_
  ·refine Ent.of [] ?_ ?_ rfl rfl;(repeat' (first |exact True.intro |refine ⟨⟨AV.Le.refl _, rfl⟩, ?_⟩ |refine ⟨⟨⟨_, rfl, BLe.cells (LeL.refl _)⟩, rfl⟩, ?_⟩|fail))
  ·intro ⟨i, m⟩ ⟨k0, k1, k2, k3, k4⟩;(repeat' (first |refine qv ?_ |apply qn |apply qs |apply qr |refine qw ?_ |refine Fl.skip rfl rfl ?_ |refine AWP.condT rfl ?_ |refine AWP.condF rfl ?_ |(refine AWP.condD rfl ?_ ?_ <;> intro _ <;> try (exfalso; omega)) |apply qb |apply qk |apply qx |apply qt |(refine Fl.elW rfl rfl rfl rfl rfl rfl rfl rfl (by omega) (by omega) (by assumption) ?_; intro _ _ _ _) |refine Fl.cvS rfl rfl rfl rfl rfl rfl ?_ |(refine Fl.splitD rfl rfl ?_ ?_ <;> intro _ <;> try (exfalso; omega))))
   ·rename_i hi u hu hu0 hu1;rw [Int.toNat_natCast] at hu
    have hi2 : i < 2 := by omega
    have hor := or_shift (i := i) k2 k3 hu0 hu1 hi2;have hb : BB (i + 1) ≤ BB 2 := BB_le (by omega);rw [BB_2] at hb
    have hlt : m + BB i * u < BB (i + 1) := by
     rw [BB_succ];have h5 := BB_pos i;have h6 : BB i * u ≤ BB i * 4294967295 := Int.mul_le_mul_of_nonneg_left (by omega) (by omega);omega
    have h0 : 0 ≤ BB i * u := Int.mul_nonneg (Int.le_of_lt (BB_pos i)) hu0;refine LoopEnd.of (i + 1, m + BB i * u) ⟨by omega, by rw [k1, val_take_succ hu], by omega, hlt, by omega⟩ (by simp only; omega) ?_;refine Ent.of [] ?_ ?_ rfl rfl;(repeat' (first |exact True.intro |refine ⟨⟨AV.Le.refl _, rfl⟩, ?_⟩ |refine ⟨⟨⟨_, rfl, BLe.cells (LeL.refl _)⟩, rfl⟩, ?_⟩ |refine ⟨⟨AV.Le.int ?_, rfl⟩, ?_⟩|fail));exact hor
   all_goals
    have hii : i = (toW x.natAbs).length := by omega
    have hm : m = x.natAbs := by rw [k1, hii, List.take_length, vx]
   ·refine RetOk.of rfl (AV.Le.tup (LeL.cons (AV.Le.int ?_) (LeL.cons (AV.Le.bool ?_) LeL.nil)))
    ·rw [if_pos (show I64 x by unfold I64; omega)]; omega
    ·exact (decide_eq_true (show I64 x by unfold I64; omega)).symm
   ·refine RetOk.of rfl (AV.Le.tup (LeL.cons (AV.Le.int ?_) (LeL.cons (AV.Le.bool ?_) LeL.nil)))
    ·rw [if_neg (show ¬ I64 x by unfold I64; omega)]
    ·exact (decide_eq_false (show ¬ I64 x by unfold I64; omega)).symm
   ·refine RetOk.of rfl (AV.Le.tup (LeL.cons (AV.Le.int ?_) (LeL.cons (AV.Le.bool ?_) LeL.nil)))
    ·rw [if_neg (show ¬ I64 x by unfold I64; omega)]
    ·exact (decide_eq_false (show ¬ I64 x by unfold I64; omega)).symm
   ·refine RetOk.of rfl (AV.Le.tup (LeL.cons (AV.Le.int ?_) (LeL.cons (AV.Le.bool ?_) LeL.nil)))
    ·rw [if_pos (show I64 x by unfold I64; omega)]; omega
    ·exact (decide_eq_true (show I64 x by unfold I64; omega)).symm
theorem Under_ok (x y : Int) (hx : Fit x) (hy : Fit y) : PureFn Tryz.prog 139 [aX x, aX y] (.tup [aB (decide (0 ≤ x ∧ 0 ≤ y ∧ undI x y)), aN (if x < 0 ∨ y < 0 then 2 else 0)]) := by
 refine PureFn.of_body Tryz.func139 rfl Tryz.ntmps139 rfl rfl ?_;have lx := hx.len;have ly := hy.len;have wx := toW_ok x.natAbs;have wy := toW_ok y.natAbs;(repeat' (first |refine qv ?_ |apply qn |apply qs |apply qr |refine qe ?_|fail));refine ql eZ [zOf x, zOf y] ?_;skip;refine qc (valid_two x y hx hy) ?_;(repeat' (first |refine qv ?_ |apply qn |apply qs |apply qr |refine Fl.skip rfl rfl ?_ |refine AWP.condT rfl ?_ |refine AWP.condF rfl ?_ |(refine AWP.condD rfl ?_ ?_ <;> intro _ <;> try (exfalso; omega)) |apply qb |apply qk |apply qt |(refine Fl.splitD rfl rfl ?_ ?_ <;> intro _ <;> try (exfalso; omega))))
 ·rename_i h;refine RetOk.of rfl (AV.Le.tup (LeL.cons (AV.Le.bool (Eq.symm (decide_eq_false fun h => by omega))) (LeL.cons (AV.Le.int (Eq.symm (if_pos (by omega)))) LeL.nil)))
 ·rename_i h;refine RetOk.of rfl (AV.Le.tup (LeL.cons (AV.Le.bool (Eq.symm (decide_eq_false fun h => by omega))) (LeL.cons (AV.Le.int (Eq.symm (if_pos (by omega)))) LeL.nil)))
 ·rename_i h0 h1 h
  have h2 : ¬ undI x y := fun h2 => by
   have h3 := undI_le (by omega) (by omega) h2
   have h4 := (toW_len_le (show (0 : Int) ≤ x.natAbs by omega) (toW y.natAbs).length).2 (by
    have := (toW_len_le (show (0 : Int) ≤ y.natAbs by omega) (toW y.natAbs).length).1 (Nat.le_refl _)
    omega)
   omega
  refine RetOk.of rfl (AV.Le.tup (LeL.cons (AV.Le.bool (Eq.symm (decide_eq_false fun h => h2 h.2.2))) (LeL.cons (AV.Le.int (Eq.symm (if_neg (by omega)))) LeL.nil)))
 ·rename_i h0 h1 hl
  have hvx : val (toW x.natAbs) = x := by rw [val_toW (by omega)]; omega
  have hvy : val (toW y.natAbs) = y := by rw [val_toW (by omega)]; omega
  have hw := undI_words wx wy (by omega);rw [hvx, hvy] at hw;refine AWP.loop (G := Nat) (fun i => i ≤ (toW x.natAbs).length ∧ ∀ (j : Nat) (u v : Int), j < i → (toW x.natAbs)[j]? = some u → (toW y.natAbs)[j]? = some v → undI u v)
   (fun i => St.of [] [(3, .ptr 3 0), (27, aW (toW x.natAbs)), (28, aN (toW x.natAbs).length), (29, aN i)] [(3, .cells (eX y) 48)])
   (fun i => (toW x.natAbs).length - i) 0 ⟨by omega, fun j u v hj => by omega⟩ ?_ ?_
  ·refine Ent.of [] ?_ ?_ rfl rfl;(repeat' (first |exact True.intro |refine ⟨⟨AV.Le.refl _, rfl⟩, ?_⟩ |refine ⟨⟨⟨_, rfl, BLe.cells (LeL.refl _)⟩, rfl⟩, ?_⟩|fail))
  ·intro i ⟨k0, k1⟩;(repeat' (first |refine qv ?_ |apply qn |apply qs |apply qr |refine qw ?_ |(refine AWP.condD rfl ?_ ?_ <;> intro _ <;> try (exfalso; omega)) |(refine AWP.condN rfl ?_ ?_ <;> intro _ <;> try (exfalso; omega)) |apply qb |apply qk |apply qx |apply qt |(refine Fl.elW rfl rfl rfl rfl rfl rfl rfl rfl (by omega) (by omega) (by assumption) ?_; intro _ _ _ _)|fail))
   ·rename_i hi u hu hu0 hu1 v hv hv0 hv1 hz;rw [Int.toNat_natCast] at hu hv;have h2 : ¬ undI x y := fun h2 => hz (andNot_zero.2 (hw.1 h2 i u v hu hv));refine RetOk.of rfl (AV.Le.tup (LeL.cons (AV.Le.bool (Eq.symm (decide_eq_false fun h => h2 h.2.2))) (LeL.cons (AV.Le.int (Eq.symm (if_neg (by omega)))) LeL.nil)))
   ·rename_i hi u hu hu0 hu1 v hv hv0 hv1 hz;rw [Int.toNat_natCast] at hu hv;refine LoopEnd.of (i + 1) ⟨by omega, fun j p q hj hp hq => ?_⟩ (by omega) ?_
    ·rcases Nat.lt_or_ge j i with h | h
     ·exact k1 j p q h hp hq
     ·have : j = i := by omega
      subst this;rw [hu] at hp; rw [hv] at hq;injection hp with hp; injection hq with hq;subst hp hq;exact andNot_zero.1 hz
    ·refine Ent.of [] ?_ ?_ rfl rfl;(repeat' (first |exact True.intro |refine ⟨⟨AV.Le.refl _, rfl⟩, ?_⟩ |refine ⟨⟨⟨_, rfl, BLe.cells (LeL.refl _)⟩, rfl⟩, ?_⟩|fail))
   ·have h2 : undI x y := hw.2 fun j u v hu hv => k1 j u v (by
     have := (List.getElem?_eq_some_iff.1 hu).1
     omega) hu hv
    refine RetOk.of rfl (AV.Le.tup (LeL.cons (AV.Le.bool (Eq.symm (decide_eq_true ⟨by omega, by omega, h2⟩))) (LeL.cons (AV.Le.int (Eq.symm (if_neg (by omega)))) LeL.nil)))
end Go.Proofs.YtmmfloplhopioaaGreat
/- Package exact: operations that throw. -/
namespace Go.Proofs.YtmmfloplhopioaaGreat
open Go.AL
def thrown (e : Int) : List PanicEntry := [{ v := .iface 219 (.int .i64 e), recovered := false }]
theorem Zero_ok (z : Z) : PureFn Tryz.prog 201 [aZ z] (aB (decide (z.w.length = 0))) := by
 refine PureFn.of_body Tryz.func201 rfl Tryz.ntmps201 rfl rfl ?_;(repeat' (first |refine qv ?_ |apply qn |apply qs |apply qr |refine qe ?_ |apply qt));refine RetOk.of rfl (AV.Le.bool ?_);simp
theorem xValid_ok (zs : List Z) (hz : ∀ z ∈ zs, WOk z.w) (hl : zs.length ≤ 1000000000) : PureFn Tryz.prog 177 [.sl 2 eZ zs] (aB (decide (∀ z ∈ zs, OkZ z))) := by
 refine PureFn.of_body Tryz.func177 rfl Tryz.ntmps177 rfl rfl ?_;(repeat' (first |refine qv ?_ |apply qn |apply qs |apply qr |apply qb));refine AWP.loop (G := Nat) (fun i => i ≤ zs.length ∧ ∀ z ∈ zs.take i, OkZ z) (fun i => St.of [] [(5, .sl 2 eZ zs), (6, aN zs.length), (7, aN i)] []) (fun i => zs.length - i) 0 ⟨by omega, by simp⟩ ?_ ?_
 ·refine Ent.of [] ?_ ?_ rfl rfl;(repeat' (first |exact True.intro |refine ⟨⟨AV.Le.refl _, rfl⟩, ?_⟩|fail))
 ·intro i ⟨h0, h1⟩;(repeat' (first |refine qv ?_ |apply qn |apply qs |apply qr |refine qe ?_ |(refine AWP.condD rfl ?_ ?_ <;> intro _ <;> try (exfalso; omega)) |apply qb |apply qk |apply qx |apply qt |(refine Fl.el rfl rfl rfl rfl rfl rfl rfl rfl (by omega) (by omega) ?_; intro _ _)|fail))
  ·rename_i hi z hzi;rw [Int.toNat_natCast] at hzi;refine qc (Valid_ok z (hz z (List.mem_of_getElem? hzi))) ?_;(repeat' (first |refine qv ?_ |apply qn |apply qs |apply qr |refine qw ?_ |(refine AWP.condN rfl ?_ ?_ <;> intro _ <;> try (exfalso; omega)) |apply qk |apply qt))
   ·rename_i h2;refine RetOk.of rfl (AV.Le.bool (Eq.symm (decide_eq_false fun h => h2 (h z (List.mem_of_getElem? hzi)))))
   ·rename_i h2;refine LoopEnd.of (i + 1) ⟨by omega, all_take_succ hzi h1 h2⟩ (by omega) ?_;refine Ent.of [] ?_ ?_ rfl rfl;(repeat' (first |exact True.intro |refine ⟨⟨AV.Le.refl _, rfl⟩, ?_⟩|fail))
  ·refine RetOk.of rfl (AV.Le.bool (Eq.symm (decide_eq_true ?_)));rwa [show i = zs.length by omega, List.take_length] at h1
theorem Throw_ok (e : Int) : IoFn Tryz.prog 212 [aN e] [] (.thr (thrown e)) [] := by
 refine IoFn.of_body Tryz.func212 rfl Tryz.ntmps212 rfl rfl rfl ?_;(repeat' (first |refine qv ?_ |apply qr));refine Fl.mi rfl rfl rfl rfl rfl rfl ?_;exact Fl.pan rfl rfl rfl (fun h => by cases h) (fun _ => rfl)
theorem ok_ret (x : Int) : PureFn Tryz.prog 221 [aX x, aN 0] (aX x) := by
 refine PureFn.of_body Tryz.func221 rfl Tryz.ntmps221 rfl rfl ?_;(repeat' (first |refine qv ?_ |apply qn |apply qs |apply qr |refine qe ?_ |refine AWP.condF rfl ?_ |apply qk |apply qt));exact RetOk.of rfl (AV.Le.refl _)
theorem ok_thr (x e : Int) (he : e ≠ 0) : IoFn Tryz.prog 221 [aX x, aN e] [] (.thr (thrown e)) [] := by
 refine IoFn.of_body Tryz.func221 rfl Tryz.ntmps221 rfl rfl rfl ?_;(repeat' (first |refine qv ?_ |apply qn |apply qs |apply qr |refine qe ?_ |(refine AWP.condN rfl ?_ ?_ <;> intro _ <;> try (exfalso; omega))));exact Fl.thrC rfl [] (Throw_ok e) rfl (LeL.refl _) rfl trivial rfl (fun h => by cases h) (fun _ => rfl)
theorem xAdd_ret (x y : Int) (hx : Fit x) (hy : Fit y) (hf : Fit (x + y)) : PureFn Tryz.prog 206 [aX x, aX y] (aX (x + y)) := by
 refine PureFn.of_body Tryz.func206 rfl Tryz.ntmps206 rfl rfl ?_;have h := Add_ok x y hx hy;rw [aR_fit hf] at h;(repeat' (first |refine qv ?_ |apply qn |apply qs |apply qr |refine qe ?_|fail));refine Fl.call rfl h rfl rfl rfl (LeL.refl _) ?_;(repeat' (first |refine qv ?_|fail));refine qc (ok_ret (x + y)) ?_;(repeat' (first |apply qn |refine qe ?_ |apply qt));exact RetOk.of rfl (AV.Le.refl _)
theorem xAdd_thr (x y : Int) (hx : Fit x) (hy : Fit y) (hf : ¬ Fit (x + y)) : IoFn Tryz.prog 206 [aX x, aX y] [] (.thr (thrown 4)) [] := by
 refine IoFn.of_body Tryz.func206 rfl Tryz.ntmps206 rfl rfl rfl ?_;have h := Add_ok x y hx hy;rw [aR_not hf] at h;(repeat' (first |refine qv ?_ |apply qn |apply qs |apply qr |refine qe ?_|fail));refine Fl.call rfl h rfl rfl rfl (LeL.refl _) ?_;(repeat' (first |refine qv ?_|fail));exact Fl.thrC rfl [] (ok_thr 0 4 (by omega)) rfl (LeL.refl _) rfl trivial rfl (fun h => by cases h) (fun _ => rfl)
theorem xMul_ret (x y : Int) (hx : Fit x) (hy : Fit y) (hf : Fit (x * y)) : PureFn Tryz.prog 214 [aX x, aX y] (aX (x * y)) := by
 refine PureFn.of_body Tryz.func214 rfl Tryz.ntmps214 rfl rfl ?_;have h := Mul_ok x y hx hy;rw [aR_fit hf] at h;(repeat' (first |refine qv ?_ |apply qn |apply qs |apply qr |refine qe ?_|fail));refine Fl.call rfl h rfl rfl rfl (LeL.refl _) ?_;(repeat' (first |refine qv ?_|fail));refine qc (ok_ret (x * y)) ?_;(repeat' (first |apply qn |refine qe ?_ |apply qt));exact RetOk.of rfl (AV.Le.refl _)
theorem xMul_thr (x y : Int) (hx : Fit x) (hy : Fit y) (hf : ¬ Fit (x * y)) : IoFn Tryz.prog 214 [aX x, aX y] [] (.thr (thrown 4)) [] := by
 refine IoFn.of_body Tryz.func214 rfl Tryz.ntmps214 rfl rfl rfl ?_;have h := Mul_ok x y hx hy;rw [aR_not hf] at h;(repeat' (first |refine qv ?_ |apply qn |apply qs |apply qr |refine qe ?_|fail));refine Fl.call rfl h rfl rfl rfl (LeL.refl _) ?_;(repeat' (first |refine qv ?_|fail));exact Fl.thrC rfl [] (ok_thr 0 4 (by omega)) rfl (LeL.refl _) rfl trivial rfl (fun h => by cases h) (fun _ => rfl)
theorem xPower_ret (x n : Int) (hx : Fit x) (h0 : 0 ≤ n) (h1 : n ≤ 9223372036854775807) (hf : Fit (x ^ n.toNat)) : PureFn Tryz.prog 220 [aX x, aN n] (aX (x ^ n.toNat)) := by
 refine PureFn.of_body Tryz.func220 rfl Tryz.ntmps220 rfl rfl ?_;have h := Power_ok x n hx h0 h1;rw [aR_fit hf] at h;(repeat' (first |refine qv ?_ |apply qn |apply qs |apply qr |refine qe ?_|fail));refine Fl.call rfl h rfl rfl rfl (LeL.refl _) ?_;(repeat' (first |refine qv ?_|fail));refine qc (ok_ret (x ^ n.toNat)) ?_;(repeat' (first |apply qn |refine qe ?_ |apply qt));exact RetOk.of rfl (AV.Le.refl _)
theorem xPower_thr (x n : Int) (hx : Fit x) (h0 : 0 ≤ n) (h1 : n ≤ 9223372036854775807) (hf : ¬ Fit (x ^ n.toNat)) : IoFn Tryz.prog 220 [aX x, aN n] [] (.thr (thrown 4)) [] := by
 refine IoFn.of_body Tryz.func220 rfl Tryz.ntmps220 rfl rfl rfl ?_;have h := Power_ok x n hx h0 h1;rw [aR_not hf] at h;(repeat' (first |refine qv ?_ |apply qn |apply qs |apply qr |refine qe ?_|fail));refine Fl.call rfl h rfl rfl rfl (LeL.refl _) ?_;(repeat' (first |refine qv ?_|fail));exact Fl.thrC rfl [] (ok_thr 0 4 (by omega)) rfl (LeL.refl _) rfl trivial rfl (fun h => by cases h) (fun _ => rfl)
end Go.Proofs.YtmmfloplhopioaaGreat
namespace Go.Proofs.YtmmfloplhopioaaGreat
open Go.AL
theorem Try1_quiet : DefOk Tryz.prog 204 34 .returning .returning 0 := by
 refine defOk_of (tab := tab) (x := .nilIface) (r := .tup []) Tryz.func204 rfl Tryz.ntmps204 rfl rfl rfl rfl rfl rfl rfl rfl rfl (fun c₀ cs h => .inr ⟨by simp [recoverD, h], rfl, rfl⟩) ?_;(repeat' (first |refine qv ?_ |apply qs |apply qr));refine Fl.neqN rfl rfl rfl rfl (fun w => run_neq_nil_nil w _ (by kernel_rfl)) ?_;(repeat' (first |apply qn |refine AWP.condF rfl ?_ |apply qk));exact ⟨⟨[], _, _, Ent.refl _ _ _, rfl, AV.Le.refl _, rfl, ⟨⟨⟨_, rfl, BLe.cells (LeL.refl _)⟩, rfl⟩, trivial⟩, rfl, rfl⟩⟩
theorem Try1_thrown (e : Int) : DefOk Tryz.prog 204 34 (.panicking (thrown e)) (.panicking [{ v := .iface 219 (.int .i64 e), recovered := true }]) e := by
 refine defOk_of (tab := tab) (x := .iface 219 (.int .i64 e)) (r := .tup []) Tryz.func204 rfl Tryz.ntmps204 rfl rfl rfl rfl rfl rfl rfl rfl rfl (fun c₀ cs h => .inl (by simp [recoverD, h, thrown])) ?_;(repeat' (first |refine qv ?_ |apply qs |apply qr));refine Fl.neqI rfl rfl rfl rfl (fun w => run_neq_held_nil w _ _ _ (by kernel_rfl)) ?_;(repeat' (first |refine qv ?_ |apply qn |apply qs |apply qr |refine AWP.condT rfl ?_));refine Fl.taI rfl rfl rfl rfl rfl rfl ?_;(repeat' (first |refine qv ?_ |apply qn |apply qs |apply qr |refine qe ?_ |refine AWP.condF rfl ?_ |apply qk));exact ⟨⟨[], _, _, Ent.refl _ _ _, rfl, AV.Le.refl _, rfl, ⟨⟨⟨_, rfl, BLe.cells (LeL.refl _)⟩, rfl⟩, trivial⟩, rfl, rfl⟩⟩
theorem Try_ret {cf : FuncId} {caps : List AV} {bxs bxs' : List (AL.Id × Bx)} {r : AV} (h : IoFn Tryz.prog cf caps bxs (.ret r) bxs') : IoFn Tryz.prog 178 [.fn cf caps] bxs (.ret (aN 0)) bxs' :=
 try_io (tab := tab) (res := .ret r) Tryz.func178 rfl Tryz.ntmps178 rfl ⟨_, Tryz.func204, rfl, rfl⟩ rfl ⟨rfl, rfl, rfl⟩ ⟨rfl, rfl, rfl⟩ ⟨rfl, rfl, rfl⟩ ⟨rfl, rfl, rfl⟩ ⟨rfl, rfl, rfl⟩ ⟨rfl, rfl, rfl⟩ rfl h ⟨rfl, Try1_quiet⟩
theorem Try_thr {cf : FuncId} {caps : List AV} {bxs bxs' : List (AL.Id × Bx)} {e : Int} (h : IoFn Tryz.prog cf caps bxs (.thr (thrown e)) bxs') : IoFn Tryz.prog 178 [.fn cf caps] bxs (.ret (aN e)) [] :=
 try_io (tab := tab) (res := .thr (thrown e)) Tryz.func178 rfl Tryz.ntmps178 rfl ⟨_, Tryz.func204, rfl, rfl⟩ rfl ⟨rfl, rfl, rfl⟩ ⟨rfl, rfl, rfl⟩ ⟨rfl, rfl, rfl⟩ ⟨rfl, rfl, rfl⟩ ⟨rfl, rfl, rfl⟩ ⟨rfl, rfl, rfl⟩ rfl h ⟨_, _, rfl, by simp, rfl, Try1_thrown e⟩
end Go.Proofs.YtmmfloplhopioaaGreat
/- Terms, polynomials, links, az the program holds them. -/
namespace Go.AL
structure TZ where
  c : Z
  e : List Int
def eT : TZ → List AV := fun t => [aB t.c.neg, aW t.c.w, aI t.e]
abbrev aT (t : TZ) : AV := .agg [aB t.c.neg, aW t.c.w, aI t.e]
structure PZ where
  vars : Int
  terms : List TZ
def eP : PZ → List AV := fun p => [aN p.vars, .sl 3 eT p.terms]
abbrev aP (p : PZ) : AV := .agg [aN p.vars, .sl 3 eT p.terms]
structure LZ where
  kind : Int
  vars : List Int
  polys : List PZ
def eL : LZ → List AV := fun l => [aN l.kind, aI l.vars, .sl 2 eP l.polys]
abbrev aL (l : LZ) : AV := .agg [aN l.kind, aI l.vars, .sl 2 eP l.polys]
structure SZ where
  vars : Int
  links : List LZ
abbrev aS (s : SZ) : AV := .agg [aN s.vars, .sl 3 eL s.links]
def sumL : List Int → Int
  | [] => 0
  | x :: l => x + sumL l
theorem sumL_append : ∀ l m : List Int, sumL (l ++ m) = sumL l + sumL m
 | [], m => by simp [sumL]
 | x :: l, m => by simp only [List.cons_append, sumL, sumL_append l m]; omega
theorem sumL_take_succ {l : List Int} {i : Nat} {x : Int} (h : l[i]? = some x) : sumL (l.take (i + 1)) = sumL (l.take i) + x := by
 rw [take_snoc h, sumL_append]; simp [sumL]
end Go.AL
namespace Go.AL
def EOk (l : List Int) : Prop := ∀ e ∈ l, 0 ≤ e ∧ e ≤ 120
theorem EOk.get {l : List Int} (h : EOk l) {i : Nat} {x : Int} (hx : l[i]? = some x) : 0 ≤ x ∧ x ≤ 120 := h x (List.mem_of_getElem? hx)
theorem sumL_bound : ∀ {l : List Int}, EOk l → 0 ≤ sumL l ∧ sumL l ≤ 120 * l.length
 | [], _ => by simp [sumL]
 | x :: l, h => by
  have h1 := sumL_bound (l := l) fun e he => h e (by simp [he]);have h2 := h x (by simp);simp only [sumL, List.length_cons];omega
theorem EOk.take {l : List Int} (h : EOk l) (n : Nat) : EOk (l.take n) := fun e he => h e (List.mem_of_mem_take he)
end Go.AL
namespace Go.Proofs.YtmmfloplhopioaaGreat
open Go.AL
theorem degree_ok (t : TZ) (he : EOk t.e) (hl : t.e.length ≤ 100000) : PureFn Tryz.prog 202 [aT t] (aN (sumL t.e)) := by
 refine PureFn.of_body Tryz.func202 rfl Tryz.ntmps202 rfl rfl ?_;(repeat' (first |refine qv ?_ |apply qn |apply qs |apply qr |refine qe ?_ |apply qb));refine AWP.loop (G := Nat) (fun i => i ≤ t.e.length) (fun i => St.of [] [(3, aN (sumL (t.e.take i))), (7, aI t.e), (8, aN t.e.length), (9, aN i)] []) (fun i => t.e.length - i) 0 (by omega) ?_ ?_
 ·refine Ent.of [] ?_ ?_ rfl rfl;(repeat' (first |exact True.intro |refine ⟨⟨AV.Le.refl _, rfl⟩, ?_⟩|fail))
 ·intro i h0;have hs := sumL_bound (he.take i);have hi := List.length_take (l := t.e) (i := i);(repeat' (first |refine qv ?_ |apply qn |apply qs |apply qr |(refine AWP.condD rfl ?_ ?_ <;> intro _ <;> try (exfalso; omega)) |apply qb |apply qk |apply qx |apply qt |(refine Fl.el rfl rfl rfl rfl rfl rfl rfl rfl (by omega) (by omega) ?_; intro _ _)|fail))
  ·rename_i hlt x hx;rw [Int.toNat_natCast] at hx;have hb := he.get hx;(repeat' (first |refine qv ?_ |apply qn |apply qr |refine qw ?_|fail));refine LoopEnd.of (i + 1) (by omega) (by omega) ?_;refine Ent.of [] ?_ ?_ rfl rfl;(repeat' (first |exact True.intro |refine ⟨⟨AV.Le.refl _, rfl⟩, ?_⟩ |refine ⟨⟨AV.Le.int ?_, rfl⟩, ?_⟩|fail));exact (sumL_take_succ hx).symm
  ·refine RetOk.of rfl (AV.Le.int ?_);rw [show i = t.e.length by omega, List.take_length]
end Go.Proofs.YtmmfloplhopioaaGreat
namespace Go.AL
def cmpL : List Int → List Int → Int
  | [], [] => 0
  | [], _ :: _ => -1
  | _ :: _, [] => 1
  | x :: a, y :: b => if cmpI x y = 0 then cmpL a b else cmpI x y
theorem cmpL_drop {a b : List Int} {i : Nat} {x y : Int} (hx : a[i]? = some x) (hy : b[i]? = some y) : cmpL (a.drop i) (b.drop i) = if cmpI x y = 0 then cmpL (a.drop (i + 1)) (b.drop (i + 1)) else cmpI x y := by
 have hi : i < a.length := (List.getElem?_eq_some_iff.1 hx).1;have hi2 : i < b.length := (List.getElem?_eq_some_iff.1 hy).1;rw [List.drop_eq_getElem_cons hi, List.drop_eq_getElem_cons hi2, (List.getElem?_eq_some_iff.1 hx).2, (List.getElem?_eq_some_iff.1 hy).2];simp only [cmpL]
theorem cmpL_long {a b : List Int} {i : Nat} (h1 : i < a.length) (h2 : b.length ≤ i) : cmpL (a.drop i) (b.drop i) = 1 := by
 rw [List.drop_eq_getElem_cons h1, List.drop_of_length_le h2]; rfl
theorem cmpL_short {a b : List Int} {i : Nat} (h1 : a.length ≤ i) (h2 : i < b.length) : cmpL (a.drop i) (b.drop i) = -1 := by
 rw [List.drop_eq_getElem_cons h2, List.drop_of_length_le h1]; rfl
theorem cmpL_end {a b : List Int} {i : Nat} (h1 : a.length ≤ i) (h2 : b.length ≤ i) : cmpL (a.drop i) (b.drop i) = 0 := by
 rw [List.drop_of_length_le h2, List.drop_of_length_le h1]; rfl
end Go.AL
namespace Go.Proofs.YtmmfloplhopioaaGreat
open Go.AL
theorem isNaN_ok (x : Int) : PureFn Tryz.prog 239 [aN x] (aB false) := by
 refine PureFn.of_body Tryz.func239 rfl Tryz.ntmps239 rfl rfl ?_;(repeat' (first |refine qv ?_ |apply qn |apply qs |apply qr |apply qt));refine RetOk.of rfl (AV.Le.bool ?_);simp
theorem cmpCompare_ok (x y : Int) : PureFn Tryz.prog 231 [aN x, aN y] (aN (cmpI x y)) := by
 refine PureFn.of_body Tryz.func231 rfl Tryz.ntmps231 rfl rfl ?_;(repeat' (first |refine qv ?_ |apply qn |apply qs |apply qr));refine qc (isNaN_ok x) ?_;(repeat' (first |refine qv ?_ |apply qn |apply qs |apply qr));refine qc (isNaN_ok y) ?_;(repeat' (first |refine qv ?_ |apply qn |apply qs |apply qr |refine AWP.condF rfl ?_ |(refine AWP.condD rfl ?_ ?_ <;> intro _ <;> try (exfalso; omega)) |apply qk |apply qt))
 ·refine RetOk.of rfl (AV.Le.int ?_);rw [cmpI_lt (by omega)]
 ·refine RetOk.of rfl (AV.Le.int ?_);rw [cmpI_gt (by omega)]
 ·refine RetOk.of rfl (AV.Le.int ?_);rw [cmpI_eq (by omega)]
theorem slicesCompare_ok (a b : List Int) (ha : a.length ≤ 100000) (hb : b.length ≤ 100000) : PureFn Tryz.prog 219 [aI a, aI b] (aN (cmpL a b)) := by
 refine PureFn.of_body Tryz.func219 rfl Tryz.ntmps219 rfl rfl ?_;(repeat' (first |refine qv ?_ |apply qn |apply qs |apply qr |apply qb));refine AWP.loop (G := Nat) (fun i => i ≤ a.length ∧ i ≤ b.length ∧ cmpL (a.drop i) (b.drop i) = cmpL a b) (fun i => St.of [] [(0, aI a), (1, aI b), (9, aI a), (10, aN a.length), (11, aN i)] []) (fun i => a.length - i) 0 ⟨by omega, by omega, rfl⟩ ?_ ?_
 ·refine Ent.of [] ?_ ?_ rfl rfl;(repeat' (first |exact True.intro |refine ⟨⟨AV.Le.refl _, rfl⟩, ?_⟩|fail))
 ·intro i ⟨h0, h1, h2⟩;(repeat' (first |refine qv ?_ |apply qn |apply qs |apply qr |(refine AWP.condD rfl ?_ ?_ <;> intro _ <;> try (exfalso; omega)) |apply qb |apply qk |apply qx |apply qt |(refine Fl.el rfl rfl rfl rfl rfl rfl rfl rfl (by omega) (by omega) ?_; intro _ _)|fail))
  ·refine RetOk.of rfl (AV.Le.int ?_);rw [← h2, cmpL_long (by omega) (by omega)]
  ·rename_i hi x hx hj y hy;rw [Int.toNat_natCast] at hx hy;have hd := cmpL_drop hx hy;refine qc (cmpCompare_ok x y) ?_;(repeat' (first |refine qv ?_ |apply qn |apply qs |apply qr |refine qw ?_ |(refine AWP.condN rfl ?_ ?_ <;> intro _ <;> try (exfalso; omega)) |apply qk |apply qt))
   ·rename_i hz;refine RetOk.of rfl (AV.Le.int ?_);rw [← h2, hd, if_neg hz]
   ·rename_i hz;rw [if_pos hz] at hd;refine LoopEnd.of (i + 1) ⟨by omega, by omega, by rw [← hd, h2]⟩ (by omega) ?_;refine Ent.of [] ?_ ?_ rfl rfl;(repeat' (first |exact True.intro |refine ⟨⟨AV.Le.refl _, rfl⟩, ?_⟩|fail))
  ·refine RetOk.of rfl (AV.Le.int ?_);rw [← h2, cmpL_short (by omega) (by omega)]
  ·refine RetOk.of rfl (AV.Le.int ?_);rw [← h2, cmpL_end (by omega) (by omega)]
end Go.Proofs.YtmmfloplhopioaaGreat
namespace Go.AL
def ordI (a b : List Int) : Int := if sumL b - sumL a = 0 then cmpL b a else sumL b - sumL a
end Go.AL
namespace Go.Proofs.YtmmfloplhopioaaGreat
open Go.AL
theorem order_ok (a b : TZ) (ha : EOk a.e) (hb : EOk b.e) (hal : a.e.length ≤ 100000) (hbl : b.e.length ≤ 100000) : PureFn Tryz.prog 203 [aT a, aT b] (aN (ordI a.e b.e)) := by
 refine PureFn.of_body Tryz.func203 rfl Tryz.ntmps203 rfl rfl ?_;have ba := sumL_bound ha;have bb := sumL_bound hb;(repeat' (first |refine qv ?_ |apply qn |apply qs |apply qr |refine qe ?_|fail));refine qc (degree_ok b hb hbl) ?_;(repeat' (first |refine qv ?_|fail));refine qc (degree_ok a ha hal) ?_;(repeat' (first |refine qv ?_ |apply qn |refine Fl.nil (fun _ => by kernel_rfl) ?_ |apply qs |apply qr |refine qw ?_ |(refine AWP.condN rfl ?_ ?_ <;> intro _ <;> try (exfalso; omega)) |apply qk |apply qt))
 ·rename_i hz;refine RetOk.of rfl (AV.Le.int ?_);unfold ordI; rw [if_neg hz]
 ·rename_i hz;refine qc (slicesCompare_ok b.e a.e hbl hal) ?_;(repeat' (first |refine qv ?_ |apply qn |apply qt));refine RetOk.of rfl (AV.Le.int ?_);unfold ordI; rw [if_pos hz]
end Go.Proofs.YtmmfloplhopioaaGreat
namespace Go.AL
structure OkT (vars : Int) (t : TZ) : Prop where
  coef : OkZ t.c
  nz : t.c.w.length ≠ 0
  len : (t.e.length : Int) = vars
  exps : EOk t.e
  deg : sumL t.e ≤ 120
structure OkP (p : PZ) : Prop where
  v0 : 0 ≤ p.vars
  v1 : p.vars ≤ 32
  len : p.terms.length ≤ 3000
  terms : ∀ t ∈ p.terms, OkT p.vars t
  ord : ∀ (i : Nat) (a b : TZ), p.terms[i]? = some a → p.terms[i + 1]? = some b → ordI a.e b.e < 0
def WT (t : TZ) : Prop := WOk t.c.w
def WP (p : PZ) : Prop := ∀ t ∈ p.terms, WT t
end Go.AL
namespace Go.Proofs.YtmmfloplhopioaaGreat
open Go.AL
theorem pValid_ok (p : PZ) (hw : WP p) (b : Bool) (hb : b = true ↔ OkP p) : PureFn Tryz.prog 176 [aP p] (aB b) := by
 refine PureFn.of_body Tryz.func176 rfl Tryz.ntmps176 rfl rfl ?_
 have hfalse : ¬ OkP p → false = b := fun h => by cases b with | false => rfl | true => exact absurd (hb.1 rfl) h
 (repeat' (first |refine qv ?_ |apply qn |apply qs |apply qr |refine qe ?_ |refine Fl.skip rfl rfl ?_ |refine AWP.condT rfl ?_ |(refine AWP.condD rfl ?_ ?_ <;> intro _ <;> try (exfalso; omega)) |apply qb |apply qk |apply qt |(refine Fl.splitD rfl rfl ?_ ?_ <;> intro _ <;> try (exfalso; omega))))
 ·rename_i h; exact RetOk.of rfl (AV.Le.bool (hfalse fun k => by have := k.v0; omega))
 ·rename_i h; exact RetOk.of rfl (AV.Le.bool (hfalse fun k => by have := k.v1; omega))
 ·rename_i h; exact RetOk.of rfl (AV.Le.bool (hfalse fun k => by have := k.len; omega))
 rename_i hv0 hv1 hlen;refine AWP.loop (G := Nat) (fun i => i ≤ p.terms.length ∧ (∀ t ∈ p.terms.take i, OkT p.vars t) ∧ ∀ (j : Nat) (a b : TZ), j + 1 < i → p.terms[j]? = some a → p.terms[j + 1]? = some b → ordI a.e b.e < 0)
  (fun i => St.of [] [(1, .ptr 1 0), (22, .sl 3 eT p.terms), (23, aN p.terms.length), (24, aN i)] [(1, .cells (eP p) 105)]) (fun i => p.terms.length - i) 0 ⟨by omega, by simp, fun j a b h => by omega⟩ ?_ ?_
 ·refine Ent.of [] ?_ ?_ rfl rfl;(repeat' (first |exact True.intro |refine ⟨⟨AV.Le.refl _, rfl⟩, ?_⟩ |refine ⟨⟨⟨_, rfl, BLe.cells (LeL.refl _)⟩, rfl⟩, ?_⟩|fail))
 ·intro i ⟨k0, k1, k2⟩;(repeat' (first |refine qv ?_ |apply qn |apply qs |apply qr |refine qe ?_ |(refine AWP.condD rfl ?_ ?_ <;> intro _ <;> try (exfalso; omega)) |apply qb |apply qk |apply qx |apply qt |(refine Fl.el rfl rfl rfl rfl rfl rfl rfl rfl (by omega) (by omega) ?_; intro _ _)|fail))
  ·rename_i hi t ht;rw [Int.toNat_natCast] at ht;have htm := List.mem_of_getElem? ht;have hall : ¬ OkT p.vars t → ¬ OkP p := fun h k => h (k.terms t htm);refine qc (Valid_ok t.c (hw t htm)) ?_;(repeat' (first |refine qv ?_ |apply qn |apply qs |apply qr |refine Fl.skip rfl rfl ?_ |refine AWP.condT rfl ?_ |apply qt |(refine Fl.splitN rfl rfl ?_ ?_ <;> intro _ <;> try (exfalso; omega))))
   ·rename_i h; exact RetOk.of rfl (AV.Le.bool (hfalse (hall fun k => h k.coef)))
   refine qc (Zero_ok t.c) ?_;(repeat' (first |refine qv ?_ |apply qn |apply qs |apply qr |refine Fl.skip rfl rfl ?_ |refine AWP.condT rfl ?_ |(refine AWP.condN rfl ?_ ?_ <;> intro _ <;> try (exfalso; omega)) |apply qb |apply qk |apply qt |(refine Fl.splitD rfl rfl ?_ ?_ <;> intro _ <;> try (exfalso; omega))))
   ·rename_i h; exact RetOk.of rfl (AV.Le.bool (hfalse (hall fun k => k.nz h)))
   ·rename_i h; exact RetOk.of rfl (AV.Le.bool (hfalse (hall fun k => h k.len)))
   rename_i hc hz hl;refine AWP.loop (G := Nat) (fun j => j ≤ t.e.length ∧ EOk (t.e.take j))
    (fun j => St.of [] [(1, .ptr 1 0), (3, aN i), (4, .ptr 4 0), (22, .sl 3 eT p.terms), (23, aN p.terms.length), (24, aN i), (47, aI t.e), (48, aN t.e.length), (49, aN j)] [(1, .cells (eP p) 105), (4, .cells (eT t) 158)]) (fun j => t.e.length - j) 0 ⟨by omega, fun e he => by simp at he⟩ ?_ ?_
   ·refine Ent.of [] ?_ ?_ rfl rfl;(repeat' (first |exact True.intro |refine ⟨⟨AV.Le.refl _, rfl⟩, ?_⟩ |refine ⟨⟨⟨_, rfl, BLe.cells (LeL.refl _)⟩, rfl⟩, ?_⟩|fail))
   ·intro j ⟨m0, m1⟩;(repeat' (first |refine qv ?_ |apply qn |apply qs |apply qr |refine qw ?_ |refine Fl.skip rfl rfl ?_ |refine AWP.condT rfl ?_ |(refine AWP.condD rfl ?_ ?_ <;> intro _ <;> try (exfalso; omega)) |apply qb |apply qk |apply qx |apply qt |(refine Fl.el rfl rfl rfl rfl rfl rfl rfl rfl (by omega) (by omega) ?_; intro _ _) |(refine Fl.splitD rfl rfl ?_ ?_ <;> intro _ <;> try (exfalso; omega))))
    ·rename_i hj e he h0;rw [Int.toNat_natCast] at he;exact RetOk.of rfl (AV.Le.bool (hfalse (hall fun k => by have := k.exps.get he; omega)))
    ·rename_i hj e he h0 h1;rw [Int.toNat_natCast] at he;exact RetOk.of rfl (AV.Le.bool (hfalse (hall fun k => by have := k.exps.get he; omega)))
    ·rename_i hj e he h0 h1;rw [Int.toNat_natCast] at he;refine LoopEnd.of (j + 1) ⟨by omega, ?_⟩ (by omega) ?_
     ·rw [take_snoc he];intro x hx;rcases List.mem_append.1 hx with hx | hx
      ·exact m1 x hx
      ·simp only [List.mem_singleton] at hx; subst hx; omega
     ·refine Ent.of [] ?_ ?_ rfl rfl;(repeat' (first |exact True.intro |refine ⟨⟨AV.Le.refl _, rfl⟩, ?_⟩ |refine ⟨⟨⟨_, rfl, BLe.cells (LeL.refl _)⟩, rfl⟩, ?_⟩|fail))
    ·rename_i hj
     have m2 : EOk t.e := by rwa [show j = t.e.length by omega, List.take_length] at m1
     have hb2 := sumL_bound m2;refine qc (degree_ok t m2 (by omega)) ?_;(repeat' (first |refine qv ?_ |apply qn |refine Fl.nil (fun _ => by kernel_rfl) ?_ |apply qs |apply qr |refine qw ?_ |refine Fl.skip rfl rfl ?_ |refine AWP.condT rfl ?_ |refine AWP.condF rfl ?_ |apply qk |apply qt |(refine Fl.el rfl rfl rfl rfl rfl rfl rfl rfl (by omega) (by omega) ?_; intro _ _) |(refine Fl.splitD rfl rfl ?_ ?_ <;> intro _ <;> try (exfalso; omega))))
     ·rename_i h; exact RetOk.of rfl (AV.Le.bool (hfalse (hall fun k => by have := k.deg; omega)))
     ·rename_i hd hi0 a ha
      have ha : p.terms[i - 1]? = some a := by rwa [show ((i : Int) - 1).toNat = i - 1 by omega] at ha
      have hoa := k1 a (List.mem_of_getElem? (i := i - 1) (by rw [List.getElem?_take_of_lt (by omega)]; exact ha));refine qc (order_ok a t hoa.exps m2 (by have := hoa.len; omega) (by omega)) ?_;(repeat' (first |refine qv ?_ |apply qn |refine Fl.nil (fun _ => by kernel_rfl) ?_ |apply qs |apply qr |refine qw ?_ |(refine AWP.condD rfl ?_ ?_ <;> intro _ <;> try (exfalso; omega)) |apply qk |apply qt))
      ·rename_i ho;refine RetOk.of rfl (AV.Le.bool (hfalse fun k => ?_));have := k.ord (i - 1) a t ha (by rwa [show i - 1 + 1 = i by omega]);omega
      ·rename_i ho;refine LoopEnd.of (i + 1) ⟨by omega, all_take_succ ht k1 ⟨hc, hz, hl, m2, by omega⟩, fun j a' b' hj h1 h2 => ?_⟩ (by omega) ?_
       ·by_cases hji : j + 1 < i
        ·exact k2 j a' b' hji h1 h2
        ·have hj' : j = i - 1 := by omega
         subst hj';rw [ha] at h1; cases h1;rw [show i - 1 + 1 = i by omega, ht] at h2; cases h2;omega
       ·refine Ent.of [] ?_ ?_ rfl rfl;(repeat' (first |exact True.intro |refine ⟨⟨AV.Le.refl _, rfl⟩, ?_⟩ |refine ⟨⟨⟨_, rfl, BLe.cells (LeL.refl _)⟩, rfl⟩, ?_⟩|fail))
     ·rename_i hd hi0;refine LoopEnd.of (i + 1) ⟨by omega, all_take_succ ht k1 ⟨hc, hz, hl, m2, by omega⟩, fun j a' b' hj h1 h2 => by omega⟩ (by omega) ?_;refine Ent.of [] ?_ ?_ rfl rfl;(repeat' (first |exact True.intro |refine ⟨⟨AV.Le.refl _, rfl⟩, ?_⟩ |refine ⟨⟨⟨_, rfl, BLe.cells (LeL.refl _)⟩, rfl⟩, ?_⟩|fail))
  ·rename_i hi;refine RetOk.of rfl (AV.Le.bool (Eq.symm (hb.2 ⟨by omega, by omega, by omega, fun t ht => k1 t ?_, fun j a b ha hb => k2 j a b ?_ ha hb⟩)))
   ·rwa [show i = p.terms.length by omega, List.take_length]
   ·have := (List.getElem?_eq_some_iff.1 hb).1;omega
end Go.Proofs.YtmmfloplhopioaaGreat
namespace Go.AL
def prodE : List Int → List Int → Int
  | x :: X, e :: E => x ^ e.toNat * prodE X E
  | _, _ => 1
def tv (X : List Int) (t : TZ) : Int := zval t.c * prodE X t.e
theorem prodE_snoc : ∀ {X E : List Int} {i : Nat} {x e : Int}, X[i]? = some x → E[i]? = some e → prodE (X.take (i + 1)) (E.take (i + 1)) = prodE (X.take i) (E.take i) * x ^ e.toNat
 | [], _, _, _, _, h, _ => by simp at h
 | _ :: _, [], _, _, _, _, h => by simp at h
 | y :: X, d :: E, 0, x, e, h1, h2 => by
  simp at h1 h2; subst h1 h2; simp [prodE]
 | y :: X, d :: E, i + 1, x, e, h1, h2 => by
  simp only [List.take_succ_cons, prodE];rw [prodE_snoc (X := X) (E := E) (i := i) (by simpa using h1) (by simpa using h2), Int.mul_assoc]
theorem prodE_zero : ∀ {X E : List Int} {i : Nat} {e : Int}, X[i]? = some 0 → E[i]? = some e → 0 < e → prodE X E = 0
 | [], _, _, _, h, _, _ => by simp at h
 | _ :: _, [], _, _, _, h, _ => by simp at h
 | y :: X, d :: E, 0, e, h1, h2, h0 => by
  simp at h1 h2; subst h1 h2;simp only [prodE];rw [Int.zero_pow (by omega)]; simp
 | y :: X, d :: E, i + 1, e, h1, h2, h0 => by
  simp only [prodE];rw [prodE_zero (X := X) (E := E) (i := i) (by simpa using h1) (by simpa using h2) h0]; simp
theorem natAbs_mul_ge {a b : Int} (hb : b ≠ 0) : a.natAbs ≤ (a * b).natAbs := by
 rw [Int.natAbs_mul];exact Nat.le_mul_of_pos_right _ (by omega)
theorem Fit.le {a b : Int} (h : Fit b) (hl : a.natAbs ≤ b.natAbs) : Fit a := Fit.mk (by have := h.lt; omega)
def NoZ (X E : List Int) : Prop := ∀ (i : Nat) (x e : Int), X[i]? = some x → E[i]? = some e → 0 < e → x ≠ 0
theorem NoZ.tail {x e : Int} {X E : List Int} (h : NoZ (x :: X) (e :: E)) : NoZ X E := fun i a b h1 h2 => h (i + 1) a b (by simpa using h1) (by simpa using h2)
theorem pow_ne {x e : Int} (h : 0 < e → x ≠ 0) : x ^ e.toNat ≠ 0 := by
 by_cases he : 0 < e
 ·exact Int.pow_ne_zero (h he)
 ·rw [show e.toNat = 0 by omega]; simp
theorem prodE_ne : ∀ {X E : List Int}, NoZ X E → prodE X E ≠ 0
 | [], _, _ => by simp [prodE]
 | _ :: _, [], _ => by simp [prodE]
 | x :: X, e :: E, h => by
  simp only [prodE];exact Int.mul_ne_zero (pow_ne fun he => h 0 x e (by simp) (by simp) he) (prodE_ne h.tail)
theorem prodE_take_le : ∀ {X E : List Int} (i : Nat), NoZ X E → (prodE (X.take i) (E.take i)).natAbs ≤ (prodE X E).natAbs
 | [], _, i, _ => by simp [prodE]
 | _ :: _, [], i, _ => by simp [prodE]
 | x :: X, e :: E, 0, h => by
  have := prodE_ne h;simp only [List.take_zero];have : (prodE [] []).natAbs = 1 := rfl;omega
 | x :: X, e :: E, i + 1, h => by
  simp only [List.take_succ_cons, prodE];rw [Int.natAbs_mul, Int.natAbs_mul];exact Nat.mul_le_mul_left _ (prodE_take_le i h.tail)
end Go.AL
namespace Go.Proofs.YtmmfloplhopioaaGreat
open Go.AL
theorem ZeroX_ok (x : Int) : PureFn Tryz.prog 201 [aX x] (aB (decide (x = 0))) := by
 have h := Zero_ok (zOf x)
 have e : decide ((zOf x).w.length = 0) = decide (x = 0) := by
  rw [decide_eq_decide];show (toW x.natAbs).length = 0 ↔ x = 0;have := toW_nil_iff (z := x.natAbs) (by omega);rw [List.length_eq_zero_iff, this]; omega
 rwa [e] at h
end Go.Proofs.YtmmfloplhopioaaGreat
namespace Go.AL
theorem NoZ.snoc {X E : List Int} {i : Nat} {x e : Int} (h : NoZ (X.take i) (E.take i)) (hx : X[i]? = some x) (he : E[i]? = some e) (h0 : 0 < e → x ≠ 0) : NoZ (X.take (i + 1)) (E.take (i + 1)) := by
 intro j a b h1 h2 h3
 have hj : j < i + 1 := by
  have := (List.getElem?_eq_some_iff.1 h1).1;rw [List.length_take] at this; omega
 rw [List.getElem?_take_of_lt hj] at h1 h2;by_cases hji : j = i
 ·subst hji;rw [hx] at h1; rw [he] at h2; cases h1; cases h2; exact h0 h3
 ·exact h j a b (by rw [List.getElem?_take_of_lt (by omega)]; exact h1) (by rw [List.getElem?_take_of_lt (by omega)]; exact h2) h3
theorem of_take {α : Type} {l : List α} {n i : Nat} {x : α} (h : (l.take n)[i]? = some x) : l[i]? = some x := by
 rw [List.getElem?_take] at h;split at h
 ·exact h
 ·cases h
theorem leZ {z : Z} {x : Int} {σ : List (Id × Id)} (h : z = zOf x) : LeL (eZ z) (renL (renI σ) (eX x)) := by subst h; exact LeL.refl _
theorem leX {x y : Int} {σ : List (Id × Id)} (h : x = y) : LeL (eX x) (renL (renI σ) (eX y)) := by subst h; exact LeL.refl _
end Go.AL
namespace Go.Proofs.YtmmfloplhopioaaGreat
open Go.AL
set_option maxHeartbeats 1000000 in
theorem term_io (t : TZ) (X : List Int) (hw : WT t) (hc : OkZ t.c) (hnz : t.c.w.length ≠ 0) (he : EOk t.e) (hl : t.e.length = X.length) (hll : t.e.length ≤ 100000) (hX : ∀ x ∈ X, Fit x) (res : Res) (hr1 : Fit (tv X t) → res = .ret (aX (tv X t))) (hr2 : ¬ Fit (tv X t) → res = .thr (thrown 4)) :
  IoFn Tryz.prog 205 [aT t, .sl 2 eX X] [] res [] := by
 refine IoFn.of_body Tryz.func205 rfl Tryz.ntmps205 rfl rfl rfl ?_;obtain ⟨hz, hf⟩ := okZ_eq hw hc;(repeat' (first |refine qv ?_ |apply qn |apply qs |apply qr |refine qe ?_ |apply qb));refine AWP.loop (G := Nat) (fun i => i ≤ t.e.length ∧ NoZ (X.take i) (t.e.take i)) (fun i => St.of [] [(1, .sl 2 eX X), (2, .ptr 2 0), (4, .ptr 4 0), (11, aI t.e), (12, aN t.e.length), (13, aN i)] [(2, .cells (eT t) 158), (4, .cells [aB false, .v (.slice none 0 0)] 48)]) (fun i => t.e.length - i) 0 ⟨by omega, fun i x e h => by simp at h⟩ ?_ ?_
 ·refine Ent.of [] ?_ ?_ rfl rfl;(repeat' (first |exact True.intro |refine ⟨⟨AV.Le.refl _, rfl⟩, ?_⟩ |refine ⟨⟨⟨_, rfl, BLe.cells (LeL.refl _)⟩, rfl⟩, ?_⟩|fail))
 ·intro i ⟨k0, k1⟩;(repeat' (first |refine qv ?_ |apply qn |apply qs |apply qr |refine qw ?_ |refine qe ?_ |refine Fl.skip rfl rfl ?_ |refine AWP.condF rfl ?_ |(refine AWP.condD rfl ?_ ?_ <;> intro _ <;> try (exfalso; omega)) |apply qb |apply qk |apply qx |(refine Fl.el rfl rfl rfl rfl rfl rfl rfl rfl (by omega) (by omega) ?_; intro _ _) |(refine Fl.splitD rfl rfl ?_ ?_ <;> intro _ <;> try (exfalso; omega))))
  ·rename_i hi e hei h0 x hx;rw [Int.toNat_natCast] at hei hx;refine qc (ZeroX_ok x) ?_;(repeat' (first |refine qv ?_ |apply qn |apply qs |apply qr |refine qw ?_ |refine qe ?_ |(refine AWP.condD rfl ?_ ?_ <;> intro _ <;> try (exfalso; omega)) |apply qk |apply qt))
   ·rename_i hx0;subst hx0
    have hv : tv X t = 0 := by unfold tv; rw [prodE_zero hx hei h0]; simp
    have e1 := hr1 (by rw [hv]; exact Fit.zero);subst e1;rw [hv];exact ⟨⟨[], _, _, Ent.refl _ _ _, rfl, aX_zero, rfl, trivial, rfl, rfl⟩⟩
   ·rename_i hx0;refine LoopEnd.of (i + 1) ⟨by omega, k1.snoc hx hei fun _ => hx0⟩ (by omega) ?_;refine Ent.of [] ?_ ?_ rfl rfl;(repeat' (first |exact True.intro |refine ⟨⟨AV.Le.refl _, rfl⟩, ?_⟩ |refine ⟨⟨⟨_, rfl, BLe.cells (LeL.refl _)⟩, rfl⟩, ?_⟩|fail))
  ·rename_i hi e hei h0;rw [Int.toNat_natCast] at hei;refine LoopEnd.of (i + 1) ⟨by omega, ?_⟩ (by omega) ?_
   ·exact k1.snoc (x := X[i]'(by omega)) (List.getElem?_eq_getElem _) hei fun h => by omega
   ·refine Ent.of [] ?_ ?_ rfl rfl;(repeat' (first |exact True.intro |refine ⟨⟨AV.Le.refl _, rfl⟩, ?_⟩ |refine ⟨⟨⟨_, rfl, BLe.cells (LeL.refl _)⟩, rfl⟩, ?_⟩|fail))
  ·rename_i hi
   have hnz1 : NoZ X t.e := by
    have h1 : X.take i = X := List.take_of_length_le (by omega);have h2 : t.e.take i = t.e := List.take_of_length_le (by omega);rwa [h1, h2] at k1
   clear hi k1 k0
   have hcv : zval t.c ≠ 0 := fun h => by
    rw [h] at hz;exact hnz (by rw [hz]; show (toW ((0 : Int).natAbs)).length = 0; rw [show (((0 : Int).natAbs : Nat) : Int) = 0 from rfl, toW_zero]; rfl)
   refine AWP.loop (G := Nat) (fun i => i ≤ t.e.length ∧ Fit (zval t.c * prodE (X.take i) (t.e.take i))) (fun i => St.of [] [(1, .sl 2 eX X), (2, .ptr 2 0), (4, .ptr 4 0), (7, .ptr 7 0), (32, aI t.e), (33, aN t.e.length), (34, aN i)] [(2, .cells (eT t) 158), (4, .cells [aB false, .v (.slice none 0 0)] 48), (7, .cells (eX (zval t.c * prodE (X.take i) (t.e.take i))) 48)]) (fun i => t.e.length - i) 0 ⟨by omega, by simpa [prodE] using hf⟩ ?_ ?_
   ·refine Ent.of [] ?_ ?_ rfl rfl;(repeat' (first |exact True.intro |refine ⟨⟨AV.Le.refl _, rfl⟩, ?_⟩ |refine ⟨⟨⟨_, rfl, BLe.cells (LeL.refl _)⟩, rfl⟩, ?_⟩ |refine ⟨⟨⟨_, rfl, BLe.cells ?_⟩, rfl⟩, ?_⟩|fail));exact leZ (by simp only [List.take_zero, prodE, Int.mul_one]; exact hz)
   ·clear i; intro i ⟨k0, k1⟩;(repeat' (first |refine qv ?_ |apply qn |apply qs |apply qr |refine qw ?_ |refine qe ?_ |(refine AWP.condD rfl ?_ ?_ <;> intro _ <;> try (exfalso; omega)) |apply qb |apply qk |apply qx |apply qt |(refine Fl.el rfl rfl rfl rfl rfl rfl rfl rfl (by omega) (by omega) ?_; intro _ _)|fail))
    ·rename_i hi e hei h0 x hx;rw [Int.toNat_natCast] at hei hx;have hstep := prodE_snoc hx hei;have hxf := hX x (List.mem_of_getElem? hx);have hne : prodE (X.take i) (t.e.take i) ≠ 0 := prodE_ne fun j a b h1 h2 => hnz1 j a b (of_take h1) (of_take h2);have hpw : x ^ e.toNat ≠ 0 := pow_ne fun h => hnz1 i x e hx hei h;have hle := prodE_take_le (i + 1) hnz1
     have hab : zval t.c * prodE (X.take i) (t.e.take i) * x ^ e.toNat = zval t.c * prodE (X.take (i + 1)) (t.e.take (i + 1)) := by rw [hstep, Int.mul_assoc]
     have hfin : Fit (tv X t) → Fit (zval t.c * prodE (X.take (i + 1)) (t.e.take (i + 1))) := fun h => h.le (by unfold tv; rw [Int.natAbs_mul, Int.natAbs_mul]; exact Nat.mul_le_mul_left _ hle);by_cases hp : Fit (x ^ e.toNat)
     ·by_cases hm : Fit (zval t.c * prodE (X.take i) (t.e.take i) * x ^ e.toNat)
      ·refine qc (xPower_ret x e hxf (by omega) (by have := he.get hei; omega) hp) ?_;skip;refine qc (xMul_ret _ _ k1 hp hm) ?_;(repeat' (first |refine qv ?_ |apply qn |refine Fl.nil (fun _ => by kernel_rfl) ?_ |apply qr |refine qw ?_ |refine qe ?_|fail));refine LoopEnd.of (i + 1) ⟨by omega, by rw [← hab]; exact hm⟩ (by omega) ?_;refine Ent.of [] ?_ ?_ rfl rfl;(repeat' (first |exact True.intro |refine ⟨⟨AV.Le.refl _, rfl⟩, ?_⟩ |refine ⟨⟨⟨_, rfl, BLe.cells (LeL.refl _)⟩, rfl⟩, ?_⟩ |refine ⟨⟨⟨_, rfl, BLe.cells ?_⟩, rfl⟩, ?_⟩|fail));exact leX hab
      ·have e1 := hr2 fun h => hm (by rw [hab]; exact hfin h);subst e1;refine qc (xPower_ret x e hxf (by omega) (by have := he.get hei; omega) hp) ?_;skip;exact Fl.thrC rfl [] (xMul_thr _ _ k1 hp hm) rfl (LeL.refl _) rfl trivial rfl (fun _ => by kernel_rfl) (fun _ => rfl)
     ·have e1 := hr2 fun h => hp ((hfin h).le (by rw [← hab, Int.mul_comm]; exact natAbs_mul_ge (Int.mul_ne_zero hcv hne)));subst e1;exact Fl.thrC rfl [] (xPower_thr x e hxf (by omega) (by have := he.get hei; omega) hp) rfl (LeL.refl _) rfl trivial rfl (fun _ => by kernel_rfl) (fun _ => rfl)
    ·rename_i hi e hei h0;rw [Int.toNat_natCast] at hei;have hx : X[i]? = some (X[i]'(by omega)) := List.getElem?_eq_getElem _
     have hab : zval t.c * prodE (X.take i) (t.e.take i) = zval t.c * prodE (X.take (i + 1)) (t.e.take (i + 1)) := by rw [prodE_snoc hx hei, show e.toNat = 0 by omega]; simp
     refine LoopEnd.of (i + 1) ⟨by omega, by rw [← hab]; exact k1⟩ (by omega) ?_;refine Ent.of [] ?_ ?_ rfl rfl;(repeat' (first |exact True.intro |refine ⟨⟨AV.Le.refl _, rfl⟩, ?_⟩ |refine ⟨⟨⟨_, rfl, BLe.cells (LeL.refl _)⟩, rfl⟩, ?_⟩ |refine ⟨⟨⟨_, rfl, BLe.cells ?_⟩, rfl⟩, ?_⟩|fail));exact leX hab
    ·rename_i hi
     have hab : zval t.c * prodE (X.take i) (t.e.take i) = tv X t := by
      have h1 : X.take i = X := List.take_of_length_le (by omega);have h2 : t.e.take i = t.e := List.take_of_length_le (by omega);rw [h1, h2]; rfl
     rw [hab] at k1;have e1 := hr1 k1;subst e1;exact ⟨⟨[], _, _, Ent.refl _ _ _, rfl, AV.Le.agg (leX hab), rfl, trivial, rfl, rfl⟩⟩
end Go.Proofs.YtmmfloplhopioaaGreat
namespace Go.AL
theorem sumL_nonneg : ∀ {l : List Int}, (∀ x ∈ l, 0 ≤ x) → 0 ≤ sumL l
 | [], _ => by simp [sumL]
 | x :: l, h => by have := sumL_nonneg (l := l) fun y hy => h y (by simp [hy]); have := h x (by simp); simp only [sumL]; omega
theorem sumL_nonpos : ∀ {l : List Int}, (∀ x ∈ l, x ≤ 0) → sumL l ≤ 0
 | [], _ => by simp [sumL]
 | x :: l, h => by have := sumL_nonpos (l := l) fun y hy => h y (by simp [hy]); have := h x (by simp); simp only [sumL]; omega
theorem sumL_take_add (l : List Int) (i : Nat) : sumL l = sumL (l.take i) + sumL (l.drop i) := by rw [← sumL_append, List.take_append_drop]
theorem sumL_take_le {l : List Int} (h : ∀ x ∈ l, 0 ≤ x) (i : Nat) : 0 ≤ sumL (l.take i) ∧ sumL (l.take i) ≤ sumL l := by
 have h1 := sumL_nonneg (l := l.take i) fun x hx => h x (List.mem_of_mem_take hx);have h2 := sumL_nonneg (l := l.drop i) fun x hx => h x (List.mem_of_mem_drop hx);have := sumL_take_add l i;omega
theorem sumL_take_ge {l : List Int} (h : ∀ x ∈ l, x ≤ 0) (i : Nat) : sumL (l.take i) ≤ 0 ∧ sumL l ≤ sumL (l.take i) := by
 have h1 := sumL_nonpos (l := l.take i) fun x hx => h x (List.mem_of_mem_take hx);have h2 := sumL_nonpos (l := l.drop i) fun x hx => h x (List.mem_of_mem_drop hx);have := sumL_take_add l i;omega
def plI (v : Int) : Int := if v < 0 then 0 else v
def opI (v : Int) : Int := if v < 0 then v else 0
def PS (X : List Int) (l : List TZ) : Int := sumL (l.map fun t => plI (tv X t))
def OS (X : List Int) (l : List TZ) : Int := sumL (l.map fun t => opI (tv X t))
def pv (X : List Int) (p : PZ) : Int := PS X p.terms + OS X p.terms
def EvOk (X : List Int) (p : PZ) : Prop := Fit (PS X p.terms) ∧ Fit (OS X p.terms)
theorem pl_nonneg (X : List Int) (l : List TZ) : ∀ x ∈ l.map (fun t => plI (tv X t)), 0 ≤ x := fun x hx => by
 obtain ⟨t, _, rfl⟩ := List.mem_map.1 hx;show 0 ≤ plI (tv X t);unfold plI; split <;> omega
theorem op_nonpos (X : List Int) (l : List TZ) : ∀ x ∈ l.map (fun t => opI (tv X t)), x ≤ 0 := fun x hx => by
 obtain ⟨t, _, rfl⟩ := List.mem_map.1 hx;show opI (tv X t) ≤ 0;unfold opI; split <;> omega
theorem PS_take (X : List Int) (l : List TZ) (i : Nat) : 0 ≤ PS X (l.take i) ∧ PS X (l.take i) ≤ PS X l := by
 unfold PS; rw [List.map_take]; exact sumL_take_le (pl_nonneg X l) i
theorem OS_take (X : List Int) (l : List TZ) (i : Nat) : OS X (l.take i) ≤ 0 ∧ OS X l ≤ OS X (l.take i) := by
 unfold OS; rw [List.map_take]; exact sumL_take_ge (op_nonpos X l) i
theorem PS_succ {X : List Int} {l : List TZ} {i : Nat} {t : TZ} (h : l[i]? = some t) : PS X (l.take (i + 1)) = PS X (l.take i) + plI (tv X t) := by
 unfold PS; rw [List.map_take, List.map_take]; exact sumL_take_succ (by rw [List.getElem?_map, h]; rfl)
theorem OS_succ {X : List Int} {l : List TZ} {i : Nat} {t : TZ} (h : l[i]? = some t) : OS X (l.take (i + 1)) = OS X (l.take i) + opI (tv X t) := by
 unfold OS; rw [List.map_take, List.map_take]; exact sumL_take_succ (by rw [List.getElem?_map, h]; rfl)
theorem fit_sum {a b : Int} (ha : Fit a) (hb : Fit b) (h0 : 0 ≤ a) (h1 : b ≤ 0) : Fit (a + b) := by
 by_cases h : 0 ≤ a + b
 ·exact ha.le (by omega)
 ·exact hb.le (by omega)
theorem leX_zero {x : Int} {σ : List (Id × Id)} (h : x = 0) : LeL [aB false, .v (.slice none 0 0)] (renL (renI σ) (eX x)) := by
 subst h;exact LeL.cons (AV.Le.bool rfl) (LeL.cons (by show (AV.v (.slice none 0 0)).Le (aW (toW ((0 : Int).natAbs))); rw [show ((Int.natAbs 0 : Nat) : Int) = 0 from rfl, toW_zero]; exact AV.Le.nil 1 eW) LeL.nil)
theorem plI_neg {v : Int} (h : v < 0) : plI v = 0 := if_pos h
theorem plI_pos {v : Int} (h : ¬ v < 0) : plI v = v := if_neg h
theorem opI_neg {v : Int} (h : v < 0) : opI v = v := if_pos h
theorem opI_pos {v : Int} (h : ¬ v < 0) : opI v = 0 := if_neg h
end Go.AL
namespace Go.Proofs.YtmmfloplhopioaaGreat
open Go.AL
theorem Value_io (p : PZ) (X : List Int) (hw : WP p) (hp : OkP p) (hl : (X.length : Int) = p.vars) (hX : ∀ x ∈ X, Fit x) (res : Res) (hr1 : EvOk X p → res = .ret (aX (pv X p))) (hr2 : ¬ EvOk X p → res = .thr (thrown 4)) :
  IoFn Tryz.prog 180 [aP p, .sl 2 eX X] [] res [] := by
 refine IoFn.of_body Tryz.func180 rfl Tryz.ntmps180 rfl rfl rfl ?_;have hv0 := hp.v0;have hv1 := hp.v1;have hlen := hp.len;(repeat' (first |refine qv ?_ |apply qn |apply qs |apply qr |refine qe ?_ |apply qb));refine AWP.loop (G := Nat) (fun i => i ≤ p.terms.length ∧ Fit (PS X (p.terms.take i)) ∧ Fit (OS X (p.terms.take i))) (fun i => St.of [] [(1, .sl 2 eX X), (4, .ptr 4 0), (5, .ptr 5 0), (6, .ptr 6 0), (11, .sl 3 eT p.terms), (12, aN p.terms.length), (13, aN i)] [(4, .cells [aB false, .v (.slice none 0 0)] 48), (5, .cells (eX (PS X (p.terms.take i))) 48), (6, .cells (eX (OS X (p.terms.take i))) 48)]) (fun i => p.terms.length - i) 0 ⟨by omega, by simp [PS, sumL, Fit.zero], by simp [OS, sumL, Fit.zero]⟩ ?_ ?_
 ·refine Ent.of [] ?_ ?_ rfl rfl;(repeat' (first |exact True.intro |refine ⟨⟨AV.Le.refl _, rfl⟩, ?_⟩ |refine ⟨⟨⟨_, rfl, BLe.cells (LeL.refl _)⟩, rfl⟩, ?_⟩ |refine ⟨⟨⟨_, rfl, BLe.cells ?_⟩, rfl⟩, ?_⟩|fail))
  ·exact leX_zero (by simp [PS, sumL])
  ·exact leX_zero (by simp [OS, sumL])
 ·intro i ⟨k0, k1, k2⟩;have bp := PS_take X p.terms;have bo := OS_take X p.terms;(repeat' (first |refine qv ?_ |apply qn |apply qs |apply qr |refine qe ?_ |(refine AWP.condD rfl ?_ ?_ <;> intro _ <;> try (exfalso; omega)) |apply qb |apply qk |apply qx |(refine Fl.el rfl rfl rfl rfl rfl rfl rfl rfl (by omega) (by omega) ?_; intro _ _)|fail))
  ·rename_i hi t ht;rw [Int.toNat_natCast] at ht;have hot := hp.terms t (List.mem_of_getElem? ht);have hwt := hw t (List.mem_of_getElem? ht);have sp := PS_succ (X := X) ht;have so := OS_succ (X := X) ht;have hterm := fun res hr1 hr2 => term_io t X hwt hot.coef hot.nz hot.exps (by have := hot.len; omega) (by have := hot.len; omega) hX res hr1 hr2;have b1 := bp (i + 1);have b2 := bo (i + 1);have b3 := bp i;have b4 := bo i;by_cases hf : Fit (tv X t)
   ·have hcall := (hterm _ (fun _ => rfl) (fun h => absurd hf h)).toPure rfl;refine qc (hcall) ?_;(repeat' (first |refine qv ?_ |apply qn |apply qs |apply qr |refine qe ?_ |(refine AWP.condD rfl ?_ ?_ <;> intro _ <;> try (exfalso; omega))))
    ·rename_i hneg;rw [plI_neg hneg] at sp;rw [opI_neg hneg] at so;by_cases hs : Fit (OS X (p.terms.take (i + 1)))
     ·rw [so] at hs;refine qc (xAdd_ret _ _ k2 hf hs) ?_;(repeat' (first |refine qv ?_ |apply qn |apply qr |refine qw ?_ |refine qe ?_|fail));refine LoopEnd.of (i + 1) ⟨by omega, by rw [sp, Int.add_zero]; exact k1, by rw [so]; exact hs⟩ (by omega) ?_;refine Ent.of [] ?_ ?_ rfl rfl;(repeat' (first |exact True.intro |refine ⟨⟨AV.Le.refl _, rfl⟩, ?_⟩ |refine ⟨⟨⟨_, rfl, BLe.cells (LeL.refl _)⟩, rfl⟩, ?_⟩ |refine ⟨⟨⟨_, rfl, BLe.cells ?_⟩, rfl⟩, ?_⟩|fail))
      ·exact leX (by rw [sp, Int.add_zero])
      ·exact leX so.symm
     ·have e1 := hr2 fun h => hs (h.2.le (by omega));subst e1;rw [so] at hs;exact Fl.thrC rfl [] (xAdd_thr _ _ k2 hf hs) rfl (LeL.refl _) rfl trivial rfl (fun h => by cases h) (fun _ => rfl)
    ·rename_i hneg;rw [plI_pos hneg] at sp;rw [opI_pos hneg] at so;by_cases hs : Fit (PS X (p.terms.take (i + 1)))
     ·rw [sp] at hs;refine qc (xAdd_ret _ _ k1 hf hs) ?_;(repeat' (first |refine qv ?_ |apply qn |apply qr |refine qw ?_ |refine qe ?_|fail));refine LoopEnd.of (i + 1) ⟨by omega, by rw [sp]; exact hs, by rw [so, Int.add_zero]; exact k2⟩ (by omega) ?_;refine Ent.of [] ?_ ?_ rfl rfl;(repeat' (first |exact True.intro |refine ⟨⟨AV.Le.refl _, rfl⟩, ?_⟩ |refine ⟨⟨⟨_, rfl, BLe.cells (LeL.refl _)⟩, rfl⟩, ?_⟩ |refine ⟨⟨⟨_, rfl, BLe.cells ?_⟩, rfl⟩, ?_⟩|fail))
      ·exact leX sp.symm
      ·exact leX (by rw [so, Int.add_zero])
     ·have e1 := hr2 fun h => hs (h.1.le (by omega));subst e1;rw [sp] at hs;exact Fl.thrC rfl [] (xAdd_thr _ _ k1 hf hs) rfl (LeL.refl _) rfl trivial rfl (fun h => by cases h) (fun _ => rfl)
   ·have e1 := hr2 fun h => hf (by
     by_cases hneg : tv X t < 0
     ·rw [opI_neg hneg] at so;exact h.2.le (by omega)
     ·rw [plI_pos hneg] at sp
      exact h.1.le (by omega))
    subst e1;exact Fl.thrC rfl [] (hterm _ (fun h => absurd h hf) (fun _ => rfl)) rfl (LeL.refl _) rfl trivial rfl (fun h => by cases h) (fun _ => rfl)
  ·rename_i hi;have ht : p.terms.take i = p.terms := List.take_of_length_le (by omega);rw [ht] at k1 k2;have e1 := hr1 ⟨k1, k2⟩;subst e1;have b1 := bp p.terms.length;have b2 := bo p.terms.length;rw [List.take_length] at b1 b2;have hq := xAdd_ret _ _ k1 k2 (fit_sum k1 k2 b1.1 b2.1);rw [← ht] at hq;refine qc (hq) ?_;(repeat' (first |apply qn |refine qe ?_ |apply qt));exact ⟨⟨[], _, _, Ent.refl _ _ _, rfl, AV.Le.agg (leX (by rw [ht]; rfl)), rfl, trivial, rfl, rfl⟩⟩
end Go.Proofs.YtmmfloplhopioaaGreat
namespace Go.AL
def pdeg (p : PZ) : Int :=
  match p.terms with
  | [] => -1
  | t :: _ => sumL t.e
end Go.AL
namespace Go.Proofs.YtmmfloplhopioaaGreat
open Go.AL
abbrev evB (p : PZ) (X : List Int) (o : List AV) : List (AL.Id × Bx) := [(900, .cells (eP p) 105), (901, .cells [.sl 2 eX X] 33), (902, .cells o 48)]
theorem Eval1_ret (p : PZ) (X : List Int) (hw : WP p) (hp : OkP p) (hl : (X.length : Int) = p.vars) (hX : ∀ x ∈ X, Fit x) (he : EvOk X p) :
  IoFn Tryz.prog 179 [.ptr 900 0, .ptr 901 0, .ptr 902 0] (evB p X [aB false, .v (.slice none 0 0)]) (.ret (.tup [])) (evB p X (eX (pv X p))) := by
 refine IoFn.of_body Tryz.func179 rfl Tryz.ntmps179 rfl rfl rfl ?_;have h := (Value_io p X hw hp hl hX _ (fun _ => rfl) (fun h => absurd he h)).toPure rfl;(repeat' (first |refine qv ?_ |apply qr));refine qc (h) ?_;(repeat' (first |apply qn |refine qe ?_|fail));exact ⟨⟨[], _, _, Ent.refl _ _ _, rfl, AV.Le.refl _, rfl, ⟨⟨⟨_, rfl, BLe.cells (LeL.refl _)⟩, rfl⟩, ⟨⟨_, rfl, BLe.cells (LeL.refl _)⟩, rfl⟩, ⟨⟨_, rfl, BLe.cells (LeL.refl _)⟩, rfl⟩, trivial⟩, rfl, rfl⟩⟩
theorem Eval1_thr (p : PZ) (X : List Int) (hw : WP p) (hp : OkP p) (hl : (X.length : Int) = p.vars) (hX : ∀ x ∈ X, Fit x) (he : ¬ EvOk X p) :
  IoFn Tryz.prog 179 [.ptr 900 0, .ptr 901 0, .ptr 902 0] (evB p X [aB false, .v (.slice none 0 0)]) (.thr (thrown 4)) (evB p X [aB false, .v (.slice none 0 0)]) := by
 refine IoFn.of_body Tryz.func179 rfl Tryz.ntmps179 rfl rfl rfl ?_;have h := Value_io p X hw hp hl hX _ (fun h => absurd h he) (fun _ => rfl);(repeat' (first |refine qv ?_ |apply qr));exact Fl.thrC rfl [] h rfl (LeL.refl _) rfl trivial rfl (fun h => by cases h) (fun _ => rfl)
theorem xValidX_ok (X : List Int) (hX : ∀ x ∈ X, Fit x) (hl : X.length ≤ 1000000000) : PureFn Tryz.prog 177 [.sl 2 eX X] (aB true) := by
 refine (xValid_ok (X.map zOf) (fun z hz => ?_) (by rw [List.length_map]; omega)).le (LeL.cons (AV.Le.slUnmap (enc := eZ) (f := zOf)) LeL.nil) (AV.Le.bool (decide_eq_true fun z hz => ?_))
 ·obtain ⟨x, _, rfl⟩ := List.mem_map.1 hz; exact toW_ok _
 ·obtain ⟨x, hx, rfl⟩ := List.mem_map.1 hz; exact okZ_zOf (hX x hx)
theorem Eval_ok (p : PZ) (X : List Int) (hw : WP p) (hp : OkP p) (hl : (X.length : Int) = p.vars) (hX : ∀ x ∈ X, Fit x) (r : AV) (hr1 : EvOk X p → r = .tup [aX (pv X p), aN 0]) (hr2 : ¬ EvOk X p → r = .tup [aX 0, aN 4]) :
  PureFn Tryz.prog 136 [aP p, .sl 2 eX X] r := by
 refine PureFn.of_body Tryz.func136 rfl Tryz.ntmps136 rfl rfl ?_;have hv := pValid_ok p hw true ⟨fun _ => hp, fun _ => rfl⟩;have hxv := xValidX_ok X hX (by have := hp.v1; omega);(repeat' (first |refine qv ?_ |apply qn |apply qs |apply qr |refine qe ?_|fail));refine qc (hv) ?_;(repeat' (first |refine qv ?_|fail));refine qc (hxv) ?_;(repeat' (first |refine qv ?_ |apply qn |apply qs |apply qr |refine qe ?_ |refine AWP.condF rfl ?_ |(refine AWP.condN rfl ?_ ?_ <;> intro _ <;> try (exfalso; omega)) |apply qk));by_cases he : EvOk X p
 ·rw [hr1 he];refine Fl.io rfl [(900, 2), (901, 3), (902, 6)] (Try_ret (Eval1_ret p X hw hp hl hX he)) rfl rfl (LeL.refl _) rfl ⟨⟨⟨_, rfl, BLe.cells (LeL.refl _)⟩, rfl⟩, ⟨⟨_, rfl, BLe.cells (LeL.refl _)⟩, rfl⟩, ⟨⟨_, rfl, BLe.cells (LeL.refl _)⟩, rfl⟩, trivial⟩ rfl rfl rfl rfl rfl ?_;(repeat' (first |refine qv ?_ |apply qn |apply qs |apply qr |refine qe ?_ |refine AWP.condF rfl ?_ |apply qk |apply qt));exact RetOk.of rfl (AV.Le.refl _)
 ·rw [hr2 he];refine Fl.io rfl [(900, 2), (901, 3), (902, 6)] (Try_thr (Eval1_thr p X hw hp hl hX he)) rfl rfl (LeL.refl _) rfl ⟨⟨⟨_, rfl, BLe.cells (LeL.refl _)⟩, rfl⟩, ⟨⟨_, rfl, BLe.cells (LeL.refl _)⟩, rfl⟩, ⟨⟨_, rfl, BLe.cells (LeL.refl _)⟩, rfl⟩, trivial⟩ rfl rfl rfl rfl rfl ?_;(repeat' (first |refine qv ?_ |apply qn |apply qs |apply qr |refine qe ?_ |refine AWP.condT rfl ?_ |apply qt));exact RetOk.of rfl (AV.Le.tup (LeL.cons aX_zero (LeL.refl _)))
end Go.Proofs.YtmmfloplhopioaaGreat
namespace Go.AL
theorem fit_one : Fit 1 := fit_small (by omega) (by omega)
def cV (e x : Int) : Int := if e = 0 ∧ Fit x then x else 0
def cE (e x : Int) : Int := if e = 0 then szErr x else e
theorem cV_fit (e x : Int) : Fit (cV e x) := by
 unfold cV;split
 ·rename_i h; exact h.2
 ·exact Fit.zero
theorem cV_ok {x : Int} (h : Fit x) : cV 0 x = x := if_pos ⟨rfl, h⟩
theorem cE_ok {x : Int} (h : Fit x) : cE 0 x = 0 := by unfold cE; rw [if_pos rfl, szErr_fit h]
theorem cE_not {x : Int} (h : ¬ Fit x) : cE 0 x = 4 := by unfold cE; rw [if_pos rfl, szErr_not h]
theorem cV_err {e x : Int} (h : e ≠ 0) : cV e x = 0 := if_neg fun k => h k.1
theorem cV_not {e x : Int} (h : ¬ Fit x) : cV e x = 0 := if_neg fun k => h k.2
theorem cE_err {e x : Int} (h : e ≠ 0) : cE e x = e := if_neg h
def mulL (e out : Int) : List Int → Int × Int
  | [] => (out, e)
  | a :: l => mulL (cE e (out * a)) (cV e (out * a)) l
end Go.AL
namespace Go.Proofs.YtmmfloplhopioaaGreat
open Go.AL
abbrev chB (o : Option Int) (e : Int) : Bx :=
  match o with
  | none => .cells [.v (.int .i64 e)] 243
  | some a => .cells [.v (.int .i64 e), aB (decide (a < 0)), aW (toW a.natAbs), .fn 233 []] 245
theorem keep_ok (o : Option Int) (e x : Int) : IoFn Tryz.prog 236 [.ptr 900 0, aX (clip x), aN (szErr x)] [(900, chB o e)] (.ret (aX (cV e x))) [(900, chB o (cE e x))] := by
 cases o
 all_goals
  refine IoFn.of_body Tryz.func236 rfl Tryz.ntmps236 rfl rfl rfl ?_;(repeat' (first |refine qv ?_ |apply qn |apply qs |apply qr |refine qe ?_ |(refine AWP.condD rfl ?_ ?_ <;> intro _ <;> try (exfalso; omega)) |(refine AWP.condN rfl ?_ ?_ <;> intro _ <;> try (exfalso; omega)) |apply qk |apply qt))
  ·rename_i h0 h1;subst h0;have hf : ¬ Fit x := fun h => h1 (szErr_eq.2 h);exact ⟨⟨[], _, _, Ent.refl _ _ _, rfl, AV.Le.agg (leX_zero (cV_not hf)), rfl, ⟨⟨⟨_, rfl, BLe.cells (LeL.cons (AV.Le.int (by unfold cE; rw [if_pos rfl])) (LeL.refl _))⟩, rfl⟩, trivial⟩, rfl, rfl⟩⟩
  ·rename_i h0 h1;subst h0;have hf := szErr_eq.1 h1;exact ⟨⟨[], _, _, Ent.refl _ _ _, rfl, AV.Le.agg (leX (by rw [cV_ok hf, clip_fit hf])), rfl, ⟨⟨⟨_, rfl, BLe.cells (LeL.cons (AV.Le.int (by unfold cE; rw [if_pos rfl])) (LeL.refl _))⟩, rfl⟩, trivial⟩, rfl, rfl⟩⟩
  ·rename_i h0 h1;exact ⟨⟨[], _, _, Ent.refl _ _ _, rfl, AV.Le.agg (leX_zero (cV_err h0)), rfl, ⟨⟨⟨_, rfl, BLe.cells (LeL.cons (AV.Le.int ((cE_err h0).symm)) (LeL.refl _))⟩, rfl⟩, trivial⟩, rfl, rfl⟩⟩
theorem chAdd_ok (o : Option Int) (e x y : Int) (hx : Fit x) (hy : Fit y) : IoFn Tryz.prog 227 [.ptr 900 0, aX x, aX y] [(900, chB o e)] (.ret (aX (cV e (x + y)))) [(900, chB o (cE e (x + y)))] := by
 have hk := keep_ok o e (x + y)
 cases o
 all_goals
  refine IoFn.of_body Tryz.func227 rfl Tryz.ntmps227 rfl rfl rfl ?_;(repeat' (first |refine qv ?_ |apply qn |apply qs |apply qr |refine qe ?_|fail));refine qc (Add_ok x y hx hy) ?_;(repeat' (first |refine qv ?_|fail));refine qi [] hk ?_;(repeat' (first |apply qn |refine qe ?_ |apply qt));exact ⟨⟨[], _, _, Ent.refl _ _ _, rfl, AV.Le.refl _, rfl, ⟨⟨⟨_, rfl, BLe.cells (LeL.refl _)⟩, rfl⟩, trivial⟩, rfl, rfl⟩⟩
theorem chSub_ok (o : Option Int) (e x y : Int) (hx : Fit x) (hy : Fit y) : IoFn Tryz.prog 234 [.ptr 900 0, aX x, aX y] [(900, chB o e)] (.ret (aX (cV e (x - y)))) [(900, chB o (cE e (x - y)))] := by
 have hk := keep_ok o e (x - y)
 cases o
 all_goals
  refine IoFn.of_body Tryz.func234 rfl Tryz.ntmps234 rfl rfl rfl ?_;(repeat' (first |refine qv ?_ |apply qn |apply qs |apply qr |refine qe ?_|fail));refine qc (Sub_ok x y hx hy) ?_;(repeat' (first |refine qv ?_|fail));refine qi [] hk ?_;(repeat' (first |apply qn |refine qe ?_ |apply qt));exact ⟨⟨[], _, _, Ent.refl _ _ _, rfl, AV.Le.refl _, rfl, ⟨⟨⟨_, rfl, BLe.cells (LeL.refl _)⟩, rfl⟩, trivial⟩, rfl, rfl⟩⟩
theorem chMul_ok (o : Option Int) (e : Int) (l : List Int) (hl : ∀ x ∈ l, Fit x) (hn : l.length ≤ 1000) : IoFn Tryz.prog 228 [.ptr 900 0, .sl 2 eX l] [(900, chB o e)] (.ret (aX (mulL e 1 l).1)) [(900, chB o (mulL e 1 l).2)] := by
 have hk := keep_ok o
 cases o with
 | none =>
  refine IoFn.of_body Tryz.func228 rfl Tryz.ntmps228 rfl rfl rfl ?_;(repeat' (first |apply qn |apply qs |apply qr |refine qe ?_|fail));refine qc (Of_ok 1 (by omega) (by omega)) ?_;(repeat' (first |refine qv ?_ |apply qn |apply qs |apply qr |refine qe ?_ |apply qb));refine AWP.loop (G := Nat × Int × Int) (fun g => g.1 ≤ l.length ∧ Fit g.2.1 ∧ mulL g.2.2 g.2.1 (l.drop g.1) = mulL e 1 l) (fun g => St.of [900] [(0, .ptr 900 0), (4, .ptr 4 0), (5, .ptr 5 0), (9, .sl 2 eX l), (10, aN l.length), (11, aN g.1)] [(4, .cells [aB false, .v (.slice none 0 0)] 48), (5, .cells (eX g.2.1) 48), (900, chB none g.2.2)]) (fun g => l.length - g.1) (0, 1, e) ⟨by omega, fit_one, rfl⟩ ?_ ?_
  ·refine Ent.of [] ?_ ?_ rfl rfl;(repeat' (first |exact True.intro |refine ⟨⟨AV.Le.refl _, rfl⟩, ?_⟩ |refine ⟨⟨⟨_, rfl, BLe.cells (LeL.refl _)⟩, rfl⟩, ?_⟩|fail))
  ·intro ⟨i, out, e'⟩ ⟨k0, k1, k2⟩;(repeat' (first |refine qv ?_ |apply qn |apply qs |apply qr |refine qe ?_ |(refine AWP.condD rfl ?_ ?_ <;> intro _ <;> try (exfalso; omega)) |apply qb |apply qk |apply qx |apply qt |(refine Fl.el rfl rfl rfl rfl rfl rfl rfl rfl (by omega) (by omega) ?_; intro _ _)|fail))
   ·rename_i hi a ha;rw [Int.toNat_natCast] at ha;have hk := hk e' (out * a);refine qc (Mul_ok out a k1 (hl a (List.mem_of_getElem? ha))) ?_;(repeat' (first |refine qv ?_|fail));refine qi [] hk ?_;(repeat' (first |refine qv ?_ |apply qn |apply qr |refine qw ?_ |refine qe ?_|fail));refine LoopEnd.of (i + 1, cV e' (out * a), cE e' (out * a)) ⟨by omega, cV_fit _ _, ?_⟩ (by dsimp only; omega) ?_
    ·rw [← k2];dsimp only;rw [List.drop_eq_getElem_cons (show i < l.length by omega), (List.getElem?_eq_some_iff.1 ha).2];rfl
    ·refine Ent.of [] ?_ ?_ rfl rfl;(repeat' (first |exact True.intro |refine ⟨⟨AV.Le.refl _, rfl⟩, ?_⟩ |refine ⟨⟨⟨_, rfl, BLe.cells (LeL.refl _)⟩, rfl⟩, ?_⟩|fail))
   ·rename_i hi;have hd : l.drop i = [] := List.drop_of_length_le (by omega);rw [hd] at k2;have k2 : (out, e') = mulL e 1 l := k2;rw [← k2];exact ⟨⟨[], _, _, Ent.refl _ _ _, rfl, AV.Le.refl _, rfl, ⟨⟨⟨_, rfl, BLe.cells (LeL.refl _)⟩, rfl⟩, trivial⟩, rfl, rfl⟩⟩
 | some av =>
  refine IoFn.of_body Tryz.func228 rfl Tryz.ntmps228 rfl rfl rfl ?_;(repeat' (first |apply qn |apply qs |apply qr |refine qe ?_|fail));refine qc (Of_ok 1 (by omega) (by omega)) ?_;(repeat' (first |refine qv ?_ |apply qn |apply qs |apply qr |refine qe ?_ |apply qb));refine AWP.loop (G := Nat × Int × Int) (fun g => g.1 ≤ l.length ∧ Fit g.2.1 ∧ mulL g.2.2 g.2.1 (l.drop g.1) = mulL e 1 l) (fun g => St.of [900] [(0, .ptr 900 0), (4, .ptr 4 0), (5, .ptr 5 0), (9, .sl 2 eX l), (10, aN l.length), (11, aN g.1)] [(4, .cells [aB false, .v (.slice none 0 0)] 48), (5, .cells (eX g.2.1) 48), (900, chB (some av) g.2.2)]) (fun g => l.length - g.1) (0, 1, e) ⟨by omega, fit_one, rfl⟩ ?_ ?_
  ·refine Ent.of [] ?_ ?_ rfl rfl;(repeat' (first |exact True.intro |refine ⟨⟨AV.Le.refl _, rfl⟩, ?_⟩ |refine ⟨⟨⟨_, rfl, BLe.cells (LeL.refl _)⟩, rfl⟩, ?_⟩|fail))
  ·intro ⟨i, out, e'⟩ ⟨k0, k1, k2⟩;(repeat' (first |refine qv ?_ |apply qn |apply qs |apply qr |refine qe ?_ |(refine AWP.condD rfl ?_ ?_ <;> intro _ <;> try (exfalso; omega)) |apply qb |apply qk |apply qx |apply qt |(refine Fl.el rfl rfl rfl rfl rfl rfl rfl rfl (by omega) (by omega) ?_; intro _ _)|fail))
   ·rename_i hi a ha;rw [Int.toNat_natCast] at ha;have hk := hk e' (out * a);refine qc (Mul_ok out a k1 (hl a (List.mem_of_getElem? ha))) ?_;(repeat' (first |refine qv ?_|fail));refine qi [] hk ?_;(repeat' (first |refine qv ?_ |apply qn |apply qr |refine qw ?_ |refine qe ?_|fail));refine LoopEnd.of (i + 1, cV e' (out * a), cE e' (out * a)) ⟨by omega, cV_fit _ _, ?_⟩ (by dsimp only; omega) ?_
    ·rw [← k2];dsimp only;rw [List.drop_eq_getElem_cons (show i < l.length by omega), (List.getElem?_eq_some_iff.1 ha).2];rfl
    ·refine Ent.of [] ?_ ?_ rfl rfl;(repeat' (first |exact True.intro |refine ⟨⟨AV.Le.refl _, rfl⟩, ?_⟩ |refine ⟨⟨⟨_, rfl, BLe.cells (LeL.refl _)⟩, rfl⟩, ?_⟩|fail))
   ·rename_i hi;have hd : l.drop i = [] := List.drop_of_length_le (by omega);rw [hd] at k2;have k2 : (out, e') = mulL e 1 l := k2;rw [← k2];exact ⟨⟨[], _, _, Ent.refl _ _ _, rfl, AV.Le.refl _, rfl, ⟨⟨⟨_, rfl, BLe.cells (LeL.refl _)⟩, rfl⟩, trivial⟩, rfl, rfl⟩⟩
end Go.Proofs.YtmmfloplhopioaaGreat
namespace Go.AL
theorem cmpI_zero {x y : Int} : cmpI x y = 0 ↔ x = y := by
 unfold cmpI;split
 ·simp; omega
 ·split <;> simp <;> omega
end Go.AL
namespace Go.Proofs.YtmmfloplhopioaaGreat
open Go.AL
theorem chValid_ok (zs : List Z) (hz : ∀ z ∈ zs, WOk z.w) (hl : zs.length ≤ 1000000000) : PureFn Tryz.prog 49 [.sl 2 eZ zs] (aB (decide (∀ z ∈ zs, OkZ z))) := by
 refine PureFn.of_body Tryz.func49 rfl Tryz.ntmps49 rfl rfl ?_;(repeat' (first |refine qv ?_ |apply qn |apply qs |apply qr |apply qb));refine AWP.loop (G := Nat) (fun i => i ≤ zs.length ∧ ∀ z ∈ zs.take i, OkZ z) (fun i => St.of [] [(5, .sl 2 eZ zs), (6, aN zs.length), (7, aN i)] []) (fun i => zs.length - i) 0 ⟨by omega, by simp⟩ ?_ ?_
 ·refine Ent.of [] ?_ ?_ rfl rfl;(repeat' (first |exact True.intro |refine ⟨⟨AV.Le.refl _, rfl⟩, ?_⟩|fail))
 ·intro i ⟨h0, h1⟩;(repeat' (first |refine qv ?_ |apply qn |apply qs |apply qr |refine qe ?_ |(refine AWP.condD rfl ?_ ?_ <;> intro _ <;> try (exfalso; omega)) |apply qb |apply qk |apply qx |apply qt |(refine Fl.el rfl rfl rfl rfl rfl rfl rfl rfl (by omega) (by omega) ?_; intro _ _)|fail))
  ·rename_i hi z hzi;rw [Int.toNat_natCast] at hzi;refine qc (Valid_ok z (hz z (List.mem_of_getElem? hzi))) ?_;(repeat' (first |refine qv ?_ |apply qn |apply qs |apply qr |refine qw ?_ |(refine AWP.condN rfl ?_ ?_ <;> intro _ <;> try (exfalso; omega)) |apply qk |apply qt))
   ·rename_i h2;refine RetOk.of rfl (AV.Le.bool (Eq.symm (decide_eq_false fun h => h2 (h z (List.mem_of_getElem? hzi)))))
   ·rename_i h2;refine LoopEnd.of (i + 1) ⟨by omega, all_take_succ hzi h1 h2⟩ (by omega) ?_;refine Ent.of [] ?_ ?_ rfl rfl;(repeat' (first |exact True.intro |refine ⟨⟨AV.Le.refl _, rfl⟩, ?_⟩|fail))
  ·refine RetOk.of rfl (AV.Le.bool (Eq.symm (decide_eq_true ?_)));rwa [show i = zs.length by omega, List.take_length] at h1
theorem chValidX_ok (X : List Int) (hX : ∀ x ∈ X, Fit x) (hl : X.length ≤ 1000000000) : PureFn Tryz.prog 49 [.sl 2 eX X] (aB true) := by
 refine (chValid_ok (X.map zOf) (fun z hz => ?_) (by rw [List.length_map]; omega)).le (LeL.cons (AV.Le.slUnmap (enc := eZ) (f := zOf)) LeL.nil) (AV.Le.bool (decide_eq_true fun z hz => ?_))
 ·obtain ⟨x, _, rfl⟩ := List.mem_map.1 hz; exact toW_ok _
 ·obtain ⟨x, hx, rfl⟩ := List.mem_map.1 hz; exact okZ_zOf (hX x hx)
theorem chNatural_ok (X : List Int) (hl : X.length ≤ 1000000000) : PureFn Tryz.prog 50 [.sl 2 eX X] (aB (decide (∀ x ∈ X, 0 ≤ x))) := by
 refine PureFn.of_body Tryz.func50 rfl Tryz.ntmps50 rfl rfl ?_;(repeat' (first |refine qv ?_ |apply qn |apply qs |apply qr |apply qb));refine AWP.loop (G := Nat) (fun i => i ≤ X.length ∧ ∀ z ∈ X.take i, 0 ≤ z) (fun i => St.of [] [(5, .sl 2 eX X), (6, aN X.length), (7, aN i)] []) (fun i => X.length - i) 0 ⟨by omega, by simp⟩ ?_ ?_
 ·refine Ent.of [] ?_ ?_ rfl rfl;(repeat' (first |exact True.intro |refine ⟨⟨AV.Le.refl _, rfl⟩, ?_⟩|fail))
 ·intro i ⟨h0, h1⟩;(repeat' (first |refine qv ?_ |apply qn |apply qs |apply qr |refine qw ?_ |refine qe ?_ |(refine AWP.condD rfl ?_ ?_ <;> intro _ <;> try (exfalso; omega)) |apply qb |apply qk |apply qx |apply qt |(refine Fl.el rfl rfl rfl rfl rfl rfl rfl rfl (by omega) (by omega) ?_; intro _ _)|fail))
  ·rename_i hi z hzi h2;rw [Int.toNat_natCast] at hzi;refine RetOk.of rfl (AV.Le.bool (Eq.symm (decide_eq_false fun h => ?_)));have := h z (List.mem_of_getElem? hzi);omega
  ·rename_i hi z hzi h2;rw [Int.toNat_natCast] at hzi;refine LoopEnd.of (i + 1) ⟨by omega, all_take_succ hzi h1 (by omega)⟩ (by omega) ?_;refine Ent.of [] ?_ ?_ rfl rfl;(repeat' (first |exact True.intro |refine ⟨⟨AV.Le.refl _, rfl⟩, ?_⟩|fail))
  ·refine RetOk.of rfl (AV.Le.bool (Eq.symm (decide_eq_true ?_)));rwa [show i = X.length by omega, List.take_length] at h1
theorem Less_ok (x y : Int) (hx : Fit x) (hy : Fit y) : PureFn Tryz.prog 181 [aX x, aX y] (aB (decide (x < y))) := by
 refine PureFn.of_body Tryz.func181 rfl Tryz.ntmps181 rfl rfl ?_;(repeat' (first |refine qv ?_ |apply qn |apply qs |apply qr |refine qe ?_|fail));refine qc (Cmp_ok x y hx hy) ?_;(repeat' (first |refine qv ?_ |apply qn |apply qs |apply qr |apply qt));refine RetOk.of rfl (AV.Le.bool ?_);rw [decide_eq_decide];unfold cmpI;split
 ·simp; omega
 ·split <;> simp <;> omega
theorem Same_ok (x y : Int) (hx : Fit x) (hy : Fit y) : PureFn Tryz.prog 183 [aX x, aX y] (aB (decide (x = y))) := by
 refine PureFn.of_body Tryz.func183 rfl Tryz.ntmps183 rfl rfl ?_;(repeat' (first |refine qv ?_ |apply qn |apply qs |apply qr |refine qe ?_|fail));refine qc (Cmp_ok x y hx hy) ?_;(repeat' (first |refine qv ?_ |apply qn |apply qs |apply qr |refine Fl.skip rfl rfl ?_ |apply qt |(refine Fl.splitD rfl rfl ?_ ?_ <;> intro _ <;> try (exfalso; omega))))
 ·rename_i h;refine RetOk.of rfl (AV.Le.bool ?_);simp [cmpI_zero.1 h]
 ·rename_i h;refine RetOk.of rfl (AV.Le.bool (Eq.symm (decide_eq_false fun k => h (cmpI_zero.2 k))))
end Go.Proofs.YtmmfloplhopioaaGreat
/- The sequences chi and psi. -/
namespace Go.AL
def cp (a : Int) : Nat → Int × Int
  | 0 => (1, 0)
  | n + 1 => (a * (cp a n).1 + (a * a - 1) * (cp a n).2, (cp a n).1 + a * (cp a n).2)
def chiN (a : Int) (n : Nat) : Int := (cp a n).1
def psiN (a : Int) (n : Nat) : Int := (cp a n).2
theorem chi_zero (a : Int) : chiN a 0 = 1 := rfl
theorem psi_zero (a : Int) : psiN a 0 = 0 := rfl
theorem chi_succ (a : Int) (n : Nat) : chiN a (n + 1) = a * chiN a n + (a * a - 1) * psiN a n := rfl
theorem psi_succ (a : Int) (n : Nat) : psiN a (n + 1) = chiN a n + a * psiN a n := rfl
theorem cp_add (a : Int) (m : Nat) : ∀ n, chiN a (m + n) = chiN a m * chiN a n + (a * a - 1) * (psiN a m * psiN a n) ∧ psiN a (m + n) = chiN a m * psiN a n + psiN a m * chiN a n
 | 0 => by simp [chi_zero, psi_zero]
 | n + 1 => by
  obtain ⟨h1, h2⟩ := cp_add a m n;rw [show m + (n + 1) = m + n + 1 by omega];simp only [chi_succ, psi_succ, h1, h2];constructor <;> grind
theorem pell (a : Int) : ∀ n, chiN a n * chiN a n - (a * a - 1) * (psiN a n * psiN a n) = 1
 | 0 => by simp [chi_zero, psi_zero]
 | n + 1 => by
  have := pell a n;simp only [chi_succ, psi_succ];grind
theorem chi_dbl (a : Int) (n : Nat) : chiN a (2 * n) = 2 * chiN a n * chiN a n - 1 := by
 have h1 := (cp_add a n n).1;have h2 := pell a n;rw [show 2 * n = n + n by omega, h1];grind
theorem psi_dbl (a : Int) (n : Nat) : psiN a (2 * n) = 2 * chiN a n * psiN a n := by
 have h1 := (cp_add a n n).2;rw [show 2 * n = n + n by omega, h1];grind
theorem cp_pos {a : Int} (ha : 2 ≤ a) : ∀ n, 1 ≤ chiN a n ∧ 0 ≤ psiN a n ∧ psiN a n ≤ chiN a n
 | 0 => by simp [chi_zero, psi_zero]
 | n + 1 => by
  obtain ⟨h1, h2, h3⟩ := cp_pos ha n;rw [chi_succ, psi_succ];have e1 : 2 * chiN a n ≤ a * chiN a n := Int.mul_le_mul_of_nonneg_right ha (by omega);have e2 : a * psiN a n ≤ (a * a - 1) * psiN a n := Int.mul_le_mul_of_nonneg_right (by have : 2 * a ≤ a * a := Int.mul_le_mul_of_nonneg_right ha (by omega); omega) h2;have e3 : 0 ≤ a * psiN a n := Int.mul_nonneg (by omega) h2;omega
theorem chi_step {a : Int} (ha : 2 ≤ a) (n : Nat) : chiN a n ≤ chiN a (n + 1) ∧ a * chiN a n ≤ chiN a (n + 1) ∧ a * (a * psiN a n) ≤ chiN a (n + 1) ∧ a * psiN a n ≤ chiN a (n + 1) ∧ a ≤ chiN a (n + 1) := by
 obtain ⟨h1, h2, h3⟩ := cp_pos ha n;rw [chi_succ];have e1 : 2 * chiN a n ≤ a * chiN a n := Int.mul_le_mul_of_nonneg_right ha (by omega);have e2 : 2 * psiN a n ≤ a * psiN a n := Int.mul_le_mul_of_nonneg_right ha h2;have e3 : 2 * (a * psiN a n) ≤ a * (a * psiN a n) := Int.mul_le_mul_of_nonneg_right ha (by omega)
 have e4 : (a * a - 1) * psiN a n = a * (a * psiN a n) - psiN a n := by grind
 have e5 : a * 1 ≤ a * chiN a n := Int.mul_le_mul_of_nonneg_left h1 (by omega);omega
theorem chi_mono {a : Int} (ha : 2 ≤ a) {m n : Nat} (h : m ≤ n) : chiN a m ≤ chiN a n := by
 induction n with
 | zero => rw [show m = 0 by omega]; omega
 | succ n ih =>
  by_cases hm : m = n + 1
  ·rw [hm]; omega
  ·have := ih (by omega); have := (chi_step ha n).1; omega
theorem psi_step {a : Int} (ha : 2 ≤ a) (n : Nat) : psiN a n ≤ psiN a (n + 1) ∧ chiN a n ≤ psiN a (n + 1) ∧ a * psiN a n ≤ psiN a (n + 1) := by
 obtain ⟨h1, h2, h3⟩ := cp_pos ha n;rw [psi_succ];have e2 : 2 * psiN a n ≤ a * psiN a n := Int.mul_le_mul_of_nonneg_right ha h2;omega
theorem psi_mono {a : Int} (ha : 2 ≤ a) {m n : Nat} (h : m ≤ n) : psiN a m ≤ psiN a n := by
 induction n with
 | zero => rw [show m = 0 by omega]; omega
 | succ n ih =>
  by_cases hm : m = n + 1
  ·rw [hm]; omega
  ·have := ih (by omega); have := (psi_step ha n).1; omega
theorem psi_pos {a : Int} (ha : 2 ≤ a) {n : Nat} (h : 1 ≤ n) : 1 ≤ psiN a n := by
 have := psi_mono ha h
 have : psiN a 1 = 1 := by rw [psi_succ, chi_zero, psi_zero]; omega
 omega
theorem psi_big {a : Int} (ha : 2 ≤ a) : ∀ n : Nat, (2 : Int) ^ n ≤ psiN a (n + 1)
 | 0 => by rw [psi_succ, chi_zero, psi_zero]; omega
 | n + 1 => by
  have h1 := psi_big ha n;have h2 := (psi_step ha (n + 1)).2.2;have h3 : 2 * psiN a (n + 1) ≤ a * psiN a (n + 1) := Int.mul_le_mul_of_nonneg_right ha (cp_pos ha (n + 1)).2.1;rw [Int.pow_succ]; omega
theorem pow_le_r {x : Int} (hx : 1 ≤ x) {m n : Nat} (h : m ≤ n) : x ^ m ≤ x ^ n := by
 induction n with
 | zero => rw [show m = 0 by omega]; omega
 | succ n ih =>
  by_cases hm : m = n + 1
  ·rw [hm]; omega
  ·have h1 := ih (by omega);have h2 : x ^ n * 1 ≤ x ^ n * x := Int.mul_le_mul_of_nonneg_left hx (Int.pow_nonneg (by omega));rw [Int.pow_succ]; omega
theorem pow_le_l {x y : Int} (hx : 0 ≤ x) (h : x ≤ y) : ∀ n : Nat, x ^ n ≤ y ^ n
 | 0 => by simp
 | n + 1 => by
  rw [Int.pow_succ, Int.pow_succ];exact Int.mul_le_mul (pow_le_l hx h n) h hx (Int.pow_nonneg (by omega))
theorem BB_pow (n : Nat) : BB n = 2 ^ (32 * n) := by
 unfold BB;rw [Int.pow_mul]; rfl
theorem psi_not_fit {a : Int} (ha : 2 ≤ a) {n : Nat} (h : 131072 < n) : ¬ Fit (psiN a n) := by
 intro hf;have h1 := psi_big ha (n - 1);rw [show n - 1 + 1 = n by omega] at h1;have h2 := hf.lt;rw [BB_pow] at h2;have h3 : (2 : Int) ^ (32 * 4096) ≤ 2 ^ (n - 1) := pow_le_r (by omega) (by omega);omega
theorem pow_not_fit {x : Int} (hx : 2 ≤ x) {n : Nat} (h : 131072 ≤ n) : ¬ Fit (x ^ n) := by
 intro hf;have h2 := hf.lt;rw [BB_pow] at h2;have h3 : (2 : Int) ^ (32 * 4096) ≤ 2 ^ n := pow_le_r (by omega) (by omega);have h4 : (2 : Int) ^ n ≤ x ^ n := pow_le_l (by omega) hx n;omega
/-! Chains. -/
theorem mulL_err : ∀ (x : Int) (l : List Int) (o : Int), mulL 4 o (x :: l) = (0, 4)
 | x, [], o => by simp only [mulL, cE_err (show (4 : Int) ≠ 0 by omega), cV_err (show (4 : Int) ≠ 0 by omega)]
 | x, y :: l, o => by
  rw [mulL, cE_err (show (4 : Int) ≠ 0 by omega)];exact mulL_err y l _
theorem mulL_fit : ∀ (l : List Int) (e o : Int), Fit o → Fit (mulL e o l).1
 | [], e, o, h => h
 | x :: l, e, o, h => by rw [mulL]; exact mulL_fit l _ _ (cV_fit _ _)
theorem mulL_ok {o x : Int} {l : List Int} (h : Fit (o * x)) : mulL 0 o (x :: l) = mulL 0 (o * x) l := by rw [mulL, cE_ok h, cV_ok h]
theorem mulL_not1 {o x : Int} (h : ¬ Fit (o * x)) : ∀ {l : List Int}, mulL 0 o (x :: l) = (0, 4)
 | [] => by rw [mulL, cE_not h, cV_not h]; rfl
 | y :: l => by rw [mulL, cE_not h]; exact mulL_err y l _
theorem mul2 {x y : Int} (hx : Fit x) : mulL 0 1 [x, y] = if Fit (x * y) then (x * y, 0) else (0, 4) := by
 rw [mulL_ok (by rwa [Int.one_mul]), Int.one_mul];split
 ·rename_i h; rw [mulL_ok h]; rfl
 ·rename_i h; rw [mulL_not1 h]
theorem mul3 {x y z : Int} (hx : Fit x) (hy : Fit (x * y)) : mulL 0 1 [x, y, z] = if Fit (x * y * z) then (x * y * z, 0) else (0, 4) := by
 rw [mulL_ok (by rwa [Int.one_mul]), Int.one_mul, mulL_ok hy];split
 ·rename_i h; rw [mulL_ok h]; rfl
 ·rename_i h; rw [mulL_not1 h]
theorem mul3_not {x y z : Int} (hx : Fit x) (hy : ¬ Fit (x * y)) : mulL 0 1 [x, y, z] = (0, 4) := by
 rw [mulL_ok (by rwa [Int.one_mul]), Int.one_mul, mulL_not1 hy]
def CS (F : Prop) (r : Int × Int) (w : Int) : Prop := (r = (w, 0) ∧ Fit w) ∨ (r.2 = 4 ∧ ¬ F)
theorem CS.mul2 {F : Prop} {x y : Int} (hx : Fit x) (h : F → Fit (x * y)) : CS F (mulL 0 1 [x, y]) (x * y) := by
 rw [Go.AL.mul2 hx];split
 ·rename_i k; exact .inl ⟨rfl, k⟩
 ·rename_i k; exact .inr ⟨rfl, fun f => k (h f)⟩
theorem CS.mul3 {F : Prop} {x y z : Int} (hx : Fit x) (h1 : F → Fit (x * y)) (h : F → Fit (x * y * z)) : CS F (mulL 0 1 [x, y, z]) (x * y * z) := by
 by_cases hy : Fit (x * y)
 ·rw [Go.AL.mul3 hx hy];split
  ·rename_i k; exact .inl ⟨rfl, k⟩
  ·rename_i k; exact .inr ⟨rfl, fun f => k (h f)⟩
 ·rw [mul3_not hx hy]; exact .inr ⟨rfl, fun f => hy (h1 f)⟩
theorem CS.one {F : Prop} {x : Int} (h : F → Fit x) : CS F (cV 0 x, cE 0 x) x := by
 by_cases hx : Fit x
 ·rw [cV_ok hx, cE_ok hx]; exact .inl ⟨rfl, hx⟩
 ·rw [cE_not hx]; exact .inr ⟨rfl, fun f => hx (h f)⟩
def chF (a e c p : Int) : Int × Int :=
  let r1 := mulL e 1 [a, p]
  let r2 := mulL r1.2 1 [a, r1.1]
  let up := cV r2.2 (r2.1 - p)
  let e3 := cE r2.2 (r2.1 - p)
  let r4 := mulL e3 1 [a, c]
  (cV r4.2 (r4.1 + up), cE r4.2 (r4.1 + up))
def psF (a e c p : Int) : Int × Int :=
  let r1 := mulL e 1 [a, p]
  (cV r1.2 (c + r1.1), cE r1.2 (c + r1.1))
theorem cE4 (x : Int) : cE 4 x = 4 := cE_err (by omega)
theorem chF_err (a c p : Int) : (chF a 4 c p).2 = 4 := by simp only [chF, mulL_err, cE4]
theorem psF_err (a c p : Int) : (psF a 4 c p).2 = 4 := by simp only [psF, mulL_err, cE4]
theorem chF_ok {F : Prop} {a c p : Int} (ha : Fit a) (h1 : F → Fit (a * p)) (h2 : F → Fit (a * (a * p))) (h3 : F → Fit (a * (a * p) - p)) (h4 : F → Fit (a * c)) (h5 : F → Fit (a * c + (a * (a * p) - p))) : CS F (chF a 0 c p) (a * c + (a * (a * p) - p)) := by
 unfold chF;rcases CS.mul2 (F := F) ha h1 with ⟨e1, _⟩ | ⟨e1, n1⟩
 ·rw [e1];rcases CS.mul2 (F := F) ha h2 with ⟨e2, _⟩ | ⟨e2, n2⟩
  ·simp only [e2];rcases CS.one (F := F) h3 with ⟨e3, _⟩ | ⟨e3, n3⟩
   ·injection e3 with e3 e4;simp only [e3, e4];rcases CS.mul2 (F := F) ha h4 with ⟨e5, _⟩ | ⟨e5, n5⟩
    ·simp only [e5]; exact CS.one h5
    ·refine .inr ⟨?_, n5⟩; simp only [e5, cE4]
   ·refine .inr ⟨?_, n3⟩;have e3 : cE 0 (a * (a * p) - p) = 4 := e3;simp only [e3, mulL_err, cE4]
  ·refine .inr ⟨?_, n2⟩; simp only [e2, cE4, mulL_err]
 ·refine .inr ⟨?_, n1⟩; simp only [e1, mulL_err, cE4]
theorem psF_ok {F : Prop} {a c p : Int} (ha : Fit a) (h1 : F → Fit (a * p)) (h2 : F → Fit (c + a * p)) : CS F (psF a 0 c p) (c + a * p) := by
 unfold psF;rcases CS.mul2 (F := F) ha h1 with ⟨e1, _⟩ | ⟨e1, n1⟩
 ·simp only [e1]; exact CS.one h2
 ·refine .inr ⟨?_, n1⟩; simp only [e1, cE4]
end Go.AL
namespace Go.Proofs.YtmmfloplhopioaaGreat
open Go.AL
theorem walk1_ok (x : Int) : PureFn Tryz.prog 233 [aX x] (aX x) := by
 refine PureFn.of_body Tryz.func233 rfl Tryz.ntmps233 rfl rfl ?_;(repeat' (first |refine qv ?_ |apply qn |apply qs |apply qr |refine qe ?_ |apply qt));exact RetOk.of rfl (AV.Le.refl _)
theorem walk_ok (a : Int) : IoFn Tryz.prog 225 [aX a] [] (.ret (.ptr 900 0)) [(900, chB (some a) 0)] := by
 refine IoFn.of_body Tryz.func225 rfl Tryz.ntmps225 rfl rfl rfl ?_;(repeat' (first |refine qv ?_ |apply qn |apply qs |apply qr |refine qe ?_ |apply qt));exact ⟨⟨[(900, 5)], _, _, Ent.refl _ _ _, rfl, AV.Le.refl _, rfl, ⟨⟨⟨_, rfl, BLe.cells (LeL.refl _)⟩, rfl⟩, trivial⟩, rfl, rfl⟩⟩
theorem fits_ok (a : Int) (ha : Fit a) (h2 : 2 ≤ a) : PureFn Tryz.prog 224 [aX a, .v (.slice none 0 0)] (aN 0) := by
 refine PureFn.of_body Tryz.func224 rfl Tryz.ntmps224 rfl rfl ?_;(repeat' (first |refine qv ?_ |apply qn |apply qs |apply qr |refine qe ?_|fail));refine ql eX [a] ?_;skip;refine qc (chValidX_ok [a] (by simp [ha]) (by simp)) ?_;(repeat' (first |refine qv ?_|fail));refine Fl.call rfl (chValidX_ok [] (by simp) (by simp)) rfl rfl rfl (LeL.cons (AV.Le.nil 2 eX) LeL.nil) ?_;(repeat' (first |refine qv ?_ |apply qn |apply qs |apply qr |refine AWP.condF rfl ?_ |apply qk));refine qc (Of_ok 2 (by omega) (by omega)) ?_;skip;have hl := Less_ok a 2 ha (fit_small (by omega) (by omega));rw [decide_eq_false (by omega)] at hl;refine qc (hl) ?_;(repeat' (first |refine qv ?_ |apply qn |refine Fl.nil (fun _ => by kernel_rfl) ?_ |apply qs |apply qr |refine AWP.condF rfl ?_ |apply qk |apply qt));exact RetOk.of rfl (AV.Le.refl _)
abbrev aP2 (c p : Int) : AV := .agg [aB (decide (c < 0)), aW (toW c.natAbs), aB (decide (p < 0)), aW (toW p.natAbs)]
abbrev wB (a e : Int) : List (AL.Id × Bx) := [(900, chB (some a) e)]
theorem psiS_ok (a e c p : Int) (ha : Fit a) (hc : Fit c) (hp : Fit p) : IoFn Tryz.prog 209 [.ptr 900 0, aP2 c p] (wB a e) (.ret (aX (psF a e c p).1)) (wB a (psF a e c p).2) := by
 refine IoFn.of_body Tryz.func209 rfl Tryz.ntmps209 rfl rfl rfl ?_;have f1 := mulL_fit [a, p] e 1 fit_one;refine AWP.seqS ?_;(repeat' (first |apply qn |apply qr |refine qe ?_|fail));refine ⟨?_⟩;refine AWP.seq ?_;refine AWP.regionJ [(900, 1, [aB (decide (a < 0)), aW (toW a.natAbs)]), (900, 3, [.fn 233 []])] (InvJ.cons ⟨_, _, rfl, rfl⟩ (InvJ.cons ⟨_, _, rfl, rfl⟩ (InvJ.nil _))) ?_;(repeat' (first |refine Fl.ldJ rfl rfl rfl rfl rfl rfl rfl rfl ?_ |refine qv ?_|fail));refine ql eX [a, p] ?_;skip;refine qi [] (chMul_ok (some a) e [a, p] (by simp [ha, hp]) (by simp)) ?_;skip;refine qi [] (chAdd_ok (some a) _ _ _ hc f1) ?_;skip;refine Fl.callV rfl rfl (walk1_ok _) rfl rfl rfl (LeL.refl _) ?_;(repeat' (first |refine Fl.nil (fun _ => by kernel_rfl) ?_ |refine qe ?_ |apply qt));exact ⟨⟨[], _, _, Ent.refl _ _ _, rfl, AV.Le.refl _, rfl, ⟨⟨⟨_, rfl, BLe.cells (LeL.refl _)⟩, rfl⟩, trivial⟩, rfl, rfl⟩⟩
theorem chiS_ok (a e c p : Int) (ha : Fit a) (hc : Fit c) (hp : Fit p) : IoFn Tryz.prog 235 [.ptr 900 0, aP2 c p] (wB a e) (.ret (aX (chF a e c p).1)) (wB a (chF a e c p).2) := by
 refine IoFn.of_body Tryz.func235 rfl Tryz.ntmps235 rfl rfl rfl ?_;have f1 := mulL_fit [a, p] e 1 fit_one;have f2 := mulL_fit [a, (mulL e 1 [a, p]).1] (mulL e 1 [a, p]).2 1 fit_one;have f4 := mulL_fit [a, c] (cE (mulL (mulL e 1 [a, p]).2 1 [a, (mulL e 1 [a, p]).1]).2 ((mulL (mulL e 1 [a, p]).2 1 [a, (mulL e 1 [a, p]).1]).1 - p)) 1 fit_one;refine AWP.seqS ?_;(repeat' (first |apply qn |apply qr |refine qe ?_|fail));refine ⟨?_⟩;refine AWP.seqS ?_;refine AWP.regionJ [(900, 1, [aB (decide (a < 0)), aW (toW a.natAbs)]), (900, 3, [.fn 233 []])] (InvJ.cons ⟨_, _, rfl, rfl⟩ (InvJ.cons ⟨_, _, rfl, rfl⟩ (InvJ.nil _))) ?_;(repeat' (first |refine Fl.ldJ rfl rfl rfl rfl rfl rfl rfl rfl ?_ |refine qv ?_|fail));refine ql eX [a, p] ?_;skip;refine qi [] (chMul_ok (some a) e [a, p] (by simp [ha, hp]) (by simp)) ?_;skip;refine Fl.callV rfl rfl (walk1_ok _) rfl rfl rfl (LeL.refl _) ?_;skip;refine ql eX [a, (mulL e 1 [a, p]).1] ?_;skip;refine qi [] (chMul_ok (some a) _ [a, (mulL e 1 [a, p]).1] (by simp [ha, f1]) (by simp)) ?_;(repeat' (first |refine qv ?_|fail));refine qi [] (chSub_ok (some a) _ _ p f2 hp) ?_;(repeat' (first |refine Fl.nil (fun _ => by kernel_rfl) ?_ |refine qe ?_|fail));refine ⟨?_⟩;refine AWP.seq ?_;refine AWP.regionJ [(900, 1, [aB (decide (a < 0)), aW (toW a.natAbs)]), (900, 3, [.fn 233 []])] (InvJ.cons ⟨_, _, rfl, rfl⟩ (InvJ.cons ⟨_, _, rfl, rfl⟩ (InvJ.nil _))) ?_;(repeat' (first |refine Fl.ldJ rfl rfl rfl rfl rfl rfl rfl rfl ?_ |refine qv ?_|fail));refine ql eX [a, c] ?_;skip;refine qi [] (chMul_ok (some a) _ [a, c] (by simp [ha, hc]) (by simp)) ?_;(repeat' (first |refine qv ?_|fail));refine qi [] (chAdd_ok (some a) _ _ _ f4 (cV_fit _ _)) ?_;skip;refine Fl.callV rfl rfl (walk1_ok _) rfl rfl rfl (LeL.refl _) ?_;(repeat' (first |refine Fl.nil (fun _ => by kernel_rfl) ?_ |refine qe ?_ |apply qt));exact ⟨⟨[], _, _, Ent.refl _ _ _, rfl, AV.Le.refl _, rfl, ⟨⟨⟨_, rfl, BLe.cells (LeL.refl _)⟩, rfl⟩, trivial⟩, rfl, rfl⟩⟩
end Go.Proofs.YtmmfloplhopioaaGreat
namespace Go.AL
def dbF (e c p : Int) : Int × Int × Int :=
  let r1 := mulL e 1 [2, c, c]
  let r2 := mulL (cE r1.2 (r1.1 - 1)) 1 [2, c, p]
  (cV r1.2 (r1.1 - 1), r2.1, r2.2)
def upF (a : Int) (s : Int × Int × Int) : Int × Int × Int :=
  let r1 := chF a s.2.2 s.1 s.2.1
  let r2 := psF a r1.2 s.1 s.2.1
  (r1.1, r2.1, r2.2)
def atL (a n : Int) : Nat → Int × Int × Int → Int × Int × Int
  | 0, s => s
  | j + 1, s => if s.2.2 = 0 then atL a n j (if n / 2 ^ j % 2 = 1 then upF a (dbF s.2.2 s.1 s.2.1) else dbF s.2.2 s.1 s.2.1) else s
theorem dbF_fit (e c p : Int) : Fit (dbF e c p).1 ∧ Fit (dbF e c p).2.1 := ⟨cV_fit _ _, mulL_fit _ _ _ fit_one⟩
theorem upF_fit (a : Int) (s : Int × Int × Int) : Fit (upF a s).1 ∧ Fit (upF a s).2.1 := ⟨cV_fit _ _, cV_fit _ _⟩
theorem leP2_zero {σ : List (Id × Id)} : LeL [aB (decide ((1 : Int) < 0)), aW (toW ((1 : Int).natAbs)), aB false, .v (.slice none 0 0)] (renL (renI σ) [aB (decide ((1 : Int) < 0)), aW (toW ((1 : Int).natAbs)), aB (decide ((0 : Int) < 0)), aW (toW ((0 : Int).natAbs))]) :=
 LeL.cons (AV.Le.refl _) (LeL.cons (AV.Le.refl _) (LeL.cons (AV.Le.bool rfl) (LeL.cons (by show (AV.v (.slice none 0 0)).Le (aW (toW ((0 : Int).natAbs))); rw [show ((Int.natAbs 0 : Nat) : Int) = 0 from rfl, toW_zero]; exact AV.Le.nil 1 eW) LeL.nil)))
theorem fit_two : Fit 2 := fit_small (by omega) (by omega)
end Go.AL
namespace Go.Proofs.YtmmfloplhopioaaGreat
open Go.AL
set_option maxHeartbeats 1000000 in
theorem at_ok (a n : Int) (ha : Fit a) (h0 : 0 ≤ n) (h1 : n ≤ 9223372036854775807) : IoFn Tryz.prog 226 [.ptr 900 0, aN n] (wB a 0) (.ret (aP2 (atL a n 63 (1, 0, 0)).1 (atL a n 63 (1, 0, 0)).2.1)) (wB a (atL a n 63 (1, 0, 0)).2.2) := by
 refine IoFn.of_body Tryz.func226 rfl Tryz.ntmps226 rfl rfl rfl ?_;refine AWP.seqS ?_;(repeat' (first |apply qn |apply qr |refine qe ?_|fail));refine ⟨?_⟩;refine AWP.seqS ?_;refine AWP.regionJ [(900, 3, [.fn 233 []])] (InvJ.cons ⟨_, _, rfl, rfl⟩ (InvJ.nil _)) ?_;(repeat' (first |refine Fl.ldJ rfl rfl rfl rfl rfl rfl rfl rfl ?_ |refine qv ?_|fail));refine qc (Of_ok 1 (by omega) (by omega)) ?_;skip;refine Fl.callV rfl rfl (walk1_ok _) rfl rfl rfl (LeL.refl _) ?_;(repeat' (first |refine Fl.nil (fun _ => by kernel_rfl) ?_ |refine qe ?_|fail));refine ⟨?_⟩;(repeat' (first |refine qv ?_ |apply qn |apply qs |apply qr |apply qb));refine AWP.loop (G := Nat × Int × Int × Int) (fun g => g.1 ≤ 63 ∧ Fit g.2.1 ∧ Fit g.2.2.1 ∧ atL a n g.1 g.2 = atL a n 63 (1, 0, 0)) (fun g => St.of [900] [(0, .ptr 900 0), (1, aN n), (4, .ptr 4 0), (5, .ptr 5 0), (6, aN ((g.1 : Int) - 1))] [(4, .cells [aB false, .v (.slice none 0 0), aB false, .v (.slice none 0 0)] 240), (5, .cells [aB (decide (g.2.1 < 0)), aW (toW g.2.1.natAbs), aB (decide (g.2.2.1 < 0)), aW (toW g.2.2.1.natAbs)] 240), (900, chB (some a) g.2.2.2)]) (fun g => g.1) (63, 1, 0, 0) ⟨by omega, fit_one, Fit.zero, rfl⟩ ?_ ?_
 ·refine Ent.of [] ?_ ?_ rfl rfl;(repeat' (first |exact True.intro |refine ⟨⟨AV.Le.refl _, rfl⟩, ?_⟩ |refine ⟨⟨⟨_, rfl, BLe.cells (LeL.refl _)⟩, rfl⟩, ?_⟩ |refine ⟨⟨⟨_, rfl, BLe.cells ?_⟩, rfl⟩, ?_⟩|fail));exact leP2_zero
 ·intro ⟨j, c, p, e⟩ ⟨k0, k1, k2, k3⟩;refine AWP.seqS ?_;(repeat' (first |refine qv ?_ |apply qn |apply qs |apply qr |refine qe ?_ |refine Fl.skip rfl rfl ?_ |refine AWP.condF rfl ?_ |(refine AWP.condD rfl ?_ ?_ <;> intro _ <;> try (exfalso; omega)) |apply qk |apply qx |apply qt |(refine Fl.splitD rfl rfl ?_ ?_ <;> intro _ <;> try (exfalso; omega))))
  ·rename_i hj he;dsimp only at k0 k1 k2 k3 hj he;subst he
   cases j with
   | zero => exfalso; omega
   | succ j =>
   have hs : ∀ s', s' = (if n / 2 ^ j % 2 = 1 then upF a (dbF 0 c p) else dbF 0 c p) → atL a n j s' = atL a n 63 (1, 0, 0) := fun s' h => by rw [← k3, h]; simp only [atL, if_true]
   have d1 := mulL_fit [2, c, c] 0 1 fit_one;have d2 := mulL_fit [2, c, p] (cE (mulL 0 1 [2, c, c]).2 ((mulL 0 1 [2, c, c]).1 - 1)) 1 fit_one;refine ⟨?_⟩;refine AWP.seq ?_;refine AWP.block ?_;refine AWP.seqS ?_;refine AWP.regionJ [(900, 3, [.fn 233 []])] (InvJ.cons ⟨_, _, rfl, rfl⟩ (InvJ.nil _)) ?_;(repeat' (first |refine Fl.ldJ rfl rfl rfl rfl rfl rfl rfl rfl ?_ |refine qv ?_|fail));refine qc (Of_ok 2 (by omega) (by omega)) ?_;(repeat' (first |refine qv ?_|fail));refine ql eX [2, c, c] ?_;skip;refine qi [] (chMul_ok (some a) 0 [2, c, c] (by simp [k1, fit_two]) (by simp)) ?_;skip;refine qc (Of_ok 1 (by omega) (by omega)) ?_;skip;refine qi [] (chSub_ok (some a) _ _ _ d1 fit_one) ?_;skip;refine Fl.callV rfl rfl (walk1_ok _) rfl rfl rfl (LeL.refl _) ?_;(repeat' (first |refine Fl.ldJ rfl rfl rfl rfl rfl rfl rfl rfl ?_ |refine qv ?_|fail));refine qc (Of_ok 2 (by omega) (by omega)) ?_;(repeat' (first |refine qv ?_|fail));refine ql eX [2, c, p] ?_;skip;refine qi [] (chMul_ok (some a) _ [2, c, p] (by simp [k1, k2, fit_two]) (by simp)) ?_;skip;refine Fl.callV rfl rfl (walk1_ok _) rfl rfl rfl (LeL.refl _) ?_;(repeat' (first |refine Fl.nil (fun _ => by kernel_rfl) ?_ |refine qe ?_|fail));refine ⟨?_⟩;(repeat' (first |refine qv ?_ |apply qs |apply qr |refine qw ?_|fail));have q0 : 0 ≤ n / 2 ^ (((j + 1 : Nat) : Int) - 1).toNat := Int.ediv_nonneg h0 (Int.le_of_lt (Int.pow_pos (by omega)));have q1 : n / 2 ^ (((j + 1 : Nat) : Int) - 1).toNat ≤ n := Int.ediv_le_self _ h0;refine Fl.w rfl rfl rfl ⟨q0, Int.le_trans q1 h1, by omega, by omega⟩ ?_
   have qj : (((j + 1 : Nat) : Int) - 1).toNat = j := by omega
   have hb := bitN_and1 q0;(repeat' (first |refine qv ?_ |apply qn |apply qr |refine qw ?_ |(refine AWP.condD rfl ?_ ?_ <;> intro _ <;> try (exfalso; omega)) |apply qk))
   ·rename_i hbit
    have hbit2 : n / 2 ^ j % 2 = 1 := by rw [← qj, ← hb]; exact hbit
    have hd := dbF_fit 0 c p;refine qi [] (chiS_ok a (dbF 0 c p).2.2 (dbF 0 c p).1 (dbF 0 c p).2.1 ha hd.1 hd.2) ?_;(repeat' (first |refine qv ?_|fail));refine qi [] (psiS_ok a (chF a (dbF 0 c p).2.2 (dbF 0 c p).1 (dbF 0 c p).2.1).2 (dbF 0 c p).1 (dbF 0 c p).2.1 ha hd.1 hd.2) ?_;(repeat' (first |refine qv ?_ |apply qn |refine Fl.nil (fun _ => by kernel_rfl) ?_ |apply qr |refine qw ?_ |refine qe ?_|fail));refine LoopEnd.of (j, upF a (dbF 0 c p)) ⟨by dsimp only; omega, (upF_fit _ _).1, (upF_fit _ _).2, hs _ (if_pos hbit2).symm⟩ (by dsimp only; omega) ?_;refine Ent.of [] ?_ ?_ rfl rfl;(repeat' (first |exact True.intro |refine ⟨⟨AV.Le.refl _, rfl⟩, ?_⟩ |refine ⟨⟨⟨_, rfl, BLe.cells (LeL.refl _)⟩, rfl⟩, ?_⟩ |refine ⟨⟨AV.Le.int ?_, rfl⟩, ?_⟩|fail));show ((j + 1 : Nat) : Int) - 1 - 1 = (j : Int) - 1;omega
   ·rename_i hbit
    have hbit2 : ¬ n / 2 ^ j % 2 = 1 := by rw [← qj, ← hb]; exact hbit
    have hd := dbF_fit 0 c p;refine LoopEnd.of (j, dbF 0 c p) ⟨by dsimp only; omega, hd.1, hd.2, hs _ (if_neg hbit2).symm⟩ (by dsimp only; omega) ?_;refine Ent.of [] ?_ ?_ rfl rfl;(repeat' (first |exact True.intro |refine ⟨⟨AV.Le.refl _, rfl⟩, ?_⟩ |refine ⟨⟨⟨_, rfl, BLe.cells (LeL.refl _)⟩, rfl⟩, ?_⟩ |refine ⟨⟨AV.Le.int ?_, rfl⟩, ?_⟩|fail));show ((j + 1 : Nat) : Int) - 1 - 1 = (j : Int) - 1;omega
  ·rename_i hj he;dsimp only at k0 k1 k2 k3 hj he
   cases j with
   | zero => exfalso; omega
   | succ j =>
   have k4 : atL a n (j + 1) (c, p, e) = (c, p, e) := by rw [atL]; exact if_neg he
   rw [← k3, k4];exact ⟨⟨[], _, _, Ent.refl _ _ _, rfl, AV.Le.refl _, rfl, ⟨⟨⟨_, rfl, BLe.cells (LeL.refl _)⟩, rfl⟩, trivial⟩, rfl, rfl⟩⟩
  ·rename_i hj;dsimp only at k0 k1 k2 k3 hj
   cases j with
   | succ j => exfalso; omega
   | zero =>
   have k4 : atL a n 0 (c, p, e) = (c, p, e) := rfl;rw [← k3, k4];exact ⟨⟨[], _, _, Ent.refl _ _ _, rfl, AV.Le.refl _, rfl, ⟨⟨⟨_, rfl, BLe.cells (LeL.refl _)⟩, rfl⟩, trivial⟩, rfl, rfl⟩⟩
end Go.Proofs.YtmmfloplhopioaaGreat
/- What the walk through a number's digits yields. -/
namespace Go.AL
theorem fit_of {x T : Int} (h : Fit T) (h0 : 0 ≤ x) (h1 : x ≤ T) : Fit x := h.le (by omega)
theorem cV_of_cE {e x : Int} (h : cE e x ≠ 0) : cV e x = 0 := by
 unfold cE at h; unfold cV;split at h
 ·rename_i he;rw [if_neg];exact fun k => h (szErr_eq.2 k.2)
 ·rename_i he;exact if_neg fun k => he k.1
section
variable {a : Int} {N : Nat}
abbrev FN (a : Int) (N : Nat) : Prop := Fit (psiN a (N + 1))
theorem dbF_ok (ha : 2 ≤ a) {m : Nat} (hm : 2 * m ≤ N) : (dbF 0 (chiN a m) (psiN a m) = (chiN a (2 * m), psiN a (2 * m), 0)) ∨ ((dbF 0 (chiN a m) (psiN a m)).2.2 = 4 ∧ ¬ FN a N) := by
 obtain ⟨p1, p2, p3⟩ := cp_pos ha m;have hc := chi_dbl a m;have hp := psi_dbl a m;have b1 : 2 * chiN a m * 1 ≤ 2 * chiN a m * chiN a m := Int.mul_le_mul_of_nonneg_left p1 (by omega)
 have b0 : FN a N → Fit (2 * chiN a m * chiN a m) := by
  intro hF;by_cases hN : N = 0
  ·have : m = 0 := by omega
   subst this;rw [chi_zero]; exact fit_two
  ·refine fit_of hF (by omega) ?_;have h1 := chi_mono ha hm;have h2 := psi_pos ha (n := N) (by omega);have h3 : 2 * psiN a N ≤ a * psiN a N := Int.mul_le_mul_of_nonneg_right ha (by omega);rw [psi_succ]; omega
 have b2 : FN a N → Fit (2 * chiN a m) := fun hF => fit_of (b0 hF) (by omega) (by omega);have b3 : FN a N → Fit (2 * chiN a m * chiN a m - 1) := fun hF => fit_of (b0 hF) (by omega) (by omega);have b4 : FN a N → Fit (2 * chiN a m * psiN a m) := fun hF => fit_of hF (by rw [← hp]; exact (cp_pos ha _).2.1) (by rw [← hp]; exact psi_mono ha (by omega));unfold dbF;rcases CS.mul3 (F := FN a N) fit_two b2 b0 with ⟨e1, _⟩ | ⟨e1, n1⟩
 ·simp only [e1];rcases CS.one (F := FN a N) b3 with ⟨e2, _⟩ | ⟨e2, n2⟩
  ·injection e2 with e2 e3;simp only [e2, e3];rcases CS.mul3 (F := FN a N) fit_two b2 b4 with ⟨e5, _⟩ | ⟨e5, n5⟩
   ·simp only [e5]; left; rw [hc, hp]
   ·exact .inr ⟨e5, n5⟩
  ·have e2 : cE 0 (2 * chiN a m * chiN a m - 1) = 4 := e2;refine .inr ⟨?_, n2⟩;simp only [e2, mulL_err]
 ·refine .inr ⟨?_, n1⟩;simp only [e1, cE4, mulL_err]
theorem upF_ok (ha : 2 ≤ a) (hf : Fit a) {m : Nat} (hm : m + 1 ≤ N) : (upF a (chiN a m, psiN a m, 0) = (chiN a (m + 1), psiN a (m + 1), 0)) ∨ ((upF a (chiN a m, psiN a m, 0)).2.2 = 4 ∧ ¬ FN a N) := by
 obtain ⟨p1, p2, p3⟩ := cp_pos ha m;obtain ⟨c1, c2, c3, c4, c5⟩ := chi_step ha m
 have b0 : chiN a (m + 1) ≤ psiN a (N + 1) := by
  have h1 := chi_mono ha hm;have h2 := (psi_step ha N).2.1;omega
 have e1 : 0 ≤ a * psiN a m := Int.mul_nonneg (by omega) p2;have e2 : 0 ≤ a * (a * psiN a m) := Int.mul_nonneg (by omega) e1;have e3 : 0 ≤ a * chiN a m := Int.mul_nonneg (by omega) (by omega);have e4 : 2 * (a * psiN a m) ≤ a * (a * psiN a m) := Int.mul_le_mul_of_nonneg_right ha e1;have e5 : 2 * psiN a m ≤ a * psiN a m := Int.mul_le_mul_of_nonneg_right ha p2
 have hs : a * chiN a m + (a * (a * psiN a m) - psiN a m) = chiN a (m + 1) := by rw [chi_succ]; grind
 have hq : chiN a m + a * psiN a m = psiN a (m + 1) := (psi_succ a m).symm;unfold upF;rcases chF_ok (F := FN a N) (a := a) (c := chiN a m) (p := psiN a m) hf (fun F => fit_of F e1 (by omega)) (fun F => fit_of F e2 (by omega)) (fun F => fit_of F (by omega) (by omega)) (fun F => fit_of F e3 (by omega)) (fun F => fit_of F (by omega) (by omega)) with ⟨k1, _⟩ | ⟨k1, n1⟩
 ·simp only [k1];rcases psF_ok (F := FN a N) (a := a) (c := chiN a m) (p := psiN a m) hf (fun F => fit_of F e1 (by omega)) (fun F => fit_of F (by omega) (by rw [hq]; exact psi_mono ha (by omega))) with ⟨k2, _⟩ | ⟨k2, n2⟩
  ·left; simp only [k2]; rw [hs, hq]
  ·exact .inr ⟨k2, n2⟩
 ·refine .inr ⟨?_, n1⟩;simp only [k1, psF_err]
def AtI (a : Int) (N j : Nat) (s : Int × Int × Int) : Prop := s = (chiN a (N / 2 ^ j), psiN a (N / 2 ^ j), 0) ∨ (s.2.2 = 4 ∧ ¬ FN a N)
theorem atL_ok (ha : 2 ≤ a) (hf : Fit a) : ∀ (j : Nat) (s : Int × Int × Int), AtI a N j s → AtI a N 0 (atL a N j s)
 | 0, s, h => h
 | j + 1, s, h => by
  rcases h with rfl | ⟨h1, h2⟩
  ·rw [atL, if_pos rfl];refine atL_ok ha hf j _ ?_
   have hd : N / 2 ^ (j + 1) = N / 2 ^ j / 2 := by rw [Nat.pow_succ, Nat.div_div_eq_div_mul]
   have hle : N / 2 ^ j ≤ N := Nat.div_le_self _ _
   have hbit : ((N : Int) / 2 ^ j % 2 = 1) ↔ N / 2 ^ j % 2 = 1 := by
    have : (N : Int) / 2 ^ j = ((N / 2 ^ j : Nat) : Int) := by rw [Int.natCast_ediv, Int.natCast_pow]; rfl
    rw [this]; omega
   dsimp only;rw [hd]
   generalize hq : N / 2 ^ j = q at *
   rcases dbF_ok ha (N := N) (m := q / 2) (by omega) with e1 | ⟨e1, n1⟩
   ·rw [e1];by_cases hb : (N : Int) / 2 ^ j % 2 = 1
    ·rw [if_pos hb];have hb2 := hbit.1 hb;rcases upF_ok ha hf (N := N) (m := 2 * (q / 2)) (by omega) with e2 | ⟨e2, n2⟩
     ·left;rw [e2, hq, show 2 * (q / 2) + 1 = q by omega]
     ·exact .inr ⟨e2, n2⟩
    ·rw [if_neg hb];left;have : q % 2 ≠ 1 := fun h => hb (hbit.2 h);rw [hq, show 2 * (q / 2) = q by omega]
   ·split
    ·refine .inr ⟨?_, n1⟩;unfold upF;simp only [e1, chF_err, psF_err]
    ·exact .inr ⟨e1, n1⟩
  ·rw [atL, if_neg (by omega)];exact .inr ⟨h1, h2⟩
theorem psi_res (ha : 2 ≤ a) (hf : Fit a) (hN : N < 2 ^ 63) {r : Int × Int} (hr : r = psF a (atL a N 63 (1, 0, 0)).2.2 (atL a N 63 (1, 0, 0)).1 (atL a N 63 (1, 0, 0)).2.1) : r.1 = clip (psiN a (N + 1)) ∧ r.2 = szErr (psiN a (N + 1)) := by
 have h := atL_ok ha hf (N := N) 63 (1, 0, 0) (.inl (by rw [Nat.div_eq_of_lt hN, chi_zero, psi_zero]))
 have hz : r.2 ≠ 0 → r.1 = 0 := by
  rw [hr]; unfold psF; exact fun h => cV_of_cE h
 have fin : r.2 = 4 → ¬ FN a N → r.1 = clip (psiN a (N + 1)) ∧ r.2 = szErr (psiN a (N + 1)) := fun h1 h2 => by
  rw [clip_not h2, szErr_not h2];exact ⟨hz (by omega), h1⟩
 rcases h with h | ⟨h1, h2⟩
 ·rw [h] at hr;simp only [Nat.pow_zero, Nat.div_one] at hr;obtain ⟨p1, p2, p3⟩ := cp_pos ha N;have e1 : 0 ≤ a * psiN a N := Int.mul_nonneg (by omega) p2;have hq : chiN a N + a * psiN a N = psiN a (N + 1) := (psi_succ a N).symm;rcases psF_ok (F := FN a N) (a := a) (c := chiN a N) (p := psiN a N) hf (fun F => fit_of F e1 (psi_step ha N).2.2) (fun F => by rw [hq]; exact F) with ⟨k2, kf⟩ | ⟨k2, n2⟩
  ·rw [hr, k2, hq];rw [hq] at kf;rw [clip_fit kf, szErr_fit kf]; exact ⟨rfl, rfl⟩
  ·rw [← hr] at k2;exact fin k2 n2
 ·refine fin ?_ h2;rw [hr, h1, psF_err]
end
end Go.AL
namespace Go.AL
theorem atL_fit (a n : Int) : ∀ (j : Nat) (s : Int × Int × Int), Fit s.1 → Fit s.2.1 → Fit (atL a n j s).1 ∧ Fit (atL a n j s).2.1
 | 0, s, h1, h2 => ⟨h1, h2⟩
 | j + 1, s, h1, h2 => by
  rw [atL];split
  ·split
   ·exact atL_fit a n j _ (upF_fit _ _).1 (upF_fit _ _).2
   ·exact atL_fit a n j _ (dbF_fit _ _ _).1 (dbF_fit _ _ _).2
  ·exact ⟨h1, h2⟩
end Go.AL
namespace Go.Proofs.YtmmfloplhopioaaGreat
open Go.AL
theorem element_ok (a n : Int) (ha : Fit a) (h2 : 2 ≤ a) (h0 : 1 ≤ n) (h1 : n ≤ 9223372036854775807) : PureFn Tryz.prog 208 [aX a, aN n, aN 0, .fn 209 []] (aR (psiN a n.toNat)) := by
 refine PureFn.of_body Tryz.func208 rfl Tryz.ntmps208 rfl rfl ?_;(repeat' (first |refine qv ?_ |apply qn |apply qs |apply qr |refine qe ?_|fail));refine qc (fits_ok a ha h2) ?_;(repeat' (first |refine qv ?_ |apply qn |apply qs |apply qr |refine qe ?_ |refine AWP.condF rfl ?_ |(refine AWP.condD rfl ?_ ?_ <;> intro _ <;> try (exfalso; omega)) |apply qb |apply qk |apply qt))
 ·rename_i h;refine RetOk.of rfl ?_;rw [aR_not (psi_not_fit h2 (by omega))];exact AV.Le.tup (LeL.cons aX_zero (LeL.refl _))
 ·rename_i h;refine Fl.io rfl [(900, 33)] (walk_ok a) rfl rfl (LeL.refl _) rfl trivial rfl rfl rfl rfl rfl ?_;(repeat' (first |refine qv ?_ |apply qn |apply qs |apply qr |refine qw ?_|fail));refine qi [(900, 33)] (at_ok a (n - 1) ha (by omega) (by omega)) ?_;skip
  have hN : (((n - 1).toNat : Nat) : Int) = n - 1 := by omega
  have hfc : Fit (atL a (n - 1) 63 (1, 0, 0)).1 ∧ Fit (atL a (n - 1) 63 (1, 0, 0)).2.1 := atL_fit a (n - 1) 63 _ fit_one Fit.zero;refine Fl.ioV rfl rfl [(900, 33)] (psiS_ok a _ _ _ ha hfc.1 hfc.2) rfl rfl (LeL.refl _) rfl ⟨⟨⟨_, rfl, BLe.cells (LeL.refl _)⟩, rfl⟩, trivial⟩ rfl rfl rfl rfl rfl ?_;(repeat' (first |refine qv ?_ |apply qn |refine Fl.nil (fun _ => by kernel_rfl) ?_ |apply qs |apply qr |refine qe ?_ |apply qt));have hr := psi_res (a := a) (N := (n - 1).toNat) h2 ha (by omega) rfl;rw [hN, show (n - 1).toNat + 1 = n.toNat by omega] at hr;refine RetOk.of rfl (AV.Le.tup (LeL.cons (AV.Le.agg ?_) (LeL.cons (AV.Le.int hr.2) LeL.nil)));exact leX (σ := []) hr.1
theorem Psi_ok (a n : Int) (ha : Fit a) (h2 : 2 ≤ a) (h0 : 1 ≤ n) (h1 : n ≤ 9223372036854775807) : PureFn Tryz.prog 182 [aX a, aN n] (aR (psiN a n.toNat)) := by
 refine PureFn.of_body Tryz.func182 rfl Tryz.ntmps182 rfl rfl ?_;(repeat' (first |refine qv ?_ |apply qn |apply qs |apply qr |refine qe ?_|fail));refine qc (element_ok a n ha h2 h0 h1) ?_;(repeat' (first |refine qv ?_ |apply qn |refine qe ?_ |apply qt));exact RetOk.of rfl (AV.Le.refl _)
end Go.Proofs.YtmmfloplhopioaaGreat
namespace Go.AL
def needI (k : Int) : Int := if k = 0 then 1 else if k = 1 then 3 else if k = 2 then 3 else if k = 3 then 2 else 0
def incB (last top : Int) : List Int → Prop
  | [] => True
  | v :: l => last < v ∧ v < top ∧ incB v top l
structure OkL (vars : Int) (l : LZ) : Prop where
  kind : needI l.kind ≠ 0
  len : (l.polys.length : Int) = needI l.kind
  vlen : l.vars.length ≤ 32
  inc : incB (-1) vars l.vars
  polys : ∀ p ∈ l.polys, p.vars = l.vars.length ∧ OkP p
def WL (l : LZ) : Prop := ∀ p ∈ l.polys, WP p
structure OkS (s : SZ) : Prop where
  v0 : 0 ≤ s.vars
  v1 : s.vars ≤ 20000
  len : s.links.length ≤ 20000
  links : ∀ l ∈ s.links, OkL s.vars l
def WS (s : SZ) : Prop := ∀ l ∈ s.links, WL l
def idxI {α : Type} (f : α → Bool) : List α → Int → Int
  | [], _ => -1
  | x :: l, k => if f x then k else idxI f l (k + 1)
theorem idxI_any {α : Type} (f : α → Bool) : ∀ (l : List α) (k : Int), 0 ≤ k → decide (0 ≤ idxI f l k) = l.any f
 | [], k, h => by simp [idxI]
 | x :: l, k, h => by
  simp only [idxI, List.any_cons];by_cases hx : f x = true
  ·simp [hx, h]
  ·have := idxI_any f l (k + 1) (by omega);simp only [hx, Bool.false_or];simpa using this
theorem idxI_drop {α : Type} {f : α → Bool} {l : List α} {i : Nat} {x : α} (h : l[i]? = some x) : idxI f (l.drop i) i = if f x then (i : Int) else idxI f (l.drop (i + 1)) ((i + 1 : Nat) : Int) := by
 have hi := (List.getElem?_eq_some_iff.1 h).1;rw [List.drop_eq_getElem_cons hi, (List.getElem?_eq_some_iff.1 h).2];simp only [idxI];congr 2
end Go.AL
namespace Go.Proofs.YtmmfloplhopioaaGreat
open Go.AL
theorem needs_ok (k : Int) : PureFn Tryz.prog 173 [aN k] (aN (needI k)) := by
 refine PureFn.of_body Tryz.func173 rfl Tryz.ntmps173 rfl rfl ?_;(repeat' (first |refine qv ?_ |apply qn |apply qs |apply qr |refine Fl.skip rfl rfl ?_ |refine AWP.condT rfl ?_ |(refine AWP.condD rfl ?_ ?_ <;> intro _ <;> try (exfalso; omega)) |apply qk |apply qt |(refine Fl.splitD rfl rfl ?_ ?_ <;> intro _ <;> try (exfalso; omega))))
 ·exact RetOk.of rfl (AV.Le.int (by unfold needI; repeat rw [if_neg (by omega)]))
 ·exact RetOk.of rfl (AV.Le.int (by unfold needI; repeat rw [if_neg (by omega)]))
 ·rename_i h0 h1
  obtain rfl | rfl | rfl | rfl : k = 0 ∨ k = 1 ∨ k = 2 ∨ k = 3 := by omega
  all_goals
   refine Fl.bArr rfl rfl rfl rfl ?_;(repeat' (first |refine qv ?_|fail));refine Fl.ixA rfl rfl rfl rfl rfl rfl rfl rfl rfl rfl ?_ ?_ ?_
   ·exact by decide
   ·exact by decide
   (repeat' (first |refine qv ?_ |apply qn |apply qt));exact RetOk.of rfl (AV.Le.refl _)
abbrev lB (l : LZ) : List (AL.Id × Bx) := [(900, .cells (eL l) 99)]
theorem link1_ok (l : LZ) (p : PZ) (hw : WP p) (b : Bool) (hb : b = true ↔ p.vars = l.vars.length ∧ OkP p) : IoFn Tryz.prog 175 [aP p, .ptr 900 0] (lB l) (.ret (aB !b)) (lB l) := by
 refine IoFn.of_body Tryz.func175 rfl Tryz.ntmps175 rfl rfl rfl ?_;(repeat' (first |refine qv ?_ |apply qn |apply qs |apply qr |refine qe ?_ |refine Fl.skip rfl rfl ?_ |apply qt |(refine Fl.splitN rfl rfl ?_ ?_ <;> intro _ <;> try (exfalso; omega))))
 ·rename_i h;refine ⟨⟨[], _, _, Ent.refl _ _ _, rfl, AV.Le.bool ?_, rfl, ⟨⟨⟨_, rfl, BLe.cells (LeL.refl _)⟩, rfl⟩, trivial⟩, rfl, rfl⟩⟩
  cases b with
  | false => rfl
  | true => exact absurd (hb.1 rfl).1 h
 ·rename_i h;refine qc (pValid_ok p hw b ⟨fun k => (hb.1 k).2, fun k => hb.2 ⟨h, k⟩⟩) ?_;(repeat' (first |refine qv ?_ |apply qn |apply qt));exact ⟨⟨[], _, _, Ent.refl _ _ _, rfl, AV.Le.refl _, rfl, ⟨⟨⟨_, rfl, BLe.cells (LeL.refl _)⟩, rfl⟩, trivial⟩, rfl, rfl⟩⟩
theorem indexP_ok (o : LZ) (f : PZ → Bool) (ps : List PZ) (hl : ps.length ≤ 1000000) (hf : ∀ p ∈ ps, IoFn Tryz.prog 175 ([aP p] ++ [.ptr 900 0]) (lB o) (.ret (aB (f p))) (lB o)) :
  IoFn Tryz.prog 200 [.sl 2 eP ps, .fn 175 [.ptr 900 0]] (lB o) (.ret (aN (idxI f ps 0))) (lB o) := by
 refine IoFn.of_body Tryz.func200 rfl Tryz.ntmps200 rfl rfl rfl ?_;(repeat' (first |refine qv ?_ |apply qn |apply qs |apply qr |apply qb));refine AWP.loop (G := Nat) (fun i => i ≤ ps.length ∧ idxI f (ps.drop i) i = idxI f ps 0) (fun i => St.of [900] [(0, .sl 2 eP ps), (1, .fn 175 [.ptr 900 0]), (7, aN ps.length), (8, aN i)] [(900, .cells (eL o) 99)]) (fun i => ps.length - i) 0 ⟨by omega, by simp⟩ ?_ ?_
 ·refine Ent.of [] ?_ ?_ rfl rfl;(repeat' (first |exact True.intro |refine ⟨⟨AV.Le.refl _, rfl⟩, ?_⟩ |refine ⟨⟨⟨_, rfl, BLe.cells (LeL.refl _)⟩, rfl⟩, ?_⟩|fail))
 ·intro i ⟨k0, k1⟩;(repeat' (first |refine qv ?_ |apply qn |apply qs |apply qr |(refine AWP.condD rfl ?_ ?_ <;> intro _ <;> try (exfalso; omega)) |apply qb |apply qk |apply qx |apply qt |(refine Fl.el rfl rfl rfl rfl rfl rfl rfl rfl (by omega) (by omega) ?_; intro _ _)|fail))
  ·rename_i hi p hp;rw [Int.toNat_natCast] at hp;have hd := idxI_drop (f := f) hp;refine Fl.ioV rfl rfl [] (hf p (List.mem_of_getElem? hp)) rfl rfl (LeL.refl _) rfl ⟨⟨⟨_, rfl, BLe.cells (LeL.refl _)⟩, rfl⟩, trivial⟩ rfl rfl rfl rfl rfl ?_;(repeat' (first |refine qv ?_ |apply qn |apply qs |apply qr |refine qw ?_ |apply qk |apply qt |(refine AWP.condB rfl ?_ ?_ <;> intro _)))
   ·rename_i hb;rw [if_pos hb] at hd;refine ⟨⟨[], _, _, Ent.refl _ _ _, rfl, AV.Le.int ?_, rfl, ⟨⟨⟨_, rfl, BLe.cells (LeL.refl _)⟩, rfl⟩, trivial⟩, rfl, rfl⟩⟩;rw [← k1, hd]
   ·rename_i hb;rw [if_neg (by rw [hb]; simp)] at hd;refine LoopEnd.of (i + 1) ⟨by omega, by rw [← k1, hd]⟩ (by omega) ?_;refine Ent.of [] ?_ ?_ rfl rfl;(repeat' (first |exact True.intro |refine ⟨⟨AV.Le.refl _, rfl⟩, ?_⟩ |refine ⟨⟨⟨_, rfl, BLe.cells (LeL.refl _)⟩, rfl⟩, ?_⟩|fail))
  ·refine ⟨⟨[], _, _, Ent.refl _ _ _, rfl, AV.Le.int ?_, rfl, ⟨⟨⟨_, rfl, BLe.cells (LeL.refl _)⟩, rfl⟩, trivial⟩, rfl, rfl⟩⟩;rw [← k1, List.drop_of_length_le (by omega)]; rfl
theorem containsP_ok (o : LZ) (f : PZ → Bool) (ps : List PZ) (hl : ps.length ≤ 1000000) (hf : ∀ p ∈ ps, IoFn Tryz.prog 175 ([aP p] ++ [.ptr 900 0]) (lB o) (.ret (aB (f p))) (lB o)) :
  IoFn Tryz.prog 174 [.sl 2 eP ps, .fn 175 [.ptr 900 0]] (lB o) (.ret (aB (ps.any f))) (lB o) := by
 refine IoFn.of_body Tryz.func174 rfl Tryz.ntmps174 rfl rfl rfl ?_;have h := indexP_ok o f ps hl hf;have he := idxI_any f ps 0 (by omega);(repeat' (first |refine qv ?_ |apply qn |apply qs |apply qr));refine qi [] h ?_;(repeat' (first |refine qv ?_ |apply qn |apply qt));exact ⟨⟨[], _, _, Ent.refl _ _ _, rfl, AV.Le.bool he, rfl, ⟨⟨⟨_, rfl, BLe.cells (LeL.refl _)⟩, rfl⟩, trivial⟩, rfl, rfl⟩⟩
abbrev sB (s : SZ) : List (AL.Id × Bx) := [(900, .cells [aN s.vars, .sl 3 eL s.links] 39)]
theorem indexL_ok (o : SZ) (f : LZ → Bool) (ps : List LZ) (hl : ps.length ≤ 1000000) (hf : ∀ p ∈ ps, IoFn Tryz.prog 134 ([aL p] ++ [.ptr 900 0]) (sB o) (.ret (aB (f p))) (sB o)) :
  IoFn Tryz.prog 172 [.sl 3 eL ps, .fn 134 [.ptr 900 0]] (sB o) (.ret (aN (idxI f ps 0))) (sB o) := by
 refine IoFn.of_body Tryz.func172 rfl Tryz.ntmps172 rfl rfl rfl ?_;(repeat' (first |refine qv ?_ |apply qn |apply qs |apply qr |apply qb));refine AWP.loop (G := Nat) (fun i => i ≤ ps.length ∧ idxI f (ps.drop i) i = idxI f ps 0) (fun i => St.of [900] [(0, .sl 3 eL ps), (1, .fn 134 [.ptr 900 0]), (7, aN ps.length), (8, aN i)] [(900, .cells [aN o.vars, .sl 3 eL o.links] 39)]) (fun i => ps.length - i) 0 ⟨by omega, by simp⟩ ?_ ?_
 ·refine Ent.of [] ?_ ?_ rfl rfl;(repeat' (first |exact True.intro |refine ⟨⟨AV.Le.refl _, rfl⟩, ?_⟩ |refine ⟨⟨⟨_, rfl, BLe.cells (LeL.refl _)⟩, rfl⟩, ?_⟩|fail))
 ·intro i ⟨k0, k1⟩;(repeat' (first |refine qv ?_ |apply qn |apply qs |apply qr |(refine AWP.condD rfl ?_ ?_ <;> intro _ <;> try (exfalso; omega)) |apply qb |apply qk |apply qx |apply qt |(refine Fl.el rfl rfl rfl rfl rfl rfl rfl rfl (by omega) (by omega) ?_; intro _ _)|fail))
  ·rename_i hi p hp;rw [Int.toNat_natCast] at hp;have hd := idxI_drop (f := f) hp;refine Fl.ioV rfl rfl [] (hf p (List.mem_of_getElem? hp)) rfl rfl (LeL.refl _) rfl ⟨⟨⟨_, rfl, BLe.cells (LeL.refl _)⟩, rfl⟩, trivial⟩ rfl rfl rfl rfl rfl ?_;(repeat' (first |refine qv ?_ |apply qn |apply qs |apply qr |refine qw ?_ |apply qk |apply qt |(refine AWP.condB rfl ?_ ?_ <;> intro _)))
   ·rename_i hb;rw [if_pos hb] at hd;refine ⟨⟨[], _, _, Ent.refl _ _ _, rfl, AV.Le.int ?_, rfl, ⟨⟨⟨_, rfl, BLe.cells (LeL.refl _)⟩, rfl⟩, trivial⟩, rfl, rfl⟩⟩;rw [← k1, hd]
   ·rename_i hb;rw [if_neg (by rw [hb]; simp)] at hd;refine LoopEnd.of (i + 1) ⟨by omega, by rw [← k1, hd]⟩ (by omega) ?_;refine Ent.of [] ?_ ?_ rfl rfl;(repeat' (first |exact True.intro |refine ⟨⟨AV.Le.refl _, rfl⟩, ?_⟩ |refine ⟨⟨⟨_, rfl, BLe.cells (LeL.refl _)⟩, rfl⟩, ?_⟩|fail))
  ·refine ⟨⟨[], _, _, Ent.refl _ _ _, rfl, AV.Le.int ?_, rfl, ⟨⟨⟨_, rfl, BLe.cells (LeL.refl _)⟩, rfl⟩, trivial⟩, rfl, rfl⟩⟩;rw [← k1, List.drop_of_length_le (by omega)]; rfl
theorem containsL_ok (o : SZ) (f : LZ → Bool) (ps : List LZ) (hl : ps.length ≤ 1000000) (hf : ∀ p ∈ ps, IoFn Tryz.prog 134 ([aL p] ++ [.ptr 900 0]) (sB o) (.ret (aB (f p))) (sB o)) :
  IoFn Tryz.prog 133 [.sl 3 eL ps, .fn 134 [.ptr 900 0]] (sB o) (.ret (aB (ps.any f))) (sB o) := by
 refine IoFn.of_body Tryz.func133 rfl Tryz.ntmps133 rfl rfl rfl ?_;have h := indexL_ok o f ps hl hf;have he := idxI_any f ps 0 (by omega);(repeat' (first |refine qv ?_ |apply qn |apply qs |apply qr));refine qi [] h ?_;(repeat' (first |refine qv ?_ |apply qn |apply qt));exact ⟨⟨[], _, _, Ent.refl _ _ _, rfl, AV.Le.bool he, rfl, ⟨⟨⟨_, rfl, BLe.cells (LeL.refl _)⟩, rfl⟩, trivial⟩, rfl, rfl⟩⟩
end Go.Proofs.YtmmfloplhopioaaGreat
namespace Go.AL
def lastI (d : Int) : List Int → Int
  | [] => d
  | x :: l => lastI x l
theorem incB_drop {last top : Int} : ∀ {l : List Int} {i : Nat} {v : Int}, l[i]? = some v → (incB (lastI last (l.take i)) top (l.drop i) ↔ lastI last (l.take i) < v ∧ v < top ∧ incB (lastI last (l.take (i + 1))) top (l.drop (i + 1)))
 | [], _, _, h => by simp at h
 | x :: l, 0, v, h => by simp at h; subst h; simp [lastI, incB]
 | x :: l, i + 1, v, h => by
  simp only [List.take_succ_cons, List.drop_succ_cons, lastI];exact incB_drop (last := x) (by simpa using h)
theorem lastI_snoc {d : Int} : ∀ {l : List Int} {i : Nat} {v : Int}, l[i]? = some v → lastI d (l.take (i + 1)) = v
 | [], _, _, h => by simp at h
 | x :: l, 0, v, h => by simp at h; subst h; simp [lastI]
 | x :: l, i + 1, v, h => by
  simp only [List.take_succ_cons, lastI];exact lastI_snoc (d := x) (by simpa using h)
end Go.AL
namespace Go.Proofs.YtmmfloplhopioaaGreat
open Go.AL
set_option maxHeartbeats 1000000 in
theorem link_ok (l : LZ) (vars : Int) (hw : WL l) (f : PZ → Bool) (hf : ∀ p ∈ l.polys, f p = true ↔ p.vars = l.vars.length ∧ OkP p) (b : Bool) (hb : b = true ↔ OkL vars l) : PureFn Tryz.prog 135 [aL l, aN vars] (aB b) := by
 refine PureFn.of_body Tryz.func135 rfl Tryz.ntmps135 rfl rfl ?_
 have hfalse : ¬ OkL vars l → false = b := fun h => by cases b with | false => rfl | true => exact absurd (hb.1 rfl) h
 have hn3 : needI l.kind ≤ 3 ∧ 0 ≤ needI l.kind := by unfold needI; repeat' split <;> omega
 (repeat' (first |refine qv ?_ |apply qn |apply qs |apply qr |refine qe ?_|fail));refine qc (needs_ok l.kind) ?_;(repeat' (first |refine qv ?_ |apply qn |refine Fl.nil (fun _ => by kernel_rfl) ?_ |apply qs |apply qr |refine Fl.skip rfl rfl ?_ |refine AWP.condT rfl ?_ |apply qt |(refine Fl.splitD rfl rfl ?_ ?_ <;> intro _ <;> try (exfalso; omega))))
 ·rename_i h; exact RetOk.of rfl (AV.Le.bool (hfalse fun k => k.kind h))
 refine qc (needs_ok l.kind) ?_;(repeat' (first |refine qv ?_ |apply qn |refine Fl.nil (fun _ => by kernel_rfl) ?_ |apply qs |apply qr |refine Fl.skip rfl rfl ?_ |refine AWP.condT rfl ?_ |(refine AWP.condD rfl ?_ ?_ <;> intro _ <;> try (exfalso; omega)) |apply qb |apply qk |apply qt |(refine Fl.splitN rfl rfl ?_ ?_ <;> intro _ <;> try (exfalso; omega))))
 ·rename_i h; exact RetOk.of rfl (AV.Le.bool (hfalse fun k => h k.len))
 ·rename_i h; exact RetOk.of rfl (AV.Le.bool (hfalse fun k => by have := k.vlen; omega))
 rename_i hk hlen hvl;refine AWP.loop (G := Nat) (fun i => i ≤ l.vars.length ∧ (incB (lastI (-1) (l.vars.take i)) vars (l.vars.drop i) ↔ incB (-1) vars l.vars)) (fun i => St.of [] [(1, aN vars), (2, .ptr 2 0), (5, aN (lastI (-1) (l.vars.take i))), (28, aI l.vars), (29, aN l.vars.length), (30, aN i)] [(2, .cells (eL l) 99)]) (fun i => l.vars.length - i) 0 ⟨by omega, by simp [lastI]⟩ ?_ ?_
 ·refine Ent.of [] ?_ ?_ rfl rfl;(repeat' (first |exact True.intro |refine ⟨⟨AV.Le.refl _, rfl⟩, ?_⟩ |refine ⟨⟨⟨_, rfl, BLe.cells (LeL.refl _)⟩, rfl⟩, ?_⟩|fail))
 ·intro i ⟨k0, k1⟩;(repeat' (first |refine qv ?_ |apply qn |apply qs |apply qr |refine qw ?_ |refine Fl.skip rfl rfl ?_ |refine AWP.condT rfl ?_ |(refine AWP.condD rfl ?_ ?_ <;> intro _ <;> try (exfalso; omega)) |apply qb |apply qk |apply qx |apply qt |(refine Fl.el rfl rfl rfl rfl rfl rfl rfl rfl (by omega) (by omega) ?_; intro _ _) |(refine Fl.splitD rfl rfl ?_ ?_ <;> intro _ <;> try (exfalso; omega))))
  ·rename_i hi v hv h1;rw [Int.toNat_natCast] at hv;rw [incB_drop hv] at k1;refine RetOk.of rfl (AV.Le.bool (hfalse fun k => ?_));have := k1.2 k.inc;omega
  ·rename_i hi v hv h1 h2;rw [Int.toNat_natCast] at hv;rw [incB_drop hv] at k1;refine RetOk.of rfl (AV.Le.bool (hfalse fun k => ?_));have := k1.2 k.inc;omega
  ·rename_i hi v hv h1 h2;rw [Int.toNat_natCast] at hv;rw [incB_drop hv] at k1;refine LoopEnd.of (i + 1) ⟨by omega, ?_⟩ (by omega) ?_
   ·rw [← k1];exact ⟨fun h => ⟨by omega, by omega, h⟩, fun h => h.2.2⟩
   ·refine Ent.of [] ?_ ?_ rfl rfl;(repeat' (first |exact True.intro |refine ⟨⟨AV.Le.refl _, rfl⟩, ?_⟩ |refine ⟨⟨⟨_, rfl, BLe.cells (LeL.refl _)⟩, rfl⟩, ?_⟩ |refine ⟨⟨AV.Le.int ?_, rfl⟩, ?_⟩|fail));exact (lastI_snoc hv).symm
  ·rename_i hi;have hd : l.vars.drop i = [] := List.drop_of_length_le (by omega);rw [hd] at k1;have hinc : incB (-1) vars l.vars := k1.1 trivial;have hc := containsP_ok l (fun p => !f p) l.polys (by omega) (fun p hp => link1_ok l p (hw p hp) (f p) (hf p hp));refine qi [(900, 2)] hc ?_;(repeat' (first |refine qv ?_ |apply qn |apply qt));refine RetOk.of rfl (AV.Le.bool ?_)
   have : (!l.polys.any fun p => !f p) = true ↔ OkL vars l := by
    rw [Bool.not_eq_true', List.any_eq_false];refine ⟨fun h => ⟨hk, hlen, by omega, hinc, fun p hp => (hf p hp).1 ?_⟩, fun k p hp => ?_⟩
    ·have := h p hp;simpa using this
    ·have := (hf p hp).2 (k.polys p hp);simp [this]
   cases b with
   | true => exact this.2 (hb.1 rfl)
   | false => exact Bool.eq_false_iff.2 fun h => by have := hb.2 (this.1 h); cases this
end Go.Proofs.YtmmfloplhopioaaGreat
