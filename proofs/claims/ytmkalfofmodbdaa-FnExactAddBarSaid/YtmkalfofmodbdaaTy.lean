/- Facts on the types and functions of this translation, each by computation. No statement of the seat is proved here. -/
import Derived.Test.YtmkalfofmodbdaaProg
import Derived.Test.YtmkalfofmodbdaaSd
namespace Go.Proofs.Ytmkalfofmodbdaa
open Go Go.RowKit
instance : Mixed Try.prog := ⟨by kernel_rfl⟩
instance : UI Try.prog 3 (.int .i64) := ⟨Try.underlying3⟩
instance : OneC Try.prog 3 := ⟨⟨_, Try.underlying3, rfl⟩, Option.map_eq_some_iff.1 (show (Try.prog.info? 3).map (·.size) = some 1 by kernel_rfl)⟩
instance : ZeroI Try.prog 3 (.int .i64 0) := ⟨by kernel_rfl⟩
instance : UI Try.prog 4 .bool := ⟨Try.underlying4⟩
instance : OneC Try.prog 4 := ⟨⟨_, Try.underlying4, rfl⟩, Option.map_eq_some_iff.1 (show (Try.prog.info? 4).map (·.size) = some 1 by kernel_rfl)⟩
instance : ZeroI Try.prog 4 (.bool false) := ⟨by kernel_rfl⟩
instance : UI Try.prog 5 (.int .u8) := ⟨Try.underlying5⟩
instance : OneC Try.prog 5 := ⟨⟨_, Try.underlying5, rfl⟩, Option.map_eq_some_iff.1 (show (Try.prog.info? 5).map (·.size) = some 1 by kernel_rfl)⟩
instance : ZeroI Try.prog 5 (.int .u8 0) := ⟨by kernel_rfl⟩
instance : UI Try.prog 9 .string := ⟨Try.underlying9⟩
instance : OneC Try.prog 9 := ⟨⟨_, Try.underlying9, rfl⟩, Option.map_eq_some_iff.1 (show (Try.prog.info? 9).map (·.size) = some 1 by kernel_rfl)⟩
instance : ZeroI Try.prog 9 (.string .empty) := ⟨by kernel_rfl⟩
instance : UI Try.prog 22 (.slice 51) := ⟨Try.underlying22⟩
instance : OneC Try.prog 22 := ⟨⟨_, Try.underlying22, rfl⟩, Option.map_eq_some_iff.1 (show (Try.prog.info? 22).map (·.size) = some 1 by kernel_rfl)⟩
instance : ZeroI Try.prog 22 (.slice none 0 0) := ⟨by kernel_rfl⟩
instance : SlI Try.prog 22 51 (.agg #[.int .i64 0, .int .i64 0]) 2 16 := ⟨Try.underlying22, by kernel_rfl, rfl, by decide, by decide⟩
instance : FlatI Try.prog 24 [.int .i64 0, .slice none 0 0] := ⟨by kernel_rfl, by kernel_rfl⟩
instance : UI Try.prog 26 (.slice 40) := ⟨Try.underlying26⟩
instance : OneC Try.prog 26 := ⟨⟨_, Try.underlying26, rfl⟩, Option.map_eq_some_iff.1 (show (Try.prog.info? 26).map (·.size) = some 1 by kernel_rfl)⟩
instance : ZeroI Try.prog 26 (.slice none 0 0) := ⟨by kernel_rfl⟩
instance : SlI Try.prog 26 40 (.agg #[.int .i64 0, .int .i64 0]) 2 16 := ⟨Try.underlying26, by kernel_rfl, rfl, by decide, by decide⟩
instance : FlatI Try.prog 28 [.int .i64 0, .slice none 0 0] := ⟨by kernel_rfl, by kernel_rfl⟩
instance : FlatI Try.prog 40 [.int .i64 0, .int .i64 0] := ⟨by kernel_rfl, by kernel_rfl⟩
instance : BarI Try.prog 40 := ⟨by kernel_rfl⟩
instance : FlatI Try.prog 51 [.int .i64 0, .int .i64 0] := ⟨by kernel_rfl, by kernel_rfl⟩
instance : BarI Try.prog 51 := ⟨by kernel_rfl⟩
instance : FnI Try.prog 3 := ⟨Try.f3, Try.func3, rfl, by decide⟩
instance : FnI Try.prog 4 := ⟨Try.f4, Try.func4, rfl, by decide⟩
instance : FnI Try.prog 5 := ⟨Try.f5, Try.func5, rfl, by decide⟩
instance : FnI Try.prog 6 := ⟨Try.f6, Try.func6, rfl, by decide⟩
instance : FnI Try.prog 7 := ⟨Try.f7, Try.func7, rfl, by decide⟩
instance : FnI Try.prog 8 := ⟨Try.f8, Try.func8, rfl, by decide⟩
instance : FnI Try.prog 9 := ⟨Try.f9, Try.func9, rfl, by decide⟩
instance : FnI Try.prog 10 := ⟨Try.f10, Try.func10, rfl, by decide⟩
instance : FnI Try.prog 11 := ⟨Try.f11, Try.func11, rfl, by decide⟩
instance : FnI Try.prog 12 := ⟨Try.f12, Try.func12, rfl, by decide⟩
instance : FnI Try.prog 13 := ⟨Try.f13, Try.func13, rfl, by decide⟩
instance : FnI Try.prog 14 := ⟨Try.f14, Try.func14, rfl, by decide⟩
instance : FnI Try.prog 15 := ⟨Try.f15, Try.func15, rfl, by decide⟩
instance : FnI Try.prog 16 := ⟨Try.f16, Try.func16, rfl, by decide⟩
instance : FnI Try.prog 17 := ⟨Try.f17, Try.func17, rfl, by decide⟩
instance : FnI Try.prog 18 := ⟨Try.f18, Try.func18, rfl, by decide⟩
instance : FnI Try.prog 19 := ⟨Try.f19, Try.func19, rfl, by decide⟩
instance : FnI Try.prog 20 := ⟨Try.f20, Try.func20, rfl, by decide⟩
instance : FnI Try.prog 21 := ⟨Try.f21, Try.func21, rfl, by decide⟩
instance : FnI Try.prog 22 := ⟨Try.f22, Try.func22, rfl, by decide⟩
instance : FnI Try.prog 23 := ⟨Try.f23, Try.func23, rfl, by decide⟩
instance : FnI Try.prog 24 := ⟨Try.f24, Try.func24, rfl, by decide⟩
instance : FnI Try.prog 25 := ⟨Try.f25, Try.func25, rfl, by decide⟩
instance : FnI Try.prog 26 := ⟨Try.f26, Try.func26, rfl, by decide⟩
instance : FnI Try.prog 27 := ⟨Try.f27, Try.func27, rfl, by decide⟩
instance : FnI Try.prog 28 := ⟨Try.f28, Try.func28, rfl, by decide⟩
instance : FnI Try.prog 29 := ⟨Try.f29, Try.func29, rfl, by decide⟩
instance : FnI Try.prog 30 := ⟨Try.f30, Try.func30, rfl, by decide⟩
instance : FnI Try.prog 31 := ⟨Try.f31, Try.func31, rfl, by decide⟩
instance : FnI Try.prog 32 := ⟨Try.f32, Try.func32, rfl, by decide⟩
instance : FnI Try.prog 33 := ⟨Try.f33, Try.func33, rfl, by decide⟩
instance : FnI Try.prog 34 := ⟨Try.f34, Try.func34, rfl, by decide⟩
instance : FnI Try.prog 35 := ⟨Try.f35, Try.func35, rfl, by decide⟩
instance : FnI Try.prog 36 := ⟨Try.f36, Try.func36, rfl, by decide⟩
instance : FnI Try.prog 37 := ⟨Try.f37, Try.func37, rfl, by decide⟩
instance : FnI Try.prog 38 := ⟨Try.f38, Try.func38, rfl, by decide⟩
instance : FnI Try.prog 39 := ⟨Try.f39, Try.func39, rfl, by decide⟩
instance : FnI Try.prog 40 := ⟨Try.f40, Try.func40, rfl, by decide⟩
instance : FnI Try.prog 41 := ⟨Try.f41, Try.func41, rfl, by decide⟩
instance : FnI Try.prog 42 := ⟨Try.f42, Try.func42, rfl, by decide⟩
instance : FnI Try.prog 43 := ⟨Try.f43, Try.func43, rfl, by decide⟩
instance : FnI Try.prog 44 := ⟨Try.f44, Try.func44, rfl, by decide⟩
instance : FnI Try.prog 45 := ⟨Try.f45, Try.func45, rfl, by decide⟩
instance : FnI Try.prog 46 := ⟨Try.f46, Try.func46, rfl, by decide⟩
instance : FnI Try.prog 47 := ⟨Try.f47, Try.func47, rfl, by decide⟩
instance : FnI Try.prog 48 := ⟨Try.f48, Try.func48, rfl, by decide⟩
end Go.Proofs.Ytmkalfofmodbdaa
