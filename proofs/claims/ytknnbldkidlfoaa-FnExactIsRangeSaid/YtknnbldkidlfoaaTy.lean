/- Facts on the types and functions of this translation, each by computation. No statement of the seat is proved here. -/
import Derived.Test.YtknnbldkidlfoaaProg
import Derived.Test.YtknnbldkidlfoaaSh
namespace Go.Proofs.Ytknnbldkidlfoaa
open Go Go.RowKit
instance : Mixed Try.prog := ⟨by kernel_rfl⟩
instance : UI Try.prog 3 (.int .i64) := ⟨Try.underlying3⟩
instance : OneC Try.prog 3 := ⟨⟨_, Try.underlying3, rfl⟩, Option.map_eq_some_iff.1 (show (Try.prog.info? 3).map (·.size) = some 1 by kernel_rfl)⟩
instance : ZeroI Try.prog 3 (.int .i64 0) := ⟨by kernel_rfl⟩
instance : UI Try.prog 4 .bool := ⟨Try.underlying4⟩
instance : OneC Try.prog 4 := ⟨⟨_, Try.underlying4, rfl⟩, Option.map_eq_some_iff.1 (show (Try.prog.info? 4).map (·.size) = some 1 by kernel_rfl)⟩
instance : ZeroI Try.prog 4 (.bool false) := ⟨by kernel_rfl⟩
instance : UI Try.prog 5 (.int .u8) := ⟨Try.underlying5⟩
instance : OneC Try.prog 5 := ⟨⟨_, Try.underlying5, rfl⟩, Option.map_eq_some_iff.1 (show (Try.prog.info? 5).map (·.size) = some 1 by kernel_rfl)⟩
instance : ZeroI Try.prog 5 (.int .u8 0) := ⟨by kernel_rfl⟩
instance : UI Try.prog 9 .string := ⟨Try.underlying9⟩
instance : OneC Try.prog 9 := ⟨⟨_, Try.underlying9, rfl⟩, Option.map_eq_some_iff.1 (show (Try.prog.info? 9).map (·.size) = some 1 by kernel_rfl)⟩
instance : ZeroI Try.prog 9 (.string .empty) := ⟨by kernel_rfl⟩
instance : UI Try.prog 33 (.slice 5) := ⟨Try.underlying33⟩
instance : OneC Try.prog 33 := ⟨⟨_, Try.underlying33, rfl⟩, Option.map_eq_some_iff.1 (show (Try.prog.info? 33).map (·.size) = some 1 by kernel_rfl)⟩
instance : ZeroI Try.prog 33 (.slice none 0 0) := ⟨by kernel_rfl⟩
instance : SlI Try.prog 33 5 (.int .u8 0) 1 1 := ⟨Try.underlying33, by kernel_rfl, rfl, by decide, by decide⟩
instance : FnI Try.prog 3 := ⟨Try.f3, Try.func3, rfl, by decide⟩
instance : FnI Try.prog 4 := ⟨Try.f4, Try.func4, rfl, by decide⟩
instance : FnI Try.prog 5 := ⟨Try.f5, Try.func5, rfl, by decide⟩
instance : FnI Try.prog 6 := ⟨Try.f6, Try.func6, rfl, by decide⟩
instance : FnI Try.prog 7 := ⟨Try.f7, Try.func7, rfl, by decide⟩
instance : FnI Try.prog 8 := ⟨Try.f8, Try.func8, rfl, by decide⟩
instance : FnI Try.prog 9 := ⟨Try.f9, Try.func9, rfl, by decide⟩
instance : FnI Try.prog 10 := ⟨Try.f10, Try.func10, rfl, by decide⟩
instance : FnI Try.prog 11 := ⟨Try.f11, Try.func11, rfl, by decide⟩
instance : FnI Try.prog 12 := ⟨Try.f12, Try.func12, rfl, by decide⟩
instance : FnI Try.prog 13 := ⟨Try.f13, Try.func13, rfl, by decide⟩
instance : FnI Try.prog 14 := ⟨Try.f14, Try.func14, rfl, by decide⟩
instance : FnI Try.prog 15 := ⟨Try.f15, Try.func15, rfl, by decide⟩
instance : FnI Try.prog 16 := ⟨Try.f16, Try.func16, rfl, by decide⟩
instance : FnI Try.prog 17 := ⟨Try.f17, Try.func17, rfl, by decide⟩
instance : FnI Try.prog 18 := ⟨Try.f18, Try.func18, rfl, by decide⟩
instance : FnI Try.prog 19 := ⟨Try.f19, Try.func19, rfl, by decide⟩
instance : FnI Try.prog 20 := ⟨Try.f20, Try.func20, rfl, by decide⟩
instance : FnI Try.prog 21 := ⟨Try.f21, Try.func21, rfl, by decide⟩
end Go.Proofs.Ytknnbldkidlfoaa
