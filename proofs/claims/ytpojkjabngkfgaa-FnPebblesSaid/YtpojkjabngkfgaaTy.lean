/- Facts on the types and functions of this translation, each by computation. No statement of the seat is proved here. -/
import Derived.Test.YtpojkjabngkfgaaProg
import Derived.Test.YtpojkjabngkfgaaSd
namespace Go.Proofs.Ytpojkjabngkfgaa
open Go Go.RowKit
instance : Mixed Try.prog := ⟨by kernel_rfl⟩
instance : UI Try.prog 3 (.int .i64) := ⟨Try.underlying3⟩
instance : OneC Try.prog 3 := ⟨⟨_, Try.underlying3, rfl⟩, Option.map_eq_some_iff.1 (show (Try.prog.info? 3).map (·.size) = some 1 by kernel_rfl)⟩
instance : ZeroI Try.prog 3 (.int .i64 0) := ⟨by kernel_rfl⟩
instance : UI Try.prog 4 .bool := ⟨Try.underlying4⟩
instance : OneC Try.prog 4 := ⟨⟨_, Try.underlying4, rfl⟩, Option.map_eq_some_iff.1 (show (Try.prog.info? 4).map (·.size) = some 1 by kernel_rfl)⟩
instance : ZeroI Try.prog 4 (.bool false) := ⟨by kernel_rfl⟩
instance : UI Try.prog 5 (.int .u8) := ⟨Try.underlying5⟩
instance : OneC Try.prog 5 := ⟨⟨_, Try.underlying5, rfl⟩, Option.map_eq_some_iff.1 (show (Try.prog.info? 5).map (·.size) = some 1 by kernel_rfl)⟩
instance : ZeroI Try.prog 5 (.int .u8 0) := ⟨by kernel_rfl⟩
instance : UI Try.prog 9 .string := ⟨Try.underlying9⟩
instance : OneC Try.prog 9 := ⟨⟨_, Try.underlying9, rfl⟩, Option.map_eq_some_iff.1 (show (Try.prog.info? 9).map (·.size) = some 1 by kernel_rfl)⟩
instance : ZeroI Try.prog 9 (.string .empty) := ⟨by kernel_rfl⟩
instance : UI Try.prog 22 (.slice 5) := ⟨Try.underlying22⟩
instance : OneC Try.prog 22 := ⟨⟨_, Try.underlying22, rfl⟩, Option.map_eq_some_iff.1 (show (Try.prog.info? 22).map (·.size) = some 1 by kernel_rfl)⟩
instance : ZeroI Try.prog 22 (.slice none 0 0) := ⟨by kernel_rfl⟩
instance : SlI Try.prog 22 5 (.int .u8 0) 1 1 := ⟨Try.underlying22, by kernel_rfl, rfl, by decide, by decide⟩
instance : UI Try.prog 24 (.slice 59) := ⟨Try.underlying24⟩
instance : OneC Try.prog 24 := ⟨⟨_, Try.underlying24, rfl⟩, Option.map_eq_some_iff.1 (show (Try.prog.info? 24).map (·.size) = some 1 by kernel_rfl)⟩
instance : ZeroI Try.prog 24 (.slice none 0 0) := ⟨by kernel_rfl⟩
instance : SlI Try.prog 24 59 (.agg #[.int .i64 0, .int .i64 0]) 2 16 := ⟨Try.underlying24, by kernel_rfl, rfl, by decide, by decide⟩
instance : FlatI Try.prog 26 [.int .i64 0, .slice none 0 0] := ⟨by kernel_rfl, by kernel_rfl⟩
instance : UI Try.prog 29 (.slice 3) := ⟨Try.underlying29⟩
instance : OneC Try.prog 29 := ⟨⟨_, Try.underlying29, rfl⟩, Option.map_eq_some_iff.1 (show (Try.prog.info? 29).map (·.size) = some 1 by kernel_rfl)⟩
instance : ZeroI Try.prog 29 (.slice none 0 0) := ⟨by kernel_rfl⟩
instance : SlI Try.prog 29 3 (.int .i64 0) 1 8 := ⟨Try.underlying29, by kernel_rfl, rfl, by decide, by decide⟩
instance : FlatI Try.prog 31 [.slice none 0 0, .slice none 0 0, .slice none 0 0] := ⟨by kernel_rfl, by kernel_rfl⟩
instance : FlatI Try.prog 59 [.int .i64 0, .int .i64 0] := ⟨by kernel_rfl, by kernel_rfl⟩
instance : BarI Try.prog 59 := ⟨by kernel_rfl⟩
instance : OneC Try.prog 63 := ⟨⟨_, Try.underlying63, rfl⟩, Option.map_eq_some_iff.1 (show (Try.prog.info? 63).map (·.size) = some 1 by kernel_rfl)⟩
instance : OneC Try.prog 69 := ⟨⟨_, Try.underlying69, rfl⟩, Option.map_eq_some_iff.1 (show (Try.prog.info? 69).map (·.size) = some 1 by kernel_rfl)⟩
instance : FlatI Try.prog 83 [.slice none 0 0, .int .i64 0, .int .i64 0] := ⟨by kernel_rfl, by kernel_rfl⟩
instance : OneC Try.prog 90 := ⟨⟨_, Try.underlying90, rfl⟩, Option.map_eq_some_iff.1 (show (Try.prog.info? 90).map (·.size) = some 1 by kernel_rfl)⟩
instance : MapT Try.prog 90 3 3 := ⟨Try.underlying90, Try.underlying3, Try.underlying3, by kernel_rfl⟩
instance : UI Try.prog 93 (.slice 4) := ⟨Try.underlying93⟩
instance : OneC Try.prog 93 := ⟨⟨_, Try.underlying93, rfl⟩, Option.map_eq_some_iff.1 (show (Try.prog.info? 93).map (·.size) = some 1 by kernel_rfl)⟩
instance : ZeroI Try.prog 93 (.slice none 0 0) := ⟨by kernel_rfl⟩
instance : SlI Try.prog 93 4 (.bool false) 1 1 := ⟨Try.underlying93, by kernel_rfl, rfl, by decide, by decide⟩
instance : FnI Try.prog 3 := ⟨Try.f3, Try.func3, rfl, by decide⟩
instance : FnI Try.prog 4 := ⟨Try.f4, Try.func4, rfl, by decide⟩
instance : FnI Try.prog 5 := ⟨Try.f5, Try.func5, rfl, by decide⟩
instance : FnI Try.prog 6 := ⟨Try.f6, Try.func6, rfl, by decide⟩
instance : FnI Try.prog 7 := ⟨Try.f7, Try.func7, rfl, by decide⟩
instance : FnI Try.prog 8 := ⟨Try.f8, Try.func8, rfl, by decide⟩
instance : FnI Try.prog 9 := ⟨Try.f9, Try.func9, rfl, by decide⟩
instance : FnI Try.prog 10 := ⟨Try.f10, Try.func10, rfl, by decide⟩
instance : FnI Try.prog 11 := ⟨Try.f11, Try.func11, rfl, by decide⟩
instance : FnI Try.prog 12 := ⟨Try.f12, Try.func12, rfl, by decide⟩
instance : FnI Try.prog 13 := ⟨Try.f13, Try.func13, rfl, by decide⟩
instance : FnI Try.prog 14 := ⟨Try.f14, Try.func14, rfl, by decide⟩
instance : FnI Try.prog 15 := ⟨Try.f15, Try.func15, rfl, by decide⟩
instance : FnI Try.prog 16 := ⟨Try.f16, Try.func16, rfl, by decide⟩
instance : FnI Try.prog 17 := ⟨Try.f17, Try.func17, rfl, by decide⟩
instance : FnI Try.prog 18 := ⟨Try.f18, Try.func18, rfl, by decide⟩
instance : FnI Try.prog 19 := ⟨Try.f19, Try.func19, rfl, by decide⟩
instance : FnI Try.prog 20 := ⟨Try.f20, Try.func20, rfl, by decide⟩
instance : FnI Try.prog 21 := ⟨Try.f21, Try.func21, rfl, by decide⟩
instance : FnI Try.prog 22 := ⟨Try.f22, Try.func22, rfl, by decide⟩
instance : FnI Try.prog 23 := ⟨Try.f23, Try.func23, rfl, by decide⟩
instance : FnI Try.prog 24 := ⟨Try.f24, Try.func24, rfl, by decide⟩
instance : FnI Try.prog 25 := ⟨Try.f25, Try.func25, rfl, by decide⟩
instance : FnI Try.prog 26 := ⟨Try.f26, Try.func26, rfl, by decide⟩
instance : FnI Try.prog 27 := ⟨Try.f27, Try.func27, rfl, by decide⟩
instance : FnI Try.prog 28 := ⟨Try.f28, Try.func28, rfl, by decide⟩
instance : FnI Try.prog 29 := ⟨Try.f29, Try.func29, rfl, by decide⟩
instance : FnI Try.prog 30 := ⟨Try.f30, Try.func30, rfl, by decide⟩
instance : FnI Try.prog 31 := ⟨Try.f31, Try.func31, rfl, by decide⟩
instance : FnI Try.prog 32 := ⟨Try.f32, Try.func32, rfl, by decide⟩
instance : FnI Try.prog 33 := ⟨Try.f33, Try.func33, rfl, by decide⟩
instance : FnI Try.prog 34 := ⟨Try.f34, Try.func34, rfl, by decide⟩
instance : FnI Try.prog 35 := ⟨Try.f35, Try.func35, rfl, by decide⟩
instance : FnI Try.prog 36 := ⟨Try.f36, Try.func36, rfl, by decide⟩
instance : FnI Try.prog 37 := ⟨Try.f37, Try.func37, rfl, by decide⟩
instance : FnI Try.prog 38 := ⟨Try.f38, Try.func38, rfl, by decide⟩
instance : FnI Try.prog 39 := ⟨Try.f39, Try.func39, rfl, by decide⟩
instance : FnI Try.prog 40 := ⟨Try.f40, Try.func40, rfl, by decide⟩
instance : FnI Try.prog 41 := ⟨Try.f41, Try.func41, rfl, by decide⟩
instance : FnI Try.prog 42 := ⟨Try.f42, Try.func42, rfl, by decide⟩
instance : FnI Try.prog 43 := ⟨Try.f43, Try.func43, rfl, by decide⟩
instance : FnI Try.prog 44 := ⟨Try.f44, Try.func44, rfl, by decide⟩
instance : FnI Try.prog 45 := ⟨Try.f45, Try.func45, rfl, by decide⟩
instance : FnI Try.prog 46 := ⟨Try.f46, Try.func46, rfl, by decide⟩
instance : FnI Try.prog 47 := ⟨Try.f47, Try.func47, rfl, by decide⟩
instance : FnI Try.prog 48 := ⟨Try.f48, Try.func48, rfl, by decide⟩
instance : FnI Try.prog 49 := ⟨Try.f49, Try.func49, rfl, by decide⟩
instance : FnI Try.prog 50 := ⟨Try.f50, Try.func50, rfl, by decide⟩
instance : FnI Try.prog 51 := ⟨Try.f51, Try.func51, rfl, by decide⟩
instance : FnI Try.prog 52 := ⟨Try.f52, Try.func52, rfl, by decide⟩
instance : FnI Try.prog 53 := ⟨Try.f53, Try.func53, rfl, by decide⟩
instance : FnI Try.prog 54 := ⟨Try.f54, Try.func54, rfl, by decide⟩
instance : FnI Try.prog 55 := ⟨Try.f55, Try.func55, rfl, by decide⟩
instance : FnI Try.prog 56 := ⟨Try.f56, Try.func56, rfl, by decide⟩
instance : FnI Try.prog 57 := ⟨Try.f57, Try.func57, rfl, by decide⟩
instance : FnI Try.prog 58 := ⟨Try.f58, Try.func58, rfl, by decide⟩
instance : FnI Try.prog 59 := ⟨Try.f59, Try.func59, rfl, by decide⟩
instance : FnI Try.prog 60 := ⟨Try.f60, Try.func60, rfl, by decide⟩
instance : FnI Try.prog 61 := ⟨Try.f61, Try.func61, rfl, by decide⟩
instance : FnI Try.prog 62 := ⟨Try.f62, Try.func62, rfl, by decide⟩
instance : FnI Try.prog 63 := ⟨Try.f63, Try.func63, rfl, by decide⟩
instance : FnI Try.prog 64 := ⟨Try.f64, Try.func64, rfl, by decide⟩
instance : FnI Try.prog 65 := ⟨Try.f65, Try.func65, rfl, by decide⟩
instance : FnI Try.prog 66 := ⟨Try.f66, Try.func66, rfl, by decide⟩
instance : FnI Try.prog 67 := ⟨Try.f67, Try.func67, rfl, by decide⟩
instance : FnI Try.prog 68 := ⟨Try.f68, Try.func68, rfl, by decide⟩
instance : FnI Try.prog 69 := ⟨Try.f69, Try.func69, rfl, by decide⟩
instance : FnI Try.prog 70 := ⟨Try.f70, Try.func70, rfl, by decide⟩
instance : FnI Try.prog 71 := ⟨Try.f71, Try.func71, rfl, by decide⟩
instance : FnI Try.prog 72 := ⟨Try.f72, Try.func72, rfl, by decide⟩
instance : FnI Try.prog 73 := ⟨Try.f73, Try.func73, rfl, by decide⟩
end Go.Proofs.Ytpojkjabngkfgaa
