/- Contracts of functions of the program, each walked once; written by a program of our own. -/
import Derived.Test.YtlcijjkbgcllfaaDcG
import Derived.Test.YtlcijjkbgcllfaaDdG
import Derived.Test.YtlcijjkbgcllfaaGhG
import Derived.Test.YtlcijjkbgcllfaaMu
namespace Go.Proofs.Ytlcijjkbgcllfaa
open Go Go.RowKit
set_option maxRecDepth 4000

theorem l1Spoil_c (cb i0 : Nat) (h0 : Int) (vb : Value) (xb : List UInt8) (s : List UInt8) (w : World) (hi0 : i0 ≤ xb.length) (hlb : xb.length ≤ 1048576) (hls : s.length ≤ 100000) :
    CM Try.prog 119 [.pointer (some ⟨cb, 0, none⟩), .string (bs s)] w [.cells cb 127 [vb, .int .i64 (i0 : Int), .int .i64 h0]] [.ro vb 1 (xb.map yv)] (List UInt8 × Nat × Int) (fun x => x.1.length ≤ s.length + 200 ∧ x.2.1 ≤ xb.length) (fun x => .string (bs x.1)) (fun x => [.cells cb 127 [vb, .int .i64 (x.2.1 : Int), .int .i64 x.2.2]]) := by
 intro hSt
 refine calls_of_J (mu := (muOf [.cells cb 127 [vb, .int .i64 (i0 : Int), .int .i64 h0]])) (m := [.cells cb 127 [vb, .int .i64 (i0 : Int), .int .i64 h0], .ro vb 1 (xb.map yv)]) (e := [(0, .pointer (some ⟨cb, 0, none⟩)), (1, .string (bs s))]) Try.func119 rfl rfl (.cons rfl (.cons rfl .nil)) (hSt) ?_
 refine J.seq ?_
 refine J.reg ?_
 refine WL.rd (RD.assign rfl) rfl rfl ?_
 refine WL.nil ?_
 refine JE.seqN ?_
 refine J.seq ?_
 refine J.seq ?_
 refine J.reg ?_
 refine WL.rd (RD.move rfl) rfl rfl ?_
 refine WL.rd (RD.lenS rfl) rfl rfl ?_
 refine WL.rd (RD.eql rfl rfl) rfl rfl ?_
 refine WL.nil ?_
 refine JE.seqN ?_
 refine J.condP rfl (fun hc8 => ?_) (fun hc8 => ?_)
 ·
  refine J.seq ?_
  refine J.reg ?_
  refine WL.rd (RD.move rfl) rfl rfl ?_
  refine WL.efS (EF.callM (.cons rfl (.cons rfl .nil)) (.cells .nil) (.ro .nil) (fun w hS => l1Text_c _ _ _ vb xb _ _ (by first | omega | exact Nat.zero_le _) (by omega) (by omega)) (by simp [En.rdb])) rfl rfl ?_
  rintro x10 ⟨hx10, hi10⟩
  refine WL.rd (RD.assign rfl) rfl rfl ?_
  refine WL.nil ?_
  refine JE.seqN ?_
  refine J.ret ?_
  refine JE.ret rfl (.tmp rfl .nil) (fun w hS => ?_)
  exact CM.fin hS (x10.1, x10.2.1, x10.2.2) rfl (by dsimp only; omega) (SubM.cells rfl rfl .nil) (by simp [En.rdb])
 ·
  refine J.skip ?_
  refine JE.seqN ?_
  refine J.seq ?_
  refine J.reg ?_
  refine WL.rd (RD.move rfl) rfl rfl ?_
  refine WL.rd (RD.move rfl) rfl rfl ?_
  refine WL.rd (RD.lenS rfl) rfl rfl ?_
  refine WL.efS (EF.callM (.cons rfl (.cons rfl .nil)) (.cells .nil) (.ro .nil) (fun w hS => l1Below_c _ _ _ vb xb _ _ (by first | omega | exact Nat.zero_le _) (by omega)) (by simp [En.rdb])) rfl rfl ?_
  rintro x14 ⟨hx14, hi14⟩
  refine WL.rd (RD.assign rfl) rfl rfl ?_
  refine WL.nil ?_
  refine JE.seqN ?_
  refine J.seq ?_
  refine J.seq ?_
  refine J.reg ?_
  refine WL.rd (RD.move rfl) rfl rfl ?_
  refine WL.efS (EF.callM (.cons rfl (.cons rfl .nil)) (.cells .nil) (.ro .nil) (fun w hS => l1Below_c _ _ _ vb xb _ _ (by first | omega | exact Nat.zero_le _) (by omega)) (by simp [En.rdb])) rfl rfl ?_
  rintro x16 ⟨hx16, hi16⟩
  refine WL.nil ?_
  refine JE.seqN ?_
  refine J.block ?_
  refine J.seq ?_
  refine J.reg ?_
  refine WL.rd (RD.eql rfl rfl) rfl rfl ?_
  refine WL.rd (RD.assign rfl) rfl rfl ?_
  refine WL.nil ?_
  refine JE.seqN ?_
  refine J.condP rfl (fun hc17 => ?_) (fun hc17 => ?_)
  ·
   refine J.seq ?_
   refine J.anyAll [] ?_
   refine WA.takeP 0 rfl (RDP.of fun _ => RD.move rfl) rfl (by kernel_rfl) rfl ?_
   refine WA.takeP 1 rfl (RDP.of fun _ => RD.move rfl) rfl (by kernel_rfl) rfl ?_
   refine WA.takeP 2 rfl (RDP.of fun _ => RD.sliceS (l := 0) (u := x14.1.toNat) rfl rfl ⟨_, _, rfl, (by first | rfl | (simp; done) | omega)⟩ (by omega) (by omega)) rfl (by kernel_rfl) rfl ?_
   refine WA.takeP 3 rfl (RDP.of fun _ => RD.move rfl) rfl (by kernel_rfl) rfl ?_
   refine WA.takeP 4 rfl (RDP.of fun _ => RD.move rfl) rfl (by kernel_rfl) rfl ?_
   refine WA.takeP 5 rfl (RDP.of fun _ => RD.add rfl rfl (by omega) (by omega)) rfl (by kernel_rfl) rfl ?_
   refine WA.takeP 6 rfl (RDP.of fun _ => RD.sliceS (l := x14.1.toNat + 1) (u := s.length) rfl ⟨_, _, rfl, (by first | rfl | (simp; done) | omega)⟩ rfl (by omega) (by omega)) rfl (by kernel_rfl) rfl ?_
   refine WA.takeP 7 rfl (RDP.of fun _ => RD.addS rfl rfl (by simp only [List.length_take, List.length_drop]; omega)) rfl (by kernel_rfl) rfl ?_
   refine WA.takeP 8 rfl (RDP.of fun _ => RD.assign rfl) rfl (by kernel_rfl) rfl ?_
   refine WA.done (by kernel_rfl) ?_
   refine JE.seqN ?_
   refine J.ret ?_
   refine JE.ret rfl (.tmp rfl .nil) (fun w hS => ?_)
   exact CM.fin hS (_, x16.2.1, x16.2.2) rfl ⟨(by simp only [List.length_append, List.length_take, List.length_drop]; omega), hi16⟩ (SubM.cells rfl rfl .nil) (by simp [En.rdb])
  ·
   refine J.seq ?_
   refine J.reg ?_
   refine WL.rd (RD.eql rfl rfl) rfl rfl ?_
   refine WL.rd (RD.assign rfl) rfl rfl ?_
   refine WL.nil ?_
   refine JE.seqN ?_
   refine J.condP rfl (fun hc27 => ?_) (fun hc27 => ?_)
   ·
    refine J.seq ?_
    refine J.anyDropC [6, 7] (cb) ?_
    refine WA.takeP 0 rfl (RDP.of fun _ => RD.move rfl) rfl (by kernel_rfl) rfl ?_
    refine WA.takeP 1 rfl (RDP.of fun _ => RD.move rfl) rfl (by kernel_rfl) rfl ?_
    refine WA.takeP 2 rfl (RDP.of fun _ => RD.sliceS (l := 0) (u := x14.1.toNat) rfl rfl ⟨_, _, rfl, (by first | rfl | (simp; done) | omega)⟩ (by omega) (by omega)) rfl (by kernel_rfl) rfl ?_
    refine WA.takeP 3 rfl (RDP.of fun _ => RD.move rfl) rfl (by kernel_rfl) rfl ?_
    refine WA.takeP 9 rfl (RDP.of fun _ => RD.move rfl) rfl (by kernel_rfl) rfl ?_
    refine WA.takeP 10 rfl (RDP.of fun _ => RD.move rfl) rfl (by kernel_rfl) rfl ?_
    refine WA.takeP 11 rfl (RDP.of fun _ => RD.sliceS (l := x14.1.toNat) (u := s.length) rfl ⟨_, _, rfl, (by first | rfl | (simp; done) | omega)⟩ rfl (by omega) (by omega)) rfl (by kernel_rfl) rfl ?_
    refine WA.one (i := 4) (by kernel_rfl) ?_
    refine WAi.efS rfl (EF.callM (.cons rfl .nil) (.cells .nil) (.ro .nil) (fun w hS => l1Byte_c _ _ _ vb xb _ (by first | omega | exact Nat.zero_le _) (by omega)) (by simp [En.rdb])) rfl rfl (fun _ => SubI.sub) ?_
    rintro x33 ⟨hx33, hi33⟩
    refine WA.takeP 5 rfl (RDP.of fun _ => RD.convB rfl) rfl (by kernel_rfl) rfl ?_
    refine WA.one (i := 6) (by kernel_rfl) ?_
    refine WAi.efSL rfl (EF.build1 rfl) rfl rfl rfl ?_
    intro v35 _
    refine WB.efS (i := 7) (by kernel_rfl) rfl (EF.rd (RD.toStr (l := [UInt8.ofNat (x33.1 % 256).toNat]) rfl rfl rfl)) rfl rfl rfl ?_
    rintro ⟨⟩ -
    refine WB.takeP 8 rfl (RDP.of fun _ => RD.addS rfl rfl (by simp only [List.length_take, List.length_drop, List.length_singleton]; omega)) rfl (by kernel_rfl) rfl ?_
    refine WB.takeP 12 rfl (RDP.of fun _ => RD.addS rfl rfl (by simp only [List.length_append, List.length_take, List.length_drop, List.length_singleton]; omega)) rfl (by kernel_rfl) rfl ?_
    refine WB.takeP 13 rfl (RDP.of fun _ => RD.assign rfl) rfl (by kernel_rfl) rfl ?_
    refine WB.done (by kernel_rfl) ?_
    refine JE.seqN ?_
    refine J.ret ?_
    refine JE.ret rfl (.tmp rfl .nil) (fun w hS => ?_)
    exact CM.fin hS (_, x33.2.1, x33.2.2) rfl ⟨(by simp only [List.length_append, List.length_take, List.length_drop, List.length_singleton]; omega), hi33⟩ (SubM.cells rfl rfl .nil) (by simp [En.rdb])
   ·
    refine J.seq ?_
    refine J.reg ?_
    refine WL.rd (RD.eql rfl rfl) rfl rfl ?_
    refine WL.rd (RD.assign rfl) rfl rfl ?_
    refine WL.nil ?_
    refine JE.seqN ?_
    refine J.condP rfl (fun hc42 => ?_) (fun hc42 => ?_)
    ·
     refine J.seq ?_
     refine J.reg ?_
     refine WL.rd (RD.move rfl) rfl rfl ?_
     refine WL.rd (RD.move rfl) rfl rfl ?_
     refine WL.rd (RD.sliceS (l := 0) (u := x14.1.toNat) rfl rfl ⟨_, _, rfl, (by first | rfl | (simp; done) | omega)⟩ (by omega) (by omega)) rfl rfl ?_
     refine WL.rd (RD.assign rfl) rfl rfl ?_
     refine WL.nil ?_
     refine JE.seqN ?_
     refine J.ret ?_
     refine JE.ret rfl (.tmp rfl .nil) (fun w hS => ?_)
     exact CM.fin hS (_, x16.2.1, x16.2.2) rfl ⟨(by simp only [List.length_take]; omega), hi16⟩ (SubM.cells rfl rfl .nil) (by simp [En.rdb])
    ·
     refine J.skip ?_
     refine JE.blockN ?_
     refine JE.seqN ?_
     refine J.seq ?_
     have hbk : (s.getD x14.1.toNat 0).toNat < 256 := (s.getD x14.1.toNat 0).toNat_lt
     refine J.anyDropC [12, 13] (cb) ?_
     refine WA.takeP 0 rfl (RDP.of fun _ => RD.move rfl) rfl (by kernel_rfl) rfl ?_
     refine WA.takeP 1 rfl (RDP.of fun _ => RD.move rfl) rfl (by kernel_rfl) rfl ?_
     refine WA.takeP 2 rfl (RDP.of fun _ => RD.sliceS (l := 0) (u := x14.1.toNat) rfl rfl ⟨_, _, rfl, (by first | rfl | (simp; done) | omega)⟩ (by omega) (by omega)) rfl (by kernel_rfl) rfl ?_
     refine WA.takeP 3 rfl (RDP.of fun _ => RD.move rfl) rfl (by kernel_rfl) rfl ?_
     refine WA.takeP 4 rfl (RDP.of fun _ => RD.move rfl) rfl (by kernel_rfl) rfl ?_
     refine WA.takeP 5 rfl (RDP.of fun _ => RD.indexS (j := x14.1.toNat) (hj := ⟨by omega⟩) rfl rfl (by omega)) rfl (by kernel_rfl) rfl ?_
     refine WA.takeP 6 rfl (RDP.of fun _ => RD.convI rfl (by omega) (by omega)) rfl (by kernel_rfl) rfl ?_
     refine WA.takeP 7 rfl (RDP.of fun _ => RD.move rfl) rfl (by kernel_rfl) rfl ?_
     refine WA.takeP 15 rfl (RDP.of fun _ => RD.move rfl) rfl (by kernel_rfl) rfl ?_
     refine WA.takeP 16 rfl (RDP.of fun _ => RD.move rfl) rfl (by kernel_rfl) rfl ?_
     refine WA.takeP 17 rfl (RDP.of fun _ => RD.add rfl rfl (by omega) (by omega)) rfl (by kernel_rfl) rfl ?_
     refine WA.takeP 18 rfl (RDP.of fun _ => RD.sliceS (l := x14.1.toNat + 1) (u := s.length) rfl ⟨_, _, rfl, (by first | rfl | (simp; done) | omega)⟩ rfl (by omega) (by omega)) rfl (by kernel_rfl) rfl ?_
     refine WA.one (i := 8) (by kernel_rfl) ?_
     refine WAi.efS rfl (EF.callM (.cons rfl (.cons rfl .nil)) (.cells .nil) (.ro .nil) (fun w hS => l1Below_c _ _ _ vb xb _ _ (by first | omega | exact Nat.zero_le _) (by omega)) (by simp [En.rdb])) rfl rfl (fun _ => SubI.sub) ?_
     rintro x55 ⟨hx55, hi55⟩
     refine WA.takeP 9 rfl (RDP.of fun _ => RD.add rfl rfl (by omega) (by omega)) rfl (by kernel_rfl) rfl ?_
     refine WA.takeP 10 rfl (RDP.of fun _ => RD.bxor rfl rfl) rfl (by kernel_rfl) rfl ?_
     refine WA.takeP 11 rfl (RDP.of fun _ => RD.convB rfl) rfl (by kernel_rfl) rfl ?_
     refine WA.one (i := 12) (by kernel_rfl) ?_
     refine WAi.efSL rfl (EF.build1 rfl) rfl rfl rfl ?_
     intro v59 _
     refine WB.efS (i := 13) (by kernel_rfl) rfl (EF.rd (RD.toStr (l := [_]) rfl rfl rfl)) rfl rfl rfl ?_
     rintro ⟨⟩ -
     refine WB.takeP 14 rfl (RDP.of fun _ => RD.addS rfl rfl (by simp only [List.length_take, List.length_drop, List.length_singleton]; omega)) rfl (by kernel_rfl) rfl ?_
     refine WB.takeP 19 rfl (RDP.of fun _ => RD.addS rfl rfl (by simp only [List.length_append, List.length_take, List.length_drop, List.length_singleton]; omega)) rfl (by kernel_rfl) rfl ?_
     refine WB.takeP 20 rfl (RDP.of fun _ => RD.assign rfl) rfl (by kernel_rfl) rfl ?_
     refine WB.done (by kernel_rfl) ?_
     refine JE.seqN ?_
     refine J.ret ?_
     refine JE.ret rfl (.tmp rfl .nil) (fun w hS => ?_)
     exact CM.fin hS (_, x55.2.1, x55.2.2) rfl ⟨(by simp only [List.length_append, List.length_take, List.length_drop, List.length_singleton]; omega), hi55⟩ (SubM.cells rfl rfl .nil) (by simp [En.rdb])
theorem DrawParseGraph_c (vb : Value) (xb : List UInt8) (w : World) (hr : Rd w vb 1 (xb.map yv)) (hlb : xb.length ≤ 1048576) :
    CN Try.prog 36 [vb] w (List UInt8) (fun x => x.length ≤ 100000) (fun x => .string (bs x)) (fun _x => []) := by
 refine calls_of_J (mu := (fun _ => False)) (m := [.ro vb 1 (xb.map yv)]) (e := [(0, vb)]) Try.func36 rfl rfl (.cons rfl .nil) (((St.init _ _).ro0 hr (by decide))) ?_
 refine J.seq ?_
 refine J.reg ?_
 refine WL.rd (RD.assign rfl) rfl rfl ?_
 refine WL.nil ?_
 refine JE.seqN ?_
 refine J.seq ?_
 refine J.reg ?_
 refine WL.rd (RD.move rfl) rfl rfl ?_
 refine WL.efS (EF.callN (.cons rfl .nil) (fun w hS => l1New_c vb xb _ (by exact RdI.rd hS) (by omega))) rfl rfl ?_
 rintro c6 -
 refine WL.rd (RD.assign rfl) rfl rfl ?_
 refine WL.nil ?_
 refine JE.seqN ?_
 refine J.seq ?_
 refine J.reg ?_
 refine WL.rd (RD.move rfl) rfl rfl ?_
 refine WL.efS (EF.callM (.cons rfl .nil) (.cells .nil) (.ro .nil) (fun w hS => l2Any_c _ _ _ vb xb _ (by first | omega | exact Nat.zero_le _) (by omega)) (by simp [En.rdb])) rfl rfl ?_
 rintro x8 ⟨hx8, hi8⟩
 have hfl := fmtG_len x8.1 x8.2.1
 refine WL.efS (EF.callS (.cons rfl .nil) (fun w hS => sFormatGraph_c _ _ _ _ (by exact RdI.rd hS))) rfl rfl ?_
 rintro ⟨⟩ -
 refine WL.rd (RD.assign rfl) rfl rfl ?_
 refine WL.nil ?_
 refine JE.seqN ?_
 refine J.seq ?_
 refine J.seq ?_
 refine J.reg ?_
 refine WL.rd (RD.move rfl) rfl rfl ?_
 refine WL.efS (EF.callM (.cons rfl (.cons rfl .nil)) (.cells .nil) (.ro .nil) (fun w hS => l1Below_c _ _ _ vb xb _ _ (by first | omega | exact Nat.zero_le _) (by omega)) (by simp [En.rdb])) rfl rfl ?_
 rintro x11 ⟨hx11, hi11⟩
 refine WL.nil ?_
 refine JE.seqN ?_
 refine J.block ?_
 refine J.seq ?_
 refine J.reg ?_
 refine WL.rd (RD.eql rfl rfl) rfl rfl ?_
 refine WL.rd (RD.assign rfl) rfl rfl ?_
 refine WL.nil ?_
 refine JE.seqN ?_
 refine J.condP rfl (fun hc12 => ?_) (fun hc12 => ?_)
 ·
  refine J.seq ?_
  refine J.reg ?_
  refine WL.rd (RD.move rfl) rfl rfl ?_
  refine WL.rd (RD.move rfl) rfl rfl ?_
  refine WL.efS (EF.callM (.cons rfl (.cons rfl .nil)) (.cells .nil) (.ro .nil) (fun w hS => l1Spoil_c _ _ _ vb xb _ _ (by first | omega | exact Nat.zero_le _) (by omega) (by omega)) (by simp [En.rdb])) rfl rfl ?_
  rintro x16 ⟨hx16, hi16⟩
  refine WL.rd (RD.assign rfl) rfl rfl ?_
  refine WL.nil ?_
  refine JE.seqN ?_
  refine J.ret ?_
  refine JE.ret rfl (.tmp rfl .nil) (fun w hS => ?_)
  exact CN.fin hS x16.1 rfl (by omega) .nil (by simp [En.rdb])
 ·
  refine J.seq ?_
  refine J.reg ?_
  refine WL.rd (RD.eql rfl rfl) rfl rfl ?_
  refine WL.rd (RD.assign rfl) rfl rfl ?_
  refine WL.nil ?_
  refine JE.seqN ?_
  refine J.condP rfl (fun hc17 => ?_) (fun hc17 => ?_)
  ·
   refine J.seq ?_
   refine J.reg ?_
   refine WL.rd (RD.move rfl) rfl rfl ?_
   refine WL.efS (EF.buildN [.string (bs []), .string (bs [51]), .string (bs [51, 58]), .string (bs [50, 58, 32, 48, 45, 49]), .string (bs [50, 58, 32, 49, 45, 48]), .string (bs [50, 58, 32, 48, 45, 49, 32, 48, 45, 49]), .string (bs [50, 58, 32, 32, 48, 45, 49]), .string (bs [57, 58]), .string (bs [50, 58, 32, 48, 45, 50]), .string (bs [48, 50, 58]), .string (bs [51, 59, 32, 48, 45, 49])] (([[], [51], [51, 58], [50, 58, 32, 48, 45, 49], [50, 58, 32, 49, 45, 48], [50, 58, 32, 48, 45, 49, 32, 48, 45, 49], [50, 58, 32, 32, 48, 45, 49], [57, 58], [50, 58, 32, 48, 45, 50], [48, 50, 58], [51, 59, 32, 48, 45, 49]] : List (List UInt8)).map sv) (.cons rfl (.cons rfl (.cons rfl (.cons rfl (.cons rfl (.cons rfl (.cons rfl (.cons rfl (.cons rfl (.cons rfl (.cons rfl .nil))))))))))) rfl rfl (by simp [Value.cells]) rfl (by decide)) rfl rfl ?_
   intro v20 _
   refine WL.efS (EF.callM (.cons rfl (.cons rfl .nil)) (.cells .nil) (.ro (.ro .nil)) (fun w hS => l1Pick_c _ _ _ vb xb _ _ _ (by first | omega | exact Nat.zero_le _) (by omega) (by simp) (by simp)) (by simp [En.rdb])) rfl rfl ?_
   rintro x21 ⟨hx21, hi21⟩
   have hp21 : x21.1.length ≤ 20 := (show ∀ z ∈ ([[], [51], [51, 58], [50, 58, 32, 48, 45, 49], [50, 58, 32, 49, 45, 48], [50, 58, 32, 48, 45, 49, 32, 48, 45, 49], [50, 58, 32, 32, 48, 45, 49], [57, 58], [50, 58, 32, 48, 45, 50], [48, 50, 58], [51, 59, 32, 48, 45, 49]] : List (List UInt8)), z.length ≤ 20 by decide) _ hx21
   refine WL.rd (RD.assign rfl) rfl rfl ?_
   refine WL.nil ?_
   refine JE.seqN ?_
   refine J.ret ?_
   refine JE.ret rfl (.tmp rfl .nil) (fun w hS => ?_)
   exact CN.fin hS x21.1 rfl (by omega) .nil (by simp [En.rdb])
  ·
   refine J.skip ?_
   refine JE.blockN ?_
   refine JE.seqN ?_
   refine J.seq ?_
   refine J.reg ?_
   refine WL.rd (RD.move rfl) rfl rfl ?_
   refine WL.rd (RD.assign rfl) rfl rfl ?_
   refine WL.nil ?_
   refine JE.seqN ?_
   refine J.ret ?_
   refine JE.ret rfl (.tmp rfl .nil) (fun w hS => ?_)
   exact CN.fin hS (fmtG x8.1 x8.2.1) rfl (by omega) .nil (by simp [En.rdb])
theorem DrawCompleteGraph_c (vb : Value) (xb : List UInt8) (w : World) (hr : Rd w vb 1 (xb.map yv)) (hlb : xb.length ≤ 1048576) :
    CN Try.prog 40 [vb] w (Int) (fun x => -1 ≤ x ∧ x ≤ 9) (fun x => .int .i64 x) (fun _x => []) := by
 refine calls_of_J (mu := (fun _ => False)) (m := [.ro vb 1 (xb.map yv)]) (e := [(0, vb)]) Try.func40 rfl rfl (.cons rfl .nil) (((St.init _ _).ro0 hr (by decide))) ?_
 refine J.seq ?_
 refine J.reg ?_
 refine WL.rd (RD.assign rfl) rfl rfl ?_
 refine WL.nil ?_
 refine JE.seqN ?_
 refine J.seq ?_
 refine J.reg ?_
 refine WL.rd (RD.move rfl) rfl rfl ?_
 refine WL.efS (EF.callN (.cons rfl .nil) (fun w hS => l1New_c vb xb _ (by exact RdI.rd hS) (by omega))) rfl rfl ?_
 rintro c4 -
 refine WL.efS (EF.callM (.cons rfl (.cons rfl .nil)) (.cells .nil) (.ro .nil) (fun w hS => l1Below_c _ _ _ vb xb _ _ (by first | omega | exact Nat.zero_le _) (by omega)) (by simp [En.rdb])) rfl rfl ?_
 rintro x5 ⟨hx5, hi5⟩
 refine WL.rd (RD.sub rfl rfl (by omega) (by omega)) rfl rfl ?_
 refine WL.rd (RD.assign rfl) rfl rfl ?_
 refine WL.nil ?_
 refine JE.seqN ?_
 refine J.ret ?_
 refine JE.ret rfl (.tmp rfl .nil) (fun w hS => ?_)
 exact CN.fin hS (x5.1 - 1) rfl (by constructor <;> omega) .nil (by simp [En.rdb])
theorem DrawEqualGraphs_c (vb : Value) (xb : List UInt8) (w : World) (hr : Rd w vb 1 (xb.map yv)) (hlb : xb.length ≤ 1048576) :
    CN Try.prog 39 [vb] w (Int × List (Int × Int) × Value × Int × List (Int × Int) × Value) (fun x => x.2.1.length ≤ 25 ∧ x.2.2.2.2.1.length ≤ 25) (fun x => .tuple #[.agg #[.int .i64 x.1, x.2.2.1], .agg #[.int .i64 x.2.2.2.1, x.2.2.2.2.2]]) (fun x => [.row x.2.2.1 50 2 ((x.2.1).map bv), .row x.2.2.2.2.2 50 2 ((x.2.2.2.2.1).map bv)]) := by
 refine calls_of_J (mu := (fun _ => False)) (m := [.ro vb 1 (xb.map yv)]) (e := [(0, vb)]) Try.func39 rfl rfl (.cons rfl .nil) (((St.init _ _).ro0 hr (by decide))) ?_
 refine J.seq ?_
 refine J.reg ?_
 refine WL.efS (EF.allocA) rfl rfl ?_
 intro b2 _
 refine WL.efS (EF.allocA) rfl rfl ?_
 intro b3 _
 refine WL.nil ?_
 refine JE.seqN ?_
 refine J.seq ?_
 refine J.reg ?_
 refine WL.rd (RD.move rfl) rfl rfl ?_
 refine WL.efS (EF.callN (.cons rfl .nil) (fun w hS => l1New_c vb xb _ (by exact RdI.rd hS) (by omega))) rfl rfl ?_
 rintro c7 -
 refine WL.rd (RD.assign rfl) rfl rfl ?_
 refine WL.nil ?_
 refine JE.seqN ?_
 refine J.seq ?_
 refine J.reg ?_
 refine WL.rd (RD.move rfl) rfl rfl ?_
 refine WL.efS (EF.callM (.cons rfl .nil) (.cells .nil) (.ro .nil) (fun w hS => l2Any_c _ _ _ vb xb _ (by first | omega | exact Nat.zero_le _) (by omega)) (by simp [En.rdb])) rfl rfl ?_
 rintro x9 ⟨hx9, hi9⟩
 refine WL.efS (EF.allocA) rfl rfl ?_
 intro b5 _
 refine WL.efN (EF.storeA rfl rfl rfl rfl) rfl ?_
 rintro ⟨⟩ -
 refine WL.nil ?_
 refine JE.seqN ?_
 refine J.seq ?_
 refine J.seq ?_
 refine J.reg ?_
 refine WL.rd (RD.move rfl) rfl rfl ?_
 refine WL.efS (EF.callM (.cons rfl (.cons rfl .nil)) (.cells .nil) (.ro .nil) (fun w hS => l1Once_c _ _ _ vb xb _ _ (by first | omega | exact Nat.zero_le _) (by omega)) (by simp [En.rdb])) rfl rfl ?_
 rintro x11 hi11
 refine WL.nil ?_
 refine JE.seqN ?_
 refine J.cond rfl (fun hc11 => ?_) (fun hc11 => ?_)
 ·
  refine J.seq ?_
  refine J.any [] [.cells b5 26 [.int .i64 x9.1, x9.2.2.1], .row x9.2.2.1 50 2 ((x9.2.1).map bv), .ro vb 1 (xb.map yv)] SubI.sub ?_
  refine WA.take 0 rfl (RD.loadA rfl rfl) rfl (by kernel_rfl) rfl ?_
  refine WA.take 1 rfl (RD.loadA rfl rfl) rfl (by kernel_rfl) rfl ?_
  refine WA.one (i := 2) (by kernel_rfl) ?_
  refine WAi.efS rfl (EF.callN (.cons rfl .nil) (fun w hS => l2Copy_c _ _ _ _ (by exact RdI.rd hS) (by omega))) rfl rfl (fun _ => SubI.sub) ?_
  rintro v14 -
  refine WA.one (i := 3) (by kernel_rfl) ?_
  refine WAi.efN rfl (EF.storeA rfl rfl rfl rfl) rfl (fun _ => SubI.sub) ?_
  rintro ⟨⟩ -
  refine WA.one (i := 4) (by kernel_rfl) ?_
  refine WAi.efN rfl (EF.storeA rfl rfl rfl rfl) rfl (fun _ => SubI.sub) ?_
  rintro ⟨⟩ -
  refine WA.done (by kernel_rfl) ?_
  refine JE.seqN ?_
  refine J.ret ?_
  refine JE.ret rfl (ResL.flat rfl rfl (ResL.flat rfl rfl .nil)) (fun w hS => ?_)
  exact CN.fin hS (x9.1, x9.2.1, x9.2.2.1, x9.1, x9.2.1, v14) rfl (by dsimp only; omega) (SubM.row rfl rfl rfl (SubM.row rfl rfl rfl .nil)) (by simp [En.rdb])
 ·
  refine J.skip ?_
  refine JE.seqN ?_
  refine J.seq ?_
  refine J.any [] [.cells b5 26 [.int .i64 x9.1, x9.2.2.1], .row x9.2.2.1 50 2 ((x9.2.1).map bv), .ro vb 1 (xb.map yv)] SubI.sub ?_
  refine WA.take 0 rfl (RD.loadA rfl rfl) rfl (by kernel_rfl) rfl ?_
  refine WA.takeP 1 rfl (RDP.of fun _ => RD.move rfl) rfl (by kernel_rfl) rfl ?_
  refine WA.one (i := 2) (by kernel_rfl) ?_
  refine WAi.efS rfl (EF.callM (.cons rfl .nil) (.cells .nil) (.ro .nil) (fun w hS => l2Any_c _ _ _ vb xb _ (by first | omega | exact Nat.zero_le _) (by omega)) (by simp [En.rdb])) rfl rfl (fun _ => SubI.sub) ?_
  rintro x17 ⟨hx17, hi17⟩
  refine WA.one (i := 3) (by kernel_rfl) ?_
  refine WAi.efN rfl (EF.storeA rfl rfl rfl rfl) rfl (fun _ => SubI.sub) ?_
  rintro ⟨⟩ -
  refine WA.one (i := 4) (by kernel_rfl) ?_
  refine WAi.efN rfl (EF.storeA rfl rfl rfl rfl) rfl (fun _ => SubI.sub) ?_
  rintro ⟨⟩ -
  refine WA.done (by kernel_rfl) ?_
  refine JE.seqN ?_
  refine J.ret ?_
  refine JE.ret rfl (ResL.flat rfl rfl (ResL.flat rfl rfl .nil)) (fun w hS => ?_)
  exact CN.fin hS (x9.1, x9.2.1, x9.2.2.1, x17.1, x17.2.1, x17.2.2.1) rfl (by dsimp only; omega) (SubM.row rfl rfl rfl (SubM.row rfl rfl rfl .nil)) (by simp [En.rdb])
theorem DrawOnlyBars_c (vb : Value) (xb : List UInt8) (w : World) (hr : Rd w vb 1 (xb.map yv)) (hlb : xb.length ≤ 1048576) :
    CN Try.prog 43 [vb] w (Int × List (Int × Int) × Value × List Int × Value) (fun x => ((-1 ≤ x.1 ∧ x.1 ≤ 9) ∧ x.2.1.length ≤ 25 ∧ bOk x.2.1) ∧ x.2.2.2.1.length ≤ 25) (fun x => .tuple #[.agg #[.int .i64 x.1, x.2.2.1], x.2.2.2.2]) (fun x => [.row x.2.2.1 50 2 ((x.2.1).map bv), .row x.2.2.2.2 3 1 ((x.2.2.2.1).map iv)]) := by
 refine calls_of_J (mu := (fun _ => False)) (m := [.ro vb 1 (xb.map yv)]) (e := [(0, vb)]) Try.func43 rfl rfl (.cons rfl .nil) (((St.init _ _).ro0 hr (by decide))) ?_
 refine J.seq ?_
 refine J.reg ?_
 refine WL.efS (EF.allocA) rfl rfl ?_
 intro b2 _
 refine WL.rd (RD.assign rfl) rfl rfl ?_
 refine WL.nil ?_
 refine JE.seqN ?_
 refine J.seq ?_
 refine J.reg ?_
 refine WL.rd (RD.move rfl) rfl rfl ?_
 refine WL.efS (EF.callN (.cons rfl .nil) (fun w hS => l1New_c vb xb _ (by exact RdI.rd hS) (by omega))) rfl rfl ?_
 rintro c9 -
 refine WL.rd (RD.assign rfl) rfl rfl ?_
 refine WL.nil ?_
 refine JE.seqN ?_
 refine J.seq ?_
 refine J.reg ?_
 refine WL.rd (RD.move rfl) rfl rfl ?_
 refine WL.efS (EF.callM (.cons rfl .nil) (.cells .nil) (.ro .nil) (fun w hS => l2Any_c _ _ _ vb xb _ (by first | omega | exact Nat.zero_le _) (by omega)) (by simp [En.rdb])) rfl rfl ?_
 rintro x11 ⟨hx11, hi11⟩
 refine WL.efS (EF.allocA) rfl rfl ?_
 intro b5 _
 refine WL.efN (EF.storeA rfl rfl rfl rfl) rfl ?_
 rintro ⟨⟩ -
 refine WL.nil ?_
 refine JE.seqN ?_
 refine J.seq ?_
 refine J.reg ?_
 refine WL.efS (EF.build0) rfl rfl ?_
 intro v12 _
 refine WL.rd (RD.assign rfl) rfl rfl ?_
 refine WL.nil ?_
 refine JE.seqN ?_
 refine J.seq ?_
 refine J.seq ?_
 refine J.reg ?_
 refine WL.rd (RD.assign rfl) rfl rfl ?_
 refine WL.nil ?_
 refine JE.seqN ?_
 refine J.block ?_
 refine J.loop (fun gg ee mm => ∃ (k : Nat), ∃ (ks : List Int), ∃ (u : Value), ∃ (i : Nat), ∃ (h : Int), gg = x11.2.1.length - k ∧ ((k ≤ x11.2.1.length) ∧ (ks.length ≤ k) ∧ (i ≤ xb.length)) ∧ ee = [(6, u), (7, .int .i64 (k : Int)), (2, .pointer (some ⟨b2, 0, none⟩)), (4, .pointer (some ⟨c9.1, 0, none⟩)), (5, .pointer (some ⟨b5, 0, none⟩))] ∧ mm = [.row u 3 1 ((ks).map iv), .cells b5 26 [.int .i64 x11.1, x11.2.2.1], .row x11.2.2.1 50 2 ((x11.2.1).map bv), .cells c9.1 127 [vb, .int .i64 (i : Int), .int .i64 h], .cells b2 26 [.int .i64 0, .slice none 0 0], .ro vb 1 (xb.map yv)]) _ ⟨0, [], v12, x11.2.2.2.1, x11.2.2.2.2, rfl, ?_, rfl, rfl⟩ ?_ ?_ ?_
 · exact ⟨by omega, by simp, by omega⟩
 · exact (Sub.consE rfl (by first | rfl | (congr 1; omega) | (simp; done)) (Sub.consE rfl (by first | rfl | (congr 1; omega) | (simp; done)) (Sub.consE rfl (by first | rfl | (congr 1; omega) | (simp; done)) (Sub.consE rfl (by first | rfl | (congr 1; omega) | (simp; done)) (Sub.consE rfl (by first | rfl | (congr 1; omega) | (simp; done)) .nil)))))
 · exact (SubM.row rfl rfl (by first | rfl | (simp [iv, bv, yv, tv, sv]; done)) (SubM.cells rfl (by first | rfl | (simp; done)) (SubM.row rfl rfl (by first | rfl | (simp [iv, bv, yv, tv, sv]; done)) (SubM.cells rfl (by first | rfl | (simp; done)) (SubM.cells rfl (by first | rfl | (simp; done)) (SubM.ro rfl (by first | rfl | (simp [iv, bv, yv, tv, sv]; done)) .nil))))))
 ·
  rintro g _ _ ⟨k, ks, u, i, h, rfl, hI, rfl, rfl⟩
  refine J.seq ?_
  refine J.seq ?_
  refine J.reg ?_
  refine WL.rd (RD.move rfl) rfl rfl ?_
  refine WL.rd (RD.fieldC rfl rfl) rfl rfl ?_
  refine WL.rd (RD.loadC rfl rfl) rfl rfl ?_
  refine WL.rd (RD.lenR rfl) rfl rfl ?_
  refine WL.rd (RD.lss rfl rfl) rfl rfl ?_
  refine WL.nil ?_
  refine JE.seqN ?_
  refine J.condP rfl (fun hc17 => ?_) (fun hc17 => ?_)
  ·
   refine J.skip ?_
   refine JE.seqN ?_
   refine J.seq ?_
   refine J.block ?_
   refine J.seq ?_
   refine J.reg ?_
   refine WL.rd (RD.move rfl) rfl rfl ?_
   refine WL.efS (EF.callM (.cons rfl (.cons rfl .nil)) (.cells .nil) (.ro .nil) (fun w hS => l1Once_c _ _ _ vb xb _ _ (by first | omega | exact Nat.zero_le _) (by omega)) (by simp [En.rdb])) rfl rfl ?_
   rintro x21 hi21
   refine WL.nil ?_
   refine JE.seqN ?_
   refine J.cond rfl (fun hc21 => ?_) (fun hc21 => ?_)
   ·
    refine J.reg ?_
    refine WL.rd (RD.move rfl) rfl rfl ?_
    refine WL.rd (RD.move rfl) rfl rfl ?_
    refine WL.efS (EF.build1 rfl) rfl rfl ?_
    intro v24 _
    refine WL.efS (EF.append rfl rfl (by omega) rfl rfl rfl) rfl rfl ?_
    intro v25 _
    refine WL.rd (RD.assign rfl) rfl rfl ?_
    refine WL.nil ?_
    refine JE.blockN ?_
    refine JE.seqN ?_
    refine J.reg ?_
    refine WL.rd (RD.move rfl) rfl rfl ?_
    refine WL.rd (RD.add rfl rfl (by omega) (by omega)) rfl rfl ?_
    refine WL.rd (RD.assign rfl) rfl rfl ?_
    refine WL.nil ?_
    refine JE.cutN ⟨_, ?_, k + 1, ks ++ [(k : Int)], v25, x21.2.1, x21.2.2, rfl, ?_, rfl, rfl⟩ ?_ ?_
    · omega
    · exact ⟨by omega, by simp; omega, by omega⟩
    · exact (Sub.consE rfl (by first | rfl | (congr 1; omega) | (simp; done)) (Sub.consE rfl (by first | rfl | (congr 1; omega) | (simp; done)) (Sub.consE rfl (by first | rfl | (congr 1; omega) | (simp; done)) (Sub.consE rfl (by first | rfl | (congr 1; omega) | (simp; done)) (Sub.consE rfl (by first | rfl | (congr 1; omega) | (simp; done)) .nil)))))
    · exact (SubM.row rfl rfl (by first | rfl | (simp [iv, bv, yv, tv, sv]; done)) (SubM.cells rfl (by first | rfl | (simp; done)) (SubM.row rfl rfl (by first | rfl | (simp [iv, bv, yv, tv, sv]; done)) (SubM.cells rfl (by first | rfl | (simp; done)) (SubM.cells rfl (by first | rfl | (simp; done)) (SubM.ro rfl (by first | rfl | (simp [iv, bv, yv, tv, sv]; done)) .nil))))))
   ·
    refine J.skip ?_
    refine JE.blockN ?_
    refine JE.seqN ?_
    refine J.reg ?_
    refine WL.rd (RD.move rfl) rfl rfl ?_
    refine WL.rd (RD.add rfl rfl (by omega) (by omega)) rfl rfl ?_
    refine WL.rd (RD.assign rfl) rfl rfl ?_
    refine WL.nil ?_
    refine JE.cutN ⟨_, ?_, k + 1, ks, u, x21.2.1, x21.2.2, rfl, ?_, rfl, rfl⟩ ?_ ?_
    · omega
    · exact ⟨by omega, by omega, by omega⟩
    · exact (Sub.consE rfl (by first | rfl | (congr 1; omega) | (simp; done)) (Sub.consE rfl (by first | rfl | (congr 1; omega) | (simp; done)) (Sub.consE rfl (by first | rfl | (congr 1; omega) | (simp; done)) (Sub.consE rfl (by first | rfl | (congr 1; omega) | (simp; done)) (Sub.consE rfl (by first | rfl | (congr 1; omega) | (simp; done)) .nil)))))
    · exact (SubM.row rfl rfl (by first | rfl | (simp [iv, bv, yv, tv, sv]; done)) (SubM.cells rfl (by first | rfl | (simp; done)) (SubM.row rfl rfl (by first | rfl | (simp [iv, bv, yv, tv, sv]; done)) (SubM.cells rfl (by first | rfl | (simp; done)) (SubM.cells rfl (by first | rfl | (simp; done)) (SubM.ro rfl (by first | rfl | (simp [iv, bv, yv, tv, sv]; done)) .nil))))))
  ·
   refine J.exit ?_
   refine JE.seqX ?_
   refine JE.cutX ?_
   refine JE.blockHit ?_
   refine JE.seqN ?_
   refine J.seq ?_
   refine J.reg ?_
   refine WL.rd (RD.loadA rfl rfl) rfl rfl ?_
   refine WL.rd (RD.move rfl) rfl rfl ?_
   refine WL.efN (EF.storeA rfl rfl rfl rfl) rfl ?_
   rintro ⟨⟩ -
   refine WL.rd (RD.assign rfl) rfl rfl ?_
   refine WL.nil ?_
   refine JE.seqN ?_
   refine J.ret ?_
   refine JE.ret rfl (ResL.flat rfl rfl (.tmp rfl .nil)) (fun w hS => ?_)
   exact CN.fin hS (x11.1, x11.2.1, x11.2.2.1, ks, u) rfl ⟨hx11, (by dsimp only; omega)⟩ (SubM.row rfl rfl rfl (SubM.row rfl rfl rfl .nil)) (by simp [En.rdb])

end Go.Proofs.Ytlcijjkbgcllfaa
