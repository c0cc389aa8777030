/- Contracts of functions of the program, each walked once; written by a program of our own. -/
import Derived.Test.YtlcijjkbgcllfaaDcM
namespace Go.Proofs.Ytlcijjkbgcllfaa
open Go Go.RowKit
set_option maxRecDepth 4000

theorem l5Some_c (cb i0 : Nat) (h0 : Int) (vb : Value) (xb : List UInt8) (n : Int) (v : Value) (xs : List (Int × Int)) (w : World) (hi0 : i0 ≤ xb.length) (hlb : xb.length ≤ 1048576) (hlx : xs.length ≤ 1000000) :
    CM Try.prog 145 [.pointer (some ⟨cb, 0, none⟩), .agg #[.int .i64 n, v]] w [.cells cb 127 [vb, .int .i64 (i0 : Int), .int .i64 h0]] [.ro vb 1 (xb.map yv), .ro v 2 (xs.map bv)] (List Int × Value × Nat × Int) (fun x => x.1.length ≤ xs.length + 1 ∧ x.2.2.1 ≤ xb.length) (fun x => x.2.1) (fun x => [.cells cb 127 [vb, .int .i64 (x.2.2.1 : Int), .int .i64 x.2.2.2], .row x.2.1 3 1 ((x.1).map iv)]) := by
 intro hSt
 refine calls_of_J (mu := (muOf [.cells cb 127 [vb, .int .i64 (i0 : Int), .int .i64 h0]])) (m := [.cells cb 127 [vb, .int .i64 (i0 : Int), .int .i64 h0], .ro vb 1 (xb.map yv), .ro v 2 (xs.map bv)]) (e := [(0, .pointer (some ⟨cb, 0, none⟩)), (1, .agg #[.int .i64 n, v])]) Try.func145 rfl rfl (.cons rfl (.cons rfl .nil)) (hSt) ?_
 refine J.seq ?_
 refine J.reg ?_
 refine WL.efS (EF.boxA rfl) rfl rfl ?_
 intro b3 _
 refine WL.rd (RD.assign rfl) rfl rfl ?_
 refine WL.nil ?_
 refine JE.seqN ?_
 refine J.seq ?_
 refine J.reg ?_
 refine WL.efS (EF.build0) rfl rfl ?_
 intro v7 _
 refine WL.rd (RD.assign rfl) rfl rfl ?_
 refine WL.nil ?_
 refine JE.seqN ?_
 refine J.seq ?_
 refine J.seq ?_
 refine J.reg ?_
 refine WL.rd (RD.assign rfl) rfl rfl ?_
 refine WL.nil ?_
 refine JE.seqN ?_
 refine J.block ?_
 refine J.loop (fun gg ee mm => ∃ (k : Nat), ∃ (ks : List Int), ∃ (u : Value), ∃ (i : Nat), ∃ (h : Int), gg = xs.length - k ∧ ((k ≤ xs.length) ∧ (ks.length ≤ k) ∧ (i ≤ xb.length)) ∧ ee = [(5, u), (6, .int .i64 (k : Int)), (0, .pointer (some ⟨cb, 0, none⟩)), (3, .pointer (some ⟨b3, 0, none⟩))] ∧ mm = [.row u 3 1 ((ks).map iv), .cells b3 26 [.int .i64 n, v], .cells cb 127 [vb, .int .i64 (i : Int), .int .i64 h], .ro vb 1 (xb.map yv), .ro v 2 (xs.map bv)]) _ ⟨0, [], v7, i0, h0, rfl, ?_, rfl, rfl⟩ ?_ ?_ ?_
 · exact ⟨by omega, by simp, by omega⟩
 · exact (Sub.consE rfl (by first | rfl | (congr 1; omega) | (simp; done)) (Sub.consE rfl (by first | rfl | (congr 1; omega) | (simp; done)) (Sub.consE rfl (by first | rfl | (congr 1; omega) | (simp; done)) (Sub.consE rfl (by first | rfl | (congr 1; omega) | (simp; done)) .nil))))
 · exact (SubM.row rfl rfl (by first | rfl | (simp [iv, bv, yv, tv, sv]; done)) (SubM.cells rfl (by first | rfl | (simp; done)) (SubM.cells rfl (by first | rfl | (simp; done)) (SubM.ro rfl (by first | rfl | (simp [iv, bv, yv, tv, sv]; done)) (SubM.ro rfl (by first | rfl | (simp [iv, bv, yv, tv, sv]; done)) .nil)))))
 ·
  rintro g _ _ ⟨k, ks, u, i, h, rfl, hI, rfl, rfl⟩
  refine J.seq ?_
  refine J.seq ?_
  refine J.reg ?_
  refine WL.rd (RD.move rfl) rfl rfl ?_
  refine WL.rd (RD.fieldC rfl rfl) rfl rfl ?_
  refine WL.rd (RD.loadC rfl rfl) rfl rfl ?_
  refine WL.rd (RD.lenR rfl) rfl rfl ?_
  refine WL.rd (RD.lss rfl rfl) rfl rfl ?_
  refine WL.nil ?_
  refine JE.seqN ?_
  refine J.condP rfl (fun hc12 => ?_) (fun hc12 => ?_)
  ·
   refine J.skip ?_
   refine JE.seqN ?_
   refine J.seq ?_
   refine J.block ?_
   refine J.seq ?_
   refine J.reg ?_
   refine WL.rd (RD.move rfl) rfl rfl ?_
   refine WL.efS (EF.callM (.cons rfl (.cons rfl .nil)) (.cells .nil) (.ro .nil) (fun w hS => l1Once_c _ _ _ vb xb _ _ (by first | omega | exact Nat.zero_le _) (by omega)) (by simp [En.rdb])) rfl rfl ?_
   rintro x16 hi16
   refine WL.rd (RD.not rfl) rfl rfl ?_
   refine WL.nil ?_
   refine JE.seqN ?_
   refine J.cond rfl (fun hc17 => ?_) (fun hc17 => ?_)
   ·
    refine J.reg ?_
    refine WL.rd (RD.move rfl) rfl rfl ?_
    refine WL.rd (RD.move rfl) rfl rfl ?_
    refine WL.efS (EF.build1 rfl) rfl rfl ?_
    intro v20 _
    refine WL.efS (EF.append rfl rfl (by omega) rfl rfl rfl) rfl rfl ?_
    intro v21 _
    refine WL.rd (RD.assign rfl) rfl rfl ?_
    refine WL.nil ?_
    refine JE.blockN ?_
    refine JE.seqN ?_
    refine J.reg ?_
    refine WL.rd (RD.move rfl) rfl rfl ?_
    refine WL.rd (RD.add rfl rfl (by omega) (by omega)) rfl rfl ?_
    refine WL.rd (RD.assign rfl) rfl rfl ?_
    refine WL.nil ?_
    refine JE.cutN ⟨_, ?_, k + 1, ks ++ [(k : Int)], v21, x16.2.1, x16.2.2, rfl, ?_, rfl, rfl⟩ ?_ ?_
    · omega
    · exact ⟨by omega, by simp; omega, by omega⟩
    · exact (Sub.consE rfl (by first | rfl | (congr 1; omega) | (simp; done)) (Sub.consE rfl (by first | rfl | (congr 1; omega) | (simp; done)) (Sub.consE rfl (by first | rfl | (congr 1; omega) | (simp; done)) (Sub.consE rfl (by first | rfl | (congr 1; omega) | (simp; done)) .nil))))
    · exact (SubM.row rfl rfl (by first | rfl | (simp [iv, bv, yv, tv, sv]; done)) (SubM.cells rfl (by first | rfl | (simp; done)) (SubM.cells rfl (by first | rfl | (simp; done)) (SubM.ro rfl (by first | rfl | (simp [iv, bv, yv, tv, sv]; done)) (SubM.ro rfl (by first | rfl | (simp [iv, bv, yv, tv, sv]; done)) .nil)))))
   ·
    refine J.skip ?_
    refine JE.blockN ?_
    refine JE.seqN ?_
    refine J.reg ?_
    refine WL.rd (RD.move rfl) rfl rfl ?_
    refine WL.rd (RD.add rfl rfl (by omega) (by omega)) rfl rfl ?_
    refine WL.rd (RD.assign rfl) rfl rfl ?_
    refine WL.nil ?_
    refine JE.cutN ⟨_, ?_, k + 1, ks, u, x16.2.1, x16.2.2, rfl, ?_, rfl, rfl⟩ ?_ ?_
    · omega
    · exact ⟨by omega, by omega, by omega⟩
    · exact (Sub.consE rfl (by first | rfl | (congr 1; omega) | (simp; done)) (Sub.consE rfl (by first | rfl | (congr 1; omega) | (simp; done)) (Sub.consE rfl (by first | rfl | (congr 1; omega) | (simp; done)) (Sub.consE rfl (by first | rfl | (congr 1; omega) | (simp; done)) .nil))))
    · exact (SubM.row rfl rfl (by first | rfl | (simp [iv, bv, yv, tv, sv]; done)) (SubM.cells rfl (by first | rfl | (simp; done)) (SubM.cells rfl (by first | rfl | (simp; done)) (SubM.ro rfl (by first | rfl | (simp [iv, bv, yv, tv, sv]; done)) (SubM.ro rfl (by first | rfl | (simp [iv, bv, yv, tv, sv]; done)) .nil)))))
  ·
   refine J.exit ?_
   refine JE.seqX ?_
   refine JE.cutX ?_
   refine JE.blockHit ?_
   refine JE.seqN ?_
   refine J.seq ?_
   refine J.seq ?_
   refine J.reg ?_
   refine WL.rd (RD.move rfl) rfl rfl ?_
   refine WL.efS (EF.callM (.cons rfl (.cons rfl .nil)) (.cells .nil) (.ro .nil) (fun w hS => l1Once_c _ _ _ vb xb _ _ (by first | omega | exact Nat.zero_le _) (by omega)) (by simp [En.rdb])) rfl rfl ?_
   rintro x23 hi23
   refine WL.nil ?_
   refine JE.seqN ?_
   refine J.cond rfl (fun hc23 => ?_) (fun hc23 => ?_)
   ·
    refine J.reg ?_
    refine WL.rd (RD.move rfl) rfl rfl ?_
    refine WL.rd (RD.move rfl) rfl rfl ?_
    refine WL.efS (EF.callM (.cons rfl (.cons rfl .nil)) (.cells .nil) (.ro .nil) (fun w hS => l1Below_c _ _ _ vb xb _ _ (by first | omega | exact Nat.zero_le _) (by omega)) (by simp [En.rdb])) rfl rfl ?_
    rintro x26 ⟨hx26, hi26⟩
    refine WL.rd (RD.sub rfl rfl (by omega) (by omega)) rfl rfl ?_
    refine WL.efS (EF.build1 rfl) rfl rfl ?_
    intro v28 _
    refine WL.efS (EF.append rfl rfl (by omega) rfl rfl rfl) rfl rfl ?_
    intro v29 _
    refine WL.rd (RD.assign rfl) rfl rfl ?_
    refine WL.nil ?_
    refine JE.seqN ?_
    refine J.seq ?_
    refine J.reg ?_
    refine WL.rd (RD.move rfl) rfl rfl ?_
    refine WL.rd (RD.assign rfl) rfl rfl ?_
    refine WL.nil ?_
    refine JE.seqN ?_
    refine J.ret ?_
    refine JE.ret rfl (.tmp rfl .nil) (fun w hS => ?_)
    exact CM.fin hS (ks ++ [x26.1 - 1], v29, x26.2.1, x26.2.2) rfl (by simp only [List.length_append, List.length_singleton]; omega) (SubM.cells rfl rfl (SubM.row rfl rfl rfl .nil)) (by simp [En.rdb])
   ·
    refine J.skip ?_
    refine JE.seqN ?_
    refine J.seq ?_
    refine J.reg ?_
    refine WL.rd (RD.move rfl) rfl rfl ?_
    refine WL.rd (RD.assign rfl) rfl rfl ?_
    refine WL.nil ?_
    refine JE.seqN ?_
    refine J.ret ?_
    refine JE.ret rfl (.tmp rfl .nil) (fun w hS => ?_)
    exact CM.fin hS (ks, u, x23.2.1, x23.2.2) rfl (by dsimp only; omega) (SubM.cells rfl rfl (SubM.row rfl rfl rfl .nil)) (by simp [En.rdb])
theorem l5Draw_c (vb : Value) (xb : List UInt8) (w : World) (hr : Rd w vb 1 (xb.map yv)) (hlb : xb.length ≤ 1048576) :
    CN Try.prog 139 [vb] w (Int × List (Int × Int) × Value × Int × Int × List Int × Value) (fun x => (((-1 ≤ x.1 ∧ x.1 ≤ 9) ∧ x.2.1.length ≤ 25 ∧ bOk x.2.1) ∧ (0 ≤ x.2.2.2.1 ∧ x.2.2.2.1 ≤ 4) ∧ -1 ≤ x.2.2.2.2.1 ∧ x.2.2.2.2.1 ≤ 5) ∧ x.2.2.2.2.2.1.length ≤ 30) (fun x => .tuple #[.agg #[.int .i64 x.1, x.2.2.1], .int .i64 x.2.2.2.1, .int .i64 x.2.2.2.2.1, x.2.2.2.2.2.2]) (fun x => [.row x.2.2.1 50 2 ((x.2.1).map bv), .row x.2.2.2.2.2.2 3 1 ((x.2.2.2.2.2.1).map iv)]) := by
 refine calls_of_J (mu := (fun _ => False)) (m := [.ro vb 1 (xb.map yv)]) (e := [(0, vb)]) Try.func139 rfl rfl (.cons rfl .nil) (((St.init _ _).ro0 hr (by decide))) ?_
 refine J.seq ?_
 refine J.reg ?_
 refine WL.efS (EF.allocA) rfl rfl ?_
 intro b2 _
 refine WL.rd (RD.assign rfl) rfl rfl ?_
 refine WL.rd (RD.assign rfl) rfl rfl ?_
 refine WL.rd (RD.assign rfl) rfl rfl ?_
 refine WL.nil ?_
 refine JE.seqN ?_
 refine J.seq ?_
 refine J.reg ?_
 refine WL.rd (RD.move rfl) rfl rfl ?_
 refine WL.efS (EF.callN (.cons rfl .nil) (fun w hS => l1New_c vb xb _ (by exact RdI.rd hS) (by omega))) rfl rfl ?_
 rintro c11 -
 refine WL.rd (RD.assign rfl) rfl rfl ?_
 refine WL.nil ?_
 refine JE.seqN ?_
 refine J.seq ?_
 refine J.reg ?_
 refine WL.rd (RD.move rfl) rfl rfl ?_
 refine WL.efS (EF.callM (.cons rfl .nil) (.cells .nil) (.ro .nil) (fun w hS => l2Any_c _ _ _ vb xb _ (by first | omega | exact Nat.zero_le _) (by omega)) (by simp [En.rdb])) rfl rfl ?_
 rintro x13 ⟨hx13, hi13⟩
 refine WL.efS (EF.allocA) rfl rfl ?_
 intro b7 _
 refine WL.efN (EF.storeA rfl rfl rfl rfl) rfl ?_
 rintro ⟨⟩ -
 refine WL.nil ?_
 refine JE.seqN ?_
 refine J.seq ?_
 refine J.reg ?_
 refine WL.rd (RD.move rfl) rfl rfl ?_
 refine WL.efS (EF.callM (.cons rfl .nil) (.cells .nil) (.ro .nil) (fun w hS => l3Range_c _ _ _ vb xb _ (by first | omega | exact Nat.zero_le _) (by omega)) (by simp [En.rdb])) rfl rfl ?_
 rintro x16 ⟨hx16, hi16⟩
 refine WL.rd (RD.move rfl) rfl rfl ?_
 refine WL.rd (RD.extract rfl rfl) rfl rfl ?_
 refine WL.rd (RD.extract rfl rfl) rfl rfl ?_
 refine WL.rd (RD.assign rfl) rfl rfl ?_
 refine WL.rd (RD.assign rfl) rfl rfl ?_
 refine WL.nil ?_
 refine JE.seqN ?_
 refine J.seq ?_
 refine J.any [] [.cells b7 26 [.int .i64 x13.1, x13.2.2.1], .row x13.2.2.1 50 2 ((x13.2.1).map bv), .ro vb 1 (xb.map yv)] SubI.sub ?_
 refine WA.take 0 rfl (RD.loadA rfl rfl) rfl (by kernel_rfl) rfl ?_
 refine WA.takeP 1 rfl (RDP.of fun _ => RD.move rfl) rfl (by kernel_rfl) rfl ?_
 refine WA.takeP 2 rfl (RDP.of fun _ => RD.move rfl) rfl (by kernel_rfl) rfl ?_
 refine WA.takeP 3 rfl (RDP.of fun _ => RD.move rfl) rfl (by kernel_rfl) rfl ?_
 refine WA.take 4 rfl (RD.loadA rfl rfl) rfl (by kernel_rfl) rfl ?_
 refine WA.one (i := 5) (by kernel_rfl) ?_
 refine WAi.efS rfl (EF.callM (.cons rfl (.cons rfl .nil)) (.cells .nil) (.ro (.ro .nil)) (fun w hS => l5Some_c _ _ _ vb xb _ _ _ _ (by first | omega | exact Nat.zero_le _) (by omega) (by omega)) (by simp [En.rdb])) rfl rfl (fun _ => SubI.sub) ?_
 rintro x24 ⟨hx24, hi24⟩
 refine WA.one (i := 6) (by kernel_rfl) ?_
 refine WAi.efN rfl (EF.storeA rfl rfl rfl rfl) rfl (fun _ => SubI.sub) ?_
 rintro ⟨⟩ -
 refine WA.takeP 7 rfl (RDP.of fun _ => RD.assign rfl) rfl (by kernel_rfl) rfl ?_
 refine WA.takeP 8 rfl (RDP.of fun _ => RD.assign rfl) rfl (by kernel_rfl) rfl ?_
 refine WA.takeP 9 rfl (RDP.of fun _ => RD.assign rfl) rfl (by kernel_rfl) rfl ?_
 refine WA.done (by kernel_rfl) ?_
 refine JE.seqN ?_
 refine J.ret ?_
 refine JE.ret rfl (ResL.flat rfl rfl (.tmp rfl (.tmp rfl (.tmp rfl .nil)))) (fun w hS => ?_)
 exact CN.fin hS (x13.1, x13.2.1, x13.2.2.1, x16.1, x16.2.1, x24.1, x24.2.1) rfl ⟨⟨hx13, hx16⟩, (by dsimp only; omega)⟩ (SubM.row rfl rfl rfl (SubM.row rfl rfl rfl .nil)) (by simp [En.rdb])
theorem DrawClosureOf_c (vb : Value) (xb : List UInt8) (w : World) (hr : Rd w vb 1 (xb.map yv)) (hlb : xb.length ≤ 1048576) :
    CN Try.prog 79 [vb] w (Int × List (Int × Int) × Value × Int × Int × List Int × Value) (fun x => (((-1 ≤ x.1 ∧ x.1 ≤ 9) ∧ x.2.1.length ≤ 25 ∧ bOk x.2.1) ∧ (0 ≤ x.2.2.2.1 ∧ x.2.2.2.1 ≤ 4) ∧ -1 ≤ x.2.2.2.2.1 ∧ x.2.2.2.2.1 ≤ 5) ∧ x.2.2.2.2.2.1.length ≤ 30) (fun x => .tuple #[.agg #[.int .i64 x.1, x.2.2.1], .int .i64 x.2.2.2.1, .int .i64 x.2.2.2.2.1, x.2.2.2.2.2.2]) (fun x => [.row x.2.2.1 50 2 ((x.2.1).map bv), .row x.2.2.2.2.2.2 3 1 ((x.2.2.2.2.2.1).map iv)]) := by
 refine calls_of_J (mu := (fun _ => False)) (m := [.ro vb 1 (xb.map yv)]) (e := [(0, vb)]) Try.func79 rfl rfl (.cons rfl .nil) (((St.init _ _).ro0 hr (by decide))) ?_
 refine J.seq ?_
 refine J.reg ?_
 refine WL.efS (EF.allocA) rfl rfl ?_
 intro b2 _
 refine WL.rd (RD.assign rfl) rfl rfl ?_
 refine WL.rd (RD.assign rfl) rfl rfl ?_
 refine WL.rd (RD.assign rfl) rfl rfl ?_
 refine WL.nil ?_
 refine JE.seqN ?_
 refine J.seq ?_
 refine J.reg ?_
 refine WL.rd (RD.move rfl) rfl rfl ?_
 refine WL.efS (EF.callN (.cons rfl .nil) (fun w hS => l5Draw_c vb xb _ (by exact RdI.rd hS) (by omega))) rfl rfl ?_
 rintro x12 hx12
 refine WL.rd (RD.move rfl) rfl rfl ?_
 refine WL.rd (RD.extract rfl rfl) rfl rfl ?_
 refine WL.rd (RD.extract rfl rfl) rfl rfl ?_
 refine WL.rd (RD.extract rfl rfl) rfl rfl ?_
 refine WL.rd (RD.extract rfl rfl) rfl rfl ?_
 refine WL.efS (EF.allocA) rfl rfl ?_
 intro b6 _
 refine WL.efN (EF.storeA rfl rfl rfl rfl) rfl ?_
 rintro ⟨⟩ -
 refine WL.rd (RD.assign rfl) rfl rfl ?_
 refine WL.rd (RD.assign rfl) rfl rfl ?_
 refine WL.rd (RD.assign rfl) rfl rfl ?_
 refine WL.nil ?_
 refine JE.seqN ?_
 refine J.seq ?_
 refine J.reg ?_
 refine WL.rd (RD.loadA rfl rfl) rfl rfl ?_
 refine WL.rd (RD.move rfl) rfl rfl ?_
 refine WL.rd (RD.move rfl) rfl rfl ?_
 refine WL.rd (RD.move rfl) rfl rfl ?_
 refine WL.efN (EF.storeA rfl rfl rfl rfl) rfl ?_
 rintro ⟨⟩ -
 refine WL.rd (RD.assign rfl) rfl rfl ?_
 refine WL.rd (RD.assign rfl) rfl rfl ?_
 refine WL.rd (RD.assign rfl) rfl rfl ?_
 refine WL.nil ?_
 refine JE.seqN ?_
 refine J.ret ?_
 refine JE.ret rfl (ResL.flat rfl rfl (.tmp rfl (.tmp rfl (.tmp rfl .nil)))) (fun w hS => ?_)
 exact CN.fin hS x12 rfl hx12 (SubM.row rfl rfl rfl (SubM.row rfl rfl rfl .nil)) (by simp [En.rdb])
theorem DrawCircuitOf_c (vb : Value) (xb : List UInt8) (w : World) (hr : Rd w vb 1 (xb.map yv)) (hlb : xb.length ≤ 1048576) :
    CN Try.prog 90 [vb] w (Int × List (Int × Int) × Value × Int × Int × Int) (fun x => (((-1 ≤ x.1 ∧ x.1 ≤ 9) ∧ x.2.1.length ≤ 25 ∧ bOk x.2.1) ∧ (0 ≤ x.2.2.2.1 ∧ x.2.2.2.1 ≤ 4) ∧ -1 ≤ x.2.2.2.2.1 ∧ x.2.2.2.2.1 ≤ 5) ∧ -1 ≤ x.2.2.2.2.2 ∧ x.2.2.2.2.2 ≤ 100) (fun x => .tuple #[.agg #[.int .i64 x.1, x.2.2.1], .int .i64 x.2.2.2.1, .int .i64 x.2.2.2.2.1, .int .i64 x.2.2.2.2.2]) (fun x => [.row x.2.2.1 50 2 ((x.2.1).map bv)]) := by
 refine calls_of_J (mu := (fun _ => False)) (m := [.ro vb 1 (xb.map yv)]) (e := [(0, vb)]) Try.func90 rfl rfl (.cons rfl .nil) (((St.init _ _).ro0 hr (by decide))) ?_
 refine J.seq ?_
 refine J.reg ?_
 refine WL.efS (EF.allocA) rfl rfl ?_
 intro b2 _
 refine WL.rd (RD.assign rfl) rfl rfl ?_
 refine WL.rd (RD.assign rfl) rfl rfl ?_
 refine WL.rd (RD.assign rfl) rfl rfl ?_
 refine WL.nil ?_
 refine JE.seqN ?_
 refine J.seq ?_
 refine J.reg ?_
 refine WL.rd (RD.move rfl) rfl rfl ?_
 refine WL.efS (EF.callN (.cons rfl .nil) (fun w hS => l1New_c vb xb _ (by exact RdI.rd hS) (by omega))) rfl rfl ?_
 rintro c12 -
 refine WL.rd (RD.assign rfl) rfl rfl ?_
 refine WL.nil ?_
 refine JE.seqN ?_
 refine J.seq ?_
 refine J.reg ?_
 refine WL.rd (RD.move rfl) rfl rfl ?_
 refine WL.efS (EF.callM (.cons rfl .nil) (.cells .nil) (.ro .nil) (fun w hS => l2Any_c _ _ _ vb xb _ (by first | omega | exact Nat.zero_le _) (by omega)) (by simp [En.rdb])) rfl rfl ?_
 rintro x14 ⟨hx14, hi14⟩
 refine WL.efS (EF.allocA) rfl rfl ?_
 intro b7 _
 refine WL.efN (EF.storeA rfl rfl rfl rfl) rfl ?_
 rintro ⟨⟩ -
 refine WL.nil ?_
 refine JE.seqN ?_
 refine J.seq ?_
 refine J.reg ?_
 refine WL.rd (RD.move rfl) rfl rfl ?_
 refine WL.efS (EF.callM (.cons rfl .nil) (.cells .nil) (.ro .nil) (fun w hS => l3Range_c _ _ _ vb xb _ (by first | omega | exact Nat.zero_le _) (by omega)) (by simp [En.rdb])) rfl rfl ?_
 rintro x17 ⟨hx17, hi17⟩
 refine WL.rd (RD.move rfl) rfl rfl ?_
 refine WL.rd (RD.extract rfl rfl) rfl rfl ?_
 refine WL.rd (RD.extract rfl rfl) rfl rfl ?_
 refine WL.rd (RD.assign rfl) rfl rfl ?_
 refine WL.rd (RD.assign rfl) rfl rfl ?_
 refine WL.nil ?_
 refine JE.seqN ?_
 refine J.seq ?_
 have hk17 : (-9223372036854775808 ≤ x17.1 ∧ x17.1 ≤ 9223372036854775807) := by omega
 have hl17 : (-9223372036854775808 ≤ x17.2.1 ∧ x17.2.1 ≤ 9223372036854775807) := by omega
 refine J.reg ?_
 refine WL.rd (RD.loadA rfl rfl) rfl rfl ?_
 refine WL.rd (RD.move rfl) rfl rfl ?_
 refine WL.rd (RD.move rfl) rfl rfl ?_
 refine WL.efS (EF.callN (.cons rfl (.cons rfl (.cons rfl .nil))) (fun w hS => sRejectedBars_c _ _ _ _ _ _ (by exact RdI.rd hS) (by first | assumption | (constructor <;> decide) | omega) (by first | assumption | (constructor <;> decide) | omega) (by omega))) rfl rfl ?_
 rintro v23 -
 refine WL.rd (RD.assign rfl) rfl rfl ?_
 refine WL.nil ?_
 refine JE.seqN ?_
 refine J.seq ?_
 refine J.seq ?_
 have hpl := pickIx_le (rejF x14.1 x17.1 x17.2.1 x14.2.1) x14.2.1.length
 refine J.reg ?_
 refine WL.rd (RD.move rfl) rfl rfl ?_
 refine WL.rd (RD.lenR rfl) rfl rfl ?_
 refine WL.rd (RD.gtr rfl rfl) rfl rfl ?_
 refine WL.rd (RD.move rfl) rfl rfl ?_
 refine WL.caseP 27 rfl (fun hg27 => ?_) (fun hg27 => ?_)
 ·
  refine WL.rd (RD.move rfl) rfl rfl ?_
  refine WL.efS (EF.callM (.cons rfl (.cons rfl .nil)) (.cells .nil) (.ro .nil) (fun w hS => l1Once_c _ _ _ vb xb _ _ (by first | omega | exact Nat.zero_le _) (by omega)) (by simp [En.rdb])) rfl rfl ?_
  rintro x29 hi29
  refine WL.rd (RD.not rfl) rfl rfl ?_
  refine WL.rd (RD.pickT rfl rfl) rfl rfl ?_
  refine WL.nil ?_
  refine JE.seqN ?_
  refine J.cond rfl (fun hc31 => ?_) (fun hc31 => ?_)
  ·
   refine J.seq ?_
   refine J.any [] [.cells b7 26 [.int .i64 x14.1, x14.2.2.1], .row x14.2.2.1 50 2 ((x14.2.1).map bv), .ro vb 1 (xb.map yv), .row v23 3 1 ((pickIx (rejF x14.1 x17.1 x17.2.1 x14.2.1) x14.2.1.length).map iv)] SubI.sub ?_
   refine WA.take 0 rfl (RD.loadA rfl rfl) rfl (by kernel_rfl) rfl ?_
   refine WA.takeP 1 rfl (RDP.of fun _ => RD.move rfl) rfl (by kernel_rfl) rfl ?_
   refine WA.takeP 2 rfl (RDP.of fun _ => RD.move rfl) rfl (by kernel_rfl) rfl ?_
   refine WA.takeP 3 rfl (RDP.of fun _ => RD.move rfl) rfl (by kernel_rfl) rfl ?_
   refine WA.takeP 4 rfl (RDP.of fun _ => RD.move rfl) rfl (by kernel_rfl) rfl ?_
   refine WA.takeP 5 rfl (RDP.of fun _ => RD.move rfl) rfl (by kernel_rfl) rfl ?_
   refine WA.takeP 6 rfl (RDP.lenR rfl) rfl (by kernel_rfl) rfl ?_
   refine WA.one (i := 7) (by kernel_rfl) ?_
   refine WAi.efS rfl (EF.callM (.cons rfl (.cons rfl .nil)) (.cells .nil) (.ro .nil) (fun w hS => l1Below_c _ _ _ vb xb _ _ (by first | omega | exact Nat.zero_le _) (by omega)) (by simp [En.rdb])) rfl rfl (fun _ => SubI.sub) ?_
   rintro x39 ⟨hx39, hi39⟩
   have hpr := pick_rng (rejF x14.1 x17.1 x17.2.1 x14.2.1) x14.2.1.length x39.1.toNat (by omega)
   refine WA.takeP 8 rfl (RDP.idx (j := x39.1.toNat) (hj := ⟨by omega⟩) rfl rfl (by omega) rfl) rfl (by kernel_rfl) rfl ?_
   refine WA.take 9 rfl (RD.loadE rfl (by omega) rfl) rfl (by kernel_rfl) rfl ?_
   refine WA.one (i := 10) (by kernel_rfl) ?_
   refine WAi.efN rfl (EF.storeA rfl rfl rfl rfl) rfl (fun _ => SubI.sub) ?_
   rintro ⟨⟩ -
   refine WA.takeP 11 rfl (RDP.of fun _ => RD.assign rfl) rfl (by kernel_rfl) rfl ?_
   refine WA.takeP 12 rfl (RDP.of fun _ => RD.assign rfl) rfl (by kernel_rfl) rfl ?_
   refine WA.takeP 13 rfl (RDP.of fun _ => RD.assign rfl) rfl (by kernel_rfl) rfl ?_
   refine WA.done (by kernel_rfl) ?_
   refine JE.seqN ?_
   refine J.ret ?_
   refine JE.ret rfl (ResL.flat rfl rfl (.tmp rfl (.tmp rfl (.tmp rfl .nil)))) (fun w hS => ?_)
   exact CN.fin hS (x14.1, x14.2.1, x14.2.2.1, x17.1, x17.2.1, (pickIx (rejF x14.1 x17.1 x17.2.1 x14.2.1) x14.2.1.length).getD x39.1.toNat default) rfl ⟨⟨hx14, hx17⟩, (by dsimp only; omega)⟩ (SubM.row rfl rfl rfl .nil) (by simp [En.rdb])
  ·
   refine J.skip ?_
   refine JE.seqN ?_
   refine J.seq ?_
   refine J.any [] [.cells b7 26 [.int .i64 x14.1, x14.2.2.1], .row x14.2.2.1 50 2 ((x14.2.1).map bv), .ro vb 1 (xb.map yv)] SubI.sub ?_
   refine WA.take 0 rfl (RD.loadA rfl rfl) rfl (by kernel_rfl) rfl ?_
   refine WA.takeP 1 rfl (RDP.of fun _ => RD.move rfl) rfl (by kernel_rfl) rfl ?_
   refine WA.takeP 2 rfl (RDP.of fun _ => RD.move rfl) rfl (by kernel_rfl) rfl ?_
   refine WA.takeP 3 rfl (RDP.of fun _ => RD.move rfl) rfl (by kernel_rfl) rfl ?_
   refine WA.one (i := 4) (by kernel_rfl) ?_
   refine WAi.efS rfl (EF.callM (.cons rfl (.cons rfl .nil)) (.cells .nil) (.ro .nil) (fun w hS => l1Below_c _ _ _ vb xb _ _ (by first | omega | exact Nat.zero_le _) (by omega)) (by simp [En.rdb])) rfl rfl (fun _ => SubI.sub) ?_
   rintro x46 ⟨hx46, hi46⟩
   refine WA.takeP 5 rfl (RDP.of fun _ => RD.sub rfl rfl (by omega) (by omega)) rfl (by kernel_rfl) rfl ?_
   refine WA.one (i := 6) (by kernel_rfl) ?_
   refine WAi.efN rfl (EF.storeA rfl rfl rfl rfl) rfl (fun _ => SubI.sub) ?_
   rintro ⟨⟩ -
   refine WA.takeP 7 rfl (RDP.of fun _ => RD.assign rfl) rfl (by kernel_rfl) rfl ?_
   refine WA.takeP 8 rfl (RDP.of fun _ => RD.assign rfl) rfl (by kernel_rfl) rfl ?_
   refine WA.takeP 9 rfl (RDP.of fun _ => RD.assign rfl) rfl (by kernel_rfl) rfl ?_
   refine WA.done (by kernel_rfl) ?_
   refine JE.seqN ?_
   refine J.ret ?_
   refine JE.ret rfl (ResL.flat rfl rfl (.tmp rfl (.tmp rfl (.tmp rfl .nil)))) (fun w hS => ?_)
   exact CN.fin hS (x14.1, x14.2.1, x14.2.2.1, x17.1, x17.2.1, x46.1 - 1) rfl ⟨⟨hx14, hx17⟩, (by dsimp only; omega)⟩ (SubM.row rfl rfl rfl .nil) (by simp [En.rdb])
 ·
  refine WL.noS rfl rfl ?_
  refine WL.noS rfl rfl ?_
  refine WL.noS rfl rfl ?_
  refine WL.rd (RD.pickF rfl rfl) rfl rfl ?_
  refine WL.nil ?_
  refine JE.seqN ?_
  refine J.condF rfl ?_
  refine J.skip ?_
  refine JE.seqN ?_
  refine J.seq ?_
  refine J.any [] [.cells b7 26 [.int .i64 x14.1, x14.2.2.1], .row x14.2.2.1 50 2 ((x14.2.1).map bv), .ro vb 1 (xb.map yv)] SubI.sub ?_
  refine WA.take 0 rfl (RD.loadA rfl rfl) rfl (by kernel_rfl) rfl ?_
  refine WA.takeP 1 rfl (RDP.of fun _ => RD.move rfl) rfl (by kernel_rfl) rfl ?_
  refine WA.takeP 2 rfl (RDP.of fun _ => RD.move rfl) rfl (by kernel_rfl) rfl ?_
  refine WA.takeP 3 rfl (RDP.of fun _ => RD.move rfl) rfl (by kernel_rfl) rfl ?_
  refine WA.one (i := 4) (by kernel_rfl) ?_
  refine WAi.efS rfl (EF.callM (.cons rfl (.cons rfl .nil)) (.cells .nil) (.ro .nil) (fun w hS => l1Below_c _ _ _ vb xb _ _ (by first | omega | exact Nat.zero_le _) (by omega)) (by simp [En.rdb])) rfl rfl (fun _ => SubI.sub) ?_
  rintro x46 ⟨hx46, hi46⟩
  refine WA.takeP 5 rfl (RDP.of fun _ => RD.sub rfl rfl (by omega) (by omega)) rfl (by kernel_rfl) rfl ?_
  refine WA.one (i := 6) (by kernel_rfl) ?_
  refine WAi.efN rfl (EF.storeA rfl rfl rfl rfl) rfl (fun _ => SubI.sub) ?_
  rintro ⟨⟩ -
  refine WA.takeP 7 rfl (RDP.of fun _ => RD.assign rfl) rfl (by kernel_rfl) rfl ?_
  refine WA.takeP 8 rfl (RDP.of fun _ => RD.assign rfl) rfl (by kernel_rfl) rfl ?_
  refine WA.takeP 9 rfl (RDP.of fun _ => RD.assign rfl) rfl (by kernel_rfl) rfl ?_
  refine WA.done (by kernel_rfl) ?_
  refine JE.seqN ?_
  refine J.ret ?_
  refine JE.ret rfl (ResL.flat rfl rfl (.tmp rfl (.tmp rfl (.tmp rfl .nil)))) (fun w hS => ?_)
  exact CN.fin hS (x14.1, x14.2.1, x14.2.2.1, x17.1, x17.2.1, x46.1 - 1) rfl ⟨⟨hx14, hx17⟩, (by dsimp only; omega)⟩ (SubM.row rfl rfl rfl .nil) (by simp [En.rdb])
theorem DrawIsCircuit_c (vb : Value) (xb : List UInt8) (w : World) (hr : Rd w vb 1 (xb.map yv)) (hlb : xb.length ≤ 1048576) :
    CN Try.prog 95 [vb] w (Int × List (Int × Int) × Value × Int × Int × List Int × Value) (fun x => (((-1 ≤ x.1 ∧ x.1 ≤ 9) ∧ x.2.1.length ≤ 25 ∧ bOk x.2.1) ∧ (0 ≤ x.2.2.2.1 ∧ x.2.2.2.1 ≤ 4) ∧ -1 ≤ x.2.2.2.2.1 ∧ x.2.2.2.2.1 ≤ 5) ∧ x.2.2.2.2.2.1.length ≤ 30) (fun x => .tuple #[.agg #[.int .i64 x.1, x.2.2.1], .int .i64 x.2.2.2.1, .int .i64 x.2.2.2.2.1, x.2.2.2.2.2.2]) (fun x => [.row x.2.2.1 50 2 ((x.2.1).map bv), .row x.2.2.2.2.2.2 3 1 ((x.2.2.2.2.2.1).map iv)]) := by
 refine calls_of_J (mu := (fun _ => False)) (m := [.ro vb 1 (xb.map yv)]) (e := [(0, vb)]) Try.func95 rfl rfl (.cons rfl .nil) (((St.init _ _).ro0 hr (by decide))) ?_
 refine J.seq ?_
 refine J.reg ?_
 refine WL.efS (EF.allocA) rfl rfl ?_
 intro b2 _
 refine WL.rd (RD.assign rfl) rfl rfl ?_
 refine WL.rd (RD.assign rfl) rfl rfl ?_
 refine WL.rd (RD.assign rfl) rfl rfl ?_
 refine WL.nil ?_
 refine JE.seqN ?_
 refine J.seq ?_
 refine J.reg ?_
 refine WL.rd (RD.move rfl) rfl rfl ?_
 refine WL.efS (EF.callN (.cons rfl .nil) (fun w hS => l1New_c vb xb _ (by exact RdI.rd hS) (by omega))) rfl rfl ?_
 rintro c14 -
 refine WL.rd (RD.assign rfl) rfl rfl ?_
 refine WL.nil ?_
 refine JE.seqN ?_
 refine J.seq ?_
 refine J.reg ?_
 refine WL.rd (RD.move rfl) rfl rfl ?_
 refine WL.efS (EF.callN (.cons rfl .nil) (fun w hS => DrawCircuitOf_c vb xb _ (by exact RdI.rd hS) (by omega))) rfl rfl ?_
 rintro x17 hx17
 refine WL.rd (RD.move rfl) rfl rfl ?_
 refine WL.rd (RD.extract rfl rfl) rfl rfl ?_
 refine WL.rd (RD.extract rfl rfl) rfl rfl ?_
 refine WL.rd (RD.extract rfl rfl) rfl rfl ?_
 refine WL.rd (RD.extract rfl rfl) rfl rfl ?_
 refine WL.efS (EF.allocA) rfl rfl ?_
 intro b7 _
 refine WL.efN (EF.storeA rfl rfl rfl rfl) rfl ?_
 rintro ⟨⟩ -
 refine WL.rd (RD.assign rfl) rfl rfl ?_
 refine WL.rd (RD.assign rfl) rfl rfl ?_
 refine WL.rd (RD.assign rfl) rfl rfl ?_
 refine WL.nil ?_
 refine JE.seqN ?_
 refine J.seq ?_
 have hk17 : (-9223372036854775808 ≤ x17.2.2.2.1 ∧ x17.2.2.2.1 ≤ 9223372036854775807) := by omega
 have hl17 : (-9223372036854775808 ≤ x17.2.2.2.2.1 ∧ x17.2.2.2.2.1 ≤ 9223372036854775807) := by omega
 have hcl := cirI_len x17.1 x17.2.2.2.1 x17.2.2.2.2.1 x17.2.1 x17.2.2.2.2.2
 refine J.reg ?_
 refine WL.rd (RD.loadA rfl rfl) rfl rfl ?_
 refine WL.rd (RD.move rfl) rfl rfl ?_
 refine WL.rd (RD.move rfl) rfl rfl ?_
 refine WL.rd (RD.move rfl) rfl rfl ?_
 refine WL.efS (EF.callN (.cons rfl (.cons rfl (.cons rfl (.cons rfl .nil)))) (fun w hS => sCircuitOf_c _ _ _ _ _ _ _ (by exact RdI.rd hS) (by first | assumption | (constructor <;> decide) | omega) (by first | assumption | (constructor <;> decide) | omega) (by omega))) rfl rfl ?_
 rintro v27 -
 refine WL.rd (RD.move rfl) rfl rfl ?_
 refine WL.rd (RD.extract rfl rfl) rfl rfl ?_
 refine WL.rd (RD.extract rfl rfl) rfl rfl ?_
 refine WL.rd (RD.assign rfl) rfl rfl ?_
 refine WL.rd (RD.assign rfl) rfl rfl ?_
 refine WL.nil ?_
 refine JE.seqN ?_
 refine J.seq ?_
 refine J.seq ?_
 refine J.reg ?_
 refine WL.rd (RD.move rfl) rfl rfl ?_
 refine WL.rd (RD.move rfl) rfl rfl ?_
 refine WL.caseP 31 rfl (fun hg31 => ?_) (fun hg31 => ?_)
 ·
  refine WL.rd (RD.move rfl) rfl rfl ?_
  refine WL.efS (EF.callM (.cons rfl (.cons rfl .nil)) (.cells .nil) (.ro .nil) (fun w hS => l1Once_c _ _ _ vb xb _ _ (by first | omega | exact Nat.zero_le _) (by omega)) (by simp [En.rdb])) rfl rfl ?_
  rintro x33 hi33
  refine WL.rd (RD.not rfl) rfl rfl ?_
  refine WL.rd (RD.pickT rfl rfl) rfl rfl ?_
  refine WL.nil ?_
  refine JE.seqN ?_
  refine J.cond rfl (fun hc35 => ?_) (fun hc35 => ?_)
  ·
   refine J.seq ?_
   refine J.reg ?_
   refine WL.rd (RD.loadA rfl rfl) rfl rfl ?_
   refine WL.rd (RD.move rfl) rfl rfl ?_
   refine WL.rd (RD.move rfl) rfl rfl ?_
   refine WL.rd (RD.move rfl) rfl rfl ?_
   refine WL.efN (EF.storeA rfl rfl rfl rfl) rfl ?_
   rintro ⟨⟩ -
   refine WL.rd (RD.assign rfl) rfl rfl ?_
   refine WL.rd (RD.assign rfl) rfl rfl ?_
   refine WL.rd (RD.assign rfl) rfl rfl ?_
   refine WL.nil ?_
   refine JE.seqN ?_
   refine J.ret ?_
   refine JE.ret rfl (ResL.flat rfl rfl (.tmp rfl (.tmp rfl (.tmp rfl .nil)))) (fun w hS => ?_)
   exact CN.fin hS (x17.1, x17.2.1, x17.2.2.1, x17.2.2.2.1, x17.2.2.2.2.1, cirI x17.1 x17.2.2.2.1 x17.2.2.2.2.1 x17.2.1 x17.2.2.2.2.2, v27) rfl ⟨hx17.1, (by dsimp only; omega)⟩ (SubM.row rfl rfl rfl (SubM.row rfl rfl rfl .nil)) (by simp [En.rdb])
  ·
   refine J.skip ?_
   refine JE.seqN ?_
   refine J.seq ?_
   refine J.any [] [.cells b7 26 [.int .i64 x17.1, x17.2.2.1], .row x17.2.2.1 50 2 ((x17.2.1).map bv), .ro vb 1 (xb.map yv)] SubI.sub ?_
   refine WA.take 0 rfl (RD.loadA rfl rfl) rfl (by kernel_rfl) rfl ?_
   refine WA.takeP 1 rfl (RDP.of fun _ => RD.move rfl) rfl (by kernel_rfl) rfl ?_
   refine WA.takeP 2 rfl (RDP.of fun _ => RD.move rfl) rfl (by kernel_rfl) rfl ?_
   refine WA.takeP 3 rfl (RDP.of fun _ => RD.move rfl) rfl (by kernel_rfl) rfl ?_
   refine WA.take 4 rfl (RD.loadA rfl rfl) rfl (by kernel_rfl) rfl ?_
   refine WA.one (i := 5) (by kernel_rfl) ?_
   refine WAi.efS rfl (EF.callM (.cons rfl (.cons rfl .nil)) (.cells .nil) (.ro (.ro .nil)) (fun w hS => l5Some_c _ _ _ vb xb _ _ _ _ (by first | omega | exact Nat.zero_le _) (by omega) (by omega)) (by simp [En.rdb])) rfl rfl (fun _ => SubI.sub) ?_
   rintro x45 ⟨hx45, hi45⟩
   refine WA.one (i := 6) (by kernel_rfl) ?_
   refine WAi.efN rfl (EF.storeA rfl rfl rfl rfl) rfl (fun _ => SubI.sub) ?_
   rintro ⟨⟩ -
   refine WA.takeP 7 rfl (RDP.of fun _ => RD.assign rfl) rfl (by kernel_rfl) rfl ?_
   refine WA.takeP 8 rfl (RDP.of fun _ => RD.assign rfl) rfl (by kernel_rfl) rfl ?_
   refine WA.takeP 9 rfl (RDP.of fun _ => RD.assign rfl) rfl (by kernel_rfl) rfl ?_
   refine WA.done (by kernel_rfl) ?_
   refine JE.seqN ?_
   refine J.ret ?_
   refine JE.ret rfl (ResL.flat rfl rfl (.tmp rfl (.tmp rfl (.tmp rfl .nil)))) (fun w hS => ?_)
   exact CN.fin hS (x17.1, x17.2.1, x17.2.2.1, x17.2.2.2.1, x17.2.2.2.2.1, x45.1, x45.2.1) rfl ⟨hx17.1, (by dsimp only; omega)⟩ (SubM.row rfl rfl rfl (SubM.row rfl rfl rfl .nil)) (by simp [En.rdb])
 ·
  refine WL.noS rfl rfl ?_
  refine WL.noS rfl rfl ?_
  refine WL.noS rfl rfl ?_
  refine WL.rd (RD.pickF rfl rfl) rfl rfl ?_
  refine WL.nil ?_
  refine JE.seqN ?_
  refine J.condF rfl ?_
  refine J.skip ?_
  refine JE.seqN ?_
  refine J.seq ?_
  refine J.any [] [.cells b7 26 [.int .i64 x17.1, x17.2.2.1], .row x17.2.2.1 50 2 ((x17.2.1).map bv), .ro vb 1 (xb.map yv)] SubI.sub ?_
  refine WA.take 0 rfl (RD.loadA rfl rfl) rfl (by kernel_rfl) rfl ?_
  refine WA.takeP 1 rfl (RDP.of fun _ => RD.move rfl) rfl (by kernel_rfl) rfl ?_
  refine WA.takeP 2 rfl (RDP.of fun _ => RD.move rfl) rfl (by kernel_rfl) rfl ?_
  refine WA.takeP 3 rfl (RDP.of fun _ => RD.move rfl) rfl (by kernel_rfl) rfl ?_
  refine WA.take 4 rfl (RD.loadA rfl rfl) rfl (by kernel_rfl) rfl ?_
  refine WA.one (i := 5) (by kernel_rfl) ?_
  refine WAi.efS rfl (EF.callM (.cons rfl (.cons rfl .nil)) (.cells .nil) (.ro (.ro .nil)) (fun w hS => l5Some_c _ _ _ vb xb _ _ _ _ (by first | omega | exact Nat.zero_le _) (by omega) (by omega)) (by simp [En.rdb])) rfl rfl (fun _ => SubI.sub) ?_
  rintro x45 ⟨hx45, hi45⟩
  refine WA.one (i := 6) (by kernel_rfl) ?_
  refine WAi.efN rfl (EF.storeA rfl rfl rfl rfl) rfl (fun _ => SubI.sub) ?_
  rintro ⟨⟩ -
  refine WA.takeP 7 rfl (RDP.of fun _ => RD.assign rfl) rfl (by kernel_rfl) rfl ?_
  refine WA.takeP 8 rfl (RDP.of fun _ => RD.assign rfl) rfl (by kernel_rfl) rfl ?_
  refine WA.takeP 9 rfl (RDP.of fun _ => RD.assign rfl) rfl (by kernel_rfl) rfl ?_
  refine WA.done (by kernel_rfl) ?_
  refine JE.seqN ?_
  refine J.ret ?_
  refine JE.ret rfl (ResL.flat rfl rfl (.tmp rfl (.tmp rfl (.tmp rfl .nil)))) (fun w hS => ?_)
  exact CN.fin hS (x17.1, x17.2.1, x17.2.2.1, x17.2.2.2.1, x17.2.2.2.2.1, x45.1, x45.2.1) rfl ⟨hx17.1, (by dsimp only; omega)⟩ (SubM.row rfl rfl rfl (SubM.row rfl rfl rfl .nil)) (by simp [En.rdb])

end Go.Proofs.Ytlcijjkbgcllfaa
