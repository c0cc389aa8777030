/- Contracts of functions of the program, each walked once; written by a program of our own. -/
import Derived.Test.YtpojkjabngkfgaaGqP
import Derived.Test.YtpojkjabngkfgaaDaP
import Derived.Test.YtpojkjabngkfgaaMy
namespace Go.Proofs.Ytpojkjabngkfgaa
open Go Go.RowKit
set_option maxRecDepth 4000

theorem l2Simple_c (cb i0 : Nat) (h0 : Int) (vb : Value) (xb : List UInt8) (n odd : Int) (w : World) (hi0 : i0 ≤ xb.length) (hlb : xb.length ≤ 1048576) (hn : 0 ≤ n ∧ n ≤ 100) :
    CM Try.prog 70 [.pointer (some ⟨cb, 0, none⟩), .int .i64 n, .int .i64 odd] w [.cells cb 83 [vb, .int .i64 (i0 : Int), .int .i64 h0]] [.ro vb 1 (xb.map yv)] (List (Int × Int) × Value × Nat × Int) (fun x => (x.1.length ≤ 24 ∧ bOk x.1) ∧ x.2.2.1 ≤ xb.length) (fun x => .agg #[.int .i64 n, x.2.1]) (fun x => [.cells cb 83 [vb, .int .i64 (x.2.2.1 : Int), .int .i64 x.2.2.2], .row x.2.1 59 2 ((x.1).map bv)]) := by
 intro hSt
 refine calls_of_J (mu := (muOf [.cells cb 83 [vb, .int .i64 (i0 : Int), .int .i64 h0]])) (m := [.cells cb 83 [vb, .int .i64 (i0 : Int), .int .i64 h0], .ro vb 1 (xb.map yv)]) (e := [(0, .pointer (some ⟨cb, 0, none⟩)), (1, .int .i64 n), (2, .int .i64 odd)]) Try.func70 rfl rfl (.cons rfl (.cons rfl (.cons rfl .nil))) (hSt) ?_
 refine J.seq ?_
 refine J.reg ?_
 refine WL.efS (EF.allocA) rfl rfl ?_
 intro b6 _
 refine WL.nil ?_
 refine JE.seqN ?_
 refine J.seq ?_
 refine J.reg ?_
 refine WL.rd (RD.move rfl) rfl rfl ?_
 refine WL.efS (EF.build0) rfl rfl ?_
 intro v11 _
 refine WL.rd (RD.build (n := 2) (.cons rfl (.cons rfl .nil)) rfl) rfl rfl ?_
 refine WL.efS (EF.allocA) rfl rfl ?_
 intro b7 _
 refine WL.efN (EF.storeA rfl rfl rfl rfl) rfl ?_
 rintro ⟨⟩ -
 refine WL.nil ?_
 refine JE.seqN ?_
 refine J.seq ?_
 refine J.seq ?_
 refine J.reg ?_
 refine WL.rd (RD.assign rfl) rfl rfl ?_
 refine WL.nil ?_
 refine JE.seqN ?_
 refine J.block ?_
 refine J.loop (fun gg ee mm => ∃ (a : Nat), ∃ (xs : List (Int × Int)), ∃ (u : Value), ∃ (i : Nat), ∃ (h : Int), gg = n.toNat - a ∧ (((a : Int) ≤ n) ∧ (xs.length ≤ 24) ∧ (bOk xs) ∧ (i ≤ xb.length)) ∧ ee = [(8, .int .i64 (a : Int)), (0, .pointer (some ⟨cb, 0, none⟩)), (1, .int .i64 n), (2, .int .i64 odd), (6, .pointer (some ⟨b6, 0, none⟩)), (7, .pointer (some ⟨b7, 0, none⟩))] ∧ mm = [.cells b7 26 [.int .i64 n, u], .row u 59 2 ((xs).map bv), .cells b6 26 [.int .i64 0, .slice none 0 0], .cells cb 83 [vb, .int .i64 (i : Int), .int .i64 h], .ro vb 1 (xb.map yv)]) _ ⟨0, [], v11, i0, h0, rfl, ?_, rfl, rfl⟩ ?_ ?_ ?_
 · exact ⟨by omega, by simp, bOk_nil, hi0⟩
 · exact (Sub.consE rfl (by first | rfl | (congr 1; omega) | (simp; done)) (Sub.consE rfl (by first | rfl | (congr 1; omega) | (simp; done)) (Sub.consE rfl (by first | rfl | (congr 1; omega) | (simp; done)) (Sub.consE rfl (by first | rfl | (congr 1; omega) | (simp; done)) (Sub.consE rfl (by first | rfl | (congr 1; omega) | (simp; done)) (Sub.consE rfl (by first | rfl | (congr 1; omega) | (simp; done)) .nil))))))
 · exact (SubM.cells rfl (by first | rfl | (simp; done)) (SubM.row rfl rfl (by first | rfl | (simp [iv, bv, yv, tv, sv]; done)) (SubM.cells rfl (by first | rfl | (simp; done)) (SubM.cells rfl (by first | rfl | (simp; done)) (SubM.ro rfl (by first | rfl | (simp [iv, bv, yv, tv, sv]; done)) .nil)))))
 ·
  rintro g _ _ ⟨a, xs, u, i, h, rfl, hI, rfl, rfl⟩
  refine J.seq ?_
  refine J.seq ?_
  refine J.reg ?_
  refine WL.rd (RD.move rfl) rfl rfl ?_
  refine WL.rd (RD.move rfl) rfl rfl ?_
  refine WL.rd (RD.lss rfl rfl) rfl rfl ?_
  refine WL.nil ?_
  refine JE.seqN ?_
  refine J.condP rfl (fun hc15 => ?_) (fun hc15 => ?_)
  ·
   refine J.skip ?_
   refine JE.seqN ?_
   refine J.seq ?_
   refine J.block ?_
   refine J.seq ?_
   refine J.reg ?_
   refine WL.rd (RD.move rfl) rfl rfl ?_
   refine WL.rd (RD.add rfl rfl (by omega) (by omega)) rfl rfl ?_
   refine WL.rd (RD.assign rfl) rfl rfl ?_
   refine WL.nil ?_
   refine JE.seqN ?_
   refine J.block ?_
   refine J.loop (fun gg ee mm => ∃ (b : Nat), ∃ (xs2 : List (Int × Int)), ∃ (u2 : Value), ∃ (i2 : Nat), ∃ (h2 : Int), gg = n.toNat - b ∧ (((b : Int) ≤ n) ∧ (xs2.length ≤ 24) ∧ (bOk xs2) ∧ (i2 ≤ xb.length) ∧ (a < b)) ∧ ee = [(9, .int .i64 (b : Int)), (8, .int .i64 (a : Int)), (0, .pointer (some ⟨cb, 0, none⟩)), (1, .int .i64 n), (2, .int .i64 odd), (6, .pointer (some ⟨b6, 0, none⟩)), (7, .pointer (some ⟨b7, 0, none⟩))] ∧ mm = [.cells b7 26 [.int .i64 n, u2], .row u2 59 2 ((xs2).map bv), .cells b6 26 [.int .i64 0, .slice none 0 0], .cells cb 83 [vb, .int .i64 (i2 : Int), .int .i64 h2], .ro vb 1 (xb.map yv)]) _ ⟨a + 1, xs, u, i, h, rfl, ?_, rfl, rfl⟩ ?_ ?_ ?_
   · exact ⟨by omega, by omega, hI.2.2.1, by omega, by omega⟩
   · exact (Sub.consE rfl (by first | rfl | (congr 1; omega) | (simp; done)) (Sub.consE rfl (by first | rfl | (congr 1; omega) | (simp; done)) (Sub.consE rfl (by first | rfl | (congr 1; omega) | (simp; done)) (Sub.consE rfl (by first | rfl | (congr 1; omega) | (simp; done)) (Sub.consE rfl (by first | rfl | (congr 1; omega) | (simp; done)) (Sub.consE rfl (by first | rfl | (congr 1; omega) | (simp; done)) (Sub.consE rfl (by first | rfl | (congr 1; omega) | (simp; done)) .nil)))))))
   · exact (SubM.cells rfl (by first | rfl | (simp; done)) (SubM.row rfl rfl (by first | rfl | (simp [iv, bv, yv, tv, sv]; done)) (SubM.cells rfl (by first | rfl | (simp; done)) (SubM.cells rfl (by first | rfl | (simp; done)) (SubM.ro rfl (by first | rfl | (simp [iv, bv, yv, tv, sv]; done)) .nil)))))
   ·
    rintro g _ _ ⟨b, xs2, u2, i2, h2, rfl, hJ, rfl, rfl⟩
    refine J.seq ?_
    refine J.seq ?_
    refine J.reg ?_
    refine WL.rd (RD.move rfl) rfl rfl ?_
    refine WL.rd (RD.move rfl) rfl rfl ?_
    refine WL.rd (RD.lss rfl rfl) rfl rfl ?_
    refine WL.nil ?_
    refine JE.seqN ?_
    refine J.condP rfl (fun hc22 => ?_) (fun hc22 => ?_)
    ·
     refine J.skip ?_
     refine JE.seqN ?_
     refine J.seq ?_
     refine J.block ?_
     refine J.seq ?_
     refine J.reg ?_
     refine WL.rd (RD.move rfl) rfl rfl ?_
     refine WL.efS (EF.callM (.cons rfl (.cons rfl .nil)) (.cells .nil) (.ro .nil) (fun w hS => l1Below_c _ _ _ vb xb _ _ (by first | omega | exact Nat.zero_le _) (by omega)) (by simp [En.rdb])) rfl rfl ?_
     rintro x26 ⟨hx26, hi26⟩
     refine WL.rd (RD.move rfl) rfl rfl ?_
     refine WL.rd (RD.lss rfl rfl) rfl rfl ?_
     refine WL.rd (RD.move rfl) rfl rfl ?_
     refine WL.caseP 29 rfl (fun hg29 => ?_) (fun hg29 => ?_)
     ·
      refine WL.rd (RD.fieldC rfl rfl) rfl rfl ?_
      refine WL.rd (RD.loadC rfl rfl) rfl rfl ?_
      refine WL.rd (RD.lenR rfl) rfl rfl ?_
      refine WL.rd (RD.lss rfl rfl) rfl rfl ?_
      refine WL.rd (RD.pickT rfl rfl) rfl rfl ?_
      refine WL.nil ?_
      refine JE.seqN ?_
      refine J.condP rfl (fun hc34 => ?_) (fun hc34 => ?_)
      ·
       refine J.reg ?_
       refine WL.rd (RD.fieldC rfl rfl) rfl rfl ?_
       refine WL.rd (RD.loadC rfl rfl) rfl rfl ?_
       refine WL.rd (RD.move rfl) rfl rfl ?_
       refine WL.rd (RD.move rfl) rfl rfl ?_
       refine WL.rd (RD.build (n := 2) (.cons rfl (.cons rfl .nil)) rfl) rfl rfl ?_
       refine WL.efS (EF.build1P rfl) rfl rfl ?_
       intro v40 _
       refine WL.efS (EF.append rfl rfl (by omega) rfl rfl rfl) rfl rfl ?_
       intro v41 _
       refine WL.rd (RD.fieldC rfl rfl) rfl rfl ?_
       refine WL.efN (EF.storeC rfl rfl rfl) rfl ?_
       rintro ⟨⟩ -
       refine WL.nil ?_
       refine JE.blockN ?_
       refine JE.seqN ?_
       refine J.reg ?_
       refine WL.rd (RD.move rfl) rfl rfl ?_
       refine WL.rd (RD.add rfl rfl (by omega) (by omega)) rfl rfl ?_
       refine WL.rd (RD.assign rfl) rfl rfl ?_
       refine WL.nil ?_
       refine JE.cutN ⟨_, ?_, b + 1, xs2 ++ [((a : Int), (b : Int))], v41, x26.2.1, x26.2.2, rfl, ?_, rfl, rfl⟩ ?_ ?_
       · omega
       · exact ⟨by omega, by simp; omega, bOk_snoc hJ.2.2.1 (by omega) (by omega), by omega, by omega⟩
       · exact (Sub.consE rfl (by first | rfl | (congr 1; omega) | (simp; done)) (Sub.consE rfl (by first | rfl | (congr 1; omega) | (simp; done)) (Sub.consE rfl (by first | rfl | (congr 1; omega) | (simp; done)) (Sub.consE rfl (by first | rfl | (congr 1; omega) | (simp; done)) (Sub.consE rfl (by first | rfl | (congr 1; omega) | (simp; done)) (Sub.consE rfl (by first | rfl | (congr 1; omega) | (simp; done)) (Sub.consE rfl (by first | rfl | (congr 1; omega) | (simp; done)) .nil)))))))
       · exact (SubM.cells rfl (by first | rfl | (simp; done)) (SubM.row rfl rfl (by first | rfl | (simp [iv, bv, yv, tv, sv]; done)) (SubM.cells rfl (by first | rfl | (simp; done)) (SubM.cells rfl (by first | rfl | (simp; done)) (SubM.ro rfl (by first | rfl | (simp [iv, bv, yv, tv, sv]; done)) .nil)))))
      ·
       refine J.skip ?_
       refine JE.blockN ?_
       refine JE.seqN ?_
       refine J.reg ?_
       refine WL.rd (RD.move rfl) rfl rfl ?_
       refine WL.rd (RD.add rfl rfl (by omega) (by omega)) rfl rfl ?_
       refine WL.rd (RD.assign rfl) rfl rfl ?_
       refine WL.nil ?_
       refine JE.cutN ⟨_, ?_, b + 1, xs2, u2, x26.2.1, x26.2.2, rfl, ?_, rfl, rfl⟩ ?_ ?_
       · omega
       · exact ⟨by omega, by omega, hJ.2.2.1, by omega, by omega⟩
       · exact (Sub.consE rfl (by first | rfl | (congr 1; omega) | (simp; done)) (Sub.consE rfl (by first | rfl | (congr 1; omega) | (simp; done)) (Sub.consE rfl (by first | rfl | (congr 1; omega) | (simp; done)) (Sub.consE rfl (by first | rfl | (congr 1; omega) | (simp; done)) (Sub.consE rfl (by first | rfl | (congr 1; omega) | (simp; done)) (Sub.consE rfl (by first | rfl | (congr 1; omega) | (simp; done)) (Sub.consE rfl (by first | rfl | (congr 1; omega) | (simp; done)) .nil)))))))
       · exact (SubM.cells rfl (by first | rfl | (simp; done)) (SubM.row rfl rfl (by first | rfl | (simp [iv, bv, yv, tv, sv]; done)) (SubM.cells rfl (by first | rfl | (simp; done)) (SubM.cells rfl (by first | rfl | (simp; done)) (SubM.ro rfl (by first | rfl | (simp [iv, bv, yv, tv, sv]; done)) .nil)))))
     ·
      refine WL.noS rfl rfl ?_
      refine WL.noS rfl rfl ?_
      refine WL.noS rfl rfl ?_
      refine WL.noS rfl rfl ?_
      refine WL.rd (RD.pickF rfl rfl) rfl rfl ?_
      refine WL.nil ?_
      refine JE.seqN ?_
      refine J.condF rfl ?_
      refine J.skip ?_
      refine JE.blockN ?_
      refine JE.seqN ?_
      refine J.reg ?_
      refine WL.rd (RD.move rfl) rfl rfl ?_
      refine WL.rd (RD.add rfl rfl (by omega) (by omega)) rfl rfl ?_
      refine WL.rd (RD.assign rfl) rfl rfl ?_
      refine WL.nil ?_
      refine JE.cutN ⟨_, ?_, b + 1, xs2, u2, x26.2.1, x26.2.2, rfl, ?_, rfl, rfl⟩ ?_ ?_
      · omega
      · exact ⟨by omega, by omega, hJ.2.2.1, by omega, by omega⟩
      · exact (Sub.consE rfl (by first | rfl | (congr 1; omega) | (simp; done)) (Sub.consE rfl (by first | rfl | (congr 1; omega) | (simp; done)) (Sub.consE rfl (by first | rfl | (congr 1; omega) | (simp; done)) (Sub.consE rfl (by first | rfl | (congr 1; omega) | (simp; done)) (Sub.consE rfl (by first | rfl | (congr 1; omega) | (simp; done)) (Sub.consE rfl (by first | rfl | (congr 1; omega) | (simp; done)) (Sub.consE rfl (by first | rfl | (congr 1; omega) | (simp; done)) .nil)))))))
      · exact (SubM.cells rfl (by first | rfl | (simp; done)) (SubM.row rfl rfl (by first | rfl | (simp [iv, bv, yv, tv, sv]; done)) (SubM.cells rfl (by first | rfl | (simp; done)) (SubM.cells rfl (by first | rfl | (simp; done)) (SubM.ro rfl (by first | rfl | (simp [iv, bv, yv, tv, sv]; done)) .nil)))))
    ·
     refine J.exit ?_
     refine JE.seqX ?_
     refine JE.cutX ?_
     refine JE.blockHit ?_
     refine JE.blockN ?_
     refine JE.seqN ?_
     refine J.reg ?_
     refine WL.rd (RD.move rfl) rfl rfl ?_
     refine WL.rd (RD.add rfl rfl (by omega) (by omega)) rfl rfl ?_
     refine WL.rd (RD.assign rfl) rfl rfl ?_
     refine WL.nil ?_
     refine JE.cutN ⟨_, ?_, a + 1, xs2, u2, i2, h2, rfl, ?_, rfl, rfl⟩ ?_ ?_
     · omega
     · exact ⟨by omega, hJ.2.1, hJ.2.2.1, hJ.2.2.2.1⟩
     · exact (Sub.consE rfl (by first | rfl | (congr 1; omega) | (simp; done)) (Sub.consE rfl (by first | rfl | (congr 1; omega) | (simp; done)) (Sub.consE rfl (by first | rfl | (congr 1; omega) | (simp; done)) (Sub.consE rfl (by first | rfl | (congr 1; omega) | (simp; done)) (Sub.consE rfl (by first | rfl | (congr 1; omega) | (simp; done)) (Sub.consE rfl (by first | rfl | (congr 1; omega) | (simp; done)) .nil))))))
     · exact (SubM.cells rfl (by first | rfl | (simp; done)) (SubM.row rfl rfl (by first | rfl | (simp [iv, bv, yv, tv, sv]; done)) (SubM.cells rfl (by first | rfl | (simp; done)) (SubM.cells rfl (by first | rfl | (simp; done)) (SubM.ro rfl (by first | rfl | (simp [iv, bv, yv, tv, sv]; done)) .nil)))))
  ·
   refine J.exit ?_
   refine JE.seqX ?_
   refine JE.cutX ?_
   refine JE.blockHit ?_
   refine JE.seqN ?_
   refine J.seq ?_
   refine J.reg ?_
   refine WL.rd (RD.loadA rfl rfl) rfl rfl ?_
   refine WL.efN (EF.storeA rfl rfl rfl rfl) rfl ?_
   rintro ⟨⟩ -
   refine WL.nil ?_
   refine JE.seqN ?_
   refine J.ret ?_
   refine JE.ret rfl (ResL.flat rfl rfl .nil) (fun w hS => ?_)
   exact CM.fin hS (xs, u, i, h) rfl ⟨⟨hI.2.1, hI.2.2.1⟩, hI.2.2.2⟩ (SubM.cells rfl rfl (SubM.row rfl rfl rfl .nil)) (by simp [En.rdb])
theorem l2Graph_c (cb i0 : Nat) (h0 : Int) (vb : Value) (xb : List UInt8) (w : World) (hi0 : i0 ≤ xb.length) (hlb : xb.length ≤ 1048576) :
    CM Try.prog 64 [.pointer (some ⟨cb, 0, none⟩)] w [.cells cb 83 [vb, .int .i64 (i0 : Int), .int .i64 h0]] [.ro vb 1 (xb.map yv)] (Int × List (Int × Int) × Value × Nat × Int) (fun x => ((-1 ≤ x.1 ∧ x.1 ≤ 9) ∧ x.2.1.length ≤ 24 ∧ bOk x.2.1) ∧ x.2.2.2.1 ≤ xb.length) (fun x => .agg #[.int .i64 x.1, x.2.2.1]) (fun x => [.cells cb 83 [vb, .int .i64 (x.2.2.2.1 : Int), .int .i64 x.2.2.2.2], .row x.2.2.1 59 2 ((x.2.1).map bv)]) := by
 intro hSt
 refine calls_of_J (mu := (muOf [.cells cb 83 [vb, .int .i64 (i0 : Int), .int .i64 h0]])) (m := [.cells cb 83 [vb, .int .i64 (i0 : Int), .int .i64 h0], .ro vb 1 (xb.map yv)]) (e := [(0, .pointer (some ⟨cb, 0, none⟩))]) Try.func64 rfl rfl (.cons rfl .nil) (hSt) ?_
 refine J.seq ?_
 refine J.reg ?_
 refine WL.efS (EF.allocA) rfl rfl ?_
 intro b2 _
 refine WL.nil ?_
 refine JE.seqN ?_
 refine J.seq ?_
 refine J.reg ?_
 refine WL.rd (RD.move rfl) rfl rfl ?_
 refine WL.rd (RD.move rfl) rfl rfl ?_
 refine WL.efS (EF.callM (.cons rfl (.cons rfl .nil)) (.cells .nil) (.ro .nil) (fun w hS => l1Below_c _ _ _ vb xb _ _ (by first | omega | exact Nat.zero_le _) (by omega)) (by simp [En.rdb])) rfl rfl ?_
 rintro x9 ⟨hx9, hi9⟩
 refine WL.rd (RD.add rfl rfl (by omega) (by omega)) rfl rfl ?_
 refine WL.rd (RD.move rfl) rfl rfl ?_
 refine WL.efS (EF.callM (.cons rfl (.cons rfl .nil)) (.cells .nil) (.ro .nil) (fun w hS => l1Below_c _ _ _ vb xb _ _ (by first | omega | exact Nat.zero_le _) (by omega)) (by simp [En.rdb])) rfl rfl ?_
 rintro x12 ⟨hx12, hi12⟩
 refine WL.rd (RD.add rfl rfl (by omega) (by omega)) rfl rfl ?_
 refine WL.efS (EF.callM (.cons rfl (.cons rfl (.cons rfl .nil))) (.cells .nil) (.ro .nil) (fun w hS => l2Simple_c _ _ _ vb xb _ _ _ (by first | omega | exact Nat.zero_le _) (by omega) (by omega)) (by simp [En.rdb])) rfl rfl ?_
 rintro x14 ⟨hx14, hi14⟩
 refine WL.efS (EF.allocA) rfl rfl ?_
 intro b3 _
 refine WL.efN (EF.storeA rfl rfl rfl rfl) rfl ?_
 rintro ⟨⟩ -
 refine WL.nil ?_
 refine JE.seqN ?_
 refine J.seq ?_
 refine J.seq ?_
 refine J.reg ?_
 refine WL.rd (RD.move rfl) rfl rfl ?_
 refine WL.efS (EF.callM (.cons rfl (.cons rfl .nil)) (.cells .nil) (.ro .nil) (fun w hS => l1Below_c _ _ _ vb xb _ _ (by first | omega | exact Nat.zero_le _) (by omega)) (by simp [En.rdb])) rfl rfl ?_
 rintro x16 ⟨hx16, hi16⟩
 refine WL.rd (RD.move rfl) rfl rfl ?_
 refine WL.efS (EF.callM (.cons rfl (.cons rfl .nil)) (.cells .nil) (.ro .nil) (fun w hS => l1Below_c _ _ _ vb xb _ _ (by first | omega | exact Nat.zero_le _) (by omega)) (by simp [En.rdb])) rfl rfl ?_
 rintro x18 ⟨hx18, hi18⟩
 have hm : 0 ≤ x16.1 * x18.1 ∧ x16.1 * x18.1 ≤ 4 := (show x18.1 = 0 ∨ x18.1 = 1 by omega).elim (fun h => by rw [h]; omega) (fun h => by rw [h]; omega)
 refine WL.rd (RD.mul rfl rfl (by omega) (by omega)) rfl rfl ?_
 refine WL.rd (RD.assign rfl) rfl rfl ?_
 refine WL.nil ?_
 refine JE.seqN ?_
 refine J.block ?_
 refine J.loop (fun gg ee mm => ∃ (r : Int), ∃ (xs : List (Int × Int)), ∃ (u : Value), ∃ (i : Nat), ∃ (h : Int), gg = r.toNat ∧ ((0 ≤ r ∧ r ≤ 10) ∧ (xs.length ≤ 24) ∧ (bOk xs) ∧ (i ≤ xb.length)) ∧ ee = [(4, .int .i64 r), (0, .pointer (some ⟨cb, 0, none⟩)), (2, .pointer (some ⟨b2, 0, none⟩)), (3, .pointer (some ⟨b3, 0, none⟩))] ∧ mm = [.cells b3 26 [.int .i64 (2 + x9.1), u], .row u 59 2 ((xs).map bv), .cells b2 26 [.int .i64 0, .slice none 0 0], .ro vb 1 (xb.map yv), .cells cb 83 [vb, .int .i64 (i : Int), .int .i64 h]]) _ ⟨x16.1 * x18.1, x14.1, x14.2.1, x18.2.1, x18.2.2, rfl, ?_, rfl, rfl⟩ ?_ ?_ ?_
 · exact ⟨by omega, hx14.1, hx14.2, by omega⟩
 · exact (Sub.consE rfl (by first | rfl | (congr 1; omega) | (simp; done)) (Sub.consE rfl (by first | rfl | (congr 1; omega) | (simp; done)) (Sub.consE rfl (by first | rfl | (congr 1; omega) | (simp; done)) (Sub.consE rfl (by first | rfl | (congr 1; omega) | (simp; done)) .nil))))
 · exact (SubM.cells rfl (by first | rfl | (simp; done)) (SubM.row rfl rfl (by first | rfl | (simp [iv, bv, yv, tv, sv]; done)) (SubM.cells rfl (by first | rfl | (simp; done)) (SubM.ro rfl (by first | rfl | (simp [iv, bv, yv, tv, sv]; done)) (SubM.cells rfl (by first | rfl | (simp; done)) .nil)))))
 ·
  rintro g _ _ ⟨r, xs, u, i, h, rfl, hI, rfl, rfl⟩
  refine J.seq ?_
  refine J.seq ?_
  refine J.reg ?_
  refine WL.rd (RD.move rfl) rfl rfl ?_
  refine WL.rd (RD.gtr rfl rfl) rfl rfl ?_
  refine WL.nil ?_
  refine JE.seqN ?_
  refine J.condP rfl (fun hc21 => ?_) (fun hc21 => ?_)
  ·
   refine J.skip ?_
   refine JE.seqN ?_
   refine J.seq ?_
   refine J.block ?_
   refine J.seq ?_
   refine J.reg ?_
   refine WL.rd (RD.move rfl) rfl rfl ?_
   refine WL.rd (RD.fieldC rfl rfl) rfl rfl ?_
   refine WL.rd (RD.loadC rfl rfl) rfl rfl ?_
   refine WL.efS (EF.callM (.cons rfl (.cons rfl .nil)) (.cells .nil) (.ro .nil) (fun w hS => l1Below_c _ _ _ vb xb _ _ (by first | omega | exact Nat.zero_le _) (by omega)) (by simp [En.rdb])) rfl rfl ?_
   rintro x27 ⟨hx27, hi27⟩
   refine WL.rd (RD.assign rfl) rfl rfl ?_
   refine WL.nil ?_
   refine JE.seqN ?_
   refine J.seq ?_
   refine J.reg ?_
   refine WL.rd (RD.move rfl) rfl rfl ?_
   refine WL.rd (RD.fieldC rfl rfl) rfl rfl ?_
   refine WL.rd (RD.loadC rfl rfl) rfl rfl ?_
   refine WL.efS (EF.callM (.cons rfl (.cons rfl .nil)) (.cells .nil) (.ro .nil) (fun w hS => l1Below_c _ _ _ vb xb _ _ (by first | omega | exact Nat.zero_le _) (by omega)) (by simp [En.rdb])) rfl rfl ?_
   rintro x31 ⟨hx31, hi31⟩
   refine WL.rd (RD.assign rfl) rfl rfl ?_
   refine WL.nil ?_
   refine JE.seqN ?_
   refine J.reg ?_
   refine WL.rd (RD.loadA rfl rfl) rfl rfl ?_
   refine WL.rd (RD.move rfl) rfl rfl ?_
   refine WL.rd (RD.move rfl) rfl rfl ?_
   refine WL.efS (EF.callN (.cons rfl (.cons rfl (.cons rfl .nil))) (fun w hS => sAddBar_c _ _ _ _ _ _ (by exact RdI.rd hS) (by omega))) rfl rfl ?_
   rintro v36 -
   refine WL.rd (RD.move rfl) rfl rfl ?_
   refine WL.rd (RD.extract rfl rfl) rfl rfl ?_
   refine WL.rd (RD.extract rfl rfl) rfl rfl ?_
   refine WL.efN (EF.storeA rfl rfl rfl rfl) rfl ?_
   rintro ⟨⟩ -
   refine WL.nil ?_
   refine JE.blockN ?_
   refine JE.seqN ?_
   refine J.reg ?_
   refine WL.rd (RD.move rfl) rfl rfl ?_
   refine WL.rd (RD.sub rfl rfl (by omega) (by omega)) rfl rfl ?_
   refine WL.rd (RD.assign rfl) rfl rfl ?_
   refine WL.nil ?_
   refine JE.cutN ⟨_, ?_, r - 1, adL (2 + x9.1) xs x27.1 x31.1, v36, x31.2.1, x31.2.2, rfl, ?_, rfl, rfl⟩ ?_ ?_
   · omega
   · exact ⟨by omega, adL_24 _ _ hI.2.1, bOk_ad hI.2.2.1 (by omega) (by omega), by omega⟩
   · exact (Sub.consE rfl (by first | rfl | (congr 1; omega) | (simp; done)) (Sub.consE rfl (by first | rfl | (congr 1; omega) | (simp; done)) (Sub.consE rfl (by first | rfl | (congr 1; omega) | (simp; done)) (Sub.consE rfl (by first | rfl | (congr 1; omega) | (simp; done)) .nil))))
   · exact (SubM.cells rfl (by first | rfl | (simp; done)) (SubM.row rfl rfl (by first | rfl | (simp [iv, bv, yv, tv, sv]; done)) (SubM.cells rfl (by first | rfl | (simp; done)) (SubM.ro rfl (by first | rfl | (simp [iv, bv, yv, tv, sv]; done)) (SubM.cells rfl (by first | rfl | (simp; done)) .nil)))))
  ·
   refine J.exit ?_
   refine JE.seqX ?_
   refine JE.cutX ?_
   refine JE.blockHit ?_
   refine JE.seqN ?_
   refine J.seq ?_
   refine J.reg ?_
   refine WL.rd (RD.loadA rfl rfl) rfl rfl ?_
   refine WL.efN (EF.storeA rfl rfl rfl rfl) rfl ?_
   rintro ⟨⟩ -
   refine WL.nil ?_
   refine JE.seqN ?_
   refine J.ret ?_
   refine JE.ret rfl (ResL.flat rfl rfl .nil) (fun w hS => ?_)
   exact CM.fin hS (2 + x9.1, xs, u, i, h) rfl ⟨⟨(by dsimp only; omega), hI.2.1, hI.2.2.1⟩, hI.2.2.2⟩ (SubM.cells rfl rfl (SubM.row rfl rfl rfl .nil)) (by simp [En.rdb])
theorem l2Any_c (cb i0 : Nat) (h0 : Int) (vb : Value) (xb : List UInt8) (w : World) (hi0 : i0 ≤ xb.length) (hlb : xb.length ≤ 1048576) :
    CM Try.prog 53 [.pointer (some ⟨cb, 0, none⟩)] w [.cells cb 83 [vb, .int .i64 (i0 : Int), .int .i64 h0]] [.ro vb 1 (xb.map yv)] (Int × List (Int × Int) × Value × Nat × Int) (fun x => ((-1 ≤ x.1 ∧ x.1 ≤ 9) ∧ x.2.1.length ≤ 25 ∧ bOk x.2.1) ∧ x.2.2.2.1 ≤ xb.length) (fun x => .agg #[.int .i64 x.1, x.2.2.1]) (fun x => [.cells cb 83 [vb, .int .i64 (x.2.2.2.1 : Int), .int .i64 x.2.2.2.2], .row x.2.2.1 59 2 ((x.2.1).map bv)]) := by
 intro hSt
 refine calls_of_J (mu := (muOf [.cells cb 83 [vb, .int .i64 (i0 : Int), .int .i64 h0]])) (m := [.cells cb 83 [vb, .int .i64 (i0 : Int), .int .i64 h0], .ro vb 1 (xb.map yv)]) (e := [(0, .pointer (some ⟨cb, 0, none⟩))]) Try.func53 rfl rfl (.cons rfl .nil) (hSt) ?_
 refine J.seq ?_
 refine J.reg ?_
 refine WL.efS (EF.allocA) rfl rfl ?_
 intro b2 _
 refine WL.nil ?_
 refine JE.seqN ?_
 refine J.seq ?_
 refine J.reg ?_
 refine WL.rd (RD.move rfl) rfl rfl ?_
 refine WL.efS (EF.callM (.cons rfl .nil) (.cells .nil) (.ro .nil) (fun w hS => l2Graph_c _ _ _ vb xb _ (by first | omega | exact Nat.zero_le _) (by omega)) (by simp [En.rdb])) rfl rfl ?_
 rintro x5 ⟨hx5, hi5⟩
 refine WL.efS (EF.allocA) rfl rfl ?_
 intro b3 _
 refine WL.efN (EF.storeA rfl rfl rfl rfl) rfl ?_
 rintro ⟨⟩ -
 refine WL.nil ?_
 refine JE.seqN ?_
 refine J.seq ?_
 refine J.seq ?_
 refine J.reg ?_
 refine WL.rd (RD.move rfl) rfl rfl ?_
 refine WL.efS (EF.callM (.cons rfl (.cons rfl .nil)) (.cells .nil) (.ro .nil) (fun w hS => l1Below_c _ _ _ vb xb _ _ (by first | omega | exact Nat.zero_le _) (by omega)) (by simp [En.rdb])) rfl rfl ?_
 rintro x7 ⟨hx7, hi7⟩
 refine WL.nil ?_
 refine JE.seqN ?_
 refine J.block ?_
 refine J.seq ?_
 refine J.reg ?_
 refine WL.rd (RD.eql rfl rfl) rfl rfl ?_
 refine WL.rd (RD.assign rfl) rfl rfl ?_
 refine WL.nil ?_
 refine JE.seqN ?_
 refine J.condP rfl (fun hc8 => ?_) (fun hc8 => ?_)
 ·
  refine J.reg ?_
  refine WL.rd (RD.move rfl) rfl rfl ?_
  refine WL.efS (EF.buildN [.int .i64 0, .int .i64 (-1), .int .i64 9, .int .i64 3] ([0, -1, 9, 3].map iv) (.cons rfl (.cons rfl (.cons rfl (.cons rfl .nil)))) rfl rfl (by simp [Value.cells]) rfl (by decide)) rfl rfl ?_
  intro v11 _
  refine WL.efS (EF.callM (.cons rfl (.cons rfl .nil)) (.cells .nil) (.ro (.ro .nil)) (fun w hS => l1PickInt_c _ _ _ vb xb _ _ _ (by first | omega | exact Nat.zero_le _) (by omega) (by simp) (by simp)) (by simp [En.rdb])) rfl rfl ?_
  rintro x12 ⟨hx12, hi12⟩
  have hp12 : x12.1 = 0 ∨ x12.1 = -1 ∨ x12.1 = 9 ∨ x12.1 = 3 := by simpa using hx12
  refine WL.rd (RD.fieldC rfl rfl) rfl rfl ?_
  refine WL.efN (EF.storeC rfl rfl rfl) rfl ?_
  rintro ⟨⟩ -
  refine WL.nil ?_
  refine JE.blockN ?_
  refine JE.seqN ?_
  refine J.seq ?_
  refine J.reg ?_
  refine WL.rd (RD.loadA rfl rfl) rfl rfl ?_
  refine WL.efN (EF.storeA rfl rfl rfl rfl) rfl ?_
  rintro ⟨⟩ -
  refine WL.nil ?_
  refine JE.seqN ?_
  refine J.ret ?_
  refine JE.ret rfl (ResL.flat rfl rfl .nil) (fun w hS => ?_)
  exact CM.fin hS (x12.1, x5.2.1, x5.2.2.1, x12.2.1, x12.2.2) rfl ⟨⟨(by dsimp only; omega), (by dsimp only; omega), hx5.2.2⟩, hi12⟩ (SubM.cells rfl rfl (SubM.row rfl rfl rfl .nil)) (by simp [En.rdb])
 ·
  refine J.seq ?_
  refine J.reg ?_
  refine WL.rd (RD.eql rfl rfl) rfl rfl ?_
  refine WL.rd (RD.assign rfl) rfl rfl ?_
  refine WL.nil ?_
  refine JE.seqN ?_
  refine J.condP rfl (fun hc14 => ?_) (fun hc14 => ?_)
  ·
   refine J.any [10] [.cells b3 26 [.int .i64 x5.1, x5.2.2.1], .cells b2 26 [.int .i64 0, (.slice none 0 0)], .ro vb 1 (xb.map yv)] SubI.sub ?_
   refine WA.takeP 0 rfl (RDP.of fun _ => RD.fieldC rfl rfl) rfl (by kernel_rfl) rfl ?_
   refine WA.take 1 rfl (RD.loadC rfl rfl) rfl (by kernel_rfl) rfl ?_
   refine WA.takeP 2 rfl (RDP.of fun _ => RD.move rfl) rfl (by kernel_rfl) rfl ?_
   refine WA.takeP 4 rfl (RDP.of fun _ => RD.move rfl) rfl (by kernel_rfl) rfl ?_
   refine WA.one (i := 3) (by kernel_rfl) ?_
   refine WAi.efS rfl (EF.callM (.cons rfl (.cons rfl .nil)) (.cells .nil) (.ro .nil) (fun w hS => l1Below_c _ _ _ vb xb _ _ (by first | omega | exact Nat.zero_le _) (by omega)) (by simp [En.rdb])) rfl rfl (fun _ => SubI.sub) ?_
   rintro x19 ⟨hx19, hi19⟩
   refine WA.one (i := 5) (by kernel_rfl) ?_
   refine WAi.efS rfl (EF.callM (.cons rfl (.cons rfl .nil)) (.cells .nil) (.ro .nil) (fun w hS => l1Below_c _ _ _ vb xb _ _ (by first | omega | exact Nat.zero_le _) (by omega)) (by simp [En.rdb])) rfl rfl (fun _ => SubI.sub) ?_
   rintro x21 ⟨hx21, hi21⟩
   refine WA.takeP 6 rfl (RDP.build (n := 2) (.cons rfl (.cons rfl .nil)) rfl) rfl (by kernel_rfl) rfl ?_
   refine WA.one (i := 7) (by kernel_rfl) ?_
   refine WAi.efS rfl (EF.build1P rfl) rfl rfl (fun _ => SubI.sub) ?_
   intro v23 _
   refine WA.one (i := 8) (by kernel_rfl) ?_
   refine WAi.efS rfl (EF.append rfl rfl (by omega) rfl rfl rfl) rfl rfl (fun _ => SubI.sub) ?_
   intro v24 _
   refine WA.takeP 9 rfl (RDP.of fun _ => RD.fieldC rfl rfl) rfl (by kernel_rfl) rfl ?_
   refine WA.one (i := 10) (by kernel_rfl) ?_
   refine WAi.efNL rfl (EF.storeC rfl rfl rfl) rfl rfl ?_
   rintro ⟨⟩ -
   refine WB.done (by kernel_rfl) ?_
   refine JE.blockN ?_
   refine JE.seqN ?_
   refine J.seq ?_
   refine J.reg ?_
   refine WL.rd (RD.loadA rfl rfl) rfl rfl ?_
   refine WL.efN (EF.storeA rfl rfl rfl rfl) rfl ?_
   rintro ⟨⟩ -
   refine WL.nil ?_
   refine JE.seqN ?_
   refine J.ret ?_
   refine JE.ret rfl (ResL.flat rfl rfl .nil) (fun w hS => ?_)
   exact CM.fin hS (x5.1, (x5.2.1 ++ [(x19.1, x21.1)]), v24, x21.2.1, x21.2.2) rfl ⟨⟨hx5.1, (by simp only [List.length_append, List.length_singleton]; omega), bOk_snoc hx5.2.2 (by omega) (by omega)⟩, hi21⟩ (SubM.cells rfl rfl (SubM.row rfl rfl rfl .nil)) (by simp [En.rdb])
  ·
   refine J.skip ?_
   refine JE.blockN ?_
   refine JE.seqN ?_
   refine J.seq ?_
   refine J.reg ?_
   refine WL.rd (RD.loadA rfl rfl) rfl rfl ?_
   refine WL.efN (EF.storeA rfl rfl rfl rfl) rfl ?_
   rintro ⟨⟩ -
   refine WL.nil ?_
   refine JE.seqN ?_
   refine J.ret ?_
   refine JE.ret rfl (ResL.flat rfl rfl .nil) (fun w hS => ?_)
   exact CM.fin hS (x5.1, x5.2.1, x5.2.2.1, x7.2.1, x7.2.2) rfl ⟨⟨hx5.1, (by dsimp only; omega), hx5.2.2⟩, hi7⟩ (SubM.cells rfl rfl (SubM.row rfl rfl rfl .nil)) (by simp [En.rdb])
theorem l3Range_c (cb i0 : Nat) (h0 : Int) (vb : Value) (xb : List UInt8) (w : World) (hi0 : i0 ≤ xb.length) (hlb : xb.length ≤ 1048576) :
    CM Try.prog 55 [.pointer (some ⟨cb, 0, none⟩)] w [.cells cb 83 [vb, .int .i64 (i0 : Int), .int .i64 h0]] [.ro vb 1 (xb.map yv)] (Int × Int × Nat × Int) (fun x => ((0 ≤ x.1 ∧ x.1 ≤ 4) ∧ -1 ≤ x.2.1 ∧ x.2.1 ≤ 5) ∧ x.2.2.1 ≤ xb.length) (fun x => .tuple #[.int .i64 x.1, .int .i64 x.2.1]) (fun x => [.cells cb 83 [vb, .int .i64 (x.2.2.1 : Int), .int .i64 x.2.2.2]]) := by
 intro hSt
 refine calls_of_J (mu := (muOf [.cells cb 83 [vb, .int .i64 (i0 : Int), .int .i64 h0]])) (m := [.cells cb 83 [vb, .int .i64 (i0 : Int), .int .i64 h0], .ro vb 1 (xb.map yv)]) (e := [(0, .pointer (some ⟨cb, 0, none⟩))]) Try.func55 rfl rfl (.cons rfl .nil) (hSt) ?_
 refine J.seq ?_
 refine J.reg ?_
 refine WL.rd (RD.assign rfl) rfl rfl ?_
 refine WL.rd (RD.assign rfl) rfl rfl ?_
 refine WL.nil ?_
 refine JE.seqN ?_
 refine J.seq ?_
 refine J.seq ?_
 refine J.reg ?_
 refine WL.rd (RD.move rfl) rfl rfl ?_
 refine WL.efS (EF.callM (.cons rfl (.cons rfl .nil)) (.cells .nil) (.ro .nil) (fun w hS => l1Below_c _ _ _ vb xb _ _ (by first | omega | exact Nat.zero_le _) (by omega)) (by simp [En.rdb])) rfl rfl ?_
 rintro x5 ⟨hx5, hi5⟩
 refine WL.nil ?_
 refine JE.seqN ?_
 refine J.block ?_
 refine J.seq ?_
 refine J.seq ?_
 refine J.reg ?_
 refine WL.rd (RD.eql rfl rfl) rfl rfl ?_
 refine WL.rd (RD.assign rfl) rfl rfl ?_
 refine WL.nil ?_
 refine JE.seqN ?_
 refine J.condP rfl (fun hc6 => ?_) (fun hc6 => ?_)
 ·
  refine J.skip ?_
  refine JE.seqN ?_
  refine J.condP rfl (fun hc6 => ?_) (fun hc6 => ?_)
  ·
   refine J.seq ?_
   refine J.reg ?_
   refine WL.rd (RD.assign rfl) rfl rfl ?_
   refine WL.rd (RD.assign rfl) rfl rfl ?_
   refine WL.nil ?_
   refine JE.seqN ?_
   refine J.ret ?_
   refine JE.ret rfl (.tmp rfl (.tmp rfl .nil)) (fun w hS => ?_)
   first | (exfalso; omega) | (exact CM.fin hS (2, 3, x5.2.1, x5.2.2) rfl (by dsimp only; omega) (SubM.cells rfl rfl .nil) (by simp [En.rdb])) | (exact CM.fin hS (1, 1, x5.2.1, x5.2.2) rfl (by dsimp only; omega) (SubM.cells rfl rfl .nil) (by simp [En.rdb])) | (exact CM.fin hS (2, 2, x5.2.1, x5.2.2) rfl (by dsimp only; omega) (SubM.cells rfl rfl .nil) (by simp [En.rdb])) | (exact CM.fin hS (x15.1, x17.1 - 1, x17.2.1, x17.2.2) rfl (by dsimp only; omega) (SubM.cells rfl rfl .nil) (by simp [En.rdb]))
  ·
   refine J.seq ?_
   refine J.reg ?_
   refine WL.rd (RD.eql rfl rfl) rfl rfl ?_
   refine WL.rd (RD.assign rfl) rfl rfl ?_
   refine WL.nil ?_
   refine JE.seqN ?_
   refine J.condP rfl (fun hc10 => ?_) (fun hc10 => ?_)
   ·
    refine J.seq ?_
    refine J.reg ?_
    refine WL.rd (RD.assign rfl) rfl rfl ?_
    refine WL.rd (RD.assign rfl) rfl rfl ?_
    refine WL.nil ?_
    refine JE.seqN ?_
    refine J.ret ?_
    refine JE.ret rfl (.tmp rfl (.tmp rfl .nil)) (fun w hS => ?_)
    first | (exfalso; omega) | (exact CM.fin hS (2, 3, x5.2.1, x5.2.2) rfl (by dsimp only; omega) (SubM.cells rfl rfl .nil) (by simp [En.rdb])) | (exact CM.fin hS (1, 1, x5.2.1, x5.2.2) rfl (by dsimp only; omega) (SubM.cells rfl rfl .nil) (by simp [En.rdb])) | (exact CM.fin hS (2, 2, x5.2.1, x5.2.2) rfl (by dsimp only; omega) (SubM.cells rfl rfl .nil) (by simp [En.rdb])) | (exact CM.fin hS (x15.1, x17.1 - 1, x17.2.1, x17.2.2) rfl (by dsimp only; omega) (SubM.cells rfl rfl .nil) (by simp [En.rdb]))
   ·
    refine J.seq ?_
    refine J.reg ?_
    refine WL.rd (RD.eql rfl rfl) rfl rfl ?_
    refine WL.rd (RD.assign rfl) rfl rfl ?_
    refine WL.nil ?_
    refine JE.seqN ?_
    refine J.condP rfl (fun hc12 => ?_) (fun hc12 => ?_)
    ·
     refine J.seq ?_
     refine J.reg ?_
     refine WL.rd (RD.assign rfl) rfl rfl ?_
     refine WL.rd (RD.assign rfl) rfl rfl ?_
     refine WL.nil ?_
     refine JE.seqN ?_
     refine J.ret ?_
     refine JE.ret rfl (.tmp rfl (.tmp rfl .nil)) (fun w hS => ?_)
     first | (exfalso; omega) | (exact CM.fin hS (2, 3, x5.2.1, x5.2.2) rfl (by dsimp only; omega) (SubM.cells rfl rfl .nil) (by simp [En.rdb])) | (exact CM.fin hS (1, 1, x5.2.1, x5.2.2) rfl (by dsimp only; omega) (SubM.cells rfl rfl .nil) (by simp [En.rdb])) | (exact CM.fin hS (2, 2, x5.2.1, x5.2.2) rfl (by dsimp only; omega) (SubM.cells rfl rfl .nil) (by simp [En.rdb])) | (exact CM.fin hS (x15.1, x17.1 - 1, x17.2.1, x17.2.2) rfl (by dsimp only; omega) (SubM.cells rfl rfl .nil) (by simp [En.rdb]))
    ·
     refine J.skip ?_
     refine JE.blockN ?_
     refine JE.seqN ?_
     refine J.seq ?_
     refine J.reg ?_
     refine WL.rd (RD.move rfl) rfl rfl ?_
     refine WL.efS (EF.callM (.cons rfl (.cons rfl .nil)) (.cells .nil) (.ro .nil) (fun w hS => l1Below_c _ _ _ vb xb _ _ (by first | omega | exact Nat.zero_le _) (by omega)) (by simp [En.rdb])) rfl rfl ?_
     rintro x15 ⟨hx15, hi15⟩
     refine WL.rd (RD.move rfl) rfl rfl ?_
     refine WL.efS (EF.callM (.cons rfl (.cons rfl .nil)) (.cells .nil) (.ro .nil) (fun w hS => l1Below_c _ _ _ vb xb _ _ (by first | omega | exact Nat.zero_le _) (by omega)) (by simp [En.rdb])) rfl rfl ?_
     rintro x17 ⟨hx17, hi17⟩
     refine WL.rd (RD.sub rfl rfl (by omega) (by omega)) rfl rfl ?_
     refine WL.rd (RD.assign rfl) rfl rfl ?_
     refine WL.rd (RD.assign rfl) rfl rfl ?_
     refine WL.nil ?_
     refine JE.seqN ?_
     refine J.ret ?_
     refine JE.ret rfl (.tmp rfl (.tmp rfl .nil)) (fun w hS => ?_)
     first | (exfalso; omega) | (exact CM.fin hS (2, 3, x5.2.1, x5.2.2) rfl (by dsimp only; omega) (SubM.cells rfl rfl .nil) (by simp [En.rdb])) | (exact CM.fin hS (1, 1, x5.2.1, x5.2.2) rfl (by dsimp only; omega) (SubM.cells rfl rfl .nil) (by simp [En.rdb])) | (exact CM.fin hS (2, 2, x5.2.1, x5.2.2) rfl (by dsimp only; omega) (SubM.cells rfl rfl .nil) (by simp [En.rdb])) | (exact CM.fin hS (x15.1, x17.1 - 1, x17.2.1, x17.2.2) rfl (by dsimp only; omega) (SubM.cells rfl rfl .nil) (by simp [En.rdb]))
 ·
  refine J.seq ?_
  refine J.reg ?_
  refine WL.rd (RD.eql rfl rfl) rfl rfl ?_
  refine WL.rd (RD.assign rfl) rfl rfl ?_
  refine WL.nil ?_
  refine JE.seqN ?_
  refine J.condP rfl (fun hc6 => ?_) (fun hc6 => ?_)
  ·
   refine J.skip ?_
   refine JE.seqN ?_
   refine J.condP rfl (fun hc6 => ?_) (fun hc6 => ?_)
   ·
    refine J.seq ?_
    refine J.reg ?_
    refine WL.rd (RD.assign rfl) rfl rfl ?_
    refine WL.rd (RD.assign rfl) rfl rfl ?_
    refine WL.nil ?_
    refine JE.seqN ?_
    refine J.ret ?_
    refine JE.ret rfl (.tmp rfl (.tmp rfl .nil)) (fun w hS => ?_)
    first | (exfalso; omega) | (exact CM.fin hS (2, 3, x5.2.1, x5.2.2) rfl (by dsimp only; omega) (SubM.cells rfl rfl .nil) (by simp [En.rdb])) | (exact CM.fin hS (1, 1, x5.2.1, x5.2.2) rfl (by dsimp only; omega) (SubM.cells rfl rfl .nil) (by simp [En.rdb])) | (exact CM.fin hS (2, 2, x5.2.1, x5.2.2) rfl (by dsimp only; omega) (SubM.cells rfl rfl .nil) (by simp [En.rdb])) | (exact CM.fin hS (x15.1, x17.1 - 1, x17.2.1, x17.2.2) rfl (by dsimp only; omega) (SubM.cells rfl rfl .nil) (by simp [En.rdb]))
   ·
    refine J.seq ?_
    refine J.reg ?_
    refine WL.rd (RD.eql rfl rfl) rfl rfl ?_
    refine WL.rd (RD.assign rfl) rfl rfl ?_
    refine WL.nil ?_
    refine JE.seqN ?_
    refine J.condP rfl (fun hc10 => ?_) (fun hc10 => ?_)
    ·
     refine J.seq ?_
     refine J.reg ?_
     refine WL.rd (RD.assign rfl) rfl rfl ?_
     refine WL.rd (RD.assign rfl) rfl rfl ?_
     refine WL.nil ?_
     refine JE.seqN ?_
     refine J.ret ?_
     refine JE.ret rfl (.tmp rfl (.tmp rfl .nil)) (fun w hS => ?_)
     first | (exfalso; omega) | (exact CM.fin hS (2, 3, x5.2.1, x5.2.2) rfl (by dsimp only; omega) (SubM.cells rfl rfl .nil) (by simp [En.rdb])) | (exact CM.fin hS (1, 1, x5.2.1, x5.2.2) rfl (by dsimp only; omega) (SubM.cells rfl rfl .nil) (by simp [En.rdb])) | (exact CM.fin hS (2, 2, x5.2.1, x5.2.2) rfl (by dsimp only; omega) (SubM.cells rfl rfl .nil) (by simp [En.rdb])) | (exact CM.fin hS (x15.1, x17.1 - 1, x17.2.1, x17.2.2) rfl (by dsimp only; omega) (SubM.cells rfl rfl .nil) (by simp [En.rdb]))
    ·
     refine J.seq ?_
     refine J.reg ?_
     refine WL.rd (RD.eql rfl rfl) rfl rfl ?_
     refine WL.rd (RD.assign rfl) rfl rfl ?_
     refine WL.nil ?_
     refine JE.seqN ?_
     refine J.condP rfl (fun hc12 => ?_) (fun hc12 => ?_)
     ·
      refine J.seq ?_
      refine J.reg ?_
      refine WL.rd (RD.assign rfl) rfl rfl ?_
      refine WL.rd (RD.assign rfl) rfl rfl ?_
      refine WL.nil ?_
      refine JE.seqN ?_
      refine J.ret ?_
      refine JE.ret rfl (.tmp rfl (.tmp rfl .nil)) (fun w hS => ?_)
      first | (exfalso; omega) | (exact CM.fin hS (2, 3, x5.2.1, x5.2.2) rfl (by dsimp only; omega) (SubM.cells rfl rfl .nil) (by simp [En.rdb])) | (exact CM.fin hS (1, 1, x5.2.1, x5.2.2) rfl (by dsimp only; omega) (SubM.cells rfl rfl .nil) (by simp [En.rdb])) | (exact CM.fin hS (2, 2, x5.2.1, x5.2.2) rfl (by dsimp only; omega) (SubM.cells rfl rfl .nil) (by simp [En.rdb])) | (exact CM.fin hS (x15.1, x17.1 - 1, x17.2.1, x17.2.2) rfl (by dsimp only; omega) (SubM.cells rfl rfl .nil) (by simp [En.rdb]))
     ·
      refine J.skip ?_
      refine JE.blockN ?_
      refine JE.seqN ?_
      refine J.seq ?_
      refine J.reg ?_
      refine WL.rd (RD.move rfl) rfl rfl ?_
      refine WL.efS (EF.callM (.cons rfl (.cons rfl .nil)) (.cells .nil) (.ro .nil) (fun w hS => l1Below_c _ _ _ vb xb _ _ (by first | omega | exact Nat.zero_le _) (by omega)) (by simp [En.rdb])) rfl rfl ?_
      rintro x15 ⟨hx15, hi15⟩
      refine WL.rd (RD.move rfl) rfl rfl ?_
      refine WL.efS (EF.callM (.cons rfl (.cons rfl .nil)) (.cells .nil) (.ro .nil) (fun w hS => l1Below_c _ _ _ vb xb _ _ (by first | omega | exact Nat.zero_le _) (by omega)) (by simp [En.rdb])) rfl rfl ?_
      rintro x17 ⟨hx17, hi17⟩
      refine WL.rd (RD.sub rfl rfl (by omega) (by omega)) rfl rfl ?_
      refine WL.rd (RD.assign rfl) rfl rfl ?_
      refine WL.rd (RD.assign rfl) rfl rfl ?_
      refine WL.nil ?_
      refine JE.seqN ?_
      refine J.ret ?_
      refine JE.ret rfl (.tmp rfl (.tmp rfl .nil)) (fun w hS => ?_)
      first | (exfalso; omega) | (exact CM.fin hS (2, 3, x5.2.1, x5.2.2) rfl (by dsimp only; omega) (SubM.cells rfl rfl .nil) (by simp [En.rdb])) | (exact CM.fin hS (1, 1, x5.2.1, x5.2.2) rfl (by dsimp only; omega) (SubM.cells rfl rfl .nil) (by simp [En.rdb])) | (exact CM.fin hS (2, 2, x5.2.1, x5.2.2) rfl (by dsimp only; omega) (SubM.cells rfl rfl .nil) (by simp [En.rdb])) | (exact CM.fin hS (x15.1, x17.1 - 1, x17.2.1, x17.2.2) rfl (by dsimp only; omega) (SubM.cells rfl rfl .nil) (by simp [En.rdb]))
  ·
   refine J.reg ?_
   refine WL.rd (RD.eql rfl rfl) rfl rfl ?_
   refine WL.rd (RD.assign rfl) rfl rfl ?_
   refine WL.nil ?_
   refine JE.seqN ?_
   refine J.condP rfl (fun hc6 => ?_) (fun hc6 => ?_)
   ·
    refine J.seq ?_
    refine J.reg ?_
    refine WL.rd (RD.assign rfl) rfl rfl ?_
    refine WL.rd (RD.assign rfl) rfl rfl ?_
    refine WL.nil ?_
    refine JE.seqN ?_
    refine J.ret ?_
    refine JE.ret rfl (.tmp rfl (.tmp rfl .nil)) (fun w hS => ?_)
    first | (exfalso; omega) | (exact CM.fin hS (2, 3, x5.2.1, x5.2.2) rfl (by dsimp only; omega) (SubM.cells rfl rfl .nil) (by simp [En.rdb])) | (exact CM.fin hS (1, 1, x5.2.1, x5.2.2) rfl (by dsimp only; omega) (SubM.cells rfl rfl .nil) (by simp [En.rdb])) | (exact CM.fin hS (2, 2, x5.2.1, x5.2.2) rfl (by dsimp only; omega) (SubM.cells rfl rfl .nil) (by simp [En.rdb])) | (exact CM.fin hS (x15.1, x17.1 - 1, x17.2.1, x17.2.2) rfl (by dsimp only; omega) (SubM.cells rfl rfl .nil) (by simp [En.rdb]))
   ·
    refine J.seq ?_
    refine J.reg ?_
    refine WL.rd (RD.eql rfl rfl) rfl rfl ?_
    refine WL.rd (RD.assign rfl) rfl rfl ?_
    refine WL.nil ?_
    refine JE.seqN ?_
    refine J.condP rfl (fun hc10 => ?_) (fun hc10 => ?_)
    ·
     refine J.seq ?_
     refine J.reg ?_
     refine WL.rd (RD.assign rfl) rfl rfl ?_
     refine WL.rd (RD.assign rfl) rfl rfl ?_
     refine WL.nil ?_
     refine JE.seqN ?_
     refine J.ret ?_
     refine JE.ret rfl (.tmp rfl (.tmp rfl .nil)) (fun w hS => ?_)
     first | (exfalso; omega) | (exact CM.fin hS (2, 3, x5.2.1, x5.2.2) rfl (by dsimp only; omega) (SubM.cells rfl rfl .nil) (by simp [En.rdb])) | (exact CM.fin hS (1, 1, x5.2.1, x5.2.2) rfl (by dsimp only; omega) (SubM.cells rfl rfl .nil) (by simp [En.rdb])) | (exact CM.fin hS (2, 2, x5.2.1, x5.2.2) rfl (by dsimp only; omega) (SubM.cells rfl rfl .nil) (by simp [En.rdb])) | (exact CM.fin hS (x15.1, x17.1 - 1, x17.2.1, x17.2.2) rfl (by dsimp only; omega) (SubM.cells rfl rfl .nil) (by simp [En.rdb]))
    ·
     refine J.seq ?_
     refine J.reg ?_
     refine WL.rd (RD.eql rfl rfl) rfl rfl ?_
     refine WL.rd (RD.assign rfl) rfl rfl ?_
     refine WL.nil ?_
     refine JE.seqN ?_
     refine J.condP rfl (fun hc12 => ?_) (fun hc12 => ?_)
     ·
      refine J.seq ?_
      refine J.reg ?_
      refine WL.rd (RD.assign rfl) rfl rfl ?_
      refine WL.rd (RD.assign rfl) rfl rfl ?_
      refine WL.nil ?_
      refine JE.seqN ?_
      refine J.ret ?_
      refine JE.ret rfl (.tmp rfl (.tmp rfl .nil)) (fun w hS => ?_)
      first | (exfalso; omega) | (exact CM.fin hS (2, 3, x5.2.1, x5.2.2) rfl (by dsimp only; omega) (SubM.cells rfl rfl .nil) (by simp [En.rdb])) | (exact CM.fin hS (1, 1, x5.2.1, x5.2.2) rfl (by dsimp only; omega) (SubM.cells rfl rfl .nil) (by simp [En.rdb])) | (exact CM.fin hS (2, 2, x5.2.1, x5.2.2) rfl (by dsimp only; omega) (SubM.cells rfl rfl .nil) (by simp [En.rdb])) | (exact CM.fin hS (x15.1, x17.1 - 1, x17.2.1, x17.2.2) rfl (by dsimp only; omega) (SubM.cells rfl rfl .nil) (by simp [En.rdb]))
     ·
      refine J.skip ?_
      refine JE.blockN ?_
      refine JE.seqN ?_
      refine J.seq ?_
      refine J.reg ?_
      refine WL.rd (RD.move rfl) rfl rfl ?_
      refine WL.efS (EF.callM (.cons rfl (.cons rfl .nil)) (.cells .nil) (.ro .nil) (fun w hS => l1Below_c _ _ _ vb xb _ _ (by first | omega | exact Nat.zero_le _) (by omega)) (by simp [En.rdb])) rfl rfl ?_
      rintro x15 ⟨hx15, hi15⟩
      refine WL.rd (RD.move rfl) rfl rfl ?_
      refine WL.efS (EF.callM (.cons rfl (.cons rfl .nil)) (.cells .nil) (.ro .nil) (fun w hS => l1Below_c _ _ _ vb xb _ _ (by first | omega | exact Nat.zero_le _) (by omega)) (by simp [En.rdb])) rfl rfl ?_
      rintro x17 ⟨hx17, hi17⟩
      refine WL.rd (RD.sub rfl rfl (by omega) (by omega)) rfl rfl ?_
      refine WL.rd (RD.assign rfl) rfl rfl ?_
      refine WL.rd (RD.assign rfl) rfl rfl ?_
      refine WL.nil ?_
      refine JE.seqN ?_
      refine J.ret ?_
      refine JE.ret rfl (.tmp rfl (.tmp rfl .nil)) (fun w hS => ?_)
      first | (exfalso; omega) | (exact CM.fin hS (2, 3, x5.2.1, x5.2.2) rfl (by dsimp only; omega) (SubM.cells rfl rfl .nil) (by simp [En.rdb])) | (exact CM.fin hS (1, 1, x5.2.1, x5.2.2) rfl (by dsimp only; omega) (SubM.cells rfl rfl .nil) (by simp [En.rdb])) | (exact CM.fin hS (2, 2, x5.2.1, x5.2.2) rfl (by dsimp only; omega) (SubM.cells rfl rfl .nil) (by simp [En.rdb])) | (exact CM.fin hS (x15.1, x17.1 - 1, x17.2.1, x17.2.2) rfl (by dsimp only; omega) (SubM.cells rfl rfl .nil) (by simp [En.rdb]))

end Go.Proofs.Ytpojkjabngkfgaa
