/- Contracts of functions of the program, each walked once; written by a program of our own. -/
import Derived.Test.YtpojkjabngkfgaaDcP
import Derived.Test.YtpojkjabngkfgaaMb
namespace Go.Proofs.Ytpojkjabngkfgaa
open Go Go.RowKit
set_option maxRecDepth 4000

theorem l4Some_c (cb i0 : Nat) (h0 : Int) (vb : Value) (xb : List UInt8) (w : World) (hi0 : i0 ≤ xb.length) (hlb : xb.length ≤ 1048576) :
    CM Try.prog 43 [.pointer (some ⟨cb, 0, none⟩)] w [.cells cb 83 [vb, .int .i64 (i0 : Int), .int .i64 h0]] [.ro vb 1 (xb.map yv)] (Int × List (Int × Int) × Value × Int × Int × PS × Value × Value × Value × Int × Nat × Int) (fun x => (((-1 ≤ x.1 ∧ x.1 ≤ 9) ∧ x.2.1.length ≤ 25 ∧ bOk x.2.1) ∧ (0 ≤ x.2.2.2.1 ∧ x.2.2.2.1 ≤ 4) ∧ -1 ≤ x.2.2.2.2.1 ∧ x.2.2.2.2.1 ≤ 5) ∧ pOk 4 x.2.2.2.2.2.1 ∧ (0 ≤ x.2.2.2.2.2.2.2.2.2.1 ∧ x.2.2.2.2.2.2.2.2.2.1 ≤ 30) ∧ x.2.2.2.2.2.2.2.2.2.2.1 ≤ xb.length) (fun x => .tuple #[.agg #[.int .i64 x.1, x.2.2.1], .int .i64 x.2.2.2.1, .int .i64 x.2.2.2.2.1, .agg #[x.2.2.2.2.2.2.1, x.2.2.2.2.2.2.2.1, x.2.2.2.2.2.2.2.2.1], .int .i64 x.2.2.2.2.2.2.2.2.2.1]) (fun x => [.cells cb 83 [vb, .int .i64 (x.2.2.2.2.2.2.2.2.2.2.1 : Int), .int .i64 x.2.2.2.2.2.2.2.2.2.2.2], .row x.2.2.1 59 2 ((x.2.1).map bv), .row x.2.2.2.2.2.2.1 3 1 ((x.2.2.2.2.2.1.f).map iv), .row x.2.2.2.2.2.2.2.1 3 1 ((x.2.2.2.2.2.1.t).map iv), .row x.2.2.2.2.2.2.2.2.1 3 1 ((x.2.2.2.2.2.1.pl).map iv)]) := by
 intro hSt
 refine calls_of_J (mu := (muOf [.cells cb 83 [vb, .int .i64 (i0 : Int), .int .i64 h0]])) (m := [.cells cb 83 [vb, .int .i64 (i0 : Int), .int .i64 h0], .ro vb 1 (xb.map yv)]) (e := [(0, .pointer (some ⟨cb, 0, none⟩))]) Try.func43 rfl rfl (.cons rfl .nil) (hSt) ?_
 refine J.seq ?_
 refine J.reg ?_
 refine WL.efS (EF.allocA) rfl rfl ?_
 intro b2 _
 refine WL.rd (RD.assign rfl) rfl rfl ?_
 refine WL.rd (RD.assign rfl) rfl rfl ?_
 refine WL.efS (EF.allocA) rfl rfl ?_
 intro b5 _
 refine WL.rd (RD.assign rfl) rfl rfl ?_
 refine WL.nil ?_
 refine JE.seqN ?_
 refine J.seq ?_
 refine J.reg ?_
 refine WL.rd (RD.move rfl) rfl rfl ?_
 refine WL.efS (EF.callM (.cons rfl .nil) (.cells .nil) (.ro .nil) (fun w hS => l2Any_c _ _ _ vb xb _ (by first | omega | exact Nat.zero_le _) (by omega)) (by simp [En.rdb])) rfl rfl ?_
 rintro x15 ⟨hx15, hi15⟩
 refine WL.efS (EF.allocA) rfl rfl ?_
 intro b7 _
 refine WL.efN (EF.storeA rfl rfl rfl rfl) rfl ?_
 rintro ⟨⟩ -
 refine WL.nil ?_
 refine JE.seqN ?_
 refine J.seq ?_
 refine J.reg ?_
 refine WL.rd (RD.move rfl) rfl rfl ?_
 refine WL.efS (EF.callM (.cons rfl .nil) (.cells .nil) (.ro .nil) (fun w hS => l3Range_c _ _ _ vb xb _ (by first | omega | exact Nat.zero_le _) (by omega)) (by simp [En.rdb])) rfl rfl ?_
 rintro x18 ⟨hx18, hi18⟩
 refine WL.rd (RD.move rfl) rfl rfl ?_
 refine WL.rd (RD.extract rfl rfl) rfl rfl ?_
 refine WL.rd (RD.extract rfl rfl) rfl rfl ?_
 refine WL.rd (RD.assign rfl) rfl rfl ?_
 refine WL.rd (RD.assign rfl) rfl rfl ?_
 refine WL.nil ?_
 refine JE.seqN ?_
 refine J.seq ?_
 have hk18 : (-9223372036854775808 ≤ x18.1 ∧ x18.1 ≤ 9223372036854775807) := by omega
 have hl18 : (-9223372036854775808 ≤ x18.2.1 ∧ x18.2.1 ≤ 9223372036854775807) := by omega
 refine J.reg ?_
 refine WL.rd (RD.loadA rfl rfl) rfl rfl ?_
 refine WL.rd (RD.move rfl) rfl rfl ?_
 refine WL.efS (EF.callN (.cons rfl (.cons rfl .nil)) (fun w hS => sNewPebbles_c _ _ _ _ _ (by exact RdI.rd hS))) rfl rfl ?_
 rintro ⟨f24, t24, p24⟩ -
 refine WL.rd (RD.move rfl) rfl rfl ?_
 refine WL.rd (RD.extract rfl rfl) rfl rfl ?_
 refine WL.rd (RD.extract rfl rfl) rfl rfl ?_
 refine WL.efS (EF.allocA) rfl rfl ?_
 intro b10 _
 refine WL.efN (EF.storeA rfl rfl rfl rfl) rfl ?_
 rintro ⟨⟩ -
 refine WL.rd (RD.assign rfl) rfl rfl ?_
 refine WL.nil ?_
 refine JE.seqN ?_
 refine J.seq ?_
 refine J.reg ?_
 refine WL.rd (RD.move rfl) rfl rfl ?_
 refine WL.rd (RD.fieldC rfl rfl) rfl rfl ?_
 refine WL.rd (RD.loadC rfl rfl) rfl rfl ?_
 refine WL.rd (RD.lenR rfl) rfl rfl ?_
 refine WL.rd (RD.add rfl rfl (by omega) (by omega)) rfl rfl ?_
 refine WL.efS (EF.callM (.cons rfl (.cons rfl .nil)) (.cells .nil) (.ro .nil) (fun w hS => l1Below_c _ _ _ vb xb _ _ (by first | omega | exact Nat.zero_le _) (by omega)) (by simp [En.rdb])) rfl rfl ?_
 rintro x32 ⟨hx32, hi32⟩
 refine WL.rd (RD.assign rfl) rfl rfl ?_
 refine WL.nil ?_
 refine JE.seqN ?_
 refine J.cut (fun ee mm => ∃ (p : PS), ∃ (uf : Value), ∃ (ut : Value), ∃ (up : Value), ((pOk 3 p)) ∧ ee = [(0, .pointer (some ⟨cb, 0, none⟩)), (2, .pointer (some ⟨b2, 0, none⟩)), (5, .pointer (some ⟨b5, 0, none⟩)), (7, .pointer (some ⟨b7, 0, none⟩)), (8, .int .i64 x18.1), (9, .int .i64 x18.2.1), (10, .pointer (some ⟨b10, 0, none⟩)), (12, .int .i64 x32.1), (26, .bool (decide (isG x15.1 x15.2.1 ∧ 1 ≤ x18.1 ∧ x18.1 ≤ 3)))] ∧ mm = [.cells b10 31 [uf, ut, up], .row up 3 1 ((p.pl).map iv), .row ut 3 1 ((p.t).map iv), .row uf 3 1 ((p.f).map iv), .cells b7 26 [.int .i64 x15.1, x15.2.2.1], .row x15.2.2.1 59 2 ((x15.2.1).map bv), .cells b5 31 [(.slice none 0 0), (.slice none 0 0), (.slice none 0 0)], .cells b2 26 [.int .i64 0, (.slice none 0 0)], .ro vb 1 (xb.map yv), .cells cb 83 [vb, .int .i64 (x32.2.1 : Int), .int .i64 x32.2.2]]) ?_ ?_
 ·
  refine J.seq ?_
  refine J.reg ?_
  refine WL.rd (RD.assign rfl) rfl rfl ?_
  refine WL.nil ?_
  refine JE.seqN ?_
  refine J.block ?_
  refine J.loop (fun gg ee mm => ∃ (e : Nat), ∃ (p : PS), ∃ (uf : Value), ∃ (ut : Value), ∃ (up : Value), gg = x32.1.toNat - e ∧ ((pOk 3 p)) ∧ ee = [(13, .int .i64 (e : Int)), (0, .pointer (some ⟨cb, 0, none⟩)), (2, .pointer (some ⟨b2, 0, none⟩)), (5, .pointer (some ⟨b5, 0, none⟩)), (7, .pointer (some ⟨b7, 0, none⟩)), (8, .int .i64 x18.1), (9, .int .i64 x18.2.1), (10, .pointer (some ⟨b10, 0, none⟩)), (11, .bool (decide (isG x15.1 x15.2.1 ∧ 1 ≤ x18.1 ∧ x18.1 ≤ 3))), (12, .int .i64 x32.1), (26, .bool (decide (isG x15.1 x15.2.1 ∧ 1 ≤ x18.1 ∧ x18.1 ≤ 3)))] ∧ mm = [.cells b10 31 [uf, ut, up], .row up 3 1 ((p.pl).map iv), .row ut 3 1 ((p.t).map iv), .row uf 3 1 ((p.f).map iv), .cells b7 26 [.int .i64 x15.1, x15.2.2.1], .row x15.2.2.1 59 2 ((x15.2.1).map bv), .cells b5 31 [(.slice none 0 0), (.slice none 0 0), (.slice none 0 0)], .cells b2 26 [.int .i64 0, (.slice none 0 0)], .ro vb 1 (xb.map yv), .cells cb 83 [vb, .int .i64 (x32.2.1 : Int), .int .i64 x32.2.2]]) _ ⟨0, (⟨if isG x15.1 x15.2.1 ∧ 1 ≤ x18.1 ∧ x18.1 ≤ 3 then List.replicate x15.1.toNat x18.1 else [], [], []⟩ : PS), f24, t24, p24, rfl, ?_, rfl, rfl⟩ ?_ ?_ ?_
  · exact pOk_new _ _ _
  · exact (Sub.consE rfl (by first | rfl | (congr 1; omega) | (simp; done)) (Sub.consE rfl (by first | rfl | (congr 1; omega) | (simp; done)) (Sub.consE rfl (by first | rfl | (congr 1; omega) | (simp; done)) (Sub.consE rfl (by first | rfl | (congr 1; omega) | (simp; done)) (Sub.consE rfl (by first | rfl | (congr 1; omega) | (simp; done)) (Sub.consE rfl (by first | rfl | (congr 1; omega) | (simp; done)) (Sub.consE rfl (by first | rfl | (congr 1; omega) | (simp; done)) (Sub.consE rfl (by first | rfl | (congr 1; omega) | (simp; done)) (Sub.consE rfl (by first | rfl | (congr 1; omega) | (simp; done)) (Sub.consE rfl (by first | rfl | (congr 1; omega) | (simp; done)) (Sub.consE rfl (by first | rfl | (congr 1; omega) | (simp; done)) .nil)))))))))))
  · exact (SubM.cells rfl (by first | rfl | (simp; done)) (SubM.row rfl rfl (by first | rfl | (simp [iv, bv, yv, tv, sv]; done)) (SubM.row rfl rfl (by first | rfl | (simp [iv, bv, yv, tv, sv]; done)) (SubM.row rfl rfl (by first | rfl | (simp [iv, bv, yv, tv, sv]; done)) (SubM.cells rfl (by first | rfl | (simp; done)) (SubM.row rfl rfl (by first | rfl | (simp [iv, bv, yv, tv, sv]; done)) (SubM.cells rfl (by first | rfl | (simp; done)) (SubM.cells rfl (by first | rfl | (simp; done)) (SubM.ro rfl (by first | rfl | (simp [iv, bv, yv, tv, sv]; done)) (SubM.cells rfl (by first | rfl | (simp; done)) .nil))))))))))
  ·
   rintro g _ _ ⟨e, p, uf, ut, up, rfl, hI, rfl, rfl⟩
   have hbf2 := hI.bf (by decide)
   have hpn := hI.1
   refine J.seq ?_
   refine J.seq ?_
   refine J.reg ?_
   refine WL.rd (RD.move rfl) rfl rfl ?_
   refine WL.rd (RD.move rfl) rfl rfl ?_
   refine WL.rd (RD.lss rfl rfl) rfl rfl ?_
   refine WL.rd (RD.move rfl) rfl rfl ?_
   refine WL.caseP 36 rfl (fun hg36 => ?_) (fun hg36 => ?_)
   ·
    refine WL.rd (RD.move rfl) rfl rfl ?_
    refine WL.rd (RD.pickT rfl rfl) rfl rfl ?_
    refine WL.rd (RD.move rfl) rfl rfl ?_
    refine WL.caseP 39 rfl (fun hg39 => ?_) (fun hg39 => ?_)
    ·
     refine WL.rd (RD.move rfl) rfl rfl ?_
     refine WL.rd (RD.move rfl) rfl rfl ?_
     refine WL.efS (EF.callS (.cons rfl (.cons rfl .nil)) (fun w hS => sIsRange_c _ _ _ (by assumption))) rfl rfl ?_
     rintro ⟨⟩ -
     refine WL.rd (RD.pickT rfl rfl) rfl rfl ?_
     refine WL.nil ?_
     refine JE.seqN ?_
     refine J.condP rfl (fun hc43 => ?_) (fun hc43 => ?_)
     ·
      refine J.skip ?_
      refine JE.seqN ?_
      refine J.seq ?_
      refine J.block ?_
      refine J.reg ?_
      refine WL.rd (RD.loadA rfl rfl) rfl rfl ?_
      refine WL.rd (RD.move rfl) rfl rfl ?_
      refine WL.rd (RD.move rfl) rfl rfl ?_
      refine WL.rd (RD.loadA rfl rfl) rfl rfl ?_
      refine WL.rd (RD.move rfl) rfl rfl ?_
      refine WL.efS (EF.callN (.cons rfl (.cons rfl (.cons rfl (.cons rfl (.cons rfl .nil))))) (fun w hS => sPlaceBar_c _ _ _ _ _ _ _ _ _ _ _ _ _ (by exact RdI.rd hS) (by exact RdI.rd hS) (by exact RdI.rd hS) (by exact RdI.rd hS) (by assumption) (by omega) (by omega) (by omega) (by omega) (by first | assumption | omega))) rfl rfl ?_
      rintro ⟨f52, t52, p52⟩ -
      refine WL.rd (RD.move rfl) rfl rfl ?_
      refine WL.rd (RD.extract rfl rfl) rfl rfl ?_
      refine WL.rd (RD.extract rfl rfl) rfl rfl ?_
      refine WL.efN (EF.storeA rfl rfl rfl rfl) rfl ?_
      rintro ⟨⟩ -
      refine WL.nil ?_
      refine JE.blockN ?_
      refine JE.seqN ?_
      refine J.reg ?_
      refine WL.rd (RD.move rfl) rfl rfl ?_
      refine WL.rd (RD.add rfl rfl (by omega) (by omega)) rfl rfl ?_
      refine WL.rd (RD.assign rfl) rfl rfl ?_
      refine WL.nil ?_
      refine JE.cutN ⟨_, ?_, e + 1, (pbI x15.1 x15.2.1 x18.1 x18.2.1 p.f p.t p.pl (e : Int)).1, f52, t52, p52, rfl, ?_, rfl, rfl⟩ ?_ ?_
      · omega
      · exact pOk_place hI
      · exact (Sub.consE rfl (by first | rfl | (congr 1; omega) | (simp; done)) (Sub.consE rfl (by first | rfl | (congr 1; omega) | (simp; done)) (Sub.consE rfl (by first | rfl | (congr 1; omega) | (simp; done)) (Sub.consE rfl (by first | rfl | (congr 1; omega) | (simp; done)) (Sub.consE rfl (by first | rfl | (congr 1; omega) | (simp; done)) (Sub.consE rfl (by first | rfl | (congr 1; omega) | (simp; done)) (Sub.consE rfl (by first | rfl | (congr 1; omega) | (simp; done)) (Sub.consE rfl (by first | rfl | (congr 1; omega) | (simp; done)) (Sub.consE rfl (by first | rfl | (congr 1; omega) | (simp; done)) (Sub.consE rfl (by first | rfl | (congr 1; omega) | (simp; done)) (Sub.consE rfl (by first | rfl | (congr 1; omega) | (simp; done)) .nil)))))))))))
      · exact (SubM.cells rfl (by first | rfl | (simp; done)) (SubM.row rfl rfl (by first | rfl | (simp [iv, bv, yv, tv, sv]; done)) (SubM.row rfl rfl (by first | rfl | (simp [iv, bv, yv, tv, sv]; done)) (SubM.row rfl rfl (by first | rfl | (simp [iv, bv, yv, tv, sv]; done)) (SubM.cells rfl (by first | rfl | (simp; done)) (SubM.row rfl rfl (by first | rfl | (simp [iv, bv, yv, tv, sv]; done)) (SubM.cells rfl (by first | rfl | (simp; done)) (SubM.cells rfl (by first | rfl | (simp; done)) (SubM.ro rfl (by first | rfl | (simp [iv, bv, yv, tv, sv]; done)) (SubM.cells rfl (by first | rfl | (simp; done)) .nil))))))))))
     ·
      refine J.exit ?_
      refine JE.seqX ?_
      refine JE.cutX ?_
      refine JE.blockHit ?_
      refine JE.cutN ⟨p, uf, ut, up, ?_, rfl, rfl⟩ ?_ ?_
      · exact hI
      · exact (Sub.consE rfl (by first | rfl | (congr 1; omega) | (simp; done)) (Sub.consE rfl (by first | rfl | (congr 1; omega) | (simp; done)) (Sub.consE rfl (by first | rfl | (congr 1; omega) | (simp; done)) (Sub.consE rfl (by first | rfl | (congr 1; omega) | (simp; done)) (Sub.consE rfl (by first | rfl | (congr 1; omega) | (simp; done)) (Sub.consE rfl (by first | rfl | (congr 1; omega) | (simp; done)) (Sub.consE rfl (by first | rfl | (congr 1; omega) | (simp; done)) (Sub.consE rfl (by first | rfl | (congr 1; omega) | (simp; done)) (Sub.consE rfl (by first | rfl | (congr 1; omega) | (simp; done)) .nil)))))))))
      · exact (SubM.cells rfl (by first | rfl | (simp; done)) (SubM.row rfl rfl (by first | rfl | (simp [iv, bv, yv, tv, sv]; done)) (SubM.row rfl rfl (by first | rfl | (simp [iv, bv, yv, tv, sv]; done)) (SubM.row rfl rfl (by first | rfl | (simp [iv, bv, yv, tv, sv]; done)) (SubM.cells rfl (by first | rfl | (simp; done)) (SubM.row rfl rfl (by first | rfl | (simp [iv, bv, yv, tv, sv]; done)) (SubM.cells rfl (by first | rfl | (simp; done)) (SubM.cells rfl (by first | rfl | (simp; done)) (SubM.ro rfl (by first | rfl | (simp [iv, bv, yv, tv, sv]; done)) (SubM.cells rfl (by first | rfl | (simp; done)) .nil))))))))))
    ·
     refine WL.noS rfl rfl ?_
     refine WL.noS rfl rfl ?_
     refine WL.noS rfl rfl ?_
     refine WL.rd (RD.pickF rfl rfl) rfl rfl ?_
     refine WL.nil ?_
     refine JE.seqN ?_
     refine J.condF rfl ?_
     refine J.exit ?_
     refine JE.seqX ?_
     refine JE.cutX ?_
     refine JE.blockHit ?_
     refine JE.cutN ⟨p, uf, ut, up, ?_, rfl, rfl⟩ ?_ ?_
     · exact hI
     · exact (Sub.consE rfl (by first | rfl | (congr 1; omega) | (simp; done)) (Sub.consE rfl (by first | rfl | (congr 1; omega) | (simp; done)) (Sub.consE rfl (by first | rfl | (congr 1; omega) | (simp; done)) (Sub.consE rfl (by first | rfl | (congr 1; omega) | (simp; done)) (Sub.consE rfl (by first | rfl | (congr 1; omega) | (simp; done)) (Sub.consE rfl (by first | rfl | (congr 1; omega) | (simp; done)) (Sub.consE rfl (by first | rfl | (congr 1; omega) | (simp; done)) (Sub.consE rfl (by first | rfl | (congr 1; omega) | (simp; done)) (Sub.consE rfl (by first | rfl | (congr 1; omega) | (simp; done)) .nil)))))))))
     · exact (SubM.cells rfl (by first | rfl | (simp; done)) (SubM.row rfl rfl (by first | rfl | (simp [iv, bv, yv, tv, sv]; done)) (SubM.row rfl rfl (by first | rfl | (simp [iv, bv, yv, tv, sv]; done)) (SubM.row rfl rfl (by first | rfl | (simp [iv, bv, yv, tv, sv]; done)) (SubM.cells rfl (by first | rfl | (simp; done)) (SubM.row rfl rfl (by first | rfl | (simp [iv, bv, yv, tv, sv]; done)) (SubM.cells rfl (by first | rfl | (simp; done)) (SubM.cells rfl (by first | rfl | (simp; done)) (SubM.ro rfl (by first | rfl | (simp [iv, bv, yv, tv, sv]; done)) (SubM.cells rfl (by first | rfl | (simp; done)) .nil))))))))))
   ·
    refine WL.noS rfl rfl ?_
    refine WL.rd (RD.pickF rfl rfl) rfl rfl ?_
    refine WL.rd (RD.move rfl) rfl rfl ?_
    refine WL.noS rfl rfl ?_
    refine WL.noS rfl rfl ?_
    refine WL.noS rfl rfl ?_
    refine WL.rd (RD.pickF rfl rfl) rfl rfl ?_
    refine WL.nil ?_
    refine JE.seqN ?_
    refine J.condF rfl ?_
    refine J.exit ?_
    refine JE.seqX ?_
    refine JE.cutX ?_
    refine JE.blockHit ?_
    refine JE.cutN ⟨p, uf, ut, up, ?_, rfl, rfl⟩ ?_ ?_
    · exact hI
    · exact (Sub.consE rfl (by first | rfl | (congr 1; omega) | (simp; done)) (Sub.consE rfl (by first | rfl | (congr 1; omega) | (simp; done)) (Sub.consE rfl (by first | rfl | (congr 1; omega) | (simp; done)) (Sub.consE rfl (by first | rfl | (congr 1; omega) | (simp; done)) (Sub.consE rfl (by first | rfl | (congr 1; omega) | (simp; done)) (Sub.consE rfl (by first | rfl | (congr 1; omega) | (simp; done)) (Sub.consE rfl (by first | rfl | (congr 1; omega) | (simp; done)) (Sub.consE rfl (by first | rfl | (congr 1; omega) | (simp; done)) (Sub.consE rfl (by first | rfl | (congr 1; omega) | (simp; done)) .nil)))))))))
    · exact (SubM.cells rfl (by first | rfl | (simp; done)) (SubM.row rfl rfl (by first | rfl | (simp [iv, bv, yv, tv, sv]; done)) (SubM.row rfl rfl (by first | rfl | (simp [iv, bv, yv, tv, sv]; done)) (SubM.row rfl rfl (by first | rfl | (simp [iv, bv, yv, tv, sv]; done)) (SubM.cells rfl (by first | rfl | (simp; done)) (SubM.row rfl rfl (by first | rfl | (simp [iv, bv, yv, tv, sv]; done)) (SubM.cells rfl (by first | rfl | (simp; done)) (SubM.cells rfl (by first | rfl | (simp; done)) (SubM.ro rfl (by first | rfl | (simp [iv, bv, yv, tv, sv]; done)) (SubM.cells rfl (by first | rfl | (simp; done)) .nil))))))))))
 ·
  rintro _ _ ⟨p, uf, ut, up, hI, rfl, rfl⟩
  have hpn := hI.1
  refine J.seq ?_
  refine J.seq ?_
  refine J.reg ?_
  refine WL.rd (RD.fieldC rfl rfl) rfl rfl ?_
  refine WL.rd (RD.loadC rfl rfl) rfl rfl ?_
  refine WL.rd (RD.lenR rfl) rfl rfl ?_
  refine WL.rd (RD.gtr rfl rfl) rfl rfl ?_
  refine WL.rd (RD.move rfl) rfl rfl ?_
  refine WL.caseP 59 rfl (fun hg59 => ?_) (fun hg59 => ?_)
  ·
   refine WL.rd (RD.move rfl) rfl rfl ?_
   refine WL.efS (EF.callM (.cons rfl (.cons rfl .nil)) (.cells .nil) (.ro .nil) (fun w hS => l1Once_c _ _ _ vb xb _ _ (by first | omega | exact Nat.zero_le _) (by omega)) (by simp [En.rdb])) rfl rfl ?_
   rintro x61 hi61
   refine WL.rd (RD.pickT rfl rfl) rfl rfl ?_
   refine WL.nil ?_
   refine JE.seqN ?_
   refine J.cond rfl (fun hc62 => ?_) (fun hc62 => ?_)
   ·
    have hf0 := hI.2 _ (getD_mem' (default : Int) (show 0 < p.f.length by omega))
    refine J.anyAll [8] ?_
    refine WA.takeP 0 rfl (RDP.of fun _ => RD.fieldC rfl rfl) rfl (by kernel_rfl) rfl ?_
    refine WA.take 1 rfl (RD.loadC rfl rfl) rfl (by kernel_rfl) rfl ?_
    refine WA.takeP 2 rfl (RDP.of fun _ => RD.fieldC rfl rfl) rfl (by kernel_rfl) rfl ?_
    refine WA.take 3 rfl (RD.loadC rfl rfl) rfl (by kernel_rfl) rfl ?_
    refine WA.takeP 4 rfl (RDP.idx (j := 0) (hj := ⟨rfl⟩) rfl rfl (by omega) rfl) rfl (by kernel_rfl) rfl ?_
    refine WA.take 5 rfl (RD.loadE rfl (by omega) rfl) rfl (by kernel_rfl) rfl ?_
    refine WA.takeP 6 rfl (RDP.of fun _ => RD.add rfl rfl (by omega) (by omega)) rfl (by kernel_rfl) rfl ?_
    refine WA.takeP 7 rfl (RDP.idx (j := 0) (hj := ⟨rfl⟩) rfl rfl (by omega) rfl) rfl (by kernel_rfl) rfl ?_
    refine WA.one (i := 8) (by kernel_rfl) ?_
    refine WAi.efNL rfl (EF.storeE rfl rfl (by omega) rfl) rfl rfl ?_
    rintro ⟨⟩ -
    refine WB.done (by kernel_rfl) ?_
    refine JE.seqN ?_
    refine J.seq ?_
    refine J.any [] [.cells b7 26 [.int .i64 x15.1, x15.2.2.1], .cells b10 31 [uf, ut, up], .ro vb 1 (xb.map yv)] SubI.sub ?_
    refine WA.take 0 rfl (RD.loadA rfl rfl) rfl (by kernel_rfl) rfl ?_
    refine WA.takeP 1 rfl (RDP.of fun _ => RD.move rfl) rfl (by kernel_rfl) rfl ?_
    refine WA.takeP 2 rfl (RDP.of fun _ => RD.move rfl) rfl (by kernel_rfl) rfl ?_
    refine WA.take 3 rfl (RD.loadA rfl rfl) rfl (by kernel_rfl) rfl ?_
    refine WA.takeP 4 rfl (RDP.of fun _ => RD.move rfl) rfl (by kernel_rfl) rfl ?_
    refine WA.one (i := 5) (by kernel_rfl) ?_
    refine WAi.efN rfl (EF.storeA rfl rfl rfl rfl) rfl (fun _ => SubI.sub) ?_
    rintro ⟨⟩ -
    refine WA.takeP 6 rfl (RDP.of fun _ => RD.assign rfl) rfl (by kernel_rfl) rfl ?_
    refine WA.takeP 7 rfl (RDP.of fun _ => RD.assign rfl) rfl (by kernel_rfl) rfl ?_
    refine WA.one (i := 8) (by kernel_rfl) ?_
    refine WAi.efN rfl (EF.storeA rfl rfl rfl rfl) rfl (fun _ => SubI.sub) ?_
    rintro ⟨⟩ -
    refine WA.takeP 9 rfl (RDP.of fun _ => RD.assign rfl) rfl (by kernel_rfl) rfl ?_
    refine WA.done (by kernel_rfl) ?_
    refine JE.seqN ?_
    refine J.ret ?_
    refine JE.ret rfl (ResL.flat rfl rfl (.tmp rfl (.tmp rfl (ResL.flat rfl rfl (.tmp rfl .nil))))) (fun w hS => ?_)
    exact CM.fin hS (x15.1, x15.2.1, x15.2.2.1, x18.1, x18.2.1, ⟨p.f.set 0 (p.f.getD 0 default + 1), p.t, p.pl⟩, uf, ut, up, x32.1, x61.2.1, x61.2.2) rfl ⟨⟨hx15, hx18⟩, pOk_inc hI (by omega), (by dsimp only; omega), (by dsimp only; omega)⟩ (SubM.cells rfl rfl (SubM.row rfl rfl rfl (SubM.row rfl rfl (by simp only [List.map_set] <;> rfl) (SubM.row rfl rfl rfl (SubM.row rfl rfl rfl .nil))))) (by simp [En.rdb])
   ·
    refine J.skip ?_
    refine JE.seqN ?_
    refine J.seq ?_
    refine J.any [] [.cells b7 26 [.int .i64 x15.1, x15.2.2.1], .cells b10 31 [uf, ut, up], .ro vb 1 (xb.map yv)] SubI.sub ?_
    refine WA.take 0 rfl (RD.loadA rfl rfl) rfl (by kernel_rfl) rfl ?_
    refine WA.takeP 1 rfl (RDP.of fun _ => RD.move rfl) rfl (by kernel_rfl) rfl ?_
    refine WA.takeP 2 rfl (RDP.of fun _ => RD.move rfl) rfl (by kernel_rfl) rfl ?_
    refine WA.take 3 rfl (RD.loadA rfl rfl) rfl (by kernel_rfl) rfl ?_
    refine WA.takeP 4 rfl (RDP.of fun _ => RD.move rfl) rfl (by kernel_rfl) rfl ?_
    refine WA.one (i := 5) (by kernel_rfl) ?_
    refine WAi.efN rfl (EF.storeA rfl rfl rfl rfl) rfl (fun _ => SubI.sub) ?_
    rintro ⟨⟩ -
    refine WA.takeP 6 rfl (RDP.of fun _ => RD.assign rfl) rfl (by kernel_rfl) rfl ?_
    refine WA.takeP 7 rfl (RDP.of fun _ => RD.assign rfl) rfl (by kernel_rfl) rfl ?_
    refine WA.one (i := 8) (by kernel_rfl) ?_
    refine WAi.efN rfl (EF.storeA rfl rfl rfl rfl) rfl (fun _ => SubI.sub) ?_
    rintro ⟨⟩ -
    refine WA.takeP 9 rfl (RDP.of fun _ => RD.assign rfl) rfl (by kernel_rfl) rfl ?_
    refine WA.done (by kernel_rfl) ?_
    refine JE.seqN ?_
    refine J.ret ?_
    refine JE.ret rfl (ResL.flat rfl rfl (.tmp rfl (.tmp rfl (ResL.flat rfl rfl (.tmp rfl .nil))))) (fun w hS => ?_)
    exact CM.fin hS (x15.1, x15.2.1, x15.2.2.1, x18.1, x18.2.1, p, uf, ut, up, x32.1, x61.2.1, x61.2.2) rfl ⟨⟨hx15, hx18⟩, hI.up, (by dsimp only; omega), (by dsimp only; omega)⟩ (SubM.cells rfl rfl (SubM.row rfl rfl rfl (SubM.row rfl rfl rfl (SubM.row rfl rfl rfl (SubM.row rfl rfl rfl .nil))))) (by simp [En.rdb])
  ·
   refine WL.noS rfl rfl ?_
   refine WL.noS rfl rfl ?_
   refine WL.rd (RD.pickF rfl rfl) rfl rfl ?_
   refine WL.nil ?_
   refine JE.seqN ?_
   refine J.condF rfl ?_
   refine J.skip ?_
   refine JE.seqN ?_
   refine J.seq ?_
   refine J.any [] [.cells b7 26 [.int .i64 x15.1, x15.2.2.1], .cells b10 31 [uf, ut, up], .ro vb 1 (xb.map yv)] SubI.sub ?_
   refine WA.take 0 rfl (RD.loadA rfl rfl) rfl (by kernel_rfl) rfl ?_
   refine WA.takeP 1 rfl (RDP.of fun _ => RD.move rfl) rfl (by kernel_rfl) rfl ?_
   refine WA.takeP 2 rfl (RDP.of fun _ => RD.move rfl) rfl (by kernel_rfl) rfl ?_
   refine WA.take 3 rfl (RD.loadA rfl rfl) rfl (by kernel_rfl) rfl ?_
   refine WA.takeP 4 rfl (RDP.of fun _ => RD.move rfl) rfl (by kernel_rfl) rfl ?_
   refine WA.one (i := 5) (by kernel_rfl) ?_
   refine WAi.efN rfl (EF.storeA rfl rfl rfl rfl) rfl (fun _ => SubI.sub) ?_
   rintro ⟨⟩ -
   refine WA.takeP 6 rfl (RDP.of fun _ => RD.assign rfl) rfl (by kernel_rfl) rfl ?_
   refine WA.takeP 7 rfl (RDP.of fun _ => RD.assign rfl) rfl (by kernel_rfl) rfl ?_
   refine WA.one (i := 8) (by kernel_rfl) ?_
   refine WAi.efN rfl (EF.storeA rfl rfl rfl rfl) rfl (fun _ => SubI.sub) ?_
   rintro ⟨⟩ -
   refine WA.takeP 9 rfl (RDP.of fun _ => RD.assign rfl) rfl (by kernel_rfl) rfl ?_
   refine WA.done (by kernel_rfl) ?_
   refine JE.seqN ?_
   refine J.ret ?_
   refine JE.ret rfl (ResL.flat rfl rfl (.tmp rfl (.tmp rfl (ResL.flat rfl rfl (.tmp rfl .nil))))) (fun w hS => ?_)
   exact CM.fin hS (x15.1, x15.2.1, x15.2.2.1, x18.1, x18.2.1, p, uf, ut, up, x32.1, x32.2.1, x32.2.2) rfl ⟨⟨hx15, hx18⟩, hI.up, (by dsimp only; omega), (by dsimp only; omega)⟩ (SubM.cells rfl rfl (SubM.row rfl rfl rfl (SubM.row rfl rfl rfl (SubM.row rfl rfl rfl (SubM.row rfl rfl rfl .nil))))) (by simp [En.rdb])
theorem DrawGatherPebbles_c (vb : Value) (xb : List UInt8) (w : World) (hr : Rd w vb 1 (xb.map yv)) (hlb : xb.length ≤ 1048576) :
    CN Try.prog 18 [vb] w (Int × List (Int × Int) × Value × Int × PS × Value × Value × Value × Int × Int × Int) (fun x => (((-1 ≤ x.1 ∧ x.1 ≤ 9) ∧ x.2.1.length ≤ 25 ∧ bOk x.2.1) ∧ (0 ≤ x.2.2.2.1 ∧ x.2.2.2.1 ≤ 4)) ∧ pOk 4 x.2.2.2.2.1 ∧ (-1 ≤ x.2.2.2.2.2.2.2.2.1 ∧ x.2.2.2.2.2.2.2.2.1 ≤ 10) ∧ (-1 ≤ x.2.2.2.2.2.2.2.2.2.1 ∧ x.2.2.2.2.2.2.2.2.2.1 ≤ 10) ∧ -1 ≤ x.2.2.2.2.2.2.2.2.2.2 ∧ x.2.2.2.2.2.2.2.2.2.2 ≤ 10) (fun x => .tuple #[.agg #[.int .i64 x.1, x.2.2.1], .int .i64 x.2.2.2.1, .agg #[x.2.2.2.2.2.1, x.2.2.2.2.2.2.1, x.2.2.2.2.2.2.2.1], .int .i64 x.2.2.2.2.2.2.2.2.1, .int .i64 x.2.2.2.2.2.2.2.2.2.1, .int .i64 x.2.2.2.2.2.2.2.2.2.2]) (fun x => [.row x.2.2.1 59 2 ((x.2.1).map bv), .row x.2.2.2.2.2.1 3 1 ((x.2.2.2.2.1.f).map iv), .row x.2.2.2.2.2.2.1 3 1 ((x.2.2.2.2.1.t).map iv), .row x.2.2.2.2.2.2.2.1 3 1 ((x.2.2.2.2.1.pl).map iv)]) := by
 refine calls_of_J (mu := (fun _ => False)) (m := [.ro vb 1 (xb.map yv)]) (e := [(0, vb)]) Try.func18 rfl rfl (.cons rfl .nil) (((St.init _ _).ro0 hr (by decide))) ?_
 refine J.seq ?_
 refine J.reg ?_
 refine WL.efS (EF.allocA) rfl rfl ?_
 intro b2 _
 refine WL.rd (RD.assign rfl) rfl rfl ?_
 refine WL.efS (EF.allocA) rfl rfl ?_
 intro b4 _
 refine WL.rd (RD.assign rfl) rfl rfl ?_
 refine WL.rd (RD.assign rfl) rfl rfl ?_
 refine WL.rd (RD.assign rfl) rfl rfl ?_
 refine WL.nil ?_
 refine JE.seqN ?_
 refine J.seq ?_
 refine J.reg ?_
 refine WL.rd (RD.move rfl) rfl rfl ?_
 refine WL.efS (EF.callN (.cons rfl .nil) (fun w hS => l1New_c vb xb _ (by exact RdI.rd hS) (by omega))) rfl rfl ?_
 rintro c17 -
 refine WL.rd (RD.assign rfl) rfl rfl ?_
 refine WL.nil ?_
 refine JE.seqN ?_
 refine J.seq ?_
 refine J.reg ?_
 refine WL.rd (RD.move rfl) rfl rfl ?_
 refine WL.efS (EF.callM (.cons rfl .nil) (.cells .nil) (.ro .nil) (fun w hS => l4Some_c _ _ _ vb xb _ (by first | omega | exact Nat.zero_le _) (by omega)) (by simp [En.rdb])) rfl rfl ?_
 rintro x20 ⟨⟨hx20, hkl20⟩, hp20, hm20, hi20⟩
 refine WL.rd (RD.move rfl) rfl rfl ?_
 refine WL.rd (RD.extract rfl rfl) rfl rfl ?_
 refine WL.rd (RD.extract rfl rfl) rfl rfl ?_
 refine WL.rd (RD.extract rfl rfl) rfl rfl ?_
 refine WL.rd (RD.extract rfl rfl) rfl rfl ?_
 refine WL.rd (RD.extract rfl rfl) rfl rfl ?_
 refine WL.efS (EF.allocA) rfl rfl ?_
 intro b9 _
 refine WL.efS (EF.allocA) rfl rfl ?_
 intro b12 _
 refine WL.efN (EF.storeA rfl rfl rfl rfl) rfl ?_
 rintro ⟨⟩ -
 refine WL.rd (RD.assign rfl) rfl rfl ?_
 refine WL.rd (RD.assign rfl) rfl rfl ?_
 refine WL.efN (EF.storeA rfl rfl rfl rfl) rfl ?_
 rintro ⟨⟩ -
 refine WL.rd (RD.assign rfl) rfl rfl ?_
 refine WL.nil ?_
 refine JE.seqN ?_
 refine J.seq ?_
 refine J.reg ?_
 refine WL.rd (RD.move rfl) rfl rfl ?_
 refine WL.efS (EF.callM (.cons rfl (.cons rfl .nil)) (.cells .nil) (.ro .nil) (fun w hS => l1Below_c _ _ _ vb xb _ _ (by first | omega | exact Nat.zero_le _) (by omega)) (by simp [En.rdb])) rfl rfl ?_
 rintro x27 ⟨hx27, hi27⟩
 refine WL.rd (RD.assign rfl) rfl rfl ?_
 refine WL.nil ?_
 refine JE.seqN ?_
 refine J.seq ?_
 refine J.reg ?_
 refine WL.rd (RD.move rfl) rfl rfl ?_
 refine WL.efS (EF.callM (.cons rfl (.cons rfl .nil)) (.cells .nil) (.ro .nil) (fun w hS => l1Below_c _ _ _ vb xb _ _ (by first | omega | exact Nat.zero_le _) (by omega)) (by simp [En.rdb])) rfl rfl ?_
 rintro x29 ⟨hx29, hi29⟩
 refine WL.rd (RD.move rfl) rfl rfl ?_
 refine WL.efS (EF.callM (.cons rfl (.cons rfl .nil)) (.cells .nil) (.ro .nil) (fun w hS => l1Below_c _ _ _ vb xb _ _ (by first | omega | exact Nat.zero_le _) (by omega)) (by simp [En.rdb])) rfl rfl ?_
 rintro x31 ⟨hx31, hi31⟩
 refine WL.rd (RD.sub rfl rfl (by omega) (by omega)) rfl rfl ?_
 refine WL.rd (RD.assign rfl) rfl rfl ?_
 refine WL.nil ?_
 refine JE.seqN ?_
 refine J.seq ?_
 refine J.any [] [.cells b9 26 [.int .i64 x20.1, x20.2.2.1], .cells b12 31 [x20.2.2.2.2.2.2.1, x20.2.2.2.2.2.2.2.1, x20.2.2.2.2.2.2.2.2.1], .ro vb 1 (xb.map yv)] SubI.sub ?_
 refine WA.take 0 rfl (RD.loadA rfl rfl) rfl (by kernel_rfl) rfl ?_
 refine WA.takeP 1 rfl (RDP.of fun _ => RD.move rfl) rfl (by kernel_rfl) rfl ?_
 refine WA.take 2 rfl (RD.loadA rfl rfl) rfl (by kernel_rfl) rfl ?_
 refine WA.takeP 3 rfl (RDP.of fun _ => RD.move rfl) rfl (by kernel_rfl) rfl ?_
 refine WA.takeP 4 rfl (RDP.of fun _ => RD.move rfl) rfl (by kernel_rfl) rfl ?_
 refine WA.takeP 5 rfl (RDP.of fun _ => RD.move rfl) rfl (by kernel_rfl) rfl ?_
 refine WA.one (i := 6) (by kernel_rfl) ?_
 refine WAi.efS rfl (EF.callM (.cons rfl (.cons rfl .nil)) (.cells .nil) (.ro .nil) (fun w hS => l1Below_c _ _ _ vb xb _ _ (by first | omega | exact Nat.zero_le _) (by omega)) (by simp [En.rdb])) rfl rfl (fun _ => SubI.sub) ?_
 rintro x39 ⟨hx39, hi39⟩
 refine WA.takeP 7 rfl (RDP.of fun _ => RD.sub rfl rfl (by omega) (by omega)) rfl (by kernel_rfl) rfl ?_
 refine WA.one (i := 8) (by kernel_rfl) ?_
 refine WAi.efN rfl (EF.storeA rfl rfl rfl rfl) rfl (fun _ => SubI.sub) ?_
 rintro ⟨⟩ -
 refine WA.takeP 9 rfl (RDP.of fun _ => RD.assign rfl) rfl (by kernel_rfl) rfl ?_
 refine WA.one (i := 10) (by kernel_rfl) ?_
 refine WAi.efN rfl (EF.storeA rfl rfl rfl rfl) rfl (fun _ => SubI.sub) ?_
 rintro ⟨⟩ -
 refine WA.takeP 11 rfl (RDP.of fun _ => RD.assign rfl) rfl (by kernel_rfl) rfl ?_
 refine WA.takeP 12 rfl (RDP.of fun _ => RD.assign rfl) rfl (by kernel_rfl) rfl ?_
 refine WA.takeP 13 rfl (RDP.of fun _ => RD.assign rfl) rfl (by kernel_rfl) rfl ?_
 refine WA.done (by kernel_rfl) ?_
 refine JE.seqN ?_
 refine J.ret ?_
 refine JE.ret rfl (ResL.flat rfl rfl (.tmp rfl (ResL.flat rfl rfl (.tmp rfl (.tmp rfl (.tmp rfl .nil)))))) (fun w hS => ?_)
 exact CN.fin hS (x20.1, x20.2.1, x20.2.2.1, x20.2.2.2.1, x20.2.2.2.2.2.1, x20.2.2.2.2.2.2.1, x20.2.2.2.2.2.2.2.1, x20.2.2.2.2.2.2.2.2.1, x27.1, x29.1 - x31.1, x39.1 - 1) rfl ⟨⟨hx20, hkl20.1⟩, hp20, (by dsimp only; omega), (by dsimp only; omega), (by dsimp only; omega)⟩ (SubM.row rfl rfl rfl (SubM.row rfl rfl rfl (SubM.row rfl rfl rfl (SubM.row rfl rfl rfl .nil)))) (by simp [En.rdb])
theorem DrawPlaceBar_c (vb : Value) (xb : List UInt8) (w : World) (hr : Rd w vb 1 (xb.map yv)) (hlb : xb.length ≤ 1048576) :
    CN Try.prog 22 [vb] w (Int × List (Int × Int) × Value × Int × Int × PS × Value × Value × Value × Int) (fun x => (((-1 ≤ x.1 ∧ x.1 ≤ 9) ∧ x.2.1.length ≤ 25 ∧ bOk x.2.1) ∧ (0 ≤ x.2.2.2.1 ∧ x.2.2.2.1 ≤ 4) ∧ -1 ≤ x.2.2.2.2.1 ∧ x.2.2.2.2.1 ≤ 5) ∧ pOk 4 x.2.2.2.2.2.1 ∧ -1 ≤ x.2.2.2.2.2.2.2.2.2 ∧ x.2.2.2.2.2.2.2.2.2 ≤ 30) (fun x => .tuple #[.agg #[.int .i64 x.1, x.2.2.1], .int .i64 x.2.2.2.1, .int .i64 x.2.2.2.2.1, .agg #[x.2.2.2.2.2.2.1, x.2.2.2.2.2.2.2.1, x.2.2.2.2.2.2.2.2.1], .int .i64 x.2.2.2.2.2.2.2.2.2]) (fun x => [.row x.2.2.1 59 2 ((x.2.1).map bv), .row x.2.2.2.2.2.2.1 3 1 ((x.2.2.2.2.2.1.f).map iv), .row x.2.2.2.2.2.2.2.1 3 1 ((x.2.2.2.2.2.1.t).map iv), .row x.2.2.2.2.2.2.2.2.1 3 1 ((x.2.2.2.2.2.1.pl).map iv)]) := by
 refine calls_of_J (mu := (fun _ => False)) (m := [.ro vb 1 (xb.map yv)]) (e := [(0, vb)]) Try.func22 rfl rfl (.cons rfl .nil) (((St.init _ _).ro0 hr (by decide))) ?_
 refine J.seq ?_
 refine J.reg ?_
 refine WL.efS (EF.allocA) rfl rfl ?_
 intro b2 _
 refine WL.rd (RD.assign rfl) rfl rfl ?_
 refine WL.rd (RD.assign rfl) rfl rfl ?_
 refine WL.efS (EF.allocA) rfl rfl ?_
 intro b5 _
 refine WL.rd (RD.assign rfl) rfl rfl ?_
 refine WL.nil ?_
 refine JE.seqN ?_
 refine J.seq ?_
 refine J.reg ?_
 refine WL.rd (RD.move rfl) rfl rfl ?_
 refine WL.efS (EF.callN (.cons rfl .nil) (fun w hS => l1New_c vb xb _ (by exact RdI.rd hS) (by omega))) rfl rfl ?_
 rintro c14 -
 refine WL.rd (RD.assign rfl) rfl rfl ?_
 refine WL.nil ?_
 refine JE.seqN ?_
 refine J.seq ?_
 refine J.reg ?_
 refine WL.rd (RD.move rfl) rfl rfl ?_
 refine WL.efS (EF.callM (.cons rfl .nil) (.cells .nil) (.ro .nil) (fun w hS => l4Some_c _ _ _ vb xb _ (by first | omega | exact Nat.zero_le _) (by omega)) (by simp [En.rdb])) rfl rfl ?_
 rintro x17 ⟨⟨hx17, hkl17⟩, hp17, hm17, hi17⟩
 refine WL.rd (RD.move rfl) rfl rfl ?_
 refine WL.rd (RD.extract rfl rfl) rfl rfl ?_
 refine WL.rd (RD.extract rfl rfl) rfl rfl ?_
 refine WL.rd (RD.extract rfl rfl) rfl rfl ?_
 refine WL.rd (RD.extract rfl rfl) rfl rfl ?_
 refine WL.rd (RD.extract rfl rfl) rfl rfl ?_
 refine WL.efS (EF.allocA) rfl rfl ?_
 intro b8 _
 refine WL.efS (EF.allocA) rfl rfl ?_
 intro b11 _
 refine WL.efN (EF.storeA rfl rfl rfl rfl) rfl ?_
 rintro ⟨⟩ -
 refine WL.rd (RD.assign rfl) rfl rfl ?_
 refine WL.rd (RD.assign rfl) rfl rfl ?_
 refine WL.efN (EF.storeA rfl rfl rfl rfl) rfl ?_
 rintro ⟨⟩ -
 refine WL.rd (RD.assign rfl) rfl rfl ?_
 refine WL.nil ?_
 refine JE.seqN ?_
 refine J.seq ?_
 refine J.seq ?_
 refine J.reg ?_
 refine WL.rd (RD.move rfl) rfl rfl ?_
 refine WL.efS (EF.callM (.cons rfl (.cons rfl .nil)) (.cells .nil) (.ro .nil) (fun w hS => l1Once_c _ _ _ vb xb _ _ (by first | omega | exact Nat.zero_le _) (by omega)) (by simp [En.rdb])) rfl rfl ?_
 rintro x24 hi24
 refine WL.nil ?_
 refine JE.seqN ?_
 refine J.cond rfl (fun hc24 => ?_) (fun hc24 => ?_)
 ·
  refine J.reg ?_
  refine WL.rd (RD.move rfl) rfl rfl ?_
  refine WL.efS (EF.callM (.cons rfl (.cons rfl .nil)) (.cells .nil) (.ro .nil) (fun w hS => l1Below_c _ _ _ vb xb _ _ (by first | omega | exact Nat.zero_le _) (by omega)) (by simp [En.rdb])) rfl rfl ?_
  rintro x26 ⟨hx26, hi26⟩
  refine WL.rd (RD.sub rfl rfl (by omega) (by omega)) rfl rfl ?_
  refine WL.rd (RD.assign rfl) rfl rfl ?_
  refine WL.nil ?_
  refine JE.seqN ?_
  refine J.seq ?_
  refine J.any [] [.cells b8 26 [.int .i64 x17.1, x17.2.2.1], .cells b11 31 [x17.2.2.2.2.2.2.1, x17.2.2.2.2.2.2.2.1, x17.2.2.2.2.2.2.2.2.1], .ro vb 1 (xb.map yv)] SubI.sub ?_
  refine WA.take 0 rfl (RD.loadA rfl rfl) rfl (by kernel_rfl) rfl ?_
  refine WA.takeP 1 rfl (RDP.of fun _ => RD.move rfl) rfl (by kernel_rfl) rfl ?_
  refine WA.takeP 2 rfl (RDP.of fun _ => RD.move rfl) rfl (by kernel_rfl) rfl ?_
  refine WA.take 3 rfl (RD.loadA rfl rfl) rfl (by kernel_rfl) rfl ?_
  refine WA.takeP 4 rfl (RDP.of fun _ => RD.move rfl) rfl (by kernel_rfl) rfl ?_
  refine WA.one (i := 5) (by kernel_rfl) ?_
  refine WAi.efN rfl (EF.storeA rfl rfl rfl rfl) rfl (fun _ => SubI.sub) ?_
  rintro ⟨⟩ -
  refine WA.takeP 6 rfl (RDP.of fun _ => RD.assign rfl) rfl (by kernel_rfl) rfl ?_
  refine WA.takeP 7 rfl (RDP.of fun _ => RD.assign rfl) rfl (by kernel_rfl) rfl ?_
  refine WA.one (i := 8) (by kernel_rfl) ?_
  refine WAi.efN rfl (EF.storeA rfl rfl rfl rfl) rfl (fun _ => SubI.sub) ?_
  rintro ⟨⟩ -
  refine WA.takeP 9 rfl (RDP.of fun _ => RD.assign rfl) rfl (by kernel_rfl) rfl ?_
  refine WA.done (by kernel_rfl) ?_
  refine JE.seqN ?_
  refine J.ret ?_
  refine JE.ret rfl (ResL.flat rfl rfl (.tmp rfl (.tmp rfl (ResL.flat rfl rfl (.tmp rfl .nil))))) (fun w hS => ?_)
  exact CN.fin hS (x17.1, x17.2.1, x17.2.2.1, x17.2.2.2.1, x17.2.2.2.2.1, x17.2.2.2.2.2.1, x17.2.2.2.2.2.2.1, x17.2.2.2.2.2.2.2.1, x17.2.2.2.2.2.2.2.2.1, x26.1 - 1) rfl ⟨⟨hx17, hkl17⟩, hp17, (by dsimp only; omega)⟩ (SubM.row rfl rfl rfl (SubM.row rfl rfl rfl (SubM.row rfl rfl rfl (SubM.row rfl rfl rfl .nil)))) (by simp [En.rdb])
 ·
  refine J.skip ?_
  refine JE.seqN ?_
  refine J.seq ?_
  refine J.any [] [.cells b8 26 [.int .i64 x17.1, x17.2.2.1], .cells b11 31 [x17.2.2.2.2.2.2.1, x17.2.2.2.2.2.2.2.1, x17.2.2.2.2.2.2.2.2.1], .ro vb 1 (xb.map yv)] SubI.sub ?_
  refine WA.take 0 rfl (RD.loadA rfl rfl) rfl (by kernel_rfl) rfl ?_
  refine WA.takeP 1 rfl (RDP.of fun _ => RD.move rfl) rfl (by kernel_rfl) rfl ?_
  refine WA.takeP 2 rfl (RDP.of fun _ => RD.move rfl) rfl (by kernel_rfl) rfl ?_
  refine WA.take 3 rfl (RD.loadA rfl rfl) rfl (by kernel_rfl) rfl ?_
  refine WA.takeP 4 rfl (RDP.of fun _ => RD.move rfl) rfl (by kernel_rfl) rfl ?_
  refine WA.one (i := 5) (by kernel_rfl) ?_
  refine WAi.efN rfl (EF.storeA rfl rfl rfl rfl) rfl (fun _ => SubI.sub) ?_
  rintro ⟨⟩ -
  refine WA.takeP 6 rfl (RDP.of fun _ => RD.assign rfl) rfl (by kernel_rfl) rfl ?_
  refine WA.takeP 7 rfl (RDP.of fun _ => RD.assign rfl) rfl (by kernel_rfl) rfl ?_
  refine WA.one (i := 8) (by kernel_rfl) ?_
  refine WAi.efN rfl (EF.storeA rfl rfl rfl rfl) rfl (fun _ => SubI.sub) ?_
  rintro ⟨⟩ -
  refine WA.takeP 9 rfl (RDP.of fun _ => RD.assign rfl) rfl (by kernel_rfl) rfl ?_
  refine WA.done (by kernel_rfl) ?_
  refine JE.seqN ?_
  refine J.ret ?_
  refine JE.ret rfl (ResL.flat rfl rfl (.tmp rfl (.tmp rfl (ResL.flat rfl rfl (.tmp rfl .nil))))) (fun w hS => ?_)
  exact CN.fin hS (x17.1, x17.2.1, x17.2.2.1, x17.2.2.2.1, x17.2.2.2.2.1, x17.2.2.2.2.2.1, x17.2.2.2.2.2.2.1, x17.2.2.2.2.2.2.2.1, x17.2.2.2.2.2.2.2.2.1, x17.2.2.2.2.2.2.2.2.2.1) rfl ⟨⟨hx17, hkl17⟩, hp17, (by dsimp only; omega)⟩ (SubM.row rfl rfl rfl (SubM.row rfl rfl rfl (SubM.row rfl rfl rfl (SubM.row rfl rfl rfl .nil)))) (by simp [En.rdb])
theorem DrawNewPebbles_c (vb : Value) (xb : List UInt8) (w : World) (hr : Rd w vb 1 (xb.map yv)) (hlb : xb.length ≤ 1048576) :
    CN Try.prog 25 [vb] w (Int × List (Int × Int) × Value × Int) (fun x => ((-1 ≤ x.1 ∧ x.1 ≤ 9) ∧ x.2.1.length ≤ 25 ∧ bOk x.2.1) ∧ -1 ≤ x.2.2.2 ∧ x.2.2.2 ≤ 5) (fun x => .tuple #[.agg #[.int .i64 x.1, x.2.2.1], .int .i64 x.2.2.2]) (fun x => [.row x.2.2.1 59 2 ((x.2.1).map bv)]) := by
 refine calls_of_J (mu := (fun _ => False)) (m := [.ro vb 1 (xb.map yv)]) (e := [(0, vb)]) Try.func25 rfl rfl (.cons rfl .nil) (((St.init _ _).ro0 hr (by decide))) ?_
 refine J.seq ?_
 refine J.reg ?_
 refine WL.efS (EF.allocA) rfl rfl ?_
 intro b2 _
 refine WL.rd (RD.assign rfl) rfl rfl ?_
 refine WL.nil ?_
 refine JE.seqN ?_
 refine J.seq ?_
 refine J.reg ?_
 refine WL.rd (RD.move rfl) rfl rfl ?_
 refine WL.efS (EF.callN (.cons rfl .nil) (fun w hS => l1New_c vb xb _ (by exact RdI.rd hS) (by omega))) rfl rfl ?_
 rintro c7 -
 refine WL.rd (RD.assign rfl) rfl rfl ?_
 refine WL.nil ?_
 refine JE.seqN ?_
 refine J.seq ?_
 refine J.reg ?_
 refine WL.rd (RD.move rfl) rfl rfl ?_
 refine WL.efS (EF.callM (.cons rfl .nil) (.cells .nil) (.ro .nil) (fun w hS => l2Any_c _ _ _ vb xb _ (by first | omega | exact Nat.zero_le _) (by omega)) (by simp [En.rdb])) rfl rfl ?_
 rintro x9 ⟨hx9, hi9⟩
 refine WL.efS (EF.allocA) rfl rfl ?_
 intro b5 _
 refine WL.efN (EF.storeA rfl rfl rfl rfl) rfl ?_
 rintro ⟨⟩ -
 refine WL.nil ?_
 refine JE.seqN ?_
 refine J.seq ?_
 refine J.anyDropC [4, 5] (c7.1) ?_
 refine WA.take 0 rfl (RD.loadA rfl rfl) rfl (by kernel_rfl) rfl ?_
 refine WA.takeP 1 rfl (RDP.of fun _ => RD.move rfl) rfl (by kernel_rfl) rfl ?_
 refine WA.one (i := 2) (by kernel_rfl) ?_
 refine WAi.efS rfl (EF.callM (.cons rfl (.cons rfl .nil)) (.cells .nil) (.ro .nil) (fun w hS => l1Below_c _ _ _ vb xb _ _ (by first | omega | exact Nat.zero_le _) (by omega)) (by simp [En.rdb])) rfl rfl (fun _ => SubI.sub) ?_
 rintro x12 ⟨hx12, hi12⟩
 refine WA.takeP 3 rfl (RDP.of fun _ => RD.sub rfl rfl (by omega) (by omega)) rfl (by kernel_rfl) rfl ?_
 refine WA.one (i := 4) (by kernel_rfl) ?_
 refine WAi.efNL rfl (EF.storeA rfl rfl rfl rfl) rfl rfl ?_
 rintro ⟨⟩ -
 refine WB.takeP 5 rfl (RDP.of fun _ => RD.assign rfl) rfl (by kernel_rfl) rfl ?_
 refine WB.done (by kernel_rfl) ?_
 refine JE.seqN ?_
 refine J.ret ?_
 refine JE.ret rfl (ResL.flat rfl rfl (.tmp rfl .nil)) (fun w hS => ?_)
 exact CN.fin hS (x9.1, x9.2.1, x9.2.2.1, x12.1 - 1) rfl ⟨hx9, (by dsimp only; omega)⟩ (SubM.row rfl rfl rfl .nil) (by simp [En.rdb])
theorem DrawIsPebbles_c (vb : Value) (xb : List UInt8) (w : World) (hr : Rd w vb 1 (xb.map yv)) (hlb : xb.length ≤ 1048576) :
    CN Try.prog 28 [vb] w (Int × List (Int × Int) × Value × Int × PS × Value × Value × Value) (fun x => (((-1 ≤ x.1 ∧ x.1 ≤ 9) ∧ x.2.1.length ≤ 25 ∧ bOk x.2.1) ∧ 0 ≤ x.2.2.2.1 ∧ x.2.2.2.1 ≤ 4) ∧ pOk 4 x.2.2.2.2.1) (fun x => .tuple #[.agg #[.int .i64 x.1, x.2.2.1], .int .i64 x.2.2.2.1, .agg #[x.2.2.2.2.2.1, x.2.2.2.2.2.2.1, x.2.2.2.2.2.2.2]]) (fun x => [.row x.2.2.1 59 2 ((x.2.1).map bv), .row x.2.2.2.2.2.1 3 1 ((x.2.2.2.2.1.f).map iv), .row x.2.2.2.2.2.2.1 3 1 ((x.2.2.2.2.1.t).map iv), .row x.2.2.2.2.2.2.2 3 1 ((x.2.2.2.2.1.pl).map iv)]) := by
 refine calls_of_J (mu := (fun _ => False)) (m := [.ro vb 1 (xb.map yv)]) (e := [(0, vb)]) Try.func28 rfl rfl (.cons rfl .nil) (((St.init _ _).ro0 hr (by decide))) ?_
 refine J.seq ?_
 refine J.reg ?_
 refine WL.efS (EF.allocA) rfl rfl ?_
 intro b2 _
 refine WL.rd (RD.assign rfl) rfl rfl ?_
 refine WL.efS (EF.allocA) rfl rfl ?_
 intro b4 _
 refine WL.nil ?_
 refine JE.seqN ?_
 refine J.seq ?_
 refine J.reg ?_
 refine WL.rd (RD.move rfl) rfl rfl ?_
 refine WL.efS (EF.callN (.cons rfl .nil) (fun w hS => l1New_c vb xb _ (by exact RdI.rd hS) (by omega))) rfl rfl ?_
 rintro c12 -
 refine WL.efS (EF.callM (.cons rfl .nil) (.cells .nil) (.ro .nil) (fun w hS => l4Some_c _ _ _ vb xb _ (by first | omega | exact Nat.zero_le _) (by omega)) (by simp [En.rdb])) rfl rfl ?_
 rintro x13 ⟨⟨hx13, hkl13⟩, hp13, hm13, hi13⟩
 refine WL.rd (RD.move rfl) rfl rfl ?_
 refine WL.rd (RD.extract rfl rfl) rfl rfl ?_
 refine WL.rd (RD.extract rfl rfl) rfl rfl ?_
 refine WL.rd (RD.extract rfl rfl) rfl rfl ?_
 refine WL.rd (RD.extract rfl rfl) rfl rfl ?_
 refine WL.rd (RD.extract rfl rfl) rfl rfl ?_
 refine WL.efS (EF.allocA) rfl rfl ?_
 intro b5 _
 refine WL.efS (EF.allocA) rfl rfl ?_
 intro b8 _
 refine WL.efN (EF.storeA rfl rfl rfl rfl) rfl ?_
 rintro ⟨⟩ -
 refine WL.rd (RD.assign rfl) rfl rfl ?_
 refine WL.rd (RD.assign rfl) rfl rfl ?_
 refine WL.efN (EF.storeA rfl rfl rfl rfl) rfl ?_
 rintro ⟨⟩ -
 refine WL.rd (RD.assign rfl) rfl rfl ?_
 refine WL.nil ?_
 refine JE.seqN ?_
 refine J.seq ?_
 refine J.any [] [.cells b5 26 [.int .i64 x13.1, x13.2.2.1], .cells b8 31 [x13.2.2.2.2.2.2.1, x13.2.2.2.2.2.2.2.1, x13.2.2.2.2.2.2.2.2.1], .ro vb 1 (xb.map yv)] SubI.sub ?_
 refine WA.take 0 rfl (RD.loadA rfl rfl) rfl (by kernel_rfl) rfl ?_
 refine WA.takeP 1 rfl (RDP.of fun _ => RD.move rfl) rfl (by kernel_rfl) rfl ?_
 refine WA.take 2 rfl (RD.loadA rfl rfl) rfl (by kernel_rfl) rfl ?_
 refine WA.one (i := 3) (by kernel_rfl) ?_
 refine WAi.efN rfl (EF.storeA rfl rfl rfl rfl) rfl (fun _ => SubI.sub) ?_
 rintro ⟨⟩ -
 refine WA.takeP 4 rfl (RDP.of fun _ => RD.assign rfl) rfl (by kernel_rfl) rfl ?_
 refine WA.one (i := 5) (by kernel_rfl) ?_
 refine WAi.efN rfl (EF.storeA rfl rfl rfl rfl) rfl (fun _ => SubI.sub) ?_
 rintro ⟨⟩ -
 refine WA.done (by kernel_rfl) ?_
 refine JE.seqN ?_
 refine J.ret ?_
 refine JE.ret rfl (ResL.flat rfl rfl (.tmp rfl (ResL.flat rfl rfl .nil))) (fun w hS => ?_)
 exact CN.fin hS (x13.1, x13.2.1, x13.2.2.1, x13.2.2.2.1, x13.2.2.2.2.2.1, x13.2.2.2.2.2.2.1, x13.2.2.2.2.2.2.2.1, x13.2.2.2.2.2.2.2.2.1) rfl ⟨⟨hx13, hkl13.1⟩, hp13⟩ (SubM.row rfl rfl rfl (SubM.row rfl rfl rfl (SubM.row rfl rfl rfl (SubM.row rfl rfl rfl .nil)))) (by simp [En.rdb])
theorem samePebbles_c (vf vt vp uf ut up : Value) (f t pl f2 t2 pl2 : List Int) (w : World) (h1 : Rd w vf 1 (f.map iv)) (h2 : Rd w vt 1 (t.map iv)) (h3 : Rd w vp 1 (pl.map iv)) (h4 : Rd w uf 1 (f2.map iv)) (h5 : Rd w ut 1 (t2.map iv)) (h6 : Rd w up 1 (pl2.map iv)) :
    CS Try.prog 10 [.agg #[vf, vt, vp], .agg #[uf, ut, up]] w (.bool (decide (f = f2 ∧ t = t2 ∧ pl = pl2))) := by
 refine calls_of_J (mu := (fun _ => False)) (m := [.ro vf 1 (f.map iv), .ro vt 1 (t.map iv), .ro vp 1 (pl.map iv), .ro uf 1 (f2.map iv), .ro ut 1 (t2.map iv), .ro up 1 (pl2.map iv)]) (e := [(0, .agg #[vf, vt, vp]), (1, .agg #[uf, ut, up])]) Try.func10 rfl rfl (.cons rfl (.cons rfl .nil)) ((((((((St.init _ _).ro0 h6 (by decide)).ro0 h5 (by decide)).ro0 h4 (by decide)).ro0 h3 (by decide)).ro0 h2 (by decide)).ro0 h1 (by decide))) ?_
 refine J.seq ?_
 refine J.reg ?_
 refine WL.efS (EF.boxA rfl) rfl rfl ?_
 intro b2 _
 refine WL.efS (EF.boxA rfl) rfl rfl ?_
 intro b3 _
 refine WL.rd (RD.assign rfl) rfl rfl ?_
 refine WL.nil ?_
 refine JE.seqN ?_
 refine J.seq ?_
 refine J.reg ?_
 refine WL.rd (RD.fieldC rfl rfl) rfl rfl ?_
 refine WL.rd (RD.loadC rfl rfl) rfl rfl ?_
 refine WL.rd (RD.fieldC rfl rfl) rfl rfl ?_
 refine WL.rd (RD.loadC rfl rfl) rfl rfl ?_
 refine WL.efS (EF.callS (.cons rfl (.cons rfl .nil)) (fun w hS => sameInts_c _ _ _ _ _ (by exact RdI.rd hS) (by exact RdI.rd hS))) rfl rfl ?_
 rintro ⟨⟩ -
 refine WL.rd (RD.move rfl) rfl rfl ?_
 refine WL.caseP 10 rfl (fun hg10 => ?_) (fun hg10 => ?_)
 ·
  refine WL.rd (RD.fieldC rfl rfl) rfl rfl ?_
  refine WL.rd (RD.loadC rfl rfl) rfl rfl ?_
  refine WL.rd (RD.fieldC rfl rfl) rfl rfl ?_
  refine WL.rd (RD.loadC rfl rfl) rfl rfl ?_
  refine WL.efS (EF.callS (.cons rfl (.cons rfl .nil)) (fun w hS => sameInts_c _ _ _ _ _ (by exact RdI.rd hS) (by exact RdI.rd hS))) rfl rfl ?_
  rintro ⟨⟩ -
  refine WL.rd (RD.pickT rfl rfl) rfl rfl ?_
  refine WL.rd (RD.move rfl) rfl rfl ?_
  refine WL.caseP 17 rfl (fun hg17 => ?_) (fun hg17 => ?_)
  ·
   refine WL.rd (RD.fieldC rfl rfl) rfl rfl ?_
   refine WL.rd (RD.loadC rfl rfl) rfl rfl ?_
   refine WL.rd (RD.fieldC rfl rfl) rfl rfl ?_
   refine WL.rd (RD.loadC rfl rfl) rfl rfl ?_
   refine WL.efS (EF.callS (.cons rfl (.cons rfl .nil)) (fun w hS => sameInts_c _ _ _ _ _ (by exact RdI.rd hS) (by exact RdI.rd hS))) rfl rfl ?_
   rintro ⟨⟩ -
   refine WL.rd (RD.pickT rfl rfl) rfl rfl ?_
   refine WL.rd (RD.assign rfl) rfl rfl ?_
   refine WL.nil ?_
   refine JE.seqN ?_
   refine J.ret ?_
   refine JE.ret rfl (.tmp rfl .nil) (fun w hS => ?_)
   first | exact CS.fin hS (mk_dec ⟨fun h => ⟨by assumption, by assumption, h⟩, fun h => h.2.2⟩) | exact CS.fin hS (mk_false (fun h => absurd h.1 (by assumption))) | exact CS.fin hS (mk_false (fun h => absurd h.2.1 (by assumption)))
  ·
   refine WL.noS rfl rfl ?_
   refine WL.noS rfl rfl ?_
   refine WL.noS rfl rfl ?_
   refine WL.noS rfl rfl ?_
   refine WL.noS rfl rfl ?_
   refine WL.rd (RD.pickF rfl rfl) rfl rfl ?_
   refine WL.rd (RD.assign rfl) rfl rfl ?_
   refine WL.nil ?_
   refine JE.seqN ?_
   refine J.ret ?_
   refine JE.ret rfl (.tmp rfl .nil) (fun w hS => ?_)
   first | exact CS.fin hS (mk_dec ⟨fun h => ⟨by assumption, by assumption, h⟩, fun h => h.2.2⟩) | exact CS.fin hS (mk_false (fun h => absurd h.1 (by assumption))) | exact CS.fin hS (mk_false (fun h => absurd h.2.1 (by assumption)))
 ·
  refine WL.noS rfl rfl ?_
  refine WL.noS rfl rfl ?_
  refine WL.noS rfl rfl ?_
  refine WL.noS rfl rfl ?_
  refine WL.noS rfl rfl ?_
  refine WL.rd (RD.pickF rfl rfl) rfl rfl ?_
  refine WL.rd (RD.move rfl) rfl rfl ?_
  refine WL.noS rfl rfl ?_
  refine WL.noS rfl rfl ?_
  refine WL.noS rfl rfl ?_
  refine WL.noS rfl rfl ?_
  refine WL.noS rfl rfl ?_
  refine WL.rd (RD.pickF rfl rfl) rfl rfl ?_
  refine WL.rd (RD.assign rfl) rfl rfl ?_
  refine WL.nil ?_
  refine JE.seqN ?_
  refine J.ret ?_
  refine JE.ret rfl (.tmp rfl .nil) (fun w hS => ?_)
  first | exact CS.fin hS (mk_dec ⟨fun h => ⟨by assumption, by assumption, h⟩, fun h => h.2.2⟩) | exact CS.fin hS (mk_false (fun h => absurd h.1 (by assumption))) | exact CS.fin hS (mk_false (fun h => absurd h.2.1 (by assumption)))

end Go.Proofs.Ytpojkjabngkfgaa
