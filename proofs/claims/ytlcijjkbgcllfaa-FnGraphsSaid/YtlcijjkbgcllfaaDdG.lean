/- Contracts of functions of the program, each walked once; written by a program of our own. -/
import Derived.Test.YtlcijjkbgcllfaaChG
import Derived.Test.YtlcijjkbgcllfaaDaG
import Derived.Test.YtlcijjkbgcllfaaMo
namespace Go.Proofs.Ytlcijjkbgcllfaa
open Go Go.RowKit
set_option maxRecDepth 4000

theorem l1Text_c (cb i0 : Nat) (h0 : Int) (vb : Value) (xb : List UInt8) (most : Int) (w : World) (hi0 : i0 ≤ xb.length) (hlb : xb.length ≤ 1048576) (hmo : 0 ≤ most ∧ most ≤ 100) :
    CM Try.prog 153 [.pointer (some ⟨cb, 0, none⟩), .int .i64 most] w [.cells cb 127 [vb, .int .i64 (i0 : Int), .int .i64 h0]] [.ro vb 1 (xb.map yv)] (List UInt8 × Nat × Int) (fun x => x.1.length ≤ 200 ∧ x.2.1 ≤ xb.length) (fun x => .string (bs x.1)) (fun x => [.cells cb 127 [vb, .int .i64 (x.2.1 : Int), .int .i64 x.2.2]]) := by
 intro hSt
 refine calls_of_J (mu := (muOf [.cells cb 127 [vb, .int .i64 (i0 : Int), .int .i64 h0]])) (m := [.cells cb 127 [vb, .int .i64 (i0 : Int), .int .i64 h0], .ro vb 1 (xb.map yv)]) (e := [(0, .pointer (some ⟨cb, 0, none⟩)), (1, .int .i64 most)]) Try.func153 rfl rfl (.cons rfl (.cons rfl .nil)) (hSt) ?_
 refine J.seq ?_
 refine J.reg ?_
 refine WL.rd (RD.assign rfl) rfl rfl ?_
 refine WL.nil ?_
 refine JE.seqN ?_
 refine J.seq ?_
 refine J.reg ?_
 refine WL.efS (EF.build0) rfl rfl ?_
 intro v9 _
 refine WL.rd (RD.assign rfl) rfl rfl ?_
 refine WL.nil ?_
 refine JE.seqN ?_
 refine J.seq ?_
 refine J.reg ?_
 refine WL.rd (RD.move rfl) rfl rfl ?_
 refine WL.efS (EF.callM (.cons rfl (.cons rfl .nil)) (.cells .nil) (.ro .nil) (fun w hS => l1Below_c _ _ _ vb xb _ _ (by first | omega | exact Nat.zero_le _) (by omega)) (by simp [En.rdb])) rfl rfl ?_
 rintro x11 ⟨hx11, hi11⟩
 refine WL.rd (RD.assign rfl) rfl rfl ?_
 refine WL.nil ?_
 refine JE.seqN ?_
 refine J.seq ?_
 refine J.seq ?_
 refine J.reg ?_
 refine WL.rd (RD.move rfl) rfl rfl ?_
 refine WL.rd (RD.move rfl) rfl rfl ?_
 refine WL.rd (RD.add rfl rfl (by omega) (by omega)) rfl rfl ?_
 refine WL.efS (EF.callM (.cons rfl (.cons rfl .nil)) (.cells .nil) (.ro .nil) (fun w hS => l1Below_c _ _ _ vb xb _ _ (by first | omega | exact Nat.zero_le _) (by omega)) (by simp [En.rdb])) rfl rfl ?_
 rintro x15 ⟨hx15, hi15⟩
 refine WL.rd (RD.assign rfl) rfl rfl ?_
 refine WL.nil ?_
 refine JE.seqN ?_
 refine J.block ?_
 refine J.loop (fun gg ee mm => ∃ (r : Int), ∃ (l : List UInt8), ∃ (u : Value), ∃ (i : Nat), ∃ (h : Int), gg = r.toNat ∧ ((0 ≤ r ∧ (l.length : Int) + r ≤ 101) ∧ (i ≤ xb.length)) ∧ ee = [(5, u), (7, .int .i64 r), (0, .pointer (some ⟨cb, 0, none⟩)), (6, .int .i64 x11.1)] ∧ mm = [.row u 5 1 ((l).map yv), .ro vb 1 (xb.map yv), .cells cb 127 [vb, .int .i64 (i : Int), .int .i64 h]]) _ ⟨x15.1, [], v9, x15.2.1, x15.2.2, rfl, ?_, rfl, rfl⟩ ?_ ?_ ?_
 · exact ⟨by simp; omega, by omega⟩
 · exact (Sub.consE rfl (by first | rfl | (congr 1; omega) | (simp; done)) (Sub.consE rfl (by first | rfl | (congr 1; omega) | (simp; done)) (Sub.consE rfl (by first | rfl | (congr 1; omega) | (simp; done)) (Sub.consE rfl (by first | rfl | (congr 1; omega) | (simp; done)) .nil))))
 · exact (SubM.row rfl rfl (by first | rfl | (simp [iv, bv, yv, tv, sv]; done)) (SubM.ro rfl (by first | rfl | (simp [iv, bv, yv, tv, sv]; done)) (SubM.cells rfl (by first | rfl | (simp; done)) .nil)))
 ·
  rintro g _ _ ⟨r, l, u, i, h, rfl, hI, rfl, rfl⟩
  refine J.seq ?_
  refine J.seq ?_
  refine J.reg ?_
  refine WL.rd (RD.move rfl) rfl rfl ?_
  refine WL.rd (RD.gtr rfl rfl) rfl rfl ?_
  refine WL.nil ?_
  refine JE.seqN ?_
  refine J.condP rfl (fun hc17 => ?_) (fun hc17 => ?_)
  ·
   refine J.skip ?_
   refine JE.seqN ?_
   refine J.seq ?_
   refine J.block ?_
   refine J.seq ?_
   refine J.reg ?_
   refine WL.rd (RD.move rfl) rfl rfl ?_
   refine WL.efS (EF.callM (.cons rfl .nil) (.cells .nil) (.ro .nil) (fun w hS => l1Byte_c _ _ _ vb xb _ (by first | omega | exact Nat.zero_le _) (by omega)) (by simp [En.rdb])) rfl rfl ?_
   rintro x21 ⟨hx21, hi21⟩
   refine WL.rd (RD.assign rfl) rfl rfl ?_
   refine WL.nil ?_
   refine JE.seqN ?_
   refine J.seq ?_
   refine J.seq ?_
   refine J.reg ?_
   refine WL.rd (RD.move rfl) rfl rfl ?_
   refine WL.rd (RD.eql rfl rfl) rfl rfl ?_
   refine WL.nil ?_
   refine JE.seqN ?_
   refine J.condP rfl (fun hc23 => ?_) (fun hc23 => ?_)
   ·
    refine J.reg ?_
    refine WL.rd (RD.move rfl) rfl rfl ?_
    refine WL.rd (RD.rem rfl rfl (by omega) (by omega)) rfl rfl ?_
    refine WL.rd (RD.assign rfl) rfl rfl ?_
    refine WL.nil ?_
    refine JE.seqN ?_
    refine J.seq ?_
    refine J.seq ?_
    refine J.reg ?_
    refine WL.rd (RD.move rfl) rfl rfl ?_
    refine WL.rd (RD.eql rfl rfl) rfl rfl ?_
    refine WL.nil ?_
    refine JE.seqN ?_
    refine J.condP rfl (fun hc27 => ?_) (fun hc27 => ?_)
    ·
     refine J.reg ?_
     refine WL.rd (RD.move rfl) rfl rfl ?_
     refine WL.rd (RD.rem rfl rfl (by omega) (by omega)) rfl rfl ?_
     refine WL.rd (RD.add rfl rfl (by omega) (by omega)) rfl rfl ?_
     refine WL.rd (RD.assign rfl) rfl rfl ?_
     refine WL.nil ?_
     refine JE.seqN ?_
     refine J.reg ?_
     refine WL.rd (RD.move rfl) rfl rfl ?_
     refine WL.rd (RD.move rfl) rfl rfl ?_
     refine WL.rd (RD.convB rfl) rfl rfl ?_
     refine WL.efS (EF.build1 rfl) rfl rfl ?_
     intro v34 _
     refine WL.efS (EF.append rfl rfl (by omega) rfl rfl rfl) rfl rfl ?_
     intro v35 _
     refine WL.rd (RD.assign rfl) rfl rfl ?_
     refine WL.nil ?_
     refine JE.blockN ?_
     refine JE.seqN ?_
     refine J.reg ?_
     refine WL.rd (RD.move rfl) rfl rfl ?_
     refine WL.rd (RD.sub rfl rfl (by omega) (by omega)) rfl rfl ?_
     refine WL.rd (RD.assign rfl) rfl rfl ?_
     refine WL.nil ?_
     refine JE.cutN ⟨_, ?_, r - 1, l ++ [UInt8.ofNat ((97 + x21.1 % 2 % 4) % 256).toNat], v35, x21.2.1, x21.2.2, rfl, ?_, rfl, rfl⟩ ?_ ?_
     · omega
     · exact ⟨by simp; omega, by omega⟩
     · exact (Sub.consE rfl (by first | rfl | (congr 1; omega) | (simp; done)) (Sub.consE rfl (by first | rfl | (congr 1; omega) | (simp; done)) (Sub.consE rfl (by first | rfl | (congr 1; omega) | (simp; done)) (Sub.consE rfl (by first | rfl | (congr 1; omega) | (simp; done)) .nil))))
     · exact (SubM.row rfl rfl (by first | rfl | (rw [List.map_append]; rfl)) (SubM.ro rfl (by first | rfl | (rw [List.map_append]; rfl)) (SubM.cells rfl (by first | rfl | (rw [List.map_append]; rfl)) .nil)))
    ·
     refine J.skip ?_
     refine JE.seqN ?_
     refine J.reg ?_
     refine WL.rd (RD.move rfl) rfl rfl ?_
     refine WL.rd (RD.move rfl) rfl rfl ?_
     refine WL.rd (RD.convB rfl) rfl rfl ?_
     refine WL.efS (EF.build1 rfl) rfl rfl ?_
     intro v34 _
     refine WL.efS (EF.append rfl rfl (by omega) rfl rfl rfl) rfl rfl ?_
     intro v35 _
     refine WL.rd (RD.assign rfl) rfl rfl ?_
     refine WL.nil ?_
     refine JE.blockN ?_
     refine JE.seqN ?_
     refine J.reg ?_
     refine WL.rd (RD.move rfl) rfl rfl ?_
     refine WL.rd (RD.sub rfl rfl (by omega) (by omega)) rfl rfl ?_
     refine WL.rd (RD.assign rfl) rfl rfl ?_
     refine WL.nil ?_
     refine JE.cutN ⟨_, ?_, r - 1, l ++ [UInt8.ofNat ((x21.1 % 2) % 256).toNat], v35, x21.2.1, x21.2.2, rfl, ?_, rfl, rfl⟩ ?_ ?_
     · omega
     · exact ⟨by simp; omega, by omega⟩
     · exact (Sub.consE rfl (by first | rfl | (congr 1; omega) | (simp; done)) (Sub.consE rfl (by first | rfl | (congr 1; omega) | (simp; done)) (Sub.consE rfl (by first | rfl | (congr 1; omega) | (simp; done)) (Sub.consE rfl (by first | rfl | (congr 1; omega) | (simp; done)) .nil))))
     · exact (SubM.row rfl rfl (by first | rfl | (rw [List.map_append]; rfl)) (SubM.ro rfl (by first | rfl | (rw [List.map_append]; rfl)) (SubM.cells rfl (by first | rfl | (rw [List.map_append]; rfl)) .nil)))
   ·
    refine J.skip ?_
    refine JE.seqN ?_
    refine J.seq ?_
    refine J.seq ?_
    refine J.reg ?_
    refine WL.rd (RD.move rfl) rfl rfl ?_
    refine WL.rd (RD.eql rfl rfl) rfl rfl ?_
    refine WL.nil ?_
    refine JE.seqN ?_
    refine J.condP rfl (fun hc27 => ?_) (fun hc27 => ?_)
    ·
     refine J.reg ?_
     refine WL.rd (RD.move rfl) rfl rfl ?_
     refine WL.rd (RD.rem rfl rfl (by omega) (by omega)) rfl rfl ?_
     refine WL.rd (RD.add rfl rfl (by omega) (by omega)) rfl rfl ?_
     refine WL.rd (RD.assign rfl) rfl rfl ?_
     refine WL.nil ?_
     refine JE.seqN ?_
     refine J.reg ?_
     refine WL.rd (RD.move rfl) rfl rfl ?_
     refine WL.rd (RD.move rfl) rfl rfl ?_
     refine WL.rd (RD.convB rfl) rfl rfl ?_
     refine WL.efS (EF.build1 rfl) rfl rfl ?_
     intro v34 _
     refine WL.efS (EF.append rfl rfl (by omega) rfl rfl rfl) rfl rfl ?_
     intro v35 _
     refine WL.rd (RD.assign rfl) rfl rfl ?_
     refine WL.nil ?_
     refine JE.blockN ?_
     refine JE.seqN ?_
     refine J.reg ?_
     refine WL.rd (RD.move rfl) rfl rfl ?_
     refine WL.rd (RD.sub rfl rfl (by omega) (by omega)) rfl rfl ?_
     refine WL.rd (RD.assign rfl) rfl rfl ?_
     refine WL.nil ?_
     refine JE.cutN ⟨_, ?_, r - 1, l ++ [UInt8.ofNat ((97 + x21.1 % 4) % 256).toNat], v35, x21.2.1, x21.2.2, rfl, ?_, rfl, rfl⟩ ?_ ?_
     · omega
     · exact ⟨by simp; omega, by omega⟩
     · exact (Sub.consE rfl (by first | rfl | (congr 1; omega) | (simp; done)) (Sub.consE rfl (by first | rfl | (congr 1; omega) | (simp; done)) (Sub.consE rfl (by first | rfl | (congr 1; omega) | (simp; done)) (Sub.consE rfl (by first | rfl | (congr 1; omega) | (simp; done)) .nil))))
     · exact (SubM.row rfl rfl (by first | rfl | (rw [List.map_append]; rfl)) (SubM.ro rfl (by first | rfl | (rw [List.map_append]; rfl)) (SubM.cells rfl (by first | rfl | (rw [List.map_append]; rfl)) .nil)))
    ·
     refine J.skip ?_
     refine JE.seqN ?_
     refine J.reg ?_
     refine WL.rd (RD.move rfl) rfl rfl ?_
     refine WL.rd (RD.move rfl) rfl rfl ?_
     refine WL.rd (RD.convB rfl) rfl rfl ?_
     refine WL.efS (EF.build1 rfl) rfl rfl ?_
     intro v34 _
     refine WL.efS (EF.append rfl rfl (by omega) rfl rfl rfl) rfl rfl ?_
     intro v35 _
     refine WL.rd (RD.assign rfl) rfl rfl ?_
     refine WL.nil ?_
     refine JE.blockN ?_
     refine JE.seqN ?_
     refine J.reg ?_
     refine WL.rd (RD.move rfl) rfl rfl ?_
     refine WL.rd (RD.sub rfl rfl (by omega) (by omega)) rfl rfl ?_
     refine WL.rd (RD.assign rfl) rfl rfl ?_
     refine WL.nil ?_
     refine JE.cutN ⟨_, ?_, r - 1, l ++ [UInt8.ofNat ((x21.1) % 256).toNat], v35, x21.2.1, x21.2.2, rfl, ?_, rfl, rfl⟩ ?_ ?_
     · omega
     · exact ⟨by simp; omega, by omega⟩
     · exact (Sub.consE rfl (by first | rfl | (congr 1; omega) | (simp; done)) (Sub.consE rfl (by first | rfl | (congr 1; omega) | (simp; done)) (Sub.consE rfl (by first | rfl | (congr 1; omega) | (simp; done)) (Sub.consE rfl (by first | rfl | (congr 1; omega) | (simp; done)) .nil))))
     · exact (SubM.row rfl rfl (by first | rfl | (rw [List.map_append]; rfl)) (SubM.ro rfl (by first | rfl | (rw [List.map_append]; rfl)) (SubM.cells rfl (by first | rfl | (rw [List.map_append]; rfl)) .nil)))
  ·
   refine J.exit ?_
   refine JE.seqX ?_
   refine JE.cutX ?_
   refine JE.blockHit ?_
   refine JE.seqN ?_
   refine J.seq ?_
   refine J.reg ?_
   refine WL.rd (RD.move rfl) rfl rfl ?_
   refine WL.rd (RD.toStr (l := l) rfl rfl rfl) rfl rfl ?_
   refine WL.rd (RD.assign rfl) rfl rfl ?_
   refine WL.nil ?_
   refine JE.seqN ?_
   refine J.ret ?_
   refine JE.ret rfl (.tmp rfl .nil) (fun w hS => ?_)
   exact CM.fin hS (l, i, h) rfl ⟨(by dsimp only; omega), hI.2⟩ (SubM.cells rfl rfl .nil) (by simp [En.rdb])
theorem big_c (vb : Value) (xb : List UInt8) (w : World) (hr : Rd w vb 1 (xb.map yv)) :
    CS Try.prog 7 [vb] w (.bool (decide ((xb.length : Int) > 1048576))) := by
 refine calls_of_J (mu := (fun _ => False)) (m := [.ro vb 1 (xb.map yv)]) (e := [(0, vb)]) Try.func7 rfl rfl (.cons rfl .nil) (((St.init _ _).ro0 hr (by decide))) ?_
 refine J.seq ?_
 refine J.reg ?_
 refine WL.rd (RD.assign rfl) rfl rfl ?_
 refine WL.nil ?_
 refine JE.seqN ?_
 refine J.seq ?_
 refine J.reg ?_
 refine WL.rd (RD.move rfl) rfl rfl ?_
 refine WL.rd (RD.lenR rfl) rfl rfl ?_
 refine WL.rd (RD.gtr rfl rfl) rfl rfl ?_
 refine WL.rd (RD.assign rfl) rfl rfl ?_
 refine WL.nil ?_
 refine JE.seqN ?_
 refine J.ret ?_
 refine JE.ret rfl (.tmp rfl .nil) (fun w hS => ?_)
 exact CS.fin hS rfl

end Go.Proofs.Ytlcijjkbgcllfaa
