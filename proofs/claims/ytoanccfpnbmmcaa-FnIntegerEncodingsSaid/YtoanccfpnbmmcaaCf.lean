/- Contracts of functions of the program, each walked once; written by a program of our own. -/
import Derived.Test.YtoanccfpnbmmcaaCe
namespace Go.Proofs.Ytoanccfpnbmmcaa
open Go Go.RowKit
set_option maxRecDepth 4000

theorem sEncodeFixed_c (n width : Int) (w : World) (hn : -9223372036854775808 ≤ n ∧ n ≤ 9223372036854775807) (hwi : -9223372036854775808 ≤ width ∧ width ≤ 9223372036854775807) :
    CS Try.prog 18 [.int .i64 n, .int .i64 width] w (.string (bs (encF n width))) := by
 refine calls_of_J (mu := (fun _ => False)) (m := []) (e := [(0, .int .i64 n), (1, .int .i64 width)]) Try.func18 rfl rfl (.cons rfl (.cons rfl .nil)) (St.init _ _) ?_
 refine J.seq ?_
 refine J.reg ?_
 refine WL.rd (RD.assign rfl) rfl rfl ?_
 refine WL.nil ?_
 refine JE.seqN ?_
 refine J.seq ?_
 refine J.seq ?_
 refine J.reg ?_
 refine WL.rd (RD.move rfl) rfl rfl ?_
 refine WL.efS (EF.callS (.cons rfl (.cons rfl (.cons rfl .nil))) (fun w hS => l1In_c _ _ _ _)) rfl rfl ?_
 rintro ⟨⟩ -
 refine WL.rd (RD.notP rfl) rfl rfl ?_
 refine WL.rd (RD.move rfl) rfl rfl ?_
 refine WL.caseP 10 rfl (fun hg10 => ?_) (fun hg10 => ?_)
 ·
  refine WL.noS rfl rfl ?_
  refine WL.noS rfl rfl ?_
  refine WL.rd (RD.pickT rfl rfl) rfl rfl ?_
  refine WL.nil ?_
  refine JE.seqN ?_
  refine J.condT rfl ?_
  refine J.seq ?_
  refine J.reg ?_
  refine WL.rd (RD.assign rfl) rfl rfl ?_
  refine WL.nil ?_
  refine JE.seqN ?_
  refine J.ret ?_
  refine JE.ret rfl (.tmp rfl .nil) (fun w hS => ?_)
  have h : ¬ (1 ≤ width ∧ width ≤ 7 ∧ 0 ≤ n ∧ n.toNat < 256 ^ width.toNat) := by omega
  exact CS.fin hS (by unfold encF; rw [if_neg h]; rfl)
 ·
  refine WL.rd (RD.move rfl) rfl rfl ?_
  refine WL.rd (RD.lss rfl rfl) rfl rfl ?_
  refine WL.rd (RD.pickF rfl rfl) rfl rfl ?_
  refine WL.nil ?_
  refine JE.seqN ?_
  refine J.condP rfl (fun hc13 => ?_) (fun hc13 => ?_)
  ·
   refine J.seq ?_
   refine J.reg ?_
   refine WL.rd (RD.assign rfl) rfl rfl ?_
   refine WL.nil ?_
   refine JE.seqN ?_
   refine J.ret ?_
   refine JE.ret rfl (.tmp rfl .nil) (fun w hS => ?_)
   have h : ¬ (1 ≤ width ∧ width ≤ 7 ∧ 0 ≤ n ∧ n.toNat < 256 ^ width.toNat) := by omega
   exact CS.fin hS (by unfold encF; rw [if_neg h]; rfl)
  ·
   refine J.skip ?_
   refine JE.seqN ?_
   refine J.seq ?_
   refine J.reg ?_
   refine WL.rd (RD.assign rfl) rfl rfl ?_
   refine WL.nil ?_
   refine JE.seqN ?_
   refine J.seq ?_
   refine J.seq ?_
   refine J.reg ?_
   refine WL.rd (RD.assign rfl) rfl rfl ?_
   refine WL.nil ?_
   refine JE.seqN ?_
   refine J.block ?_
   refine J.loop (fun gg ee mm => ∃ (k : Nat), ∃ (x : Nat), gg = 7 - k ∧ (((k : Int) ≤ width) ∧ (1 ≤ width ∧ width ≤ 7 ∧ 0 ≤ n) ∧ (x = n.toNat / 256 ^ k)) ∧ ee = [(0, .int .i64 (x : Int)), (1, .int .i64 width), (5, .string (bs (be k n.toNat))), (6, .int .i64 (k : Int))] ∧ mm = []) _ ⟨0, n.toNat, rfl, ?_, rfl, rfl⟩ ?_ ?_ ?_
   · exact ⟨by omega, by omega, by simp⟩
   · exact (Sub.consE rfl (by congr 1; omega) (Sub.consE rfl (by first | rfl | (congr 1; omega) | (simp; done)) (Sub.consE rfl (by first | rfl | (congr 1; omega) | (simp; done)) (Sub.consE rfl (by first | rfl | (congr 1; omega) | (simp; done)) .nil))))
   · exact .nil
   ·
    rintro g _ _ ⟨k, x, rfl, hI, rfl, rfl⟩
    have hx : x ≤ n.toNat := by rw [hI.2.2]; exact Nat.div_le_self _ _
    have hbl := be_len k n.toNat
    refine J.seq ?_
    refine J.seq ?_
    refine J.reg ?_
    refine WL.rd (RD.move rfl) rfl rfl ?_
    refine WL.rd (RD.move rfl) rfl rfl ?_
    refine WL.rd (RD.lss rfl rfl) rfl rfl ?_
    refine WL.nil ?_
    refine JE.seqN ?_
    refine J.condP rfl (fun hc16 => ?_) (fun hc16 => ?_)
    ·
     refine J.skip ?_
     refine JE.seqN ?_
     refine J.seq ?_
     refine J.block ?_
     refine J.seq ?_
     refine J.reg ?_
     refine WL.rd (RD.move rfl) rfl rfl ?_
     refine WL.rd (RD.rem rfl rfl (by omega) (by omega)) rfl rfl ?_
     refine WL.rd (RD.convB rfl) rfl rfl ?_
     refine WL.efS (EF.build1 rfl) rfl rfl ?_
     intro v22 _
     refine WL.rd (RD.toStr (l := [UInt8.ofNat ((x : Int) % 256 % 256).toNat]) rfl rfl rfl) rfl rfl ?_
     refine WL.rd (RD.move rfl) rfl rfl ?_
     refine WL.rd (RD.addS rfl rfl (by rw [List.length_singleton]; omega)) rfl rfl ?_
     refine WL.rd (RD.assign rfl) rfl rfl ?_
     refine WL.nil ?_
     refine JE.seqN ?_
     refine J.reg ?_
     refine WL.rd (RD.move rfl) rfl rfl ?_
     refine WL.rd (RD.quo rfl rfl (by omega) (by omega) (by omega)) rfl rfl ?_
     refine WL.rd (RD.assign rfl) rfl rfl ?_
     refine WL.nil ?_
     refine JE.blockN ?_
     refine JE.seqN ?_
     refine J.reg ?_
     refine WL.rd (RD.move rfl) rfl rfl ?_
     refine WL.rd (RD.add rfl rfl (by omega) (by omega)) rfl rfl ?_
     refine WL.rd (RD.assign rfl) rfl rfl ?_
     refine WL.nil ?_
     refine JE.cutN ⟨_, ?_, k + 1, x / 256, rfl, ?_, rfl, rfl⟩ ?_ ?_
     · omega
     · exact ⟨by omega, by omega, by rw [hI.2.2, Nat.pow_succ, ← Nat.div_div_eq_div_mul]⟩
     · exact (Sub.consE rfl (by first | rfl | (congr 1; omega)) (Sub.consE rfl (by first | rfl | (congr 1; omega) | (simp; done)) (Sub.consE rfl (by rw [be_front, ← hI.2.2, List.singleton_append]; repeat (first | omega | congr 1)) (Sub.consE rfl (by first | rfl | (congr 1; omega) | (simp; done)) .nil))))
     · exact .nil
    ·
     refine J.exit ?_
     refine JE.seqX ?_
     refine JE.cutX ?_
     refine JE.blockHit ?_
     refine JE.seqN ?_
     refine J.seq ?_
     refine J.seq ?_
     refine J.reg ?_
     refine WL.rd (RD.move rfl) rfl rfl ?_
     refine WL.rd (RD.gtr rfl rfl) rfl rfl ?_
     refine WL.nil ?_
     refine JE.seqN ?_
     refine J.condP rfl (fun hc29 => ?_) (fun hc29 => ?_)
     ·
      refine J.seq ?_
      refine J.reg ?_
      refine WL.rd (RD.assign rfl) rfl rfl ?_
      refine WL.nil ?_
      refine JE.seqN ?_
      refine J.ret ?_
      refine JE.ret rfl (.tmp rfl .nil) (fun w hS => ?_)
      have hk : width.toNat = k := by omega
      have hq : ¬ n.toNat < 256 ^ k := fun hh => by have := Nat.div_eq_of_lt hh; omega
      have h : ¬ (1 ≤ width ∧ width ≤ 7 ∧ 0 ≤ n ∧ n.toNat < 256 ^ width.toNat) := by rw [hk]; omega
      exact CS.fin hS (by unfold encF; rw [if_neg h]; rfl)
     ·
      refine J.skip ?_
      refine JE.seqN ?_
      refine J.seq ?_
      refine J.reg ?_
      refine WL.rd (RD.move rfl) rfl rfl ?_
      refine WL.rd (RD.assign rfl) rfl rfl ?_
      refine WL.nil ?_
      refine JE.seqN ?_
      refine J.ret ?_
      refine JE.ret rfl (.tmp rfl .nil) (fun w hS => ?_)
      have hk : width.toNat = k := by omega
      have hq : n.toNat < 256 ^ k := (Nat.div_eq_zero_iff_lt (Nat.pow_pos (by decide))).1 (by omega)
      exact CS.fin hS (by unfold encF; rw [hk, if_pos ⟨hI.2.1.1, hI.2.1.2.1, hI.2.1.2.2, hq⟩]; rfl)
theorem iEncodeFixed_c (n width : Int) (w : World) (hn : -9223372036854775808 ≤ n ∧ n ≤ 9223372036854775807) (hwi : -9223372036854775808 ≤ width ∧ width ≤ 9223372036854775807) :
    CS Try.prog 16 [.int .i64 n, .int .i64 width] w (.string (bs (encF n width))) := by
 refine calls_of_J (mu := (fun _ => False)) (m := []) (e := [(0, .int .i64 n), (1, .int .i64 width)]) Try.func16 rfl rfl (.cons rfl (.cons rfl .nil)) (St.init _ _) ?_
 refine J.seq ?_
 refine J.reg ?_
 refine WL.rd (RD.assign rfl) rfl rfl ?_
 refine WL.nil ?_
 refine JE.seqN ?_
 refine J.seq ?_
 refine J.seq ?_
 refine J.reg ?_
 refine WL.rd (RD.move rfl) rfl rfl ?_
 refine WL.efS (EF.callS (.cons rfl (.cons rfl (.cons rfl .nil))) (fun w hS => within_c _ _ _ _)) rfl rfl ?_
 rintro ⟨⟩ -
 refine WL.rd (RD.notP rfl) rfl rfl ?_
 refine WL.rd (RD.move rfl) rfl rfl ?_
 refine WL.caseP 10 rfl (fun hg10 => ?_) (fun hg10 => ?_)
 ·
  refine WL.noS rfl rfl ?_
  refine WL.noS rfl rfl ?_
  refine WL.rd (RD.pickT rfl rfl) rfl rfl ?_
  refine WL.rd (RD.move rfl) rfl rfl ?_
  refine WL.noS rfl rfl ?_
  refine WL.noS rfl rfl ?_
  refine WL.noS rfl rfl ?_
  refine WL.noS rfl rfl ?_
  refine WL.noS rfl rfl ?_
  refine WL.rd (RD.pickT rfl rfl) rfl rfl ?_
  refine WL.nil ?_
  refine JE.seqN ?_
  refine J.condT rfl ?_
  refine J.seq ?_
  refine J.reg ?_
  refine WL.rd (RD.assign rfl) rfl rfl ?_
  refine WL.nil ?_
  refine JE.seqN ?_
  refine J.ret ?_
  refine JE.ret rfl (.tmp rfl .nil) (fun w hS => ?_)
  have h : ¬ (1 ≤ width ∧ width ≤ 7 ∧ 0 ≤ n ∧ n.toNat < 256 ^ width.toNat) := by omega
  exact CS.fin hS (by unfold encF; rw [if_neg h]; rfl)
 ·
  refine WL.rd (RD.move rfl) rfl rfl ?_
  refine WL.rd (RD.lss rfl rfl) rfl rfl ?_
  refine WL.rd (RD.pickF rfl rfl) rfl rfl ?_
  refine WL.rd (RD.move rfl) rfl rfl ?_
  refine WL.caseP 14 rfl (fun hg14 => ?_) (fun hg14 => ?_)
  ·
   refine WL.noS rfl rfl ?_
   refine WL.noS rfl rfl ?_
   refine WL.noS rfl rfl ?_
   refine WL.noS rfl rfl ?_
   refine WL.noS rfl rfl ?_
   refine WL.rd (RD.pickT rfl rfl) rfl rfl ?_
   refine WL.nil ?_
   refine JE.seqN ?_
   refine J.condT rfl ?_
   refine J.seq ?_
   refine J.reg ?_
   refine WL.rd (RD.assign rfl) rfl rfl ?_
   refine WL.nil ?_
   refine JE.seqN ?_
   refine J.ret ?_
   refine JE.ret rfl (.tmp rfl .nil) (fun w hS => ?_)
   have h : ¬ (1 ≤ width ∧ width ≤ 7 ∧ 0 ≤ n ∧ n.toNat < 256 ^ width.toNat) := by omega
   exact CS.fin hS (by unfold encF; rw [if_neg h]; rfl)
  ·
   obtain ⟨B, hB1, hB2, hB3, hB4⟩ := p8 width (by omega)
   refine WL.rd (RD.move rfl) rfl rfl ?_
   refine WL.rd (RD.move rfl) rfl rfl ?_
   refine WL.rd (RD.mul rfl rfl (by omega) (by omega)) rfl rfl ?_
   refine WL.rd (RD.shlI (8 * width).toNat rfl rfl (by omega) (by omega) (by omega) (by omega)) rfl rfl ?_
   refine WL.rd (RD.geq rfl rfl) rfl rfl ?_
   refine WL.rd (RD.pickF rfl rfl) rfl rfl ?_
   refine WL.nil ?_
   refine JE.seqN ?_
   refine J.condP rfl (fun hc20 => ?_) (fun hc20 => ?_)
   ·
    refine J.seq ?_
    refine J.reg ?_
    refine WL.rd (RD.assign rfl) rfl rfl ?_
    refine WL.nil ?_
    refine JE.seqN ?_
    refine J.ret ?_
    refine JE.ret rfl (.tmp rfl .nil) (fun w hS => ?_)
    have h : ¬ (1 ≤ width ∧ width ≤ 7 ∧ 0 ≤ n ∧ n.toNat < 256 ^ width.toNat) := by omega
    exact CS.fin hS (by unfold encF; rw [if_neg h]; rfl)
   ·
    refine J.skip ?_
    refine JE.seqN ?_
    refine J.seq ?_
    refine J.reg ?_
    refine WL.rd (RD.move rfl) rfl rfl ?_
    refine WL.efS (EF.makeN (n := width.toNat) (n' := width.toNat) (hn := ⟨by omega⟩) (hn' := ⟨by omega⟩) rfl rfl rfl rfl (by omega)) rfl rfl ?_
    intro v22 _
    refine WL.rd (RD.assign rfl) rfl rfl ?_
    refine WL.nil ?_
    refine JE.seqN ?_
    refine J.seq ?_
    refine J.seq ?_
    refine J.reg ?_
    refine WL.rd (RD.move rfl) rfl rfl ?_
    refine WL.rd (RD.sub rfl rfl (by omega) (by omega)) rfl rfl ?_
    refine WL.rd (RD.assign rfl) rfl rfl ?_
    refine WL.nil ?_
    refine JE.seqN ?_
    refine J.block ?_
    refine J.loop (fun gg ee mm => ∃ (k : Nat), ∃ (x : Nat), ∃ (v : Value), gg = 7 - k ∧ (((k : Int) ≤ width) ∧ (1 ≤ width ∧ width ≤ 7 ∧ 0 ≤ n ∧ n.toNat < 256 ^ width.toNat) ∧ (x = n.toNat / 256 ^ k)) ∧ ee = [(0, .int .i64 (x : Int)), (5, v), (6, .int .i64 (width - 1 - (k : Int)))] ∧ mm = [.row v 5 1 ((List.replicate (width.toNat - k) 0 ++ be k n.toNat).map yv)]) _ ⟨0, n.toNat, v22, rfl, ?_, rfl, rfl⟩ ?_ ?_ ?_
    · exact ⟨by omega, ⟨by omega, by omega, by omega, by omega⟩, by simp⟩
    · exact (Sub.consE rfl (by congr 1; omega) (Sub.consE rfl (by first | rfl | (congr 1; omega) | (simp; done)) (Sub.consE rfl (by congr 1; omega) .nil)))
    · exact (SubM.row rfl rfl (by simp [yv, be]) .nil)
    ·
     rintro g _ _ ⟨k, x, v, rfl, hI, rfl, rfl⟩
     have hx : x ≤ n.toNat := by rw [hI.2.2]; exact Nat.div_le_self _ _
     have hbl := be_len k n.toNat
     refine J.seq ?_
     refine J.seq ?_
     refine J.reg ?_
     refine WL.rd (RD.move rfl) rfl rfl ?_
     refine WL.rd (RD.geq rfl rfl) rfl rfl ?_
     refine WL.nil ?_
     refine JE.seqN ?_
     refine J.condP rfl (fun hc26 => ?_) (fun hc26 => ?_)
     ·
      refine J.skip ?_
      refine JE.seqN ?_
      refine J.seq ?_
      refine J.block ?_
      refine J.seq ?_
      refine J.reg ?_
      refine WL.rd (RD.move rfl) rfl rfl ?_
      refine WL.rd (RD.move rfl) rfl rfl ?_
      refine WL.rd (RD.move rfl) rfl rfl ?_
      refine WL.rd (RD.mask 8 rfl rfl rfl (by decide) (by omega) (show _ ≤ (9223372036854775807 : Int) by omega)) rfl rfl ?_
      refine WL.rd (RD.convB rfl) rfl rfl ?_
      refine WL.rd (RD.idx (j := width.toNat - 1 - k) (hj := ⟨by omega⟩) rfl rfl (by omega) rfl) rfl rfl ?_
      refine WL.efN (EF.storeE rfl rfl (by omega) rfl) rfl ?_
      rintro ⟨⟩ -
      refine WL.nil ?_
      refine JE.seqN ?_
      refine J.reg ?_
      refine WL.rd (RD.move rfl) rfl rfl ?_
      refine WL.rd (RD.shrI 8 rfl rfl rfl (by decide)) rfl rfl ?_
      refine WL.rd (RD.assign rfl) rfl rfl ?_
      refine WL.nil ?_
      refine JE.blockN ?_
      refine JE.seqN ?_
      refine J.reg ?_
      refine WL.rd (RD.move rfl) rfl rfl ?_
      refine WL.rd (RD.sub rfl rfl (by omega) (by omega)) rfl rfl ?_
      refine WL.rd (RD.assign rfl) rfl rfl ?_
      refine WL.nil ?_
      refine JE.cutN ⟨_, ?_, k + 1, x / 256, v, rfl, ?_, rfl, rfl⟩ ?_ ?_
      · omega
      · exact ⟨by omega, hI.2.1, by rw [hI.2.2, Nat.pow_succ, ← Nat.div_div_eq_div_mul]⟩
      · exact (Sub.consE rfl (by first | rfl | (congr 1; omega)) (Sub.consE rfl (by first | rfl | (congr 1; omega) | (simp; done)) (Sub.consE rfl (by congr 1; omega) .nil)))
      · exact (SubM.row rfl rfl (by rw [← fix_step width.toNat k n.toNat (by omega), ← hI.2.2]; congr 1; simp only [yv]; repeat (first | omega | congr 1)) .nil)
     ·
      refine J.exit ?_
      refine JE.seqX ?_
      refine JE.cutX ?_
      refine JE.blockHit ?_
      refine JE.seqN ?_
      refine J.seq ?_
      refine J.reg ?_
      refine WL.rd (RD.move rfl) rfl rfl ?_
      refine WL.rd (RD.toStr (l := List.replicate (width.toNat - k) 0 ++ be k n.toNat) rfl rfl rfl) rfl rfl ?_
      refine WL.rd (RD.assign rfl) rfl rfl ?_
      refine WL.nil ?_
      refine JE.seqN ?_
      refine J.ret ?_
      refine JE.ret rfl (.tmp rfl .nil) (fun w hS => ?_)
      have hk : width.toNat = k := by omega
      exact CS.fin hS (by unfold encF; rw [if_pos hI.2.1, hk, Nat.sub_self]; rfl)

end Go.Proofs.Ytoanccfpnbmmcaa
