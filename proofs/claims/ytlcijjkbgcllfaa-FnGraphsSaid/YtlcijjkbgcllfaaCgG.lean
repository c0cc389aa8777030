/- Contracts of functions of the program, each walked once; written by a program of our own. -/
import Derived.Test.YtlcijjkbgcllfaaCeG
namespace Go.Proofs.Ytlcijjkbgcllfaa
open Go Go.RowKit
set_option maxRecDepth 4000

theorem sFormatInt_c (n : Int) (w : World) (hn : -9223372036854775808 ≤ n ∧ n ≤ 9223372036854775807) :
    CS Try.prog 127 [.int .i64 n] w (.string (bs (fmtInt n))) := by
 refine calls_of_J (mu := (fun _ => False)) (m := []) (e := [(0, .int .i64 n)]) Try.func127 rfl rfl (.cons rfl .nil) (St.init _ _) ?_
 refine J.seq ?_
 refine J.reg ?_
 refine WL.rd (RD.assign rfl) rfl rfl ?_
 refine WL.nil ?_
 refine JE.seqN ?_
 refine J.seq ?_
 refine J.seq ?_
 refine J.reg ?_
 refine WL.rd (RD.move rfl) rfl rfl ?_
 refine WL.rd (RD.eql rfl rfl) rfl rfl ?_
 refine WL.nil ?_
 refine JE.seqN ?_
 refine J.condP rfl (fun hc7 => ?_) (fun hc7 => ?_)
 ·
  refine J.seq ?_
  refine J.reg ?_
  refine WL.rd (RD.assign rfl) rfl rfl ?_
  refine WL.nil ?_
  refine JE.seqN ?_
  refine J.ret ?_
  refine JE.ret rfl (.tmp rfl .nil) (fun w hS => ?_)
  have h0 : n = 0 := by omega
  exact CS.fin hS (by subst h0; rfl)
 ·
  refine J.skip ?_
  refine JE.seqN ?_
  refine J.seq ?_
  refine J.reg ?_
  refine WL.rd (RD.assign rfl) rfl rfl ?_
  refine WL.nil ?_
  refine JE.seqN ?_
  refine J.seq ?_
  refine J.reg ?_
  refine WL.rd (RD.move rfl) rfl rfl ?_
  refine WL.rd (RD.lss rfl rfl) rfl rfl ?_
  refine WL.rd (RD.assign rfl) rfl rfl ?_
  refine WL.nil ?_
  refine JE.seqN ?_
  refine J.seq ?_
  refine J.block ?_
  refine J.loop (fun gg ee mm => ∃ (r : Int), ∃ (o : List UInt8), gg = r.natAbs ∧ ((dg n.natAbs = dg r.natAbs ++ o) ∧ (r.natAbs ≤ n.natAbs) ∧ (n ≠ 0)) ∧ ee = [(0, .int .i64 r), (3, .string (bs o)), (4, .bool (decide (n < 0)))] ∧ mm = []) _ ⟨n, [], rfl, ?_, rfl, rfl⟩ ?_ ?_ ?_
  · exact ⟨by simp, Nat.le_refl _, by omega⟩
  · exact (Sub.consE rfl (by first | rfl | (congr 1; omega) | (simp; done)) (Sub.consE rfl (by first | rfl | (congr 1; omega) | (simp; done)) (Sub.consE rfl (by first | rfl | (congr 1; omega) | (simp; done)) .nil)))
  · exact .nil
  ·
   rintro g _ _ ⟨r, o, rfl, hI, rfl, rfl⟩
   have hq := natAbs_tdiv10 r
   have hm := natAbs_tmod10 r
   have hl := congrArg List.length hI.1
   rw [List.length_append] at hl
   have hl2 := dg_len20 n.natAbs (by omega)
   refine J.seq ?_
   refine J.seq ?_
   refine J.reg ?_
   refine WL.rd (RD.move rfl) rfl rfl ?_
   refine WL.rd (RD.neq rfl rfl) rfl rfl ?_
   refine WL.nil ?_
   refine JE.seqN ?_
   refine J.condP rfl (fun hc11 => ?_) (fun hc11 => ?_)
   ·
    refine J.skip ?_
    refine JE.seqN ?_
    refine J.block ?_
    refine J.seq ?_
    refine J.reg ?_
    refine WL.rd (RD.move rfl) rfl rfl ?_
    refine WL.rd (RD.remT rfl rfl (by omega)) rfl rfl ?_
    refine WL.rd (RD.assign rfl) rfl rfl ?_
    refine WL.nil ?_
    refine JE.seqN ?_
    refine J.seq ?_
    refine J.seq ?_
    refine J.reg ?_
    refine WL.rd (RD.move rfl) rfl rfl ?_
    refine WL.rd (RD.lss rfl rfl) rfl rfl ?_
    refine WL.nil ?_
    refine JE.seqN ?_
    refine J.condP rfl (fun hc15 => ?_) (fun hc15 => ?_)
    ·
     refine J.reg ?_
     refine WL.rd (RD.move rfl) rfl rfl ?_
     refine WL.rd (RD.neg rfl (by omega) (by omega)) rfl rfl ?_
     refine WL.rd (RD.assign rfl) rfl rfl ?_
     refine WL.nil ?_
     refine JE.seqN ?_
     refine J.seq ?_
     refine J.reg ?_
     refine WL.rd (RD.move rfl) rfl rfl ?_
     refine WL.rd (RD.add rfl rfl (by omega) (by omega)) rfl rfl ?_
     refine WL.rd (RD.convB rfl) rfl rfl ?_
     refine WL.efS (EF.build1 rfl) rfl rfl ?_
     intro v21 _
     refine WL.rd (RD.toStr (l := [_]) rfl rfl rfl) rfl rfl ?_
     refine WL.rd (RD.move rfl) rfl rfl ?_
     refine WL.rd (RD.addS rfl rfl (by rw [List.length_singleton]; omega)) rfl rfl ?_
     refine WL.rd (RD.assign rfl) rfl rfl ?_
     refine WL.nil ?_
     refine JE.seqN ?_
     refine J.reg ?_
     refine WL.rd (RD.move rfl) rfl rfl ?_
     refine WL.rd (RD.quoI rfl rfl (by decide) (by omega) (by omega)) rfl rfl ?_
     refine WL.rd (RD.assign rfl) rfl rfl ?_
     refine WL.nil ?_
     refine JE.blockN ?_
     refine JE.cutN ⟨_, ?_, r.tdiv 10, [UInt8.ofNat (48 + r.natAbs % 10)] ++ o, rfl, ?_, rfl, rfl⟩ ?_ ?_
     · omega
     · exact ⟨by rw [hq, ← List.append_assoc, ← dg_pos r.natAbs (by omega)]; exact hI.1, by omega, hI.2.2⟩
     · exact (Sub.consE rfl (by first | rfl | (congr 1; omega) | (simp; done)) (Sub.consE rfl (by repeat (first | omega | congr 1)) (Sub.consE rfl (by first | rfl | (congr 1; omega) | (simp; done)) .nil)))
     · exact .nil
    ·
     refine J.skip ?_
     refine JE.seqN ?_
     refine J.seq ?_
     refine J.reg ?_
     refine WL.rd (RD.move rfl) rfl rfl ?_
     refine WL.rd (RD.add rfl rfl (by omega) (by omega)) rfl rfl ?_
     refine WL.rd (RD.convB rfl) rfl rfl ?_
     refine WL.efS (EF.build1 rfl) rfl rfl ?_
     intro v21 _
     refine WL.rd (RD.toStr (l := [_]) rfl rfl rfl) rfl rfl ?_
     refine WL.rd (RD.move rfl) rfl rfl ?_
     refine WL.rd (RD.addS rfl rfl (by rw [List.length_singleton]; omega)) rfl rfl ?_
     refine WL.rd (RD.assign rfl) rfl rfl ?_
     refine WL.nil ?_
     refine JE.seqN ?_
     refine J.reg ?_
     refine WL.rd (RD.move rfl) rfl rfl ?_
     refine WL.rd (RD.quoI rfl rfl (by decide) (by omega) (by omega)) rfl rfl ?_
     refine WL.rd (RD.assign rfl) rfl rfl ?_
     refine WL.nil ?_
     refine JE.blockN ?_
     refine JE.cutN ⟨_, ?_, r.tdiv 10, [UInt8.ofNat (48 + r.natAbs % 10)] ++ o, rfl, ?_, rfl, rfl⟩ ?_ ?_
     · omega
     · exact ⟨by rw [hq, ← List.append_assoc, ← dg_pos r.natAbs (by omega)]; exact hI.1, by omega, hI.2.2⟩
     · exact (Sub.consE rfl (by first | rfl | (congr 1; omega) | (simp; done)) (Sub.consE rfl (by repeat (first | omega | congr 1)) (Sub.consE rfl (by first | rfl | (congr 1; omega) | (simp; done)) .nil)))
     · exact .nil
   ·
    refine J.exit ?_
    refine JE.seqX ?_
    refine JE.cutX ?_
    refine JE.blockHit ?_
    refine JE.seqN ?_
    refine J.seq ?_
    refine J.seq ?_
    refine J.reg ?_
    refine WL.rd (RD.move rfl) rfl rfl ?_
    refine WL.nil ?_
    refine JE.seqN ?_
    refine J.condP rfl (fun hc27 => ?_) (fun hc27 => ?_)
    ·
     refine J.seq ?_
     refine J.reg ?_
     refine WL.rd (RD.move rfl) rfl rfl ?_
     refine WL.rd (RD.addS (a := [45]) rfl rfl (by rw [List.length_singleton]; omega)) rfl rfl ?_
     refine WL.rd (RD.assign rfl) rfl rfl ?_
     refine WL.nil ?_
     refine JE.seqN ?_
     refine J.ret ?_
     refine JE.ret rfl (.tmp rfl .nil) (fun w hS => ?_)
     have h1 : r.natAbs = 0 := by omega
     rw [h1, dg_zero, List.nil_append] at hI
     exact CS.fin hS (by unfold fmtInt; rw [if_neg hI.2.2, if_pos hc27, hI.1]; rfl)
    ·
     refine J.skip ?_
     refine JE.seqN ?_
     refine J.seq ?_
     refine J.reg ?_
     refine WL.rd (RD.move rfl) rfl rfl ?_
     refine WL.rd (RD.assign rfl) rfl rfl ?_
     refine WL.nil ?_
     refine JE.seqN ?_
     refine J.ret ?_
     refine JE.ret rfl (.tmp rfl .nil) (fun w hS => ?_)
     have h1 : r.natAbs = 0 := by omega
     rw [h1, dg_zero, List.nil_append] at hI
     exact CS.fin hS (by unfold fmtInt; rw [if_neg hI.2.2, if_neg hc27, hI.1]; rfl)
theorem iFormatInt_c (n : Int) (w : World) (hn : -9223372036854775808 ≤ n ∧ n ≤ 9223372036854775807) :
    CS Try.prog 116 [.int .i64 n] w (.string (bs (fmtInt n))) := by
 refine calls_of_J (mu := (fun _ => False)) (m := []) (e := [(0, .int .i64 n)]) Try.func116 rfl rfl (.cons rfl .nil) (St.init _ _) ?_
 refine J.seq ?_
 refine J.reg ?_
 refine WL.rd (RD.assign rfl) rfl rfl ?_
 refine WL.nil ?_
 refine JE.seqN ?_
 refine J.seq ?_
 refine J.seq ?_
 refine J.reg ?_
 refine WL.rd (RD.move rfl) rfl rfl ?_
 refine WL.rd (RD.eql rfl rfl) rfl rfl ?_
 refine WL.nil ?_
 refine JE.seqN ?_
 refine J.condP rfl (fun hc9 => ?_) (fun hc9 => ?_)
 ·
  refine J.seq ?_
  refine J.reg ?_
  refine WL.rd (RD.assign rfl) rfl rfl ?_
  refine WL.nil ?_
  refine JE.seqN ?_
  refine J.ret ?_
  refine JE.ret rfl (.tmp rfl .nil) (fun w hS => ?_)
  have h0 : n = 0 := by omega
  exact CS.fin hS (by subst h0; rfl)
 ·
  refine J.skip ?_
  refine JE.seqN ?_
  refine J.seq ?_
  refine J.reg ?_
  refine WL.efS (EF.build0) rfl rfl ?_
  intro v10 _
  refine WL.rd (RD.assign rfl) rfl rfl ?_
  refine WL.nil ?_
  refine JE.seqN ?_
  refine J.seq ?_
  refine J.seq ?_
  refine J.reg ?_
  refine WL.rd (RD.move rfl) rfl rfl ?_
  refine WL.rd (RD.assign rfl) rfl rfl ?_
  refine WL.nil ?_
  refine JE.seqN ?_
  refine J.block ?_
  refine J.loop (fun gg ee mm => ∃ (r : Int), ∃ (v : Value), ∃ (o : List UInt8), gg = r.natAbs ∧ ((dg n.natAbs = dg r.natAbs ++ o.reverse) ∧ (r.natAbs ≤ n.natAbs) ∧ (n ≠ 0)) ∧ ee = [(0, .int .i64 n), (4, .int .i64 r), (3, v)] ∧ mm = [.row v 5 1 (o.map yv)]) _ ⟨n, v10, [], rfl, ?_, rfl, rfl⟩ ?_ ?_ ?_
  · exact ⟨by simp, Nat.le_refl _, by omega⟩
  · exact (Sub.consE rfl (by first | rfl | (congr 1; omega) | (simp; done)) (Sub.consE rfl (by first | rfl | (congr 1; omega) | (simp; done)) (Sub.consE rfl (by first | rfl | (congr 1; omega) | (simp; done)) .nil)))
  · exact (SubM.row rfl rfl (by first | rfl | (simp [iv, bv, yv, tv, sv]; done)) .nil)
  ·
   rintro g _ _ ⟨r, v, o, rfl, hI, rfl, rfl⟩
   have hq := natAbs_tdiv10 r
   have hm := natAbs_tmod10 r
   have hl := congrArg List.length hI.1
   rw [List.length_append, List.length_reverse] at hl
   have hl2 := dg_len20 n.natAbs (by omega)
   refine J.seq ?_
   refine J.seq ?_
   refine J.reg ?_
   refine WL.rd (RD.move rfl) rfl rfl ?_
   refine WL.rd (RD.neq rfl rfl) rfl rfl ?_
   refine WL.nil ?_
   refine JE.seqN ?_
   refine J.condP rfl (fun hc13 => ?_) (fun hc13 => ?_)
   ·
    refine J.skip ?_
    refine JE.seqN ?_
    refine J.seq ?_
    refine J.block ?_
    refine J.seq ?_
    refine J.reg ?_
    refine WL.rd (RD.move rfl) rfl rfl ?_
    refine WL.rd (RD.remT rfl rfl (by omega)) rfl rfl ?_
    refine WL.rd (RD.assign rfl) rfl rfl ?_
    refine WL.nil ?_
    refine JE.seqN ?_
    refine J.seq ?_
    refine J.seq ?_
    refine J.reg ?_
    refine WL.rd (RD.move rfl) rfl rfl ?_
    refine WL.rd (RD.lss rfl rfl) rfl rfl ?_
    refine WL.nil ?_
    refine JE.seqN ?_
    refine J.condP rfl (fun hc19 => ?_) (fun hc19 => ?_)
    ·
     refine J.reg ?_
     refine WL.rd (RD.move rfl) rfl rfl ?_
     refine WL.rd (RD.neg rfl (by omega) (by omega)) rfl rfl ?_
     refine WL.rd (RD.assign rfl) rfl rfl ?_
     refine WL.nil ?_
     refine JE.seqN ?_
     refine J.reg ?_
     refine WL.rd (RD.move rfl) rfl rfl ?_
     refine WL.rd (RD.move rfl) rfl rfl ?_
     refine WL.rd (RD.add rfl rfl (by omega) (by omega)) rfl rfl ?_
     refine WL.rd (RD.convB rfl) rfl rfl ?_
     refine WL.efS (EF.build1 rfl) rfl rfl ?_
     intro v26 _
     refine WL.efS (EF.append rfl rfl (by omega) rfl rfl rfl) rfl rfl ?_
     intro v27 _
     refine WL.rd (RD.assign rfl) rfl rfl ?_
     refine WL.nil ?_
     refine JE.blockN ?_
     refine JE.seqN ?_
     refine J.reg ?_
     refine WL.rd (RD.move rfl) rfl rfl ?_
     refine WL.rd (RD.quoI rfl rfl (by decide) (by omega) (by omega)) rfl rfl ?_
     refine WL.rd (RD.assign rfl) rfl rfl ?_
     refine WL.nil ?_
     refine JE.cutN ⟨_, ?_, r.tdiv 10, v27, o ++ [UInt8.ofNat (48 + r.natAbs % 10)], rfl, ?_, rfl, rfl⟩ ?_ ?_
     · omega
     · exact ⟨by rw [hq, List.reverse_append, ← List.append_assoc, List.reverse_singleton, ← dg_pos r.natAbs (by omega)]; exact hI.1, by omega, hI.2.2⟩
     · exact (Sub.consE rfl (by first | rfl | (congr 1; omega) | (simp; done)) (Sub.consE rfl (by first | rfl | (congr 1; omega) | (simp; done)) (Sub.consE rfl (by first | rfl | (congr 1; omega) | (simp; done)) .nil)))
     · exact (SubM.row rfl rfl (by rw [List.map_append]; congr 1; simp only [List.map_cons, List.map_nil, yv]; repeat (first | omega | congr 1)) .nil)
    ·
     refine J.skip ?_
     refine JE.seqN ?_
     refine J.reg ?_
     refine WL.rd (RD.move rfl) rfl rfl ?_
     refine WL.rd (RD.move rfl) rfl rfl ?_
     refine WL.rd (RD.add rfl rfl (by omega) (by omega)) rfl rfl ?_
     refine WL.rd (RD.convB rfl) rfl rfl ?_
     refine WL.efS (EF.build1 rfl) rfl rfl ?_
     intro v26 _
     refine WL.efS (EF.append rfl rfl (by omega) rfl rfl rfl) rfl rfl ?_
     intro v27 _
     refine WL.rd (RD.assign rfl) rfl rfl ?_
     refine WL.nil ?_
     refine JE.blockN ?_
     refine JE.seqN ?_
     refine J.reg ?_
     refine WL.rd (RD.move rfl) rfl rfl ?_
     refine WL.rd (RD.quoI rfl rfl (by decide) (by omega) (by omega)) rfl rfl ?_
     refine WL.rd (RD.assign rfl) rfl rfl ?_
     refine WL.nil ?_
     refine JE.cutN ⟨_, ?_, r.tdiv 10, v27, o ++ [UInt8.ofNat (48 + r.natAbs % 10)], rfl, ?_, rfl, rfl⟩ ?_ ?_
     · omega
     · exact ⟨by rw [hq, List.reverse_append, ← List.append_assoc, List.reverse_singleton, ← dg_pos r.natAbs (by omega)]; exact hI.1, by omega, hI.2.2⟩
     · exact (Sub.consE rfl (by first | rfl | (congr 1; omega) | (simp; done)) (Sub.consE rfl (by first | rfl | (congr 1; omega) | (simp; done)) (Sub.consE rfl (by first | rfl | (congr 1; omega) | (simp; done)) .nil)))
     · exact (SubM.row rfl rfl (by rw [List.map_append]; congr 1; simp only [List.map_cons, List.map_nil, yv]; repeat (first | omega | congr 1)) .nil)
   ·
    refine J.exit ?_
    refine JE.seqX ?_
    refine JE.cutX ?_
    refine JE.blockHit ?_
    refine JE.seqN ?_
    refine J.cut (fun ee mm => ∃ (v : Value), ∃ (o : List UInt8), ((o.reverse = fmtInt n)) ∧ ee = [(3, v)] ∧ mm = [.row v 5 1 (o.map yv)]) ?_ ?_
    ·
     refine J.seq ?_
     refine J.reg ?_
     refine WL.rd (RD.move rfl) rfl rfl ?_
     refine WL.rd (RD.lss rfl rfl) rfl rfl ?_
     refine WL.nil ?_
     refine JE.seqN ?_
     refine J.condP rfl (fun hc29 => ?_) (fun hc29 => ?_)
     ·
      refine J.reg ?_
      refine WL.rd (RD.move rfl) rfl rfl ?_
      refine WL.efS (EF.build1 rfl) rfl rfl ?_
      intro v31 _
      refine WL.efS (EF.append rfl rfl (by omega) rfl rfl rfl) rfl rfl ?_
      intro v32 _
      refine WL.rd (RD.assign rfl) rfl rfl ?_
      refine WL.nil ?_
      refine JE.cutN ⟨v32, o ++ [45], ?_, rfl, rfl⟩ ?_ ?_
      · have := fmt_cut n o hI.2.2 (by rw [hI.1, show r.natAbs = 0 by omega, dg_zero, List.nil_append]); rwa [if_pos hc29] at this
      · exact (Sub.consE rfl (by first | rfl | (congr 1; omega) | (simp; done)) .nil)
      · exact (SubM.row rfl rfl (by rw [List.map_append]; rfl) .nil)
     ·
      refine J.skip ?_
      refine JE.cutN ⟨v, o, ?_, rfl, rfl⟩ ?_ ?_
      · have := fmt_cut n o hI.2.2 (by rw [hI.1, show r.natAbs = 0 by omega, dg_zero, List.nil_append]); rwa [if_neg hc29] at this
      · exact (Sub.consE rfl (by first | rfl | (congr 1; omega) | (simp; done)) .nil)
      · exact (SubM.row rfl rfl (by first | rfl | (simp [iv, bv, yv, tv, sv]; done)) .nil)
    ·
     rintro _ _ ⟨v, o, hC, rfl, rfl⟩
     have hfl := fmtInt_len n hn
     rw [← hC, List.length_reverse] at hfl
     refine J.seq ?_
     refine J.seq ?_
     refine J.reg ?_
     refine WL.rd (RD.move rfl) rfl rfl ?_
     refine WL.rd (RD.lenR rfl) rfl rfl ?_
     refine WL.rd (RD.sub rfl rfl (by omega) (by omega)) rfl rfl ?_
     refine WL.rd (RD.assign rfl) rfl rfl ?_
     refine WL.rd (RD.assign rfl) rfl rfl ?_
     refine WL.nil ?_
     refine JE.seqN ?_
     refine J.block ?_
     refine J.loop (fun gg ee mm => ∃ (k : Nat), gg = o.length - k ∧ ((True)) ∧ ee = [(3, v), (6, .int .i64 (k : Int)), (7, .int .i64 ((o.length : Int) - 1 - (k : Int)))] ∧ mm = [.row v 5 1 ((revk k o).map yv)]) _ ⟨0, rfl, ?_, rfl, rfl⟩ ?_ ?_ ?_
     · first | omega | trivial | (refine ⟨?_, ?_⟩ <;> first | omega | rfl | simp)
     · exact (Sub.consE rfl (by first | rfl | (congr 1; omega) | (simp; done)) (Sub.consE rfl (by first | rfl | (congr 1; omega) | (simp; done)) (Sub.consE rfl (by congr 1; omega) .nil)))
     · exact (SubM.row rfl rfl (by rw [revk_zero]) .nil)
     ·
      rintro g _ _ ⟨k, rfl, -, rfl, rfl⟩
      have hrl := revk_len k o
      refine J.seq ?_
      refine J.seq ?_
      refine J.reg ?_
      refine WL.rd (RD.move rfl) rfl rfl ?_
      refine WL.rd (RD.move rfl) rfl rfl ?_
      refine WL.rd (RD.lss rfl rfl) rfl rfl ?_
      refine WL.nil ?_
      refine JE.seqN ?_
      refine J.condP rfl (fun hc38 => ?_) (fun hc38 => ?_)
      ·
       refine J.skip ?_
       refine JE.seqN ?_
       refine J.seq ?_
       refine J.block ?_
       refine J.anyAll [13, 14, 15] ?_
       refine WA.takeP 0 rfl (RDP.of fun _ => RD.move rfl) rfl (by kernel_rfl) rfl ?_
       refine WA.takeP 1 rfl (RDP.of fun _ => RD.move rfl) rfl (by kernel_rfl) rfl ?_
       refine WA.takeP 2 rfl (RDP.of fun _ => RD.move rfl) rfl (by kernel_rfl) rfl ?_
       refine WA.takeP 3 rfl (RDP.of fun _ => RD.move rfl) rfl (by kernel_rfl) rfl ?_
       refine WA.takeP 4 rfl (RDP.of fun _ => RD.move rfl) rfl (by kernel_rfl) rfl ?_
       refine WA.takeP 5 rfl (RDP.of fun _ => RD.move rfl) rfl (by kernel_rfl) rfl ?_
       refine WA.takeP 6 rfl (RDP.idx (j := o.length - 1 - k) (hj := ⟨by omega⟩) rfl rfl (by omega) rfl) rfl (by kernel_rfl) rfl ?_
       refine WA.take 7 rfl (RD.loadE rfl (by omega) rfl) rfl (by kernel_rfl) rfl ?_
       refine WA.takeP 8 rfl (RDP.of fun _ => RD.move rfl) rfl (by kernel_rfl) rfl ?_
       refine WA.takeP 9 rfl (RDP.of fun _ => RD.move rfl) rfl (by kernel_rfl) rfl ?_
       refine WA.takeP 10 rfl (RDP.idx rfl rfl (by omega) rfl) rfl (by kernel_rfl) rfl ?_
       refine WA.take 11 rfl (RD.loadE rfl (by omega) rfl) rfl (by kernel_rfl) rfl ?_
       refine WA.takeP 12 rfl (RDP.idx rfl rfl (by omega) rfl) rfl (by kernel_rfl) rfl ?_
       refine WA.one (i := 13) (by kernel_rfl) ?_
       refine WAi.efNL rfl (EF.storeE rfl rfl (by omega) rfl) rfl rfl ?_
       rintro ⟨⟩ -
       refine WB.takeP 14 rfl (RDP.idx (j := o.length - 1 - k) (hj := ⟨by omega⟩) rfl rfl (by rw [hrl]; omega) rfl) rfl (by kernel_rfl) rfl ?_
       refine WB.efN (i := 15) (by kernel_rfl) rfl (EF.storeE rfl rfl (by omega) rfl) rfl rfl ?_
       rintro ⟨⟩ -
       refine WB.done (by kernel_rfl) ?_
       refine JE.blockN ?_
       refine JE.seqN ?_
       refine J.reg ?_
       refine WL.rd (RD.move rfl) rfl rfl ?_
       refine WL.rd (RD.add rfl rfl (by omega) (by omega)) rfl rfl ?_
       refine WL.rd (RD.move rfl) rfl rfl ?_
       refine WL.rd (RD.sub rfl rfl (by omega) (by omega)) rfl rfl ?_
       refine WL.rd (RD.assign rfl) rfl rfl ?_
       refine WL.rd (RD.assign rfl) rfl rfl ?_
       refine WL.nil ?_
       refine JE.cutN ⟨_, ?_, k + 1, rfl, ?_, rfl, rfl⟩ ?_ ?_
       · omega
       · trivial
       · exact (Sub.consE rfl (by first | rfl | (congr 1; omega) | (simp; done)) (Sub.consE rfl (by first | rfl | (congr 1; omega) | (simp; done)) (Sub.consE rfl (by congr 1; omega) .nil)))
       · exact (SubM.row rfl rfl (by rw [← revk_step k o (by omega), List.map_set, List.map_set]; rfl) .nil)
      ·
       refine J.exit ?_
       refine JE.seqX ?_
       refine JE.cutX ?_
       refine JE.blockHit ?_
       refine JE.seqN ?_
       refine J.seq ?_
       refine J.reg ?_
       refine WL.rd (RD.move rfl) rfl rfl ?_
       refine WL.rd (RD.toStr (l := revk k o) rfl rfl rfl) rfl rfl ?_
       refine WL.rd (RD.assign rfl) rfl rfl ?_
       refine WL.nil ?_
       refine JE.seqN ?_
       refine J.ret ?_
       refine JE.ret rfl (.tmp rfl .nil) (fun w hS => ?_)
       exact CS.fin hS (by rw [revk_end k o (by omega), hC]; rfl)

end Go.Proofs.Ytlcijjkbgcllfaa
