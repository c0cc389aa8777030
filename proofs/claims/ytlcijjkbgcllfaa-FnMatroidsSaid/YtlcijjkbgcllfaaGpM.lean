/- Contracts of functions of the program, each walked once; written by a program of our own. -/
import Derived.Test.YtlcijjkbgcllfaaGoM
namespace Go.Proofs.Ytlcijjkbgcllfaa
open Go Go.RowKit
set_option maxRecDepth 4000

theorem l5Without_c (vs : Value) (s : List Int) (x : Int) (w : World) (hrs : Rd w vs 1 (s.map iv)) (hls : s.length ≤ 1048576) :
    CN Try.prog 144 [vs, .int .i64 x] w Value (fun _ => True) (fun u => u) (fun u => [.row u 3 1 ((s.filter (fun y => decide (y ≠ x))).map iv)]) := by
 have hl_s : s.length ≤ 9223372036854775807 := (by obtain ⟨_, _, _, hh, _⟩ := hrs.shape; simpa using hh)
 refine calls_of_J (mu := (fun _ => False)) (m := [.ro vs 1 (s.map iv)]) (e := [(0, vs), (1, .int .i64 x)]) Try.func144 rfl rfl (.cons rfl (.cons rfl .nil)) (((St.init _ _).ro0 hrs (by decide))) ?_
 refine J.seq ?_
 refine J.reg ?_
 refine WL.rd (RD.assign rfl) rfl rfl ?_
 refine WL.nil ?_
 refine JE.seqN ?_
 refine J.seq ?_
 refine J.reg ?_
 refine WL.efS (EF.build0) rfl rfl ?_
 intro v7 _
 refine WL.rd (RD.assign rfl) rfl rfl ?_
 refine WL.nil ?_
 refine JE.seqN ?_
 refine J.seq ?_
 refine J.seq ?_
 refine J.reg ?_
 refine WL.rd (RD.assign rfl) rfl rfl ?_
 refine WL.nil ?_
 refine JE.seqN ?_
 refine J.block ?_
 refine J.loop (fun gg ee mm => ∃ (c : Nat), ∃ (u : Value), gg = s.length - c ∧ ((c ≤ s.length)) ∧ ee = [(5, u), (6, .int .i64 (c : Int)), (0, vs), (1, .int .i64 x)] ∧ mm = [.row u 3 1 ((woL s x c).map iv), .ro vs 1 (s.map iv)]) _ ⟨0, v7, rfl, ?_, rfl, rfl⟩ ?_ ?_ ?_
 · omega
 · exact (Sub.consE rfl (by first | rfl | (congr 1; omega) | (simp; done)) (Sub.consE rfl (by first | rfl | (congr 1; omega) | (simp; done)) (Sub.consE rfl (by first | rfl | (congr 1; omega) | (simp; done)) (Sub.consE rfl (by first | rfl | (congr 1; omega) | (simp; done)) .nil))))
 · exact (SubM.row rfl rfl (by first | rfl | (simp [iv, bv, yv, tv, sv]; done)) (SubM.ro rfl (by first | rfl | (simp [iv, bv, yv, tv, sv]; done)) .nil))
 ·
  rintro g _ _ ⟨c, u, rfl, hI, rfl, rfl⟩
  have hwl : (woL s x c).length ≤ c := filt_len s c _
  refine J.seq ?_
  refine J.seq ?_
  refine J.reg ?_
  refine WL.rd (RD.move rfl) rfl rfl ?_
  refine WL.rd (RD.move rfl) rfl rfl ?_
  refine WL.rd (RD.lenR rfl) rfl rfl ?_
  refine WL.rd (RD.lss rfl rfl) rfl rfl ?_
  refine WL.nil ?_
  refine JE.seqN ?_
  refine J.condP rfl (fun hc11 => ?_) (fun hc11 => ?_)
  ·
   refine J.skip ?_
   refine JE.seqN ?_
   refine J.seq ?_
   refine J.block ?_
   refine J.seq ?_
   refine J.reg ?_
   refine WL.rd (RD.move rfl) rfl rfl ?_
   refine WL.rd (RD.move rfl) rfl rfl ?_
   refine WL.rd (RD.idx rfl rfl (by omega) rfl) rfl rfl ?_
   refine WL.rd (RD.loadE rfl (by omega) rfl) rfl rfl ?_
   refine WL.rd (RD.move rfl) rfl rfl ?_
   refine WL.rd (RD.neq rfl rfl) rfl rfl ?_
   refine WL.nil ?_
   refine JE.seqN ?_
   refine J.condP rfl (fun hc19 => ?_) (fun hc19 => ?_)
   ·
    refine J.reg ?_
    refine WL.rd (RD.move rfl) rfl rfl ?_
    refine WL.rd (RD.move rfl) rfl rfl ?_
    refine WL.rd (RD.move rfl) rfl rfl ?_
    refine WL.rd (RD.idx rfl rfl (by omega) rfl) rfl rfl ?_
    refine WL.rd (RD.loadE rfl (by omega) rfl) rfl rfl ?_
    refine WL.efS (EF.build1 rfl) rfl rfl ?_
    intro v25 _
    refine WL.efS (EF.append rfl rfl (by omega) rfl rfl rfl) rfl rfl ?_
    intro v26 _
    refine WL.rd (RD.assign rfl) rfl rfl ?_
    refine WL.nil ?_
    refine JE.blockN ?_
    refine JE.seqN ?_
    refine J.reg ?_
    refine WL.rd (RD.move rfl) rfl rfl ?_
    refine WL.rd (RD.add rfl rfl (by omega) (by omega)) rfl rfl ?_
    refine WL.rd (RD.assign rfl) rfl rfl ?_
    refine WL.nil ?_
    refine JE.cutN ⟨_, ?_, c + 1, v26, rfl, ?_, rfl, rfl⟩ ?_ ?_
    · omega
    · omega
    · exact (Sub.consE rfl (by first | rfl | (congr 1; omega) | (simp; done)) (Sub.consE rfl (by first | rfl | (congr 1; omega) | (simp; done)) (Sub.consE rfl (by first | rfl | (congr 1; omega) | (simp; done)) (Sub.consE rfl (by first | rfl | (congr 1; omega) | (simp; done)) .nil))))
    · exact (SubM.row rfl rfl (by first | rfl | (unfold woL; rw [filt_yes (fun y => decide (y ≠ x)) (by omega) (decide_eq_true hc19)])) (SubM.ro rfl (by first | rfl | (unfold woL; rw [filt_yes (fun y => decide (y ≠ x)) (by omega) (decide_eq_true hc19)])) .nil))
   ·
    refine J.skip ?_
    refine JE.blockN ?_
    refine JE.seqN ?_
    refine J.reg ?_
    refine WL.rd (RD.move rfl) rfl rfl ?_
    refine WL.rd (RD.add rfl rfl (by omega) (by omega)) rfl rfl ?_
    refine WL.rd (RD.assign rfl) rfl rfl ?_
    refine WL.nil ?_
    refine JE.cutN ⟨_, ?_, c + 1, u, rfl, ?_, rfl, rfl⟩ ?_ ?_
    · omega
    · omega
    · exact (Sub.consE rfl (by first | rfl | (congr 1; omega) | (simp; done)) (Sub.consE rfl (by first | rfl | (congr 1; omega) | (simp; done)) (Sub.consE rfl (by first | rfl | (congr 1; omega) | (simp; done)) (Sub.consE rfl (by first | rfl | (congr 1; omega) | (simp; done)) .nil))))
    · exact (SubM.row rfl rfl (by first | rfl | (unfold woL; rw [filt_no (fun y => decide (y ≠ x)) (by omega) (decide_eq_false hc19)])) (SubM.ro rfl (by first | rfl | (unfold woL; rw [filt_no (fun y => decide (y ≠ x)) (by omega) (decide_eq_false hc19)])) .nil))
  ·
   refine J.exit ?_
   refine JE.seqX ?_
   refine JE.cutX ?_
   refine JE.blockHit ?_
   refine JE.seqN ?_
   refine J.seq ?_
   refine J.reg ?_
   refine WL.rd (RD.move rfl) rfl rfl ?_
   refine WL.rd (RD.assign rfl) rfl rfl ?_
   refine WL.nil ?_
   refine JE.seqN ?_
   refine J.ret ?_
   refine JE.ret rfl (.tmp rfl .nil) (fun w hS => ?_)
   exact CN.fin hS u rfl trivial (SubM.row rfl rfl (by unfold woL; rw [List.take_of_length_le (show s.length ≤ c by omega)]) .nil) (by simp [En.rdb])
theorem l5With_c (vs : Value) (s : List Int) (x : Int) (w : World) (hrs : Rd w vs 1 (s.map iv)) (hls : s.length ≤ 1048576) :
    CN Try.prog 142 [vs, .int .i64 x] w Value (fun _ => True) (fun u => u) (fun u => [.row u 3 1 ((withL s x).map iv)]) := by
 have hl_s : s.length ≤ 9223372036854775807 := (by obtain ⟨_, _, _, hh, _⟩ := hrs.shape; simpa using hh)
 refine calls_of_J (mu := (fun _ => False)) (m := [.ro vs 1 (s.map iv)]) (e := [(0, vs), (1, .int .i64 x)]) Try.func142 rfl rfl (.cons rfl (.cons rfl .nil)) (((St.init _ _).ro0 hrs (by decide))) ?_
 refine J.seq ?_
 refine J.reg ?_
 refine WL.rd (RD.assign rfl) rfl rfl ?_
 refine WL.nil ?_
 refine JE.seqN ?_
 refine J.seq ?_
 refine J.reg ?_
 refine WL.efS (EF.build0) rfl rfl ?_
 intro v8 _
 refine WL.rd (RD.assign rfl) rfl rfl ?_
 refine WL.nil ?_
 refine JE.seqN ?_
 refine J.seq ?_
 refine J.reg ?_
 refine WL.rd (RD.assign rfl) rfl rfl ?_
 refine WL.nil ?_
 refine JE.seqN ?_
 refine J.seq ?_
 refine J.seq ?_
 refine J.reg ?_
 refine WL.rd (RD.assign rfl) rfl rfl ?_
 refine WL.nil ?_
 refine JE.seqN ?_
 refine J.block ?_
 refine J.loop (fun gg ee mm => ∃ (c : Nat), ∃ (p : Bool), ∃ (out : List Int), ∃ (u : Value), gg = s.length - c ∧ ((c ≤ s.length) ∧ (out.length ≤ c + 1 ∧ (p = false → out.length ≤ c)) ∧ (wiR x p out (s.drop c) = withL s x)) ∧ ee = [(5, u), (6, .bool p), (7, .int .i64 (c : Int)), (0, vs), (1, .int .i64 x)] ∧ mm = [.row u 3 1 ((out).map iv), .ro vs 1 (s.map iv)]) _ ⟨0, false, [], v8, rfl, ?_, rfl, rfl⟩ ?_ ?_ ?_
 · exact ⟨by omega, ⟨by simp, fun _ => by simp⟩, rfl⟩
 · exact (Sub.consE rfl (by first | rfl | (congr 1; omega) | (simp; done)) (Sub.consE rfl (by first | rfl | (congr 1; omega) | (simp; done)) (Sub.consE rfl (by first | rfl | (congr 1; omega) | (simp; done)) (Sub.consE rfl (by first | rfl | (congr 1; omega) | (simp; done)) (Sub.consE rfl (by first | rfl | (congr 1; omega) | (simp; done)) .nil)))))
 · exact (SubM.row rfl rfl (by first | rfl | (simp [iv, bv, yv, tv, sv]; done)) (SubM.ro rfl (by first | rfl | (simp [iv, bv, yv, tv, sv]; done)) .nil))
 ·
  rintro g _ _ ⟨c, p, out, u, rfl, hI, rfl, rfl⟩
  have hol1 := hI.2.1.1
  refine J.seq ?_
  refine J.seq ?_
  refine J.reg ?_
  refine WL.rd (RD.move rfl) rfl rfl ?_
  refine WL.rd (RD.move rfl) rfl rfl ?_
  refine WL.rd (RD.lenR rfl) rfl rfl ?_
  refine WL.rd (RD.lss rfl rfl) rfl rfl ?_
  refine WL.nil ?_
  refine JE.seqN ?_
  refine J.condP rfl (fun hc12 => ?_) (fun hc12 => ?_)
  ·
   refine J.skip ?_
   refine JE.seqN ?_
   refine J.seq ?_
   refine J.block ?_
   refine J.seq ?_
   refine J.seq ?_
   refine J.reg ?_
   refine WL.rd (RD.move rfl) rfl rfl ?_
   refine WL.rd (RD.move rfl) rfl rfl ?_
   refine WL.rd (RD.idx rfl rfl (by omega) rfl) rfl rfl ?_
   refine WL.rd (RD.loadE rfl (by omega) rfl) rfl rfl ?_
   refine WL.rd (RD.move rfl) rfl rfl ?_
   refine WL.rd (RD.eql rfl rfl) rfl rfl ?_
   refine WL.nil ?_
   refine JE.seqN ?_
   refine J.condP rfl (fun hc20 => ?_) (fun hc20 => ?_)
   ·
    refine J.reg ?_
    refine WL.rd (RD.assign rfl) rfl rfl ?_
    refine WL.nil ?_
    refine JE.seqN ?_
    refine J.seq ?_
    refine J.seq ?_
    refine J.reg ?_
    refine WL.rd (RD.move rfl) rfl rfl ?_
    refine WL.rd (RD.move rfl) rfl rfl ?_
    refine WL.rd (RD.idx rfl rfl (by omega) rfl) rfl rfl ?_
    refine WL.rd (RD.loadE rfl (by omega) rfl) rfl rfl ?_
    refine WL.rd (RD.move rfl) rfl rfl ?_
    refine WL.rd (RD.gtr rfl rfl) rfl rfl ?_
    refine WL.rd (RD.move rfl) rfl rfl ?_
    refine WL.caseP 27 rfl (fun hg27 => ?_) (fun hg27 => ?_)
    ·
     refine WL.rd (RD.move rfl) rfl rfl ?_
     refine WL.rd (RD.notT rfl) rfl rfl ?_
     refine WL.rd (RD.pickT rfl rfl) rfl rfl ?_
     refine WL.nil ?_
     refine JE.seqN ?_
     refine J.condF rfl ?_
     refine J.skip ?_
     refine JE.seqN ?_
     refine J.reg ?_
     refine WL.rd (RD.move rfl) rfl rfl ?_
     refine WL.rd (RD.move rfl) rfl rfl ?_
     refine WL.rd (RD.move rfl) rfl rfl ?_
     refine WL.rd (RD.idx rfl rfl (by omega) rfl) rfl rfl ?_
     refine WL.rd (RD.loadE rfl (by omega) rfl) rfl rfl ?_
     refine WL.efS (EF.build1 rfl) rfl rfl ?_
     intro v40 _
     refine WL.efS (EF.append rfl rfl (by omega) rfl rfl rfl) rfl rfl ?_
     intro v41 _
     refine WL.rd (RD.assign rfl) rfl rfl ?_
     refine WL.nil ?_
     refine JE.blockN ?_
     refine JE.seqN ?_
     refine J.reg ?_
     refine WL.rd (RD.move rfl) rfl rfl ?_
     refine WL.rd (RD.add rfl rfl (by omega) (by omega)) rfl rfl ?_
     refine WL.rd (RD.assign rfl) rfl rfl ?_
     refine WL.nil ?_
     refine JE.cutN ⟨_, ?_, c + 1, true, (out ++ [(s.getD c default)]), v41, rfl, ?_, rfl, rfl⟩ ?_ ?_
     · omega
     · have h9 := wi_go (s := s) (out := out) (x := x) (c := c) (p := p) (by omega) (fun hh => by rw [decide_eq_true hc20, Bool.or_true] at hh; exact absurd hh.1 (by decide)); rw [decide_eq_true hc20, Bool.or_true] at h9; exact ⟨by omega, ⟨by simp; omega, fun h => by cases h⟩, by rw [h9]; exact hI.2.2⟩
     · exact (Sub.consE rfl (by first | rfl | (congr 1; omega) | (simp; done)) (Sub.consE rfl (by first | rfl | (congr 1; omega) | (simp; done)) (Sub.consE rfl (by first | rfl | (congr 1; omega) | (simp; done)) (Sub.consE rfl (by first | rfl | (congr 1; omega) | (simp; done)) (Sub.consE rfl (by first | rfl | (congr 1; omega) | (simp; done)) .nil)))))
     · exact (SubM.row rfl rfl (by first | rfl | (simp [iv, bv, yv, tv, sv]; done)) (SubM.ro rfl (by first | rfl | (simp [iv, bv, yv, tv, sv]; done)) .nil))
    ·
     refine WL.noS rfl rfl ?_
     refine WL.noS rfl rfl ?_
     refine WL.rd (RD.pickF rfl rfl) rfl rfl ?_
     refine WL.nil ?_
     refine JE.seqN ?_
     refine J.condF rfl ?_
     refine J.skip ?_
     refine JE.seqN ?_
     refine J.reg ?_
     refine WL.rd (RD.move rfl) rfl rfl ?_
     refine WL.rd (RD.move rfl) rfl rfl ?_
     refine WL.rd (RD.move rfl) rfl rfl ?_
     refine WL.rd (RD.idx rfl rfl (by omega) rfl) rfl rfl ?_
     refine WL.rd (RD.loadE rfl (by omega) rfl) rfl rfl ?_
     refine WL.efS (EF.build1 rfl) rfl rfl ?_
     intro v40 _
     refine WL.efS (EF.append rfl rfl (by omega) rfl rfl rfl) rfl rfl ?_
     intro v41 _
     refine WL.rd (RD.assign rfl) rfl rfl ?_
     refine WL.nil ?_
     refine JE.blockN ?_
     refine JE.seqN ?_
     refine J.reg ?_
     refine WL.rd (RD.move rfl) rfl rfl ?_
     refine WL.rd (RD.add rfl rfl (by omega) (by omega)) rfl rfl ?_
     refine WL.rd (RD.assign rfl) rfl rfl ?_
     refine WL.nil ?_
     refine JE.cutN ⟨_, ?_, c + 1, true, (out ++ [(s.getD c default)]), v41, rfl, ?_, rfl, rfl⟩ ?_ ?_
     · omega
     · have h9 := wi_go (s := s) (out := out) (x := x) (c := c) (p := p) (by omega) (fun hh => by rw [decide_eq_true hc20, Bool.or_true] at hh; exact absurd hh.1 (by decide)); rw [decide_eq_true hc20, Bool.or_true] at h9; exact ⟨by omega, ⟨by simp; omega, fun h => by cases h⟩, by rw [h9]; exact hI.2.2⟩
     · exact (Sub.consE rfl (by first | rfl | (congr 1; omega) | (simp; done)) (Sub.consE rfl (by first | rfl | (congr 1; omega) | (simp; done)) (Sub.consE rfl (by first | rfl | (congr 1; omega) | (simp; done)) (Sub.consE rfl (by first | rfl | (congr 1; omega) | (simp; done)) (Sub.consE rfl (by first | rfl | (congr 1; omega) | (simp; done)) .nil)))))
     · exact (SubM.row rfl rfl (by first | rfl | (simp [iv, bv, yv, tv, sv]; done)) (SubM.ro rfl (by first | rfl | (simp [iv, bv, yv, tv, sv]; done)) .nil))
   ·
    refine J.skip ?_
    refine JE.seqN ?_
    refine J.seq ?_
    refine J.seq ?_
    refine J.reg ?_
    refine WL.rd (RD.move rfl) rfl rfl ?_
    refine WL.rd (RD.move rfl) rfl rfl ?_
    refine WL.rd (RD.idx rfl rfl (by omega) rfl) rfl rfl ?_
    refine WL.rd (RD.loadE rfl (by omega) rfl) rfl rfl ?_
    refine WL.rd (RD.move rfl) rfl rfl ?_
    refine WL.rd (RD.gtr rfl rfl) rfl rfl ?_
    refine WL.rd (RD.move rfl) rfl rfl ?_
    refine WL.caseP 27 rfl (fun hg27 => ?_) (fun hg27 => ?_)
    ·
     refine WL.rd (RD.move rfl) rfl rfl ?_
     refine WL.rd (RD.not rfl) rfl rfl ?_
     refine WL.rd (RD.pickT rfl rfl) rfl rfl ?_
     refine WL.nil ?_
     refine JE.seqN ?_
     refine J.cond rfl (fun hc30 => ?_) (fun hc30 => ?_)
     ·
      refine J.seq ?_
      refine J.reg ?_
      refine WL.rd (RD.move rfl) rfl rfl ?_
      refine WL.rd (RD.move rfl) rfl rfl ?_
      refine WL.efS (EF.build1 rfl) rfl rfl ?_
      intro v33 _
      refine WL.efS (EF.append rfl rfl (by omega) rfl rfl rfl) rfl rfl ?_
      intro v34 _
      refine WL.rd (RD.assign rfl) rfl rfl ?_
      refine WL.nil ?_
      refine JE.seqN ?_
      refine J.reg ?_
      refine WL.rd (RD.assign rfl) rfl rfl ?_
      refine WL.nil ?_
      refine JE.seqN ?_
      refine J.reg ?_
      refine WL.rd (RD.move rfl) rfl rfl ?_
      refine WL.rd (RD.move rfl) rfl rfl ?_
      refine WL.rd (RD.move rfl) rfl rfl ?_
      refine WL.rd (RD.idx rfl rfl (by omega) rfl) rfl rfl ?_
      refine WL.rd (RD.loadE rfl (by omega) rfl) rfl rfl ?_
      refine WL.efS (EF.build1 rfl) rfl rfl ?_
      intro v40 _
      refine WL.efS (EF.append rfl rfl (by omega) rfl rfl rfl) rfl rfl ?_
      intro v41 _
      refine WL.rd (RD.assign rfl) rfl rfl ?_
      refine WL.nil ?_
      refine JE.blockN ?_
      refine JE.seqN ?_
      refine J.reg ?_
      refine WL.rd (RD.move rfl) rfl rfl ?_
      refine WL.rd (RD.add rfl rfl (by omega) (by omega)) rfl rfl ?_
      refine WL.rd (RD.assign rfl) rfl rfl ?_
      refine WL.nil ?_
      refine JE.cutN ⟨_, ?_, c + 1, true, (out ++ [x] ++ [(s.getD c default)]), v41, rfl, ?_, rfl, rfl⟩ ?_ ?_
      · omega
      · have hp : p = false := (by simpa using hc30); have hol := hI.2.1.2 hp; have h9 := wi_put (s := s) (out := out) (x := x) (c := c) (p := p) (by omega) (by rw [hp, decide_eq_false hc20]; rfl) (by omega); exact ⟨by omega, ⟨by simp; omega, fun h => by cases h⟩, by rw [h9]; exact hI.2.2⟩
      · exact (Sub.consE rfl (by first | rfl | (congr 1; omega) | (simp; done)) (Sub.consE rfl (by first | rfl | (congr 1; omega) | (simp; done)) (Sub.consE rfl (by first | rfl | (congr 1; omega) | (simp; done)) (Sub.consE rfl (by first | rfl | (congr 1; omega) | (simp; done)) (Sub.consE rfl (by first | rfl | (congr 1; omega) | (simp; done)) .nil)))))
      · exact (SubM.row rfl rfl (by first | rfl | (simp [iv, bv, yv, tv, sv]; done)) (SubM.ro rfl (by first | rfl | (simp [iv, bv, yv, tv, sv]; done)) .nil))
     ·
      refine J.skip ?_
      refine JE.seqN ?_
      refine J.reg ?_
      refine WL.rd (RD.move rfl) rfl rfl ?_
      refine WL.rd (RD.move rfl) rfl rfl ?_
      refine WL.rd (RD.move rfl) rfl rfl ?_
      refine WL.rd (RD.idx rfl rfl (by omega) rfl) rfl rfl ?_
      refine WL.rd (RD.loadE rfl (by omega) rfl) rfl rfl ?_
      refine WL.efS (EF.build1 rfl) rfl rfl ?_
      intro v40 _
      refine WL.efS (EF.append rfl rfl (by omega) rfl rfl rfl) rfl rfl ?_
      intro v41 _
      refine WL.rd (RD.assign rfl) rfl rfl ?_
      refine WL.nil ?_
      refine JE.blockN ?_
      refine JE.seqN ?_
      refine J.reg ?_
      refine WL.rd (RD.move rfl) rfl rfl ?_
      refine WL.rd (RD.add rfl rfl (by omega) (by omega)) rfl rfl ?_
      refine WL.rd (RD.assign rfl) rfl rfl ?_
      refine WL.nil ?_
      refine JE.cutN ⟨_, ?_, c + 1, p, (out ++ [(s.getD c default)]), v41, rfl, ?_, rfl, rfl⟩ ?_ ?_
      · omega
      · have hp : p = true := (by simpa using hc30); have h9 := wi_go (s := s) (out := out) (x := x) (c := c) (p := p) (by omega) (fun hh => by rw [hp] at hh; simp at hh); rw [decide_eq_false hc20, Bool.or_false] at h9; exact ⟨by omega, ⟨by simp; omega, fun h => by rw [hp] at h; cases h⟩, by rw [h9]; exact hI.2.2⟩
      · exact (Sub.consE rfl (by first | rfl | (congr 1; omega) | (simp; done)) (Sub.consE rfl (by first | rfl | (congr 1; omega) | (simp; done)) (Sub.consE rfl (by first | rfl | (congr 1; omega) | (simp; done)) (Sub.consE rfl (by first | rfl | (congr 1; omega) | (simp; done)) (Sub.consE rfl (by first | rfl | (congr 1; omega) | (simp; done)) .nil)))))
      · exact (SubM.row rfl rfl (by first | rfl | (simp [iv, bv, yv, tv, sv]; done)) (SubM.ro rfl (by first | rfl | (simp [iv, bv, yv, tv, sv]; done)) .nil))
    ·
     refine WL.noS rfl rfl ?_
     refine WL.noS rfl rfl ?_
     refine WL.rd (RD.pickF rfl rfl) rfl rfl ?_
     refine WL.nil ?_
     refine JE.seqN ?_
     refine J.condF rfl ?_
     refine J.skip ?_
     refine JE.seqN ?_
     refine J.reg ?_
     refine WL.rd (RD.move rfl) rfl rfl ?_
     refine WL.rd (RD.move rfl) rfl rfl ?_
     refine WL.rd (RD.move rfl) rfl rfl ?_
     refine WL.rd (RD.idx rfl rfl (by omega) rfl) rfl rfl ?_
     refine WL.rd (RD.loadE rfl (by omega) rfl) rfl rfl ?_
     refine WL.efS (EF.build1 rfl) rfl rfl ?_
     intro v40 _
     refine WL.efS (EF.append rfl rfl (by omega) rfl rfl rfl) rfl rfl ?_
     intro v41 _
     refine WL.rd (RD.assign rfl) rfl rfl ?_
     refine WL.nil ?_
     refine JE.blockN ?_
     refine JE.seqN ?_
     refine J.reg ?_
     refine WL.rd (RD.move rfl) rfl rfl ?_
     refine WL.rd (RD.add rfl rfl (by omega) (by omega)) rfl rfl ?_
     refine WL.rd (RD.assign rfl) rfl rfl ?_
     refine WL.nil ?_
     refine JE.cutN ⟨_, ?_, c + 1, p, (out ++ [(s.getD c default)]), v41, rfl, ?_, rfl, rfl⟩ ?_ ?_
     · omega
     · have h9 := wi_go (s := s) (out := out) (x := x) (c := c) (p := p) (by omega) (fun hh => by have := hh.2; omega); rw [decide_eq_false hc20, Bool.or_false] at h9; exact ⟨by omega, ⟨by simp; omega, fun h => by have := hI.2.1.2 h; simp; omega⟩, by rw [h9]; exact hI.2.2⟩
     · exact (Sub.consE rfl (by first | rfl | (congr 1; omega) | (simp; done)) (Sub.consE rfl (by first | rfl | (congr 1; omega) | (simp; done)) (Sub.consE rfl (by first | rfl | (congr 1; omega) | (simp; done)) (Sub.consE rfl (by first | rfl | (congr 1; omega) | (simp; done)) (Sub.consE rfl (by first | rfl | (congr 1; omega) | (simp; done)) .nil)))))
     · exact (SubM.row rfl rfl (by first | rfl | (simp [iv, bv, yv, tv, sv]; done)) (SubM.ro rfl (by first | rfl | (simp [iv, bv, yv, tv, sv]; done)) .nil))
  ·
   refine J.exit ?_
   refine JE.seqX ?_
   refine JE.cutX ?_
   refine JE.blockHit ?_
   refine JE.seqN ?_
   refine J.seq ?_
   refine J.seq ?_
   refine J.reg ?_
   refine WL.rd (RD.move rfl) rfl rfl ?_
   refine WL.rd (RD.not rfl) rfl rfl ?_
   refine WL.nil ?_
   refine JE.seqN ?_
   refine J.cond rfl (fun hc43 => ?_) (fun hc43 => ?_)
   ·
    refine J.reg ?_
    refine WL.rd (RD.move rfl) rfl rfl ?_
    refine WL.rd (RD.move rfl) rfl rfl ?_
    refine WL.efS (EF.build1 rfl) rfl rfl ?_
    intro v46 _
    refine WL.efS (EF.append rfl rfl (by omega) rfl rfl rfl) rfl rfl ?_
    intro v47 _
    refine WL.rd (RD.assign rfl) rfl rfl ?_
    refine WL.nil ?_
    refine JE.seqN ?_
    refine J.seq ?_
    refine J.reg ?_
    refine WL.rd (RD.move rfl) rfl rfl ?_
    refine WL.rd (RD.assign rfl) rfl rfl ?_
    refine WL.nil ?_
    refine JE.seqN ?_
    refine J.ret ?_
    refine JE.ret rfl (.tmp rfl .nil) (fun w hS => ?_)
    exact CN.fin hS v47 rfl trivial (SubM.row rfl rfl (by rw [← hI.2.2, wi_end (by omega), if_neg (by simpa using hc43)]) .nil) (by simp [En.rdb])
   ·
    refine J.skip ?_
    refine JE.seqN ?_
    refine J.seq ?_
    refine J.reg ?_
    refine WL.rd (RD.move rfl) rfl rfl ?_
    refine WL.rd (RD.assign rfl) rfl rfl ?_
    refine WL.nil ?_
    refine JE.seqN ?_
    refine J.ret ?_
    refine JE.ret rfl (.tmp rfl .nil) (fun w hS => ?_)
    exact CN.fin hS u rfl trivial (SubM.row rfl rfl (by rw [← hI.2.2, wi_end (by omega), if_pos (by simpa using hc43)]) .nil) (by simp [En.rdb])
theorem iBridgesOf_c (n : Int) (v : Value) (xs : List (Int × Int)) (k l : Int) (w : World) (hr : Rd w v 2 (xs.map bv)) (hk : -9223372036854775808 ≤ k ∧ k ≤ 9223372036854775807) (hl : -9223372036854775808 ≤ l ∧ l ≤ 9223372036854775807) (hlx : xs.length ≤ 1048576) :
    CN Try.prog 88 [.agg #[.int .i64 n, v], .int .i64 k, .int .i64 l] w Value (fun _ => True) (fun u => u) (fun u => [.row u 3 1 ((briI n k l xs).map iv)]) := by
 have hl_xs : xs.length ≤ 9223372036854775807 := (by obtain ⟨_, _, _, hh, _⟩ := hr.shape; simpa using hh)
 have hrr := rankI_rng n k l xs
 refine calls_of_J (mu := (fun _ => False)) (m := [.ro v 2 (xs.map bv)]) (e := [(0, .agg #[.int .i64 n, v]), (1, .int .i64 k), (2, .int .i64 l)]) Try.func88 rfl rfl (.cons rfl (.cons rfl (.cons rfl .nil))) (((St.init _ _).ro0 hr (by decide))) ?_
 refine J.seq ?_
 refine J.reg ?_
 refine WL.efS (EF.boxA rfl) rfl rfl ?_
 intro b3 _
 refine WL.rd (RD.assign rfl) rfl rfl ?_
 refine WL.nil ?_
 refine JE.seqN ?_
 refine J.seq ?_
 refine J.reg ?_
 refine WL.efS (EF.build0) rfl rfl ?_
 intro v12 _
 refine WL.rd (RD.assign rfl) rfl rfl ?_
 refine WL.nil ?_
 refine JE.seqN ?_
 refine J.seq ?_
 refine J.reg ?_
 refine WL.rd (RD.loadA rfl rfl) rfl rfl ?_
 refine WL.rd (RD.move rfl) rfl rfl ?_
 refine WL.rd (RD.move rfl) rfl rfl ?_
 refine WL.efS (EF.callS (.cons rfl (.cons rfl (.cons rfl .nil))) (fun w hS => iRankOf_c _ _ _ _ _ _ (by exact RdI.rd hS) (by first | assumption | (constructor <;> decide) | omega) (by first | assumption | (constructor <;> decide) | omega))) rfl rfl ?_
 rintro ⟨⟩ -
 refine WL.rd (RD.assign rfl) rfl rfl ?_
 refine WL.nil ?_
 refine JE.seqN ?_
 refine J.seq ?_
 refine J.seq ?_
 refine J.reg ?_
 refine WL.rd (RD.move rfl) rfl rfl ?_
 refine WL.rd (RD.lss rfl rfl) rfl rfl ?_
 refine WL.nil ?_
 refine JE.seqN ?_
 refine J.condP rfl (fun hc18 => ?_) (fun hc18 => ?_)
 ·
  refine J.seq ?_
  refine J.reg ?_
  refine WL.rd (RD.move rfl) rfl rfl ?_
  refine WL.rd (RD.assign rfl) rfl rfl ?_
  refine WL.nil ?_
  refine JE.seqN ?_
  refine J.ret ?_
  refine JE.ret rfl (.tmp rfl .nil) (fun w hS => ?_)
  exact CN.fin hS v12 rfl trivial (SubM.row rfl rfl (by unfold briI; rw [if_neg (by omega)]; rfl) .nil) (by simp [En.rdb])
 ·
  refine J.skip ?_
  refine JE.seqN ?_
  refine J.seq ?_
  refine J.seq ?_
  refine J.reg ?_
  refine WL.rd (RD.fieldC rfl rfl) rfl rfl ?_
  refine WL.rd (RD.loadC rfl rfl) rfl rfl ?_
  refine WL.rd (RD.lenR rfl) rfl rfl ?_
  refine WL.rd (RD.move rfl) rfl rfl ?_
  refine WL.nil ?_
  refine JE.seqN ?_
  refine J.block ?_
  refine J.loop (fun gg ee mm => ∃ (j : Nat), ∃ (u : Value), gg = xs.length - j ∧ ((j ≤ xs.length)) ∧ ee = [(7, u), (8, .int .i64 (rankI n k l xs)), (22, .int .i64 (xs.length : Int)), (23, .int .i64 (j : Int)), (1, .int .i64 k), (2, .int .i64 l), (3, .pointer (some ⟨b3, 0, none⟩))] ∧ mm = [.row u 3 1 ((pickIx (briF n k l xs) j).map iv), .cells b3 26 [.int .i64 n, v], .ro v 2 (xs.map bv)]) _ ⟨0, v12, rfl, ?_, rfl, rfl⟩ ?_ ?_ ?_
  · omega
  · exact (Sub.consE rfl (by first | rfl | (congr 1; omega) | (simp; done)) (Sub.consE rfl (by first | rfl | (congr 1; omega) | (simp; done)) (Sub.consE rfl (by first | rfl | (congr 1; omega) | (simp; done)) (Sub.consE rfl (by first | rfl | (congr 1; omega) | (simp; done)) (Sub.consE rfl (by first | rfl | (congr 1; omega) | (simp; done)) (Sub.consE rfl (by first | rfl | (congr 1; omega) | (simp; done)) (Sub.consE rfl (by first | rfl | (congr 1; omega) | (simp; done)) .nil)))))))
  · exact (SubM.row rfl rfl (by first | rfl | (simp [iv, bv, yv, tv, sv]; done)) (SubM.cells rfl (by first | rfl | (simp; done)) (SubM.ro rfl (by first | rfl | (simp [iv, bv, yv, tv, sv]; done)) .nil)))
  ·
   rintro g _ _ ⟨j, u, rfl, hI, rfl, rfl⟩
   have hpk := pickIx_le (briF n k l xs) j
   have hrm := rmB_len n xs (j : Int) hlx
   refine J.seq ?_
   refine J.reg ?_
   refine WL.rd (RD.lss rfl rfl) rfl rfl ?_
   refine WL.nil ?_
   refine JE.seqN ?_
   refine J.seq ?_
   refine J.condP rfl (fun hc24 => ?_) (fun hc24 => ?_)
   ·
    refine J.skip ?_
    refine JE.seqN ?_
    refine J.seq ?_
    refine J.block ?_
    refine J.seq ?_
    refine J.reg ?_
    refine WL.rd (RD.move rfl) rfl rfl ?_
    refine WL.rd (RD.assign rfl) rfl rfl ?_
    refine WL.nil ?_
    refine JE.seqN ?_
    refine J.seq ?_
    refine J.reg ?_
    refine WL.rd (RD.loadA rfl rfl) rfl rfl ?_
    refine WL.rd (RD.move rfl) rfl rfl ?_
    refine WL.efS (EF.callN (.cons rfl (.cons rfl .nil)) (fun w hS => iRemoveBar_c _ _ _ _ _ (by exact RdI.rd hS) (by omega))) rfl rfl ?_
    rintro v29 -
    refine WL.rd (RD.move rfl) rfl rfl ?_
    refine WL.rd (RD.extract rfl rfl) rfl rfl ?_
    refine WL.rd (RD.extract rfl rfl) rfl rfl ?_
    refine WL.efS (EF.allocA) rfl rfl ?_
    intro b10 _
    refine WL.efN (EF.storeA rfl rfl rfl rfl) rfl ?_
    rintro ⟨⟩ -
    refine WL.rd (RD.assign rfl) rfl rfl ?_
    refine WL.nil ?_
    refine JE.seqN ?_
    refine J.seq ?_
    refine J.reg ?_
    refine WL.rd (RD.loadA rfl rfl) rfl rfl ?_
    refine WL.rd (RD.move rfl) rfl rfl ?_
    refine WL.rd (RD.move rfl) rfl rfl ?_
    refine WL.efS (EF.callS (.cons rfl (.cons rfl (.cons rfl .nil))) (fun w hS => iRankOf_c _ _ _ _ _ _ (by exact RdI.rd hS) (by first | assumption | (constructor <;> decide) | omega) (by first | assumption | (constructor <;> decide) | omega))) rfl rfl ?_
    rintro ⟨⟩ -
    refine WL.rd (RD.move rfl) rfl rfl ?_
    refine WL.rd (RD.lss rfl rfl) rfl rfl ?_
    refine WL.nil ?_
    refine JE.seqN ?_
    refine J.condP rfl (fun hc37 => ?_) (fun hc37 => ?_)
    ·
     refine J.reg ?_
     refine WL.rd (RD.move rfl) rfl rfl ?_
     refine WL.rd (RD.move rfl) rfl rfl ?_
     refine WL.efS (EF.build1 rfl) rfl rfl ?_
     intro v40 _
     refine WL.efS (EF.append rfl rfl (by omega) rfl rfl rfl) rfl rfl ?_
     intro v41 _
     refine WL.rd (RD.assign rfl) rfl rfl ?_
     refine WL.nil ?_
     refine JE.blockN ?_
     refine JE.seqN ?_
     refine J.reg ?_
     refine WL.rd (RD.add rfl rfl (by omega) (by omega)) rfl rfl ?_
     refine WL.rd (RD.move rfl) rfl rfl ?_
     refine WL.nil ?_
     refine JE.cutN ⟨_, ?_, j + 1, v41, rfl, ?_, rfl, rfl⟩ ?_ ?_
     · omega
     · omega
     · exact (Sub.consE rfl (by first | rfl | (congr 1; omega) | (simp; done)) (Sub.consE rfl (by first | rfl | (congr 1; omega) | (simp; done)) (Sub.consE rfl (by first | rfl | (congr 1; omega) | (simp; done)) (Sub.consE rfl (by first | rfl | (congr 1; omega) | (simp; done)) (Sub.consE rfl (by first | rfl | (congr 1; omega) | (simp; done)) (Sub.consE rfl (by first | rfl | (congr 1; omega) | (simp; done)) (Sub.consE rfl (by first | rfl | (congr 1; omega) | (simp; done)) .nil)))))))
     · exact (SubM.row rfl rfl (by first | rfl | rw [pickIx_yes _ j (show (briF n k l xs) j = true from decide_eq_true hc37)]) (SubM.cells rfl (by first | rfl | rw [pickIx_yes _ j (show (briF n k l xs) j = true from decide_eq_true hc37)]) (SubM.ro rfl (by first | rfl | rw [pickIx_yes _ j (show (briF n k l xs) j = true from decide_eq_true hc37)]) .nil)))
    ·
     refine J.skip ?_
     refine JE.blockN ?_
     refine JE.seqN ?_
     refine J.reg ?_
     refine WL.rd (RD.add rfl rfl (by omega) (by omega)) rfl rfl ?_
     refine WL.rd (RD.move rfl) rfl rfl ?_
     refine WL.nil ?_
     refine JE.cutN ⟨_, ?_, j + 1, u, rfl, ?_, rfl, rfl⟩ ?_ ?_
     · omega
     · omega
     · exact (Sub.consE rfl (by first | rfl | (congr 1; omega) | (simp; done)) (Sub.consE rfl (by first | rfl | (congr 1; omega) | (simp; done)) (Sub.consE rfl (by first | rfl | (congr 1; omega) | (simp; done)) (Sub.consE rfl (by first | rfl | (congr 1; omega) | (simp; done)) (Sub.consE rfl (by first | rfl | (congr 1; omega) | (simp; done)) (Sub.consE rfl (by first | rfl | (congr 1; omega) | (simp; done)) (Sub.consE rfl (by first | rfl | (congr 1; omega) | (simp; done)) .nil)))))))
     · exact (SubM.row rfl rfl (by first | rfl | rw [pickIx_no _ j (show ¬ (briF n k l xs) j = true from fun hh => hc37 (of_decide_eq_true hh))]) (SubM.cells rfl (by first | rfl | rw [pickIx_no _ j (show ¬ (briF n k l xs) j = true from fun hh => hc37 (of_decide_eq_true hh))]) (SubM.ro rfl (by first | rfl | rw [pickIx_no _ j (show ¬ (briF n k l xs) j = true from fun hh => hc37 (of_decide_eq_true hh))]) .nil)))
   ·
    refine J.exit ?_
    refine JE.seqX ?_
    refine JE.cutX ?_
    refine JE.blockHit ?_
    refine JE.seqN ?_
    refine J.seq ?_
    refine J.reg ?_
    refine WL.rd (RD.move rfl) rfl rfl ?_
    refine WL.rd (RD.assign rfl) rfl rfl ?_
    refine WL.nil ?_
    refine JE.seqN ?_
    refine J.ret ?_
    refine JE.ret rfl (.tmp rfl .nil) (fun w hS => ?_)
    exact CN.fin hS u rfl trivial (SubM.row rfl rfl (by unfold briI; rw [if_pos (by omega), show xs.length = j by omega]) .nil) (by simp [En.rdb])
theorem sBridgesOf_c (n : Int) (v : Value) (xs : List (Int × Int)) (k l : Int) (w : World) (hr : Rd w v 2 (xs.map bv)) (hk : -9223372036854775808 ≤ k ∧ k ≤ 9223372036854775807) (hl : -9223372036854775808 ≤ l ∧ l ≤ 9223372036854775807) (hlx : xs.length ≤ 1048576) :
    CN Try.prog 89 [.agg #[.int .i64 n, v], .int .i64 k, .int .i64 l] w Value (fun _ => True) (fun u => u) (fun u => [.row u 3 1 ((briI n k l xs).map iv)]) := by
 have hl_xs : xs.length ≤ 9223372036854775807 := (by obtain ⟨_, _, _, hh, _⟩ := hr.shape; simpa using hh)
 have hrr := rankI_rng n k l xs
 refine calls_of_J (mu := (fun _ => False)) (m := [.ro v 2 (xs.map bv)]) (e := [(0, .agg #[.int .i64 n, v]), (1, .int .i64 k), (2, .int .i64 l)]) Try.func89 rfl rfl (.cons rfl (.cons rfl (.cons rfl .nil))) (((St.init _ _).ro0 hr (by decide))) ?_
 refine J.seq ?_
 refine J.reg ?_
 refine WL.efS (EF.boxA rfl) rfl rfl ?_
 intro b3 _
 refine WL.rd (RD.assign rfl) rfl rfl ?_
 refine WL.nil ?_
 refine JE.seqN ?_
 refine J.seq ?_
 refine J.reg ?_
 refine WL.efS (EF.build0) rfl rfl ?_
 intro v12 _
 refine WL.rd (RD.assign rfl) rfl rfl ?_
 refine WL.nil ?_
 refine JE.seqN ?_
 refine J.seq ?_
 refine J.reg ?_
 refine WL.rd (RD.loadA rfl rfl) rfl rfl ?_
 refine WL.rd (RD.move rfl) rfl rfl ?_
 refine WL.rd (RD.move rfl) rfl rfl ?_
 refine WL.efS (EF.callS (.cons rfl (.cons rfl (.cons rfl .nil))) (fun w hS => sRankOf_c _ _ _ _ _ _ (by exact RdI.rd hS) (by first | assumption | (constructor <;> decide) | omega) (by first | assumption | (constructor <;> decide) | omega) (by omega))) rfl rfl ?_
 rintro ⟨⟩ -
 refine WL.rd (RD.assign rfl) rfl rfl ?_
 refine WL.nil ?_
 refine JE.seqN ?_
 refine J.seq ?_
 refine J.seq ?_
 refine J.reg ?_
 refine WL.rd (RD.assign rfl) rfl rfl ?_
 refine WL.nil ?_
 refine JE.seqN ?_
 refine J.block ?_
 refine J.loop (fun gg ee mm => ∃ (j : Nat), ∃ (u : Value), gg = xs.length - j ∧ ((j ≤ xs.length) ∧ (¬ 0 ≤ rankI n k l xs → j = 0)) ∧ ee = [(7, u), (8, .int .i64 (rankI n k l xs)), (9, .int .i64 (j : Int)), (1, .int .i64 k), (2, .int .i64 l), (3, .pointer (some ⟨b3, 0, none⟩))] ∧ mm = [.row u 3 1 ((pickIx (briF n k l xs) j).map iv), .cells b3 26 [.int .i64 n, v], .ro v 2 (xs.map bv)]) _ ⟨0, v12, rfl, ?_, rfl, rfl⟩ ?_ ?_ ?_
 · exact ⟨by omega, fun _ => rfl⟩
 · exact (Sub.consE rfl (by first | rfl | (congr 1; omega) | (simp; done)) (Sub.consE rfl (by first | rfl | (congr 1; omega) | (simp; done)) (Sub.consE rfl (by first | rfl | (congr 1; omega) | (simp; done)) (Sub.consE rfl (by first | rfl | (congr 1; omega) | (simp; done)) (Sub.consE rfl (by first | rfl | (congr 1; omega) | (simp; done)) (Sub.consE rfl (by first | rfl | (congr 1; omega) | (simp; done)) .nil))))))
 · exact (SubM.row rfl rfl (by first | rfl | (simp [iv, bv, yv, tv, sv]; done)) (SubM.cells rfl (by first | rfl | (simp; done)) (SubM.ro rfl (by first | rfl | (simp [iv, bv, yv, tv, sv]; done)) .nil)))
 ·
  rintro g _ _ ⟨j, u, rfl, hI, rfl, rfl⟩
  have hpk := pickIx_le (briF n k l xs) j
  have hrm := rmB_len n xs (j : Int) hlx
  refine J.seq ?_
  refine J.seq ?_
  refine J.reg ?_
  refine WL.rd (RD.move rfl) rfl rfl ?_
  refine WL.rd (RD.fieldC rfl rfl) rfl rfl ?_
  refine WL.rd (RD.loadC rfl rfl) rfl rfl ?_
  refine WL.rd (RD.lenR rfl) rfl rfl ?_
  refine WL.rd (RD.lss rfl rfl) rfl rfl ?_
  refine WL.rd (RD.move rfl) rfl rfl ?_
  refine WL.caseP 22 rfl (fun hg22 => ?_) (fun hg22 => ?_)
  ·
   refine WL.rd (RD.move rfl) rfl rfl ?_
   refine WL.rd (RD.geq rfl rfl) rfl rfl ?_
   refine WL.rd (RD.pickT rfl rfl) rfl rfl ?_
   refine WL.nil ?_
   refine JE.seqN ?_
   refine J.condP rfl (fun hc25 => ?_) (fun hc25 => ?_)
   ·
    refine J.skip ?_
    refine JE.seqN ?_
    refine J.seq ?_
    refine J.block ?_
    refine J.seq ?_
    refine J.reg ?_
    refine WL.rd (RD.loadA rfl rfl) rfl rfl ?_
    refine WL.rd (RD.move rfl) rfl rfl ?_
    refine WL.efS (EF.callN (.cons rfl (.cons rfl .nil)) (fun w hS => sRemoveBar_c _ _ _ _ _ (by exact RdI.rd hS) (by omega))) rfl rfl ?_
    rintro v31 -
    refine WL.rd (RD.move rfl) rfl rfl ?_
    refine WL.rd (RD.extract rfl rfl) rfl rfl ?_
    refine WL.rd (RD.extract rfl rfl) rfl rfl ?_
    refine WL.efS (EF.allocA) rfl rfl ?_
    intro b10 _
    refine WL.efN (EF.storeA rfl rfl rfl rfl) rfl ?_
    rintro ⟨⟩ -
    refine WL.rd (RD.assign rfl) rfl rfl ?_
    refine WL.nil ?_
    refine JE.seqN ?_
    refine J.seq ?_
    refine J.reg ?_
    refine WL.rd (RD.loadA rfl rfl) rfl rfl ?_
    refine WL.rd (RD.move rfl) rfl rfl ?_
    refine WL.rd (RD.move rfl) rfl rfl ?_
    refine WL.efS (EF.callS (.cons rfl (.cons rfl (.cons rfl .nil))) (fun w hS => sRankOf_c _ _ _ _ _ _ (by exact RdI.rd hS) (by first | assumption | (constructor <;> decide) | omega) (by first | assumption | (constructor <;> decide) | omega) (by omega))) rfl rfl ?_
    rintro ⟨⟩ -
    refine WL.rd (RD.move rfl) rfl rfl ?_
    refine WL.rd (RD.lss rfl rfl) rfl rfl ?_
    refine WL.nil ?_
    refine JE.seqN ?_
    refine J.condP rfl (fun hc39 => ?_) (fun hc39 => ?_)
    ·
     refine J.reg ?_
     refine WL.rd (RD.move rfl) rfl rfl ?_
     refine WL.rd (RD.move rfl) rfl rfl ?_
     refine WL.efS (EF.build1 rfl) rfl rfl ?_
     intro v42 _
     refine WL.efS (EF.append rfl rfl (by omega) rfl rfl rfl) rfl rfl ?_
     intro v43 _
     refine WL.rd (RD.assign rfl) rfl rfl ?_
     refine WL.nil ?_
     refine JE.blockN ?_
     refine JE.seqN ?_
     refine J.reg ?_
     refine WL.rd (RD.move rfl) rfl rfl ?_
     refine WL.rd (RD.add rfl rfl (by omega) (by omega)) rfl rfl ?_
     refine WL.rd (RD.assign rfl) rfl rfl ?_
     refine WL.nil ?_
     refine JE.cutN ⟨_, ?_, j + 1, v43, rfl, ?_, rfl, rfl⟩ ?_ ?_
     · omega
     · exact ⟨by omega, fun h => by omega⟩
     · exact (Sub.consE rfl (by first | rfl | (congr 1; omega) | (simp; done)) (Sub.consE rfl (by first | rfl | (congr 1; omega) | (simp; done)) (Sub.consE rfl (by first | rfl | (congr 1; omega) | (simp; done)) (Sub.consE rfl (by first | rfl | (congr 1; omega) | (simp; done)) (Sub.consE rfl (by first | rfl | (congr 1; omega) | (simp; done)) (Sub.consE rfl (by first | rfl | (congr 1; omega) | (simp; done)) .nil))))))
     · exact (SubM.row rfl rfl (by first | rfl | rw [pickIx_yes _ j (show (briF n k l xs) j = true from decide_eq_true hc39)]) (SubM.cells rfl (by first | rfl | rw [pickIx_yes _ j (show (briF n k l xs) j = true from decide_eq_true hc39)]) (SubM.ro rfl (by first | rfl | rw [pickIx_yes _ j (show (briF n k l xs) j = true from decide_eq_true hc39)]) .nil)))
    ·
     refine J.skip ?_
     refine JE.blockN ?_
     refine JE.seqN ?_
     refine J.reg ?_
     refine WL.rd (RD.move rfl) rfl rfl ?_
     refine WL.rd (RD.add rfl rfl (by omega) (by omega)) rfl rfl ?_
     refine WL.rd (RD.assign rfl) rfl rfl ?_
     refine WL.nil ?_
     refine JE.cutN ⟨_, ?_, j + 1, u, rfl, ?_, rfl, rfl⟩ ?_ ?_
     · omega
     · exact ⟨by omega, fun h => by omega⟩
     · exact (Sub.consE rfl (by first | rfl | (congr 1; omega) | (simp; done)) (Sub.consE rfl (by first | rfl | (congr 1; omega) | (simp; done)) (Sub.consE rfl (by first | rfl | (congr 1; omega) | (simp; done)) (Sub.consE rfl (by first | rfl | (congr 1; omega) | (simp; done)) (Sub.consE rfl (by first | rfl | (congr 1; omega) | (simp; done)) (Sub.consE rfl (by first | rfl | (congr 1; omega) | (simp; done)) .nil))))))
     · exact (SubM.row rfl rfl (by first | rfl | rw [pickIx_no _ j (show ¬ (briF n k l xs) j = true from fun hh => hc39 (of_decide_eq_true hh))]) (SubM.cells rfl (by first | rfl | rw [pickIx_no _ j (show ¬ (briF n k l xs) j = true from fun hh => hc39 (of_decide_eq_true hh))]) (SubM.ro rfl (by first | rfl | rw [pickIx_no _ j (show ¬ (briF n k l xs) j = true from fun hh => hc39 (of_decide_eq_true hh))]) .nil)))
   ·
    refine J.exit ?_
    refine JE.seqX ?_
    refine JE.cutX ?_
    refine JE.blockHit ?_
    refine JE.seqN ?_
    refine J.seq ?_
    refine J.reg ?_
    refine WL.rd (RD.move rfl) rfl rfl ?_
    refine WL.rd (RD.assign rfl) rfl rfl ?_
    refine WL.nil ?_
    refine JE.seqN ?_
    refine J.ret ?_
    refine JE.ret rfl (.tmp rfl .nil) (fun w hS => ?_)
    exact CN.fin hS u rfl trivial (SubM.row rfl rfl (by unfold briI; by_cases h0 : 0 ≤ rankI n k l xs; (rw [if_pos h0, show xs.length = j by omega]); (rw [if_neg h0, hI.2 h0]; simp [pickIx])) .nil) (by simp [En.rdb])
  ·
   refine WL.noS rfl rfl ?_
   refine WL.noS rfl rfl ?_
   refine WL.rd (RD.pickF rfl rfl) rfl rfl ?_
   refine WL.nil ?_
   refine JE.seqN ?_
   refine J.condF rfl ?_
   refine J.exit ?_
   refine JE.seqX ?_
   refine JE.cutX ?_
   refine JE.blockHit ?_
   refine JE.seqN ?_
   refine J.seq ?_
   refine J.reg ?_
   refine WL.rd (RD.move rfl) rfl rfl ?_
   refine WL.rd (RD.assign rfl) rfl rfl ?_
   refine WL.nil ?_
   refine JE.seqN ?_
   refine J.ret ?_
   refine JE.ret rfl (.tmp rfl .nil) (fun w hS => ?_)
   exact CN.fin hS u rfl trivial (SubM.row rfl rfl (by unfold briI; by_cases h0 : 0 ≤ rankI n k l xs; (rw [if_pos h0, show xs.length = j by omega]); (rw [if_neg h0, hI.2 h0]; simp [pickIx])) .nil) (by simp [En.rdb])
theorem iClosureOf_c (n : Int) (v : Value) (xs : List (Int × Int)) (k l : Int) (vs : Value) (s : List Int) (w : World) (hr : Rd w v 2 (xs.map bv)) (hk : -9223372036854775808 ≤ k ∧ k ≤ 9223372036854775807) (hl : -9223372036854775808 ≤ l ∧ l ≤ 9223372036854775807) (hrs : Rd w vs 1 (s.map iv)) (hlx : xs.length ≤ 1048576) (hls : s.length ≤ 1048576) :
    CN Try.prog 80 [.agg #[.int .i64 n, v], .int .i64 k, .int .i64 l, vs] w Value (fun _ => True) (fun u => u) (fun u => [.row u 3 1 ((cloI n k l xs s).map iv)]) := by
 have hl_xs : xs.length ≤ 9223372036854775807 := (by obtain ⟨_, _, _, hh, _⟩ := hr.shape; simpa using hh)
 have hl_s : s.length ≤ 9223372036854775807 := (by obtain ⟨_, _, _, hh, _⟩ := hrs.shape; simpa using hh)
 refine calls_of_J (mu := (fun _ => False)) (m := [.ro v 2 (xs.map bv), .ro vs 1 (s.map iv)]) (e := [(0, .agg #[.int .i64 n, v]), (1, .int .i64 k), (2, .int .i64 l), (3, vs)]) Try.func80 rfl rfl (.cons rfl (.cons rfl (.cons rfl (.cons rfl .nil)))) ((((St.init _ _).ro0 hrs (by decide)).ro0 hr (by decide))) ?_
 refine J.seq ?_
 refine J.reg ?_
 refine WL.efS (EF.boxA rfl) rfl rfl ?_
 intro b4 _
 refine WL.rd (RD.assign rfl) rfl rfl ?_
 refine WL.nil ?_
 refine JE.seqN ?_
 refine J.seq ?_
 refine J.reg ?_
 refine WL.efS (EF.build0) rfl rfl ?_
 intro v12 _
 refine WL.rd (RD.assign rfl) rfl rfl ?_
 refine WL.nil ?_
 refine JE.seqN ?_
 refine J.seq ?_
 refine J.seq ?_
 refine J.reg ?_
 refine WL.rd (RD.loadA rfl rfl) rfl rfl ?_
 refine WL.rd (RD.move rfl) rfl rfl ?_
 refine WL.efS (EF.callS (.cons rfl (.cons rfl .nil)) (fun w hS => isSet_c _ _ _ _ _ _ (by exact RdI.rd hS) (by exact RdI.rd hS))) rfl rfl ?_
 rintro ⟨⟩ -
 refine WL.rd (RD.notP rfl) rfl rfl ?_
 refine WL.rd (RD.move rfl) rfl rfl ?_
 refine WL.caseP 17 rfl (fun hg17 => ?_) (fun hg17 => ?_)
 ·
  refine WL.noS rfl rfl ?_
  refine WL.noS rfl rfl ?_
  refine WL.noS rfl rfl ?_
  refine WL.noS rfl rfl ?_
  refine WL.rd (RD.pickT rfl rfl) rfl rfl ?_
  refine WL.nil ?_
  refine JE.seqN ?_
  refine J.condT rfl ?_
  refine J.seq ?_
  refine J.reg ?_
  refine WL.rd (RD.move rfl) rfl rfl ?_
  refine WL.rd (RD.assign rfl) rfl rfl ?_
  refine WL.nil ?_
  refine JE.seqN ?_
  refine J.ret ?_
  refine JE.ret rfl (.tmp rfl .nil) (fun w hS => ?_)
  exact CN.fin hS v12 rfl trivial (SubM.row rfl rfl (by unfold cloI; rw [if_neg (fun hh => by first | exact absurd hh.1 (by assumption) | exact absurd hh.2 (by assumption))]; rfl) .nil) (by simp [En.rdb])
 ·
  refine WL.rd (RD.move rfl) rfl rfl ?_
  refine WL.rd (RD.move rfl) rfl rfl ?_
  refine WL.efS (EF.callS (.cons rfl (.cons rfl .nil)) (fun w hS => iIsRange_c _ _ _ (by assumption))) rfl rfl ?_
  rintro ⟨⟩ -
  refine WL.rd (RD.notP rfl) rfl rfl ?_
  refine WL.rd (RD.pickF rfl rfl) rfl rfl ?_
  refine WL.nil ?_
  refine JE.seqN ?_
  refine J.condP rfl (fun hc22 => ?_) (fun hc22 => ?_)
  ·
   refine J.seq ?_
   refine J.reg ?_
   refine WL.rd (RD.move rfl) rfl rfl ?_
   refine WL.rd (RD.assign rfl) rfl rfl ?_
   refine WL.nil ?_
   refine JE.seqN ?_
   refine J.ret ?_
   refine JE.ret rfl (.tmp rfl .nil) (fun w hS => ?_)
   exact CN.fin hS v12 rfl trivial (SubM.row rfl rfl (by unfold cloI; rw [if_neg (fun hh => by first | exact absurd hh.1 (by assumption) | exact absurd hh.2 (by assumption))]; rfl) .nil) (by simp [En.rdb])
  ·
   refine J.skip ?_
   refine JE.seqN ?_
   refine J.seq ?_
   have hsn := isSt_len (Decidable.not_not.1 hg17)
   have hxn := (Decidable.not_not.1 hg17).2.2.2.1
   refine J.reg ?_
   refine WL.rd (RD.loadA rfl rfl) rfl rfl ?_
   refine WL.rd (RD.move rfl) rfl rfl ?_
   refine WL.rd (RD.move rfl) rfl rfl ?_
   refine WL.rd (RD.move rfl) rfl rfl ?_
   refine WL.efS (EF.callS (.cons rfl (.cons rfl (.cons rfl (.cons rfl .nil)))) (fun w hS => iRankOfSet_c _ _ _ _ _ _ _ _ (by exact RdI.rd hS) (by first | assumption | (constructor <;> decide) | omega) (by first | assumption | (constructor <;> decide) | omega) (by exact RdI.rd hS) (by omega))) rfl rfl ?_
   rintro ⟨⟩ -
   refine WL.rd (RD.assign rfl) rfl rfl ?_
   refine WL.nil ?_
   refine JE.seqN ?_
   refine J.seq ?_
   refine J.seq ?_
   refine J.reg ?_
   refine WL.rd (RD.fieldC rfl rfl) rfl rfl ?_
   refine WL.rd (RD.loadC rfl rfl) rfl rfl ?_
   refine WL.rd (RD.lenR rfl) rfl rfl ?_
   refine WL.rd (RD.move rfl) rfl rfl ?_
   refine WL.nil ?_
   refine JE.seqN ?_
   refine J.block ?_
   refine J.loop (fun gg ee mm => ∃ (j : Nat), ∃ (u : Value), gg = xs.length - j ∧ ((j ≤ xs.length)) ∧ ee = [(9, u), (10, .int .i64 (rsI n k l xs s)), (31, .int .i64 (xs.length : Int)), (32, .int .i64 (j : Int)), (1, .int .i64 k), (2, .int .i64 l), (3, vs), (4, .pointer (some ⟨b4, 0, none⟩))] ∧ mm = [.row u 3 1 ((pickIx (cloF n k l xs s) j).map iv), .cells b4 26 [.int .i64 n, v], .ro v 2 (xs.map bv), .ro vs 1 (s.map iv)]) _ ⟨0, v12, rfl, ?_, rfl, rfl⟩ ?_ ?_ ?_
   · omega
   · exact (Sub.consE rfl (by first | rfl | (congr 1; omega) | (simp; done)) (Sub.consE rfl (by first | rfl | (congr 1; omega) | (simp; done)) (Sub.consE rfl (by first | rfl | (congr 1; omega) | (simp; done)) (Sub.consE rfl (by first | rfl | (congr 1; omega) | (simp; done)) (Sub.consE rfl (by first | rfl | (congr 1; omega) | (simp; done)) (Sub.consE rfl (by first | rfl | (congr 1; omega) | (simp; done)) (Sub.consE rfl (by first | rfl | (congr 1; omega) | (simp; done)) (Sub.consE rfl (by first | rfl | (congr 1; omega) | (simp; done)) .nil))))))))
   · exact (SubM.row rfl rfl (by first | rfl | (simp [iv, bv, yv, tv, sv]; done)) (SubM.cells rfl (by first | rfl | (simp; done)) (SubM.ro rfl (by first | rfl | (simp [iv, bv, yv, tv, sv]; done)) (SubM.ro rfl (by first | rfl | (simp [iv, bv, yv, tv, sv]; done)) .nil))))
   ·
    rintro g _ _ ⟨j, u, rfl, hI, rfl, rfl⟩
    have hpk := pickIx_le (cloF n k l xs s) j
    refine J.seq ?_
    refine J.reg ?_
    refine WL.rd (RD.lss rfl rfl) rfl rfl ?_
    refine WL.nil ?_
    refine JE.seqN ?_
    refine J.seq ?_
    refine J.condP rfl (fun hc33 => ?_) (fun hc33 => ?_)
    ·
     refine J.skip ?_
     refine JE.seqN ?_
     refine J.seq ?_
     refine J.block ?_
     refine J.seq ?_
     refine J.reg ?_
     refine WL.rd (RD.move rfl) rfl rfl ?_
     refine WL.rd (RD.assign rfl) rfl rfl ?_
     refine WL.nil ?_
     refine JE.seqN ?_
     refine J.seq ?_
     refine J.anyAll [] ?_
     refine WA.take 0 rfl (RD.loadA rfl rfl) rfl (by kernel_rfl) rfl ?_
     refine WA.takeP 1 rfl (RDP.of fun _ => RD.move rfl) rfl (by kernel_rfl) rfl ?_
     refine WA.takeP 2 rfl (RDP.of fun _ => RD.move rfl) rfl (by kernel_rfl) rfl ?_
     refine WA.takeP 3 rfl (RDP.of fun _ => RD.move rfl) rfl (by kernel_rfl) rfl ?_
     refine WA.takeP 5 rfl (RDP.of fun _ => RD.move rfl) rfl (by kernel_rfl) rfl ?_
     refine WA.takeP 9 rfl (RDP.of fun _ => RD.move rfl) rfl (by kernel_rfl) rfl ?_
     refine WA.two (i := 4) (j := 6) (by kernel_rfl) ?_ ?_
     ·
      refine WAi.efS rfl (EF.callN (.cons rfl .nil) (fun w hS => copyInts_c _ _ _ (by exact RdI.rd hS) (by omega))) rfl rfl (fun _ => SubI.sub) ?_
      rintro v39 -
      refine WA.one (i := 6) (by kernel_rfl) ?_
      refine WAi.efS rfl (EF.build1 rfl) rfl rfl (fun _ => SubI.sub) ?_
      intro v41 _
      refine WA.one (i := 7) (by kernel_rfl) ?_
      refine WAi.efS rfl (EF.append rfl rfl (by omega) rfl rfl rfl) rfl rfl (fun _ => SubI.sub) ?_
      intro v42 _
      refine WA.one (i := 8) (by kernel_rfl) ?_
      refine WAi.efS rfl (EF.callS (.cons rfl (.cons rfl (.cons rfl (.cons rfl .nil)))) (fun w hS => iRankOfSet_c _ _ _ _ _ _ _ _ (by exact RdI.rd hS) (by first | assumption | (constructor <;> decide) | omega) (by first | assumption | (constructor <;> decide) | omega) (by exact RdI.rd hS) (by omega))) rfl rfl (fun _ => SubI.sub) ?_
      rintro ⟨⟩ -
      refine WA.takeP 10 rfl (RDP.of fun _ => RD.eql rfl rfl) rfl (by kernel_rfl) rfl ?_
      refine WA.done (by kernel_rfl) ?_
      refine JE.seqN ?_
      refine J.condP rfl (fun hc45 => ?_) (fun hc45 => ?_)
      ·
       refine J.reg ?_
       refine WL.rd (RD.move rfl) rfl rfl ?_
       refine WL.rd (RD.move rfl) rfl rfl ?_
       refine WL.efS (EF.build1 rfl) rfl rfl ?_
       intro v48 _
       refine WL.efS (EF.append rfl rfl (by omega) rfl rfl rfl) rfl rfl ?_
       intro v49 _
       refine WL.rd (RD.assign rfl) rfl rfl ?_
       refine WL.nil ?_
       refine JE.blockN ?_
       refine JE.seqN ?_
       refine J.reg ?_
       refine WL.rd (RD.add rfl rfl (by omega) (by omega)) rfl rfl ?_
       refine WL.rd (RD.move rfl) rfl rfl ?_
       refine WL.nil ?_
       refine JE.cutN ⟨_, ?_, j + 1, v49, rfl, ?_, rfl, rfl⟩ ?_ ?_
       · omega
       · omega
       · exact (Sub.consE rfl (by first | rfl | (congr 1; omega) | (simp; done)) (Sub.consE rfl (by first | rfl | (congr 1; omega) | (simp; done)) (Sub.consE rfl (by first | rfl | (congr 1; omega) | (simp; done)) (Sub.consE rfl (by first | rfl | (congr 1; omega) | (simp; done)) (Sub.consE rfl (by first | rfl | (congr 1; omega) | (simp; done)) (Sub.consE rfl (by first | rfl | (congr 1; omega) | (simp; done)) (Sub.consE rfl (by first | rfl | (congr 1; omega) | (simp; done)) (Sub.consE rfl (by first | rfl | (congr 1; omega) | (simp; done)) .nil))))))))
       · exact (SubM.row rfl rfl (by first | rfl | rw [pickIx_yes _ j (show (cloF n k l xs s) j = true from decide_eq_true hc45)]) (SubM.cells rfl (by first | rfl | rw [pickIx_yes _ j (show (cloF n k l xs s) j = true from decide_eq_true hc45)]) (SubM.ro rfl (by first | rfl | rw [pickIx_yes _ j (show (cloF n k l xs s) j = true from decide_eq_true hc45)]) (SubM.ro rfl (by first | rfl | rw [pickIx_yes _ j (show (cloF n k l xs s) j = true from decide_eq_true hc45)]) .nil))))
      ·
       refine J.skip ?_
       refine JE.blockN ?_
       refine JE.seqN ?_
       refine J.reg ?_
       refine WL.rd (RD.add rfl rfl (by omega) (by omega)) rfl rfl ?_
       refine WL.rd (RD.move rfl) rfl rfl ?_
       refine WL.nil ?_
       refine JE.cutN ⟨_, ?_, j + 1, u, rfl, ?_, rfl, rfl⟩ ?_ ?_
       · omega
       · omega
       · exact (Sub.consE rfl (by first | rfl | (congr 1; omega) | (simp; done)) (Sub.consE rfl (by first | rfl | (congr 1; omega) | (simp; done)) (Sub.consE rfl (by first | rfl | (congr 1; omega) | (simp; done)) (Sub.consE rfl (by first | rfl | (congr 1; omega) | (simp; done)) (Sub.consE rfl (by first | rfl | (congr 1; omega) | (simp; done)) (Sub.consE rfl (by first | rfl | (congr 1; omega) | (simp; done)) (Sub.consE rfl (by first | rfl | (congr 1; omega) | (simp; done)) (Sub.consE rfl (by first | rfl | (congr 1; omega) | (simp; done)) .nil))))))))
       · exact (SubM.row rfl rfl (by first | rfl | rw [pickIx_no _ j (show ¬ (cloF n k l xs s) j = true from fun hh => hc45 (of_decide_eq_true hh))]) (SubM.cells rfl (by first | rfl | rw [pickIx_no _ j (show ¬ (cloF n k l xs s) j = true from fun hh => hc45 (of_decide_eq_true hh))]) (SubM.ro rfl (by first | rfl | rw [pickIx_no _ j (show ¬ (cloF n k l xs s) j = true from fun hh => hc45 (of_decide_eq_true hh))]) (SubM.ro rfl (by first | rfl | rw [pickIx_no _ j (show ¬ (cloF n k l xs s) j = true from fun hh => hc45 (of_decide_eq_true hh))]) .nil))))
     ·
      refine WAi.efS rfl (EF.build1 rfl) rfl rfl (fun _ => SubI.sub) ?_
      intro v41 _
      refine WA.one (i := 4) (by kernel_rfl) ?_
      refine WAi.efS rfl (EF.callN (.cons rfl .nil) (fun w hS => copyInts_c _ _ _ (by exact RdI.rd hS) (by omega))) rfl rfl (fun _ => SubI.sub) ?_
      rintro v39 -
      refine WA.one (i := 7) (by kernel_rfl) ?_
      refine WAi.efS rfl (EF.append rfl rfl (by omega) rfl rfl rfl) rfl rfl (fun _ => SubI.sub) ?_
      intro v42 _
      refine WA.one (i := 8) (by kernel_rfl) ?_
      refine WAi.efS rfl (EF.callS (.cons rfl (.cons rfl (.cons rfl (.cons rfl .nil)))) (fun w hS => iRankOfSet_c _ _ _ _ _ _ _ _ (by exact RdI.rd hS) (by first | assumption | (constructor <;> decide) | omega) (by first | assumption | (constructor <;> decide) | omega) (by exact RdI.rd hS) (by omega))) rfl rfl (fun _ => SubI.sub) ?_
      rintro ⟨⟩ -
      refine WA.takeP 10 rfl (RDP.of fun _ => RD.eql rfl rfl) rfl (by kernel_rfl) rfl ?_
      refine WA.done (by kernel_rfl) ?_
      refine JE.seqN ?_
      refine J.condP rfl (fun hc45 => ?_) (fun hc45 => ?_)
      ·
       refine J.reg ?_
       refine WL.rd (RD.move rfl) rfl rfl ?_
       refine WL.rd (RD.move rfl) rfl rfl ?_
       refine WL.efS (EF.build1 rfl) rfl rfl ?_
       intro v48 _
       refine WL.efS (EF.append rfl rfl (by omega) rfl rfl rfl) rfl rfl ?_
       intro v49 _
       refine WL.rd (RD.assign rfl) rfl rfl ?_
       refine WL.nil ?_
       refine JE.blockN ?_
       refine JE.seqN ?_
       refine J.reg ?_
       refine WL.rd (RD.add rfl rfl (by omega) (by omega)) rfl rfl ?_
       refine WL.rd (RD.move rfl) rfl rfl ?_
       refine WL.nil ?_
       refine JE.cutN ⟨_, ?_, j + 1, v49, rfl, ?_, rfl, rfl⟩ ?_ ?_
       · omega
       · omega
       · exact (Sub.consE rfl (by first | rfl | (congr 1; omega) | (simp; done)) (Sub.consE rfl (by first | rfl | (congr 1; omega) | (simp; done)) (Sub.consE rfl (by first | rfl | (congr 1; omega) | (simp; done)) (Sub.consE rfl (by first | rfl | (congr 1; omega) | (simp; done)) (Sub.consE rfl (by first | rfl | (congr 1; omega) | (simp; done)) (Sub.consE rfl (by first | rfl | (congr 1; omega) | (simp; done)) (Sub.consE rfl (by first | rfl | (congr 1; omega) | (simp; done)) (Sub.consE rfl (by first | rfl | (congr 1; omega) | (simp; done)) .nil))))))))
       · exact (SubM.row rfl rfl (by first | rfl | rw [pickIx_yes _ j (show (cloF n k l xs s) j = true from decide_eq_true hc45)]) (SubM.cells rfl (by first | rfl | rw [pickIx_yes _ j (show (cloF n k l xs s) j = true from decide_eq_true hc45)]) (SubM.ro rfl (by first | rfl | rw [pickIx_yes _ j (show (cloF n k l xs s) j = true from decide_eq_true hc45)]) (SubM.ro rfl (by first | rfl | rw [pickIx_yes _ j (show (cloF n k l xs s) j = true from decide_eq_true hc45)]) .nil))))
      ·
       refine J.skip ?_
       refine JE.blockN ?_
       refine JE.seqN ?_
       refine J.reg ?_
       refine WL.rd (RD.add rfl rfl (by omega) (by omega)) rfl rfl ?_
       refine WL.rd (RD.move rfl) rfl rfl ?_
       refine WL.nil ?_
       refine JE.cutN ⟨_, ?_, j + 1, u, rfl, ?_, rfl, rfl⟩ ?_ ?_
       · omega
       · omega
       · exact (Sub.consE rfl (by first | rfl | (congr 1; omega) | (simp; done)) (Sub.consE rfl (by first | rfl | (congr 1; omega) | (simp; done)) (Sub.consE rfl (by first | rfl | (congr 1; omega) | (simp; done)) (Sub.consE rfl (by first | rfl | (congr 1; omega) | (simp; done)) (Sub.consE rfl (by first | rfl | (congr 1; omega) | (simp; done)) (Sub.consE rfl (by first | rfl | (congr 1; omega) | (simp; done)) (Sub.consE rfl (by first | rfl | (congr 1; omega) | (simp; done)) (Sub.consE rfl (by first | rfl | (congr 1; omega) | (simp; done)) .nil))))))))
       · exact (SubM.row rfl rfl (by first | rfl | rw [pickIx_no _ j (show ¬ (cloF n k l xs s) j = true from fun hh => hc45 (of_decide_eq_true hh))]) (SubM.cells rfl (by first | rfl | rw [pickIx_no _ j (show ¬ (cloF n k l xs s) j = true from fun hh => hc45 (of_decide_eq_true hh))]) (SubM.ro rfl (by first | rfl | rw [pickIx_no _ j (show ¬ (cloF n k l xs s) j = true from fun hh => hc45 (of_decide_eq_true hh))]) (SubM.ro rfl (by first | rfl | rw [pickIx_no _ j (show ¬ (cloF n k l xs s) j = true from fun hh => hc45 (of_decide_eq_true hh))]) .nil))))
    ·
     refine J.exit ?_
     refine JE.seqX ?_
     refine JE.cutX ?_
     refine JE.blockHit ?_
     refine JE.seqN ?_
     refine J.seq ?_
     refine J.reg ?_
     refine WL.rd (RD.move rfl) rfl rfl ?_
     refine WL.rd (RD.assign rfl) rfl rfl ?_
     refine WL.nil ?_
     refine JE.seqN ?_
     refine J.ret ?_
     refine JE.ret rfl (.tmp rfl .nil) (fun w hS => ?_)
     exact CN.fin hS u rfl trivial (SubM.row rfl rfl (by unfold cloI; rw [if_pos ⟨Decidable.not_not.1 hg17, Decidable.not_not.1 hc22⟩, show xs.length = j by omega]) .nil) (by simp [En.rdb])
theorem sClosureOf_c (n : Int) (v : Value) (xs : List (Int × Int)) (k l : Int) (vs : Value) (s : List Int) (w : World) (hr : Rd w v 2 (xs.map bv)) (hk : -9223372036854775808 ≤ k ∧ k ≤ 9223372036854775807) (hl : -9223372036854775808 ≤ l ∧ l ≤ 9223372036854775807) (hrs : Rd w vs 1 (s.map iv)) (hlx : xs.length ≤ 1048576) (hls : s.length ≤ 1048576) :
    CN Try.prog 82 [.agg #[.int .i64 n, v], .int .i64 k, .int .i64 l, vs] w Value (fun _ => True) (fun u => u) (fun u => [.row u 3 1 ((cloI n k l xs s).map iv)]) := by
 have hl_xs : xs.length ≤ 9223372036854775807 := (by obtain ⟨_, _, _, hh, _⟩ := hr.shape; simpa using hh)
 have hl_s : s.length ≤ 9223372036854775807 := (by obtain ⟨_, _, _, hh, _⟩ := hrs.shape; simpa using hh)
 refine calls_of_J (mu := (fun _ => False)) (m := [.ro v 2 (xs.map bv), .ro vs 1 (s.map iv)]) (e := [(0, .agg #[.int .i64 n, v]), (1, .int .i64 k), (2, .int .i64 l), (3, vs)]) Try.func82 rfl rfl (.cons rfl (.cons rfl (.cons rfl (.cons rfl .nil)))) ((((St.init _ _).ro0 hrs (by decide)).ro0 hr (by decide))) ?_
 refine J.seq ?_
 refine J.reg ?_
 refine WL.efS (EF.boxA rfl) rfl rfl ?_
 intro b4 _
 refine WL.rd (RD.assign rfl) rfl rfl ?_
 refine WL.nil ?_
 refine JE.seqN ?_
 refine J.seq ?_
 refine J.reg ?_
 refine WL.efS (EF.build0) rfl rfl ?_
 intro v12 _
 refine WL.rd (RD.assign rfl) rfl rfl ?_
 refine WL.nil ?_
 refine JE.seqN ?_
 refine J.seq ?_
 refine J.seq ?_
 refine J.reg ?_
 refine WL.rd (RD.loadA rfl rfl) rfl rfl ?_
 refine WL.rd (RD.move rfl) rfl rfl ?_
 refine WL.efS (EF.callS (.cons rfl (.cons rfl .nil)) (fun w hS => l5Set_c _ _ _ _ _ _ (by exact RdI.rd hS) (by exact RdI.rd hS))) rfl rfl ?_
 rintro ⟨⟩ -
 refine WL.rd (RD.notP rfl) rfl rfl ?_
 refine WL.rd (RD.move rfl) rfl rfl ?_
 refine WL.caseP 17 rfl (fun hg17 => ?_) (fun hg17 => ?_)
 ·
  refine WL.noS rfl rfl ?_
  refine WL.noS rfl rfl ?_
  refine WL.noS rfl rfl ?_
  refine WL.noS rfl rfl ?_
  refine WL.rd (RD.pickT rfl rfl) rfl rfl ?_
  refine WL.nil ?_
  refine JE.seqN ?_
  refine J.condT rfl ?_
  refine J.seq ?_
  refine J.reg ?_
  refine WL.rd (RD.move rfl) rfl rfl ?_
  refine WL.rd (RD.assign rfl) rfl rfl ?_
  refine WL.nil ?_
  refine JE.seqN ?_
  refine J.ret ?_
  refine JE.ret rfl (.tmp rfl .nil) (fun w hS => ?_)
  exact CN.fin hS v12 rfl trivial (SubM.row rfl rfl (by unfold cloI; rw [if_neg (fun hh => by first | exact absurd hh.1 (by assumption) | exact absurd hh.2 (by assumption))]; rfl) .nil) (by simp [En.rdb])
 ·
  refine WL.rd (RD.move rfl) rfl rfl ?_
  refine WL.rd (RD.move rfl) rfl rfl ?_
  refine WL.efS (EF.callS (.cons rfl (.cons rfl .nil)) (fun w hS => sIsRange_c _ _ _ (by assumption))) rfl rfl ?_
  rintro ⟨⟩ -
  refine WL.rd (RD.notP rfl) rfl rfl ?_
  refine WL.rd (RD.pickF rfl rfl) rfl rfl ?_
  refine WL.nil ?_
  refine JE.seqN ?_
  refine J.condP rfl (fun hc22 => ?_) (fun hc22 => ?_)
  ·
   refine J.seq ?_
   refine J.reg ?_
   refine WL.rd (RD.move rfl) rfl rfl ?_
   refine WL.rd (RD.assign rfl) rfl rfl ?_
   refine WL.nil ?_
   refine JE.seqN ?_
   refine J.ret ?_
   refine JE.ret rfl (.tmp rfl .nil) (fun w hS => ?_)
   exact CN.fin hS v12 rfl trivial (SubM.row rfl rfl (by unfold cloI; rw [if_neg (fun hh => by first | exact absurd hh.1 (by assumption) | exact absurd hh.2 (by assumption))]; rfl) .nil) (by simp [En.rdb])
  ·
   refine J.skip ?_
   refine JE.seqN ?_
   refine J.seq ?_
   have hsn := isSt_len (Decidable.not_not.1 hg17)
   have hxn := (Decidable.not_not.1 hg17).2.2.2.1
   refine J.reg ?_
   refine WL.rd (RD.loadA rfl rfl) rfl rfl ?_
   refine WL.rd (RD.move rfl) rfl rfl ?_
   refine WL.rd (RD.move rfl) rfl rfl ?_
   refine WL.rd (RD.move rfl) rfl rfl ?_
   refine WL.efS (EF.callS (.cons rfl (.cons rfl (.cons rfl (.cons rfl .nil)))) (fun w hS => sRankOfSet_c _ _ _ _ _ _ _ _ (by exact RdI.rd hS) (by first | assumption | (constructor <;> decide) | omega) (by first | assumption | (constructor <;> decide) | omega) (by exact RdI.rd hS) (by omega))) rfl rfl ?_
   rintro ⟨⟩ -
   refine WL.rd (RD.assign rfl) rfl rfl ?_
   refine WL.nil ?_
   refine JE.seqN ?_
   refine J.seq ?_
   refine J.seq ?_
   refine J.reg ?_
   refine WL.rd (RD.assign rfl) rfl rfl ?_
   refine WL.nil ?_
   refine JE.seqN ?_
   refine J.block ?_
   refine J.loop (fun gg ee mm => ∃ (j : Nat), ∃ (u : Value), gg = xs.length - j ∧ ((j ≤ xs.length)) ∧ ee = [(9, u), (10, .int .i64 (rsI n k l xs s)), (11, .int .i64 (j : Int)), (1, .int .i64 k), (2, .int .i64 l), (3, vs), (4, .pointer (some ⟨b4, 0, none⟩))] ∧ mm = [.row u 3 1 ((pickIx (cloF n k l xs s) j).map iv), .cells b4 26 [.int .i64 n, v], .ro v 2 (xs.map bv), .ro vs 1 (s.map iv)]) _ ⟨0, v12, rfl, ?_, rfl, rfl⟩ ?_ ?_ ?_
   · omega
   · exact (Sub.consE rfl (by first | rfl | (congr 1; omega) | (simp; done)) (Sub.consE rfl (by first | rfl | (congr 1; omega) | (simp; done)) (Sub.consE rfl (by first | rfl | (congr 1; omega) | (simp; done)) (Sub.consE rfl (by first | rfl | (congr 1; omega) | (simp; done)) (Sub.consE rfl (by first | rfl | (congr 1; omega) | (simp; done)) (Sub.consE rfl (by first | rfl | (congr 1; omega) | (simp; done)) (Sub.consE rfl (by first | rfl | (congr 1; omega) | (simp; done)) .nil)))))))
   · exact (SubM.row rfl rfl (by first | rfl | (simp [iv, bv, yv, tv, sv]; done)) (SubM.cells rfl (by first | rfl | (simp; done)) (SubM.ro rfl (by first | rfl | (simp [iv, bv, yv, tv, sv]; done)) (SubM.ro rfl (by first | rfl | (simp [iv, bv, yv, tv, sv]; done)) .nil))))
   ·
    rintro g _ _ ⟨j, u, rfl, hI, rfl, rfl⟩
    have hpk := pickIx_le (cloF n k l xs s) j
    refine J.seq ?_
    refine J.seq ?_
    refine J.reg ?_
    refine WL.rd (RD.move rfl) rfl rfl ?_
    refine WL.rd (RD.fieldC rfl rfl) rfl rfl ?_
    refine WL.rd (RD.loadC rfl rfl) rfl rfl ?_
    refine WL.rd (RD.lenR rfl) rfl rfl ?_
    refine WL.rd (RD.lss rfl rfl) rfl rfl ?_
    refine WL.nil ?_
    refine JE.seqN ?_
    refine J.condP rfl (fun hc33 => ?_) (fun hc33 => ?_)
    ·
     refine J.skip ?_
     refine JE.seqN ?_
     refine J.seq ?_
     refine J.block ?_
     refine J.seq ?_
     refine J.anyAll [] ?_
     refine WA.take 0 rfl (RD.loadA rfl rfl) rfl (by kernel_rfl) rfl ?_
     refine WA.takeP 1 rfl (RDP.of fun _ => RD.move rfl) rfl (by kernel_rfl) rfl ?_
     refine WA.takeP 2 rfl (RDP.of fun _ => RD.move rfl) rfl (by kernel_rfl) rfl ?_
     refine WA.takeP 3 rfl (RDP.of fun _ => RD.move rfl) rfl (by kernel_rfl) rfl ?_
     refine WA.takeP 4 rfl (RDP.of fun _ => RD.move rfl) rfl (by kernel_rfl) rfl ?_
     refine WA.takeP 7 rfl (RDP.of fun _ => RD.move rfl) rfl (by kernel_rfl) rfl ?_
     refine WA.one (i := 5) (by kernel_rfl) ?_
     refine WAi.efS rfl (EF.callN (.cons rfl (.cons rfl .nil)) (fun w hS => l5With_c _ _ _ _ (by exact RdI.rd hS) (by omega))) rfl rfl (fun _ => SubI.sub) ?_
     rintro v41 -
     refine WA.one (i := 6) (by kernel_rfl) ?_
     refine WAi.efS rfl (EF.callS (.cons rfl (.cons rfl (.cons rfl (.cons rfl .nil)))) (fun w hS => sRankOfSet_c _ _ _ _ _ _ _ _ (by exact RdI.rd hS) (by first | assumption | (constructor <;> decide) | omega) (by first | assumption | (constructor <;> decide) | omega) (by exact RdI.rd hS) (by omega))) rfl rfl (fun _ => SubI.sub) ?_
     rintro ⟨⟩ -
     refine WA.takeP 8 rfl (RDP.of fun _ => RD.eql rfl rfl) rfl (by kernel_rfl) rfl ?_
     refine WA.done (by kernel_rfl) ?_
     refine JE.seqN ?_
     refine J.condP rfl (fun hc44 => ?_) (fun hc44 => ?_)
     ·
      refine J.reg ?_
      refine WL.rd (RD.move rfl) rfl rfl ?_
      refine WL.rd (RD.move rfl) rfl rfl ?_
      refine WL.efS (EF.build1 rfl) rfl rfl ?_
      intro v47 _
      refine WL.efS (EF.append rfl rfl (by omega) rfl rfl rfl) rfl rfl ?_
      intro v48 _
      refine WL.rd (RD.assign rfl) rfl rfl ?_
      refine WL.nil ?_
      refine JE.blockN ?_
      refine JE.seqN ?_
      refine J.reg ?_
      refine WL.rd (RD.move rfl) rfl rfl ?_
      refine WL.rd (RD.add rfl rfl (by omega) (by omega)) rfl rfl ?_
      refine WL.rd (RD.assign rfl) rfl rfl ?_
      refine WL.nil ?_
      refine JE.cutN ⟨_, ?_, j + 1, v48, rfl, ?_, rfl, rfl⟩ ?_ ?_
      · omega
      · omega
      · exact (Sub.consE rfl (by first | rfl | (congr 1; omega) | (simp; done)) (Sub.consE rfl (by first | rfl | (congr 1; omega) | (simp; done)) (Sub.consE rfl (by first | rfl | (congr 1; omega) | (simp; done)) (Sub.consE rfl (by first | rfl | (congr 1; omega) | (simp; done)) (Sub.consE rfl (by first | rfl | (congr 1; omega) | (simp; done)) (Sub.consE rfl (by first | rfl | (congr 1; omega) | (simp; done)) (Sub.consE rfl (by first | rfl | (congr 1; omega) | (simp; done)) .nil)))))))
      · exact (SubM.row rfl rfl (by first | rfl | rw [pickIx_yes _ j (show (cloF n k l xs s) j = true from decide_eq_true (by rw [← clo_with]; exact hc44))]) (SubM.cells rfl (by first | rfl | rw [pickIx_yes _ j (show (cloF n k l xs s) j = true from decide_eq_true (by rw [← clo_with]; exact hc44))]) (SubM.ro rfl (by first | rfl | rw [pickIx_yes _ j (show (cloF n k l xs s) j = true from decide_eq_true (by rw [← clo_with]; exact hc44))]) (SubM.ro rfl (by first | rfl | rw [pickIx_yes _ j (show (cloF n k l xs s) j = true from decide_eq_true (by rw [← clo_with]; exact hc44))]) .nil))))
     ·
      refine J.skip ?_
      refine JE.blockN ?_
      refine JE.seqN ?_
      refine J.reg ?_
      refine WL.rd (RD.move rfl) rfl rfl ?_
      refine WL.rd (RD.add rfl rfl (by omega) (by omega)) rfl rfl ?_
      refine WL.rd (RD.assign rfl) rfl rfl ?_
      refine WL.nil ?_
      refine JE.cutN ⟨_, ?_, j + 1, u, rfl, ?_, rfl, rfl⟩ ?_ ?_
      · omega
      · omega
      · exact (Sub.consE rfl (by first | rfl | (congr 1; omega) | (simp; done)) (Sub.consE rfl (by first | rfl | (congr 1; omega) | (simp; done)) (Sub.consE rfl (by first | rfl | (congr 1; omega) | (simp; done)) (Sub.consE rfl (by first | rfl | (congr 1; omega) | (simp; done)) (Sub.consE rfl (by first | rfl | (congr 1; omega) | (simp; done)) (Sub.consE rfl (by first | rfl | (congr 1; omega) | (simp; done)) (Sub.consE rfl (by first | rfl | (congr 1; omega) | (simp; done)) .nil)))))))
      · exact (SubM.row rfl rfl (by first | rfl | rw [pickIx_no _ j (show ¬ (cloF n k l xs s) j = true from fun hh => hc44 (by rw [clo_with]; exact of_decide_eq_true hh))]) (SubM.cells rfl (by first | rfl | rw [pickIx_no _ j (show ¬ (cloF n k l xs s) j = true from fun hh => hc44 (by rw [clo_with]; exact of_decide_eq_true hh))]) (SubM.ro rfl (by first | rfl | rw [pickIx_no _ j (show ¬ (cloF n k l xs s) j = true from fun hh => hc44 (by rw [clo_with]; exact of_decide_eq_true hh))]) (SubM.ro rfl (by first | rfl | rw [pickIx_no _ j (show ¬ (cloF n k l xs s) j = true from fun hh => hc44 (by rw [clo_with]; exact of_decide_eq_true hh))]) .nil))))
    ·
     refine J.exit ?_
     refine JE.seqX ?_
     refine JE.cutX ?_
     refine JE.blockHit ?_
     refine JE.seqN ?_
     refine J.seq ?_
     refine J.reg ?_
     refine WL.rd (RD.move rfl) rfl rfl ?_
     refine WL.rd (RD.assign rfl) rfl rfl ?_
     refine WL.nil ?_
     refine JE.seqN ?_
     refine J.ret ?_
     refine JE.ret rfl (.tmp rfl .nil) (fun w hS => ?_)
     exact CN.fin hS u rfl trivial (SubM.row rfl rfl (by unfold cloI; rw [if_pos ⟨Decidable.not_not.1 hg17, Decidable.not_not.1 hc22⟩, show xs.length = j by omega]) .nil) (by simp [En.rdb])
theorem iIsCircuit_c (n : Int) (v : Value) (xs : List (Int × Int)) (k l : Int) (vs : Value) (s : List Int) (w : World) (hr : Rd w v 2 (xs.map bv)) (hk : -9223372036854775808 ≤ k ∧ k ≤ 9223372036854775807) (hl : -9223372036854775808 ≤ l ∧ l ≤ 9223372036854775807) (hrs : Rd w vs 1 (s.map iv)) (hlx : xs.length ≤ 1048576) (hls : s.length ≤ 1048576) :
    CS Try.prog 93 [.agg #[.int .i64 n, v], .int .i64 k, .int .i64 l, vs] w (.bool (decide (circI n k l xs s))) := by
 have hl_xs : xs.length ≤ 9223372036854775807 := (by obtain ⟨_, _, _, hh, _⟩ := hr.shape; simpa using hh)
 have hl_s : s.length ≤ 9223372036854775807 := (by obtain ⟨_, _, _, hh, _⟩ := hrs.shape; simpa using hh)
 refine calls_of_J (mu := (fun _ => False)) (m := [.ro v 2 (xs.map bv), .ro vs 1 (s.map iv)]) (e := [(0, .agg #[.int .i64 n, v]), (1, .int .i64 k), (2, .int .i64 l), (3, vs)]) Try.func93 rfl rfl (.cons rfl (.cons rfl (.cons rfl (.cons rfl .nil)))) ((((St.init _ _).ro0 hrs (by decide)).ro0 hr (by decide))) ?_
 refine J.seq ?_
 refine J.reg ?_
 refine WL.efS (EF.boxA rfl) rfl rfl ?_
 intro b4 _
 refine WL.rd (RD.assign rfl) rfl rfl ?_
 refine WL.nil ?_
 refine JE.seqN ?_
 refine J.seq ?_
 refine J.seq ?_
 refine J.reg ?_
 refine WL.rd (RD.loadA rfl rfl) rfl rfl ?_
 refine WL.rd (RD.move rfl) rfl rfl ?_
 refine WL.efS (EF.callS (.cons rfl (.cons rfl .nil)) (fun w hS => isSet_c _ _ _ _ _ _ (by exact RdI.rd hS) (by exact RdI.rd hS))) rfl rfl ?_
 rintro ⟨⟩ -
 refine WL.rd (RD.notP rfl) rfl rfl ?_
 refine WL.rd (RD.move rfl) rfl rfl ?_
 refine WL.caseP 15 rfl (fun hg15 => ?_) (fun hg15 => ?_)
 ·
  refine WL.noS rfl rfl ?_
  refine WL.noS rfl rfl ?_
  refine WL.noS rfl rfl ?_
  refine WL.noS rfl rfl ?_
  refine WL.rd (RD.pickT rfl rfl) rfl rfl ?_
  refine WL.rd (RD.move rfl) rfl rfl ?_
  refine WL.noS rfl rfl ?_
  refine WL.noS rfl rfl ?_
  refine WL.noS rfl rfl ?_
  refine WL.noS rfl rfl ?_
  refine WL.noS rfl rfl ?_
  refine WL.noS rfl rfl ?_
  refine WL.noS rfl rfl ?_
  refine WL.noS rfl rfl ?_
  refine WL.rd (RD.pickT rfl rfl) rfl rfl ?_
  refine WL.nil ?_
  refine JE.seqN ?_
  refine J.condT rfl ?_
  refine J.seq ?_
  refine J.reg ?_
  refine WL.rd (RD.assign rfl) rfl rfl ?_
  refine WL.nil ?_
  refine JE.seqN ?_
  refine J.ret ?_
  refine JE.ret rfl (.tmp rfl .nil) (fun w hS => ?_)
  (exact CS.fin hS (mk_false (fun h => absurd h.1 (by assumption))))
 ·
  refine WL.rd (RD.move rfl) rfl rfl ?_
  refine WL.rd (RD.move rfl) rfl rfl ?_
  refine WL.efS (EF.callS (.cons rfl (.cons rfl .nil)) (fun w hS => iIsRange_c _ _ _ (by assumption))) rfl rfl ?_
  rintro ⟨⟩ -
  refine WL.rd (RD.notP rfl) rfl rfl ?_
  refine WL.rd (RD.pickF rfl rfl) rfl rfl ?_
  refine WL.rd (RD.move rfl) rfl rfl ?_
  refine WL.caseP 21 rfl (fun hg21 => ?_) (fun hg21 => ?_)
  ·
   refine WL.noS rfl rfl ?_
   refine WL.noS rfl rfl ?_
   refine WL.noS rfl rfl ?_
   refine WL.noS rfl rfl ?_
   refine WL.noS rfl rfl ?_
   refine WL.noS rfl rfl ?_
   refine WL.noS rfl rfl ?_
   refine WL.noS rfl rfl ?_
   refine WL.rd (RD.pickT rfl rfl) rfl rfl ?_
   refine WL.nil ?_
   refine JE.seqN ?_
   refine J.condT rfl ?_
   refine J.seq ?_
   refine J.reg ?_
   refine WL.rd (RD.assign rfl) rfl rfl ?_
   refine WL.nil ?_
   refine JE.seqN ?_
   refine J.ret ?_
   refine JE.ret rfl (.tmp rfl .nil) (fun w hS => ?_)
   (exact CS.fin hS (mk_false (fun h => absurd h.2.1 (by assumption))))
  ·
   refine WL.rd (RD.loadA rfl rfl) rfl rfl ?_
   refine WL.rd (RD.move rfl) rfl rfl ?_
   refine WL.rd (RD.move rfl) rfl rfl ?_
   refine WL.rd (RD.move rfl) rfl rfl ?_
   refine WL.efS (EF.callS (.cons rfl (.cons rfl (.cons rfl (.cons rfl .nil)))) (fun w hS => iRankOfSet_c _ _ _ _ _ _ _ _ (by exact RdI.rd hS) (by first | assumption | (constructor <;> decide) | omega) (by first | assumption | (constructor <;> decide) | omega) (by exact RdI.rd hS) (by omega))) rfl rfl ?_
   rintro ⟨⟩ -
   refine WL.rd (RD.move rfl) rfl rfl ?_
   refine WL.rd (RD.lenR rfl) rfl rfl ?_
   refine WL.rd (RD.eql rfl rfl) rfl rfl ?_
   refine WL.rd (RD.pickF rfl rfl) rfl rfl ?_
   refine WL.nil ?_
   refine JE.seqN ?_
   refine J.condP rfl (fun hc30 => ?_) (fun hc30 => ?_)
   ·
    refine J.seq ?_
    refine J.reg ?_
    refine WL.rd (RD.assign rfl) rfl rfl ?_
    refine WL.nil ?_
    refine JE.seqN ?_
    refine J.ret ?_
    refine JE.ret rfl (.tmp rfl .nil) (fun w hS => ?_)
    (exact CS.fin hS (mk_false (fun h => absurd hc30 h.2.2.1)))
   ·
    refine J.skip ?_
    refine JE.seqN ?_
    refine J.seq ?_
    refine J.seq ?_
    refine J.reg ?_
    refine WL.rd (RD.move rfl) rfl rfl ?_
    refine WL.rd (RD.lenR rfl) rfl rfl ?_
    refine WL.rd (RD.move rfl) rfl rfl ?_
    refine WL.nil ?_
    refine JE.seqN ?_
    refine J.block ?_
    refine J.loop (fun gg ee mm => ∃ (i : Nat), gg = s.length - i ∧ ((i ≤ s.length) ∧ (∀ j, j < i → rsI n k l xs (rtL s j) = (s.length : Int) - 1)) ∧ ee = [(32, .int .i64 (s.length : Int)), (33, .int .i64 (i : Int)), (1, .int .i64 k), (2, .int .i64 l), (3, vs), (4, .pointer (some ⟨b4, 0, none⟩))] ∧ mm = [.cells b4 26 [.int .i64 n, v], .ro v 2 (xs.map bv), .ro vs 1 (s.map iv)]) _ ⟨0, rfl, ?_, rfl, rfl⟩ ?_ ?_ ?_
    · exact ⟨by omega, fun j hj => by omega⟩
    · exact (Sub.consE rfl (by first | rfl | (congr 1; omega) | (simp; done)) (Sub.consE rfl (by first | rfl | (congr 1; omega) | (simp; done)) (Sub.consE rfl (by first | rfl | (congr 1; omega) | (simp; done)) (Sub.consE rfl (by first | rfl | (congr 1; omega) | (simp; done)) (Sub.consE rfl (by first | rfl | (congr 1; omega) | (simp; done)) (Sub.consE rfl (by first | rfl | (congr 1; omega) | (simp; done)) .nil))))))
    · exact (SubM.cells rfl (by first | rfl | (simp; done)) (SubM.ro rfl (by first | rfl | (simp [iv, bv, yv, tv, sv]; done)) (SubM.ro rfl (by first | rfl | (simp [iv, bv, yv, tv, sv]; done)) .nil)))
    ·
     rintro g _ _ ⟨i, rfl, hI, rfl, rfl⟩
     refine J.seq ?_
     refine J.reg ?_
     refine WL.rd (RD.lss rfl rfl) rfl rfl ?_
     refine WL.nil ?_
     refine JE.seqN ?_
     refine J.seq ?_
     refine J.condP rfl (fun hc34 => ?_) (fun hc34 => ?_)
     ·
      refine J.skip ?_
      refine JE.seqN ?_
      refine J.seq ?_
      refine J.block ?_
      refine J.seq ?_
      refine J.reg ?_
      refine WL.rd (RD.move rfl) rfl rfl ?_
      refine WL.rd (RD.assign rfl) rfl rfl ?_
      refine WL.nil ?_
      refine JE.seqN ?_
      refine J.seq ?_
      have hrt : ((s.take i).drop 0 ++ (s.take s.length).drop (i + 1)) = rtL s i := by unfold rtL; rw [List.drop_zero, List.take_length]
      have hrtl := rtL_len (s := s) (i := i) (by omega)
      have htk : ((s.take i).drop 0).length ≤ 1048576 := by rw [List.drop_zero, List.length_take]; omega
      refine J.anyAll [] ?_
      refine WA.takeP 0 rfl (RDP.of fun _ => RD.move rfl) rfl (by kernel_rfl) rfl ?_
      refine WA.takeP 1 rfl (RDP.of fun _ => RD.move rfl) rfl (by kernel_rfl) rfl ?_
      refine WA.takeP 2 rfl (RDP.sliceR (l := 0) (u := i) rfl rfl ⟨_, _, rfl, (by first | rfl | (simp; done) | omega)⟩ (by omega) (by omega) rfl) rfl (by kernel_rfl) rfl ?_
      refine WA.takeP 4 rfl (RDP.of fun _ => RD.move rfl) rfl (by kernel_rfl) rfl ?_
      refine WA.takeP 5 rfl (RDP.of fun _ => RD.move rfl) rfl (by kernel_rfl) rfl ?_
      refine WA.takeP 6 rfl (RDP.of fun _ => RD.add rfl rfl (by omega) (by omega)) rfl (by kernel_rfl) rfl ?_
      refine WA.takeP 7 rfl (RDP.sliceR (l := i + 1) (u := s.length) rfl ⟨_, _, rfl, (by first | rfl | (simp; done) | omega)⟩ rfl (by omega) (by omega) rfl) rfl (by kernel_rfl) rfl ?_
      refine WA.one (i := 3) (by kernel_rfl) ?_
      refine WAi.efS rfl (EF.callN (.cons rfl .nil) (fun w hS => copyInts_c _ _ _ (by exact RdI.rd hS) (by omega))) rfl rfl (fun _ => SubI.sub) ?_
      rintro v39 -
      refine WA.one (i := 8) (by kernel_rfl) ?_
      refine WAi.efS rfl (EF.append rfl rfl (by omega) rfl rfl rfl) rfl rfl (fun _ => SubI.sub) ?_
      intro v44 _
      refine WA.takeP 9 rfl (RDP.of fun _ => RD.assign rfl) rfl (by kernel_rfl) rfl ?_
      refine WA.done (by kernel_rfl) ?_
      refine JE.seqN ?_
      refine J.seq ?_
      refine J.reg ?_
      refine WL.rd (RD.loadA rfl rfl) rfl rfl ?_
      refine WL.rd (RD.move rfl) rfl rfl ?_
      refine WL.rd (RD.move rfl) rfl rfl ?_
      refine WL.rd (RD.move rfl) rfl rfl ?_
      refine WL.efS (EF.callS (.cons rfl (.cons rfl (.cons rfl (.cons rfl .nil)))) (fun w hS => iRankOfSet_c _ _ _ _ _ _ _ _ (by exact RdI.rd hS) (by first | assumption | (constructor <;> decide) | omega) (by first | assumption | (constructor <;> decide) | omega) (by exact RdI.rd hS) (by omega))) rfl rfl ?_
      rintro ⟨⟩ -
      refine WL.rd (RD.move rfl) rfl rfl ?_
      refine WL.rd (RD.lenR rfl) rfl rfl ?_
      refine WL.rd (RD.neq rfl rfl) rfl rfl ?_
      refine WL.nil ?_
      refine JE.seqN ?_
      refine J.condP rfl (fun hc52 => ?_) (fun hc52 => ?_)
      ·
       refine J.seq ?_
       refine J.reg ?_
       refine WL.rd (RD.assign rfl) rfl rfl ?_
       refine WL.nil ?_
       refine JE.seqN ?_
       refine J.ret ?_
       refine JE.ret rfl (.tmp rfl .nil) (fun w hS => ?_)
       (exact CS.fin hS (mk_false (fun h => by have h5 := h.2.2.2 i (by omega); rw [hrt] at hc52; exact hc52 (by rw [h5]; omega))))
      ·
       refine J.skip ?_
       refine JE.blockN ?_
       refine JE.seqN ?_
       refine J.reg ?_
       refine WL.rd (RD.add rfl rfl (by omega) (by omega)) rfl rfl ?_
       refine WL.rd (RD.move rfl) rfl rfl ?_
       refine WL.nil ?_
       refine JE.cutN ⟨_, ?_, i + 1, rfl, ?_, rfl, rfl⟩ ?_ ?_
       · omega
       · exact ⟨by omega, fun j hj => (Nat.lt_succ_iff_lt_or_eq.1 hj).elim (hI.2 j) (fun hh => by subst hh; have h9 := Decidable.not_not.1 hc52; rw [hrt] at h9; rw [h9]; omega)⟩
       · exact (Sub.consE rfl (by first | rfl | (congr 1; omega) | (simp; done)) (Sub.consE rfl (by first | rfl | (congr 1; omega) | (simp; done)) (Sub.consE rfl (by first | rfl | (congr 1; omega) | (simp; done)) (Sub.consE rfl (by first | rfl | (congr 1; omega) | (simp; done)) (Sub.consE rfl (by first | rfl | (congr 1; omega) | (simp; done)) (Sub.consE rfl (by first | rfl | (congr 1; omega) | (simp; done)) .nil))))))
       · exact (SubM.cells rfl (by first | rfl | (simp; done)) (SubM.ro rfl (by first | rfl | (simp [iv, bv, yv, tv, sv]; done)) (SubM.ro rfl (by first | rfl | (simp [iv, bv, yv, tv, sv]; done)) .nil)))
     ·
      refine J.exit ?_
      refine JE.seqX ?_
      refine JE.cutX ?_
      refine JE.blockHit ?_
      refine JE.seqN ?_
      refine J.seq ?_
      refine J.reg ?_
      refine WL.rd (RD.assign rfl) rfl rfl ?_
      refine WL.nil ?_
      refine JE.seqN ?_
      refine J.ret ?_
      refine JE.ret rfl (.tmp rfl .nil) (fun w hS => ?_)
      (exact CS.fin hS (mk_true ⟨Decidable.not_not.1 hg15, Decidable.not_not.1 hg21, hc30, fun j hj => hI.2 j (by omega)⟩))
theorem sIsCircuit_c (n : Int) (v : Value) (xs : List (Int × Int)) (k l : Int) (vs : Value) (s : List Int) (w : World) (hr : Rd w v 2 (xs.map bv)) (hk : -9223372036854775808 ≤ k ∧ k ≤ 9223372036854775807) (hl : -9223372036854775808 ≤ l ∧ l ≤ 9223372036854775807) (hrs : Rd w vs 1 (s.map iv)) (hlx : xs.length ≤ 1048576) (hls : s.length ≤ 1048576) :
    CS Try.prog 96 [.agg #[.int .i64 n, v], .int .i64 k, .int .i64 l, vs] w (.bool (decide (circI n k l xs s))) := by
 have hl_xs : xs.length ≤ 9223372036854775807 := (by obtain ⟨_, _, _, hh, _⟩ := hr.shape; simpa using hh)
 have hl_s : s.length ≤ 9223372036854775807 := (by obtain ⟨_, _, _, hh, _⟩ := hrs.shape; simpa using hh)
 refine calls_of_J (mu := (fun _ => False)) (m := [.ro v 2 (xs.map bv), .ro vs 1 (s.map iv)]) (e := [(0, .agg #[.int .i64 n, v]), (1, .int .i64 k), (2, .int .i64 l), (3, vs)]) Try.func96 rfl rfl (.cons rfl (.cons rfl (.cons rfl (.cons rfl .nil)))) ((((St.init _ _).ro0 hrs (by decide)).ro0 hr (by decide))) ?_
 refine J.seq ?_
 refine J.reg ?_
 refine WL.efS (EF.boxA rfl) rfl rfl ?_
 intro b4 _
 refine WL.rd (RD.assign rfl) rfl rfl ?_
 refine WL.nil ?_
 refine JE.seqN ?_
 refine J.seq ?_
 refine J.seq ?_
 refine J.reg ?_
 refine WL.rd (RD.loadA rfl rfl) rfl rfl ?_
 refine WL.rd (RD.move rfl) rfl rfl ?_
 refine WL.efS (EF.callS (.cons rfl (.cons rfl .nil)) (fun w hS => l5Set_c _ _ _ _ _ _ (by exact RdI.rd hS) (by exact RdI.rd hS))) rfl rfl ?_
 rintro ⟨⟩ -
 refine WL.rd (RD.notP rfl) rfl rfl ?_
 refine WL.rd (RD.move rfl) rfl rfl ?_
 refine WL.caseP 14 rfl (fun hg14 => ?_) (fun hg14 => ?_)
 ·
  refine WL.noS rfl rfl ?_
  refine WL.noS rfl rfl ?_
  refine WL.noS rfl rfl ?_
  refine WL.noS rfl rfl ?_
  refine WL.rd (RD.pickT rfl rfl) rfl rfl ?_
  refine WL.rd (RD.move rfl) rfl rfl ?_
  refine WL.noS rfl rfl ?_
  refine WL.noS rfl rfl ?_
  refine WL.noS rfl rfl ?_
  refine WL.noS rfl rfl ?_
  refine WL.noS rfl rfl ?_
  refine WL.rd (RD.pickT rfl rfl) rfl rfl ?_
  refine WL.nil ?_
  refine JE.seqN ?_
  refine J.condT rfl ?_
  refine J.seq ?_
  refine J.reg ?_
  refine WL.rd (RD.assign rfl) rfl rfl ?_
  refine WL.nil ?_
  refine JE.seqN ?_
  refine J.ret ?_
  refine JE.ret rfl (.tmp rfl .nil) (fun w hS => ?_)
  (exact CS.fin hS (mk_false (fun h => absurd h.1 (by assumption))))
 ·
  refine WL.rd (RD.move rfl) rfl rfl ?_
  refine WL.rd (RD.move rfl) rfl rfl ?_
  refine WL.efS (EF.callS (.cons rfl (.cons rfl .nil)) (fun w hS => sIsRange_c _ _ _ (by assumption))) rfl rfl ?_
  rintro ⟨⟩ -
  refine WL.rd (RD.notP rfl) rfl rfl ?_
  refine WL.rd (RD.pickF rfl rfl) rfl rfl ?_
  refine WL.rd (RD.move rfl) rfl rfl ?_
  refine WL.caseP 20 rfl (fun hg20 => ?_) (fun hg20 => ?_)
  ·
   refine WL.noS rfl rfl ?_
   refine WL.noS rfl rfl ?_
   refine WL.noS rfl rfl ?_
   refine WL.noS rfl rfl ?_
   refine WL.noS rfl rfl ?_
   refine WL.rd (RD.pickT rfl rfl) rfl rfl ?_
   refine WL.nil ?_
   refine JE.seqN ?_
   refine J.condT rfl ?_
   refine J.seq ?_
   refine J.reg ?_
   refine WL.rd (RD.assign rfl) rfl rfl ?_
   refine WL.nil ?_
   refine JE.seqN ?_
   refine J.ret ?_
   refine JE.ret rfl (.tmp rfl .nil) (fun w hS => ?_)
   (exact CS.fin hS (mk_false (fun h => absurd h.2.1 (by assumption))))
  ·
   refine WL.rd (RD.loadA rfl rfl) rfl rfl ?_
   refine WL.rd (RD.move rfl) rfl rfl ?_
   refine WL.rd (RD.move rfl) rfl rfl ?_
   refine WL.rd (RD.move rfl) rfl rfl ?_
   refine WL.efS (EF.callS (.cons rfl (.cons rfl (.cons rfl (.cons rfl .nil)))) (fun w hS => sIsIndependent_c _ _ _ _ _ _ _ _ (by exact RdI.rd hS) (by first | assumption | (constructor <;> decide) | omega) (by first | assumption | (constructor <;> decide) | omega) (by exact RdI.rd hS) (by omega))) rfl rfl ?_
   rintro ⟨⟩ -
   refine WL.rd (RD.pickF rfl rfl) rfl rfl ?_
   refine WL.nil ?_
   refine JE.seqN ?_
   refine J.condP rfl (fun hc26 => ?_) (fun hc26 => ?_)
   ·
    refine J.seq ?_
    refine J.reg ?_
    refine WL.rd (RD.assign rfl) rfl rfl ?_
    refine WL.nil ?_
    refine JE.seqN ?_
    refine J.ret ?_
    refine JE.ret rfl (.tmp rfl .nil) (fun w hS => ?_)
    (exact CS.fin hS (mk_false (fun h => absurd hc26.2.2 h.2.2.1)))
   ·
    refine J.skip ?_
    refine JE.seqN ?_
    refine J.seq ?_
    refine J.seq ?_
    have hst := Decidable.not_not.1 hg14
    have hrr := Decidable.not_not.1 hg20
    refine J.reg ?_
    refine WL.rd (RD.assign rfl) rfl rfl ?_
    refine WL.nil ?_
    refine JE.seqN ?_
    refine J.block ?_
    refine J.loop (fun gg ee mm => ∃ (i : Nat), gg = s.length - i ∧ ((i ≤ s.length) ∧ (∀ j, j < i → rsI n k l xs (rtL s j) = (s.length : Int) - 1)) ∧ ee = [(9, .int .i64 (i : Int)), (1, .int .i64 k), (2, .int .i64 l), (3, vs), (4, .pointer (some ⟨b4, 0, none⟩))] ∧ mm = [.cells b4 26 [.int .i64 n, v], .ro v 2 (xs.map bv), .ro vs 1 (s.map iv)]) _ ⟨0, rfl, ?_, rfl, rfl⟩ ?_ ?_ ?_
    · exact ⟨by omega, fun j hj => by omega⟩
    · exact (Sub.consE rfl (by first | rfl | (congr 1; omega) | (simp; done)) (Sub.consE rfl (by first | rfl | (congr 1; omega) | (simp; done)) (Sub.consE rfl (by first | rfl | (congr 1; omega) | (simp; done)) (Sub.consE rfl (by first | rfl | (congr 1; omega) | (simp; done)) (Sub.consE rfl (by first | rfl | (congr 1; omega) | (simp; done)) .nil)))))
    · exact (SubM.cells rfl (by first | rfl | (simp; done)) (SubM.ro rfl (by first | rfl | (simp [iv, bv, yv, tv, sv]; done)) (SubM.ro rfl (by first | rfl | (simp [iv, bv, yv, tv, sv]; done)) .nil)))
    ·
     rintro g _ _ ⟨i, rfl, hI, rfl, rfl⟩
     have hfl : ∀ y : Int, (s.filter (fun z => decide (z ≠ y))).length ≤ s.length := fun y => List.length_filter_le _ _
     refine J.seq ?_
     refine J.seq ?_
     refine J.reg ?_
     refine WL.rd (RD.move rfl) rfl rfl ?_
     refine WL.rd (RD.move rfl) rfl rfl ?_
     refine WL.rd (RD.lenR rfl) rfl rfl ?_
     refine WL.rd (RD.lss rfl rfl) rfl rfl ?_
     refine WL.nil ?_
     refine JE.seqN ?_
     refine J.condP rfl (fun hc30 => ?_) (fun hc30 => ?_)
     ·
      refine J.skip ?_
      refine JE.seqN ?_
      refine J.seq ?_
      refine J.block ?_
      refine J.seq ?_
      refine J.anyAll [] ?_
      refine WA.take 0 rfl (RD.loadA rfl rfl) rfl (by kernel_rfl) rfl ?_
      refine WA.takeP 1 rfl (RDP.of fun _ => RD.move rfl) rfl (by kernel_rfl) rfl ?_
      refine WA.takeP 2 rfl (RDP.of fun _ => RD.move rfl) rfl (by kernel_rfl) rfl ?_
      refine WA.takeP 3 rfl (RDP.of fun _ => RD.move rfl) rfl (by kernel_rfl) rfl ?_
      refine WA.takeP 4 rfl (RDP.of fun _ => RD.move rfl) rfl (by kernel_rfl) rfl ?_
      refine WA.takeP 5 rfl (RDP.of fun _ => RD.move rfl) rfl (by kernel_rfl) rfl ?_
      refine WA.takeP 6 rfl (RDP.idx rfl rfl (by omega) rfl) rfl (by kernel_rfl) rfl ?_
      refine WA.take 7 rfl (RD.loadE rfl (by omega) rfl) rfl (by kernel_rfl) rfl ?_
      refine WA.one (i := 8) (by kernel_rfl) ?_
      refine WAi.efS rfl (EF.callN (.cons rfl (.cons rfl .nil)) (fun w hS => l5Without_c _ _ _ _ (by exact RdI.rd hS) (by omega))) rfl rfl (fun _ => SubI.sub) ?_
      rintro v41 -
      refine WA.one (i := 9) (by kernel_rfl) ?_
      refine WAi.efS rfl (EF.callS (.cons rfl (.cons rfl (.cons rfl (.cons rfl .nil)))) (fun w hS => sIsIndependent_c _ _ _ _ _ _ _ _ (by exact RdI.rd hS) (by first | assumption | (constructor <;> decide) | omega) (by first | assumption | (constructor <;> decide) | omega) (by exact RdI.rd hS) (by omega))) rfl rfl (fun _ => SubI.sub) ?_
      rintro ⟨⟩ -
      refine WA.takeP 10 rfl (RDP.of fun _ => RD.notP rfl) rfl (by kernel_rfl) rfl ?_
      refine WA.done (by kernel_rfl) ?_
      refine JE.seqN ?_
      refine J.condP rfl (fun hc43 => ?_) (fun hc43 => ?_)
      ·
       refine J.seq ?_
       refine J.reg ?_
       refine WL.rd (RD.assign rfl) rfl rfl ?_
       refine WL.nil ?_
       refine JE.seqN ?_
       refine J.ret ?_
       refine JE.ret rfl (.tmp rfl .nil) (fun w hS => ?_)
       (exact CS.fin hS (mk_false (fun h => by have h5 := h.2.2.2 i (by omega); rw [wo_rt hst (by omega)] at hc43; exact hc43 ((ind_rt hst hrr (by omega)).2 h5))))
      ·
       refine J.skip ?_
       refine JE.blockN ?_
       refine JE.seqN ?_
       refine J.reg ?_
       refine WL.rd (RD.move rfl) rfl rfl ?_
       refine WL.rd (RD.add rfl rfl (by omega) (by omega)) rfl rfl ?_
       refine WL.rd (RD.assign rfl) rfl rfl ?_
       refine WL.nil ?_
       refine JE.cutN ⟨_, ?_, i + 1, rfl, ?_, rfl, rfl⟩ ?_ ?_
       · omega
       · exact ⟨by omega, fun j hj => (Nat.lt_succ_iff_lt_or_eq.1 hj).elim (hI.2 j) (fun hh => by subst hh; have h9 := Decidable.not_not.1 hc43; rw [wo_rt hst (by omega)] at h9; exact (ind_rt hst hrr (by omega)).1 h9)⟩
       · exact (Sub.consE rfl (by first | rfl | (congr 1; omega) | (simp; done)) (Sub.consE rfl (by first | rfl | (congr 1; omega) | (simp; done)) (Sub.consE rfl (by first | rfl | (congr 1; omega) | (simp; done)) (Sub.consE rfl (by first | rfl | (congr 1; omega) | (simp; done)) (Sub.consE rfl (by first | rfl | (congr 1; omega) | (simp; done)) .nil)))))
       · exact (SubM.cells rfl (by first | rfl | (simp; done)) (SubM.ro rfl (by first | rfl | (simp [iv, bv, yv, tv, sv]; done)) (SubM.ro rfl (by first | rfl | (simp [iv, bv, yv, tv, sv]; done)) .nil)))
     ·
      refine J.exit ?_
      refine JE.seqX ?_
      refine JE.cutX ?_
      refine JE.blockHit ?_
      refine JE.seqN ?_
      refine J.seq ?_
      refine J.reg ?_
      refine WL.rd (RD.assign rfl) rfl rfl ?_
      refine WL.nil ?_
      refine JE.seqN ?_
      refine J.ret ?_
      refine JE.ret rfl (.tmp rfl .nil) (fun w hS => ?_)
      (exact CS.fin hS (mk_true ⟨hst, hrr, fun hh => hc26 ⟨hst, hrr, hh⟩, fun j hj => hI.2 j (by omega)⟩))
theorem iCircuitOf_c (n : Int) (v : Value) (xs : List (Int × Int)) (k l bar : Int) (w : World) (hr : Rd w v 2 (xs.map bv)) (hk : -9223372036854775808 ≤ k ∧ k ≤ 9223372036854775807) (hl : -9223372036854775808 ≤ l ∧ l ≤ 9223372036854775807) (hlx : xs.length ≤ 1048576) :
    CN Try.prog 91 [.agg #[.int .i64 n, v], .int .i64 k, .int .i64 l, .int .i64 bar] w Value (fun _ => True) (fun u => .tuple #[u, .bool (decide (cirOk n k l xs bar))]) (fun u => [.row u 3 1 ((cirI n k l xs bar).map iv)]) := by
 have hl_xs : xs.length ≤ 9223372036854775807 := (by obtain ⟨_, _, _, hh, _⟩ := hr.shape; simpa using hh)
 have hrl := runP_len n k l xs
 have hbal := basA_len n k l xs bar
 refine calls_of_J (mu := (fun _ => False)) (m := [.ro v 2 (xs.map bv)]) (e := [(0, .agg #[.int .i64 n, v]), (1, .int .i64 k), (2, .int .i64 l), (3, .int .i64 bar)]) Try.func91 rfl rfl (.cons rfl (.cons rfl (.cons rfl (.cons rfl .nil)))) (((St.init _ _).ro0 hr (by decide))) ?_
 refine J.seq ?_
 refine J.reg ?_
 refine WL.efS (EF.boxA rfl) rfl rfl ?_
 intro b4 _
 refine WL.rd (RD.assign rfl) rfl rfl ?_
 refine WL.rd (RD.assign rfl) rfl rfl ?_
 refine WL.nil ?_
 refine JE.seqN ?_
 refine J.seq ?_
 refine J.seq ?_
 refine J.reg ?_
 refine WL.rd (RD.loadA rfl rfl) rfl rfl ?_
 refine WL.rd (RD.move rfl) rfl rfl ?_
 refine WL.rd (RD.move rfl) rfl rfl ?_
 refine WL.efS (EF.callN (.cons rfl (.cons rfl (.cons rfl .nil))) (fun w hS => iRejectedBars_c _ _ _ _ _ _ (by exact RdI.rd hS) (by first | assumption | (constructor <;> decide) | omega) (by first | assumption | (constructor <;> decide) | omega) (by omega))) rfl rfl ?_
 rintro v19 -
 refine WL.rd (RD.move rfl) rfl rfl ?_
 refine WL.efS (EF.callS (.cons rfl (.cons rfl .nil)) (fun w hS => slContains_c _ _ _ _ (by exact RdI.rd hS))) rfl rfl ?_
 rintro ⟨⟩ -
 refine WL.rd (RD.notP rfl) rfl rfl ?_
 refine WL.nil ?_
 refine JE.seqN ?_
 refine J.condP rfl (fun hc22 => ?_) (fun hc22 => ?_)
 ·
  refine J.seq ?_
  refine J.reg ?_
  refine WL.efS (EF.build0) rfl rfl ?_
  intro v23 _
  refine WL.rd (RD.assign rfl) rfl rfl ?_
  refine WL.rd (RD.assign rfl) rfl rfl ?_
  refine WL.nil ?_
  refine JE.seqN ?_
  refine J.ret ?_
  refine JE.ret rfl (.tmp rfl (.tmp rfl .nil)) (fun w hS => ?_)
  exact CN.fin hS v23 (by rw [decide_eq_false (show ¬ cirOk n k l xs bar from by assumption)]; rfl) trivial (SubM.row rfl rfl (by unfold cirI; rw [if_neg (show ¬ cirOk n k l xs bar from by assumption)]; rfl) .nil) (by simp [En.rdb])
 ·
  refine J.skip ?_
  refine JE.seqN ?_
  refine J.seq ?_
  have hok : cirOk n k l xs bar := Decidable.not_not.1 hc22
  refine J.reg ?_
  refine WL.efS (EF.build0) rfl rfl ?_
  intro v24 _
  refine WL.rd (RD.assign rfl) rfl rfl ?_
  refine WL.nil ?_
  refine JE.seqN ?_
  refine J.seq ?_
  refine J.seq ?_
  refine J.reg ?_
  refine WL.rd (RD.loadA rfl rfl) rfl rfl ?_
  refine WL.rd (RD.move rfl) rfl rfl ?_
  refine WL.rd (RD.move rfl) rfl rfl ?_
  refine WL.efS (EF.callN (.cons rfl (.cons rfl (.cons rfl .nil))) (fun w hS => iAcceptedBars_c _ _ _ _ _ _ (by exact RdI.rd hS) (by first | assumption | (constructor <;> decide) | omega) (by first | assumption | (constructor <;> decide) | omega))) rfl rfl ?_
  rintro v28 -
  refine WL.rd (RD.lenR rfl) rfl rfl ?_
  refine WL.rd (RD.move rfl) rfl rfl ?_
  refine WL.nil ?_
  refine JE.seqN ?_
  refine J.block ?_
  refine J.loop (fun gg ee mm => ∃ (c : Nat), ∃ (u : Value), gg = (runP n k l xs).pl.length - c ∧ ((c ≤ (runP n k l xs).pl.length)) ∧ ee = [(10, u), (28, v28), (29, .int .i64 ((runP n k l xs).pl.length : Int)), (30, .int .i64 (c : Int)), (1, .int .i64 k), (2, .int .i64 l), (3, .int .i64 bar), (4, .pointer (some ⟨b4, 0, none⟩))] ∧ mm = [.row u 3 1 ((basL n k l xs bar c).map iv), .cells b4 26 [.int .i64 n, v], .ro v 2 (xs.map bv), .row v28 3 1 (((runP n k l xs).pl).map iv)]) _ ⟨0, v24, rfl, ?_, rfl, rfl⟩ ?_ ?_ ?_
  · omega
  · exact (Sub.consE rfl (by first | rfl | (congr 1; omega) | (simp; done)) (Sub.consE rfl (by first | rfl | (congr 1; omega) | (simp; done)) (Sub.consE rfl (by first | rfl | (congr 1; omega) | (simp; done)) (Sub.consE rfl (by first | rfl | (congr 1; omega) | (simp; done)) (Sub.consE rfl (by first | rfl | (congr 1; omega) | (simp; done)) (Sub.consE rfl (by first | rfl | (congr 1; omega) | (simp; done)) (Sub.consE rfl (by first | rfl | (congr 1; omega) | (simp; done)) (Sub.consE rfl (by first | rfl | (congr 1; omega) | (simp; done)) .nil))))))))
  · exact (SubM.row rfl rfl (by first | rfl | (simp [iv, bv, yv, tv, sv]; done)) (SubM.cells rfl (by first | rfl | (simp; done)) (SubM.ro rfl (by first | rfl | (simp [iv, bv, yv, tv, sv]; done)) (SubM.row rfl rfl (by first | rfl | (simp [iv, bv, yv, tv, sv]; done)) .nil))))
  ·
   rintro g _ _ ⟨c, u, rfl, hI, rfl, rfl⟩
   have hbl : (basL n k l xs bar c).length ≤ c := filt_len _ c _
   refine J.seq ?_
   refine J.reg ?_
   refine WL.rd (RD.lss rfl rfl) rfl rfl ?_
   refine WL.nil ?_
   refine JE.seqN ?_
   refine J.seq ?_
   refine J.condP rfl (fun hc31 => ?_) (fun hc31 => ?_)
   ·
    refine J.skip ?_
    refine JE.seqN ?_
    refine J.seq ?_
    refine J.block ?_
    refine J.seq ?_
    refine J.reg ?_
    refine WL.rd (RD.idx rfl rfl (by omega) rfl) rfl rfl ?_
    refine WL.rd (RD.loadE rfl (by omega) rfl) rfl rfl ?_
    refine WL.rd (RD.assign rfl) rfl rfl ?_
    refine WL.nil ?_
    refine JE.seqN ?_
    refine J.seq ?_
    refine J.reg ?_
    refine WL.rd (RD.move rfl) rfl rfl ?_
    refine WL.rd (RD.move rfl) rfl rfl ?_
    refine WL.rd (RD.lss rfl rfl) rfl rfl ?_
    refine WL.nil ?_
    refine JE.seqN ?_
    refine J.condP rfl (fun hc36 => ?_) (fun hc36 => ?_)
    ·
     refine J.reg ?_
     refine WL.rd (RD.move rfl) rfl rfl ?_
     refine WL.rd (RD.move rfl) rfl rfl ?_
     refine WL.efS (EF.build1 rfl) rfl rfl ?_
     intro v39 _
     refine WL.efS (EF.append rfl rfl (by omega) rfl rfl rfl) rfl rfl ?_
     intro v40 _
     refine WL.rd (RD.assign rfl) rfl rfl ?_
     refine WL.nil ?_
     refine JE.blockN ?_
     refine JE.seqN ?_
     refine J.reg ?_
     refine WL.rd (RD.add rfl rfl (by omega) (by omega)) rfl rfl ?_
     refine WL.rd (RD.move rfl) rfl rfl ?_
     refine WL.nil ?_
     refine JE.cutN ⟨_, ?_, c + 1, v40, rfl, ?_, rfl, rfl⟩ ?_ ?_
     · omega
     · omega
     · exact (Sub.consE rfl (by first | rfl | (congr 1; omega) | (simp; done)) (Sub.consE rfl (by first | rfl | (congr 1; omega) | (simp; done)) (Sub.consE rfl (by first | rfl | (congr 1; omega) | (simp; done)) (Sub.consE rfl (by first | rfl | (congr 1; omega) | (simp; done)) (Sub.consE rfl (by first | rfl | (congr 1; omega) | (simp; done)) (Sub.consE rfl (by first | rfl | (congr 1; omega) | (simp; done)) (Sub.consE rfl (by first | rfl | (congr 1; omega) | (simp; done)) (Sub.consE rfl (by first | rfl | (congr 1; omega) | (simp; done)) .nil))))))))
     · exact (SubM.row rfl rfl (by first | rfl | (unfold basL; rw [filt_yes (fun e => decide (e < bar)) (by omega) (decide_eq_true hc36)])) (SubM.cells rfl (by first | rfl | (unfold basL; rw [filt_yes (fun e => decide (e < bar)) (by omega) (decide_eq_true hc36)])) (SubM.ro rfl (by first | rfl | (unfold basL; rw [filt_yes (fun e => decide (e < bar)) (by omega) (decide_eq_true hc36)])) (SubM.row rfl rfl (by first | rfl | (unfold basL; rw [filt_yes (fun e => decide (e < bar)) (by omega) (decide_eq_true hc36)])) .nil))))
    ·
     refine J.skip ?_
     refine JE.blockN ?_
     refine JE.seqN ?_
     refine J.reg ?_
     refine WL.rd (RD.add rfl rfl (by omega) (by omega)) rfl rfl ?_
     refine WL.rd (RD.move rfl) rfl rfl ?_
     refine WL.nil ?_
     refine JE.cutN ⟨_, ?_, c + 1, u, rfl, ?_, rfl, rfl⟩ ?_ ?_
     · omega
     · omega
     · exact (Sub.consE rfl (by first | rfl | (congr 1; omega) | (simp; done)) (Sub.consE rfl (by first | rfl | (congr 1; omega) | (simp; done)) (Sub.consE rfl (by first | rfl | (congr 1; omega) | (simp; done)) (Sub.consE rfl (by first | rfl | (congr 1; omega) | (simp; done)) (Sub.consE rfl (by first | rfl | (congr 1; omega) | (simp; done)) (Sub.consE rfl (by first | rfl | (congr 1; omega) | (simp; done)) (Sub.consE rfl (by first | rfl | (congr 1; omega) | (simp; done)) (Sub.consE rfl (by first | rfl | (congr 1; omega) | (simp; done)) .nil))))))))
     · exact (SubM.row rfl rfl (by first | rfl | (unfold basL; rw [filt_no (fun e => decide (e < bar)) (by omega) (decide_eq_false hc36)])) (SubM.cells rfl (by first | rfl | (unfold basL; rw [filt_no (fun e => decide (e < bar)) (by omega) (decide_eq_false hc36)])) (SubM.ro rfl (by first | rfl | (unfold basL; rw [filt_no (fun e => decide (e < bar)) (by omega) (decide_eq_false hc36)])) (SubM.row rfl rfl (by first | rfl | (unfold basL; rw [filt_no (fun e => decide (e < bar)) (by omega) (decide_eq_false hc36)])) .nil))))
   ·
    refine J.exit ?_
    refine JE.seqX ?_
    refine JE.cutX ?_
    refine JE.blockHit ?_
    refine JE.seqN ?_
    refine J.seq ?_
    refine J.reg ?_
    refine WL.efS (EF.build0) rfl rfl ?_
    intro v42 _
    refine WL.rd (RD.assign rfl) rfl rfl ?_
    refine WL.nil ?_
    refine JE.seqN ?_
    refine J.seq ?_
    refine J.seq ?_
    refine J.reg ?_
    refine WL.rd (RD.move rfl) rfl rfl ?_
    refine WL.rd (RD.lenR rfl) rfl rfl ?_
    refine WL.rd (RD.move rfl) rfl rfl ?_
    refine WL.nil ?_
    refine JE.seqN ?_
    refine J.block ?_
    refine J.loop (fun gg ee mm => ∃ (i : Nat), ∃ (u2 : Value), gg = (basA n k l xs bar).length - i ∧ ((i ≤ (basA n k l xs bar).length)) ∧ ee = [(13, u2), (10, u), (44, .int .i64 ((basA n k l xs bar).length : Int)), (45, .int .i64 (i : Int)), (1, .int .i64 k), (2, .int .i64 l), (3, .int .i64 bar), (4, .pointer (some ⟨b4, 0, none⟩))] ∧ mm = [.row u2 3 1 ((selP (cirF n k l xs bar) (basA n k l xs bar) i).map iv), .row u 3 1 (((basA n k l xs bar)).map iv), .cells b4 26 [.int .i64 n, v], .ro v 2 (xs.map bv), .row v28 3 1 (((runP n k l xs).pl).map iv)]) _ ⟨0, v42, rfl, ?_, rfl, rfl⟩ ?_ ?_ ?_
    · omega
    · exact (Sub.consE rfl (by first | rfl | (congr 1; omega) | (simp; done)) (Sub.consE rfl (by first | rfl | (congr 1; omega) | (simp; done)) (Sub.consE rfl (by first | rfl | (rw [show c = (runP n k l xs).pl.length by omega]; rfl)) (Sub.consE rfl (by first | rfl | (congr 1; omega) | (simp; done)) (Sub.consE rfl (by first | rfl | (congr 1; omega) | (simp; done)) (Sub.consE rfl (by first | rfl | (congr 1; omega) | (simp; done)) (Sub.consE rfl (by first | rfl | (congr 1; omega) | (simp; done)) (Sub.consE rfl (by first | rfl | (congr 1; omega) | (simp; done)) .nil))))))))
    · exact (SubM.row rfl rfl (by first | rfl | (rw [show c = (runP n k l xs).pl.length by omega]; rfl)) (SubM.row rfl rfl (by first | rfl | (rw [show c = (runP n k l xs).pl.length by omega]; rfl)) (SubM.cells rfl (by first | rfl | (rw [show c = (runP n k l xs).pl.length by omega]; rfl)) (SubM.ro rfl (by first | rfl | (rw [show c = (runP n k l xs).pl.length by omega]; rfl)) (SubM.row rfl rfl (by first | rfl | (rw [show c = (runP n k l xs).pl.length by omega]; rfl)) .nil)))))
    ·
     rintro g _ _ ⟨i, u2, rfl, hJ, rfl, rfl⟩
     have hsl := selP_le (cirF n k l xs bar) (basA n k l xs bar) i
     refine J.seq ?_
     refine J.reg ?_
     refine WL.rd (RD.lss rfl rfl) rfl rfl ?_
     refine WL.nil ?_
     refine JE.seqN ?_
     refine J.seq ?_
     refine J.condP rfl (fun hc46 => ?_) (fun hc46 => ?_)
     ·
      refine J.skip ?_
      refine JE.seqN ?_
      refine J.seq ?_
      refine J.block ?_
      refine J.seq ?_
      refine J.reg ?_
      refine WL.rd (RD.move rfl) rfl rfl ?_
      refine WL.rd (RD.assign rfl) rfl rfl ?_
      refine WL.nil ?_
      refine JE.seqN ?_
      refine J.seq ?_
      have hrt : (((basA n k l xs bar).take i).drop 0 ++ ((basA n k l xs bar).take (basA n k l xs bar).length).drop (i + 1) ++ [bar]) = rtL (basA n k l xs bar) i ++ [bar] := by unfold rtL; rw [List.drop_zero, List.take_length]
      have hrtl : (rtL (basA n k l xs bar) i ++ [bar]).length = (basA n k l xs bar).length := by rw [List.length_append, rtL_len (by omega), List.length_singleton]; omega
      have htk : (((basA n k l xs bar).take i).drop 0).length ≤ 1048576 := by rw [List.drop_zero, List.length_take]; omega
      refine J.anyAll [] ?_
      refine WA.takeP 0 rfl (RDP.of fun _ => RD.move rfl) rfl (by kernel_rfl) rfl ?_
      refine WA.takeP 1 rfl (RDP.of fun _ => RD.move rfl) rfl (by kernel_rfl) rfl ?_
      refine WA.takeP 2 rfl (RDP.sliceR (l := 0) (u := i) rfl rfl ⟨_, _, rfl, (by first | rfl | (simp; done) | omega)⟩ (by omega) (by omega) rfl) rfl (by kernel_rfl) rfl ?_
      refine WA.takeP 4 rfl (RDP.of fun _ => RD.move rfl) rfl (by kernel_rfl) rfl ?_
      refine WA.takeP 5 rfl (RDP.of fun _ => RD.move rfl) rfl (by kernel_rfl) rfl ?_
      refine WA.takeP 6 rfl (RDP.of fun _ => RD.add rfl rfl (by omega) (by omega)) rfl (by kernel_rfl) rfl ?_
      refine WA.takeP 7 rfl (RDP.sliceR (l := i + 1) (u := (basA n k l xs bar).length) rfl ⟨_, _, rfl, (by first | rfl | (simp; done) | omega)⟩ rfl (by omega) (by omega) rfl) rfl (by kernel_rfl) rfl ?_
      refine WA.takeP 9 rfl (RDP.of fun _ => RD.move rfl) rfl (by kernel_rfl) rfl ?_
      refine WA.two (i := 3) (j := 10) (by kernel_rfl) ?_ ?_
      ·
       refine WAi.efS rfl (EF.callN (.cons rfl .nil) (fun w hS => copyInts_c _ _ _ (by exact RdI.rd hS) (by omega))) rfl rfl (fun _ => SubI.sub) ?_
       rintro v51 -
       refine WA.two (i := 8) (j := 10) (by kernel_rfl) ?_ ?_
       ·
        refine WAi.efS rfl (EF.append rfl rfl (by omega) rfl rfl rfl) rfl rfl (fun _ => SubI.sub) ?_
        intro v56 _
        refine WA.one (i := 10) (by kernel_rfl) ?_
        refine WAi.efS rfl (EF.build1 rfl) rfl rfl (fun _ => SubI.sub) ?_
        intro v58 _
        refine WA.one (i := 11) (by kernel_rfl) ?_
        refine WAi.efS rfl (EF.append rfl rfl (by omega) rfl rfl rfl) rfl rfl (fun _ => SubI.sub) ?_
        intro v59 _
        refine WA.takeP 12 rfl (RDP.of fun _ => RD.assign rfl) rfl (by kernel_rfl) rfl ?_
        refine WA.done (by kernel_rfl) ?_
        refine JE.seqN ?_
        refine J.seq ?_
        refine J.reg ?_
        refine WL.rd (RD.loadA rfl rfl) rfl rfl ?_
        refine WL.rd (RD.move rfl) rfl rfl ?_
        refine WL.rd (RD.move rfl) rfl rfl ?_
        refine WL.rd (RD.move rfl) rfl rfl ?_
        refine WL.efS (EF.callS (.cons rfl (.cons rfl (.cons rfl (.cons rfl .nil)))) (fun w hS => iRankOfSet_c _ _ _ _ _ _ _ _ (by exact RdI.rd hS) (by first | assumption | (constructor <;> decide) | omega) (by first | assumption | (constructor <;> decide) | omega) (by exact RdI.rd hS) (by omega))) rfl rfl ?_
        rintro ⟨⟩ -
        refine WL.rd (RD.move rfl) rfl rfl ?_
        refine WL.rd (RD.lenR rfl) rfl rfl ?_
        refine WL.rd (RD.eql rfl rfl) rfl rfl ?_
        refine WL.nil ?_
        refine JE.seqN ?_
        refine J.condP rfl (fun hc67 => ?_) (fun hc67 => ?_)
        ·
         have hcf : (cirF n k l xs bar) i = true := by unfold cirF; rw [hrt] at hc67; exact decide_eq_true (by rw [hc67]; omega)
         refine J.reg ?_
         refine WL.rd (RD.move rfl) rfl rfl ?_
         refine WL.rd (RD.move rfl) rfl rfl ?_
         refine WL.rd (RD.move rfl) rfl rfl ?_
         refine WL.rd (RD.idx rfl rfl (by omega) rfl) rfl rfl ?_
         refine WL.rd (RD.loadE rfl (by omega) rfl) rfl rfl ?_
         refine WL.efS (EF.build1 rfl) rfl rfl ?_
         intro v73 _
         refine WL.efS (EF.append rfl rfl (by omega) rfl rfl rfl) rfl rfl ?_
         intro v74 _
         refine WL.rd (RD.assign rfl) rfl rfl ?_
         refine WL.nil ?_
         refine JE.blockN ?_
         refine JE.seqN ?_
         refine J.reg ?_
         refine WL.rd (RD.add rfl rfl (by omega) (by omega)) rfl rfl ?_
         refine WL.rd (RD.move rfl) rfl rfl ?_
         refine WL.nil ?_
         refine JE.cutN ⟨_, ?_, i + 1, v74, rfl, ?_, rfl, rfl⟩ ?_ ?_
         · omega
         · omega
         · exact (Sub.consE rfl (by first | rfl | (congr 1; omega) | (simp; done)) (Sub.consE rfl (by first | rfl | (congr 1; omega) | (simp; done)) (Sub.consE rfl (by first | rfl | (congr 1; omega) | (simp; done)) (Sub.consE rfl (by first | rfl | (congr 1; omega) | (simp; done)) (Sub.consE rfl (by first | rfl | (congr 1; omega) | (simp; done)) (Sub.consE rfl (by first | rfl | (congr 1; omega) | (simp; done)) (Sub.consE rfl (by first | rfl | (congr 1; omega) | (simp; done)) (Sub.consE rfl (by first | rfl | (congr 1; omega) | (simp; done)) .nil))))))))
         · exact (SubM.row rfl rfl (by first | rfl | rw [selP_yes _ _ _ hcf]) (SubM.row rfl rfl (by first | rfl | rw [selP_yes _ _ _ hcf]) (SubM.cells rfl (by first | rfl | rw [selP_yes _ _ _ hcf]) (SubM.ro rfl (by first | rfl | rw [selP_yes _ _ _ hcf]) (SubM.row rfl rfl (by first | rfl | rw [selP_yes _ _ _ hcf]) .nil)))))
        ·
         have hcf : ¬ (cirF n k l xs bar) i = true := by unfold cirF; rw [hrt] at hc67; exact fun hh => hc67 (by rw [of_decide_eq_true hh]; omega)
         refine J.skip ?_
         refine JE.blockN ?_
         refine JE.seqN ?_
         refine J.reg ?_
         refine WL.rd (RD.add rfl rfl (by omega) (by omega)) rfl rfl ?_
         refine WL.rd (RD.move rfl) rfl rfl ?_
         refine WL.nil ?_
         refine JE.cutN ⟨_, ?_, i + 1, u2, rfl, ?_, rfl, rfl⟩ ?_ ?_
         · omega
         · omega
         · exact (Sub.consE rfl (by first | rfl | (congr 1; omega) | (simp; done)) (Sub.consE rfl (by first | rfl | (congr 1; omega) | (simp; done)) (Sub.consE rfl (by first | rfl | (congr 1; omega) | (simp; done)) (Sub.consE rfl (by first | rfl | (congr 1; omega) | (simp; done)) (Sub.consE rfl (by first | rfl | (congr 1; omega) | (simp; done)) (Sub.consE rfl (by first | rfl | (congr 1; omega) | (simp; done)) (Sub.consE rfl (by first | rfl | (congr 1; omega) | (simp; done)) (Sub.consE rfl (by first | rfl | (congr 1; omega) | (simp; done)) .nil))))))))
         · exact (SubM.row rfl rfl (by first | rfl | rw [selP_no _ _ _ hcf]) (SubM.row rfl rfl (by first | rfl | rw [selP_no _ _ _ hcf]) (SubM.cells rfl (by first | rfl | rw [selP_no _ _ _ hcf]) (SubM.ro rfl (by first | rfl | rw [selP_no _ _ _ hcf]) (SubM.row rfl rfl (by first | rfl | rw [selP_no _ _ _ hcf]) .nil)))))
       ·
        refine WAi.efS rfl (EF.build1 rfl) rfl rfl (fun _ => SubI.sub) ?_
        intro v58 _
        refine WA.one (i := 8) (by kernel_rfl) ?_
        refine WAi.efS rfl (EF.append rfl rfl (by omega) rfl rfl rfl) rfl rfl (fun _ => SubI.sub) ?_
        intro v56 _
        refine WA.one (i := 11) (by kernel_rfl) ?_
        refine WAi.efS rfl (EF.append rfl rfl (by omega) rfl rfl rfl) rfl rfl (fun _ => SubI.sub) ?_
        intro v59 _
        refine WA.takeP 12 rfl (RDP.of fun _ => RD.assign rfl) rfl (by kernel_rfl) rfl ?_
        refine WA.done (by kernel_rfl) ?_
        refine JE.seqN ?_
        refine J.seq ?_
        refine J.reg ?_
        refine WL.rd (RD.loadA rfl rfl) rfl rfl ?_
        refine WL.rd (RD.move rfl) rfl rfl ?_
        refine WL.rd (RD.move rfl) rfl rfl ?_
        refine WL.rd (RD.move rfl) rfl rfl ?_
        refine WL.efS (EF.callS (.cons rfl (.cons rfl (.cons rfl (.cons rfl .nil)))) (fun w hS => iRankOfSet_c _ _ _ _ _ _ _ _ (by exact RdI.rd hS) (by first | assumption | (constructor <;> decide) | omega) (by first | assumption | (constructor <;> decide) | omega) (by exact RdI.rd hS) (by omega))) rfl rfl ?_
        rintro ⟨⟩ -
        refine WL.rd (RD.move rfl) rfl rfl ?_
        refine WL.rd (RD.lenR rfl) rfl rfl ?_
        refine WL.rd (RD.eql rfl rfl) rfl rfl ?_
        refine WL.nil ?_
        refine JE.seqN ?_
        refine J.condP rfl (fun hc67 => ?_) (fun hc67 => ?_)
        ·
         have hcf : (cirF n k l xs bar) i = true := by unfold cirF; rw [hrt] at hc67; exact decide_eq_true (by rw [hc67]; omega)
         refine J.reg ?_
         refine WL.rd (RD.move rfl) rfl rfl ?_
         refine WL.rd (RD.move rfl) rfl rfl ?_
         refine WL.rd (RD.move rfl) rfl rfl ?_
         refine WL.rd (RD.idx rfl rfl (by omega) rfl) rfl rfl ?_
         refine WL.rd (RD.loadE rfl (by omega) rfl) rfl rfl ?_
         refine WL.efS (EF.build1 rfl) rfl rfl ?_
         intro v73 _
         refine WL.efS (EF.append rfl rfl (by omega) rfl rfl rfl) rfl rfl ?_
         intro v74 _
         refine WL.rd (RD.assign rfl) rfl rfl ?_
         refine WL.nil ?_
         refine JE.blockN ?_
         refine JE.seqN ?_
         refine J.reg ?_
         refine WL.rd (RD.add rfl rfl (by omega) (by omega)) rfl rfl ?_
         refine WL.rd (RD.move rfl) rfl rfl ?_
         refine WL.nil ?_
         refine JE.cutN ⟨_, ?_, i + 1, v74, rfl, ?_, rfl, rfl⟩ ?_ ?_
         · omega
         · omega
         · exact (Sub.consE rfl (by first | rfl | (congr 1; omega) | (simp; done)) (Sub.consE rfl (by first | rfl | (congr 1; omega) | (simp; done)) (Sub.consE rfl (by first | rfl | (congr 1; omega) | (simp; done)) (Sub.consE rfl (by first | rfl | (congr 1; omega) | (simp; done)) (Sub.consE rfl (by first | rfl | (congr 1; omega) | (simp; done)) (Sub.consE rfl (by first | rfl | (congr 1; omega) | (simp; done)) (Sub.consE rfl (by first | rfl | (congr 1; omega) | (simp; done)) (Sub.consE rfl (by first | rfl | (congr 1; omega) | (simp; done)) .nil))))))))
         · exact (SubM.row rfl rfl (by first | rfl | rw [selP_yes _ _ _ hcf]) (SubM.row rfl rfl (by first | rfl | rw [selP_yes _ _ _ hcf]) (SubM.cells rfl (by first | rfl | rw [selP_yes _ _ _ hcf]) (SubM.ro rfl (by first | rfl | rw [selP_yes _ _ _ hcf]) (SubM.row rfl rfl (by first | rfl | rw [selP_yes _ _ _ hcf]) .nil)))))
        ·
         have hcf : ¬ (cirF n k l xs bar) i = true := by unfold cirF; rw [hrt] at hc67; exact fun hh => hc67 (by rw [of_decide_eq_true hh]; omega)
         refine J.skip ?_
         refine JE.blockN ?_
         refine JE.seqN ?_
         refine J.reg ?_
         refine WL.rd (RD.add rfl rfl (by omega) (by omega)) rfl rfl ?_
         refine WL.rd (RD.move rfl) rfl rfl ?_
         refine WL.nil ?_
         refine JE.cutN ⟨_, ?_, i + 1, u2, rfl, ?_, rfl, rfl⟩ ?_ ?_
         · omega
         · omega
         · exact (Sub.consE rfl (by first | rfl | (congr 1; omega) | (simp; done)) (Sub.consE rfl (by first | rfl | (congr 1; omega) | (simp; done)) (Sub.consE rfl (by first | rfl | (congr 1; omega) | (simp; done)) (Sub.consE rfl (by first | rfl | (congr 1; omega) | (simp; done)) (Sub.consE rfl (by first | rfl | (congr 1; omega) | (simp; done)) (Sub.consE rfl (by first | rfl | (congr 1; omega) | (simp; done)) (Sub.consE rfl (by first | rfl | (congr 1; omega) | (simp; done)) (Sub.consE rfl (by first | rfl | (congr 1; omega) | (simp; done)) .nil))))))))
         · exact (SubM.row rfl rfl (by first | rfl | rw [selP_no _ _ _ hcf]) (SubM.row rfl rfl (by first | rfl | rw [selP_no _ _ _ hcf]) (SubM.cells rfl (by first | rfl | rw [selP_no _ _ _ hcf]) (SubM.ro rfl (by first | rfl | rw [selP_no _ _ _ hcf]) (SubM.row rfl rfl (by first | rfl | rw [selP_no _ _ _ hcf]) .nil)))))
      ·
       refine WAi.efS rfl (EF.build1 rfl) rfl rfl (fun _ => SubI.sub) ?_
       intro v58 _
       refine WA.one (i := 3) (by kernel_rfl) ?_
       refine WAi.efS rfl (EF.callN (.cons rfl .nil) (fun w hS => copyInts_c _ _ _ (by exact RdI.rd hS) (by omega))) rfl rfl (fun _ => SubI.sub) ?_
       rintro v51 -
       refine WA.one (i := 8) (by kernel_rfl) ?_
       refine WAi.efS rfl (EF.append rfl rfl (by omega) rfl rfl rfl) rfl rfl (fun _ => SubI.sub) ?_
       intro v56 _
       refine WA.one (i := 11) (by kernel_rfl) ?_
       refine WAi.efS rfl (EF.append rfl rfl (by omega) rfl rfl rfl) rfl rfl (fun _ => SubI.sub) ?_
       intro v59 _
       refine WA.takeP 12 rfl (RDP.of fun _ => RD.assign rfl) rfl (by kernel_rfl) rfl ?_
       refine WA.done (by kernel_rfl) ?_
       refine JE.seqN ?_
       refine J.seq ?_
       refine J.reg ?_
       refine WL.rd (RD.loadA rfl rfl) rfl rfl ?_
       refine WL.rd (RD.move rfl) rfl rfl ?_
       refine WL.rd (RD.move rfl) rfl rfl ?_
       refine WL.rd (RD.move rfl) rfl rfl ?_
       refine WL.efS (EF.callS (.cons rfl (.cons rfl (.cons rfl (.cons rfl .nil)))) (fun w hS => iRankOfSet_c _ _ _ _ _ _ _ _ (by exact RdI.rd hS) (by first | assumption | (constructor <;> decide) | omega) (by first | assumption | (constructor <;> decide) | omega) (by exact RdI.rd hS) (by omega))) rfl rfl ?_
       rintro ⟨⟩ -
       refine WL.rd (RD.move rfl) rfl rfl ?_
       refine WL.rd (RD.lenR rfl) rfl rfl ?_
       refine WL.rd (RD.eql rfl rfl) rfl rfl ?_
       refine WL.nil ?_
       refine JE.seqN ?_
       refine J.condP rfl (fun hc67 => ?_) (fun hc67 => ?_)
       ·
        have hcf : (cirF n k l xs bar) i = true := by unfold cirF; rw [hrt] at hc67; exact decide_eq_true (by rw [hc67]; omega)
        refine J.reg ?_
        refine WL.rd (RD.move rfl) rfl rfl ?_
        refine WL.rd (RD.move rfl) rfl rfl ?_
        refine WL.rd (RD.move rfl) rfl rfl ?_
        refine WL.rd (RD.idx rfl rfl (by omega) rfl) rfl rfl ?_
        refine WL.rd (RD.loadE rfl (by omega) rfl) rfl rfl ?_
        refine WL.efS (EF.build1 rfl) rfl rfl ?_
        intro v73 _
        refine WL.efS (EF.append rfl rfl (by omega) rfl rfl rfl) rfl rfl ?_
        intro v74 _
        refine WL.rd (RD.assign rfl) rfl rfl ?_
        refine WL.nil ?_
        refine JE.blockN ?_
        refine JE.seqN ?_
        refine J.reg ?_
        refine WL.rd (RD.add rfl rfl (by omega) (by omega)) rfl rfl ?_
        refine WL.rd (RD.move rfl) rfl rfl ?_
        refine WL.nil ?_
        refine JE.cutN ⟨_, ?_, i + 1, v74, rfl, ?_, rfl, rfl⟩ ?_ ?_
        · omega
        · omega
        · exact (Sub.consE rfl (by first | rfl | (congr 1; omega) | (simp; done)) (Sub.consE rfl (by first | rfl | (congr 1; omega) | (simp; done)) (Sub.consE rfl (by first | rfl | (congr 1; omega) | (simp; done)) (Sub.consE rfl (by first | rfl | (congr 1; omega) | (simp; done)) (Sub.consE rfl (by first | rfl | (congr 1; omega) | (simp; done)) (Sub.consE rfl (by first | rfl | (congr 1; omega) | (simp; done)) (Sub.consE rfl (by first | rfl | (congr 1; omega) | (simp; done)) (Sub.consE rfl (by first | rfl | (congr 1; omega) | (simp; done)) .nil))))))))
        · exact (SubM.row rfl rfl (by first | rfl | rw [selP_yes _ _ _ hcf]) (SubM.row rfl rfl (by first | rfl | rw [selP_yes _ _ _ hcf]) (SubM.cells rfl (by first | rfl | rw [selP_yes _ _ _ hcf]) (SubM.ro rfl (by first | rfl | rw [selP_yes _ _ _ hcf]) (SubM.row rfl rfl (by first | rfl | rw [selP_yes _ _ _ hcf]) .nil)))))
       ·
        have hcf : ¬ (cirF n k l xs bar) i = true := by unfold cirF; rw [hrt] at hc67; exact fun hh => hc67 (by rw [of_decide_eq_true hh]; omega)
        refine J.skip ?_
        refine JE.blockN ?_
        refine JE.seqN ?_
        refine J.reg ?_
        refine WL.rd (RD.add rfl rfl (by omega) (by omega)) rfl rfl ?_
        refine WL.rd (RD.move rfl) rfl rfl ?_
        refine WL.nil ?_
        refine JE.cutN ⟨_, ?_, i + 1, u2, rfl, ?_, rfl, rfl⟩ ?_ ?_
        · omega
        · omega
        · exact (Sub.consE rfl (by first | rfl | (congr 1; omega) | (simp; done)) (Sub.consE rfl (by first | rfl | (congr 1; omega) | (simp; done)) (Sub.consE rfl (by first | rfl | (congr 1; omega) | (simp; done)) (Sub.consE rfl (by first | rfl | (congr 1; omega) | (simp; done)) (Sub.consE rfl (by first | rfl | (congr 1; omega) | (simp; done)) (Sub.consE rfl (by first | rfl | (congr 1; omega) | (simp; done)) (Sub.consE rfl (by first | rfl | (congr 1; omega) | (simp; done)) (Sub.consE rfl (by first | rfl | (congr 1; omega) | (simp; done)) .nil))))))))
        · exact (SubM.row rfl rfl (by first | rfl | rw [selP_no _ _ _ hcf]) (SubM.row rfl rfl (by first | rfl | rw [selP_no _ _ _ hcf]) (SubM.cells rfl (by first | rfl | rw [selP_no _ _ _ hcf]) (SubM.ro rfl (by first | rfl | rw [selP_no _ _ _ hcf]) (SubM.row rfl rfl (by first | rfl | rw [selP_no _ _ _ hcf]) .nil)))))
     ·
      refine J.exit ?_
      refine JE.seqX ?_
      refine JE.cutX ?_
      refine JE.blockHit ?_
      refine JE.seqN ?_
      refine J.seq ?_
      refine J.reg ?_
      refine WL.rd (RD.move rfl) rfl rfl ?_
      refine WL.rd (RD.move rfl) rfl rfl ?_
      refine WL.efS (EF.build1 rfl) rfl rfl ?_
      intro v78 _
      refine WL.efS (EF.append rfl rfl (by omega) rfl rfl rfl) rfl rfl ?_
      intro v79 _
      refine WL.rd (RD.assign rfl) rfl rfl ?_
      refine WL.rd (RD.assign rfl) rfl rfl ?_
      refine WL.nil ?_
      refine JE.seqN ?_
      refine J.ret ?_
      refine JE.ret rfl (.tmp rfl (.tmp rfl .nil)) (fun w hS => ?_)
      exact CN.fin hS v79 (by rw [decide_eq_true hok]; rfl) trivial (SubM.row rfl rfl (by unfold cirI; rw [if_pos hok, show (basA n k l xs bar).length = i by omega]) .nil) (by simp [En.rdb])
theorem sCircuitOf_c (n : Int) (v : Value) (xs : List (Int × Int)) (k l bar : Int) (w : World) (hr : Rd w v 2 (xs.map bv)) (hk : -9223372036854775808 ≤ k ∧ k ≤ 9223372036854775807) (hl : -9223372036854775808 ≤ l ∧ l ≤ 9223372036854775807) (hlx : xs.length ≤ 1048576) :
    CN Try.prog 92 [.agg #[.int .i64 n, v], .int .i64 k, .int .i64 l, .int .i64 bar] w Value (fun _ => True) (fun u => .tuple #[u, .bool (decide (cirOk n k l xs bar))]) (fun u => [.row u 3 1 ((cirI n k l xs bar).map iv)]) := by
 have hl_xs : xs.length ≤ 9223372036854775807 := (by obtain ⟨_, _, _, hh, _⟩ := hr.shape; simpa using hh)
 have hrl := runP_len n k l xs
 have hbal := basA_len n k l xs bar
 refine calls_of_J (mu := (fun _ => False)) (m := [.ro v 2 (xs.map bv)]) (e := [(0, .agg #[.int .i64 n, v]), (1, .int .i64 k), (2, .int .i64 l), (3, .int .i64 bar)]) Try.func92 rfl rfl (.cons rfl (.cons rfl (.cons rfl (.cons rfl .nil)))) (((St.init _ _).ro0 hr (by decide))) ?_
 refine J.seq ?_
 refine J.reg ?_
 refine WL.efS (EF.boxA rfl) rfl rfl ?_
 intro b4 _
 refine WL.rd (RD.assign rfl) rfl rfl ?_
 refine WL.rd (RD.assign rfl) rfl rfl ?_
 refine WL.nil ?_
 refine JE.seqN ?_
 refine J.seq ?_
 refine J.seq ?_
 refine J.reg ?_
 refine WL.rd (RD.loadA rfl rfl) rfl rfl ?_
 refine WL.rd (RD.move rfl) rfl rfl ?_
 refine WL.rd (RD.move rfl) rfl rfl ?_
 refine WL.efS (EF.callN (.cons rfl (.cons rfl (.cons rfl .nil))) (fun w hS => sRejectedBars_c _ _ _ _ _ _ (by exact RdI.rd hS) (by first | assumption | (constructor <;> decide) | omega) (by first | assumption | (constructor <;> decide) | omega) (by omega))) rfl rfl ?_
 rintro v19 -
 refine WL.rd (RD.move rfl) rfl rfl ?_
 refine WL.efS (EF.callS (.cons rfl (.cons rfl .nil)) (fun w hS => l2Has_c _ _ _ _ (by exact RdI.rd hS))) rfl rfl ?_
 rintro ⟨⟩ -
 refine WL.rd (RD.notP rfl) rfl rfl ?_
 refine WL.nil ?_
 refine JE.seqN ?_
 refine J.condP rfl (fun hc22 => ?_) (fun hc22 => ?_)
 ·
  refine J.seq ?_
  refine J.reg ?_
  refine WL.efS (EF.build0) rfl rfl ?_
  intro v23 _
  refine WL.rd (RD.assign rfl) rfl rfl ?_
  refine WL.rd (RD.assign rfl) rfl rfl ?_
  refine WL.nil ?_
  refine JE.seqN ?_
  refine J.ret ?_
  refine JE.ret rfl (.tmp rfl (.tmp rfl .nil)) (fun w hS => ?_)
  exact CN.fin hS v23 (by rw [decide_eq_false (show ¬ cirOk n k l xs bar from by assumption)]; rfl) trivial (SubM.row rfl rfl (by unfold cirI; rw [if_neg (show ¬ cirOk n k l xs bar from by assumption)]; rfl) .nil) (by simp [En.rdb])
 ·
  refine J.skip ?_
  refine JE.seqN ?_
  refine J.seq ?_
  have hok : cirOk n k l xs bar := Decidable.not_not.1 hc22
  refine J.reg ?_
  refine WL.efS (EF.build0) rfl rfl ?_
  intro v24 _
  refine WL.rd (RD.assign rfl) rfl rfl ?_
  refine WL.nil ?_
  refine JE.seqN ?_
  refine J.seq ?_
  refine J.reg ?_
  refine WL.rd (RD.loadA rfl rfl) rfl rfl ?_
  refine WL.rd (RD.move rfl) rfl rfl ?_
  refine WL.rd (RD.move rfl) rfl rfl ?_
  refine WL.efS (EF.callN (.cons rfl (.cons rfl (.cons rfl .nil))) (fun w hS => sAcceptedBars_c _ _ _ _ _ _ (by exact RdI.rd hS) (by first | assumption | (constructor <;> decide) | omega) (by first | assumption | (constructor <;> decide) | omega) (by omega))) rfl rfl ?_
  rintro v28 -
  refine WL.rd (RD.assign rfl) rfl rfl ?_
  refine WL.nil ?_
  refine JE.seqN ?_
  refine J.seq ?_
  refine J.seq ?_
  refine J.reg ?_
  refine WL.rd (RD.assign rfl) rfl rfl ?_
  refine WL.nil ?_
  refine JE.seqN ?_
  refine J.block ?_
  refine J.loop (fun gg ee mm => ∃ (c : Nat), ∃ (u : Value), gg = (runP n k l xs).pl.length - c ∧ ((c ≤ (runP n k l xs).pl.length)) ∧ ee = [(10, u), (11, v28), (12, .int .i64 (c : Int)), (1, .int .i64 k), (2, .int .i64 l), (3, .int .i64 bar), (4, .pointer (some ⟨b4, 0, none⟩))] ∧ mm = [.row u 3 1 ((basL n k l xs bar c).map iv), .cells b4 26 [.int .i64 n, v], .ro v 2 (xs.map bv), .row v28 3 1 (((runP n k l xs).pl).map iv)]) _ ⟨0, v24, rfl, ?_, rfl, rfl⟩ ?_ ?_ ?_
  · omega
  · exact (Sub.consE rfl (by first | rfl | (congr 1; omega) | (simp; done)) (Sub.consE rfl (by first | rfl | (congr 1; omega) | (simp; done)) (Sub.consE rfl (by first | rfl | (congr 1; omega) | (simp; done)) (Sub.consE rfl (by first | rfl | (congr 1; omega) | (simp; done)) (Sub.consE rfl (by first | rfl | (congr 1; omega) | (simp; done)) (Sub.consE rfl (by first | rfl | (congr 1; omega) | (simp; done)) (Sub.consE rfl (by first | rfl | (congr 1; omega) | (simp; done)) .nil)))))))
  · exact (SubM.row rfl rfl (by first | rfl | (simp [iv, bv, yv, tv, sv]; done)) (SubM.cells rfl (by first | rfl | (simp; done)) (SubM.ro rfl (by first | rfl | (simp [iv, bv, yv, tv, sv]; done)) (SubM.row rfl rfl (by first | rfl | (simp [iv, bv, yv, tv, sv]; done)) .nil))))
  ·
   rintro g _ _ ⟨c, u, rfl, hI, rfl, rfl⟩
   have hbl : (basL n k l xs bar c).length ≤ c := filt_len _ c _
   refine J.seq ?_
   refine J.seq ?_
   refine J.reg ?_
   refine WL.rd (RD.move rfl) rfl rfl ?_
   refine WL.rd (RD.move rfl) rfl rfl ?_
   refine WL.rd (RD.lenR rfl) rfl rfl ?_
   refine WL.rd (RD.lss rfl rfl) rfl rfl ?_
   refine WL.nil ?_
   refine JE.seqN ?_
   refine J.condP rfl (fun hc32 => ?_) (fun hc32 => ?_)
   ·
    refine J.skip ?_
    refine JE.seqN ?_
    refine J.seq ?_
    refine J.block ?_
    refine J.seq ?_
    refine J.reg ?_
    refine WL.rd (RD.move rfl) rfl rfl ?_
    refine WL.rd (RD.move rfl) rfl rfl ?_
    refine WL.rd (RD.idx rfl rfl (by omega) rfl) rfl rfl ?_
    refine WL.rd (RD.loadE rfl (by omega) rfl) rfl rfl ?_
    refine WL.rd (RD.move rfl) rfl rfl ?_
    refine WL.rd (RD.lss rfl rfl) rfl rfl ?_
    refine WL.nil ?_
    refine JE.seqN ?_
    refine J.condP rfl (fun hc40 => ?_) (fun hc40 => ?_)
    ·
     refine J.reg ?_
     refine WL.rd (RD.move rfl) rfl rfl ?_
     refine WL.rd (RD.move rfl) rfl rfl ?_
     refine WL.rd (RD.move rfl) rfl rfl ?_
     refine WL.rd (RD.idx rfl rfl (by omega) rfl) rfl rfl ?_
     refine WL.rd (RD.loadE rfl (by omega) rfl) rfl rfl ?_
     refine WL.efS (EF.build1 rfl) rfl rfl ?_
     intro v46 _
     refine WL.efS (EF.append rfl rfl (by omega) rfl rfl rfl) rfl rfl ?_
     intro v47 _
     refine WL.rd (RD.assign rfl) rfl rfl ?_
     refine WL.nil ?_
     refine JE.blockN ?_
     refine JE.seqN ?_
     refine J.reg ?_
     refine WL.rd (RD.move rfl) rfl rfl ?_
     refine WL.rd (RD.add rfl rfl (by omega) (by omega)) rfl rfl ?_
     refine WL.rd (RD.assign rfl) rfl rfl ?_
     refine WL.nil ?_
     refine JE.cutN ⟨_, ?_, c + 1, v47, rfl, ?_, rfl, rfl⟩ ?_ ?_
     · omega
     · omega
     · exact (Sub.consE rfl (by first | rfl | (congr 1; omega) | (simp; done)) (Sub.consE rfl (by first | rfl | (congr 1; omega) | (simp; done)) (Sub.consE rfl (by first | rfl | (congr 1; omega) | (simp; done)) (Sub.consE rfl (by first | rfl | (congr 1; omega) | (simp; done)) (Sub.consE rfl (by first | rfl | (congr 1; omega) | (simp; done)) (Sub.consE rfl (by first | rfl | (congr 1; omega) | (simp; done)) (Sub.consE rfl (by first | rfl | (congr 1; omega) | (simp; done)) .nil)))))))
     · exact (SubM.row rfl rfl (by first | rfl | (unfold basL; rw [filt_yes (fun e => decide (e < bar)) (by omega) (decide_eq_true hc40)])) (SubM.cells rfl (by first | rfl | (unfold basL; rw [filt_yes (fun e => decide (e < bar)) (by omega) (decide_eq_true hc40)])) (SubM.ro rfl (by first | rfl | (unfold basL; rw [filt_yes (fun e => decide (e < bar)) (by omega) (decide_eq_true hc40)])) (SubM.row rfl rfl (by first | rfl | (unfold basL; rw [filt_yes (fun e => decide (e < bar)) (by omega) (decide_eq_true hc40)])) .nil))))
    ·
     refine J.skip ?_
     refine JE.blockN ?_
     refine JE.seqN ?_
     refine J.reg ?_
     refine WL.rd (RD.move rfl) rfl rfl ?_
     refine WL.rd (RD.add rfl rfl (by omega) (by omega)) rfl rfl ?_
     refine WL.rd (RD.assign rfl) rfl rfl ?_
     refine WL.nil ?_
     refine JE.cutN ⟨_, ?_, c + 1, u, rfl, ?_, rfl, rfl⟩ ?_ ?_
     · omega
     · omega
     · exact (Sub.consE rfl (by first | rfl | (congr 1; omega) | (simp; done)) (Sub.consE rfl (by first | rfl | (congr 1; omega) | (simp; done)) (Sub.consE rfl (by first | rfl | (congr 1; omega) | (simp; done)) (Sub.consE rfl (by first | rfl | (congr 1; omega) | (simp; done)) (Sub.consE rfl (by first | rfl | (congr 1; omega) | (simp; done)) (Sub.consE rfl (by first | rfl | (congr 1; omega) | (simp; done)) (Sub.consE rfl (by first | rfl | (congr 1; omega) | (simp; done)) .nil)))))))
     · exact (SubM.row rfl rfl (by first | rfl | (unfold basL; rw [filt_no (fun e => decide (e < bar)) (by omega) (decide_eq_false hc40)])) (SubM.cells rfl (by first | rfl | (unfold basL; rw [filt_no (fun e => decide (e < bar)) (by omega) (decide_eq_false hc40)])) (SubM.ro rfl (by first | rfl | (unfold basL; rw [filt_no (fun e => decide (e < bar)) (by omega) (decide_eq_false hc40)])) (SubM.row rfl rfl (by first | rfl | (unfold basL; rw [filt_no (fun e => decide (e < bar)) (by omega) (decide_eq_false hc40)])) .nil))))
   ·
    refine J.exit ?_
    refine JE.seqX ?_
    refine JE.cutX ?_
    refine JE.blockHit ?_
    refine JE.seqN ?_
    refine J.seq ?_
    refine J.reg ?_
    refine WL.rd (RD.move rfl) rfl rfl ?_
    refine WL.efS (EF.build1 rfl) rfl rfl ?_
    intro v49 _
    refine WL.rd (RD.assign rfl) rfl rfl ?_
    refine WL.nil ?_
    refine JE.seqN ?_
    refine J.seq ?_
    refine J.reg ?_
    refine WL.rd (RD.move rfl) rfl rfl ?_
    refine WL.rd (RD.move rfl) rfl rfl ?_
    refine WL.efS (EF.callN (.cons rfl (.cons rfl .nil)) (fun w hS => l5With_c _ _ _ _ (by exact RdI.rd hS) (by omega))) rfl rfl ?_
    rintro v52 -
    refine WL.rd (RD.assign rfl) rfl rfl ?_
    refine WL.nil ?_
    refine JE.seqN ?_
    refine J.seq ?_
    refine J.seq ?_
    refine J.reg ?_
    refine WL.rd (RD.assign rfl) rfl rfl ?_
    refine WL.nil ?_
    refine JE.seqN ?_
    refine J.block ?_
    refine J.loop (fun gg ee mm => ∃ (i : Nat), ∃ (u2 : Value), gg = (basA n k l xs bar).length - i ∧ ((i ≤ (basA n k l xs bar).length)) ∧ ee = [(13, u2), (14, v52), (10, u), (15, .int .i64 (i : Int)), (1, .int .i64 k), (2, .int .i64 l), (4, .pointer (some ⟨b4, 0, none⟩))] ∧ mm = [.row u2 3 1 ((selP (cirF n k l xs bar) (basA n k l xs bar) i ++ [bar]).map iv), .row u 3 1 (((basA n k l xs bar)).map iv), .cells b4 26 [.int .i64 n, v], .ro v 2 (xs.map bv), .row v28 3 1 (((runP n k l xs).pl).map iv), .row v52 3 1 (((basA n k l xs bar) ++ [bar]).map iv)]) _ ⟨0, v49, rfl, ?_, rfl, rfl⟩ ?_ ?_ ?_
    · omega
    · exact (Sub.consE rfl (by first | rfl | (congr 1; omega) | (simp; done)) (Sub.consE rfl (by first | rfl | (congr 1; omega) | (simp; done)) (Sub.consE rfl (by first | rfl | (congr 1; omega) | (simp; done)) (Sub.consE rfl (by first | rfl | (congr 1; omega) | (simp; done)) (Sub.consE rfl (by first | rfl | (congr 1; omega) | (simp; done)) (Sub.consE rfl (by first | rfl | (congr 1; omega) | (simp; done)) (Sub.consE rfl (by first | rfl | (congr 1; omega) | (simp; done)) .nil)))))))
    · exact (SubM.row rfl rfl (by first | rfl | (rw [selP_zero]; rfl) | (rw [show c = (runP n k l xs).pl.length by omega]; rfl) | (rw [show c = (runP n k l xs).pl.length by omega]; exact congrArg _ (withL_last _ _ (fun z hz => cir_lt z hz)))) (SubM.row rfl rfl (by first | rfl | (rw [selP_zero]; rfl) | (rw [show c = (runP n k l xs).pl.length by omega]; rfl) | (rw [show c = (runP n k l xs).pl.length by omega]; exact congrArg _ (withL_last _ _ (fun z hz => cir_lt z hz)))) (SubM.cells rfl (by first | rfl | (rw [selP_zero]; rfl) | (rw [show c = (runP n k l xs).pl.length by omega]; rfl) | (rw [show c = (runP n k l xs).pl.length by omega]; exact congrArg _ (withL_last _ _ (fun z hz => cir_lt z hz)))) (SubM.ro rfl (by first | rfl | (rw [selP_zero]; rfl) | (rw [show c = (runP n k l xs).pl.length by omega]; rfl) | (rw [show c = (runP n k l xs).pl.length by omega]; exact congrArg _ (withL_last _ _ (fun z hz => cir_lt z hz)))) (SubM.row rfl rfl (by first | rfl | (rw [selP_zero]; rfl) | (rw [show c = (runP n k l xs).pl.length by omega]; rfl) | (rw [show c = (runP n k l xs).pl.length by omega]; exact congrArg _ (withL_last _ _ (fun z hz => cir_lt z hz)))) (SubM.row rfl rfl (by first | rfl | (rw [selP_zero]; rfl) | (rw [show c = (runP n k l xs).pl.length by omega]; rfl) | (rw [show c = (runP n k l xs).pl.length by omega]; exact congrArg _ (withL_last _ _ (fun z hz => cir_lt z hz)))) .nil))))))
    ·
     rintro g _ _ ⟨i, u2, rfl, hJ, rfl, rfl⟩
     have hsl := selP_le (cirF n k l xs bar) (basA n k l xs bar) i
     refine J.seq ?_
     refine J.seq ?_
     refine J.reg ?_
     refine WL.rd (RD.move rfl) rfl rfl ?_
     refine WL.rd (RD.move rfl) rfl rfl ?_
     refine WL.rd (RD.lenR rfl) rfl rfl ?_
     refine WL.rd (RD.lss rfl rfl) rfl rfl ?_
     refine WL.nil ?_
     refine JE.seqN ?_
     refine J.condP rfl (fun hc56 => ?_) (fun hc56 => ?_)
     ·
      refine J.skip ?_
      refine JE.seqN ?_
      refine J.seq ?_
      refine J.block ?_
      refine J.seq ?_
      have hwo := cir_wo hok (i := i) (by omega)
      have hin := cir_ind hok (i := i) (by omega)
      have hfl : (((basA n k l xs bar) ++ [bar]).filter (fun y => decide (y ≠ (basA n k l xs bar).getD i default))).length ≤ 1048576 := Nat.le_trans (List.length_filter_le _ _) (by rw [List.length_append, List.length_singleton]; omega)
      have hbl1 : ((basA n k l xs bar) ++ [bar]).length ≤ 1048576 := by rw [List.length_append, List.length_singleton]; omega
      refine J.anyAll [] ?_
      refine WA.take 0 rfl (RD.loadA rfl rfl) rfl (by kernel_rfl) rfl ?_
      refine WA.takeP 1 rfl (RDP.of fun _ => RD.move rfl) rfl (by kernel_rfl) rfl ?_
      refine WA.takeP 2 rfl (RDP.of fun _ => RD.move rfl) rfl (by kernel_rfl) rfl ?_
      refine WA.takeP 3 rfl (RDP.of fun _ => RD.move rfl) rfl (by kernel_rfl) rfl ?_
      refine WA.takeP 4 rfl (RDP.of fun _ => RD.move rfl) rfl (by kernel_rfl) rfl ?_
      refine WA.takeP 5 rfl (RDP.of fun _ => RD.move rfl) rfl (by kernel_rfl) rfl ?_
      refine WA.takeP 6 rfl (RDP.idx rfl rfl (by omega) rfl) rfl (by kernel_rfl) rfl ?_
      refine WA.take 7 rfl (RD.loadE rfl (by omega) rfl) rfl (by kernel_rfl) rfl ?_
      refine WA.one (i := 8) (by kernel_rfl) ?_
      refine WAi.efS rfl (EF.callN (.cons rfl (.cons rfl .nil)) (fun w hS => l5Without_c _ _ _ _ (by exact RdI.rd hS) (by omega))) rfl rfl (fun _ => SubI.sub) ?_
      rintro v67 -
      refine WA.one (i := 9) (by kernel_rfl) ?_
      refine WAi.efS rfl (EF.callS (.cons rfl (.cons rfl (.cons rfl (.cons rfl .nil)))) (fun w hS => sIsIndependent_c _ _ _ _ _ _ _ _ (by exact RdI.rd hS) (by first | assumption | (constructor <;> decide) | omega) (by first | assumption | (constructor <;> decide) | omega) (by exact RdI.rd hS) (by omega))) rfl rfl (fun _ => SubI.sub) ?_
      rintro ⟨⟩ -
      refine WA.done (by kernel_rfl) ?_
      refine JE.seqN ?_
      refine J.condP rfl (fun hc68 => ?_) (fun hc68 => ?_)
      ·
       have hcf : (cirF n k l xs bar) i = true := hin.1 (by rw [← hwo]; exact hc68)
       have hpt := cir_put hok (i := i) (by omega) (cirF n k l xs bar)
       have hsl2 : (selP (cirF n k l xs bar) (basA n k l xs bar) i ++ [bar]).length ≤ 1048576 := by rw [List.length_append, List.length_singleton]; omega
       refine J.reg ?_
       refine WL.rd (RD.move rfl) rfl rfl ?_
       refine WL.rd (RD.move rfl) rfl rfl ?_
       refine WL.rd (RD.move rfl) rfl rfl ?_
       refine WL.rd (RD.idx rfl rfl (by omega) rfl) rfl rfl ?_
       refine WL.rd (RD.loadE rfl (by omega) rfl) rfl rfl ?_
       refine WL.efS (EF.callN (.cons rfl (.cons rfl .nil)) (fun w hS => l5With_c _ _ _ _ (by exact RdI.rd hS) (by omega))) rfl rfl ?_
       rintro v74 -
       refine WL.rd (RD.assign rfl) rfl rfl ?_
       refine WL.nil ?_
       refine JE.blockN ?_
       refine JE.seqN ?_
       refine J.reg ?_
       refine WL.rd (RD.move rfl) rfl rfl ?_
       refine WL.rd (RD.add rfl rfl (by omega) (by omega)) rfl rfl ?_
       refine WL.rd (RD.assign rfl) rfl rfl ?_
       refine WL.nil ?_
       refine JE.cutN ⟨_, ?_, i + 1, v74, rfl, ?_, rfl, rfl⟩ ?_ ?_
       · omega
       · omega
       · exact (Sub.consE rfl (by first | rfl | (congr 1; omega) | (simp; done)) (Sub.consE rfl (by first | rfl | (congr 1; omega) | (simp; done)) (Sub.consE rfl (by first | rfl | (congr 1; omega) | (simp; done)) (Sub.consE rfl (by first | rfl | (congr 1; omega) | (simp; done)) (Sub.consE rfl (by first | rfl | (congr 1; omega) | (simp; done)) (Sub.consE rfl (by first | rfl | (congr 1; omega) | (simp; done)) (Sub.consE rfl (by first | rfl | (congr 1; omega) | (simp; done)) .nil)))))))
       · exact (SubM.row rfl rfl (by first | rfl | rw [hpt, selP_yes _ _ _ hcf]) (SubM.row rfl rfl (by first | rfl | rw [hpt, selP_yes _ _ _ hcf]) (SubM.cells rfl (by first | rfl | rw [hpt, selP_yes _ _ _ hcf]) (SubM.ro rfl (by first | rfl | rw [hpt, selP_yes _ _ _ hcf]) (SubM.row rfl rfl (by first | rfl | rw [hpt, selP_yes _ _ _ hcf]) (SubM.row rfl rfl (by first | rfl | rw [hpt, selP_yes _ _ _ hcf]) .nil))))))
      ·
       have hcf : ¬ (cirF n k l xs bar) i = true := fun hh => hc68 (by rw [hwo]; exact hin.2 hh)
       refine J.skip ?_
       refine JE.blockN ?_
       refine JE.seqN ?_
       refine J.reg ?_
       refine WL.rd (RD.move rfl) rfl rfl ?_
       refine WL.rd (RD.add rfl rfl (by omega) (by omega)) rfl rfl ?_
       refine WL.rd (RD.assign rfl) rfl rfl ?_
       refine WL.nil ?_
       refine JE.cutN ⟨_, ?_, i + 1, u2, rfl, ?_, rfl, rfl⟩ ?_ ?_
       · omega
       · omega
       · exact (Sub.consE rfl (by first | rfl | (congr 1; omega) | (simp; done)) (Sub.consE rfl (by first | rfl | (congr 1; omega) | (simp; done)) (Sub.consE rfl (by first | rfl | (congr 1; omega) | (simp; done)) (Sub.consE rfl (by first | rfl | (congr 1; omega) | (simp; done)) (Sub.consE rfl (by first | rfl | (congr 1; omega) | (simp; done)) (Sub.consE rfl (by first | rfl | (congr 1; omega) | (simp; done)) (Sub.consE rfl (by first | rfl | (congr 1; omega) | (simp; done)) .nil)))))))
       · exact (SubM.row rfl rfl (by first | rfl | rw [selP_no _ _ _ hcf]) (SubM.row rfl rfl (by first | rfl | rw [selP_no _ _ _ hcf]) (SubM.cells rfl (by first | rfl | rw [selP_no _ _ _ hcf]) (SubM.ro rfl (by first | rfl | rw [selP_no _ _ _ hcf]) (SubM.row rfl rfl (by first | rfl | rw [selP_no _ _ _ hcf]) (SubM.row rfl rfl (by first | rfl | rw [selP_no _ _ _ hcf]) .nil))))))
     ·
      refine J.exit ?_
      refine JE.seqX ?_
      refine JE.cutX ?_
      refine JE.blockHit ?_
      refine JE.seqN ?_
      refine J.seq ?_
      refine J.reg ?_
      refine WL.rd (RD.move rfl) rfl rfl ?_
      refine WL.rd (RD.assign rfl) rfl rfl ?_
      refine WL.rd (RD.assign rfl) rfl rfl ?_
      refine WL.nil ?_
      refine JE.seqN ?_
      refine J.ret ?_
      refine JE.ret rfl (.tmp rfl (.tmp rfl .nil)) (fun w hS => ?_)
      exact CN.fin hS u2 (by rw [decide_eq_true hok]; rfl) trivial (SubM.row rfl rfl (by unfold cirI; rw [if_pos hok, show (basA n k l xs bar).length = i by omega]) .nil) (by simp [En.rdb])

end Go.Proofs.Ytlcijjkbgcllfaa
