/- Contracts of functions of the program, each walked once; written by a program of our own. -/
import Derived.Test.YtlcijjkbgcllfaaCgG
import Derived.Test.YtlcijjkbgcllfaaMf
namespace Go.Proofs.Ytlcijjkbgcllfaa
open Go Go.RowKit
set_option maxRecDepth 4000

theorem sParseInt_c (l : List UInt8) (w : World) (hl : l.length ≤ 9223372036854775807) :
    CS Try.prog 154 [.string (bs l)] w (.tuple #[.int .i64 (parseI l).1, .bool (parseI l).2]) := by
 refine calls_of_J (mu := (fun _ => False)) (m := []) (e := [(0, .string (bs l))]) Try.func154 rfl rfl (.cons rfl .nil) (St.init _ _) ?_
 refine J.seq ?_
 refine J.reg ?_
 refine WL.rd (RD.assign rfl) rfl rfl ?_
 refine WL.rd (RD.assign rfl) rfl rfl ?_
 refine WL.nil ?_
 refine JE.seqN ?_
 refine J.seq ?_
 refine J.reg ?_
 refine WL.rd (RD.assign rfl) rfl rfl ?_
 refine WL.nil ?_
 refine JE.seqN ?_
 refine J.seq ?_
 refine J.reg ?_
 refine WL.rd (RD.assign rfl) rfl rfl ?_
 refine WL.nil ?_
 refine JE.seqN ?_
 refine J.cut (fun ee mm => ((True)) ∧ ee = [(0, .string (bs l)), (4, .int .i64 ((pf (l.take 11)).1 : Int)), (5, .int .i64 ((pf (l.take 11)).2 : Int))] ∧ mm = []) ?_ ?_
 ·
  refine J.seq ?_
  refine J.reg ?_
  refine WL.rd (RD.assign rfl) rfl rfl ?_
  refine WL.nil ?_
  refine JE.seqN ?_
  refine J.block ?_
  refine J.loop (fun gg ee mm => ∃ (k : Nat), gg = 11 - k ∧ ((k ≤ 11) ∧ (k ≤ l.length)) ∧ ee = [(0, .string (bs l)), (4, .int .i64 ((pf (l.take k)).1 : Int)), (5, .int .i64 ((pf (l.take k)).2 : Int)), (6, .int .i64 (k : Int))] ∧ mm = []) _ ⟨0, rfl, ?_, rfl, rfl⟩ ?_ ?_ ?_
  · exact ⟨by omega, by omega⟩
  · exact (Sub.consE rfl (by first | rfl | (congr 1; omega) | (simp; done)) (Sub.consE rfl (by first | rfl | (congr 1; omega) | (simp; done)) (Sub.consE rfl (by first | rfl | (congr 1; omega) | (simp; done)) (Sub.consE rfl (by first | rfl | (congr 1; omega) | (simp; done)) .nil))))
  · exact .nil
  ·
   rintro g _ _ ⟨k, rfl, hI, rfl, rfl⟩
   have hb := pf_bound (l.take k)
   have hlt : (l.take k).length = k := List.length_take_of_le (by omega)
   have hq := pow10_11 (pf (l.take k)).2 (by omega)
   have hbb : (l.getD k 0).toNat < 256 := (l.getD k 0).toNat_lt
   refine J.seq ?_
   refine J.seq ?_
   refine J.reg ?_
   refine WL.rd (RD.move rfl) rfl rfl ?_
   refine WL.rd (RD.move rfl) rfl rfl ?_
   refine WL.rd (RD.lenS rfl) rfl rfl ?_
   refine WL.rd (RD.lss rfl rfl) rfl rfl ?_
   refine WL.rd (RD.move rfl) rfl rfl ?_
   refine WL.caseP 11 rfl (fun hg11 => ?_) (fun hg11 => ?_)
   ·
    refine WL.rd (RD.move rfl) rfl rfl ?_
    refine WL.rd (RD.lss rfl rfl) rfl rfl ?_
    refine WL.rd (RD.pickT rfl rfl) rfl rfl ?_
    refine WL.nil ?_
    refine JE.seqN ?_
    refine J.condP rfl (fun hc14 => ?_) (fun hc14 => ?_)
    ·
     refine J.skip ?_
     refine JE.seqN ?_
     refine J.seq ?_
     refine J.block ?_
     refine J.seq ?_
     refine J.reg ?_
     refine WL.rd (RD.move rfl) rfl rfl ?_
     refine WL.rd (RD.move rfl) rfl rfl ?_
     refine WL.rd (RD.indexS rfl rfl (by omega)) rfl rfl ?_
     refine WL.rd (RD.geq rfl rfl) rfl rfl ?_
     refine WL.rd (RD.move rfl) rfl rfl ?_
     refine WL.caseP 21 rfl (fun hg21 => ?_) (fun hg21 => ?_)
     ·
      refine WL.rd (RD.move rfl) rfl rfl ?_
      refine WL.rd (RD.move rfl) rfl rfl ?_
      refine WL.rd (RD.indexS rfl rfl (by omega)) rfl rfl ?_
      refine WL.rd (RD.leq rfl rfl) rfl rfl ?_
      refine WL.rd (RD.pickT rfl rfl) rfl rfl ?_
      refine WL.nil ?_
      refine JE.seqN ?_
      refine J.condP rfl (fun hc26 => ?_) (fun hc26 => ?_)
      ·
       refine J.seq ?_
       refine J.reg ?_
       refine WL.rd (RD.move rfl) rfl rfl ?_
       refine WL.rd (RD.mul rfl rfl (by omega) (by omega)) rfl rfl ?_
       refine WL.rd (RD.move rfl) rfl rfl ?_
       refine WL.rd (RD.move rfl) rfl rfl ?_
       refine WL.rd (RD.indexS rfl rfl (by omega)) rfl rfl ?_
       refine WL.rd (RD.subB rfl rfl (by omega) (by omega)) rfl rfl ?_
       refine WL.rd (RD.convI rfl (by omega) (by omega)) rfl rfl ?_
       refine WL.rd (RD.add rfl rfl (by omega) (by omega)) rfl rfl ?_
       refine WL.rd (RD.assign rfl) rfl rfl ?_
       refine WL.nil ?_
       refine JE.seqN ?_
       refine J.reg ?_
       refine WL.rd (RD.move rfl) rfl rfl ?_
       refine WL.rd (RD.add rfl rfl (by omega) (by omega)) rfl rfl ?_
       refine WL.rd (RD.assign rfl) rfl rfl ?_
       refine WL.nil ?_
       refine JE.blockN ?_
       refine JE.seqN ?_
       refine J.reg ?_
       refine WL.rd (RD.move rfl) rfl rfl ?_
       refine WL.rd (RD.add rfl rfl (by omega) (by omega)) rfl rfl ?_
       refine WL.rd (RD.assign rfl) rfl rfl ?_
       refine WL.nil ?_
       refine JE.cutN ⟨_, ?_, k + 1, rfl, ?_, rfl, rfl⟩ ?_ ?_
       · omega
       · exact ⟨by omega, by omega⟩
       · exact (Sub.consE rfl (by first | rfl | (congr 1; omega) | (simp; done)) (Sub.consE rfl (by rw [pf_yes l k (by omega) (by omega) (by omega)]; first | rfl | (congr 1; done) | (congr 1; dsimp only; omega)) (Sub.consE rfl (by rw [pf_yes l k (by omega) (by omega) (by omega)]; first | rfl | (congr 1; done) | (congr 1; dsimp only; omega)) (Sub.consE rfl (by first | rfl | (congr 1; omega) | (simp; done)) .nil))))
       · exact .nil
      ·
       refine J.skip ?_
       refine JE.blockN ?_
       refine JE.seqN ?_
       refine J.reg ?_
       refine WL.rd (RD.move rfl) rfl rfl ?_
       refine WL.rd (RD.add rfl rfl (by omega) (by omega)) rfl rfl ?_
       refine WL.rd (RD.assign rfl) rfl rfl ?_
       refine WL.nil ?_
       refine JE.cutN ⟨_, ?_, k + 1, rfl, ?_, rfl, rfl⟩ ?_ ?_
       · omega
       · exact ⟨by omega, by omega⟩
       · exact (Sub.consE rfl (by first | rfl | (congr 1; omega) | (simp; done)) (Sub.consE rfl (by rw [pf_no l k (by omega) (by omega)]) (Sub.consE rfl (by rw [pf_no l k (by omega) (by omega)]) (Sub.consE rfl (by first | rfl | (congr 1; omega) | (simp; done)) .nil))))
       · exact .nil
     ·
      refine WL.noS rfl rfl ?_
      refine WL.noS rfl rfl ?_
      refine WL.noS rfl rfl ?_
      refine WL.noS rfl rfl ?_
      refine WL.rd (RD.pickF rfl rfl) rfl rfl ?_
      refine WL.nil ?_
      refine JE.seqN ?_
      refine J.condF rfl ?_
      refine J.skip ?_
      refine JE.blockN ?_
      refine JE.seqN ?_
      refine J.reg ?_
      refine WL.rd (RD.move rfl) rfl rfl ?_
      refine WL.rd (RD.add rfl rfl (by omega) (by omega)) rfl rfl ?_
      refine WL.rd (RD.assign rfl) rfl rfl ?_
      refine WL.nil ?_
      refine JE.cutN ⟨_, ?_, k + 1, rfl, ?_, rfl, rfl⟩ ?_ ?_
      · omega
      · exact ⟨by omega, by omega⟩
      · exact (Sub.consE rfl (by first | rfl | (congr 1; omega) | (simp; done)) (Sub.consE rfl (by rw [pf_no l k (by omega) (by omega)]) (Sub.consE rfl (by rw [pf_no l k (by omega) (by omega)]) (Sub.consE rfl (by first | rfl | (congr 1; omega) | (simp; done)) .nil))))
      · exact .nil
    ·
     refine J.exit ?_
     refine JE.seqX ?_
     refine JE.cutX ?_
     refine JE.blockHit ?_
     refine JE.cutN ⟨?_, rfl, rfl⟩ ?_ ?_
     · trivial
     · exact (Sub.consE rfl (by first | rfl | (congr 1; omega) | (simp; done)) (Sub.consE rfl (by rw [take_end l k (by omega) (by omega)]) (Sub.consE rfl (by rw [take_end l k (by omega) (by omega)]) .nil)))
     · exact .nil
   ·
    refine WL.noS rfl rfl ?_
    refine WL.noS rfl rfl ?_
    refine WL.rd (RD.pickF rfl rfl) rfl rfl ?_
    refine WL.nil ?_
    refine JE.seqN ?_
    refine J.condF rfl ?_
    refine J.exit ?_
    refine JE.seqX ?_
    refine JE.cutX ?_
    refine JE.blockHit ?_
    refine JE.cutN ⟨?_, rfl, rfl⟩ ?_ ?_
    · trivial
    · exact (Sub.consE rfl (by first | rfl | (congr 1; omega) | (simp; done)) (Sub.consE rfl (by rw [take_end l k (by omega) (by omega)]) (Sub.consE rfl (by rw [take_end l k (by omega) (by omega)]) .nil)))
    · exact .nil
 ·
  rintro _ _ ⟨_, rfl, rfl⟩
  have hb := pf_bound (l.take 11)
  have hlt : (l.take 11).length ≤ 11 := List.length_take_le _ _
  have hq := pow10_11 (pf (l.take 11)).2 (by omega)
  have hsg := sg_abs l (pf (l.take 11)).1
  refine J.cut (fun ee mm => ((True)) ∧ ee = [(0, .string (bs l)), (4, .int .i64 (sg l (pf (l.take 11)).1)), (5, .int .i64 ((pf (l.take 11)).2 : Int))] ∧ mm = []) ?_ ?_
  ·
   refine J.seq ?_
   refine J.reg ?_
   refine WL.rd (RD.move rfl) rfl rfl ?_
   refine WL.rd (RD.lenS rfl) rfl rfl ?_
   refine WL.rd (RD.gtr rfl rfl) rfl rfl ?_
   refine WL.rd (RD.move rfl) rfl rfl ?_
   refine WL.caseP 40 rfl (fun hg40 => ?_) (fun hg40 => ?_)
   ·
    refine WL.rd (RD.move rfl) rfl rfl ?_
    refine WL.rd (RD.indexS rfl rfl (by omega)) rfl rfl ?_
    refine WL.rd (RD.eql rfl rfl) rfl rfl ?_
    refine WL.rd (RD.pickT rfl rfl) rfl rfl ?_
    refine WL.nil ?_
    refine JE.seqN ?_
    refine J.condP rfl (fun hc44 => ?_) (fun hc44 => ?_)
    ·
     refine J.reg ?_
     refine WL.rd (RD.move rfl) rfl rfl ?_
     refine WL.rd (RD.neg rfl (by omega) (by omega)) rfl rfl ?_
     refine WL.rd (RD.assign rfl) rfl rfl ?_
     refine WL.nil ?_
     refine JE.cutN ⟨?_, rfl, rfl⟩ ?_ ?_
     · trivial
     · exact (Sub.consE rfl (by first | rfl | (congr 1; omega) | (simp; done)) (Sub.consE rfl (by first | rw [sg_pos l _ (by omega) (by omega)] | rw [sg_zero l _ (by omega)]) (Sub.consE rfl (by first | rfl | (congr 1; omega) | (simp; done)) .nil)))
     · exact .nil
    ·
     refine J.skip ?_
     refine JE.cutN ⟨?_, rfl, rfl⟩ ?_ ?_
     · trivial
     · exact (Sub.consE rfl (by first | rfl | (congr 1; omega) | (simp; done)) (Sub.consE rfl (by first | rw [sg_pos l _ (by omega) (by omega)] | rw [sg_zero l _ (by omega)]) (Sub.consE rfl (by first | rfl | (congr 1; omega) | (simp; done)) .nil)))
     · exact .nil
   ·
    refine WL.noS rfl rfl ?_
    refine WL.noS rfl rfl ?_
    refine WL.noS rfl rfl ?_
    refine WL.rd (RD.pickF rfl rfl) rfl rfl ?_
    refine WL.nil ?_
    refine JE.seqN ?_
    refine J.condF rfl ?_
    refine J.skip ?_
    refine JE.cutN ⟨?_, rfl, rfl⟩ ?_ ?_
    · trivial
    · exact (Sub.consE rfl (by first | rfl | (congr 1; omega) | (simp; done)) (Sub.consE rfl (by first | rw [sg_pos l _ (by omega) (by omega)] | rw [sg_zero l _ (by omega)]) (Sub.consE rfl (by first | rfl | (congr 1; omega) | (simp; done)) .nil)))
    · exact .nil
  ·
   rintro _ _ ⟨_, rfl, rfl⟩
   have hb := pf_bound (l.take 11)
   have hlt : (l.take 11).length ≤ 11 := List.length_take_le _ _
   have hq := pow10_11 (pf (l.take 11)).2 (by omega)
   have hsg := sg_abs l (pf (l.take 11)).1
   refine J.seq ?_
   refine J.seq ?_
   refine J.reg ?_
   refine WL.rd (RD.move rfl) rfl rfl ?_
   refine WL.rd (RD.gtr rfl rfl) rfl rfl ?_
   refine WL.rd (RD.move rfl) rfl rfl ?_
   refine WL.caseP 49 rfl (fun hg49 => ?_) (fun hg49 => ?_)
   ·
    refine WL.noS rfl rfl ?_
    refine WL.noS rfl rfl ?_
    refine WL.noS rfl rfl ?_
    refine WL.rd (RD.pickT rfl rfl) rfl rfl ?_
    refine WL.rd (RD.move rfl) rfl rfl ?_
    refine WL.noS rfl rfl ?_
    refine WL.noS rfl rfl ?_
    refine WL.noS rfl rfl ?_
    refine WL.noS rfl rfl ?_
    refine WL.rd (RD.pickT rfl rfl) rfl rfl ?_
    refine WL.nil ?_
    refine JE.seqN ?_
    refine J.condT rfl ?_
    refine J.seq ?_
    refine J.reg ?_
    refine WL.rd (RD.assign rfl) rfl rfl ?_
    refine WL.rd (RD.assign rfl) rfl rfl ?_
    refine WL.nil ?_
    refine JE.seqN ?_
    refine J.ret ?_
    refine JE.ret rfl (.tmp rfl (.tmp rfl .nil)) (fun w hS => ?_)
    exact CS.fin hS (by rw [parse_bad l (.inl (by omega))]; rfl)
   ·
    refine WL.rd (RD.move rfl) rfl rfl ?_
    refine WL.rd (RD.lenS rfl) rfl rfl ?_
    refine WL.rd (RD.gtr rfl rfl) rfl rfl ?_
    refine WL.rd (RD.pickF rfl rfl) rfl rfl ?_
    refine WL.rd (RD.move rfl) rfl rfl ?_
    refine WL.caseP 54 rfl (fun hg54 => ?_) (fun hg54 => ?_)
    ·
     refine WL.noS rfl rfl ?_
     refine WL.noS rfl rfl ?_
     refine WL.noS rfl rfl ?_
     refine WL.noS rfl rfl ?_
     refine WL.rd (RD.pickT rfl rfl) rfl rfl ?_
     refine WL.nil ?_
     refine JE.seqN ?_
     refine J.condT rfl ?_
     refine J.seq ?_
     refine J.reg ?_
     refine WL.rd (RD.assign rfl) rfl rfl ?_
     refine WL.rd (RD.assign rfl) rfl rfl ?_
     refine WL.nil ?_
     refine JE.seqN ?_
     refine J.ret ?_
     refine JE.ret rfl (.tmp rfl (.tmp rfl .nil)) (fun w hS => ?_)
     exact CS.fin hS (by rw [parse_bad l (.inr (.inl (by omega)))]; rfl)
    ·
     refine WL.rd (RD.move rfl) rfl rfl ?_
     refine WL.efS (EF.callS (.cons rfl .nil) (fun w hS => sFormatInt_c _ _ (by omega))) rfl rfl ?_
     rintro ⟨⟩ -
     refine WL.rd (RD.move rfl) rfl rfl ?_
     refine WL.rd (RD.neqS rfl rfl) rfl rfl ?_
     refine WL.rd (RD.pickF rfl rfl) rfl rfl ?_
     refine WL.nil ?_
     refine JE.seqN ?_
     refine J.condP rfl (fun hc59 => ?_) (fun hc59 => ?_)
     ·
      refine J.seq ?_
      refine J.reg ?_
      refine WL.rd (RD.assign rfl) rfl rfl ?_
      refine WL.rd (RD.assign rfl) rfl rfl ?_
      refine WL.nil ?_
      refine JE.seqN ?_
      refine J.ret ?_
      refine JE.ret rfl (.tmp rfl (.tmp rfl .nil)) (fun w hS => ?_)
      exact CS.fin hS (by rw [parse_bad l (.inr (.inr hc59))]; rfl)
     ·
      refine J.skip ?_
      refine JE.seqN ?_
      refine J.seq ?_
      refine J.reg ?_
      refine WL.rd (RD.move rfl) rfl rfl ?_
      refine WL.rd (RD.assign rfl) rfl rfl ?_
      refine WL.rd (RD.assign rfl) rfl rfl ?_
      refine WL.nil ?_
      refine JE.seqN ?_
      refine J.ret ?_
      refine JE.ret rfl (.tmp rfl (.tmp rfl .nil)) (fun w hS => ?_)
      exact CS.fin hS (by rw [parse_end l _ rfl (by omega) (by omega) (by simpa using hc59)]; rfl)
theorem iParseInt_c (l : List UInt8) (w : World) (hl : l.length ≤ 9223372036854775807) :
    CS Try.prog 118 [.string (bs l)] w (.tuple #[.int .i64 (parseI l).1, .bool (parseI l).2]) := by
 refine calls_of_J (mu := (fun _ => False)) (m := []) (e := [(0, .string (bs l))]) Try.func118 rfl rfl (.cons rfl .nil) (St.init _ _) ?_
 refine J.seq ?_
 refine J.reg ?_
 refine WL.rd (RD.assign rfl) rfl rfl ?_
 refine WL.rd (RD.assign rfl) rfl rfl ?_
 refine WL.nil ?_
 refine JE.seqN ?_
 refine J.seq ?_
 refine J.reg ?_
 refine WL.rd (RD.assign rfl) rfl rfl ?_
 refine WL.nil ?_
 refine JE.seqN ?_
 refine J.cut (fun ee mm => ((True)) ∧ ee = [(0, .string (bs l)), (4, .int .i64 (nsg l : Int))] ∧ mm = []) ?_ ?_
 ·
  refine J.seq ?_
  refine J.reg ?_
  refine WL.rd (RD.move rfl) rfl rfl ?_
  refine WL.rd (RD.lenS rfl) rfl rfl ?_
  refine WL.rd (RD.gtr rfl rfl) rfl rfl ?_
  refine WL.rd (RD.move rfl) rfl rfl ?_
  refine WL.caseP 10 rfl (fun hg10 => ?_) (fun hg10 => ?_)
  ·
   refine WL.rd (RD.move rfl) rfl rfl ?_
   refine WL.rd (RD.indexS rfl rfl (by omega)) rfl rfl ?_
   refine WL.rd (RD.eql rfl rfl) rfl rfl ?_
   refine WL.rd (RD.pickT rfl rfl) rfl rfl ?_
   refine WL.nil ?_
   refine JE.seqN ?_
   refine J.condP rfl (fun hc14 => ?_) (fun hc14 => ?_)
   ·
    refine J.reg ?_
    refine WL.rd (RD.assign rfl) rfl rfl ?_
    refine WL.nil ?_
    refine JE.cutN ⟨?_, rfl, rfl⟩ ?_ ?_
    · trivial
    · exact (Sub.consE rfl (by first | rfl | (congr 1; omega) | (simp; done)) (Sub.consE rfl (by first | (rw [nsg_pos l (by omega) (by omega)]; rfl) | (rw [nsg_zero l (by omega)]; rfl)) .nil))
    · exact .nil
   ·
    refine J.skip ?_
    refine JE.cutN ⟨?_, rfl, rfl⟩ ?_ ?_
    · trivial
    · exact (Sub.consE rfl (by first | rfl | (congr 1; omega) | (simp; done)) (Sub.consE rfl (by first | (rw [nsg_pos l (by omega) (by omega)]; rfl) | (rw [nsg_zero l (by omega)]; rfl)) .nil))
    · exact .nil
  ·
   refine WL.noS rfl rfl ?_
   refine WL.noS rfl rfl ?_
   refine WL.noS rfl rfl ?_
   refine WL.rd (RD.pickF rfl rfl) rfl rfl ?_
   refine WL.nil ?_
   refine JE.seqN ?_
   refine J.condF rfl ?_
   refine J.skip ?_
   refine JE.cutN ⟨?_, rfl, rfl⟩ ?_ ?_
   · trivial
   · exact (Sub.consE rfl (by first | rfl | (congr 1; omega) | (simp; done)) (Sub.consE rfl (by first | (rw [nsg_pos l (by omega) (by omega)]; rfl) | (rw [nsg_zero l (by omega)]; rfl)) .nil))
   · exact .nil
 ·
  rintro _ _ ⟨_, rfl, rfl⟩
  have hns := nsg_le l
  refine J.seq ?_
  refine J.seq ?_
  refine J.reg ?_
  refine WL.rd (RD.move rfl) rfl rfl ?_
  refine WL.rd (RD.lenS rfl) rfl rfl ?_
  refine WL.rd (RD.move rfl) rfl rfl ?_
  refine WL.rd (RD.sub rfl rfl (by omega) (by omega)) rfl rfl ?_
  refine WL.efS (EF.callS (.cons rfl (.cons rfl (.cons rfl .nil))) (fun w hS => within_c _ _ _ _)) rfl rfl ?_
  rintro ⟨⟩ -
  refine WL.rd (RD.notP rfl) rfl rfl ?_
  refine WL.nil ?_
  refine JE.seqN ?_
  refine J.condP rfl (fun hc20 => ?_) (fun hc20 => ?_)
  ·
   refine J.seq ?_
   refine J.reg ?_
   refine WL.rd (RD.assign rfl) rfl rfl ?_
   refine WL.rd (RD.assign rfl) rfl rfl ?_
   refine WL.nil ?_
   refine JE.seqN ?_
   refine J.ret ?_
   refine JE.ret rfl (.tmp rfl (.tmp rfl .nil)) (fun w hS => ?_)
   exact CS.fin hS (by rw [parse_bad1 l (by omega)]; rfl)
  ·
   refine J.skip ?_
   refine JE.seqN ?_
   refine J.seq ?_
   refine J.reg ?_
   refine WL.rd (RD.assign rfl) rfl rfl ?_
   refine WL.nil ?_
   refine JE.seqN ?_
   refine J.seq ?_
   refine J.seq ?_
   refine J.reg ?_
   refine WL.rd (RD.move rfl) rfl rfl ?_
   refine WL.rd (RD.assign rfl) rfl rfl ?_
   refine WL.nil ?_
   refine JE.seqN ?_
   refine J.block ?_
   refine J.loop (fun gg ee mm => ∃ (k : Nat), gg = l.length - k ∧ ((nsg l ≤ k) ∧ (k ≤ l.length) ∧ ((pf (l.take k)).2 + nsg l ≤ k)) ∧ ee = [(0, .string (bs l)), (4, .int .i64 (nsg l : Int)), (5, .int .i64 ((pf (l.take k)).1 : Int)), (6, .int .i64 (k : Int))] ∧ mm = []) _ ⟨nsg l, rfl, ?_, rfl, rfl⟩ ?_ ?_ ?_
   · exact ⟨by omega, by omega, by rw [hns.2.2]; omega⟩
   · exact (Sub.consE rfl (by first | rfl | (congr 1; omega) | (simp; done)) (Sub.consE rfl (by first | rfl | (congr 1; omega) | (simp; done)) (Sub.consE rfl (by rw [hns.2.2]; rfl) (Sub.consE rfl (by first | rfl | (congr 1; omega) | (simp; done)) .nil))))
   · exact .nil
   ·
    rintro g _ _ ⟨k, rfl, hI, rfl, rfl⟩
    have hb := pf_bound (l.take k)
    have hlt : (l.take k).length = k := List.length_take_of_le (by omega)
    have hq := pow10_11 (pf (l.take k)).2 (by omega)
    have hbb : (l.getD k 0).toNat < 256 := (l.getD k 0).toNat_lt
    refine J.seq ?_
    refine J.seq ?_
    refine J.reg ?_
    refine WL.rd (RD.move rfl) rfl rfl ?_
    refine WL.rd (RD.move rfl) rfl rfl ?_
    refine WL.rd (RD.lenS rfl) rfl rfl ?_
    refine WL.rd (RD.lss rfl rfl) rfl rfl ?_
    refine WL.nil ?_
    refine JE.seqN ?_
    refine J.condP rfl (fun hc25 => ?_) (fun hc25 => ?_)
    ·
     refine J.skip ?_
     refine JE.seqN ?_
     refine J.seq ?_
     refine J.block ?_
     refine J.seq ?_
     refine J.seq ?_
     refine J.reg ?_
     refine WL.rd (RD.move rfl) rfl rfl ?_
     refine WL.rd (RD.move rfl) rfl rfl ?_
     refine WL.rd (RD.indexS rfl rfl (by omega)) rfl rfl ?_
     refine WL.rd (RD.lss rfl rfl) rfl rfl ?_
     refine WL.rd (RD.move rfl) rfl rfl ?_
     refine WL.caseP 32 rfl (fun hg32 => ?_) (fun hg32 => ?_)
     ·
      refine WL.noS rfl rfl ?_
      refine WL.noS rfl rfl ?_
      refine WL.noS rfl rfl ?_
      refine WL.noS rfl rfl ?_
      refine WL.rd (RD.pickT rfl rfl) rfl rfl ?_
      refine WL.nil ?_
      refine JE.seqN ?_
      refine J.condT rfl ?_
      refine J.seq ?_
      refine J.reg ?_
      refine WL.rd (RD.assign rfl) rfl rfl ?_
      refine WL.rd (RD.assign rfl) rfl rfl ?_
      refine WL.nil ?_
      refine JE.seqN ?_
      refine J.ret ?_
      refine JE.ret rfl (.tmp rfl (.tmp rfl .nil)) (fun w hS => ?_)
      exact CS.fin hS (by rw [parse_bad2 l k (by omega) (by omega) (by omega)]; rfl)
     ·
      refine WL.rd (RD.move rfl) rfl rfl ?_
      refine WL.rd (RD.move rfl) rfl rfl ?_
      refine WL.rd (RD.indexS rfl rfl (by omega)) rfl rfl ?_
      refine WL.rd (RD.gtr rfl rfl) rfl rfl ?_
      refine WL.rd (RD.pickF rfl rfl) rfl rfl ?_
      refine WL.nil ?_
      refine JE.seqN ?_
      refine J.condP rfl (fun hc37 => ?_) (fun hc37 => ?_)
      ·
       refine J.seq ?_
       refine J.reg ?_
       refine WL.rd (RD.assign rfl) rfl rfl ?_
       refine WL.rd (RD.assign rfl) rfl rfl ?_
       refine WL.nil ?_
       refine JE.seqN ?_
       refine J.ret ?_
       refine JE.ret rfl (.tmp rfl (.tmp rfl .nil)) (fun w hS => ?_)
       exact CS.fin hS (by rw [parse_bad2 l k (by omega) (by omega) (by omega)]; rfl)
      ·
       refine J.skip ?_
       refine JE.seqN ?_
       refine J.reg ?_
       refine WL.rd (RD.move rfl) rfl rfl ?_
       refine WL.rd (RD.mul rfl rfl (by omega) (by omega)) rfl rfl ?_
       refine WL.rd (RD.move rfl) rfl rfl ?_
       refine WL.rd (RD.move rfl) rfl rfl ?_
       refine WL.rd (RD.indexS rfl rfl (by omega)) rfl rfl ?_
       refine WL.rd (RD.subB rfl rfl (by omega) (by omega)) rfl rfl ?_
       refine WL.rd (RD.convI rfl (by omega) (by omega)) rfl rfl ?_
       refine WL.rd (RD.add rfl rfl (by omega) (by omega)) rfl rfl ?_
       refine WL.rd (RD.assign rfl) rfl rfl ?_
       refine WL.nil ?_
       refine JE.blockN ?_
       refine JE.seqN ?_
       refine J.reg ?_
       refine WL.rd (RD.move rfl) rfl rfl ?_
       refine WL.rd (RD.add rfl rfl (by omega) (by omega)) rfl rfl ?_
       refine WL.rd (RD.assign rfl) rfl rfl ?_
       refine WL.nil ?_
       refine JE.cutN ⟨_, ?_, k + 1, rfl, ?_, rfl, rfl⟩ ?_ ?_
       · omega
       · exact ⟨by omega, by omega, by rw [pf_yes l k (by omega) (by omega) (by omega)]; dsimp only; omega⟩
       · exact (Sub.consE rfl (by first | rfl | (congr 1; omega) | (simp; done)) (Sub.consE rfl (by first | rfl | (congr 1; omega) | (simp; done)) (Sub.consE rfl (by rw [pf_yes l k (by omega) (by omega) (by omega)]; first | rfl | (congr 1; done) | (congr 1; dsimp only; omega)) (Sub.consE rfl (by first | rfl | (congr 1; omega) | (simp; done)) .nil))))
       · exact .nil
    ·
     refine J.exit ?_
     refine JE.seqX ?_
     refine JE.cutX ?_
     refine JE.blockHit ?_
     refine JE.seqN ?_
     refine J.seq ?_
     refine J.seq ?_
     have hkl : l.take k = l := List.take_of_length_le (by omega)
     rw [hkl] at hb hq hI
     rw [hkl]
     refine J.reg ?_
     refine WL.rd (RD.move rfl) rfl rfl ?_
     refine WL.rd (RD.eql rfl rfl) rfl rfl ?_
     refine WL.nil ?_
     refine JE.seqN ?_
     refine J.condP rfl (fun hc47 => ?_) (fun hc47 => ?_)
     ·
      refine J.reg ?_
      refine WL.rd (RD.move rfl) rfl rfl ?_
      refine WL.rd (RD.neg rfl (by omega) (by omega)) rfl rfl ?_
      refine WL.rd (RD.assign rfl) rfl rfl ?_
      refine WL.nil ?_
      refine JE.seqN ?_
      refine J.seq ?_
      refine J.seq ?_
      refine J.reg ?_
      refine WL.rd (RD.move rfl) rfl rfl ?_
      refine WL.efS (EF.callS (.cons rfl .nil) (fun w hS => iFormatInt_c _ _ (by omega))) rfl rfl ?_
      rintro ⟨⟩ -
      refine WL.rd (RD.move rfl) rfl rfl ?_
      refine WL.rd (RD.neqS rfl rfl) rfl rfl ?_
      refine WL.nil ?_
      refine JE.seqN ?_
      refine J.condP rfl (fun hc53 => ?_) (fun hc53 => ?_)
      ·
       refine J.seq ?_
       refine J.reg ?_
       refine WL.rd (RD.assign rfl) rfl rfl ?_
       refine WL.rd (RD.assign rfl) rfl rfl ?_
       refine WL.nil ?_
       refine JE.seqN ?_
       refine J.ret ?_
       refine JE.ret rfl (.tmp rfl (.tmp rfl .nil)) (fun w hS => ?_)
       have hs : sg l (pf l).1 = -((pf l).1 : Int) := by rw [sg_nsg, if_pos (by omega)]
       exact CS.fin hS (by rw [parse_bad3 l (by rw [hs]; exact hc53)]; rfl)
      ·
       refine J.skip ?_
       refine JE.seqN ?_
       refine J.seq ?_
       refine J.reg ?_
       refine WL.rd (RD.move rfl) rfl rfl ?_
       refine WL.rd (RD.assign rfl) rfl rfl ?_
       refine WL.rd (RD.assign rfl) rfl rfl ?_
       refine WL.nil ?_
       refine JE.seqN ?_
       refine J.ret ?_
       refine JE.ret rfl (.tmp rfl (.tmp rfl .nil)) (fun w hS => ?_)
       have hs : sg l (pf l).1 = -((pf l).1 : Int) := by rw [sg_nsg, if_pos (by omega)]
       exact CS.fin hS (by rw [parse_ok l _ hs.symm (by omega) (by simpa using hc53)]; rfl)
     ·
      refine J.skip ?_
      refine JE.seqN ?_
      refine J.seq ?_
      refine J.seq ?_
      refine J.reg ?_
      refine WL.rd (RD.move rfl) rfl rfl ?_
      refine WL.efS (EF.callS (.cons rfl .nil) (fun w hS => iFormatInt_c _ _ (by omega))) rfl rfl ?_
      rintro ⟨⟩ -
      refine WL.rd (RD.move rfl) rfl rfl ?_
      refine WL.rd (RD.neqS rfl rfl) rfl rfl ?_
      refine WL.nil ?_
      refine JE.seqN ?_
      refine J.condP rfl (fun hc53 => ?_) (fun hc53 => ?_)
      ·
       refine J.seq ?_
       refine J.reg ?_
       refine WL.rd (RD.assign rfl) rfl rfl ?_
       refine WL.rd (RD.assign rfl) rfl rfl ?_
       refine WL.nil ?_
       refine JE.seqN ?_
       refine J.ret ?_
       refine JE.ret rfl (.tmp rfl (.tmp rfl .nil)) (fun w hS => ?_)
       have hs : sg l (pf l).1 = ((pf l).1 : Int) := by rw [sg_nsg, if_neg (by omega)]
       exact CS.fin hS (by rw [parse_bad3 l (by rw [hs]; exact hc53)]; rfl)
      ·
       refine J.skip ?_
       refine JE.seqN ?_
       refine J.seq ?_
       refine J.reg ?_
       refine WL.rd (RD.move rfl) rfl rfl ?_
       refine WL.rd (RD.assign rfl) rfl rfl ?_
       refine WL.rd (RD.assign rfl) rfl rfl ?_
       refine WL.nil ?_
       refine JE.seqN ?_
       refine J.ret ?_
       refine JE.ret rfl (.tmp rfl (.tmp rfl .nil)) (fun w hS => ?_)
       have hs : sg l (pf l).1 = ((pf l).1 : Int) := by rw [sg_nsg, if_neg (by omega)]
       exact CS.fin hS (by rw [parse_ok l _ hs.symm (by omega) (by simpa using hc53)]; rfl)

end Go.Proofs.Ytlcijjkbgcllfaa
