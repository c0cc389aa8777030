/- Contracts of functions of the program, each walked once; written by a program of our own. -/
import Derived.Test.YtoanccfpnbmmcaaTy
import Derived.Test.YtoanccfpnbmmcaaSb
import Derived.Test.YtoanccfpnbmmcaaMe
namespace Go.Proofs.Ytoanccfpnbmmcaa
open Go Go.RowKit
set_option maxRecDepth 4000

theorem l1In_c (x lo hi : Int) (w : World) :
    CS Try.prog 34 [.int .i64 x, .int .i64 lo, .int .i64 hi] w (.bool (decide (lo ≤ x ∧ x ≤ hi))) := by
 refine calls_of_J (mu := (fun _ => False)) (m := []) (e := [(0, .int .i64 x), (1, .int .i64 lo), (2, .int .i64 hi)]) Try.func34 rfl rfl (.cons rfl (.cons rfl (.cons rfl .nil))) (St.init _ _) ?_
 refine J.seq ?_
 refine J.reg ?_
 refine WL.rd (RD.assign rfl) rfl rfl ?_
 refine WL.nil ?_
 refine JE.seqN ?_
 refine J.seq ?_
 refine J.reg ?_
 refine WL.rd (RD.move rfl) rfl rfl ?_
 refine WL.rd (RD.move rfl) rfl rfl ?_
 refine WL.rd (RD.geq rfl rfl) rfl rfl ?_
 refine WL.rd (RD.move rfl) rfl rfl ?_
 refine WL.caseP 10 rfl (fun hg10 => ?_) (fun hg10 => ?_)
 ·
  refine WL.rd (RD.move rfl) rfl rfl ?_
  refine WL.rd (RD.move rfl) rfl rfl ?_
  refine WL.rd (RD.leq rfl rfl) rfl rfl ?_
  refine WL.rd (RD.pickT rfl rfl) rfl rfl ?_
  refine WL.rd (RD.assign rfl) rfl rfl ?_
  refine WL.nil ?_
  refine JE.seqN ?_
  refine J.ret ?_
  refine JE.ret rfl (.tmp rfl .nil) (fun w hS => ?_)
  first | exact CS.fin hS (mk_dec (by omega)) | exact CS.fin hS (mk_true (by omega)) | exact CS.fin hS (mk_false (by omega))
 ·
  refine WL.noS rfl rfl ?_
  refine WL.noS rfl rfl ?_
  refine WL.noS rfl rfl ?_
  refine WL.rd (RD.pickF rfl rfl) rfl rfl ?_
  refine WL.rd (RD.assign rfl) rfl rfl ?_
  refine WL.nil ?_
  refine JE.seqN ?_
  refine J.ret ?_
  refine JE.ret rfl (.tmp rfl .nil) (fun w hS => ?_)
  first | exact CS.fin hS (mk_dec (by omega)) | exact CS.fin hS (mk_true (by omega)) | exact CS.fin hS (mk_false (by omega))
theorem within_c (x lo hi : Int) (w : World) :
    CS Try.prog 32 [.int .i64 x, .int .i64 lo, .int .i64 hi] w (.bool (decide (lo ≤ x ∧ x ≤ hi))) := by
 refine calls_of_J (mu := (fun _ => False)) (m := []) (e := [(0, .int .i64 x), (1, .int .i64 lo), (2, .int .i64 hi)]) Try.func32 rfl rfl (.cons rfl (.cons rfl (.cons rfl .nil))) (St.init _ _) ?_
 refine J.seq ?_
 refine J.reg ?_
 refine WL.rd (RD.assign rfl) rfl rfl ?_
 refine WL.nil ?_
 refine JE.seqN ?_
 refine J.seq ?_
 refine J.reg ?_
 refine WL.rd (RD.move rfl) rfl rfl ?_
 refine WL.rd (RD.move rfl) rfl rfl ?_
 refine WL.rd (RD.geq rfl rfl) rfl rfl ?_
 refine WL.rd (RD.move rfl) rfl rfl ?_
 refine WL.caseP 10 rfl (fun hg10 => ?_) (fun hg10 => ?_)
 ·
  refine WL.rd (RD.move rfl) rfl rfl ?_
  refine WL.rd (RD.move rfl) rfl rfl ?_
  refine WL.rd (RD.leq rfl rfl) rfl rfl ?_
  refine WL.rd (RD.pickT rfl rfl) rfl rfl ?_
  refine WL.rd (RD.assign rfl) rfl rfl ?_
  refine WL.nil ?_
  refine JE.seqN ?_
  refine J.ret ?_
  refine JE.ret rfl (.tmp rfl .nil) (fun w hS => ?_)
  first | exact CS.fin hS (mk_dec (by omega)) | exact CS.fin hS (mk_true (by omega)) | exact CS.fin hS (mk_false (by omega))
 ·
  refine WL.noS rfl rfl ?_
  refine WL.noS rfl rfl ?_
  refine WL.noS rfl rfl ?_
  refine WL.rd (RD.pickF rfl rfl) rfl rfl ?_
  refine WL.rd (RD.assign rfl) rfl rfl ?_
  refine WL.nil ?_
  refine JE.seqN ?_
  refine J.ret ?_
  refine JE.ret rfl (.tmp rfl .nil) (fun w hS => ?_)
  first | exact CS.fin hS (mk_dec (by omega)) | exact CS.fin hS (mk_true (by omega)) | exact CS.fin hS (mk_false (by omega))
theorem iEncodeHex_c (l : List UInt8) (w : World) (hl : l.length ≤ 1048576) :
    CS Try.prog 19 [.string (bs l)] w (.string (bs (hexEnc l))) := by
 refine calls_of_J (mu := (fun _ => False)) (m := []) (e := [(0, .string (bs l))]) Try.func19 rfl rfl (.cons rfl .nil) (St.init _ _) ?_
 refine J.seq ?_
 refine J.reg ?_
 refine WL.rd (RD.assign rfl) rfl rfl ?_
 refine WL.nil ?_
 refine JE.seqN ?_
 refine J.seq ?_
 refine J.reg ?_
 refine WL.rd (RD.move rfl) rfl rfl ?_
 refine WL.rd (RD.lenS rfl) rfl rfl ?_
 refine WL.rd (RD.mul rfl rfl (by omega) (by omega)) rfl rfl ?_
 refine WL.efS (EF.make0 rfl rfl (by omega)) rfl rfl ?_
 intro v8 _
 refine WL.rd (RD.assign rfl) rfl rfl ?_
 refine WL.nil ?_
 refine JE.seqN ?_
 refine J.seq ?_
 refine J.seq ?_
 refine J.reg ?_
 refine WL.rd (RD.assign rfl) rfl rfl ?_
 refine WL.nil ?_
 refine JE.seqN ?_
 refine J.block ?_
 refine J.loop (fun gg ee mm => ∃ (k : Nat), ∃ (v : Value), gg = l.length - k ∧ ((k ≤ l.length)) ∧ ee = [(0, .string (bs l)), (3, v), (4, .int .i64 (k : Int))] ∧ mm = [.row v 5 1 ((hexEnc (l.take k)).map yv)]) _ ⟨0, v8, rfl, ?_, rfl, rfl⟩ ?_ ?_ ?_
 · omega
 · exact (Sub.consE rfl (by first | rfl | (congr 1; omega) | (simp; done)) (Sub.consE rfl (by first | rfl | (congr 1; omega) | (simp; done)) (Sub.consE rfl (by first | rfl | (congr 1; omega) | (simp; done)) .nil)))
 · exact (SubM.row rfl rfl (by first | rfl | (simp [iv, bv, yv, tv, sv]; done)) .nil)
 ·
  rintro g _ _ ⟨k, v, rfl, hI, rfl, rfl⟩
  refine J.seq ?_
  refine J.seq ?_
  refine J.reg ?_
  refine WL.rd (RD.move rfl) rfl rfl ?_
  refine WL.rd (RD.move rfl) rfl rfl ?_
  refine WL.rd (RD.lenS rfl) rfl rfl ?_
  refine WL.rd (RD.lss rfl rfl) rfl rfl ?_
  refine WL.nil ?_
  refine JE.seqN ?_
  refine J.condP rfl (fun hc12 => ?_) (fun hc12 => ?_)
  ·
   refine J.skip ?_
   refine JE.seqN ?_
   refine J.seq ?_
   refine J.block ?_
   have hb : (l.getD k 0).toNat < 256 := (l.getD k 0).toNat_lt
   have hh := hexEnc_len (l.take k)
   have ht : (l.take k).length ≤ l.length := List.length_take_le' _ _
   refine J.anyDrop [] (v) ?_
   refine WA.takeP 0 rfl (RDP.of fun _ => RD.move rfl) rfl (by kernel_rfl) rfl ?_
   refine WA.takeP 1 rfl (RDP.of fun _ => RD.move rfl) rfl (by kernel_rfl) rfl ?_
   refine WA.takeP 2 rfl (RDP.of fun _ => RD.move rfl) rfl (by kernel_rfl) rfl ?_
   refine WA.takeP 3 rfl (RDP.of fun _ => RD.indexS rfl rfl (by omega)) rfl (by kernel_rfl) rfl ?_
   refine WA.takeP 4 rfl (RDP.of fun _ => RD.shrI 4 rfl rfl rfl (by decide)) rfl (by kernel_rfl) rfl ?_
   refine WA.takeP 5 rfl (RDP.of fun _ => RD.indexI rfl rfl (by omega) (show _ < (16 : Int) by omega)) rfl (by kernel_rfl) rfl ?_
   refine WA.takeP 6 rfl (RDP.of fun _ => RD.move rfl) rfl (by kernel_rfl) rfl ?_
   refine WA.takeP 7 rfl (RDP.of fun _ => RD.move rfl) rfl (by kernel_rfl) rfl ?_
   refine WA.takeP 8 rfl (RDP.of fun _ => RD.indexS rfl rfl (by omega)) rfl (by kernel_rfl) rfl ?_
   refine WA.takeP 9 rfl (RDP.of fun _ => RD.mask 4 rfl rfl rfl (by decide) (by omega) (show _ ≤ (255 : Int) by omega)) rfl (by kernel_rfl) rfl ?_
   refine WA.takeP 10 rfl (RDP.of fun _ => RD.indexI rfl rfl (by omega) (show _ < (16 : Int) by omega)) rfl (by kernel_rfl) rfl ?_
   refine WA.one (i := 11) (by kernel_rfl) ?_
   refine WAi.efS rfl (EF.build2 rfl rfl) rfl rfl (fun _ => SubI.sub) ?_
   intro v26 _
   refine WA.one (i := 12) (by kernel_rfl) ?_
   refine WAi.efS rfl (EF.append rfl rfl (by omega) rfl rfl rfl) rfl rfl (fun _ => SubI.sub) ?_
   intro v27 _
   refine WA.takeP 13 rfl (RDP.of fun _ => RD.assign rfl) rfl (by kernel_rfl) rfl ?_
   refine WA.done (by kernel_rfl) ?_
   refine JE.blockN ?_
   refine JE.seqN ?_
   refine J.reg ?_
   refine WL.rd (RD.move rfl) rfl rfl ?_
   refine WL.rd (RD.add rfl rfl (by omega) (by omega)) rfl rfl ?_
   refine WL.rd (RD.assign rfl) rfl rfl ?_
   refine WL.nil ?_
   refine JE.cutN ⟨_, ?_, k + 1, v27, rfl, ?_, rfl, rfl⟩ ?_ ?_
   · omega
   · omega
   · exact (Sub.consE rfl (by first | rfl | (congr 1; omega) | (simp; done)) (Sub.consE rfl (by first | rfl | (congr 1; omega) | (simp; done)) (Sub.consE rfl (by first | rfl | (congr 1; omega) | (simp; done)) .nil)))
   · exact (SubM.row rfl rfl (by rw [hexEnc_succ l k (by omega), List.map_append]; congr 1) .nil)
  ·
   refine J.exit ?_
   refine JE.seqX ?_
   refine JE.cutX ?_
   refine JE.blockHit ?_
   refine JE.seqN ?_
   refine J.seq ?_
   refine J.reg ?_
   refine WL.rd (RD.move rfl) rfl rfl ?_
   refine WL.rd (RD.toStr rfl rfl rfl) rfl rfl ?_
   refine WL.rd (RD.assign rfl) rfl rfl ?_
   refine WL.nil ?_
   refine JE.seqN ?_
   refine J.ret ?_
   refine JE.ret rfl (.tmp rfl .nil) (fun w hS => ?_)
   have : l.take k = l := List.take_of_length_le (by omega)
   rw [this]
   exact CS.fin hS rfl
theorem iDecodeFixed_c (l : List UInt8) (width : Int) (w : World) (_hl : l.length ≤ 9223372036854775807) (hwi : -9223372036854775808 ≤ width ∧ width ≤ 9223372036854775807) :
    CS Try.prog 17 [.string (bs l), .int .i64 width] w (.tuple #[.int .i64 (if 1 ≤ width ∧ width ≤ 7 ∧ width ≤ l.length then (de (l.take width.toNat) : Int) else 0), .bool (decide (1 ≤ width ∧ width ≤ 7 ∧ width ≤ l.length))]) := by
 refine calls_of_J (mu := (fun _ => False)) (m := []) (e := [(0, .string (bs l)), (1, .int .i64 width)]) Try.func17 rfl rfl (.cons rfl (.cons rfl .nil)) (St.init _ _) ?_
 refine J.seq ?_
 refine J.reg ?_
 refine WL.rd (RD.assign rfl) rfl rfl ?_
 refine WL.rd (RD.assign rfl) rfl rfl ?_
 refine WL.nil ?_
 refine JE.seqN ?_
 refine J.seq ?_
 refine J.seq ?_
 refine J.reg ?_
 refine WL.rd (RD.move rfl) rfl rfl ?_
 refine WL.efS (EF.callS (.cons rfl (.cons rfl (.cons rfl .nil))) (fun w hS => within_c _ _ _ _)) rfl rfl ?_
 rintro ⟨⟩ -
 refine WL.rd (RD.notP rfl) rfl rfl ?_
 refine WL.rd (RD.move rfl) rfl rfl ?_
 refine WL.caseP 11 rfl (fun hg11 => ?_) (fun hg11 => ?_)
 ·
  refine WL.noS rfl rfl ?_
  refine WL.noS rfl rfl ?_
  refine WL.noS rfl rfl ?_
  refine WL.noS rfl rfl ?_
  refine WL.rd (RD.pickT rfl rfl) rfl rfl ?_
  refine WL.nil ?_
  refine JE.seqN ?_
  refine J.condT rfl ?_
  refine J.seq ?_
  refine J.reg ?_
  refine WL.rd (RD.assign rfl) rfl rfl ?_
  refine WL.rd (RD.assign rfl) rfl rfl ?_
  refine WL.nil ?_
  refine JE.seqN ?_
  refine J.ret ?_
  refine JE.ret rfl (.tmp rfl (.tmp rfl .nil)) (fun w hS => ?_)
  have h : ¬ (1 ≤ width ∧ width ≤ 7 ∧ width ≤ l.length) := by omega
  exact CS.fin hS (by simp [mkRes, h])
 ·
  refine WL.rd (RD.move rfl) rfl rfl ?_
  refine WL.rd (RD.lenS rfl) rfl rfl ?_
  refine WL.rd (RD.move rfl) rfl rfl ?_
  refine WL.rd (RD.lss rfl rfl) rfl rfl ?_
  refine WL.rd (RD.pickF rfl rfl) rfl rfl ?_
  refine WL.nil ?_
  refine JE.seqN ?_
  refine J.condP rfl (fun hc16 => ?_) (fun hc16 => ?_)
  ·
   refine J.seq ?_
   refine J.reg ?_
   refine WL.rd (RD.assign rfl) rfl rfl ?_
   refine WL.rd (RD.assign rfl) rfl rfl ?_
   refine WL.nil ?_
   refine JE.seqN ?_
   refine J.ret ?_
   refine JE.ret rfl (.tmp rfl (.tmp rfl .nil)) (fun w hS => ?_)
   have h : ¬ (1 ≤ width ∧ width ≤ 7 ∧ width ≤ l.length) := by omega
   exact CS.fin hS (by simp [mkRes, h])
  ·
   refine J.skip ?_
   refine JE.seqN ?_
   refine J.seq ?_
   refine J.reg ?_
   refine WL.rd (RD.assign rfl) rfl rfl ?_
   refine WL.nil ?_
   refine JE.seqN ?_
   refine J.seq ?_
   refine J.seq ?_
   refine J.reg ?_
   refine WL.rd (RD.assign rfl) rfl rfl ?_
   refine WL.nil ?_
   refine JE.seqN ?_
   refine J.block ?_
   refine J.loop (fun gg ee mm => ∃ (k : Nat), gg = 7 - k ∧ (((k : Int) ≤ width) ∧ (1 ≤ width ∧ width ≤ 7 ∧ width ≤ l.length)) ∧ ee = [(0, .string (bs l)), (1, .int .i64 width), (6, .int .i64 (de (l.take k) : Int)), (7, .int .i64 (k : Int))] ∧ mm = []) _ ⟨0, rfl, ?_, rfl, rfl⟩ ?_ ?_ ?_
   · exact ⟨by omega, by omega⟩
   · exact (Sub.consE rfl (by first | rfl | (congr 1; omega) | (simp; done)) (Sub.consE rfl (by first | rfl | (congr 1; omega) | (simp; done)) (Sub.consE rfl (by first | rfl | (congr 1; omega) | (simp; done)) (Sub.consE rfl (by first | rfl | (congr 1; omega) | (simp; done)) .nil))))
   · exact .nil
   ·
    rintro g _ _ ⟨k, rfl, hI, rfl, rfl⟩
    refine J.seq ?_
    refine J.seq ?_
    refine J.reg ?_
    refine WL.rd (RD.move rfl) rfl rfl ?_
    refine WL.rd (RD.move rfl) rfl rfl ?_
    refine WL.rd (RD.lss rfl rfl) rfl rfl ?_
    refine WL.nil ?_
    refine JE.seqN ?_
    refine J.condP rfl (fun hc19 => ?_) (fun hc19 => ?_)
    ·
     refine J.skip ?_
     refine JE.seqN ?_
     refine J.seq ?_
     refine J.block ?_
     have hb : (l.getD k 0).toNat < 256 := (l.getD k 0).toNat_lt
     have hd := de_take_lt l k (by omega)
     refine J.reg ?_
     refine WL.rd (RD.move rfl) rfl rfl ?_
     refine WL.rd (RD.shlI 8 rfl rfl rfl (by decide) (by omega) (by omega)) rfl rfl ?_
     refine WL.rd (RD.move rfl) rfl rfl ?_
     refine WL.rd (RD.move rfl) rfl rfl ?_
     refine WL.rd (RD.indexS rfl rfl (by omega)) rfl rfl ?_
     refine WL.rd (RD.convI rfl (by omega) (by omega)) rfl rfl ?_
     refine WL.rd (RD.orHi 8 (l.getD k 0).toNat (de (l.take k)) rfl rfl (by simp) rfl hb (show _ ≤ (9223372036854775807 : Int) by omega)) rfl rfl ?_
     refine WL.rd (RD.assign rfl) rfl rfl ?_
     refine WL.nil ?_
     refine JE.blockN ?_
     refine JE.seqN ?_
     refine J.reg ?_
     refine WL.rd (RD.move rfl) rfl rfl ?_
     refine WL.rd (RD.add rfl rfl (by omega) (by omega)) rfl rfl ?_
     refine WL.rd (RD.assign rfl) rfl rfl ?_
     refine WL.nil ?_
     refine JE.cutN ⟨_, ?_, k + 1, rfl, ?_, rfl, rfl⟩ ?_ ?_
     · omega
     · exact ⟨by omega, by omega⟩
     · exact (Sub.consE rfl (by first | rfl | (congr 1; omega) | (simp; done)) (Sub.consE rfl (by first | rfl | (congr 1; omega) | (simp; done)) (Sub.consE rfl (by rw [de_succ l k (by omega)]; first | done | rfl | simp) (Sub.consE rfl (by first | rfl | (congr 1; omega) | (simp; done)) .nil))))
     · exact .nil
    ·
     refine J.exit ?_
     refine JE.seqX ?_
     refine JE.cutX ?_
     refine JE.blockHit ?_
     refine JE.seqN ?_
     refine J.seq ?_
     refine J.reg ?_
     refine WL.rd (RD.move rfl) rfl rfl ?_
     refine WL.rd (RD.assign rfl) rfl rfl ?_
     refine WL.rd (RD.assign rfl) rfl rfl ?_
     refine WL.nil ?_
     refine JE.seqN ?_
     refine J.ret ?_
     refine JE.ret rfl (.tmp rfl (.tmp rfl .nil)) (fun w hS => ?_)
     have hw : width.toNat = k := by omega
     exact CS.fin hS (by simp [mkRes, hI.2, hw])
theorem iEncodeVarint_c (n : Int) (w : World) (hn : -9223372036854775808 ≤ n ∧ n ≤ 9223372036854775807) :
    CS Try.prog 13 [.int .i64 n] w (.string (bs (if 0 ≤ n ∧ n ≤ 562949953421311 then vi n.toNat else []))) := by
 refine calls_of_J (mu := (fun _ => False)) (m := []) (e := [(0, .int .i64 n)]) Try.func13 rfl rfl (.cons rfl .nil) (St.init _ _) ?_
 refine J.seq ?_
 refine J.reg ?_
 refine WL.rd (RD.assign rfl) rfl rfl ?_
 refine WL.nil ?_
 refine JE.seqN ?_
 refine J.seq ?_
 refine J.seq ?_
 refine J.reg ?_
 refine WL.rd (RD.move rfl) rfl rfl ?_
 refine WL.efS (EF.callS (.cons rfl (.cons rfl (.cons rfl .nil))) (fun w hS => within_c _ _ _ _)) rfl rfl ?_
 rintro ⟨⟩ -
 refine WL.rd (RD.notP rfl) rfl rfl ?_
 refine WL.nil ?_
 refine JE.seqN ?_
 refine J.condP rfl (fun hc6 => ?_) (fun hc6 => ?_)
 ·
  refine J.seq ?_
  refine J.reg ?_
  refine WL.rd (RD.assign rfl) rfl rfl ?_
  refine WL.nil ?_
  refine JE.seqN ?_
  refine J.ret ?_
  refine JE.ret rfl (.tmp rfl .nil) (fun w hS => ?_)
  have h : ¬ (0 ≤ n ∧ n ≤ 562949953421311) := by omega
  exact CS.fin hS (by rw [if_neg h]; rfl)
 ·
  refine J.skip ?_
  refine JE.seqN ?_
  refine J.seq ?_
  refine J.reg ?_
  refine WL.efS (EF.build0) rfl rfl ?_
  intro v7 _
  refine WL.rd (RD.assign rfl) rfl rfl ?_
  refine WL.nil ?_
  refine JE.seqN ?_
  refine J.seq ?_
  refine J.block ?_
  refine J.loop (fun gg ee mm => ∃ (r : Nat), ∃ (v : Value), ∃ (o : List UInt8), gg = 1 + r ∧ ((0 ≤ n ∧ n ≤ 562949953421311) ∧ (o ++ vi r = vi n.toNat) ∧ (r ≤ n.toNat)) ∧ ee = [(0, .int .i64 (r : Int)), (3, v)] ∧ mm = [.row v 5 1 (o.map yv)]) _ ⟨n.toNat, v7, [], rfl, ?_, rfl, rfl⟩ ?_ ?_ ?_
  · exact ⟨by omega, rfl, Nat.le_refl _⟩
  · exact (Sub.consE rfl (by first | rfl | (congr 1; omega)) (Sub.consE rfl (by first | rfl | (congr 1; omega) | (simp; done)) .nil))
  · exact (SubM.row rfl rfl (by first | rfl | (simp [iv, bv, yv, tv, sv]; done)) .nil)
  ·
   rintro g _ _ ⟨r, v, o, rfl, hI, rfl, rfl⟩
   have hvl := vi_len7 n.toNat (by omega)
   have hol : o.length + (vi r).length = (vi n.toNat).length := by rw [← List.length_append, hI.2.1]
   refine J.seq ?_
   refine J.seq ?_
   refine J.reg ?_
   refine WL.rd (RD.move rfl) rfl rfl ?_
   refine WL.rd (RD.gtr rfl rfl) rfl rfl ?_
   refine WL.nil ?_
   refine JE.seqN ?_
   refine J.condP rfl (fun hc9 => ?_) (fun hc9 => ?_)
   ·
    refine J.skip ?_
    refine JE.seqN ?_
    refine J.block ?_
    refine J.seq ?_
    refine J.reg ?_
    refine WL.rd (RD.move rfl) rfl rfl ?_
    refine WL.rd (RD.move rfl) rfl rfl ?_
    refine WL.rd (RD.mask 7 rfl rfl rfl (by decide) (by omega) (show _ ≤ (9223372036854775807 : Int) by omega)) rfl rfl ?_
    refine WL.rd (RD.orLo 7 (r % 128) 1 rfl rfl (by omega) rfl (by omega) (show _ ≤ (9223372036854775807 : Int) by omega)) rfl rfl ?_
    refine WL.rd (RD.convB rfl) rfl rfl ?_
    refine WL.efS (EF.build1 rfl) rfl rfl ?_
    intro v15 _
    refine WL.efS (EF.append rfl rfl (by omega) rfl rfl rfl) rfl rfl ?_
    intro v16 _
    refine WL.rd (RD.assign rfl) rfl rfl ?_
    refine WL.nil ?_
    refine JE.seqN ?_
    refine J.reg ?_
    refine WL.rd (RD.move rfl) rfl rfl ?_
    refine WL.rd (RD.shrI 7 rfl rfl rfl (by decide)) rfl rfl ?_
    refine WL.rd (RD.assign rfl) rfl rfl ?_
    refine WL.nil ?_
    refine JE.blockN ?_
    refine JE.cutN ⟨_, ?_, r / 128, v16, o ++ [UInt8.ofNat (128 + r % 128)], rfl, ?_, rfl, rfl⟩ ?_ ?_
    · omega
    · exact ⟨hI.1, by rw [List.append_assoc, List.singleton_append, ← vi_big r (by omega)]; exact hI.2.1, by omega⟩
    · exact (Sub.consE rfl (by first | rfl | (congr 1)) (Sub.consE rfl (by first | rfl | (congr 1; omega) | (simp; done)) .nil))
    · exact (SubM.row rfl rfl (by rw [List.map_append]; congr 1; simp only [List.map_cons, List.map_nil, yv]; repeat (first | omega | congr 1)) .nil)
   ·
    refine J.exit ?_
    refine JE.seqX ?_
    refine JE.cutX ?_
    refine JE.blockHit ?_
    refine JE.seqN ?_
    refine J.seq ?_
    refine J.reg ?_
    refine WL.rd (RD.move rfl) rfl rfl ?_
    refine WL.rd (RD.move rfl) rfl rfl ?_
    refine WL.rd (RD.convB rfl) rfl rfl ?_
    refine WL.efS (EF.build1 rfl) rfl rfl ?_
    intro v22 _
    refine WL.efS (EF.append rfl rfl (by omega) rfl rfl rfl) rfl rfl ?_
    intro v23 _
    refine WL.rd (RD.toStr (l := o ++ [UInt8.ofNat ((r : Int) % 256).toNat]) rfl rfl (by rw [List.map_append]; rfl)) rfl rfl ?_
    refine WL.rd (RD.assign rfl) rfl rfl ?_
    refine WL.nil ?_
    refine JE.seqN ?_
    refine J.ret ?_
    refine JE.ret rfl (.tmp rfl .nil) (fun w hS => ?_)
    have h : vi n.toNat = o ++ [UInt8.ofNat r] := by rw [← hI.2.1, vi_small r (by omega)]
    exact CS.fin hS (by rw [if_pos hI.1, h]; simp only [mkRes]; congr 5; omega)

end Go.Proofs.Ytoanccfpnbmmcaa
