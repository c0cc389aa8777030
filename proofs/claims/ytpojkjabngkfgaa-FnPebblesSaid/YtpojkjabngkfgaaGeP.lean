/- Contracts of functions of the program, each walked once; written by a program of our own. -/
import Derived.Test.YtpojkjabngkfgaaGbP
import Derived.Test.YtpojkjabngkfgaaMj
import Derived.Test.YtpojkjabngkfgaaMi
import Derived.Test.YtpojkjabngkfgaaMk
import Derived.Test.YtpojkjabngkfgaaSc
namespace Go.Proofs.Ytpojkjabngkfgaa
open Go Go.RowKit
set_option maxRecDepth 4000

theorem sSpannedBars_c (n : Int) (v : Value) (xs : List (Int × Int)) (vs : Value) (s : List Int) (w : World) (hr : Rd w v 2 (xs.map bv)) (hrs : Rd w vs 1 (s.map iv)) (hlx : xs.length ≤ 1048576) :
    CN Try.prog 59 [.agg #[.int .i64 n, v], vs] w Value (fun _ => True) (fun u => u) (fun u => [.row u 3 1 ((pickIx (spF s xs) xs.length).map iv)]) := by
 have hl_xs : xs.length ≤ 9223372036854775807 := (by obtain ⟨_, _, _, hh, _⟩ := hr.shape; simpa using hh)
 refine calls_of_J (mu := (fun _ => False)) (m := [.ro v 2 (xs.map bv), .ro vs 1 (s.map iv)]) (e := [(0, .agg #[.int .i64 n, v]), (1, vs)]) Try.func59 rfl rfl (.cons rfl (.cons rfl .nil)) ((((St.init _ _).ro0 hrs (by decide)).ro0 hr (by decide))) ?_
 refine J.seq ?_
 refine J.reg ?_
 refine WL.efS (EF.boxA rfl) rfl rfl ?_
 intro b2 _
 refine WL.rd (RD.assign rfl) rfl rfl ?_
 refine WL.nil ?_
 refine JE.seqN ?_
 refine J.seq ?_
 refine J.reg ?_
 refine WL.efS (EF.build0) rfl rfl ?_
 intro v7 _
 refine WL.rd (RD.assign rfl) rfl rfl ?_
 refine WL.nil ?_
 refine JE.seqN ?_
 refine J.seq ?_
 refine J.seq ?_
 refine J.reg ?_
 refine WL.rd (RD.assign rfl) rfl rfl ?_
 refine WL.nil ?_
 refine JE.seqN ?_
 refine J.block ?_
 refine J.loop (fun gg ee mm => ∃ (k : Nat), ∃ (u : Value), gg = xs.length - k ∧ ((k ≤ xs.length)) ∧ ee = [(5, u), (6, .int .i64 (k : Int)), (1, vs), (2, .pointer (some ⟨b2, 0, none⟩))] ∧ mm = [.row u 3 1 ((pickIx (spF s xs) k).map iv), .cells b2 26 [.int .i64 n, v], .ro v 2 (xs.map bv), .ro vs 1 (s.map iv)]) _ ⟨0, v7, rfl, ?_, rfl, rfl⟩ ?_ ?_ ?_
 · first | omega | trivial | (refine ⟨?_, ?_⟩ <;> first | omega | rfl | simp)
 · exact (Sub.consE rfl (by first | rfl | (congr 1; omega) | (simp; done)) (Sub.consE rfl (by first | rfl | (congr 1; omega) | (simp; done)) (Sub.consE rfl (by first | rfl | (congr 1; omega) | (simp; done)) (Sub.consE rfl (by first | rfl | (congr 1; omega) | (simp; done)) .nil))))
 · exact (SubM.row rfl rfl (by simp [pickIx]) (SubM.cells rfl (by first | rfl | (simp; done)) (SubM.ro rfl (by first | rfl | (simp [iv, bv, yv, tv, sv]; done)) (SubM.ro rfl (by first | rfl | (simp [iv, bv, yv, tv, sv]; done)) .nil))))
 ·
  rintro g _ _ ⟨k, u, rfl, hI, rfl, rfl⟩
  have hpl := pickIx_le (spF s xs) k
  refine J.seq ?_
  refine J.seq ?_
  refine J.reg ?_
  refine WL.rd (RD.move rfl) rfl rfl ?_
  refine WL.rd (RD.fieldC rfl rfl) rfl rfl ?_
  refine WL.rd (RD.loadC rfl rfl) rfl rfl ?_
  refine WL.rd (RD.lenR rfl) rfl rfl ?_
  refine WL.rd (RD.lss rfl rfl) rfl rfl ?_
  refine WL.nil ?_
  refine JE.seqN ?_
  refine J.condP rfl (fun hc12 => ?_) (fun hc12 => ?_)
  ·
   refine J.skip ?_
   refine JE.seqN ?_
   refine J.seq ?_
   refine J.block ?_
   refine J.seq ?_
   refine J.reg ?_
   refine WL.rd (RD.move rfl) rfl rfl ?_
   refine WL.rd (RD.fieldC rfl rfl) rfl rfl ?_
   refine WL.rd (RD.loadC rfl rfl) rfl rfl ?_
   refine WL.rd (RD.move rfl) rfl rfl ?_
   refine WL.rd (RD.idx rfl rfl (by omega) rfl) rfl rfl ?_
   refine WL.rd (RD.fieldE rfl rfl) rfl rfl ?_
   refine WL.rd (RD.loadE rfl (by omega) rfl) rfl rfl ?_
   refine WL.efS (EF.callS (.cons rfl (.cons rfl .nil)) (fun w hS => l2Has_c _ _ _ _ (by exact RdI.rd hS))) rfl rfl ?_
   rintro ⟨⟩ -
   refine WL.rd (RD.move rfl) rfl rfl ?_
   refine WL.caseP 23 rfl (fun hg23 => ?_) (fun hg23 => ?_)
   ·
    refine WL.rd (RD.move rfl) rfl rfl ?_
    refine WL.rd (RD.fieldC rfl rfl) rfl rfl ?_
    refine WL.rd (RD.loadC rfl rfl) rfl rfl ?_
    refine WL.rd (RD.move rfl) rfl rfl ?_
    refine WL.rd (RD.idx rfl rfl (by omega) rfl) rfl rfl ?_
    refine WL.rd (RD.fieldE rfl rfl) rfl rfl ?_
    refine WL.rd (RD.loadE rfl (by omega) rfl) rfl rfl ?_
    refine WL.efS (EF.callS (.cons rfl (.cons rfl .nil)) (fun w hS => l2Has_c _ _ _ _ (by exact RdI.rd hS))) rfl rfl ?_
    rintro ⟨⟩ -
    refine WL.rd (RD.pickT rfl rfl) rfl rfl ?_
    refine WL.nil ?_
    refine JE.seqN ?_
    refine J.condP rfl (fun hc32 => ?_) (fun hc32 => ?_)
    ·
     refine J.reg ?_
     refine WL.rd (RD.move rfl) rfl rfl ?_
     refine WL.rd (RD.move rfl) rfl rfl ?_
     refine WL.efS (EF.build1 rfl) rfl rfl ?_
     intro v35 _
     refine WL.efS (EF.append rfl rfl (by omega) rfl rfl rfl) rfl rfl ?_
     intro v36 _
     refine WL.rd (RD.assign rfl) rfl rfl ?_
     refine WL.nil ?_
     refine JE.blockN ?_
     refine JE.seqN ?_
     refine J.reg ?_
     refine WL.rd (RD.move rfl) rfl rfl ?_
     refine WL.rd (RD.add rfl rfl (by omega) (by omega)) rfl rfl ?_
     refine WL.rd (RD.assign rfl) rfl rfl ?_
     refine WL.nil ?_
     refine JE.cutN ⟨_, ?_, k + 1, v36, rfl, ?_, rfl, rfl⟩ ?_ ?_
     · omega
     · first | omega | trivial | (refine ⟨?_, ?_⟩ <;> first | omega | rfl | simp)
     · exact (Sub.consE rfl (by first | rfl | (congr 1; omega) | (simp; done)) (Sub.consE rfl (by first | rfl | (congr 1; omega) | (simp; done)) (Sub.consE rfl (by first | rfl | (congr 1; omega) | (simp; done)) (Sub.consE rfl (by first | rfl | (congr 1; omega) | (simp; done)) .nil))))
     · exact (SubM.row rfl rfl (by first | rw [pickIx_yes _ k (spF_yes (by assumption) (by assumption))]) (SubM.cells rfl (by first | rfl | (simp; done)) (SubM.ro rfl (by first | rfl | (simp [iv, bv, yv, tv, sv]; done)) (SubM.ro rfl (by first | rfl | (simp [iv, bv, yv, tv, sv]; done)) .nil))))
    ·
     refine J.skip ?_
     refine JE.blockN ?_
     refine JE.seqN ?_
     refine J.reg ?_
     refine WL.rd (RD.move rfl) rfl rfl ?_
     refine WL.rd (RD.add rfl rfl (by omega) (by omega)) rfl rfl ?_
     refine WL.rd (RD.assign rfl) rfl rfl ?_
     refine WL.nil ?_
     refine JE.cutN ⟨_, ?_, k + 1, u, rfl, ?_, rfl, rfl⟩ ?_ ?_
     · omega
     · first | omega | trivial | (refine ⟨?_, ?_⟩ <;> first | omega | rfl | simp)
     · exact (Sub.consE rfl (by first | rfl | (congr 1; omega) | (simp; done)) (Sub.consE rfl (by first | rfl | (congr 1; omega) | (simp; done)) (Sub.consE rfl (by first | rfl | (congr 1; omega) | (simp; done)) (Sub.consE rfl (by first | rfl | (congr 1; omega) | (simp; done)) .nil))))
     · exact (SubM.row rfl rfl (by first | rw [pickIx_no _ k (spF_no1 (by assumption))] | rw [pickIx_no _ k (spF_no2 (by assumption))]) (SubM.cells rfl (by first | rfl | (simp; done)) (SubM.ro rfl (by first | rfl | (simp [iv, bv, yv, tv, sv]; done)) (SubM.ro rfl (by first | rfl | (simp [iv, bv, yv, tv, sv]; done)) .nil))))
   ·
    refine WL.noS rfl rfl ?_
    refine WL.noS rfl rfl ?_
    refine WL.noS rfl rfl ?_
    refine WL.noS rfl rfl ?_
    refine WL.noS rfl rfl ?_
    refine WL.noS rfl rfl ?_
    refine WL.noS rfl rfl ?_
    refine WL.noS rfl rfl ?_
    refine WL.rd (RD.pickF rfl rfl) rfl rfl ?_
    refine WL.nil ?_
    refine JE.seqN ?_
    refine J.condF rfl ?_
    refine J.skip ?_
    refine JE.blockN ?_
    refine JE.seqN ?_
    refine J.reg ?_
    refine WL.rd (RD.move rfl) rfl rfl ?_
    refine WL.rd (RD.add rfl rfl (by omega) (by omega)) rfl rfl ?_
    refine WL.rd (RD.assign rfl) rfl rfl ?_
    refine WL.nil ?_
    refine JE.cutN ⟨_, ?_, k + 1, u, rfl, ?_, rfl, rfl⟩ ?_ ?_
    · omega
    · first | omega | trivial | (refine ⟨?_, ?_⟩ <;> first | omega | rfl | simp)
    · exact (Sub.consE rfl (by first | rfl | (congr 1; omega) | (simp; done)) (Sub.consE rfl (by first | rfl | (congr 1; omega) | (simp; done)) (Sub.consE rfl (by first | rfl | (congr 1; omega) | (simp; done)) (Sub.consE rfl (by first | rfl | (congr 1; omega) | (simp; done)) .nil))))
    · exact (SubM.row rfl rfl (by first | rw [pickIx_no _ k (spF_no1 (by assumption))] | rw [pickIx_no _ k (spF_no2 (by assumption))]) (SubM.cells rfl (by first | rfl | (simp; done)) (SubM.ro rfl (by first | rfl | (simp [iv, bv, yv, tv, sv]; done)) (SubM.ro rfl (by first | rfl | (simp [iv, bv, yv, tv, sv]; done)) .nil))))
  ·
   refine J.exit ?_
   refine JE.seqX ?_
   refine JE.cutX ?_
   refine JE.blockHit ?_
   refine JE.seqN ?_
   refine J.seq ?_
   refine J.reg ?_
   refine WL.rd (RD.move rfl) rfl rfl ?_
   refine WL.rd (RD.assign rfl) rfl rfl ?_
   refine WL.nil ?_
   refine JE.seqN ?_
   refine J.ret ?_
   refine JE.ret rfl (.tmp rfl .nil) (fun w hS => ?_)
   exact CN.fin hS u rfl trivial (SubM.row rfl rfl (by rw [show k = xs.length by omega]) .nil) (by simp [En.rdb])
theorem l3Set_c (n : Int) (mask : Nat) (w : World) (hn : 0 ≤ n ∧ n ≤ 8) (hm : mask ≤ 256) :
    CN Try.prog 58 [.int .i64 n, .int .i64 (mask : Int)] w Value (fun _ => True) (fun u => u) (fun u => [.row u 3 1 ((setL n.toNat mask).map iv)]) := by
 refine calls_of_J (mu := (fun _ => False)) (m := []) (e := [(0, .int .i64 n), (1, .int .i64 (mask : Int))]) Try.func58 rfl rfl (.cons rfl (.cons rfl .nil)) (St.init _ _) ?_
 refine J.seq ?_
 refine J.reg ?_
 refine WL.rd (RD.assign rfl) rfl rfl ?_
 refine WL.nil ?_
 refine JE.seqN ?_
 refine J.seq ?_
 refine J.reg ?_
 refine WL.efS (EF.build0) rfl rfl ?_
 intro v7 _
 refine WL.rd (RD.assign rfl) rfl rfl ?_
 refine WL.nil ?_
 refine JE.seqN ?_
 refine J.seq ?_
 refine J.seq ?_
 refine J.reg ?_
 refine WL.rd (RD.assign rfl) rfl rfl ?_
 refine WL.nil ?_
 refine JE.seqN ?_
 refine J.block ?_
 refine J.loop (fun gg ee mm => ∃ (k : Nat), ∃ (u : Value), gg = n.toNat - k ∧ (((k : Int) ≤ n)) ∧ ee = [(5, u), (6, .int .i64 (k : Int)), (0, .int .i64 n), (1, .int .i64 (mask : Int))] ∧ mm = [.row u 3 1 ((pickIx (fun v => maskV mask (v : Int)) k).map iv)]) _ ⟨0, v7, rfl, ?_, rfl, rfl⟩ ?_ ?_ ?_
 · first | omega | trivial | (refine ⟨?_, ?_⟩ <;> first | omega | rfl | simp)
 · exact (Sub.consE rfl (by first | rfl | (congr 1; omega) | (simp; done)) (Sub.consE rfl (by first | rfl | (congr 1; omega) | (simp; done)) (Sub.consE rfl (by first | rfl | (congr 1; omega) | (simp; done)) (Sub.consE rfl (by first | rfl | (congr 1; omega) | (simp; done)) .nil))))
 · exact (SubM.row rfl rfl (by simp [pickIx]) .nil)
 ·
  rintro g _ _ ⟨k, u, rfl, hI, rfl, rfl⟩
  have hpl := pickIx_le (fun v => maskV mask (v : Int)) k
  have hmd : mask / 2 ^ k ≤ mask := Nat.div_le_self _ _
  refine J.seq ?_
  refine J.seq ?_
  refine J.reg ?_
  refine WL.rd (RD.move rfl) rfl rfl ?_
  refine WL.rd (RD.move rfl) rfl rfl ?_
  refine WL.rd (RD.lss rfl rfl) rfl rfl ?_
  refine WL.nil ?_
  refine JE.seqN ?_
  refine J.condP rfl (fun hc10 => ?_) (fun hc10 => ?_)
  ·
   refine J.skip ?_
   refine JE.seqN ?_
   refine J.seq ?_
   refine J.block ?_
   refine J.seq ?_
   refine J.reg ?_
   refine WL.rd (RD.move rfl) rfl rfl ?_
   refine WL.rd (RD.move rfl) rfl rfl ?_
   refine WL.rd (RD.shrN k mask rfl rfl rfl (by first | rfl | omega) (by omega)) rfl rfl ?_
   refine WL.rd (RD.maskN 1 (mask / 2 ^ k) rfl rfl rfl rfl (by decide) (by omega)) rfl rfl ?_
   refine WL.rd (RD.eql rfl rfl) rfl rfl ?_
   refine WL.nil ?_
   refine JE.seqN ?_
   refine J.condP rfl (fun hc17 => ?_) (fun hc17 => ?_)
   ·
    refine J.reg ?_
    refine WL.rd (RD.move rfl) rfl rfl ?_
    refine WL.rd (RD.move rfl) rfl rfl ?_
    refine WL.efS (EF.build1 rfl) rfl rfl ?_
    intro v20 _
    refine WL.efS (EF.append rfl rfl (by omega) rfl rfl rfl) rfl rfl ?_
    intro v21 _
    refine WL.rd (RD.assign rfl) rfl rfl ?_
    refine WL.nil ?_
    refine JE.blockN ?_
    refine JE.seqN ?_
    refine J.reg ?_
    refine WL.rd (RD.move rfl) rfl rfl ?_
    refine WL.rd (RD.add rfl rfl (by omega) (by omega)) rfl rfl ?_
    refine WL.rd (RD.assign rfl) rfl rfl ?_
    refine WL.nil ?_
    refine JE.cutN ⟨_, ?_, k + 1, v21, rfl, ?_, rfl, rfl⟩ ?_ ?_
    · omega
    · first | omega | trivial | (refine ⟨?_, ?_⟩ <;> first | omega | rfl | simp)
    · exact (Sub.consE rfl (by first | rfl | (congr 1; omega) | (simp; done)) (Sub.consE rfl (by first | rfl | (congr 1; omega) | (simp; done)) (Sub.consE rfl (by first | rfl | (congr 1; omega) | (simp; done)) (Sub.consE rfl (by first | rfl | (congr 1; omega) | (simp; done)) .nil))))
    · exact (SubM.row rfl rfl (by rw [pickIx_yes (fun v => maskV mask (v : Int)) k ((maskV_iff mask k).2 (by unfold bitN; omega))]) .nil)
   ·
    refine J.skip ?_
    refine JE.blockN ?_
    refine JE.seqN ?_
    refine J.reg ?_
    refine WL.rd (RD.move rfl) rfl rfl ?_
    refine WL.rd (RD.add rfl rfl (by omega) (by omega)) rfl rfl ?_
    refine WL.rd (RD.assign rfl) rfl rfl ?_
    refine WL.nil ?_
    refine JE.cutN ⟨_, ?_, k + 1, u, rfl, ?_, rfl, rfl⟩ ?_ ?_
    · omega
    · first | omega | trivial | (refine ⟨?_, ?_⟩ <;> first | omega | rfl | simp)
    · exact (Sub.consE rfl (by first | rfl | (congr 1; omega) | (simp; done)) (Sub.consE rfl (by first | rfl | (congr 1; omega) | (simp; done)) (Sub.consE rfl (by first | rfl | (congr 1; omega) | (simp; done)) (Sub.consE rfl (by first | rfl | (congr 1; omega) | (simp; done)) .nil))))
    · exact (SubM.row rfl rfl (by rw [pickIx_no (fun v => maskV mask (v : Int)) k (fun hh => hc17 (by have := (maskV_iff mask k).1 hh; unfold bitN at this; omega))]) .nil)
  ·
   refine J.exit ?_
   refine JE.seqX ?_
   refine JE.cutX ?_
   refine JE.blockHit ?_
   refine JE.seqN ?_
   refine J.seq ?_
   refine J.reg ?_
   refine WL.rd (RD.move rfl) rfl rfl ?_
   refine WL.rd (RD.assign rfl) rfl rfl ?_
   refine WL.nil ?_
   refine JE.seqN ?_
   refine J.ret ?_
   refine JE.ret rfl (.tmp rfl .nil) (fun w hS => ?_)
   exact CN.fin hS u rfl trivial (SubM.row rfl rfl (by rw [show k = n.toNat by omega]; rfl) .nil) (by simp [En.rdb])
theorem sOver_c (n : Int) (v : Value) (xs : List (Int × Int)) (k l : Int) (w : World) (hr : Rd w v 2 (xs.map bv)) (hk : -9223372036854775808 ≤ k ∧ k ≤ 9223372036854775807) (hl : -9223372036854775808 ≤ l ∧ l ≤ 9223372036854775807) :
    CN Try.prog 40 [.agg #[.int .i64 n, v], .int .i64 k, .int .i64 l] w Value (fun _ => True) (fun u => .tuple #[u, .bool (ovI n k l xs).isSome]) (fun u => [.row u 3 1 ((ovL n k l xs).map iv)]) := by
 have hl_xs : xs.length ≤ 9223372036854775807 := (by obtain ⟨_, _, _, hh, _⟩ := hr.shape; simpa using hh)
 refine calls_of_J (mu := (fun _ => False)) (m := [.ro v 2 (xs.map bv)]) (e := [(0, .agg #[.int .i64 n, v]), (1, .int .i64 k), (2, .int .i64 l)]) Try.func40 rfl rfl (.cons rfl (.cons rfl (.cons rfl .nil))) (((St.init _ _).ro0 hr (by decide))) ?_
 refine J.seq ?_
 refine J.reg ?_
 refine WL.efS (EF.boxA rfl) rfl rfl ?_
 intro b3 _
 refine WL.rd (RD.assign rfl) rfl rfl ?_
 refine WL.rd (RD.assign rfl) rfl rfl ?_
 refine WL.nil ?_
 refine JE.seqN ?_
 refine J.seq ?_
 refine J.seq ?_
 refine J.reg ?_
 refine WL.rd (RD.loadA rfl rfl) rfl rfl ?_
 refine WL.efS (EF.callS (.cons rfl .nil) (fun w hS => sIsGraph_c _ _ _ _ (by exact RdI.rd hS))) rfl rfl ?_
 rintro ⟨⟩ -
 refine WL.rd (RD.notP rfl) rfl rfl ?_
 refine WL.rd (RD.move rfl) rfl rfl ?_
 refine WL.caseP 14 rfl (fun hg14 => ?_) (fun hg14 => ?_)
 ·
  refine WL.noS rfl rfl ?_
  refine WL.noS rfl rfl ?_
  refine WL.noS rfl rfl ?_
  refine WL.noS rfl rfl ?_
  refine WL.rd (RD.pickT rfl rfl) rfl rfl ?_
  refine WL.nil ?_
  refine JE.seqN ?_
  refine J.condT rfl ?_
  refine J.seq ?_
  refine J.reg ?_
  refine WL.efS (EF.build0) rfl rfl ?_
  intro v20 _
  refine WL.rd (RD.assign rfl) rfl rfl ?_
  refine WL.rd (RD.assign rfl) rfl rfl ?_
  refine WL.nil ?_
  refine JE.seqN ?_
  refine J.ret ?_
  refine JE.ret rfl (.tmp rfl (.tmp rfl .nil)) (fun w hS => ?_)
  have h : ovI n k l xs = none := by unfold ovI; rw [if_neg (fun hh => hg14 hh.1)]
  exact CN.fin hS v20 (by rw [h]; rfl) trivial (SubM.row rfl rfl (by unfold ovL; rw [h]; rfl) .nil) (by simp [En.rdb])
 ·
  refine WL.rd (RD.move rfl) rfl rfl ?_
  refine WL.rd (RD.move rfl) rfl rfl ?_
  refine WL.efS (EF.callS (.cons rfl (.cons rfl .nil)) (fun w hS => sIsRange_c _ _ _ (by assumption))) rfl rfl ?_
  rintro ⟨⟩ -
  refine WL.rd (RD.notP rfl) rfl rfl ?_
  refine WL.rd (RD.pickF rfl rfl) rfl rfl ?_
  refine WL.nil ?_
  refine JE.seqN ?_
  refine J.condP rfl (fun hc19 => ?_) (fun hc19 => ?_)
  ·
   refine J.seq ?_
   refine J.reg ?_
   refine WL.efS (EF.build0) rfl rfl ?_
   intro v20 _
   refine WL.rd (RD.assign rfl) rfl rfl ?_
   refine WL.rd (RD.assign rfl) rfl rfl ?_
   refine WL.nil ?_
   refine JE.seqN ?_
   refine J.ret ?_
   refine JE.ret rfl (.tmp rfl (.tmp rfl .nil)) (fun w hS => ?_)
   have h : ovI n k l xs = none := by unfold ovI; rw [if_neg (fun hh => hc19 hh.2)]
   exact CN.fin hS v20 (by rw [h]; rfl) trivial (SubM.row rfl rfl (by unfold ovL; rw [h]; rfl) .nil) (by simp [En.rdb])
  ·
   refine J.skip ?_
   refine JE.seqN ?_
   refine J.seq ?_
   refine J.seq ?_
   have hg : isG n xs := Decidable.not_not.1 hg14
   have hrg := Decidable.not_not.1 hc19
   have h12 := hg.1
   have h13 := hg.2.1
   have h14 := hg.2.2.1
   have h2p := two_pow8 (n := n) ⟨h12, h13⟩
   refine J.reg ?_
   refine WL.rd (RD.assign rfl) rfl rfl ?_
   refine WL.nil ?_
   refine JE.seqN ?_
   refine J.block ?_
   refine J.loop (fun gg ee mm => ∃ (mask : Nat), gg = 2 ^ n.toNat - mask ∧ ((1 ≤ mask) ∧ (mask ≤ 2 ^ n.toNat) ∧ (ovScan n k l xs (2 ^ n.toNat - mask) mask = ovScan n k l xs (2 ^ n.toNat - 1) 1)) ∧ ee = [(8, .int .i64 (mask : Int)), (1, .int .i64 k), (2, .int .i64 l), (3, .pointer (some ⟨b3, 0, none⟩))] ∧ mm = [.cells b3 26 [.int .i64 n, v], .ro v 2 (xs.map bv)]) _ ⟨1, rfl, ?_, rfl, rfl⟩ ?_ ?_ ?_
   · exact ⟨by omega, by omega, rfl⟩
   · exact (Sub.consE rfl (by first | rfl | (congr 1; omega) | (simp; done)) (Sub.consE rfl (by first | rfl | (congr 1; omega) | (simp; done)) (Sub.consE rfl (by first | rfl | (congr 1; omega) | (simp; done)) (Sub.consE rfl (by first | rfl | (congr 1; omega) | (simp; done)) .nil))))
   · exact (SubM.cells rfl (by first | rfl | (simp; done)) (SubM.ro rfl (by first | rfl | (simp [iv, bv, yv, tv, sv]; done)) .nil))
   ·
    rintro g _ _ ⟨mask, rfl, hI, rfl, rfl⟩
    refine J.seq ?_
    refine J.seq ?_
    refine J.reg ?_
    refine WL.rd (RD.move rfl) rfl rfl ?_
    refine WL.rd (RD.fieldC rfl rfl) rfl rfl ?_
    refine WL.rd (RD.loadC rfl rfl) rfl rfl ?_
    refine WL.rd (RD.shlN n.toNat 1 rfl rfl rfl (by omega) (by omega) (by omega)) rfl rfl ?_
    refine WL.rd (RD.lss rfl rfl) rfl rfl ?_
    refine WL.nil ?_
    refine JE.seqN ?_
    refine J.condP rfl (fun hc25 => ?_) (fun hc25 => ?_)
    ·
     refine J.skip ?_
     refine JE.seqN ?_
     refine J.seq ?_
     refine J.block ?_
     refine J.seq ?_
     refine J.reg ?_
     refine WL.rd (RD.fieldC rfl rfl) rfl rfl ?_
     refine WL.rd (RD.loadC rfl rfl) rfl rfl ?_
     refine WL.rd (RD.move rfl) rfl rfl ?_
     refine WL.efS (EF.callN (.cons rfl (.cons rfl .nil)) (fun w hS => l3Set_c _ mask _ (by omega) (by omega))) rfl rfl ?_
     rintro v31 -
     refine WL.rd (RD.assign rfl) rfl rfl ?_
     refine WL.nil ?_
     refine JE.seqN ?_
     refine J.seq ?_
     refine J.reg ?_
     refine WL.rd (RD.loadA rfl rfl) rfl rfl ?_
     refine WL.rd (RD.move rfl) rfl rfl ?_
     refine WL.efS (EF.callN (.cons rfl (.cons rfl .nil)) (fun w hS => sSpannedBars_c _ _ _ _ _ _ (by exact RdI.rd hS) (by exact RdI.rd hS) (by omega))) rfl rfl ?_
     rintro v34 -
     refine WL.rd (RD.lenR rfl) rfl rfl ?_
     refine WL.rd (RD.assign rfl) rfl rfl ?_
     refine WL.nil ?_
     refine JE.seqN ?_
     refine J.seq ?_
     have hsp := span_set hg mask
     have hsl := setL_len n.toNat mask
     have hzl := sz_le n.toNat (maskV mask)
     have hmr := mul_rng (k := k) (n := (((setL n.toNat mask).length : Nat) : Int)) (by omega) (by omega)
     refine J.reg ?_
     refine WL.rd (RD.move rfl) rfl rfl ?_
     refine WL.rd (RD.gtr rfl rfl) rfl rfl ?_
     refine WL.rd (RD.move rfl) rfl rfl ?_
     refine WL.caseP 38 rfl (fun hg38 => ?_) (fun hg38 => ?_)
     ·
      refine WL.rd (RD.move rfl) rfl rfl ?_
      refine WL.rd (RD.move rfl) rfl rfl ?_
      refine WL.rd (RD.move rfl) rfl rfl ?_
      refine WL.rd (RD.lenR rfl) rfl rfl ?_
      refine WL.rd (RD.mul rfl rfl (by omega) (by omega)) rfl rfl ?_
      refine WL.rd (RD.move rfl) rfl rfl ?_
      refine WL.rd (RD.sub rfl rfl (by omega) (by omega)) rfl rfl ?_
      refine WL.rd (RD.gtr rfl rfl) rfl rfl ?_
      refine WL.rd (RD.pickT rfl rfl) rfl rfl ?_
      refine WL.nil ?_
      refine JE.seqN ?_
      refine J.condP rfl (fun hc47 => ?_) (fun hc47 => ?_)
      ·
       refine J.seq ?_
       refine J.reg ?_
       refine WL.rd (RD.move rfl) rfl rfl ?_
       refine WL.rd (RD.assign rfl) rfl rfl ?_
       refine WL.rd (RD.assign rfl) rfl rfl ?_
       refine WL.nil ?_
       refine JE.seqN ?_
       refine J.ret ?_
       refine JE.ret rfl (.tmp rfl (.tmp rfl .nil)) (fun w hS => ?_)
       have hov : overM n k l xs mask := by unfold overM; rw [← hsp, ← hsl]; constructor <;> omega
       have h : ovI n k l xs = some mask := by unfold ovI; rw [if_pos ⟨hg, hrg⟩, ← hI.2.2, ovScan_yes hov (by omega)]
       exact CN.fin hS v31 (by rw [h]; rfl) trivial (SubM.row rfl rfl (by unfold ovL; rw [h]) .nil) (by simp [En.rdb])
      ·
       refine J.skip ?_
       refine JE.blockN ?_
       refine JE.seqN ?_
       refine J.reg ?_
       refine WL.rd (RD.move rfl) rfl rfl ?_
       refine WL.rd (RD.add rfl rfl (by omega) (by omega)) rfl rfl ?_
       refine WL.rd (RD.assign rfl) rfl rfl ?_
       refine WL.nil ?_
       refine JE.cutN ⟨_, ?_, mask + 1, rfl, ?_, rfl, rfl⟩ ?_ ?_
       · omega
       · have hno : ¬ overM n k l xs mask := (by unfold overM; rw [← hsp, ← hsl]; omega); refine ⟨by omega, by omega, ?_⟩; rw [← hI.2.2, ovScan_no hno (by omega), Nat.sub_sub]
       · exact (Sub.consE rfl (by first | rfl | (congr 1; omega) | (simp; done)) (Sub.consE rfl (by first | rfl | (congr 1; omega) | (simp; done)) (Sub.consE rfl (by first | rfl | (congr 1; omega) | (simp; done)) (Sub.consE rfl (by first | rfl | (congr 1; omega) | (simp; done)) .nil))))
       · exact (SubM.cells rfl (by first | rfl | (simp; done)) (SubM.ro rfl (by first | rfl | (simp [iv, bv, yv, tv, sv]; done)) .nil))
     ·
      refine WL.noS rfl rfl ?_
      refine WL.noS rfl rfl ?_
      refine WL.noS rfl rfl ?_
      refine WL.noS rfl rfl ?_
      refine WL.noS rfl rfl ?_
      refine WL.noS rfl rfl ?_
      refine WL.noS rfl rfl ?_
      refine WL.noS rfl rfl ?_
      refine WL.rd (RD.pickF rfl rfl) rfl rfl ?_
      refine WL.nil ?_
      refine JE.seqN ?_
      refine J.condF rfl ?_
      refine J.skip ?_
      refine JE.blockN ?_
      refine JE.seqN ?_
      refine J.reg ?_
      refine WL.rd (RD.move rfl) rfl rfl ?_
      refine WL.rd (RD.add rfl rfl (by omega) (by omega)) rfl rfl ?_
      refine WL.rd (RD.assign rfl) rfl rfl ?_
      refine WL.nil ?_
      refine JE.cutN ⟨_, ?_, mask + 1, rfl, ?_, rfl, rfl⟩ ?_ ?_
      · omega
      · have hno : ¬ overM n k l xs mask := (by unfold overM; rw [← hsp, ← hsl]; omega); refine ⟨by omega, by omega, ?_⟩; rw [← hI.2.2, ovScan_no hno (by omega), Nat.sub_sub]
      · exact (Sub.consE rfl (by first | rfl | (congr 1; omega) | (simp; done)) (Sub.consE rfl (by first | rfl | (congr 1; omega) | (simp; done)) (Sub.consE rfl (by first | rfl | (congr 1; omega) | (simp; done)) (Sub.consE rfl (by first | rfl | (congr 1; omega) | (simp; done)) .nil))))
      · exact (SubM.cells rfl (by first | rfl | (simp; done)) (SubM.ro rfl (by first | rfl | (simp [iv, bv, yv, tv, sv]; done)) .nil))
    ·
     refine J.exit ?_
     refine JE.seqX ?_
     refine JE.cutX ?_
     refine JE.blockHit ?_
     refine JE.seqN ?_
     refine J.seq ?_
     refine J.reg ?_
     refine WL.efS (EF.build0) rfl rfl ?_
     intro v49 _
     refine WL.rd (RD.assign rfl) rfl rfl ?_
     refine WL.rd (RD.assign rfl) rfl rfl ?_
     refine WL.nil ?_
     refine JE.seqN ?_
     refine J.ret ?_
     refine JE.ret rfl (.tmp rfl (.tmp rfl .nil)) (fun w hS => ?_)
     have h : ovI n k l xs = none := by unfold ovI; rw [if_pos ⟨hg, hrg⟩, ← hI.2.2, show 2 ^ n.toNat - mask = 0 by omega]; rfl
     exact CN.fin hS v49 (by rw [h]; rfl) trivial (SubM.row rfl rfl (by unfold ovL; rw [h]; rfl) .nil) (by simp [En.rdb])
theorem sIsSparse_c (n : Int) (v : Value) (xs : List (Int × Int)) (k l : Int) (w : World) (hr : Rd w v 2 (xs.map bv)) (hk : -9223372036854775808 ≤ k ∧ k ≤ 9223372036854775807) (hl : -9223372036854775808 ≤ l ∧ l ≤ 9223372036854775807) :
    CS Try.prog 16 [.agg #[.int .i64 n, v], .int .i64 k, .int .i64 l] w (.bool (decide ((isG n xs ∧ (1 ≤ k ∧ k ≤ 3 ∧ 0 ≤ l ∧ l < 2 * k)) ∧ ovI n k l xs = none))) := by
 refine calls_of_J (mu := (fun _ => False)) (m := [.ro v 2 (xs.map bv)]) (e := [(0, .agg #[.int .i64 n, v]), (1, .int .i64 k), (2, .int .i64 l)]) Try.func16 rfl rfl (.cons rfl (.cons rfl (.cons rfl .nil))) (((St.init _ _).ro0 hr (by decide))) ?_
 refine J.seq ?_
 refine J.reg ?_
 refine WL.efS (EF.boxA rfl) rfl rfl ?_
 intro b3 _
 refine WL.rd (RD.assign rfl) rfl rfl ?_
 refine WL.nil ?_
 refine JE.seqN ?_
 refine J.seq ?_
 refine J.reg ?_
 refine WL.rd (RD.loadA rfl rfl) rfl rfl ?_
 refine WL.rd (RD.move rfl) rfl rfl ?_
 refine WL.rd (RD.move rfl) rfl rfl ?_
 refine WL.efS (EF.callN (.cons rfl (.cons rfl (.cons rfl .nil))) (fun w hS => sOver_c _ _ _ _ _ _ (by exact RdI.rd hS) (by assumption) (by assumption))) rfl rfl ?_
 rintro v13 -
 refine WL.rd (RD.move rfl) rfl rfl ?_
 refine WL.rd (RD.extract rfl rfl) rfl rfl ?_
 refine WL.rd (RD.extract rfl rfl) rfl rfl ?_
 refine WL.rd (RD.assign rfl) rfl rfl ?_
 refine WL.rd (RD.assign rfl) rfl rfl ?_
 refine WL.nil ?_
 refine JE.seqN ?_
 refine J.seq ?_
 refine J.reg ?_
 refine WL.rd (RD.loadA rfl rfl) rfl rfl ?_
 refine WL.efS (EF.callS (.cons rfl .nil) (fun w hS => sIsGraph_c _ _ _ _ (by exact RdI.rd hS))) rfl rfl ?_
 rintro ⟨⟩ -
 refine WL.rd (RD.move rfl) rfl rfl ?_
 refine WL.caseP 18 rfl (fun hg18 => ?_) (fun hg18 => ?_)
 ·
  refine WL.rd (RD.move rfl) rfl rfl ?_
  refine WL.rd (RD.move rfl) rfl rfl ?_
  refine WL.efS (EF.callS (.cons rfl (.cons rfl .nil)) (fun w hS => sIsRange_c _ _ _ (by assumption))) rfl rfl ?_
  rintro ⟨⟩ -
  refine WL.rd (RD.pickT rfl rfl) rfl rfl ?_
  refine WL.rd (RD.move rfl) rfl rfl ?_
  refine WL.caseP 23 rfl (fun hg23 => ?_) (fun hg23 => ?_)
  ·
   refine WL.rd (RD.move rfl) rfl rfl ?_
   refine WL.rd (RD.not rfl) rfl rfl ?_
   refine WL.rd (RD.pickT rfl rfl) rfl rfl ?_
   refine WL.rd (RD.assign rfl) rfl rfl ?_
   refine WL.nil ?_
   refine JE.seqN ?_
   refine J.ret ?_
   refine JE.ret rfl (.tmp rfl .nil) (fun w hS => ?_)
   first | exact CS.fin hS (mk_dec ⟨fun h => ⟨⟨by assumption, by assumption⟩, by simpa using h⟩, fun h => by simpa using h.2⟩) | exact CS.fin hS (mk_false (fun h => by first | exact absurd h.1.1 (by assumption) | exact absurd h.1.2 (by assumption))) | exact CS.fin hS (by cases ho : ovI n k l xs <;> simp_all [mkRes])
  ·
   refine WL.noS rfl rfl ?_
   refine WL.noS rfl rfl ?_
   refine WL.rd (RD.pickF rfl rfl) rfl rfl ?_
   refine WL.rd (RD.assign rfl) rfl rfl ?_
   refine WL.nil ?_
   refine JE.seqN ?_
   refine J.ret ?_
   refine JE.ret rfl (.tmp rfl .nil) (fun w hS => ?_)
   first | exact CS.fin hS (mk_dec ⟨fun h => ⟨⟨by assumption, by assumption⟩, by simpa using h⟩, fun h => by simpa using h.2⟩) | exact CS.fin hS (mk_false (fun h => by first | exact absurd h.1.1 (by assumption) | exact absurd h.1.2 (by assumption))) | exact CS.fin hS (by cases ho : ovI n k l xs <;> simp_all [mkRes])
 ·
  refine WL.noS rfl rfl ?_
  refine WL.noS rfl rfl ?_
  refine WL.noS rfl rfl ?_
  refine WL.rd (RD.pickF rfl rfl) rfl rfl ?_
  refine WL.rd (RD.move rfl) rfl rfl ?_
  refine WL.noS rfl rfl ?_
  refine WL.noS rfl rfl ?_
  refine WL.rd (RD.pickF rfl rfl) rfl rfl ?_
  refine WL.rd (RD.assign rfl) rfl rfl ?_
  refine WL.nil ?_
  refine JE.seqN ?_
  refine J.ret ?_
  refine JE.ret rfl (.tmp rfl .nil) (fun w hS => ?_)
  first | exact CS.fin hS (mk_dec ⟨fun h => ⟨⟨by assumption, by assumption⟩, by simpa using h⟩, fun h => by simpa using h.2⟩) | exact CS.fin hS (mk_false (fun h => by first | exact absurd h.1.1 (by assumption) | exact absurd h.1.2 (by assumption))) | exact CS.fin hS (by cases ho : ovI n k l xs <;> simp_all [mkRes])

end Go.Proofs.Ytpojkjabngkfgaa
