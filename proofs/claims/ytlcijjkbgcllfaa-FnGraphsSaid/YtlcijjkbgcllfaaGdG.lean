/- Contracts of functions of the program, each walked once; written by a program of our own. -/
import Derived.Test.YtlcijjkbgcllfaaGcG
import Derived.Test.YtlcijjkbgcllfaaMi
namespace Go.Proofs.Ytlcijjkbgcllfaa
open Go Go.RowKit
set_option maxRecDepth 4000

theorem reach_c (n : Int) (v : Value) (xs : List (Int × Int)) (p : Int) (w : World) (hr : Rd w v 2 (xs.map bv)) (hg : isG n xs) (hp : 0 ≤ p ∧ p < n) :
    CN Try.prog 125 [.agg #[.int .i64 n, v], .int .i64 p] w Value (fun _ => True) (fun u => u) (fun u => [.row u 4 1 ((reachS n.toNat xs p.toNat).map tv)]) := by
 have hg1 := hg.1
 have hg2 := hg.2.1
 have hg3 := hg.2.2.1
 refine calls_of_J (mu := (fun _ => False)) (m := [.ro v 2 (xs.map bv)]) (e := [(0, .agg #[.int .i64 n, v]), (1, .int .i64 p)]) Try.func125 rfl rfl (.cons rfl (.cons rfl .nil)) (((St.init _ _).ro0 hr (by decide))) ?_
 refine J.seq ?_
 refine J.reg ?_
 refine WL.efS (EF.boxA rfl) rfl rfl ?_
 intro b2 _
 refine WL.rd (RD.assign rfl) rfl rfl ?_
 refine WL.nil ?_
 refine JE.seqN ?_
 refine J.seq ?_
 refine J.reg ?_
 refine WL.rd (RD.fieldC rfl rfl) rfl rfl ?_
 refine WL.rd (RD.loadC rfl rfl) rfl rfl ?_
 refine WL.efS (EF.makeN (n := n.toNat) (n' := n.toNat) (hn := ⟨by omega⟩) (hn' := ⟨by omega⟩) rfl rfl rfl rfl (by omega)) rfl rfl ?_
 intro v11 _
 refine WL.rd (RD.assign rfl) rfl rfl ?_
 refine WL.nil ?_
 refine JE.seqN ?_
 refine J.seq ?_
 refine J.reg ?_
 refine WL.rd (RD.move rfl) rfl rfl ?_
 refine WL.rd (RD.move rfl) rfl rfl ?_
 refine WL.rd (RD.idx (j := p.toNat) (hj := ⟨by omega⟩) rfl rfl (by omega) rfl) rfl rfl ?_
 refine WL.efN (EF.storeE rfl rfl (by omega) rfl) rfl ?_
 rintro ⟨⟩ -
 refine WL.nil ?_
 refine JE.seqN ?_
 refine J.seq ?_
 refine J.seq ?_
 refine J.reg ?_
 refine WL.rd (RD.assign rfl) rfl rfl ?_
 refine WL.nil ?_
 refine JE.seqN ?_
 refine J.block ?_
 refine J.loop (fun gg ee mm => ∃ (m : Nat), ∃ (b : Bool), gg = 2 * cf (iterR xs m (s0R n.toNat p.toNat)) + (if b then 1 else 0) ∧ ((b = false → passR xs (iterR xs m (s0R n.toNat p.toNat)) = (iterR xs m (s0R n.toNat p.toNat)))) ∧ ee = [(2, .pointer (some ⟨b2, 0, none⟩)), (5, v11), (6, .bool b)] ∧ mm = [.row v11 4 1 ((iterR xs m (s0R n.toNat p.toNat)).map tv), .cells b2 26 [.int .i64 n, v], .ro v 2 (xs.map bv)]) _ ⟨0, true, rfl, ?_, rfl, rfl⟩ ?_ ?_ ?_
 · exact fun h => by cases h
 · exact (Sub.consE rfl (by first | rfl | (congr 1; omega) | (simp; done)) (Sub.consE rfl (by first | rfl | (congr 1; omega) | (simp; done)) (Sub.consE rfl (by first | rfl | (congr 1; omega) | (simp; done)) .nil)))
 · exact (SubM.row rfl rfl (by simp [iterR, s0R, tv, List.map_set]) (SubM.cells rfl (by first | rfl | (simp; done)) (SubM.ro rfl (by first | rfl | (simp [iv, bv, yv, tv, sv]; done)) .nil)))
 ·
  rintro g _ _ ⟨m, b, rfl, hI, rfl, rfl⟩
  refine J.seq ?_
  refine J.seq ?_
  refine J.reg ?_
  refine WL.rd (RD.move rfl) rfl rfl ?_
  refine WL.nil ?_
  refine JE.seqN ?_
  refine J.cond rfl (fun hc15 => ?_) (fun hc15 => ?_)
  ·
   refine J.skip ?_
   refine JE.seqN ?_
   refine J.block ?_
   refine J.seq ?_
   refine J.reg ?_
   refine WL.rd (RD.assign rfl) rfl rfl ?_
   refine WL.nil ?_
   refine JE.seqN ?_
   refine J.seq ?_
   refine J.reg ?_
   refine WL.rd (RD.fieldC rfl rfl) rfl rfl ?_
   refine WL.rd (RD.loadC rfl rfl) rfl rfl ?_
   refine WL.rd (RD.lenR rfl) rfl rfl ?_
   refine WL.rd (RD.move rfl) rfl rfl ?_
   refine WL.nil ?_
   refine JE.seqN ?_
   refine J.block ?_
   refine J.loop (fun gg ee mm => ∃ (k : Nat), ∃ (c : Bool), gg = xs.length - k ∧ ((k ≤ xs.length) ∧ (c = true → cf (passK xs k (iterR xs m (s0R n.toNat p.toNat))) < cf (iterR xs m (s0R n.toNat p.toNat))) ∧ (c = false → passK xs k (iterR xs m (s0R n.toNat p.toNat)) = (iterR xs m (s0R n.toNat p.toNat)))) ∧ ee = [(2, .pointer (some ⟨b2, 0, none⟩)), (5, v11), (6, .bool c), (17, v), (18, .int .i64 (xs.length : Int)), (19, .int .i64 (k : Int))] ∧ mm = [.row v11 4 1 ((passK xs k (iterR xs m (s0R n.toNat p.toNat))).map tv), .cells b2 26 [.int .i64 n, v], .ro v 2 (xs.map bv)]) _ ⟨0, false, rfl, ?_, rfl, rfl⟩ ?_ ?_ ?_
   · exact ⟨by omega, fun h => (by cases h), fun _ => passK_zero xs _⟩
   · exact (Sub.consE rfl (by first | rfl | (congr 1; omega) | (simp; done)) (Sub.consE rfl (by first | rfl | (congr 1; omega) | (simp; done)) (Sub.consE rfl (by first | rfl | (congr 1; omega) | (simp; done)) (Sub.consE rfl (by first | rfl | (congr 1; omega) | (simp; done)) (Sub.consE rfl (by first | rfl | (congr 1; omega) | (simp; done)) (Sub.consE rfl (by first | rfl | (congr 1; omega) | (simp; done)) .nil))))))
   · exact (SubM.row rfl rfl (by rw [passK_zero]) (SubM.cells rfl (by first | rfl | (simp; done)) (SubM.ro rfl (by first | rfl | (simp [iv, bv, yv, tv, sv]; done)) .nil)))
   ·
    rintro g _ _ ⟨k, c, rfl, hJ, rfl, rfl⟩
    have hpl := passK_len xs k (iterR xs m (s0R n.toNat p.toNat))
    rw [iterR_len, s0R_len] at hpl
    have hfc := (fold_cf (xs.take k) (iterR xs m (s0R n.toNat p.toNat))).1
    refine J.seq ?_
    refine J.reg ?_
    refine WL.rd (RD.lss rfl rfl) rfl rfl ?_
    refine WL.nil ?_
    refine JE.seqN ?_
    refine J.seq ?_
    refine J.condP rfl (fun hc20 => ?_) (fun hc20 => ?_)
    ·
     refine J.skip ?_
     refine JE.seqN ?_
     refine J.seq ?_
     refine J.block ?_
     refine J.seq ?_
     refine J.reg ?_
     refine WL.rd (RD.idx rfl rfl (by omega) rfl) rfl rfl ?_
     refine WL.rd (RD.loadEA rfl (by omega) rfl) rfl rfl ?_
     refine WL.efS (EF.allocA) rfl rfl ?_
     intro b8 _
     refine WL.efN (EF.storeA rfl rfl rfl rfl) rfl ?_
     rintro ⟨⟩ -
     refine WL.nil ?_
     refine JE.seqN ?_
     refine J.seq ?_
     have hgb := gBar hg k (by omega)
     refine J.anyAll [] ?_
     refine WA.takeP 0 rfl (RDP.of fun _ => RD.move rfl) rfl (by kernel_rfl) rfl ?_
     refine WA.takeP 1 rfl (RDP.of fun _ => RD.fieldC rfl rfl) rfl (by kernel_rfl) rfl ?_
     refine WA.take 2 rfl (RD.loadC rfl rfl) rfl (by kernel_rfl) rfl ?_
     refine WA.takeP 3 rfl (RDP.idx (j := (xs.getD k default).1.toNat) (hj := ⟨by omega⟩) rfl rfl (by omega) rfl) rfl (by kernel_rfl) rfl ?_
     refine WA.take 4 rfl (RD.loadE rfl (by omega) rfl) rfl (by kernel_rfl) rfl ?_
     refine WA.takeP 5 rfl (RDP.of fun _ => RD.move rfl) rfl (by kernel_rfl) rfl ?_
     refine WA.takeP 6 rfl (RDP.of fun _ => RD.fieldC rfl rfl) rfl (by kernel_rfl) rfl ?_
     refine WA.take 7 rfl (RD.loadC rfl rfl) rfl (by kernel_rfl) rfl ?_
     refine WA.takeP 8 rfl (RDP.idx (j := (xs.getD k default).2.toNat) (hj := ⟨by omega⟩) rfl rfl (by omega) rfl) rfl (by kernel_rfl) rfl ?_
     refine WA.take 9 rfl (RD.loadE rfl (by omega) rfl) rfl (by kernel_rfl) rfl ?_
     refine WA.takeP 10 rfl (RDP.of fun _ => RD.neqB rfl rfl) rfl (by kernel_rfl) rfl ?_
     refine WA.done (by kernel_rfl) ?_
     refine JE.seqN ?_
     refine J.cond rfl (fun hc33 => ?_) (fun hc33 => ?_)
     ·
      refine J.seq ?_
      refine J.reg ?_
      refine WL.rd (RD.move rfl) rfl rfl ?_
      refine WL.rd (RD.fieldC rfl rfl) rfl rfl ?_
      refine WL.rd (RD.loadC rfl rfl) rfl rfl ?_
      refine WL.rd (RD.idx (j := (xs.getD k default).1.toNat) (hj := ⟨by omega⟩) rfl rfl (by omega) rfl) rfl rfl ?_
      refine WL.efN (EF.storeE rfl rfl (by omega) rfl) rfl ?_
      rintro ⟨⟩ -
      refine WL.nil ?_
      refine JE.seqN ?_
      refine J.seq ?_
      refine J.reg ?_
      refine WL.rd (RD.move rfl) rfl rfl ?_
      refine WL.rd (RD.fieldC rfl rfl) rfl rfl ?_
      refine WL.rd (RD.loadC rfl rfl) rfl rfl ?_
      refine WL.rd (RD.idx (j := (xs.getD k default).2.toNat) (hj := ⟨by omega⟩) rfl rfl (by omega) rfl) rfl rfl ?_
      refine WL.efN (EF.storeE rfl rfl (by omega) rfl) rfl ?_
      rintro ⟨⟩ -
      refine WL.nil ?_
      refine JE.seqN ?_
      refine J.reg ?_
      refine WL.rd (RD.assign rfl) rfl rfl ?_
      refine WL.nil ?_
      refine JE.blockN ?_
      refine JE.seqN ?_
      refine J.reg ?_
      refine WL.rd (RD.add rfl rfl (by omega) (by omega)) rfl rfl ?_
      refine WL.rd (RD.move rfl) rfl rfl ?_
      refine WL.nil ?_
      refine JE.cutN ⟨_, ?_, k + 1, true, rfl, ?_, rfl, rfl⟩ ?_ ?_
      · omega
      · exact ⟨by omega, fun _ => by rw [passK_succ xs k (iterR xs m (s0R n.toNat p.toNat)) (by omega)]; have h1 := (stR_diff (passK xs k (iterR xs m (s0R n.toNat p.toNat))) (xs.getD k default) (by omega) (by omega) (bne_iff_ne.1 hc33)).2; have h2 : cf (passK xs k (iterR xs m (s0R n.toNat p.toNat))) ≤ cf (iterR xs m (s0R n.toNat p.toNat)) := hfc; omega, fun h => (by cases h)⟩
      · exact (Sub.consE rfl (by first | rfl | (congr 1; omega) | (simp; done)) (Sub.consE rfl (by first | rfl | (congr 1; omega) | (simp; done)) (Sub.consE rfl (by first | rfl | (congr 1; omega) | (simp; done)) (Sub.consE rfl (by first | rfl | (congr 1; omega) | (simp; done)) (Sub.consE rfl (by first | rfl | (congr 1; omega) | (simp; done)) (Sub.consE rfl (by first | rfl | (congr 1; omega) | (simp; done)) .nil))))))
      · exact (SubM.row rfl rfl (by rw [passK_succ xs k (iterR xs m (s0R n.toNat p.toNat)) (by omega), (stR_diff (passK xs k (iterR xs m (s0R n.toNat p.toNat))) (xs.getD k default) (by omega) (by omega) (bne_iff_ne.1 hc33)).1, ← set2_tv]) (SubM.cells rfl (by first | rfl | (simp; done)) (SubM.ro rfl (by first | rfl | (simp [iv, bv, yv, tv, sv]; done)) .nil)))
     ·
      refine J.skip ?_
      refine JE.blockN ?_
      refine JE.seqN ?_
      refine J.reg ?_
      refine WL.rd (RD.add rfl rfl (by omega) (by omega)) rfl rfl ?_
      refine WL.rd (RD.move rfl) rfl rfl ?_
      refine WL.nil ?_
      refine JE.cutN ⟨_, ?_, k + 1, c, rfl, ?_, rfl, rfl⟩ ?_ ?_
      · omega
      · rw [passK_succ xs k (iterR xs m (s0R n.toNat p.toNat)) (by omega), (stR_same (passK xs k (iterR xs m (s0R n.toNat p.toNat))) (xs.getD k default) (bne_eq_false_iff_eq.1 hc33))]; exact ⟨by omega, hJ.2⟩
      · exact (Sub.consE rfl (by first | rfl | (congr 1; omega) | (simp; done)) (Sub.consE rfl (by first | rfl | (congr 1; omega) | (simp; done)) (Sub.consE rfl (by first | rfl | (congr 1; omega) | (simp; done)) (Sub.consE rfl (by first | rfl | (congr 1; omega) | (simp; done)) (Sub.consE rfl (by first | rfl | (congr 1; omega) | (simp; done)) (Sub.consE rfl (by first | rfl | (congr 1; omega) | (simp; done)) .nil))))))
      · exact (SubM.row rfl rfl (by rw [passK_succ xs k (iterR xs m (s0R n.toNat p.toNat)) (by omega), (stR_same (passK xs k (iterR xs m (s0R n.toNat p.toNat))) (xs.getD k default) (bne_eq_false_iff_eq.1 hc33))]) (SubM.cells rfl (by first | rfl | (simp; done)) (SubM.ro rfl (by first | rfl | (simp [iv, bv, yv, tv, sv]; done)) .nil)))
    ·
     refine J.exit ?_
     refine JE.seqX ?_
     refine JE.cutX ?_
     refine JE.blockHit ?_
     refine JE.blockN ?_
     refine JE.cutN ⟨_, ?_, m + 1, c, rfl, ?_, rfl, rfl⟩ ?_ ?_
     · rw [hc15, (show iterR xs (m + 1) (s0R n.toNat p.toNat) = passK xs k (iterR xs m (s0R n.toNat p.toNat)) from (passK_all xs k _ (by omega)).symm)]; cases c with | true => (have := hJ.2.1 rfl; simp; omega) | false => (rw [hJ.2.2 rfl]; simp)
     · intro hb; have h1 := hJ.2.2 hb; rw [passK_all xs k _ (by omega)] at h1; show passR xs (passR xs _) = passR xs _; rw [h1, h1]
     · exact (Sub.consE rfl (by first | rfl | (congr 1; omega) | (simp; done)) (Sub.consE rfl (by first | rfl | (congr 1; omega) | (simp; done)) (Sub.consE rfl (by first | rfl | (congr 1; omega) | (simp; done)) .nil)))
     · exact (SubM.row rfl rfl (by rw [(show iterR xs (m + 1) (s0R n.toNat p.toNat) = passK xs k (iterR xs m (s0R n.toNat p.toNat)) from (passK_all xs k _ (by omega)).symm)]) (SubM.cells rfl (by first | rfl | (simp; done)) (SubM.ro rfl (by first | rfl | (simp [iv, bv, yv, tv, sv]; done)) .nil)))
  ·
   refine J.exit ?_
   refine JE.seqX ?_
   refine JE.cutX ?_
   refine JE.blockHit ?_
   refine JE.seqN ?_
   refine J.seq ?_
   refine J.reg ?_
   refine WL.rd (RD.move rfl) rfl rfl ?_
   refine WL.rd (RD.assign rfl) rfl rfl ?_
   refine WL.nil ?_
   refine JE.seqN ?_
   refine J.ret ?_
   refine JE.ret rfl (.tmp rfl .nil) (fun w hS => ?_)
   rw [reach_eq n.toNat xs p.toNat m (hI hc15)] at hS
   exact CN.fin hS v11 rfl trivial (SubM.row rfl rfl rfl .nil) (by simp [En.rdb])
theorem iReachOf_c (n : Int) (v : Value) (xs : List (Int × Int)) (p : Int) (w : World) (hr : Rd w v 2 (xs.map bv)) :
    CN Try.prog 42 [.agg #[.int .i64 n, v], .int .i64 p] w Value (fun _ => True) (fun u => u) (fun u => [.row u 3 1 ((rchI n xs p).map iv)]) := by
 refine calls_of_J (mu := (fun _ => False)) (m := [.ro v 2 (xs.map bv)]) (e := [(0, .agg #[.int .i64 n, v]), (1, .int .i64 p)]) Try.func42 rfl rfl (.cons rfl (.cons rfl .nil)) (((St.init _ _).ro0 hr (by decide))) ?_
 refine J.seq ?_
 refine J.reg ?_
 refine WL.efS (EF.boxA rfl) rfl rfl ?_
 intro b2 _
 refine WL.rd (RD.assign rfl) rfl rfl ?_
 refine WL.nil ?_
 refine JE.seqN ?_
 refine J.seq ?_
 refine J.reg ?_
 refine WL.efS (EF.build0) rfl rfl ?_
 intro v8 _
 refine WL.rd (RD.assign rfl) rfl rfl ?_
 refine WL.nil ?_
 refine JE.seqN ?_
 refine J.seq ?_
 refine J.seq ?_
 refine J.reg ?_
 refine WL.rd (RD.loadA rfl rfl) rfl rfl ?_
 refine WL.efS (EF.callS (.cons rfl .nil) (fun w hS => iIsGraph_c _ _ _ _ (by exact RdI.rd hS))) rfl rfl ?_
 rintro ⟨⟩ -
 refine WL.rd (RD.notP rfl) rfl rfl ?_
 refine WL.rd (RD.move rfl) rfl rfl ?_
 refine WL.caseP 12 rfl (fun hg12 => ?_) (fun hg12 => ?_)
 ·
  refine WL.noS rfl rfl ?_
  refine WL.noS rfl rfl ?_
  refine WL.noS rfl rfl ?_
  refine WL.noS rfl rfl ?_
  refine WL.rd (RD.pickT rfl rfl) rfl rfl ?_
  refine WL.nil ?_
  refine JE.seqN ?_
  refine J.condT rfl ?_
  refine J.seq ?_
  refine J.reg ?_
  refine WL.rd (RD.move rfl) rfl rfl ?_
  refine WL.rd (RD.assign rfl) rfl rfl ?_
  refine WL.nil ?_
  refine JE.seqN ?_
  refine J.ret ?_
  refine JE.ret rfl (.tmp rfl .nil) (fun w hS => ?_)
  have hno : ¬ (isG n xs ∧ 0 ≤ p ∧ p < n) := fun hh => by first | exact absurd hh.1 (by assumption) | (have h1 := hh.2; omega)
  exact CN.fin hS v8 rfl trivial (SubM.row rfl rfl (by unfold rchI; rw [if_neg hno]; rfl) .nil) (by simp [En.rdb])
 ·
  have hg : isG n xs := Decidable.not_not.1 hg12
  have hg1 := hg.1
  have hg2 := hg.2.1
  have hg3 := hg.2.2.1
  refine WL.rd (RD.loadA rfl rfl) rfl rfl ?_
  refine WL.rd (RD.move rfl) rfl rfl ?_
  refine WL.efS (EF.callS (.cons rfl (.cons rfl .nil)) (fun w hS => graphHas_c _ _ _ _ (by omega))) rfl rfl ?_
  rintro ⟨⟩ -
  refine WL.rd (RD.notP rfl) rfl rfl ?_
  refine WL.rd (RD.pickF rfl rfl) rfl rfl ?_
  refine WL.nil ?_
  refine JE.seqN ?_
  refine J.condP rfl (fun hc17 => ?_) (fun hc17 => ?_)
  ·
   refine J.seq ?_
   refine J.reg ?_
   refine WL.rd (RD.move rfl) rfl rfl ?_
   refine WL.rd (RD.assign rfl) rfl rfl ?_
   refine WL.nil ?_
   refine JE.seqN ?_
   refine J.ret ?_
   refine JE.ret rfl (.tmp rfl .nil) (fun w hS => ?_)
   have hno : ¬ (isG n xs ∧ 0 ≤ p ∧ p < n) := fun hh => by first | exact absurd hh.1 (by assumption) | (have h1 := hh.2; omega)
   exact CN.fin hS v8 rfl trivial (SubM.row rfl rfl (by unfold rchI; rw [if_neg hno]; rfl) .nil) (by simp [En.rdb])
  ·
   refine J.skip ?_
   refine JE.seqN ?_
   refine J.seq ?_
   refine J.seq ?_
   refine J.reg ?_
   refine WL.rd (RD.loadA rfl rfl) rfl rfl ?_
   refine WL.rd (RD.move rfl) rfl rfl ?_
   refine WL.efS (EF.callN (.cons rfl (.cons rfl .nil)) (fun w hS => reach_c _ _ _ _ _ (by exact RdI.rd hS) (by assumption) (by omega))) rfl rfl ?_
   rintro v21 -
   refine WL.rd (RD.lenR rfl) rfl rfl ?_
   refine WL.rd (RD.move rfl) rfl rfl ?_
   refine WL.nil ?_
   refine JE.seqN ?_
   refine J.block ?_
   refine J.loop (fun gg ee mm => ∃ (k : Nat), ∃ (u : Value), gg = n.toNat - k ∧ ((k ≤ n.toNat)) ∧ ee = [(5, u), (21, v21), (22, .int .i64 ((reachS n.toNat xs p.toNat).length : Int)), (23, .int .i64 (k : Int))] ∧ mm = [.row u 3 1 ((trueIx (reachS n.toNat xs p.toNat) k).map iv), .row v21 4 1 ((reachS n.toNat xs p.toNat).map tv)]) _ ⟨0, v8, rfl, ?_, rfl, rfl⟩ ?_ ?_ ?_
   · first | omega | trivial | (refine ⟨?_, ?_⟩ <;> first | omega | rfl | simp)
   · exact (Sub.consE rfl (by first | rfl | (congr 1; omega) | (simp; done)) (Sub.consE rfl (by first | rfl | (congr 1; omega) | (simp; done)) (Sub.consE rfl (by first | rfl | (congr 1; omega) | (simp; done)) (Sub.consE rfl (by first | rfl | (congr 1; omega) | (simp; done)) .nil))))
   · exact (SubM.row rfl rfl (by simp [trueIx]) (SubM.row rfl rfl (by first | rfl | (simp [iv, bv, yv, tv, sv]; done)) .nil))
   ·
    rintro g _ _ ⟨k, u, rfl, hI, rfl, rfl⟩
    have hrl := reachS_len n.toNat xs p.toNat
    have htl := trueIx_len (reachS n.toNat xs p.toNat) k
    refine J.seq ?_
    refine J.reg ?_
    refine WL.rd (RD.lss rfl rfl) rfl rfl ?_
    refine WL.nil ?_
    refine JE.seqN ?_
    refine J.seq ?_
    refine J.condP rfl (fun hc24 => ?_) (fun hc24 => ?_)
    ·
     refine J.skip ?_
     refine JE.seqN ?_
     refine J.seq ?_
     refine J.block ?_
     refine J.seq ?_
     refine J.reg ?_
     refine WL.rd (RD.move rfl) rfl rfl ?_
     refine WL.rd (RD.idx rfl rfl (by omega) rfl) rfl rfl ?_
     refine WL.rd (RD.loadE rfl (by omega) rfl) rfl rfl ?_
     refine WL.rd (RD.assign rfl) rfl rfl ?_
     refine WL.rd (RD.assign rfl) rfl rfl ?_
     refine WL.nil ?_
     refine JE.seqN ?_
     refine J.seq ?_
     refine J.reg ?_
     refine WL.rd (RD.move rfl) rfl rfl ?_
     refine WL.nil ?_
     refine JE.seqN ?_
     refine J.cond rfl (fun hc28 => ?_) (fun hc28 => ?_)
     ·
      refine J.reg ?_
      refine WL.rd (RD.move rfl) rfl rfl ?_
      refine WL.rd (RD.move rfl) rfl rfl ?_
      refine WL.efS (EF.build1 rfl) rfl rfl ?_
      intro v31 _
      refine WL.efS (EF.append rfl rfl (by omega) rfl rfl rfl) rfl rfl ?_
      intro v32 _
      refine WL.rd (RD.assign rfl) rfl rfl ?_
      refine WL.nil ?_
      refine JE.blockN ?_
      refine JE.seqN ?_
      refine J.reg ?_
      refine WL.rd (RD.add rfl rfl (by omega) (by omega)) rfl rfl ?_
      refine WL.rd (RD.move rfl) rfl rfl ?_
      refine WL.nil ?_
      refine JE.cutN ⟨_, ?_, k + 1, v32, rfl, ?_, rfl, rfl⟩ ?_ ?_
      · omega
      · first | omega | trivial | (refine ⟨?_, ?_⟩ <;> first | omega | rfl | simp)
      · exact (Sub.consE rfl (by first | rfl | (congr 1; omega) | (simp; done)) (Sub.consE rfl (by first | rfl | (congr 1; omega) | (simp; done)) (Sub.consE rfl (by first | rfl | (congr 1; omega) | (simp; done)) (Sub.consE rfl (by first | rfl | (congr 1; omega) | (simp; done)) .nil))))
      · exact (SubM.row rfl rfl (by rw [trueIx_yes (reachS n.toNat xs p.toNat) k hc28]) (SubM.row rfl rfl (by first | rfl | (simp [iv, bv, yv, tv, sv]; done)) .nil))
     ·
      refine J.skip ?_
      refine JE.blockN ?_
      refine JE.seqN ?_
      refine J.reg ?_
      refine WL.rd (RD.add rfl rfl (by omega) (by omega)) rfl rfl ?_
      refine WL.rd (RD.move rfl) rfl rfl ?_
      refine WL.nil ?_
      refine JE.cutN ⟨_, ?_, k + 1, u, rfl, ?_, rfl, rfl⟩ ?_ ?_
      · omega
      · first | omega | trivial | (refine ⟨?_, ?_⟩ <;> first | omega | rfl | simp)
      · exact (Sub.consE rfl (by first | rfl | (congr 1; omega) | (simp; done)) (Sub.consE rfl (by first | rfl | (congr 1; omega) | (simp; done)) (Sub.consE rfl (by first | rfl | (congr 1; omega) | (simp; done)) (Sub.consE rfl (by first | rfl | (congr 1; omega) | (simp; done)) .nil))))
      · exact (SubM.row rfl rfl (by rw [trueIx_no (reachS n.toNat xs p.toNat) k hc28]) (SubM.row rfl rfl (by first | rfl | (simp [iv, bv, yv, tv, sv]; done)) .nil))
    ·
     refine J.exit ?_
     refine JE.seqX ?_
     refine JE.cutX ?_
     refine JE.blockHit ?_
     refine JE.seqN ?_
     refine J.seq ?_
     refine J.reg ?_
     refine WL.rd (RD.move rfl) rfl rfl ?_
     refine WL.rd (RD.assign rfl) rfl rfl ?_
     refine WL.nil ?_
     refine JE.seqN ?_
     refine J.ret ?_
     refine JE.ret rfl (.tmp rfl .nil) (fun w hS => ?_)
     have hyes : isG n xs ∧ 0 ≤ p ∧ p < n := ⟨hg, by omega, by omega⟩
     exact CN.fin hS u rfl trivial (SubM.row rfl rfl (by unfold rchI; rw [if_pos hyes, show k = n.toNat by omega]) .nil) (by simp [En.rdb])
theorem sReachOf_c (n : Int) (v : Value) (xs : List (Int × Int)) (p : Int) (w : World) (hr : Rd w v 2 (xs.map bv)) :
    CN Try.prog 47 [.agg #[.int .i64 n, v], .int .i64 p] w Value (fun _ => True) (fun u => u) (fun u => [.row u 3 1 ((rchI n xs p).map iv)]) := by
 refine calls_of_J (mu := (fun _ => False)) (m := [.ro v 2 (xs.map bv)]) (e := [(0, .agg #[.int .i64 n, v]), (1, .int .i64 p)]) Try.func47 rfl rfl (.cons rfl (.cons rfl .nil)) (((St.init _ _).ro0 hr (by decide))) ?_
 refine J.seq ?_
 refine J.reg ?_
 refine WL.efS (EF.boxA rfl) rfl rfl ?_
 intro b2 _
 refine WL.rd (RD.assign rfl) rfl rfl ?_
 refine WL.nil ?_
 refine JE.seqN ?_
 refine J.seq ?_
 refine J.reg ?_
 refine WL.efS (EF.build0) rfl rfl ?_
 intro v10 _
 refine WL.rd (RD.assign rfl) rfl rfl ?_
 refine WL.nil ?_
 refine JE.seqN ?_
 refine J.seq ?_
 refine J.seq ?_
 refine J.reg ?_
 refine WL.rd (RD.loadA rfl rfl) rfl rfl ?_
 refine WL.efS (EF.callS (.cons rfl .nil) (fun w hS => sIsGraph_c _ _ _ _ (by exact RdI.rd hS))) rfl rfl ?_
 rintro ⟨⟩ -
 refine WL.rd (RD.notP rfl) rfl rfl ?_
 refine WL.rd (RD.move rfl) rfl rfl ?_
 refine WL.caseP 14 rfl (fun hg14 => ?_) (fun hg14 => ?_)
 ·
  refine WL.noS rfl rfl ?_
  refine WL.noS rfl rfl ?_
  refine WL.rd (RD.pickT rfl rfl) rfl rfl ?_
  refine WL.rd (RD.move rfl) rfl rfl ?_
  refine WL.noS rfl rfl ?_
  refine WL.noS rfl rfl ?_
  refine WL.noS rfl rfl ?_
  refine WL.noS rfl rfl ?_
  refine WL.rd (RD.pickT rfl rfl) rfl rfl ?_
  refine WL.nil ?_
  refine JE.seqN ?_
  refine J.condT rfl ?_
  refine J.seq ?_
  refine J.reg ?_
  refine WL.rd (RD.move rfl) rfl rfl ?_
  refine WL.rd (RD.assign rfl) rfl rfl ?_
  refine WL.nil ?_
  refine JE.seqN ?_
  refine J.ret ?_
  refine JE.ret rfl (.tmp rfl .nil) (fun w hS => ?_)
  have hno : ¬ (isG n xs ∧ 0 ≤ p ∧ p < n) := fun hh => by first | exact absurd hh.1 (by assumption) | (have h1 := hh.2; omega)
  exact CN.fin hS v10 rfl trivial (SubM.row rfl rfl (by unfold rchI; rw [if_neg hno]; rfl) .nil) (by simp [En.rdb])
 ·
  have hg : isG n xs := Decidable.not_not.1 hg14
  have hg1 := hg.1
  have hg2 := hg.2.1
  have hg3 := hg.2.2.1
  refine WL.rd (RD.move rfl) rfl rfl ?_
  refine WL.rd (RD.lss rfl rfl) rfl rfl ?_
  refine WL.rd (RD.pickF rfl rfl) rfl rfl ?_
  refine WL.rd (RD.move rfl) rfl rfl ?_
  refine WL.caseP 18 rfl (fun hg18 => ?_) (fun hg18 => ?_)
  ·
   refine WL.noS rfl rfl ?_
   refine WL.noS rfl rfl ?_
   refine WL.noS rfl rfl ?_
   refine WL.noS rfl rfl ?_
   refine WL.rd (RD.pickT rfl rfl) rfl rfl ?_
   refine WL.nil ?_
   refine JE.seqN ?_
   refine J.condT rfl ?_
   refine J.seq ?_
   refine J.reg ?_
   refine WL.rd (RD.move rfl) rfl rfl ?_
   refine WL.rd (RD.assign rfl) rfl rfl ?_
   refine WL.nil ?_
   refine JE.seqN ?_
   refine J.ret ?_
   refine JE.ret rfl (.tmp rfl .nil) (fun w hS => ?_)
   have hno : ¬ (isG n xs ∧ 0 ≤ p ∧ p < n) := fun hh => by first | exact absurd hh.1 (by assumption) | (have h1 := hh.2; omega)
   exact CN.fin hS v10 rfl trivial (SubM.row rfl rfl (by unfold rchI; rw [if_neg hno]; rfl) .nil) (by simp [En.rdb])
  ·
   refine WL.rd (RD.move rfl) rfl rfl ?_
   refine WL.rd (RD.fieldC rfl rfl) rfl rfl ?_
   refine WL.rd (RD.loadC rfl rfl) rfl rfl ?_
   refine WL.rd (RD.geq rfl rfl) rfl rfl ?_
   refine WL.rd (RD.pickF rfl rfl) rfl rfl ?_
   refine WL.nil ?_
   refine JE.seqN ?_
   refine J.condP rfl (fun hc23 => ?_) (fun hc23 => ?_)
   ·
    refine J.seq ?_
    refine J.reg ?_
    refine WL.rd (RD.move rfl) rfl rfl ?_
    refine WL.rd (RD.assign rfl) rfl rfl ?_
    refine WL.nil ?_
    refine JE.seqN ?_
    refine J.ret ?_
    refine JE.ret rfl (.tmp rfl .nil) (fun w hS => ?_)
    have hno : ¬ (isG n xs ∧ 0 ≤ p ∧ p < n) := fun hh => by first | exact absurd hh.1 (by assumption) | (have h1 := hh.2; omega)
    exact CN.fin hS v10 rfl trivial (SubM.row rfl rfl (by unfold rchI; rw [if_neg hno]; rfl) .nil) (by simp [En.rdb])
   ·
    refine J.skip ?_
    refine JE.seqN ?_
    refine J.seq ?_
    refine J.reg ?_
    refine WL.rd (RD.fieldC rfl rfl) rfl rfl ?_
    refine WL.rd (RD.loadC rfl rfl) rfl rfl ?_
    refine WL.efS (EF.makeN (n := n.toNat) (n' := n.toNat) (hn := ⟨by omega⟩) (hn' := ⟨by omega⟩) rfl rfl rfl rfl (by omega)) rfl rfl ?_
    intro v27 _
    refine WL.rd (RD.assign rfl) rfl rfl ?_
    refine WL.nil ?_
    refine JE.seqN ?_
    refine J.seq ?_
    refine J.reg ?_
    refine WL.rd (RD.move rfl) rfl rfl ?_
    refine WL.rd (RD.move rfl) rfl rfl ?_
    refine WL.rd (RD.idx (j := p.toNat) (hj := ⟨by omega⟩) rfl rfl (by omega) rfl) rfl rfl ?_
    refine WL.efN (EF.storeE rfl rfl (by omega) rfl) rfl ?_
    rintro ⟨⟩ -
    refine WL.nil ?_
    refine JE.seqN ?_
    refine J.seq ?_
    refine J.seq ?_
    refine J.reg ?_
    refine WL.rd (RD.assign rfl) rfl rfl ?_
    refine WL.nil ?_
    refine JE.seqN ?_
    refine J.block ?_
    refine J.loop (fun gg ee mm => ∃ (a : Nat), gg = n.toNat - a ∧ ((a ≤ n.toNat)) ∧ ee = [(2, .pointer (some ⟨b2, 0, none⟩)), (5, v10), (6, v27), (7, .int .i64 (a : Int))] ∧ mm = [.row v27 4 1 ((iterR xs a (s0R n.toNat p.toNat)).map tv), .row v10 3 1 [], .cells b2 26 [.int .i64 n, v], .ro v 2 (xs.map bv)]) _ ⟨0, rfl, ?_, rfl, rfl⟩ ?_ ?_ ?_
    · first | omega | trivial | (refine ⟨?_, ?_⟩ <;> first | omega | rfl | simp)
    · exact (Sub.consE rfl (by first | rfl | (congr 1; omega) | (simp; done)) (Sub.consE rfl (by first | rfl | (congr 1; omega) | (simp; done)) (Sub.consE rfl (by first | rfl | (congr 1; omega) | (simp; done)) (Sub.consE rfl (by first | rfl | (congr 1; omega) | (simp; done)) .nil))))
    · exact (SubM.row rfl rfl (by simp [iterR, s0R, tv, List.map_set]) (SubM.row rfl rfl (by first | rfl | (simp [iv, bv, yv, tv, sv]; done)) (SubM.cells rfl (by first | rfl | (simp; done)) (SubM.ro rfl (by first | rfl | (simp [iv, bv, yv, tv, sv]; done)) .nil))))
    ·
     rintro g _ _ ⟨a, rfl, hI, rfl, rfl⟩
     refine J.seq ?_
     refine J.seq ?_
     refine J.reg ?_
     refine WL.rd (RD.move rfl) rfl rfl ?_
     refine WL.rd (RD.fieldC rfl rfl) rfl rfl ?_
     refine WL.rd (RD.loadC rfl rfl) rfl rfl ?_
     refine WL.rd (RD.lss rfl rfl) rfl rfl ?_
     refine WL.nil ?_
     refine JE.seqN ?_
     refine J.condP rfl (fun hc34 => ?_) (fun hc34 => ?_)
     ·
      refine J.skip ?_
      refine JE.seqN ?_
      refine J.seq ?_
      refine J.block ?_
      refine J.seq ?_
      refine J.reg ?_
      refine WL.rd (RD.assign rfl) rfl rfl ?_
      refine WL.nil ?_
      refine JE.seqN ?_
      refine J.block ?_
      refine J.loop (fun gg ee mm => ∃ (k : Nat), gg = xs.length - k ∧ ((k ≤ xs.length) ∧ ((a : Int) < n)) ∧ ee = [(2, .pointer (some ⟨b2, 0, none⟩)), (5, v10), (6, v27), (7, .int .i64 (a : Int)), (8, .int .i64 (k : Int))] ∧ mm = [.row v27 4 1 ((passK xs k (iterR xs a (s0R n.toNat p.toNat))).map tv), .row v10 3 1 [], .cells b2 26 [.int .i64 n, v], .ro v 2 (xs.map bv)]) _ ⟨0, rfl, ?_, rfl, rfl⟩ ?_ ?_ ?_
      · exact ⟨by omega, by omega⟩
      · exact (Sub.consE rfl (by first | rfl | (congr 1; omega) | (simp; done)) (Sub.consE rfl (by first | rfl | (congr 1; omega) | (simp; done)) (Sub.consE rfl (by first | rfl | (congr 1; omega) | (simp; done)) (Sub.consE rfl (by first | rfl | (congr 1; omega) | (simp; done)) (Sub.consE rfl (by first | rfl | (congr 1; omega) | (simp; done)) .nil)))))
      · exact (SubM.row rfl rfl (by rw [passK_zero]) (SubM.row rfl rfl (by first | rfl | (simp [iv, bv, yv, tv, sv]; done)) (SubM.cells rfl (by first | rfl | (simp; done)) (SubM.ro rfl (by first | rfl | (simp [iv, bv, yv, tv, sv]; done)) .nil))))
      ·
       rintro g _ _ ⟨k, rfl, hJ, rfl, rfl⟩
       have hpl := passK_len xs k (iterR xs a (s0R n.toNat p.toNat))
       rw [iterR_len, s0R_len] at hpl
       refine J.seq ?_
       refine J.seq ?_
       refine J.reg ?_
       refine WL.rd (RD.move rfl) rfl rfl ?_
       refine WL.rd (RD.fieldC rfl rfl) rfl rfl ?_
       refine WL.rd (RD.loadC rfl rfl) rfl rfl ?_
       refine WL.rd (RD.lenR rfl) rfl rfl ?_
       refine WL.rd (RD.lss rfl rfl) rfl rfl ?_
       refine WL.nil ?_
       refine JE.seqN ?_
       refine J.condP rfl (fun hc41 => ?_) (fun hc41 => ?_)
       ·
        refine J.skip ?_
        refine JE.seqN ?_
        refine J.seq ?_
        refine J.block ?_
        refine J.seq ?_
        have hgb := gBar hg k (by omega)
        refine J.reg ?_
        refine WL.rd (RD.move rfl) rfl rfl ?_
        refine WL.rd (RD.fieldC rfl rfl) rfl rfl ?_
        refine WL.rd (RD.loadC rfl rfl) rfl rfl ?_
        refine WL.rd (RD.move rfl) rfl rfl ?_
        refine WL.rd (RD.idx rfl rfl (by omega) rfl) rfl rfl ?_
        refine WL.rd (RD.fieldE rfl rfl) rfl rfl ?_
        refine WL.rd (RD.loadE rfl (by omega) rfl) rfl rfl ?_
        refine WL.rd (RD.idx (j := (xs.getD k default).1.toNat) (hj := ⟨by omega⟩) rfl rfl (by omega) rfl) rfl rfl ?_
        refine WL.rd (RD.loadE rfl (by omega) rfl) rfl rfl ?_
        refine WL.rd (RD.move rfl) rfl rfl ?_
        refine WL.case 53 rfl (fun hg53 => ?_) (fun hg53 => ?_)
        ·
         refine WL.noS rfl rfl ?_
         refine WL.noS rfl rfl ?_
         refine WL.noS rfl rfl ?_
         refine WL.noS rfl rfl ?_
         refine WL.noS rfl rfl ?_
         refine WL.noS rfl rfl ?_
         refine WL.noS rfl rfl ?_
         refine WL.noS rfl rfl ?_
         refine WL.noS rfl rfl ?_
         refine WL.rd (RD.pickT rfl rfl) rfl rfl ?_
         refine WL.nil ?_
         refine JE.seqN ?_
         refine J.condT rfl ?_
         refine J.seq ?_
         refine J.reg ?_
         refine WL.rd (RD.move rfl) rfl rfl ?_
         refine WL.rd (RD.fieldC rfl rfl) rfl rfl ?_
         refine WL.rd (RD.loadC rfl rfl) rfl rfl ?_
         refine WL.rd (RD.move rfl) rfl rfl ?_
         refine WL.rd (RD.idx rfl rfl (by omega) rfl) rfl rfl ?_
         refine WL.rd (RD.fieldE rfl rfl) rfl rfl ?_
         refine WL.rd (RD.loadE rfl (by omega) rfl) rfl rfl ?_
         refine WL.rd (RD.idx (j := (xs.getD k default).1.toNat) (hj := ⟨by omega⟩) rfl rfl (by omega) rfl) rfl rfl ?_
         refine WL.efN (EF.storeE rfl rfl (by omega) rfl) rfl ?_
         rintro ⟨⟩ -
         refine WL.nil ?_
         refine JE.seqN ?_
         refine J.reg ?_
         refine WL.rd (RD.move rfl) rfl rfl ?_
         refine WL.rd (RD.fieldC rfl rfl) rfl rfl ?_
         refine WL.rd (RD.loadC rfl rfl) rfl rfl ?_
         refine WL.rd (RD.move rfl) rfl rfl ?_
         refine WL.rd (RD.idx rfl rfl (by omega) rfl) rfl rfl ?_
         refine WL.rd (RD.fieldE rfl rfl) rfl rfl ?_
         refine WL.rd (RD.loadE rfl (by omega) rfl) rfl rfl ?_
         refine WL.rd (RD.idx (j := (xs.getD k default).2.toNat) (hj := ⟨by omega⟩) rfl rfl (by omega) rfl) rfl rfl ?_
         refine WL.efN (EF.storeE rfl rfl (by omega) rfl) rfl ?_
         rintro ⟨⟩ -
         refine WL.nil ?_
         refine JE.blockN ?_
         refine JE.seqN ?_
         refine J.reg ?_
         refine WL.rd (RD.move rfl) rfl rfl ?_
         refine WL.rd (RD.add rfl rfl (by omega) (by omega)) rfl rfl ?_
         refine WL.rd (RD.assign rfl) rfl rfl ?_
         refine WL.nil ?_
         refine JE.cutN ⟨_, ?_, k + 1, rfl, ?_, rfl, rfl⟩ ?_ ?_
         · omega
         · exact ⟨by omega, by omega⟩
         · exact (Sub.consE rfl (by first | rfl | (congr 1; omega) | (simp; done)) (Sub.consE rfl (by first | rfl | (congr 1; omega) | (simp; done)) (Sub.consE rfl (by first | rfl | (congr 1; omega) | (simp; done)) (Sub.consE rfl (by first | rfl | (congr 1; omega) | (simp; done)) (Sub.consE rfl (by first | rfl | (congr 1; omega) | (simp; done)) .nil)))))
         · exact (SubM.row rfl rfl (by rw [passK_succ xs k (iterR xs a (s0R n.toNat p.toNat)) (by omega), stR_yes1 _ _ hg53, ← set2_tv]) (SubM.row rfl rfl (by first | rfl | (simp [iv, bv, yv, tv, sv]; done)) (SubM.cells rfl (by first | rfl | (simp; done)) (SubM.ro rfl (by first | rfl | (simp [iv, bv, yv, tv, sv]; done)) .nil))))
        ·
         refine WL.rd (RD.move rfl) rfl rfl ?_
         refine WL.rd (RD.fieldC rfl rfl) rfl rfl ?_
         refine WL.rd (RD.loadC rfl rfl) rfl rfl ?_
         refine WL.rd (RD.move rfl) rfl rfl ?_
         refine WL.rd (RD.idx rfl rfl (by omega) rfl) rfl rfl ?_
         refine WL.rd (RD.fieldE rfl rfl) rfl rfl ?_
         refine WL.rd (RD.loadE rfl (by omega) rfl) rfl rfl ?_
         refine WL.rd (RD.idx (j := (xs.getD k default).2.toNat) (hj := ⟨by omega⟩) rfl rfl (by omega) rfl) rfl rfl ?_
         refine WL.rd (RD.loadE rfl (by omega) rfl) rfl rfl ?_
         refine WL.rd (RD.pickF rfl rfl) rfl rfl ?_
         refine WL.nil ?_
         refine JE.seqN ?_
         refine J.cond rfl (fun hc63 => ?_) (fun hc63 => ?_)
         ·
          refine J.seq ?_
          refine J.reg ?_
          refine WL.rd (RD.move rfl) rfl rfl ?_
          refine WL.rd (RD.fieldC rfl rfl) rfl rfl ?_
          refine WL.rd (RD.loadC rfl rfl) rfl rfl ?_
          refine WL.rd (RD.move rfl) rfl rfl ?_
          refine WL.rd (RD.idx rfl rfl (by omega) rfl) rfl rfl ?_
          refine WL.rd (RD.fieldE rfl rfl) rfl rfl ?_
          refine WL.rd (RD.loadE rfl (by omega) rfl) rfl rfl ?_
          refine WL.rd (RD.idx (j := (xs.getD k default).1.toNat) (hj := ⟨by omega⟩) rfl rfl (by omega) rfl) rfl rfl ?_
          refine WL.efN (EF.storeE rfl rfl (by omega) rfl) rfl ?_
          rintro ⟨⟩ -
          refine WL.nil ?_
          refine JE.seqN ?_
          refine J.reg ?_
          refine WL.rd (RD.move rfl) rfl rfl ?_
          refine WL.rd (RD.fieldC rfl rfl) rfl rfl ?_
          refine WL.rd (RD.loadC rfl rfl) rfl rfl ?_
          refine WL.rd (RD.move rfl) rfl rfl ?_
          refine WL.rd (RD.idx rfl rfl (by omega) rfl) rfl rfl ?_
          refine WL.rd (RD.fieldE rfl rfl) rfl rfl ?_
          refine WL.rd (RD.loadE rfl (by omega) rfl) rfl rfl ?_
          refine WL.rd (RD.idx (j := (xs.getD k default).2.toNat) (hj := ⟨by omega⟩) rfl rfl (by omega) rfl) rfl rfl ?_
          refine WL.efN (EF.storeE rfl rfl (by omega) rfl) rfl ?_
          rintro ⟨⟩ -
          refine WL.nil ?_
          refine JE.blockN ?_
          refine JE.seqN ?_
          refine J.reg ?_
          refine WL.rd (RD.move rfl) rfl rfl ?_
          refine WL.rd (RD.add rfl rfl (by omega) (by omega)) rfl rfl ?_
          refine WL.rd (RD.assign rfl) rfl rfl ?_
          refine WL.nil ?_
          refine JE.cutN ⟨_, ?_, k + 1, rfl, ?_, rfl, rfl⟩ ?_ ?_
          · omega
          · exact ⟨by omega, by omega⟩
          · exact (Sub.consE rfl (by first | rfl | (congr 1; omega) | (simp; done)) (Sub.consE rfl (by first | rfl | (congr 1; omega) | (simp; done)) (Sub.consE rfl (by first | rfl | (congr 1; omega) | (simp; done)) (Sub.consE rfl (by first | rfl | (congr 1; omega) | (simp; done)) (Sub.consE rfl (by first | rfl | (congr 1; omega) | (simp; done)) .nil)))))
          · exact (SubM.row rfl rfl (by rw [passK_succ xs k (iterR xs a (s0R n.toNat p.toNat)) (by omega), stR_yes2 _ _ hc63, ← set2_tv]) (SubM.row rfl rfl (by first | rfl | (simp [iv, bv, yv, tv, sv]; done)) (SubM.cells rfl (by first | rfl | (simp; done)) (SubM.ro rfl (by first | rfl | (simp [iv, bv, yv, tv, sv]; done)) .nil))))
         ·
          refine J.skip ?_
          refine JE.blockN ?_
          refine JE.seqN ?_
          refine J.reg ?_
          refine WL.rd (RD.move rfl) rfl rfl ?_
          refine WL.rd (RD.add rfl rfl (by omega) (by omega)) rfl rfl ?_
          refine WL.rd (RD.assign rfl) rfl rfl ?_
          refine WL.nil ?_
          refine JE.cutN ⟨_, ?_, k + 1, rfl, ?_, rfl, rfl⟩ ?_ ?_
          · omega
          · exact ⟨by omega, by omega⟩
          · exact (Sub.consE rfl (by first | rfl | (congr 1; omega) | (simp; done)) (Sub.consE rfl (by first | rfl | (congr 1; omega) | (simp; done)) (Sub.consE rfl (by first | rfl | (congr 1; omega) | (simp; done)) (Sub.consE rfl (by first | rfl | (congr 1; omega) | (simp; done)) (Sub.consE rfl (by first | rfl | (congr 1; omega) | (simp; done)) .nil)))))
          · exact (SubM.row rfl rfl (by rw [passK_succ xs k (iterR xs a (s0R n.toNat p.toNat)) (by omega), stR_no _ _ hg53 hc63]) (SubM.row rfl rfl (by first | rfl | (simp [iv, bv, yv, tv, sv]; done)) (SubM.cells rfl (by first | rfl | (simp; done)) (SubM.ro rfl (by first | rfl | (simp [iv, bv, yv, tv, sv]; done)) .nil))))
       ·
        refine J.exit ?_
        refine JE.seqX ?_
        refine JE.cutX ?_
        refine JE.blockHit ?_
        refine JE.blockN ?_
        refine JE.seqN ?_
        refine J.reg ?_
        refine WL.rd (RD.move rfl) rfl rfl ?_
        refine WL.rd (RD.add rfl rfl (by omega) (by omega)) rfl rfl ?_
        refine WL.rd (RD.assign rfl) rfl rfl ?_
        refine WL.nil ?_
        refine JE.cutN ⟨_, ?_, a + 1, rfl, ?_, rfl, rfl⟩ ?_ ?_
        · omega
        · first | omega | trivial | (refine ⟨?_, ?_⟩ <;> first | omega | rfl | simp)
        · exact (Sub.consE rfl (by first | rfl | (congr 1; omega) | (simp; done)) (Sub.consE rfl (by first | rfl | (congr 1; omega) | (simp; done)) (Sub.consE rfl (by first | rfl | (congr 1; omega) | (simp; done)) (Sub.consE rfl (by first | rfl | (congr 1; omega) | (simp; done)) .nil))))
        · exact (SubM.row rfl rfl (by rw [show iterR xs (a + 1) (s0R n.toNat p.toNat) = passK xs k (iterR xs a (s0R n.toNat p.toNat)) from (passK_all xs k _ (by omega)).symm]) (SubM.row rfl rfl (by first | rfl | (simp [iv, bv, yv, tv, sv]; done)) (SubM.cells rfl (by first | rfl | (simp; done)) (SubM.ro rfl (by first | rfl | (simp [iv, bv, yv, tv, sv]; done)) .nil))))
     ·
      refine J.exit ?_
      refine JE.seqX ?_
      refine JE.cutX ?_
      refine JE.blockHit ?_
      refine JE.seqN ?_
      refine J.seq ?_
      refine J.seq ?_
      refine J.reg ?_
      refine WL.rd (RD.assign rfl) rfl rfl ?_
      refine WL.nil ?_
      refine JE.seqN ?_
      refine J.block ?_
      refine J.loop (fun gg ee mm => ∃ (k : Nat), ∃ (u : Value), gg = n.toNat - k ∧ ((k ≤ n.toNat)) ∧ ee = [(2, .pointer (some ⟨b2, 0, none⟩)), (5, u), (6, v27), (9, .int .i64 (k : Int))] ∧ mm = [.row u 3 1 ((trueIx (reachS n.toNat xs p.toNat) k).map iv), .row v27 4 1 ((reachS n.toNat xs p.toNat).map tv), .cells b2 26 [.int .i64 n, v], .ro v 2 (xs.map bv)]) _ ⟨0, v10, rfl, ?_, rfl, rfl⟩ ?_ ?_ ?_
      · first | omega | trivial | (refine ⟨?_, ?_⟩ <;> first | omega | rfl | simp)
      · exact (Sub.consE rfl (by first | rfl | (congr 1; omega) | (simp; done)) (Sub.consE rfl (by first | rfl | (congr 1; omega) | (simp; done)) (Sub.consE rfl (by first | rfl | (congr 1; omega) | (simp; done)) (Sub.consE rfl (by first | rfl | (congr 1; omega) | (simp; done)) .nil))))
      · exact (SubM.row rfl rfl (by simp [trueIx]) (SubM.row rfl rfl (by rw [show a = n.toNat by omega]; rfl) (SubM.cells rfl (by first | rfl | (simp; done)) (SubM.ro rfl (by first | rfl | (simp [iv, bv, yv, tv, sv]; done)) .nil))))
      ·
       rintro g _ _ ⟨k, u, rfl, hK, rfl, rfl⟩
       have hrl := reachS_len n.toNat xs p.toNat
       have htl := trueIx_len (reachS n.toNat xs p.toNat) k
       refine J.seq ?_
       refine J.seq ?_
       refine J.reg ?_
       refine WL.rd (RD.move rfl) rfl rfl ?_
       refine WL.rd (RD.fieldC rfl rfl) rfl rfl ?_
       refine WL.rd (RD.loadC rfl rfl) rfl rfl ?_
       refine WL.rd (RD.lss rfl rfl) rfl rfl ?_
       refine WL.nil ?_
       refine JE.seqN ?_
       refine J.condP rfl (fun hc83 => ?_) (fun hc83 => ?_)
       ·
        refine J.skip ?_
        refine JE.seqN ?_
        refine J.seq ?_
        refine J.block ?_
        refine J.seq ?_
        refine J.reg ?_
        refine WL.rd (RD.move rfl) rfl rfl ?_
        refine WL.rd (RD.move rfl) rfl rfl ?_
        refine WL.rd (RD.idx rfl rfl (by omega) rfl) rfl rfl ?_
        refine WL.rd (RD.loadE rfl (by omega) rfl) rfl rfl ?_
        refine WL.nil ?_
        refine JE.seqN ?_
        refine J.cond rfl (fun hc89 => ?_) (fun hc89 => ?_)
        ·
         refine J.reg ?_
         refine WL.rd (RD.move rfl) rfl rfl ?_
         refine WL.rd (RD.move rfl) rfl rfl ?_
         refine WL.efS (EF.build1 rfl) rfl rfl ?_
         intro v92 _
         refine WL.efS (EF.append rfl rfl (by omega) rfl rfl rfl) rfl rfl ?_
         intro v93 _
         refine WL.rd (RD.assign rfl) rfl rfl ?_
         refine WL.nil ?_
         refine JE.blockN ?_
         refine JE.seqN ?_
         refine J.reg ?_
         refine WL.rd (RD.move rfl) rfl rfl ?_
         refine WL.rd (RD.add rfl rfl (by omega) (by omega)) rfl rfl ?_
         refine WL.rd (RD.assign rfl) rfl rfl ?_
         refine WL.nil ?_
         refine JE.cutN ⟨_, ?_, k + 1, v93, rfl, ?_, rfl, rfl⟩ ?_ ?_
         · omega
         · first | omega | trivial | (refine ⟨?_, ?_⟩ <;> first | omega | rfl | simp)
         · exact (Sub.consE rfl (by first | rfl | (congr 1; omega) | (simp; done)) (Sub.consE rfl (by first | rfl | (congr 1; omega) | (simp; done)) (Sub.consE rfl (by first | rfl | (congr 1; omega) | (simp; done)) (Sub.consE rfl (by first | rfl | (congr 1; omega) | (simp; done)) .nil))))
         · exact (SubM.row rfl rfl (by rw [trueIx_yes (reachS n.toNat xs p.toNat) k hc89]) (SubM.row rfl rfl (by first | rfl | (simp [iv, bv, yv, tv, sv]; done)) (SubM.cells rfl (by first | rfl | (simp; done)) (SubM.ro rfl (by first | rfl | (simp [iv, bv, yv, tv, sv]; done)) .nil))))
        ·
         refine J.skip ?_
         refine JE.blockN ?_
         refine JE.seqN ?_
         refine J.reg ?_
         refine WL.rd (RD.move rfl) rfl rfl ?_
         refine WL.rd (RD.add rfl rfl (by omega) (by omega)) rfl rfl ?_
         refine WL.rd (RD.assign rfl) rfl rfl ?_
         refine WL.nil ?_
         refine JE.cutN ⟨_, ?_, k + 1, u, rfl, ?_, rfl, rfl⟩ ?_ ?_
         · omega
         · first | omega | trivial | (refine ⟨?_, ?_⟩ <;> first | omega | rfl | simp)
         · exact (Sub.consE rfl (by first | rfl | (congr 1; omega) | (simp; done)) (Sub.consE rfl (by first | rfl | (congr 1; omega) | (simp; done)) (Sub.consE rfl (by first | rfl | (congr 1; omega) | (simp; done)) (Sub.consE rfl (by first | rfl | (congr 1; omega) | (simp; done)) .nil))))
         · exact (SubM.row rfl rfl (by rw [trueIx_no (reachS n.toNat xs p.toNat) k hc89]) (SubM.row rfl rfl (by first | rfl | (simp [iv, bv, yv, tv, sv]; done)) (SubM.cells rfl (by first | rfl | (simp; done)) (SubM.ro rfl (by first | rfl | (simp [iv, bv, yv, tv, sv]; done)) .nil))))
       ·
        refine J.exit ?_
        refine JE.seqX ?_
        refine JE.cutX ?_
        refine JE.blockHit ?_
        refine JE.seqN ?_
        refine J.seq ?_
        refine J.reg ?_
        refine WL.rd (RD.move rfl) rfl rfl ?_
        refine WL.rd (RD.assign rfl) rfl rfl ?_
        refine WL.nil ?_
        refine JE.seqN ?_
        refine J.ret ?_
        refine JE.ret rfl (.tmp rfl .nil) (fun w hS => ?_)
        have hyes : isG n xs ∧ 0 ≤ p ∧ p < n := ⟨hg, by omega, by omega⟩
        exact CN.fin hS u rfl trivial (SubM.row rfl rfl (by unfold rchI; rw [if_pos hyes, show k = n.toNat by omega]) .nil) (by simp [En.rdb])
theorem iIsConnected_c (n : Int) (v : Value) (xs : List (Int × Int)) (w : World) (hr : Rd w v 2 (xs.map bv)) :
    CS Try.prog 52 [.agg #[.int .i64 n, v]] w (.bool (decide (isG n xs ∧ ((rchI n xs 0).length : Int) = n))) := by
 have hl_xs : xs.length ≤ 9223372036854775807 := (by obtain ⟨_, _, _, hh, _⟩ := hr.shape; simpa using hh)
 refine calls_of_J (mu := (fun _ => False)) (m := [.ro v 2 (xs.map bv)]) (e := [(0, .agg #[.int .i64 n, v])]) Try.func52 rfl rfl (.cons rfl .nil) (((St.init _ _).ro0 hr (by decide))) ?_
 refine J.seq ?_
 refine J.reg ?_
 refine WL.efS (EF.boxA rfl) rfl rfl ?_
 intro b1 _
 refine WL.rd (RD.assign rfl) rfl rfl ?_
 refine WL.nil ?_
 refine JE.seqN ?_
 refine J.seq ?_
 refine J.anyAll [] ?_
 refine WA.take 0 rfl (RD.loadA rfl rfl) rfl (by kernel_rfl) rfl ?_
 refine WA.one (i := 1) (by kernel_rfl) ?_
 refine WAi.efS rfl (EF.callS (.cons rfl .nil) (fun w hS => iIsGraph_c _ _ _ _ (by exact RdI.rd hS))) rfl rfl (fun _ => SubI.sub) ?_
 rintro ⟨⟩ -
 refine WA.takeP 2 rfl (RDP.of fun _ => RD.move rfl) rfl (by kernel_rfl) rfl ?_
 refine WA.caseP 5 rfl (fun hg5 => ?_) (fun hg5 => ?_)
 ·
  refine WA.take 3 rfl (RD.loadA rfl rfl) rfl (by kernel_rfl) rfl ?_
  refine WA.takeP 6 rfl (RDP.of fun _ => RD.fieldC rfl rfl) rfl (by kernel_rfl) rfl ?_
  refine WA.take 7 rfl (RD.loadC rfl rfl) rfl (by kernel_rfl) rfl ?_
  refine WA.one (i := 4) (by kernel_rfl) ?_
  refine WAi.efS rfl (EF.callN (.cons rfl (.cons rfl .nil)) (fun w hS => iReachOf_c _ _ _ _ _ (by exact RdI.rd hS))) rfl rfl (fun _ => SubI.sub) ?_
  rintro v7 -
  have hrl : (rchI n xs 0).length ≤ 8 := rchI_len n xs 0
  refine WA.takeP 5 rfl (RDP.lenR rfl) rfl (by kernel_rfl) rfl ?_
  refine WA.takeP 8 rfl (RDP.of fun _ => RD.eql rfl rfl) rfl (by kernel_rfl) rfl ?_
  refine WA.takeP 9 rfl (RDP.of fun _ => RD.pickT rfl rfl) rfl (by kernel_rfl) rfl ?_
  refine WA.takeP 10 rfl (RDP.of fun _ => RD.assign rfl) rfl (by kernel_rfl) rfl ?_
  refine WA.done (by kernel_rfl) ?_
  refine JE.seqN ?_
  refine J.ret ?_
  refine JE.ret rfl (.tmp rfl .nil) (fun w hS => ?_)
  exact CS.fin hS (mk_dec ⟨fun h => ⟨hg5, by omega⟩, fun h => by have := h.2; omega⟩)
 ·
  refine WA.no 3 rfl rfl (by kernel_rfl) rfl ?_
  refine WA.no 4 rfl rfl (by kernel_rfl) rfl ?_
  refine WA.no 5 rfl rfl (by kernel_rfl) rfl ?_
  refine WA.no 6 rfl rfl (by kernel_rfl) rfl ?_
  refine WA.no 7 rfl rfl (by kernel_rfl) rfl ?_
  refine WA.no 8 rfl rfl (by kernel_rfl) rfl ?_
  refine WA.takeP 9 rfl (RDP.of fun _ => RD.pickF rfl rfl) rfl (by kernel_rfl) rfl ?_
  refine WA.takeP 10 rfl (RDP.of fun _ => RD.assign rfl) rfl (by kernel_rfl) rfl ?_
  refine WA.done (by kernel_rfl) ?_
  refine JE.seqN ?_
  refine J.ret ?_
  refine JE.ret rfl (.tmp rfl .nil) (fun w hS => ?_)
  exact CS.fin hS (mk_false (fun h => hg5 h.1))
theorem sIsConnected_c (n : Int) (v : Value) (xs : List (Int × Int)) (w : World) (hr : Rd w v 2 (xs.map bv)) :
    CS Try.prog 53 [.agg #[.int .i64 n, v]] w (.bool (decide (isG n xs ∧ ((rchI n xs 0).length : Int) = n))) := by
 have hl_xs : xs.length ≤ 9223372036854775807 := (by obtain ⟨_, _, _, hh, _⟩ := hr.shape; simpa using hh)
 refine calls_of_J (mu := (fun _ => False)) (m := [.ro v 2 (xs.map bv)]) (e := [(0, .agg #[.int .i64 n, v])]) Try.func53 rfl rfl (.cons rfl .nil) (((St.init _ _).ro0 hr (by decide))) ?_
 refine J.seq ?_
 refine J.reg ?_
 refine WL.efS (EF.boxA rfl) rfl rfl ?_
 intro b1 _
 refine WL.rd (RD.assign rfl) rfl rfl ?_
 refine WL.nil ?_
 refine JE.seqN ?_
 refine J.seq ?_
 refine J.anyAll [] ?_
 refine WA.take 0 rfl (RD.loadA rfl rfl) rfl (by kernel_rfl) rfl ?_
 refine WA.one (i := 1) (by kernel_rfl) ?_
 refine WAi.efS rfl (EF.callS (.cons rfl .nil) (fun w hS => sIsGraph_c _ _ _ _ (by exact RdI.rd hS))) rfl rfl (fun _ => SubI.sub) ?_
 rintro ⟨⟩ -
 refine WA.takeP 2 rfl (RDP.of fun _ => RD.move rfl) rfl (by kernel_rfl) rfl ?_
 refine WA.caseP 5 rfl (fun hg5 => ?_) (fun hg5 => ?_)
 ·
  refine WA.take 3 rfl (RD.loadA rfl rfl) rfl (by kernel_rfl) rfl ?_
  refine WA.takeP 6 rfl (RDP.of fun _ => RD.fieldC rfl rfl) rfl (by kernel_rfl) rfl ?_
  refine WA.take 7 rfl (RD.loadC rfl rfl) rfl (by kernel_rfl) rfl ?_
  refine WA.one (i := 4) (by kernel_rfl) ?_
  refine WAi.efS rfl (EF.callN (.cons rfl (.cons rfl .nil)) (fun w hS => sReachOf_c _ _ _ _ _ (by exact RdI.rd hS))) rfl rfl (fun _ => SubI.sub) ?_
  rintro v7 -
  have hrl : (rchI n xs 0).length ≤ 8 := rchI_len n xs 0
  refine WA.takeP 5 rfl (RDP.lenR rfl) rfl (by kernel_rfl) rfl ?_
  refine WA.takeP 8 rfl (RDP.of fun _ => RD.eql rfl rfl) rfl (by kernel_rfl) rfl ?_
  refine WA.takeP 9 rfl (RDP.of fun _ => RD.pickT rfl rfl) rfl (by kernel_rfl) rfl ?_
  refine WA.takeP 10 rfl (RDP.of fun _ => RD.assign rfl) rfl (by kernel_rfl) rfl ?_
  refine WA.done (by kernel_rfl) ?_
  refine JE.seqN ?_
  refine J.ret ?_
  refine JE.ret rfl (.tmp rfl .nil) (fun w hS => ?_)
  exact CS.fin hS (mk_dec ⟨fun h => ⟨hg5, by omega⟩, fun h => by have := h.2; omega⟩)
 ·
  refine WA.no 3 rfl rfl (by kernel_rfl) rfl ?_
  refine WA.no 4 rfl rfl (by kernel_rfl) rfl ?_
  refine WA.no 5 rfl rfl (by kernel_rfl) rfl ?_
  refine WA.no 6 rfl rfl (by kernel_rfl) rfl ?_
  refine WA.no 7 rfl rfl (by kernel_rfl) rfl ?_
  refine WA.no 8 rfl rfl (by kernel_rfl) rfl ?_
  refine WA.takeP 9 rfl (RDP.of fun _ => RD.pickF rfl rfl) rfl (by kernel_rfl) rfl ?_
  refine WA.takeP 10 rfl (RDP.of fun _ => RD.assign rfl) rfl (by kernel_rfl) rfl ?_
  refine WA.done (by kernel_rfl) ?_
  refine JE.seqN ?_
  refine J.ret ?_
  refine JE.ret rfl (.tmp rfl .nil) (fun w hS => ?_)
  exact CS.fin hS (mk_false (fun h => hg5 h.1))

end Go.Proofs.Ytlcijjkbgcllfaa
