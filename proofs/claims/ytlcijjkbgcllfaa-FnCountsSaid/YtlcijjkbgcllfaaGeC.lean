/- Contracts of functions of the program, each walked once; written by a program of our own. -/
import Derived.Test.YtlcijjkbgcllfaaGcC
import Derived.Test.YtlcijjkbgcllfaaMi
import Derived.Test.YtlcijjkbgcllfaaMk
import Derived.Test.YtlcijjkbgcllfaaSc
namespace Go.Proofs.Ytlcijjkbgcllfaa
open Go Go.RowKit
set_option maxRecDepth 4000

theorem iSpannedBars_c (n : Int) (v : Value) (xs : List (Int × Int)) (vs : Value) (s : List Int) (w : World) (hr : Rd w v 2 (xs.map bv)) (hrs : Rd w vs 1 (s.map iv)) (hlx : xs.length ≤ 1048576) :
    CN Try.prog 18 [.agg #[.int .i64 n, v], vs] w Value (fun _ => True) (fun u => u) (fun u => [.row u 3 1 ((pickIx (spF s xs) xs.length).map iv)]) := by
 have hl_xs : xs.length ≤ 9223372036854775807 := (by obtain ⟨_, _, _, hh, _⟩ := hr.shape; simpa using hh)
 refine calls_of_J (mu := (fun _ => False)) (m := [.ro v 2 (xs.map bv), .ro vs 1 (s.map iv)]) (e := [(0, .agg #[.int .i64 n, v]), (1, vs)]) Try.func18 rfl rfl (.cons rfl (.cons rfl .nil)) ((((St.init _ _).ro0 hrs (by decide)).ro0 hr (by decide))) ?_
 refine J.seq ?_
 refine J.reg ?_
 refine WL.efS (EF.boxA rfl) rfl rfl ?_
 intro b2 _
 refine WL.rd (RD.assign rfl) rfl rfl ?_
 refine WL.nil ?_
 refine JE.seqN ?_
 refine J.seq ?_
 refine J.reg ?_
 refine WL.efS (EF.build0) rfl rfl ?_
 intro v8 _
 refine WL.rd (RD.assign rfl) rfl rfl ?_
 refine WL.nil ?_
 refine JE.seqN ?_
 refine J.seq ?_
 refine J.seq ?_
 refine J.reg ?_
 refine WL.rd (RD.fieldC rfl rfl) rfl rfl ?_
 refine WL.rd (RD.loadC rfl rfl) rfl rfl ?_
 refine WL.rd (RD.lenR rfl) rfl rfl ?_
 refine WL.rd (RD.move rfl) rfl rfl ?_
 refine WL.nil ?_
 refine JE.seqN ?_
 refine J.block ?_
 refine J.loop (fun gg ee mm => ∃ (k : Nat), ∃ (u : Value), gg = xs.length - k ∧ ((k ≤ xs.length)) ∧ ee = [(5, u), (10, v), (11, .int .i64 (xs.length : Int)), (12, .int .i64 (k : Int)), (1, vs)] ∧ mm = [.row u 3 1 ((pickIx (spF s xs) k).map iv), .cells b2 26 [.int .i64 n, v], .ro v 2 (xs.map bv), .ro vs 1 (s.map iv)]) _ ⟨0, v8, rfl, ?_, rfl, rfl⟩ ?_ ?_ ?_
 · first | omega | trivial | (refine ⟨?_, ?_⟩ <;> first | omega | rfl | simp)
 · exact (Sub.consE rfl (by first | rfl | (congr 1; omega) | (simp; done)) (Sub.consE rfl (by first | rfl | (congr 1; omega) | (simp; done)) (Sub.consE rfl (by first | rfl | (congr 1; omega) | (simp; done)) (Sub.consE rfl (by first | rfl | (congr 1; omega) | (simp; done)) (Sub.consE rfl (by first | rfl | (congr 1; omega) | (simp; done)) .nil)))))
 · exact (SubM.row rfl rfl (by simp [pickIx]) (SubM.cells rfl (by first | rfl | (simp; done)) (SubM.ro rfl (by first | rfl | (simp [iv, bv, yv, tv, sv]; done)) (SubM.ro rfl (by first | rfl | (simp [iv, bv, yv, tv, sv]; done)) .nil))))
 ·
  rintro g _ _ ⟨k, u, rfl, hI, rfl, rfl⟩
  have hpl := pickIx_le (spF s xs) k
  refine J.seq ?_
  refine J.reg ?_
  refine WL.rd (RD.lss rfl rfl) rfl rfl ?_
  refine WL.nil ?_
  refine JE.seqN ?_
  refine J.seq ?_
  refine J.condP rfl (fun hc13 => ?_) (fun hc13 => ?_)
  ·
   refine J.skip ?_
   refine JE.seqN ?_
   refine J.seq ?_
   refine J.block ?_
   refine J.seq ?_
   refine J.reg ?_
   refine WL.rd (RD.move rfl) rfl rfl ?_
   refine WL.rd (RD.idx rfl rfl (by omega) rfl) rfl rfl ?_
   refine WL.rd (RD.loadEA rfl (by omega) rfl) rfl rfl ?_
   refine WL.efS (EF.allocA) rfl rfl ?_
   intro b7 _
   refine WL.rd (RD.assign rfl) rfl rfl ?_
   refine WL.efN (EF.storeA rfl rfl rfl rfl) rfl ?_
   rintro ⟨⟩ -
   refine WL.nil ?_
   refine JE.seqN ?_
   refine J.seq ?_
   refine J.reg ?_
   refine WL.rd (RD.move rfl) rfl rfl ?_
   refine WL.rd (RD.fieldC rfl rfl) rfl rfl ?_
   refine WL.rd (RD.loadC rfl rfl) rfl rfl ?_
   refine WL.efS (EF.callS (.cons rfl (.cons rfl .nil)) (fun w hS => slContains_c _ _ _ _ (by exact RdI.rd hS))) rfl rfl ?_
   rintro ⟨⟩ -
   refine WL.rd (RD.move rfl) rfl rfl ?_
   refine WL.caseP 21 rfl (fun hg21 => ?_) (fun hg21 => ?_)
   ·
    refine WL.rd (RD.move rfl) rfl rfl ?_
    refine WL.rd (RD.fieldC rfl rfl) rfl rfl ?_
    refine WL.rd (RD.loadC rfl rfl) rfl rfl ?_
    refine WL.efS (EF.callS (.cons rfl (.cons rfl .nil)) (fun w hS => slContains_c _ _ _ _ (by exact RdI.rd hS))) rfl rfl ?_
    rintro ⟨⟩ -
    refine WL.rd (RD.pickT rfl rfl) rfl rfl ?_
    refine WL.nil ?_
    refine JE.seqN ?_
    refine J.condP rfl (fun hc26 => ?_) (fun hc26 => ?_)
    ·
     refine J.reg ?_
     refine WL.rd (RD.move rfl) rfl rfl ?_
     refine WL.rd (RD.move rfl) rfl rfl ?_
     refine WL.efS (EF.build1 rfl) rfl rfl ?_
     intro v29 _
     refine WL.efS (EF.append rfl rfl (by omega) rfl rfl rfl) rfl rfl ?_
     intro v30 _
     refine WL.rd (RD.assign rfl) rfl rfl ?_
     refine WL.nil ?_
     refine JE.blockN ?_
     refine JE.seqN ?_
     refine J.reg ?_
     refine WL.rd (RD.add rfl rfl (by omega) (by omega)) rfl rfl ?_
     refine WL.rd (RD.move rfl) rfl rfl ?_
     refine WL.nil ?_
     refine JE.cutN ⟨_, ?_, k + 1, v30, rfl, ?_, rfl, rfl⟩ ?_ ?_
     · omega
     · first | omega | trivial | (refine ⟨?_, ?_⟩ <;> first | omega | rfl | simp)
     · exact (Sub.consE rfl (by first | rfl | (congr 1; omega) | (simp; done)) (Sub.consE rfl (by first | rfl | (congr 1; omega) | (simp; done)) (Sub.consE rfl (by first | rfl | (congr 1; omega) | (simp; done)) (Sub.consE rfl (by first | rfl | (congr 1; omega) | (simp; done)) (Sub.consE rfl (by first | rfl | (congr 1; omega) | (simp; done)) .nil)))))
     · exact (SubM.row rfl rfl (by first | rw [pickIx_yes _ k (spF_yes (by assumption) (by assumption))]) (SubM.cells rfl (by first | rfl | (simp; done)) (SubM.ro rfl (by first | rfl | (simp [iv, bv, yv, tv, sv]; done)) (SubM.ro rfl (by first | rfl | (simp [iv, bv, yv, tv, sv]; done)) .nil))))
    ·
     refine J.skip ?_
     refine JE.blockN ?_
     refine JE.seqN ?_
     refine J.reg ?_
     refine WL.rd (RD.add rfl rfl (by omega) (by omega)) rfl rfl ?_
     refine WL.rd (RD.move rfl) rfl rfl ?_
     refine WL.nil ?_
     refine JE.cutN ⟨_, ?_, k + 1, u, rfl, ?_, rfl, rfl⟩ ?_ ?_
     · omega
     · first | omega | trivial | (refine ⟨?_, ?_⟩ <;> first | omega | rfl | simp)
     · exact (Sub.consE rfl (by first | rfl | (congr 1; omega) | (simp; done)) (Sub.consE rfl (by first | rfl | (congr 1; omega) | (simp; done)) (Sub.consE rfl (by first | rfl | (congr 1; omega) | (simp; done)) (Sub.consE rfl (by first | rfl | (congr 1; omega) | (simp; done)) (Sub.consE rfl (by first | rfl | (congr 1; omega) | (simp; done)) .nil)))))
     · exact (SubM.row rfl rfl (by first | rw [pickIx_no _ k (spF_no1 (by assumption))] | rw [pickIx_no _ k (spF_no2 (by assumption))]) (SubM.cells rfl (by first | rfl | (simp; done)) (SubM.ro rfl (by first | rfl | (simp [iv, bv, yv, tv, sv]; done)) (SubM.ro rfl (by first | rfl | (simp [iv, bv, yv, tv, sv]; done)) .nil))))
   ·
    refine WL.noS rfl rfl ?_
    refine WL.noS rfl rfl ?_
    refine WL.noS rfl rfl ?_
    refine WL.noS rfl rfl ?_
    refine WL.rd (RD.pickF rfl rfl) rfl rfl ?_
    refine WL.nil ?_
    refine JE.seqN ?_
    refine J.condF rfl ?_
    refine J.skip ?_
    refine JE.blockN ?_
    refine JE.seqN ?_
    refine J.reg ?_
    refine WL.rd (RD.add rfl rfl (by omega) (by omega)) rfl rfl ?_
    refine WL.rd (RD.move rfl) rfl rfl ?_
    refine WL.nil ?_
    refine JE.cutN ⟨_, ?_, k + 1, u, rfl, ?_, rfl, rfl⟩ ?_ ?_
    · omega
    · first | omega | trivial | (refine ⟨?_, ?_⟩ <;> first | omega | rfl | simp)
    · exact (Sub.consE rfl (by first | rfl | (congr 1; omega) | (simp; done)) (Sub.consE rfl (by first | rfl | (congr 1; omega) | (simp; done)) (Sub.consE rfl (by first | rfl | (congr 1; omega) | (simp; done)) (Sub.consE rfl (by first | rfl | (congr 1; omega) | (simp; done)) (Sub.consE rfl (by first | rfl | (congr 1; omega) | (simp; done)) .nil)))))
    · exact (SubM.row rfl rfl (by first | rw [pickIx_no _ k (spF_no1 (by assumption))] | rw [pickIx_no _ k (spF_no2 (by assumption))]) (SubM.cells rfl (by first | rfl | (simp; done)) (SubM.ro rfl (by first | rfl | (simp [iv, bv, yv, tv, sv]; done)) (SubM.ro rfl (by first | rfl | (simp [iv, bv, yv, tv, sv]; done)) .nil))))
  ·
   refine J.exit ?_
   refine JE.seqX ?_
   refine JE.cutX ?_
   refine JE.blockHit ?_
   refine JE.seqN ?_
   refine J.seq ?_
   refine J.reg ?_
   refine WL.rd (RD.move rfl) rfl rfl ?_
   refine WL.rd (RD.assign rfl) rfl rfl ?_
   refine WL.nil ?_
   refine JE.seqN ?_
   refine J.ret ?_
   refine JE.ret rfl (.tmp rfl .nil) (fun w hS => ?_)
   exact CN.fin hS u rfl trivial (SubM.row rfl rfl (by rw [show k = xs.length by omega]) .nil) (by simp [En.rdb])
theorem sSpannedBars_c (n : Int) (v : Value) (xs : List (Int × Int)) (vs : Value) (s : List Int) (w : World) (hr : Rd w v 2 (xs.map bv)) (hrs : Rd w vs 1 (s.map iv)) (hlx : xs.length ≤ 1048576) :
    CN Try.prog 23 [.agg #[.int .i64 n, v], vs] w Value (fun _ => True) (fun u => u) (fun u => [.row u 3 1 ((pickIx (spF s xs) xs.length).map iv)]) := by
 have hl_xs : xs.length ≤ 9223372036854775807 := (by obtain ⟨_, _, _, hh, _⟩ := hr.shape; simpa using hh)
 refine calls_of_J (mu := (fun _ => False)) (m := [.ro v 2 (xs.map bv), .ro vs 1 (s.map iv)]) (e := [(0, .agg #[.int .i64 n, v]), (1, vs)]) Try.func23 rfl rfl (.cons rfl (.cons rfl .nil)) ((((St.init _ _).ro0 hrs (by decide)).ro0 hr (by decide))) ?_
 refine J.seq ?_
 refine J.reg ?_
 refine WL.efS (EF.boxA rfl) rfl rfl ?_
 intro b2 _
 refine WL.rd (RD.assign rfl) rfl rfl ?_
 refine WL.nil ?_
 refine JE.seqN ?_
 refine J.seq ?_
 refine J.reg ?_
 refine WL.efS (EF.build0) rfl rfl ?_
 intro v7 _
 refine WL.rd (RD.assign rfl) rfl rfl ?_
 refine WL.nil ?_
 refine JE.seqN ?_
 refine J.seq ?_
 refine J.seq ?_
 refine J.reg ?_
 refine WL.rd (RD.assign rfl) rfl rfl ?_
 refine WL.nil ?_
 refine JE.seqN ?_
 refine J.block ?_
 refine J.loop (fun gg ee mm => ∃ (k : Nat), ∃ (u : Value), gg = xs.length - k ∧ ((k ≤ xs.length)) ∧ ee = [(5, u), (6, .int .i64 (k : Int)), (1, vs), (2, .pointer (some ⟨b2, 0, none⟩))] ∧ mm = [.row u 3 1 ((pickIx (spF s xs) k).map iv), .cells b2 26 [.int .i64 n, v], .ro v 2 (xs.map bv), .ro vs 1 (s.map iv)]) _ ⟨0, v7, rfl, ?_, rfl, rfl⟩ ?_ ?_ ?_
 · first | omega | trivial | (refine ⟨?_, ?_⟩ <;> first | omega | rfl | simp)
 · exact (Sub.consE rfl (by first | rfl | (congr 1; omega) | (simp; done)) (Sub.consE rfl (by first | rfl | (congr 1; omega) | (simp; done)) (Sub.consE rfl (by first | rfl | (congr 1; omega) | (simp; done)) (Sub.consE rfl (by first | rfl | (congr 1; omega) | (simp; done)) .nil))))
 · exact (SubM.row rfl rfl (by simp [pickIx]) (SubM.cells rfl (by first | rfl | (simp; done)) (SubM.ro rfl (by first | rfl | (simp [iv, bv, yv, tv, sv]; done)) (SubM.ro rfl (by first | rfl | (simp [iv, bv, yv, tv, sv]; done)) .nil))))
 ·
  rintro g _ _ ⟨k, u, rfl, hI, rfl, rfl⟩
  have hpl := pickIx_le (spF s xs) k
  refine J.seq ?_
  refine J.seq ?_
  refine J.reg ?_
  refine WL.rd (RD.move rfl) rfl rfl ?_
  refine WL.rd (RD.fieldC rfl rfl) rfl rfl ?_
  refine WL.rd (RD.loadC rfl rfl) rfl rfl ?_
  refine WL.rd (RD.lenR rfl) rfl rfl ?_
  refine WL.rd (RD.lss rfl rfl) rfl rfl ?_
  refine WL.nil ?_
  refine JE.seqN ?_
  refine J.condP rfl (fun hc12 => ?_) (fun hc12 => ?_)
  ·
   refine J.skip ?_
   refine JE.seqN ?_
   refine J.seq ?_
   refine J.block ?_
   refine J.seq ?_
   refine J.reg ?_
   refine WL.rd (RD.move rfl) rfl rfl ?_
   refine WL.rd (RD.fieldC rfl rfl) rfl rfl ?_
   refine WL.rd (RD.loadC rfl rfl) rfl rfl ?_
   refine WL.rd (RD.move rfl) rfl rfl ?_
   refine WL.rd (RD.idx rfl rfl (by omega) rfl) rfl rfl ?_
   refine WL.rd (RD.fieldE rfl rfl) rfl rfl ?_
   refine WL.rd (RD.loadE rfl (by omega) rfl) rfl rfl ?_
   refine WL.efS (EF.callS (.cons rfl (.cons rfl .nil)) (fun w hS => l2Has_c _ _ _ _ (by exact RdI.rd hS))) rfl rfl ?_
   rintro ⟨⟩ -
   refine WL.rd (RD.move rfl) rfl rfl ?_
   refine WL.caseP 23 rfl (fun hg23 => ?_) (fun hg23 => ?_)
   ·
    refine WL.rd (RD.move rfl) rfl rfl ?_
    refine WL.rd (RD.fieldC rfl rfl) rfl rfl ?_
    refine WL.rd (RD.loadC rfl rfl) rfl rfl ?_
    refine WL.rd (RD.move rfl) rfl rfl ?_
    refine WL.rd (RD.idx rfl rfl (by omega) rfl) rfl rfl ?_
    refine WL.rd (RD.fieldE rfl rfl) rfl rfl ?_
    refine WL.rd (RD.loadE rfl (by omega) rfl) rfl rfl ?_
    refine WL.efS (EF.callS (.cons rfl (.cons rfl .nil)) (fun w hS => l2Has_c _ _ _ _ (by exact RdI.rd hS))) rfl rfl ?_
    rintro ⟨⟩ -
    refine WL.rd (RD.pickT rfl rfl) rfl rfl ?_
    refine WL.nil ?_
    refine JE.seqN ?_
    refine J.condP rfl (fun hc32 => ?_) (fun hc32 => ?_)
    ·
     refine J.reg ?_
     refine WL.rd (RD.move rfl) rfl rfl ?_
     refine WL.rd (RD.move rfl) rfl rfl ?_
     refine WL.efS (EF.build1 rfl) rfl rfl ?_
     intro v35 _
     refine WL.efS (EF.append rfl rfl (by omega) rfl rfl rfl) rfl rfl ?_
     intro v36 _
     refine WL.rd (RD.assign rfl) rfl rfl ?_
     refine WL.nil ?_
     refine JE.blockN ?_
     refine JE.seqN ?_
     refine J.reg ?_
     refine WL.rd (RD.move rfl) rfl rfl ?_
     refine WL.rd (RD.add rfl rfl (by omega) (by omega)) rfl rfl ?_
     refine WL.rd (RD.assign rfl) rfl rfl ?_
     refine WL.nil ?_
     refine JE.cutN ⟨_, ?_, k + 1, v36, rfl, ?_, rfl, rfl⟩ ?_ ?_
     · omega
     · first | omega | trivial | (refine ⟨?_, ?_⟩ <;> first | omega | rfl | simp)
     · exact (Sub.consE rfl (by first | rfl | (congr 1; omega) | (simp; done)) (Sub.consE rfl (by first | rfl | (congr 1; omega) | (simp; done)) (Sub.consE rfl (by first | rfl | (congr 1; omega) | (simp; done)) (Sub.consE rfl (by first | rfl | (congr 1; omega) | (simp; done)) .nil))))
     · exact (SubM.row rfl rfl (by first | rw [pickIx_yes _ k (spF_yes (by assumption) (by assumption))]) (SubM.cells rfl (by first | rfl | (simp; done)) (SubM.ro rfl (by first | rfl | (simp [iv, bv, yv, tv, sv]; done)) (SubM.ro rfl (by first | rfl | (simp [iv, bv, yv, tv, sv]; done)) .nil))))
    ·
     refine J.skip ?_
     refine JE.blockN ?_
     refine JE.seqN ?_
     refine J.reg ?_
     refine WL.rd (RD.move rfl) rfl rfl ?_
     refine WL.rd (RD.add rfl rfl (by omega) (by omega)) rfl rfl ?_
     refine WL.rd (RD.assign rfl) rfl rfl ?_
     refine WL.nil ?_
     refine JE.cutN ⟨_, ?_, k + 1, u, rfl, ?_, rfl, rfl⟩ ?_ ?_
     · omega
     · first | omega | trivial | (refine ⟨?_, ?_⟩ <;> first | omega | rfl | simp)
     · exact (Sub.consE rfl (by first | rfl | (congr 1; omega) | (simp; done)) (Sub.consE rfl (by first | rfl | (congr 1; omega) | (simp; done)) (Sub.consE rfl (by first | rfl | (congr 1; omega) | (simp; done)) (Sub.consE rfl (by first | rfl | (congr 1; omega) | (simp; done)) .nil))))
     · exact (SubM.row rfl rfl (by first | rw [pickIx_no _ k (spF_no1 (by assumption))] | rw [pickIx_no _ k (spF_no2 (by assumption))]) (SubM.cells rfl (by first | rfl | (simp; done)) (SubM.ro rfl (by first | rfl | (simp [iv, bv, yv, tv, sv]; done)) (SubM.ro rfl (by first | rfl | (simp [iv, bv, yv, tv, sv]; done)) .nil))))
   ·
    refine WL.noS rfl rfl ?_
    refine WL.noS rfl rfl ?_
    refine WL.noS rfl rfl ?_
    refine WL.noS rfl rfl ?_
    refine WL.noS rfl rfl ?_
    refine WL.noS rfl rfl ?_
    refine WL.noS rfl rfl ?_
    refine WL.noS rfl rfl ?_
    refine WL.rd (RD.pickF rfl rfl) rfl rfl ?_
    refine WL.nil ?_
    refine JE.seqN ?_
    refine J.condF rfl ?_
    refine J.skip ?_
    refine JE.blockN ?_
    refine JE.seqN ?_
    refine J.reg ?_
    refine WL.rd (RD.move rfl) rfl rfl ?_
    refine WL.rd (RD.add rfl rfl (by omega) (by omega)) rfl rfl ?_
    refine WL.rd (RD.assign rfl) rfl rfl ?_
    refine WL.nil ?_
    refine JE.cutN ⟨_, ?_, k + 1, u, rfl, ?_, rfl, rfl⟩ ?_ ?_
    · omega
    · first | omega | trivial | (refine ⟨?_, ?_⟩ <;> first | omega | rfl | simp)
    · exact (Sub.consE rfl (by first | rfl | (congr 1; omega) | (simp; done)) (Sub.consE rfl (by first | rfl | (congr 1; omega) | (simp; done)) (Sub.consE rfl (by first | rfl | (congr 1; omega) | (simp; done)) (Sub.consE rfl (by first | rfl | (congr 1; omega) | (simp; done)) .nil))))
    · exact (SubM.row rfl rfl (by first | rw [pickIx_no _ k (spF_no1 (by assumption))] | rw [pickIx_no _ k (spF_no2 (by assumption))]) (SubM.cells rfl (by first | rfl | (simp; done)) (SubM.ro rfl (by first | rfl | (simp [iv, bv, yv, tv, sv]; done)) (SubM.ro rfl (by first | rfl | (simp [iv, bv, yv, tv, sv]; done)) .nil))))
  ·
   refine J.exit ?_
   refine JE.seqX ?_
   refine JE.cutX ?_
   refine JE.blockHit ?_
   refine JE.seqN ?_
   refine J.seq ?_
   refine J.reg ?_
   refine WL.rd (RD.move rfl) rfl rfl ?_
   refine WL.rd (RD.assign rfl) rfl rfl ?_
   refine WL.nil ?_
   refine JE.seqN ?_
   refine J.ret ?_
   refine JE.ret rfl (.tmp rfl .nil) (fun w hS => ?_)
   exact CN.fin hS u rfl trivial (SubM.row rfl rfl (by rw [show k = xs.length by omega]) .nil) (by simp [En.rdb])
theorem l3Set_c (n : Int) (mask : Nat) (w : World) (hn : 0 ≤ n ∧ n ≤ 8) (hm : mask ≤ 256) :
    CN Try.prog 99 [.int .i64 n, .int .i64 (mask : Int)] w Value (fun _ => True) (fun u => u) (fun u => [.row u 3 1 ((setL n.toNat mask).map iv)]) := by
 refine calls_of_J (mu := (fun _ => False)) (m := []) (e := [(0, .int .i64 n), (1, .int .i64 (mask : Int))]) Try.func99 rfl rfl (.cons rfl (.cons rfl .nil)) (St.init _ _) ?_
 refine J.seq ?_
 refine J.reg ?_
 refine WL.rd (RD.assign rfl) rfl rfl ?_
 refine WL.nil ?_
 refine JE.seqN ?_
 refine J.seq ?_
 refine J.reg ?_
 refine WL.efS (EF.build0) rfl rfl ?_
 intro v7 _
 refine WL.rd (RD.assign rfl) rfl rfl ?_
 refine WL.nil ?_
 refine JE.seqN ?_
 refine J.seq ?_
 refine J.seq ?_
 refine J.reg ?_
 refine WL.rd (RD.assign rfl) rfl rfl ?_
 refine WL.nil ?_
 refine JE.seqN ?_
 refine J.block ?_
 refine J.loop (fun gg ee mm => ∃ (k : Nat), ∃ (u : Value), gg = n.toNat - k ∧ (((k : Int) ≤ n)) ∧ ee = [(5, u), (6, .int .i64 (k : Int)), (0, .int .i64 n), (1, .int .i64 (mask : Int))] ∧ mm = [.row u 3 1 ((pickIx (fun v => maskV mask (v : Int)) k).map iv)]) _ ⟨0, v7, rfl, ?_, rfl, rfl⟩ ?_ ?_ ?_
 · first | omega | trivial | (refine ⟨?_, ?_⟩ <;> first | omega | rfl | simp)
 · exact (Sub.consE rfl (by first | rfl | (congr 1; omega) | (simp; done)) (Sub.consE rfl (by first | rfl | (congr 1; omega) | (simp; done)) (Sub.consE rfl (by first | rfl | (congr 1; omega) | (simp; done)) (Sub.consE rfl (by first | rfl | (congr 1; omega) | (simp; done)) .nil))))
 · exact (SubM.row rfl rfl (by simp [pickIx]) .nil)
 ·
  rintro g _ _ ⟨k, u, rfl, hI, rfl, rfl⟩
  have hpl := pickIx_le (fun v => maskV mask (v : Int)) k
  have hmd : mask / 2 ^ k ≤ mask := Nat.div_le_self _ _
  refine J.seq ?_
  refine J.seq ?_
  refine J.reg ?_
  refine WL.rd (RD.move rfl) rfl rfl ?_
  refine WL.rd (RD.move rfl) rfl rfl ?_
  refine WL.rd (RD.lss rfl rfl) rfl rfl ?_
  refine WL.nil ?_
  refine JE.seqN ?_
  refine J.condP rfl (fun hc10 => ?_) (fun hc10 => ?_)
  ·
   refine J.skip ?_
   refine JE.seqN ?_
   refine J.seq ?_
   refine J.block ?_
   refine J.seq ?_
   refine J.reg ?_
   refine WL.rd (RD.move rfl) rfl rfl ?_
   refine WL.rd (RD.move rfl) rfl rfl ?_
   refine WL.rd (RD.shrN k mask rfl rfl rfl (by first | rfl | omega) (by omega)) rfl rfl ?_
   refine WL.rd (RD.maskN 1 (mask / 2 ^ k) rfl rfl rfl rfl (by decide) (by omega)) rfl rfl ?_
   refine WL.rd (RD.eql rfl rfl) rfl rfl ?_
   refine WL.nil ?_
   refine JE.seqN ?_
   refine J.condP rfl (fun hc17 => ?_) (fun hc17 => ?_)
   ·
    refine J.reg ?_
    refine WL.rd (RD.move rfl) rfl rfl ?_
    refine WL.rd (RD.move rfl) rfl rfl ?_
    refine WL.efS (EF.build1 rfl) rfl rfl ?_
    intro v20 _
    refine WL.efS (EF.append rfl rfl (by omega) rfl rfl rfl) rfl rfl ?_
    intro v21 _
    refine WL.rd (RD.assign rfl) rfl rfl ?_
    refine WL.nil ?_
    refine JE.blockN ?_
    refine JE.seqN ?_
    refine J.reg ?_
    refine WL.rd (RD.move rfl) rfl rfl ?_
    refine WL.rd (RD.add rfl rfl (by omega) (by omega)) rfl rfl ?_
    refine WL.rd (RD.assign rfl) rfl rfl ?_
    refine WL.nil ?_
    refine JE.cutN ⟨_, ?_, k + 1, v21, rfl, ?_, rfl, rfl⟩ ?_ ?_
    · omega
    · first | omega | trivial | (refine ⟨?_, ?_⟩ <;> first | omega | rfl | simp)
    · exact (Sub.consE rfl (by first | rfl | (congr 1; omega) | (simp; done)) (Sub.consE rfl (by first | rfl | (congr 1; omega) | (simp; done)) (Sub.consE rfl (by first | rfl | (congr 1; omega) | (simp; done)) (Sub.consE rfl (by first | rfl | (congr 1; omega) | (simp; done)) .nil))))
    · exact (SubM.row rfl rfl (by rw [pickIx_yes (fun v => maskV mask (v : Int)) k ((maskV_iff mask k).2 (by unfold bitN; omega))]) .nil)
   ·
    refine J.skip ?_
    refine JE.blockN ?_
    refine JE.seqN ?_
    refine J.reg ?_
    refine WL.rd (RD.move rfl) rfl rfl ?_
    refine WL.rd (RD.add rfl rfl (by omega) (by omega)) rfl rfl ?_
    refine WL.rd (RD.assign rfl) rfl rfl ?_
    refine WL.nil ?_
    refine JE.cutN ⟨_, ?_, k + 1, u, rfl, ?_, rfl, rfl⟩ ?_ ?_
    · omega
    · first | omega | trivial | (refine ⟨?_, ?_⟩ <;> first | omega | rfl | simp)
    · exact (Sub.consE rfl (by first | rfl | (congr 1; omega) | (simp; done)) (Sub.consE rfl (by first | rfl | (congr 1; omega) | (simp; done)) (Sub.consE rfl (by first | rfl | (congr 1; omega) | (simp; done)) (Sub.consE rfl (by first | rfl | (congr 1; omega) | (simp; done)) .nil))))
    · exact (SubM.row rfl rfl (by rw [pickIx_no (fun v => maskV mask (v : Int)) k (fun hh => hc17 (by have := (maskV_iff mask k).1 hh; unfold bitN at this; omega))]) .nil)
  ·
   refine J.exit ?_
   refine JE.seqX ?_
   refine JE.cutX ?_
   refine JE.blockHit ?_
   refine JE.seqN ?_
   refine J.seq ?_
   refine J.reg ?_
   refine WL.rd (RD.move rfl) rfl rfl ?_
   refine WL.rd (RD.assign rfl) rfl rfl ?_
   refine WL.nil ?_
   refine JE.seqN ?_
   refine J.ret ?_
   refine JE.ret rfl (.tmp rfl .nil) (fun w hS => ?_)
   exact CN.fin hS u rfl trivial (SubM.row rfl rfl (by rw [show k = n.toNat by omega]; rfl) .nil) (by simp [En.rdb])
theorem setOf_c (n : Int) (mask : Nat) (w : World) (hn : 0 ≤ n ∧ n ≤ 8) (hm : mask ≤ 256) :
    CN Try.prog 98 [.int .i64 (mask : Int), .int .i64 n] w Value (fun _ => True) (fun u => u) (fun u => [.row u 3 1 ((setL n.toNat mask).map iv)]) := by
 refine calls_of_J (mu := (fun _ => False)) (m := []) (e := [(0, .int .i64 (mask : Int)), (1, .int .i64 n)]) Try.func98 rfl rfl (.cons rfl (.cons rfl .nil)) (St.init _ _) ?_
 refine J.seq ?_
 refine J.reg ?_
 refine WL.rd (RD.assign rfl) rfl rfl ?_
 refine WL.nil ?_
 refine JE.seqN ?_
 refine J.seq ?_
 refine J.reg ?_
 refine WL.efS (EF.build0) rfl rfl ?_
 intro v7 _
 refine WL.rd (RD.assign rfl) rfl rfl ?_
 refine WL.nil ?_
 refine JE.seqN ?_
 refine J.seq ?_
 refine J.seq ?_
 refine J.reg ?_
 refine WL.rd (RD.move rfl) rfl rfl ?_
 refine WL.rd (RD.move rfl) rfl rfl ?_
 refine WL.nil ?_
 refine JE.seqN ?_
 refine J.block ?_
 refine J.loop (fun gg ee mm => ∃ (k : Nat), ∃ (u : Value), gg = n.toNat - k ∧ (((k : Int) ≤ n)) ∧ ee = [(5, u), (9, .int .i64 (k : Int)), (8, .int .i64 n), (0, .int .i64 (mask : Int))] ∧ mm = [.row u 3 1 ((pickIx (fun v => maskV mask (v : Int)) k).map iv)]) _ ⟨0, v7, rfl, ?_, rfl, rfl⟩ ?_ ?_ ?_
 · first | omega | trivial | (refine ⟨?_, ?_⟩ <;> first | omega | rfl | simp)
 · exact (Sub.consE rfl (by first | rfl | (congr 1; omega) | (simp; done)) (Sub.consE rfl (by first | rfl | (congr 1; omega) | (simp; done)) (Sub.consE rfl (by first | rfl | (congr 1; omega) | (simp; done)) (Sub.consE rfl (by first | rfl | (congr 1; omega) | (simp; done)) .nil))))
 · exact (SubM.row rfl rfl (by simp [pickIx]) .nil)
 ·
  rintro g _ _ ⟨k, u, rfl, hI, rfl, rfl⟩
  have hpl := pickIx_le (fun v => maskV mask (v : Int)) k
  have hmd : mask / 2 ^ k ≤ mask := Nat.div_le_self _ _
  refine J.seq ?_
  refine J.reg ?_
  refine WL.rd (RD.lss rfl rfl) rfl rfl ?_
  refine WL.nil ?_
  refine JE.seqN ?_
  refine J.seq ?_
  refine J.condP rfl (fun hc10 => ?_) (fun hc10 => ?_)
  ·
   refine J.skip ?_
   refine JE.seqN ?_
   refine J.seq ?_
   refine J.block ?_
   refine J.seq ?_
   refine J.reg ?_
   refine WL.rd (RD.move rfl) rfl rfl ?_
   refine WL.rd (RD.assign rfl) rfl rfl ?_
   refine WL.nil ?_
   refine JE.seqN ?_
   refine J.seq ?_
   refine J.reg ?_
   refine WL.rd (RD.move rfl) rfl rfl ?_
   refine WL.rd (RD.move rfl) rfl rfl ?_
   refine WL.rd (RD.shrN k mask rfl rfl rfl (by first | rfl | omega) (by omega)) rfl rfl ?_
   refine WL.rd (RD.maskN 1 (mask / 2 ^ k) rfl rfl rfl rfl (by decide) (by omega)) rfl rfl ?_
   refine WL.rd (RD.eql rfl rfl) rfl rfl ?_
   refine WL.nil ?_
   refine JE.seqN ?_
   refine J.condP rfl (fun hc16 => ?_) (fun hc16 => ?_)
   ·
    refine J.reg ?_
    refine WL.rd (RD.move rfl) rfl rfl ?_
    refine WL.rd (RD.move rfl) rfl rfl ?_
    refine WL.efS (EF.build1 rfl) rfl rfl ?_
    intro v19 _
    refine WL.efS (EF.append rfl rfl (by omega) rfl rfl rfl) rfl rfl ?_
    intro v20 _
    refine WL.rd (RD.assign rfl) rfl rfl ?_
    refine WL.nil ?_
    refine JE.blockN ?_
    refine JE.seqN ?_
    refine J.reg ?_
    refine WL.rd (RD.add rfl rfl (by omega) (by omega)) rfl rfl ?_
    refine WL.rd (RD.move rfl) rfl rfl ?_
    refine WL.nil ?_
    refine JE.cutN ⟨_, ?_, k + 1, v20, rfl, ?_, rfl, rfl⟩ ?_ ?_
    · omega
    · first | omega | trivial | (refine ⟨?_, ?_⟩ <;> first | omega | rfl | simp)
    · exact (Sub.consE rfl (by first | rfl | (congr 1; omega) | (simp; done)) (Sub.consE rfl (by first | rfl | (congr 1; omega) | (simp; done)) (Sub.consE rfl (by first | rfl | (congr 1; omega) | (simp; done)) (Sub.consE rfl (by first | rfl | (congr 1; omega) | (simp; done)) .nil))))
    · exact (SubM.row rfl rfl (by rw [pickIx_yes (fun v => maskV mask (v : Int)) k ((maskV_iff mask k).2 (by unfold bitN; omega))]) .nil)
   ·
    refine J.skip ?_
    refine JE.blockN ?_
    refine JE.seqN ?_
    refine J.reg ?_
    refine WL.rd (RD.add rfl rfl (by omega) (by omega)) rfl rfl ?_
    refine WL.rd (RD.move rfl) rfl rfl ?_
    refine WL.nil ?_
    refine JE.cutN ⟨_, ?_, k + 1, u, rfl, ?_, rfl, rfl⟩ ?_ ?_
    · omega
    · first | omega | trivial | (refine ⟨?_, ?_⟩ <;> first | omega | rfl | simp)
    · exact (Sub.consE rfl (by first | rfl | (congr 1; omega) | (simp; done)) (Sub.consE rfl (by first | rfl | (congr 1; omega) | (simp; done)) (Sub.consE rfl (by first | rfl | (congr 1; omega) | (simp; done)) (Sub.consE rfl (by first | rfl | (congr 1; omega) | (simp; done)) .nil))))
    · exact (SubM.row rfl rfl (by rw [pickIx_no (fun v => maskV mask (v : Int)) k (fun hh => hc16 (by have := (maskV_iff mask k).1 hh; unfold bitN at this; omega))]) .nil)
  ·
   refine J.exit ?_
   refine JE.seqX ?_
   refine JE.cutX ?_
   refine JE.blockHit ?_
   refine JE.seqN ?_
   refine J.seq ?_
   refine J.reg ?_
   refine WL.rd (RD.move rfl) rfl rfl ?_
   refine WL.rd (RD.assign rfl) rfl rfl ?_
   refine WL.nil ?_
   refine JE.seqN ?_
   refine J.ret ?_
   refine JE.ret rfl (.tmp rfl .nil) (fun w hS => ?_)
   exact CN.fin hS u rfl trivial (SubM.row rfl rfl (by rw [show k = n.toNat by omega]; rfl) .nil) (by simp [En.rdb])
theorem sOver_c (n : Int) (v : Value) (xs : List (Int × Int)) (k l : Int) (w : World) (hr : Rd w v 2 (xs.map bv)) (hk : -9223372036854775808 ≤ k ∧ k ≤ 9223372036854775807) (hl : -9223372036854775808 ≤ l ∧ l ≤ 9223372036854775807) :
    CN Try.prog 10 [.agg #[.int .i64 n, v], .int .i64 k, .int .i64 l] w Value (fun _ => True) (fun u => .tuple #[u, .bool (ovI n k l xs).isSome]) (fun u => [.row u 3 1 ((ovL n k l xs).map iv)]) := by
 have hl_xs : xs.length ≤ 9223372036854775807 := (by obtain ⟨_, _, _, hh, _⟩ := hr.shape; simpa using hh)
 refine calls_of_J (mu := (fun _ => False)) (m := [.ro v 2 (xs.map bv)]) (e := [(0, .agg #[.int .i64 n, v]), (1, .int .i64 k), (2, .int .i64 l)]) Try.func10 rfl rfl (.cons rfl (.cons rfl (.cons rfl .nil))) (((St.init _ _).ro0 hr (by decide))) ?_
 refine J.seq ?_
 refine J.reg ?_
 refine WL.efS (EF.boxA rfl) rfl rfl ?_
 intro b3 _
 refine WL.rd (RD.assign rfl) rfl rfl ?_
 refine WL.rd (RD.assign rfl) rfl rfl ?_
 refine WL.nil ?_
 refine JE.seqN ?_
 refine J.seq ?_
 refine J.seq ?_
 refine J.reg ?_
 refine WL.rd (RD.loadA rfl rfl) rfl rfl ?_
 refine WL.efS (EF.callS (.cons rfl .nil) (fun w hS => sIsGraph_c _ _ _ _ (by exact RdI.rd hS))) rfl rfl ?_
 rintro ⟨⟩ -
 refine WL.rd (RD.notP rfl) rfl rfl ?_
 refine WL.rd (RD.move rfl) rfl rfl ?_
 refine WL.caseP 14 rfl (fun hg14 => ?_) (fun hg14 => ?_)
 ·
  refine WL.noS rfl rfl ?_
  refine WL.noS rfl rfl ?_
  refine WL.noS rfl rfl ?_
  refine WL.noS rfl rfl ?_
  refine WL.rd (RD.pickT rfl rfl) rfl rfl ?_
  refine WL.nil ?_
  refine JE.seqN ?_
  refine J.condT rfl ?_
  refine J.seq ?_
  refine J.reg ?_
  refine WL.efS (EF.build0) rfl rfl ?_
  intro v20 _
  refine WL.rd (RD.assign rfl) rfl rfl ?_
  refine WL.rd (RD.assign rfl) rfl rfl ?_
  refine WL.nil ?_
  refine JE.seqN ?_
  refine J.ret ?_
  refine JE.ret rfl (.tmp rfl (.tmp rfl .nil)) (fun w hS => ?_)
  have h : ovI n k l xs = none := by unfold ovI; rw [if_neg (fun hh => hg14 hh.1)]
  exact CN.fin hS v20 (by rw [h]; rfl) trivial (SubM.row rfl rfl (by unfold ovL; rw [h]; rfl) .nil) (by simp [En.rdb])
 ·
  refine WL.rd (RD.move rfl) rfl rfl ?_
  refine WL.rd (RD.move rfl) rfl rfl ?_
  refine WL.efS (EF.callS (.cons rfl (.cons rfl .nil)) (fun w hS => sIsRange_c _ _ _ (by assumption))) rfl rfl ?_
  rintro ⟨⟩ -
  refine WL.rd (RD.notP rfl) rfl rfl ?_
  refine WL.rd (RD.pickF rfl rfl) rfl rfl ?_
  refine WL.nil ?_
  refine JE.seqN ?_
  refine J.condP rfl (fun hc19 => ?_) (fun hc19 => ?_)
  ·
   refine J.seq ?_
   refine J.reg ?_
   refine WL.efS (EF.build0) rfl rfl ?_
   intro v20 _
   refine WL.rd (RD.assign rfl) rfl rfl ?_
   refine WL.rd (RD.assign rfl) rfl rfl ?_
   refine WL.nil ?_
   refine JE.seqN ?_
   refine J.ret ?_
   refine JE.ret rfl (.tmp rfl (.tmp rfl .nil)) (fun w hS => ?_)
   have h : ovI n k l xs = none := by unfold ovI; rw [if_neg (fun hh => hc19 hh.2)]
   exact CN.fin hS v20 (by rw [h]; rfl) trivial (SubM.row rfl rfl (by unfold ovL; rw [h]; rfl) .nil) (by simp [En.rdb])
  ·
   refine J.skip ?_
   refine JE.seqN ?_
   refine J.seq ?_
   refine J.seq ?_
   have hg : isG n xs := Decidable.not_not.1 hg14
   have hrg := Decidable.not_not.1 hc19
   have h12 := hg.1
   have h13 := hg.2.1
   have h14 := hg.2.2.1
   have h2p := two_pow8 (n := n) ⟨h12, h13⟩
   refine J.reg ?_
   refine WL.rd (RD.assign rfl) rfl rfl ?_
   refine WL.nil ?_
   refine JE.seqN ?_
   refine J.block ?_
   refine J.loop (fun gg ee mm => ∃ (mask : Nat), gg = 2 ^ n.toNat - mask ∧ ((1 ≤ mask) ∧ (mask ≤ 2 ^ n.toNat) ∧ (ovScan n k l xs (2 ^ n.toNat - mask) mask = ovScan n k l xs (2 ^ n.toNat - 1) 1)) ∧ ee = [(8, .int .i64 (mask : Int)), (1, .int .i64 k), (2, .int .i64 l), (3, .pointer (some ⟨b3, 0, none⟩))] ∧ mm = [.cells b3 26 [.int .i64 n, v], .ro v 2 (xs.map bv)]) _ ⟨1, rfl, ?_, rfl, rfl⟩ ?_ ?_ ?_
   · exact ⟨by omega, by omega, rfl⟩
   · exact (Sub.consE rfl (by first | rfl | (congr 1; omega) | (simp; done)) (Sub.consE rfl (by first | rfl | (congr 1; omega) | (simp; done)) (Sub.consE rfl (by first | rfl | (congr 1; omega) | (simp; done)) (Sub.consE rfl (by first | rfl | (congr 1; omega) | (simp; done)) .nil))))
   · exact (SubM.cells rfl (by first | rfl | (simp; done)) (SubM.ro rfl (by first | rfl | (simp [iv, bv, yv, tv, sv]; done)) .nil))
   ·
    rintro g _ _ ⟨mask, rfl, hI, rfl, rfl⟩
    refine J.seq ?_
    refine J.seq ?_
    refine J.reg ?_
    refine WL.rd (RD.move rfl) rfl rfl ?_
    refine WL.rd (RD.fieldC rfl rfl) rfl rfl ?_
    refine WL.rd (RD.loadC rfl rfl) rfl rfl ?_
    refine WL.rd (RD.shlN n.toNat 1 rfl rfl rfl (by omega) (by omega) (by omega)) rfl rfl ?_
    refine WL.rd (RD.lss rfl rfl) rfl rfl ?_
    refine WL.nil ?_
    refine JE.seqN ?_
    refine J.condP rfl (fun hc25 => ?_) (fun hc25 => ?_)
    ·
     refine J.skip ?_
     refine JE.seqN ?_
     refine J.seq ?_
     refine J.block ?_
     refine J.seq ?_
     refine J.reg ?_
     refine WL.rd (RD.fieldC rfl rfl) rfl rfl ?_
     refine WL.rd (RD.loadC rfl rfl) rfl rfl ?_
     refine WL.rd (RD.move rfl) rfl rfl ?_
     refine WL.efS (EF.callN (.cons rfl (.cons rfl .nil)) (fun w hS => l3Set_c _ mask _ (by omega) (by omega))) rfl rfl ?_
     rintro v31 -
     refine WL.rd (RD.assign rfl) rfl rfl ?_
     refine WL.nil ?_
     refine JE.seqN ?_
     refine J.seq ?_
     refine J.reg ?_
     refine WL.rd (RD.loadA rfl rfl) rfl rfl ?_
     refine WL.rd (RD.move rfl) rfl rfl ?_
     refine WL.efS (EF.callN (.cons rfl (.cons rfl .nil)) (fun w hS => sSpannedBars_c _ _ _ _ _ _ (by exact RdI.rd hS) (by exact RdI.rd hS) (by omega))) rfl rfl ?_
     rintro v34 -
     refine WL.rd (RD.lenR rfl) rfl rfl ?_
     refine WL.rd (RD.assign rfl) rfl rfl ?_
     refine WL.nil ?_
     refine JE.seqN ?_
     refine J.seq ?_
     have hsp := span_set hg mask
     have hsl := setL_len n.toNat mask
     have hzl := sz_le n.toNat (maskV mask)
     have hmr := mul_rng (k := k) (n := (((setL n.toNat mask).length : Nat) : Int)) (by omega) (by omega)
     refine J.reg ?_
     refine WL.rd (RD.move rfl) rfl rfl ?_
     refine WL.rd (RD.gtr rfl rfl) rfl rfl ?_
     refine WL.rd (RD.move rfl) rfl rfl ?_
     refine WL.caseP 38 rfl (fun hg38 => ?_) (fun hg38 => ?_)
     ·
      refine WL.rd (RD.move rfl) rfl rfl ?_
      refine WL.rd (RD.move rfl) rfl rfl ?_
      refine WL.rd (RD.move rfl) rfl rfl ?_
      refine WL.rd (RD.lenR rfl) rfl rfl ?_
      refine WL.rd (RD.mul rfl rfl (by omega) (by omega)) rfl rfl ?_
      refine WL.rd (RD.move rfl) rfl rfl ?_
      refine WL.rd (RD.sub rfl rfl (by omega) (by omega)) rfl rfl ?_
      refine WL.rd (RD.gtr rfl rfl) rfl rfl ?_
      refine WL.rd (RD.pickT rfl rfl) rfl rfl ?_
      refine WL.nil ?_
      refine JE.seqN ?_
      refine J.condP rfl (fun hc47 => ?_) (fun hc47 => ?_)
      ·
       refine J.seq ?_
       refine J.reg ?_
       refine WL.rd (RD.move rfl) rfl rfl ?_
       refine WL.rd (RD.assign rfl) rfl rfl ?_
       refine WL.rd (RD.assign rfl) rfl rfl ?_
       refine WL.nil ?_
       refine JE.seqN ?_
       refine J.ret ?_
       refine JE.ret rfl (.tmp rfl (.tmp rfl .nil)) (fun w hS => ?_)
       have hov : overM n k l xs mask := by unfold overM; rw [← hsp, ← hsl]; constructor <;> omega
       have h : ovI n k l xs = some mask := by unfold ovI; rw [if_pos ⟨hg, hrg⟩, ← hI.2.2, ovScan_yes hov (by omega)]
       exact CN.fin hS v31 (by rw [h]; rfl) trivial (SubM.row rfl rfl (by unfold ovL; rw [h]) .nil) (by simp [En.rdb])
      ·
       refine J.skip ?_
       refine JE.blockN ?_
       refine JE.seqN ?_
       refine J.reg ?_
       refine WL.rd (RD.move rfl) rfl rfl ?_
       refine WL.rd (RD.add rfl rfl (by omega) (by omega)) rfl rfl ?_
       refine WL.rd (RD.assign rfl) rfl rfl ?_
       refine WL.nil ?_
       refine JE.cutN ⟨_, ?_, mask + 1, rfl, ?_, rfl, rfl⟩ ?_ ?_
       · omega
       · have hno : ¬ overM n k l xs mask := (by unfold overM; rw [← hsp, ← hsl]; omega); refine ⟨by omega, by omega, ?_⟩; rw [← hI.2.2, ovScan_no hno (by omega), Nat.sub_sub]
       · exact (Sub.consE rfl (by first | rfl | (congr 1; omega) | (simp; done)) (Sub.consE rfl (by first | rfl | (congr 1; omega) | (simp; done)) (Sub.consE rfl (by first | rfl | (congr 1; omega) | (simp; done)) (Sub.consE rfl (by first | rfl | (congr 1; omega) | (simp; done)) .nil))))
       · exact (SubM.cells rfl (by first | rfl | (simp; done)) (SubM.ro rfl (by first | rfl | (simp [iv, bv, yv, tv, sv]; done)) .nil))
     ·
      refine WL.noS rfl rfl ?_
      refine WL.noS rfl rfl ?_
      refine WL.noS rfl rfl ?_
      refine WL.noS rfl rfl ?_
      refine WL.noS rfl rfl ?_
      refine WL.noS rfl rfl ?_
      refine WL.noS rfl rfl ?_
      refine WL.noS rfl rfl ?_
      refine WL.rd (RD.pickF rfl rfl) rfl rfl ?_
      refine WL.nil ?_
      refine JE.seqN ?_
      refine J.condF rfl ?_
      refine J.skip ?_
      refine JE.blockN ?_
      refine JE.seqN ?_
      refine J.reg ?_
      refine WL.rd (RD.move rfl) rfl rfl ?_
      refine WL.rd (RD.add rfl rfl (by omega) (by omega)) rfl rfl ?_
      refine WL.rd (RD.assign rfl) rfl rfl ?_
      refine WL.nil ?_
      refine JE.cutN ⟨_, ?_, mask + 1, rfl, ?_, rfl, rfl⟩ ?_ ?_
      · omega
      · have hno : ¬ overM n k l xs mask := (by unfold overM; rw [← hsp, ← hsl]; omega); refine ⟨by omega, by omega, ?_⟩; rw [← hI.2.2, ovScan_no hno (by omega), Nat.sub_sub]
      · exact (Sub.consE rfl (by first | rfl | (congr 1; omega) | (simp; done)) (Sub.consE rfl (by first | rfl | (congr 1; omega) | (simp; done)) (Sub.consE rfl (by first | rfl | (congr 1; omega) | (simp; done)) (Sub.consE rfl (by first | rfl | (congr 1; omega) | (simp; done)) .nil))))
      · exact (SubM.cells rfl (by first | rfl | (simp; done)) (SubM.ro rfl (by first | rfl | (simp [iv, bv, yv, tv, sv]; done)) .nil))
    ·
     refine J.exit ?_
     refine JE.seqX ?_
     refine JE.cutX ?_
     refine JE.blockHit ?_
     refine JE.seqN ?_
     refine J.seq ?_
     refine J.reg ?_
     refine WL.efS (EF.build0) rfl rfl ?_
     intro v49 _
     refine WL.rd (RD.assign rfl) rfl rfl ?_
     refine WL.rd (RD.assign rfl) rfl rfl ?_
     refine WL.nil ?_
     refine JE.seqN ?_
     refine J.ret ?_
     refine JE.ret rfl (.tmp rfl (.tmp rfl .nil)) (fun w hS => ?_)
     have h : ovI n k l xs = none := by unfold ovI; rw [if_pos ⟨hg, hrg⟩, ← hI.2.2, show 2 ^ n.toNat - mask = 0 by omega]; rfl
     exact CN.fin hS v49 (by rw [h]; rfl) trivial (SubM.row rfl rfl (by unfold ovL; rw [h]; rfl) .nil) (by simp [En.rdb])
theorem iOver_c (n : Int) (v : Value) (xs : List (Int × Int)) (k l : Int) (w : World) (hr : Rd w v 2 (xs.map bv)) (hk : -9223372036854775808 ≤ k ∧ k ≤ 9223372036854775807) (hl : -9223372036854775808 ≤ l ∧ l ≤ 9223372036854775807) :
    CN Try.prog 9 [.agg #[.int .i64 n, v], .int .i64 k, .int .i64 l] w Value (fun _ => True) (fun u => .tuple #[u, .bool (ovI n k l xs).isSome]) (fun u => [.row u 3 1 ((ovL n k l xs).map iv)]) := by
 have hl_xs : xs.length ≤ 9223372036854775807 := (by obtain ⟨_, _, _, hh, _⟩ := hr.shape; simpa using hh)
 refine calls_of_J (mu := (fun _ => False)) (m := [.ro v 2 (xs.map bv)]) (e := [(0, .agg #[.int .i64 n, v]), (1, .int .i64 k), (2, .int .i64 l)]) Try.func9 rfl rfl (.cons rfl (.cons rfl (.cons rfl .nil))) (((St.init _ _).ro0 hr (by decide))) ?_
 refine J.seq ?_
 refine J.reg ?_
 refine WL.efS (EF.boxA rfl) rfl rfl ?_
 intro b3 _
 refine WL.rd (RD.assign rfl) rfl rfl ?_
 refine WL.rd (RD.assign rfl) rfl rfl ?_
 refine WL.nil ?_
 refine JE.seqN ?_
 refine J.seq ?_
 refine J.seq ?_
 refine J.reg ?_
 refine WL.rd (RD.loadA rfl rfl) rfl rfl ?_
 refine WL.efS (EF.callS (.cons rfl .nil) (fun w hS => iIsGraph_c _ _ _ _ (by exact RdI.rd hS))) rfl rfl ?_
 rintro ⟨⟩ -
 refine WL.rd (RD.notP rfl) rfl rfl ?_
 refine WL.rd (RD.move rfl) rfl rfl ?_
 refine WL.caseP 17 rfl (fun hg17 => ?_) (fun hg17 => ?_)
 ·
  refine WL.noS rfl rfl ?_
  refine WL.noS rfl rfl ?_
  refine WL.noS rfl rfl ?_
  refine WL.noS rfl rfl ?_
  refine WL.rd (RD.pickT rfl rfl) rfl rfl ?_
  refine WL.nil ?_
  refine JE.seqN ?_
  refine J.condT rfl ?_
  refine J.seq ?_
  refine J.reg ?_
  refine WL.efS (EF.build0) rfl rfl ?_
  intro v23 _
  refine WL.rd (RD.assign rfl) rfl rfl ?_
  refine WL.rd (RD.assign rfl) rfl rfl ?_
  refine WL.nil ?_
  refine JE.seqN ?_
  refine J.ret ?_
  refine JE.ret rfl (.tmp rfl (.tmp rfl .nil)) (fun w hS => ?_)
  have h : ovI n k l xs = none := by unfold ovI; rw [if_neg (fun hh => hg17 hh.1)]
  exact CN.fin hS v23 (by rw [h]; rfl) trivial (SubM.row rfl rfl (by unfold ovL; rw [h]; rfl) .nil) (by simp [En.rdb])
 ·
  refine WL.rd (RD.move rfl) rfl rfl ?_
  refine WL.rd (RD.move rfl) rfl rfl ?_
  refine WL.efS (EF.callS (.cons rfl (.cons rfl .nil)) (fun w hS => iIsRange_c _ _ _ (by assumption))) rfl rfl ?_
  rintro ⟨⟩ -
  refine WL.rd (RD.notP rfl) rfl rfl ?_
  refine WL.rd (RD.pickF rfl rfl) rfl rfl ?_
  refine WL.nil ?_
  refine JE.seqN ?_
  refine J.condP rfl (fun hc22 => ?_) (fun hc22 => ?_)
  ·
   refine J.seq ?_
   refine J.reg ?_
   refine WL.efS (EF.build0) rfl rfl ?_
   intro v23 _
   refine WL.rd (RD.assign rfl) rfl rfl ?_
   refine WL.rd (RD.assign rfl) rfl rfl ?_
   refine WL.nil ?_
   refine JE.seqN ?_
   refine J.ret ?_
   refine JE.ret rfl (.tmp rfl (.tmp rfl .nil)) (fun w hS => ?_)
   have h : ovI n k l xs = none := by unfold ovI; rw [if_neg (fun hh => hc22 hh.2)]
   exact CN.fin hS v23 (by rw [h]; rfl) trivial (SubM.row rfl rfl (by unfold ovL; rw [h]; rfl) .nil) (by simp [En.rdb])
  ·
   refine J.skip ?_
   refine JE.seqN ?_
   refine J.seq ?_
   refine J.seq ?_
   have hg : isG n xs := Decidable.not_not.1 hg17
   have hrg := Decidable.not_not.1 hc22
   have h12 := hg.1
   have h13 := hg.2.1
   have h14 := hg.2.2.1
   have h2p := two_pow8 (n := n) ⟨h12, h13⟩
   refine J.reg ?_
   refine WL.rd (RD.assign rfl) rfl rfl ?_
   refine WL.nil ?_
   refine JE.seqN ?_
   refine J.block ?_
   refine J.loop (fun gg ee mm => ∃ (mask : Nat), gg = 2 ^ n.toNat - mask ∧ ((1 ≤ mask) ∧ (mask ≤ 2 ^ n.toNat) ∧ (ovScan n k l xs (2 ^ n.toNat - mask) mask = ovScan n k l xs (2 ^ n.toNat - 1) 1)) ∧ ee = [(8, .int .i64 (mask : Int)), (1, .int .i64 k), (2, .int .i64 l), (3, .pointer (some ⟨b3, 0, none⟩))] ∧ mm = [.cells b3 26 [.int .i64 n, v], .ro v 2 (xs.map bv)]) _ ⟨1, rfl, ?_, rfl, rfl⟩ ?_ ?_ ?_
   · exact ⟨by omega, by omega, rfl⟩
   · exact (Sub.consE rfl (by first | rfl | (congr 1; omega) | (simp; done)) (Sub.consE rfl (by first | rfl | (congr 1; omega) | (simp; done)) (Sub.consE rfl (by first | rfl | (congr 1; omega) | (simp; done)) (Sub.consE rfl (by first | rfl | (congr 1; omega) | (simp; done)) .nil))))
   · exact (SubM.cells rfl (by first | rfl | (simp; done)) (SubM.ro rfl (by first | rfl | (simp [iv, bv, yv, tv, sv]; done)) .nil))
   ·
    rintro g _ _ ⟨mask, rfl, hI, rfl, rfl⟩
    refine J.seq ?_
    refine J.seq ?_
    refine J.reg ?_
    refine WL.rd (RD.move rfl) rfl rfl ?_
    refine WL.rd (RD.fieldC rfl rfl) rfl rfl ?_
    refine WL.rd (RD.loadC rfl rfl) rfl rfl ?_
    refine WL.rd (RD.shlN n.toNat 1 rfl rfl rfl (by omega) (by omega) (by omega)) rfl rfl ?_
    refine WL.rd (RD.lss rfl rfl) rfl rfl ?_
    refine WL.nil ?_
    refine JE.seqN ?_
    refine J.condP rfl (fun hc28 => ?_) (fun hc28 => ?_)
    ·
     refine J.skip ?_
     refine JE.seqN ?_
     refine J.seq ?_
     refine J.block ?_
     refine J.seq ?_
     refine J.reg ?_
     refine WL.rd (RD.assign rfl) rfl rfl ?_
     refine WL.rd (RD.assign rfl) rfl rfl ?_
     refine WL.nil ?_
     refine JE.seqN ?_
     refine J.seq ?_
     refine J.seq ?_
     refine J.reg ?_
     refine WL.rd (RD.fieldC rfl rfl) rfl rfl ?_
     refine WL.rd (RD.loadC rfl rfl) rfl rfl ?_
     refine WL.rd (RD.move rfl) rfl rfl ?_
     refine WL.nil ?_
     refine JE.seqN ?_
     refine J.block ?_
     refine J.loop (fun gg ee mm => ∃ (j : Nat), gg = n.toNat - j ∧ (((j : Int) ≤ n)) ∧ ee = [(9, .int .i64 (sz j (maskV mask) : Int)), (32, .int .i64 n), (33, .int .i64 (j : Int)), (10, .int .i64 0), (1, .int .i64 k), (2, .int .i64 l), (3, .pointer (some ⟨b3, 0, none⟩)), (8, .int .i64 (mask : Int))] ∧ mm = [.cells b3 26 [.int .i64 n, v], .ro v 2 (xs.map bv)]) _ ⟨0, rfl, ?_, rfl, rfl⟩ ?_ ?_ ?_
     · first | omega | trivial | (refine ⟨?_, ?_⟩ <;> first | omega | rfl | simp)
     · exact (Sub.consE rfl (by first | rfl | (congr 1; omega) | (simp; done)) (Sub.consE rfl (by first | rfl | (congr 1; omega) | (simp; done)) (Sub.consE rfl (by first | rfl | (congr 1; omega) | (simp; done)) (Sub.consE rfl (by first | rfl | (congr 1; omega) | (simp; done)) (Sub.consE rfl (by first | rfl | (congr 1; omega) | (simp; done)) (Sub.consE rfl (by first | rfl | (congr 1; omega) | (simp; done)) (Sub.consE rfl (by first | rfl | (congr 1; omega) | (simp; done)) (Sub.consE rfl (by first | rfl | (congr 1; omega) | (simp; done)) .nil))))))))
     · exact (SubM.cells rfl (by first | rfl | (simp; done)) (SubM.ro rfl (by first | rfl | (simp [iv, bv, yv, tv, sv]; done)) .nil))
     ·
      rintro g _ _ ⟨j, rfl, hJ, rfl, rfl⟩
      refine J.seq ?_
      refine J.reg ?_
      refine WL.rd (RD.lss rfl rfl) rfl rfl ?_
      refine WL.nil ?_
      refine JE.seqN ?_
      refine J.seq ?_
      refine J.condP rfl (fun hc34 => ?_) (fun hc34 => ?_)
      ·
       refine J.skip ?_
       refine JE.seqN ?_
       refine J.seq ?_
       refine J.block ?_
       refine J.seq ?_
       refine J.reg ?_
       refine WL.rd (RD.move rfl) rfl rfl ?_
       refine WL.rd (RD.assign rfl) rfl rfl ?_
       refine WL.nil ?_
       refine JE.seqN ?_
       have hmd : mask / 2 ^ j ≤ mask := Nat.div_le_self _ _
       have hszj := sz_le j (maskV mask)
       refine J.reg ?_
       refine WL.rd (RD.move rfl) rfl rfl ?_
       refine WL.rd (RD.move rfl) rfl rfl ?_
       refine WL.rd (RD.move rfl) rfl rfl ?_
       refine WL.rd (RD.shrN j mask rfl rfl rfl rfl (by omega)) rfl rfl ?_
       refine WL.rd (RD.maskN 1 (mask / 2 ^ j) rfl rfl rfl rfl (by decide) (by omega)) rfl rfl ?_
       refine WL.rd (RD.add rfl rfl (by omega) (by omega)) rfl rfl ?_
       refine WL.rd (RD.assign rfl) rfl rfl ?_
       refine WL.nil ?_
       refine JE.blockN ?_
       refine JE.seqN ?_
       refine J.reg ?_
       refine WL.rd (RD.add rfl rfl (by omega) (by omega)) rfl rfl ?_
       refine WL.rd (RD.move rfl) rfl rfl ?_
       refine WL.nil ?_
       refine JE.cutN ⟨_, ?_, j + 1, rfl, ?_, rfl, rfl⟩ ?_ ?_
       · omega
       · first | omega | trivial | (refine ⟨?_, ?_⟩ <;> first | omega | rfl | simp)
       · exact (Sub.consE rfl (by rw [sz_succ, ← bitN_of]; unfold bitN; first | rfl | (congr 1; omega)) (Sub.consE rfl (by first | rfl | (congr 1; omega) | (simp; done)) (Sub.consE rfl (by first | rfl | (congr 1; omega) | (simp; done)) (Sub.consE rfl (by first | rfl | (congr 1; omega) | (simp; done)) (Sub.consE rfl (by first | rfl | (congr 1; omega) | (simp; done)) (Sub.consE rfl (by first | rfl | (congr 1; omega) | (simp; done)) (Sub.consE rfl (by first | rfl | (congr 1; omega) | (simp; done)) (Sub.consE rfl (by first | rfl | (congr 1; omega) | (simp; done)) .nil))))))))
       · exact (SubM.cells rfl (by first | rfl | (simp; done)) (SubM.ro rfl (by first | rfl | (simp [iv, bv, yv, tv, sv]; done)) .nil))
      ·
       refine J.exit ?_
       refine JE.seqX ?_
       refine JE.cutX ?_
       refine JE.blockHit ?_
       refine JE.seqN ?_
       refine J.seq ?_
       refine J.seq ?_
       refine J.reg ?_
       refine WL.rd (RD.fieldC rfl rfl) rfl rfl ?_
       refine WL.rd (RD.loadC rfl rfl) rfl rfl ?_
       refine WL.rd (RD.lenR rfl) rfl rfl ?_
       refine WL.rd (RD.move rfl) rfl rfl ?_
       refine WL.nil ?_
       refine JE.seqN ?_
       refine J.block ?_
       refine J.loop (fun gg ee mm => ∃ (c : Nat), gg = xs.length - c ∧ ((c ≤ xs.length)) ∧ ee = [(9, .int .i64 (sz n.toNat (maskV mask) : Int)), (10, .int .i64 (inK (maskV mask) xs c : Int)), (44, v), (45, .int .i64 (xs.length : Int)), (46, .int .i64 (c : Int)), (1, .int .i64 k), (2, .int .i64 l), (3, .pointer (some ⟨b3, 0, none⟩)), (8, .int .i64 (mask : Int))] ∧ mm = [.cells b3 26 [.int .i64 n, v], .ro v 2 (xs.map bv)]) _ ⟨0, rfl, ?_, rfl, rfl⟩ ?_ ?_ ?_
       · first | omega | trivial | (refine ⟨?_, ?_⟩ <;> first | omega | rfl | simp)
       · exact (Sub.consE rfl (by rw [show j = n.toNat by omega]) (Sub.consE rfl (by rfl) (Sub.consE rfl (by first | rfl | (congr 1; omega) | (simp; done)) (Sub.consE rfl (by first | rfl | (congr 1; omega) | (simp; done)) (Sub.consE rfl (by first | rfl | (congr 1; omega) | (simp; done)) (Sub.consE rfl (by first | rfl | (congr 1; omega) | (simp; done)) (Sub.consE rfl (by first | rfl | (congr 1; omega) | (simp; done)) (Sub.consE rfl (by first | rfl | (congr 1; omega) | (simp; done)) (Sub.consE rfl (by first | rfl | (congr 1; omega) | (simp; done)) .nil)))))))))
       · exact (SubM.cells rfl (by first | rfl | (simp; done)) (SubM.ro rfl (by first | rfl | (simp [iv, bv, yv, tv, sv]; done)) .nil))
       ·
        rintro g _ _ ⟨c, rfl, hC, rfl, rfl⟩
        refine J.seq ?_
        refine J.reg ?_
        refine WL.rd (RD.lss rfl rfl) rfl rfl ?_
        refine WL.nil ?_
        refine JE.seqN ?_
        refine J.seq ?_
        refine J.condP rfl (fun hc47 => ?_) (fun hc47 => ?_)
        ·
         refine J.skip ?_
         refine JE.seqN ?_
         refine J.seq ?_
         refine J.block ?_
         refine J.seq ?_
         refine J.reg ?_
         refine WL.rd (RD.idx rfl rfl (by omega) rfl) rfl rfl ?_
         refine WL.rd (RD.loadEA rfl (by omega) rfl) rfl rfl ?_
         refine WL.efS (EF.allocA) rfl rfl ?_
         intro b13 _
         refine WL.efN (EF.storeA rfl rfl rfl rfl) rfl ?_
         rintro ⟨⟩ -
         refine WL.nil ?_
         refine JE.seqN ?_
         have hgb := gBar hg c (by omega)
         have hm1 : mask / 2 ^ (xs.getD c default).1.toNat ≤ mask := Nat.div_le_self _ _
         have hm2 : mask / 2 ^ (xs.getD c default).2.toNat ≤ mask := Nat.div_le_self _ _
         have hm3 : (mask / 2 ^ (xs.getD c default).1.toNat) &&& (mask / 2 ^ (xs.getD c default).2.toNat) ≤ mask / 2 ^ (xs.getD c default).1.toNat := Nat.and_le_left
         have hik := inK_le (maskV mask) xs c
         refine J.anyAll [] ?_
         refine WA.takeP 0 rfl (RDP.of fun _ => RD.move rfl) rfl (by kernel_rfl) rfl ?_
         refine WA.takeP 1 rfl (RDP.of fun _ => RD.move rfl) rfl (by kernel_rfl) rfl ?_
         refine WA.takeP 2 rfl (RDP.of fun _ => RD.fieldC rfl rfl) rfl (by kernel_rfl) rfl ?_
         refine WA.take 3 rfl (RD.loadC rfl rfl) rfl (by kernel_rfl) rfl ?_
         refine WA.takeP 4 rfl (RDP.of fun _ => RD.shrN (xs.getD c default).1.toNat mask rfl rfl rfl (by omega) (by omega)) rfl (by kernel_rfl) rfl ?_
         refine WA.takeP 5 rfl (RDP.of fun _ => RD.move rfl) rfl (by kernel_rfl) rfl ?_
         refine WA.takeP 6 rfl (RDP.of fun _ => RD.fieldC rfl rfl) rfl (by kernel_rfl) rfl ?_
         refine WA.take 7 rfl (RD.loadC rfl rfl) rfl (by kernel_rfl) rfl ?_
         refine WA.takeP 8 rfl (RDP.of fun _ => RD.shrN (xs.getD c default).2.toNat mask rfl rfl rfl (by omega) (by omega)) rfl (by kernel_rfl) rfl ?_
         refine WA.takeP 9 rfl (RDP.of fun _ => RD.andN (mask / 2 ^ (xs.getD c default).1.toNat) (mask / 2 ^ (xs.getD c default).2.toNat) rfl rfl rfl rfl (by omega) (by omega)) rfl (by kernel_rfl) rfl ?_
         refine WA.takeP 10 rfl (RDP.of fun _ => RD.maskN 1 ((mask / 2 ^ (xs.getD c default).1.toNat) &&& (mask / 2 ^ (xs.getD c default).2.toNat)) rfl rfl rfl rfl (by decide) (by omega)) rfl (by kernel_rfl) rfl ?_
         refine WA.takeP 11 rfl (RDP.of fun _ => RD.add rfl rfl (by omega) (by omega)) rfl (by kernel_rfl) rfl ?_
         refine WA.takeP 12 rfl (RDP.of fun _ => RD.assign rfl) rfl (by kernel_rfl) rfl ?_
         refine WA.done (by kernel_rfl) ?_
         refine JE.blockN ?_
         refine JE.seqN ?_
         refine J.reg ?_
         refine WL.rd (RD.add rfl rfl (by omega) (by omega)) rfl rfl ?_
         refine WL.rd (RD.move rfl) rfl rfl ?_
         refine WL.nil ?_
         refine JE.cutN ⟨_, ?_, c + 1, rfl, ?_, rfl, rfl⟩ ?_ ?_
         · omega
         · first | omega | trivial | (refine ⟨?_, ?_⟩ <;> first | omega | rfl | simp)
         · exact (Sub.consE rfl (by first | rfl | (congr 1; omega) | (simp; done)) (Sub.consE rfl (by rw [inK_succ _ _ _ (by omega), ← inB_bits mask (xs.getD c default) (by omega) (by omega)]; first | rfl | (congr 1; omega)) (Sub.consE rfl (by first | rfl | (congr 1; omega) | (simp; done)) (Sub.consE rfl (by first | rfl | (congr 1; omega) | (simp; done)) (Sub.consE rfl (by first | rfl | (congr 1; omega) | (simp; done)) (Sub.consE rfl (by first | rfl | (congr 1; omega) | (simp; done)) (Sub.consE rfl (by first | rfl | (congr 1; omega) | (simp; done)) (Sub.consE rfl (by first | rfl | (congr 1; omega) | (simp; done)) (Sub.consE rfl (by first | rfl | (congr 1; omega) | (simp; done)) .nil)))))))))
         · exact (SubM.cells rfl (by first | rfl | (simp; done)) (SubM.ro rfl (by first | rfl | (simp [iv, bv, yv, tv, sv]; done)) .nil))
        ·
         refine J.exit ?_
         refine JE.seqX ?_
         refine JE.cutX ?_
         refine JE.blockHit ?_
         refine JE.seqN ?_
         refine J.seq ?_
         have hcx : c = xs.length := by omega
         subst hcx
         have hzl := sz_le n.toNat (maskV mask)
         have hmr := mul_rng (k := k) (n := ((sz n.toNat (maskV mask) : Nat) : Int)) (by omega) (by omega)
         refine J.reg ?_
         refine WL.rd (RD.move rfl) rfl rfl ?_
         refine WL.rd (RD.gtr rfl rfl) rfl rfl ?_
         refine WL.rd (RD.move rfl) rfl rfl ?_
         refine WL.caseP 65 rfl (fun hg65 => ?_) (fun hg65 => ?_)
         ·
          refine WL.rd (RD.move rfl) rfl rfl ?_
          refine WL.rd (RD.move rfl) rfl rfl ?_
          refine WL.rd (RD.move rfl) rfl rfl ?_
          refine WL.rd (RD.mul rfl rfl (by omega) (by omega)) rfl rfl ?_
          refine WL.rd (RD.move rfl) rfl rfl ?_
          refine WL.rd (RD.sub rfl rfl (by omega) (by omega)) rfl rfl ?_
          refine WL.rd (RD.gtr rfl rfl) rfl rfl ?_
          refine WL.rd (RD.pickT rfl rfl) rfl rfl ?_
          refine WL.nil ?_
          refine JE.seqN ?_
          refine J.condP rfl (fun hc73 => ?_) (fun hc73 => ?_)
          ·
           refine J.seq ?_
           refine J.reg ?_
           refine WL.rd (RD.move rfl) rfl rfl ?_
           refine WL.rd (RD.fieldC rfl rfl) rfl rfl ?_
           refine WL.rd (RD.loadC rfl rfl) rfl rfl ?_
           refine WL.efS (EF.callN (.cons rfl (.cons rfl .nil)) (fun w hS => setOf_c _ mask _ (by omega) (by omega))) rfl rfl ?_
           rintro v77 -
           refine WL.rd (RD.assign rfl) rfl rfl ?_
           refine WL.rd (RD.assign rfl) rfl rfl ?_
           refine WL.nil ?_
           refine JE.seqN ?_
           refine J.ret ?_
           refine JE.ret rfl (.tmp rfl (.tmp rfl .nil)) (fun w hS => ?_)
           have hov : overM n k l xs mask := by unfold overM; constructor <;> omega
           have h : ovI n k l xs = some mask := by unfold ovI; rw [if_pos ⟨hg, hrg⟩, ← hI.2.2, ovScan_yes hov (by omega)]
           exact CN.fin hS v77 (by rw [h]; rfl) trivial (SubM.row rfl rfl (by unfold ovL; rw [h]) .nil) (by simp [En.rdb])
          ·
           refine J.skip ?_
           refine JE.blockN ?_
           refine JE.seqN ?_
           refine J.reg ?_
           refine WL.rd (RD.move rfl) rfl rfl ?_
           refine WL.rd (RD.add rfl rfl (by omega) (by omega)) rfl rfl ?_
           refine WL.rd (RD.assign rfl) rfl rfl ?_
           refine WL.nil ?_
           refine JE.cutN ⟨_, ?_, mask + 1, rfl, ?_, rfl, rfl⟩ ?_ ?_
           · omega
           · have hno : ¬ overM n k l xs mask := (by unfold overM; omega); refine ⟨by omega, by omega, ?_⟩; rw [← hI.2.2, ovScan_no hno (by omega), Nat.sub_sub]
           · exact (Sub.consE rfl (by first | rfl | (congr 1; omega) | (simp; done)) (Sub.consE rfl (by first | rfl | (congr 1; omega) | (simp; done)) (Sub.consE rfl (by first | rfl | (congr 1; omega) | (simp; done)) (Sub.consE rfl (by first | rfl | (congr 1; omega) | (simp; done)) .nil))))
           · exact (SubM.cells rfl (by first | rfl | (simp; done)) (SubM.ro rfl (by first | rfl | (simp [iv, bv, yv, tv, sv]; done)) .nil))
         ·
          refine WL.noS rfl rfl ?_
          refine WL.noS rfl rfl ?_
          refine WL.noS rfl rfl ?_
          refine WL.noS rfl rfl ?_
          refine WL.noS rfl rfl ?_
          refine WL.noS rfl rfl ?_
          refine WL.noS rfl rfl ?_
          refine WL.rd (RD.pickF rfl rfl) rfl rfl ?_
          refine WL.nil ?_
          refine JE.seqN ?_
          refine J.condF rfl ?_
          refine J.skip ?_
          refine JE.blockN ?_
          refine JE.seqN ?_
          refine J.reg ?_
          refine WL.rd (RD.move rfl) rfl rfl ?_
          refine WL.rd (RD.add rfl rfl (by omega) (by omega)) rfl rfl ?_
          refine WL.rd (RD.assign rfl) rfl rfl ?_
          refine WL.nil ?_
          refine JE.cutN ⟨_, ?_, mask + 1, rfl, ?_, rfl, rfl⟩ ?_ ?_
          · omega
          · have hno : ¬ overM n k l xs mask := (by unfold overM; omega); refine ⟨by omega, by omega, ?_⟩; rw [← hI.2.2, ovScan_no hno (by omega), Nat.sub_sub]
          · exact (Sub.consE rfl (by first | rfl | (congr 1; omega) | (simp; done)) (Sub.consE rfl (by first | rfl | (congr 1; omega) | (simp; done)) (Sub.consE rfl (by first | rfl | (congr 1; omega) | (simp; done)) (Sub.consE rfl (by first | rfl | (congr 1; omega) | (simp; done)) .nil))))
          · exact (SubM.cells rfl (by first | rfl | (simp; done)) (SubM.ro rfl (by first | rfl | (simp [iv, bv, yv, tv, sv]; done)) .nil))
    ·
     refine J.exit ?_
     refine JE.seqX ?_
     refine JE.cutX ?_
     refine JE.blockHit ?_
     refine JE.seqN ?_
     refine J.seq ?_
     refine J.reg ?_
     refine WL.efS (EF.build0) rfl rfl ?_
     intro v78 _
     refine WL.rd (RD.assign rfl) rfl rfl ?_
     refine WL.rd (RD.assign rfl) rfl rfl ?_
     refine WL.nil ?_
     refine JE.seqN ?_
     refine J.ret ?_
     refine JE.ret rfl (.tmp rfl (.tmp rfl .nil)) (fun w hS => ?_)
     have h : ovI n k l xs = none := by unfold ovI; rw [if_pos ⟨hg, hrg⟩, ← hI.2.2, show 2 ^ n.toNat - mask = 0 by omega]; rfl
     exact CN.fin hS v78 (by rw [h]; rfl) trivial (SubM.row rfl rfl (by unfold ovL; rw [h]; rfl) .nil) (by simp [En.rdb])
theorem iIsSparse_c (n : Int) (v : Value) (xs : List (Int × Int)) (k l : Int) (w : World) (hr : Rd w v 2 (xs.map bv)) (hk : -9223372036854775808 ≤ k ∧ k ≤ 9223372036854775807) (hl : -9223372036854775808 ≤ l ∧ l ≤ 9223372036854775807) :
    CS Try.prog 11 [.agg #[.int .i64 n, v], .int .i64 k, .int .i64 l] w (.bool (decide ((isG n xs ∧ (1 ≤ k ∧ k ≤ 3 ∧ 0 ≤ l ∧ l < 2 * k)) ∧ ovI n k l xs = none))) := by
 refine calls_of_J (mu := (fun _ => False)) (m := [.ro v 2 (xs.map bv)]) (e := [(0, .agg #[.int .i64 n, v]), (1, .int .i64 k), (2, .int .i64 l)]) Try.func11 rfl rfl (.cons rfl (.cons rfl (.cons rfl .nil))) (((St.init _ _).ro0 hr (by decide))) ?_
 refine J.seq ?_
 refine J.reg ?_
 refine WL.efS (EF.boxA rfl) rfl rfl ?_
 intro b3 _
 refine WL.rd (RD.assign rfl) rfl rfl ?_
 refine WL.nil ?_
 refine JE.seqN ?_
 refine J.seq ?_
 refine J.reg ?_
 refine WL.rd (RD.loadA rfl rfl) rfl rfl ?_
 refine WL.rd (RD.move rfl) rfl rfl ?_
 refine WL.rd (RD.move rfl) rfl rfl ?_
 refine WL.efS (EF.callN (.cons rfl (.cons rfl (.cons rfl .nil))) (fun w hS => iOver_c _ _ _ _ _ _ (by exact RdI.rd hS) (by assumption) (by assumption))) rfl rfl ?_
 rintro v13 -
 refine WL.rd (RD.move rfl) rfl rfl ?_
 refine WL.rd (RD.extract rfl rfl) rfl rfl ?_
 refine WL.rd (RD.extract rfl rfl) rfl rfl ?_
 refine WL.rd (RD.assign rfl) rfl rfl ?_
 refine WL.rd (RD.assign rfl) rfl rfl ?_
 refine WL.nil ?_
 refine JE.seqN ?_
 refine J.seq ?_
 refine J.reg ?_
 refine WL.rd (RD.loadA rfl rfl) rfl rfl ?_
 refine WL.efS (EF.callS (.cons rfl .nil) (fun w hS => iIsGraph_c _ _ _ _ (by exact RdI.rd hS))) rfl rfl ?_
 rintro ⟨⟩ -
 refine WL.rd (RD.move rfl) rfl rfl ?_
 refine WL.caseP 18 rfl (fun hg18 => ?_) (fun hg18 => ?_)
 ·
  refine WL.rd (RD.move rfl) rfl rfl ?_
  refine WL.rd (RD.move rfl) rfl rfl ?_
  refine WL.efS (EF.callS (.cons rfl (.cons rfl .nil)) (fun w hS => iIsRange_c _ _ _ (by assumption))) rfl rfl ?_
  rintro ⟨⟩ -
  refine WL.rd (RD.pickT rfl rfl) rfl rfl ?_
  refine WL.rd (RD.move rfl) rfl rfl ?_
  refine WL.caseP 23 rfl (fun hg23 => ?_) (fun hg23 => ?_)
  ·
   refine WL.rd (RD.move rfl) rfl rfl ?_
   refine WL.rd (RD.not rfl) rfl rfl ?_
   refine WL.rd (RD.pickT rfl rfl) rfl rfl ?_
   refine WL.rd (RD.assign rfl) rfl rfl ?_
   refine WL.nil ?_
   refine JE.seqN ?_
   refine J.ret ?_
   refine JE.ret rfl (.tmp rfl .nil) (fun w hS => ?_)
   first | exact CS.fin hS (mk_dec ⟨fun h => ⟨⟨by assumption, by assumption⟩, by simpa using h⟩, fun h => by simpa using h.2⟩) | exact CS.fin hS (mk_false (fun h => by first | exact absurd h.1.1 (by assumption) | exact absurd h.1.2 (by assumption))) | exact CS.fin hS (by cases ho : ovI n k l xs <;> simp_all [mkRes])
  ·
   refine WL.noS rfl rfl ?_
   refine WL.noS rfl rfl ?_
   refine WL.rd (RD.pickF rfl rfl) rfl rfl ?_
   refine WL.rd (RD.assign rfl) rfl rfl ?_
   refine WL.nil ?_
   refine JE.seqN ?_
   refine J.ret ?_
   refine JE.ret rfl (.tmp rfl .nil) (fun w hS => ?_)
   first | exact CS.fin hS (mk_dec ⟨fun h => ⟨⟨by assumption, by assumption⟩, by simpa using h⟩, fun h => by simpa using h.2⟩) | exact CS.fin hS (mk_false (fun h => by first | exact absurd h.1.1 (by assumption) | exact absurd h.1.2 (by assumption))) | exact CS.fin hS (by cases ho : ovI n k l xs <;> simp_all [mkRes])
 ·
  refine WL.noS rfl rfl ?_
  refine WL.noS rfl rfl ?_
  refine WL.noS rfl rfl ?_
  refine WL.rd (RD.pickF rfl rfl) rfl rfl ?_
  refine WL.rd (RD.move rfl) rfl rfl ?_
  refine WL.noS rfl rfl ?_
  refine WL.noS rfl rfl ?_
  refine WL.rd (RD.pickF rfl rfl) rfl rfl ?_
  refine WL.rd (RD.assign rfl) rfl rfl ?_
  refine WL.nil ?_
  refine JE.seqN ?_
  refine J.ret ?_
  refine JE.ret rfl (.tmp rfl .nil) (fun w hS => ?_)
  first | exact CS.fin hS (mk_dec ⟨fun h => ⟨⟨by assumption, by assumption⟩, by simpa using h⟩, fun h => by simpa using h.2⟩) | exact CS.fin hS (mk_false (fun h => by first | exact absurd h.1.1 (by assumption) | exact absurd h.1.2 (by assumption))) | exact CS.fin hS (by cases ho : ovI n k l xs <;> simp_all [mkRes])
theorem sIsSparse_c (n : Int) (v : Value) (xs : List (Int × Int)) (k l : Int) (w : World) (hr : Rd w v 2 (xs.map bv)) (hk : -9223372036854775808 ≤ k ∧ k ≤ 9223372036854775807) (hl : -9223372036854775808 ≤ l ∧ l ≤ 9223372036854775807) :
    CS Try.prog 13 [.agg #[.int .i64 n, v], .int .i64 k, .int .i64 l] w (.bool (decide ((isG n xs ∧ (1 ≤ k ∧ k ≤ 3 ∧ 0 ≤ l ∧ l < 2 * k)) ∧ ovI n k l xs = none))) := by
 refine calls_of_J (mu := (fun _ => False)) (m := [.ro v 2 (xs.map bv)]) (e := [(0, .agg #[.int .i64 n, v]), (1, .int .i64 k), (2, .int .i64 l)]) Try.func13 rfl rfl (.cons rfl (.cons rfl (.cons rfl .nil))) (((St.init _ _).ro0 hr (by decide))) ?_
 refine J.seq ?_
 refine J.reg ?_
 refine WL.efS (EF.boxA rfl) rfl rfl ?_
 intro b3 _
 refine WL.rd (RD.assign rfl) rfl rfl ?_
 refine WL.nil ?_
 refine JE.seqN ?_
 refine J.seq ?_
 refine J.reg ?_
 refine WL.rd (RD.loadA rfl rfl) rfl rfl ?_
 refine WL.rd (RD.move rfl) rfl rfl ?_
 refine WL.rd (RD.move rfl) rfl rfl ?_
 refine WL.efS (EF.callN (.cons rfl (.cons rfl (.cons rfl .nil))) (fun w hS => sOver_c _ _ _ _ _ _ (by exact RdI.rd hS) (by assumption) (by assumption))) rfl rfl ?_
 rintro v13 -
 refine WL.rd (RD.move rfl) rfl rfl ?_
 refine WL.rd (RD.extract rfl rfl) rfl rfl ?_
 refine WL.rd (RD.extract rfl rfl) rfl rfl ?_
 refine WL.rd (RD.assign rfl) rfl rfl ?_
 refine WL.rd (RD.assign rfl) rfl rfl ?_
 refine WL.nil ?_
 refine JE.seqN ?_
 refine J.seq ?_
 refine J.reg ?_
 refine WL.rd (RD.loadA rfl rfl) rfl rfl ?_
 refine WL.efS (EF.callS (.cons rfl .nil) (fun w hS => sIsGraph_c _ _ _ _ (by exact RdI.rd hS))) rfl rfl ?_
 rintro ⟨⟩ -
 refine WL.rd (RD.move rfl) rfl rfl ?_
 refine WL.caseP 18 rfl (fun hg18 => ?_) (fun hg18 => ?_)
 ·
  refine WL.rd (RD.move rfl) rfl rfl ?_
  refine WL.rd (RD.move rfl) rfl rfl ?_
  refine WL.efS (EF.callS (.cons rfl (.cons rfl .nil)) (fun w hS => sIsRange_c _ _ _ (by assumption))) rfl rfl ?_
  rintro ⟨⟩ -
  refine WL.rd (RD.pickT rfl rfl) rfl rfl ?_
  refine WL.rd (RD.move rfl) rfl rfl ?_
  refine WL.caseP 23 rfl (fun hg23 => ?_) (fun hg23 => ?_)
  ·
   refine WL.rd (RD.move rfl) rfl rfl ?_
   refine WL.rd (RD.not rfl) rfl rfl ?_
   refine WL.rd (RD.pickT rfl rfl) rfl rfl ?_
   refine WL.rd (RD.assign rfl) rfl rfl ?_
   refine WL.nil ?_
   refine JE.seqN ?_
   refine J.ret ?_
   refine JE.ret rfl (.tmp rfl .nil) (fun w hS => ?_)
   first | exact CS.fin hS (mk_dec ⟨fun h => ⟨⟨by assumption, by assumption⟩, by simpa using h⟩, fun h => by simpa using h.2⟩) | exact CS.fin hS (mk_false (fun h => by first | exact absurd h.1.1 (by assumption) | exact absurd h.1.2 (by assumption))) | exact CS.fin hS (by cases ho : ovI n k l xs <;> simp_all [mkRes])
  ·
   refine WL.noS rfl rfl ?_
   refine WL.noS rfl rfl ?_
   refine WL.rd (RD.pickF rfl rfl) rfl rfl ?_
   refine WL.rd (RD.assign rfl) rfl rfl ?_
   refine WL.nil ?_
   refine JE.seqN ?_
   refine J.ret ?_
   refine JE.ret rfl (.tmp rfl .nil) (fun w hS => ?_)
   first | exact CS.fin hS (mk_dec ⟨fun h => ⟨⟨by assumption, by assumption⟩, by simpa using h⟩, fun h => by simpa using h.2⟩) | exact CS.fin hS (mk_false (fun h => by first | exact absurd h.1.1 (by assumption) | exact absurd h.1.2 (by assumption))) | exact CS.fin hS (by cases ho : ovI n k l xs <;> simp_all [mkRes])
 ·
  refine WL.noS rfl rfl ?_
  refine WL.noS rfl rfl ?_
  refine WL.noS rfl rfl ?_
  refine WL.rd (RD.pickF rfl rfl) rfl rfl ?_
  refine WL.rd (RD.move rfl) rfl rfl ?_
  refine WL.noS rfl rfl ?_
  refine WL.noS rfl rfl ?_
  refine WL.rd (RD.pickF rfl rfl) rfl rfl ?_
  refine WL.rd (RD.assign rfl) rfl rfl ?_
  refine WL.nil ?_
  refine JE.seqN ?_
  refine J.ret ?_
  refine JE.ret rfl (.tmp rfl .nil) (fun w hS => ?_)
  first | exact CS.fin hS (mk_dec ⟨fun h => ⟨⟨by assumption, by assumption⟩, by simpa using h⟩, fun h => by simpa using h.2⟩) | exact CS.fin hS (mk_false (fun h => by first | exact absurd h.1.1 (by assumption) | exact absurd h.1.2 (by assumption))) | exact CS.fin hS (by cases ho : ovI n k l xs <;> simp_all [mkRes])
theorem iIsTight_c (n : Int) (v : Value) (xs : List (Int × Int)) (k l : Int) (w : World) (hr : Rd w v 2 (xs.map bv)) (hk : -9223372036854775808 ≤ k ∧ k ≤ 9223372036854775807) (hl : -9223372036854775808 ≤ l ∧ l ≤ 9223372036854775807) :
    CS Try.prog 14 [.agg #[.int .i64 n, v], .int .i64 k, .int .i64 l] w (.bool (decide (((isG n xs ∧ (1 ≤ k ∧ k ≤ 3 ∧ 0 ≤ l ∧ l < 2 * k)) ∧ ovI n k l xs = none) ∧ (xs.length : Int) = max 0 (k * n - l)))) := by
 have hl_xs : xs.length ≤ 9223372036854775807 := (by obtain ⟨_, _, _, hh, _⟩ := hr.shape; simpa using hh)
 refine calls_of_J (mu := (fun _ => False)) (m := [.ro v 2 (xs.map bv)]) (e := [(0, .agg #[.int .i64 n, v]), (1, .int .i64 k), (2, .int .i64 l)]) Try.func14 rfl rfl (.cons rfl (.cons rfl (.cons rfl .nil))) (((St.init _ _).ro0 hr (by decide))) ?_
 refine J.seq ?_
 refine J.reg ?_
 refine WL.efS (EF.boxA rfl) rfl rfl ?_
 intro b3 _
 refine WL.rd (RD.assign rfl) rfl rfl ?_
 refine WL.nil ?_
 refine JE.seqN ?_
 refine J.seq ?_
 refine J.reg ?_
 refine WL.rd (RD.loadA rfl rfl) rfl rfl ?_
 refine WL.rd (RD.move rfl) rfl rfl ?_
 refine WL.rd (RD.move rfl) rfl rfl ?_
 refine WL.efS (EF.callS (.cons rfl (.cons rfl (.cons rfl .nil))) (fun w hS => iIsSparse_c _ _ _ _ _ _ (by exact RdI.rd hS) (by assumption) (by assumption))) rfl rfl ?_
 rintro ⟨⟩ -
 refine WL.rd (RD.move rfl) rfl rfl ?_
 refine WL.caseP 11 rfl (fun hg11 => ?_) (fun hg11 => ?_)
 ·
  refine WL.rd (RD.fieldC rfl rfl) rfl rfl ?_
  refine WL.rd (RD.loadC rfl rfl) rfl rfl ?_
  refine WL.rd (RD.lenR rfl) rfl rfl ?_
  refine WL.rd (RD.move rfl) rfl rfl ?_
  refine WL.rd (RD.fieldC rfl rfl) rfl rfl ?_
  refine WL.rd (RD.loadC rfl rfl) rfl rfl ?_
  have hgg := hg11.1.1
  have h12 := hgg.1
  have h13 := hgg.2.1
  have hrg := hg11.1.2
  have hmr := mul_rng (k := k) (n := n) (by omega) (by omega)
  refine WL.rd (RD.mul rfl rfl (by omega) (by omega)) rfl rfl ?_
  refine WL.rd (RD.move rfl) rfl rfl ?_
  refine WL.rd (RD.sub rfl rfl (by omega) (by omega)) rfl rfl ?_
  refine WL.rd (RD.max rfl rfl) rfl rfl ?_
  refine WL.rd (RD.eql rfl rfl) rfl rfl ?_
  refine WL.rd (RD.pickT rfl rfl) rfl rfl ?_
  refine WL.rd (RD.assign rfl) rfl rfl ?_
  refine WL.nil ?_
  refine JE.seqN ?_
  refine J.ret ?_
  refine JE.ret rfl (.tmp rfl .nil) (fun w hS => ?_)
  first | exact CS.fin hS (mk_dec ⟨fun h => ⟨by assumption, h⟩, fun h => h.2⟩) | exact CS.fin hS (mk_false (fun h => absurd h.1 (by assumption)))
 ·
  refine WL.noS rfl rfl ?_
  refine WL.noS rfl rfl ?_
  refine WL.noS rfl rfl ?_
  refine WL.noS rfl rfl ?_
  refine WL.noS rfl rfl ?_
  refine WL.noS rfl rfl ?_
  refine WL.noS rfl rfl ?_
  refine WL.noS rfl rfl ?_
  refine WL.noS rfl rfl ?_
  refine WL.noS rfl rfl ?_
  refine WL.noS rfl rfl ?_
  refine WL.rd (RD.pickF rfl rfl) rfl rfl ?_
  refine WL.rd (RD.assign rfl) rfl rfl ?_
  refine WL.nil ?_
  refine JE.seqN ?_
  refine J.ret ?_
  refine JE.ret rfl (.tmp rfl .nil) (fun w hS => ?_)
  first | exact CS.fin hS (mk_dec ⟨fun h => ⟨by assumption, h⟩, fun h => h.2⟩) | exact CS.fin hS (mk_false (fun h => absurd h.1 (by assumption)))
theorem sIsTight_c (n : Int) (v : Value) (xs : List (Int × Int)) (k l : Int) (w : World) (hr : Rd w v 2 (xs.map bv)) (hk : -9223372036854775808 ≤ k ∧ k ≤ 9223372036854775807) (hl : -9223372036854775808 ≤ l ∧ l ≤ 9223372036854775807) :
    CS Try.prog 15 [.agg #[.int .i64 n, v], .int .i64 k, .int .i64 l] w (.bool (decide (((isG n xs ∧ (1 ≤ k ∧ k ≤ 3 ∧ 0 ≤ l ∧ l < 2 * k)) ∧ ovI n k l xs = none) ∧ (xs.length : Int) = max 0 (k * n - l)))) := by
 have hl_xs : xs.length ≤ 9223372036854775807 := (by obtain ⟨_, _, _, hh, _⟩ := hr.shape; simpa using hh)
 refine calls_of_J (mu := (fun _ => False)) (m := [.ro v 2 (xs.map bv)]) (e := [(0, .agg #[.int .i64 n, v]), (1, .int .i64 k), (2, .int .i64 l)]) Try.func15 rfl rfl (.cons rfl (.cons rfl (.cons rfl .nil))) (((St.init _ _).ro0 hr (by decide))) ?_
 refine J.seq ?_
 refine J.reg ?_
 refine WL.efS (EF.boxA rfl) rfl rfl ?_
 intro b3 _
 refine WL.rd (RD.assign rfl) rfl rfl ?_
 refine WL.nil ?_
 refine JE.seqN ?_
 refine J.seq ?_
 refine J.reg ?_
 refine WL.rd (RD.loadA rfl rfl) rfl rfl ?_
 refine WL.rd (RD.move rfl) rfl rfl ?_
 refine WL.rd (RD.move rfl) rfl rfl ?_
 refine WL.efS (EF.callS (.cons rfl (.cons rfl (.cons rfl .nil))) (fun w hS => sIsSparse_c _ _ _ _ _ _ (by exact RdI.rd hS) (by assumption) (by assumption))) rfl rfl ?_
 rintro ⟨⟩ -
 refine WL.rd (RD.move rfl) rfl rfl ?_
 refine WL.caseP 11 rfl (fun hg11 => ?_) (fun hg11 => ?_)
 ·
  refine WL.rd (RD.fieldC rfl rfl) rfl rfl ?_
  refine WL.rd (RD.loadC rfl rfl) rfl rfl ?_
  refine WL.rd (RD.lenR rfl) rfl rfl ?_
  refine WL.rd (RD.move rfl) rfl rfl ?_
  refine WL.rd (RD.fieldC rfl rfl) rfl rfl ?_
  refine WL.rd (RD.loadC rfl rfl) rfl rfl ?_
  have hgg := hg11.1.1
  have h12 := hgg.1
  have h13 := hgg.2.1
  have hrg := hg11.1.2
  have hmr := mul_rng (k := k) (n := n) (by omega) (by omega)
  refine WL.rd (RD.mul rfl rfl (by omega) (by omega)) rfl rfl ?_
  refine WL.rd (RD.move rfl) rfl rfl ?_
  refine WL.rd (RD.sub rfl rfl (by omega) (by omega)) rfl rfl ?_
  refine WL.rd (RD.max rfl rfl) rfl rfl ?_
  refine WL.rd (RD.eql rfl rfl) rfl rfl ?_
  refine WL.rd (RD.pickT rfl rfl) rfl rfl ?_
  refine WL.rd (RD.assign rfl) rfl rfl ?_
  refine WL.nil ?_
  refine JE.seqN ?_
  refine J.ret ?_
  refine JE.ret rfl (.tmp rfl .nil) (fun w hS => ?_)
  first | exact CS.fin hS (mk_dec ⟨fun h => ⟨by assumption, h⟩, fun h => h.2⟩) | exact CS.fin hS (mk_false (fun h => absurd h.1 (by assumption)))
 ·
  refine WL.noS rfl rfl ?_
  refine WL.noS rfl rfl ?_
  refine WL.noS rfl rfl ?_
  refine WL.noS rfl rfl ?_
  refine WL.noS rfl rfl ?_
  refine WL.noS rfl rfl ?_
  refine WL.noS rfl rfl ?_
  refine WL.noS rfl rfl ?_
  refine WL.noS rfl rfl ?_
  refine WL.noS rfl rfl ?_
  refine WL.noS rfl rfl ?_
  refine WL.rd (RD.pickF rfl rfl) rfl rfl ?_
  refine WL.rd (RD.assign rfl) rfl rfl ?_
  refine WL.nil ?_
  refine JE.seqN ?_
  refine J.ret ?_
  refine JE.ret rfl (.tmp rfl .nil) (fun w hS => ?_)
  first | exact CS.fin hS (mk_dec ⟨fun h => ⟨by assumption, h⟩, fun h => h.2⟩) | exact CS.fin hS (mk_false (fun h => absurd h.1 (by assumption)))

end Go.Proofs.Ytlcijjkbgcllfaa
