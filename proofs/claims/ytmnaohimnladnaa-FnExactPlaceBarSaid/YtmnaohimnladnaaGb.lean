/- Contracts of functions of the program, each walked once; written by a program of our own. -/
import Derived.Test.YtmnaohimnladnaaGa
import Derived.Test.YtmnaohimnladnaaCh
import Derived.Test.YtmnaohimnladnaaMh
namespace Go.Proofs.Ytmnaohimnladnaa
open Go Go.RowKit
set_option maxRecDepth 4000

theorem compareInts_c (a b : Int) (w : World) :
    CS Try.prog 94 [.int .i64 a, .int .i64 b] w (.int .i64 (cmpI a b)) := by
  refine calls_of_J (mu := (fun _ => False)) (m := []) (e := [(0, .int .i64 a), (1, .int .i64 b)]) Try.func94 rfl rfl (.cons rfl (.cons rfl .nil)) (St.init _ _) ?_
  refine J.seq ?_
  refine J.reg ?_
  refine WL.rd (RD.assign rfl) rfl rfl ?_
  refine WL.nil ?_
  refine JE.seqN ?_
  refine J.seq ?_
  refine J.block ?_
  refine J.seq ?_
  refine J.reg ?_
  refine WL.rd (RD.move rfl) rfl rfl ?_
  refine WL.rd (RD.move rfl) rfl rfl ?_
  refine WL.rd (RD.lss rfl rfl) rfl rfl ?_
  refine WL.rd (RD.assign rfl) rfl rfl ?_
  refine WL.nil ?_
  refine JE.seqN ?_
  refine J.condP rfl (fun hc5 => ?_) (fun hc5 => ?_)
  ·
    refine J.seq ?_
    refine J.reg ?_
    refine WL.rd (RD.assign rfl) rfl rfl ?_
    refine WL.nil ?_
    refine JE.seqN ?_
    refine J.ret ?_
    refine JE.ret rfl (.tmp rfl .nil) (fun w hS => ?_)
    exact CS.fin hS (by unfold cmpI; rw [if_pos (by omega)]; rfl)
  ·
    refine J.seq ?_
    refine J.reg ?_
    refine WL.rd (RD.move rfl) rfl rfl ?_
    refine WL.rd (RD.move rfl) rfl rfl ?_
    refine WL.rd (RD.gtr rfl rfl) rfl rfl ?_
    refine WL.rd (RD.assign rfl) rfl rfl ?_
    refine WL.nil ?_
    refine JE.seqN ?_
    refine J.condP rfl (fun hc9 => ?_) (fun hc9 => ?_)
    ·
      refine J.seq ?_
      refine J.reg ?_
      refine WL.rd (RD.assign rfl) rfl rfl ?_
      refine WL.nil ?_
      refine JE.seqN ?_
      refine J.ret ?_
      refine JE.ret rfl (.tmp rfl .nil) (fun w hS => ?_)
      exact CS.fin hS (by unfold cmpI; rw [if_neg (by omega), if_pos (by omega)]; rfl)
    ·
      refine J.skip ?_
      refine JE.blockN ?_
      refine JE.seqN ?_
      refine J.seq ?_
      refine J.reg ?_
      refine WL.rd (RD.assign rfl) rfl rfl ?_
      refine WL.nil ?_
      refine JE.seqN ?_
      refine J.ret ?_
      refine JE.ret rfl (.tmp rfl .nil) (fun w hS => ?_)
      exact CS.fin hS (by unfold cmpI; rw [if_neg (by omega), if_neg (by omega)]; rfl)
theorem compareBars_c (x y : Int × Int) (w : World) :
    CS Try.prog 74 [.agg (bv x).toArray, .agg (bv y).toArray] w (.int .i64 (cmpB x y)) := by
  refine calls_of_J (mu := (fun _ => False)) (m := []) (e := [(0, .agg (bv x).toArray), (1, .agg (bv y).toArray)]) Try.func74 rfl rfl (.cons rfl (.cons rfl .nil)) (St.init _ _) ?_
  refine J.seq ?_
  refine J.reg ?_
  refine WL.efS (EF.boxA rfl) rfl rfl ?_
  intro b2 _
  refine WL.efS (EF.boxA rfl) rfl rfl ?_
  intro b3 _
  refine WL.rd (RD.assign rfl) rfl rfl ?_
  refine WL.nil ?_
  refine JE.seqN ?_
  refine J.seq ?_
  refine J.seq ?_
  refine J.reg ?_
  refine WL.rd (RD.fieldC rfl rfl) rfl rfl ?_
  refine WL.rd (RD.loadC rfl rfl) rfl rfl ?_
  refine WL.rd (RD.fieldC rfl rfl) rfl rfl ?_
  refine WL.rd (RD.loadC rfl rfl) rfl rfl ?_
  refine WL.efS (EF.callS (.cons rfl (.cons rfl .nil)) (fun w hS => compareInts_c _ _ _)) rfl rfl ?_
  rintro ⟨⟩ -
  refine WL.rd (RD.assign rfl) rfl rfl ?_
  refine WL.nil ?_
  refine JE.seqN ?_
  refine J.seq ?_
  refine J.reg ?_
  refine WL.rd (RD.move rfl) rfl rfl ?_
  refine WL.rd (RD.neq rfl rfl) rfl rfl ?_
  refine WL.nil ?_
  refine JE.seqN ?_
  refine J.condP rfl (fun hc12 => ?_) (fun hc12 => ?_)
  ·
    refine J.seq ?_
    refine J.reg ?_
    refine WL.rd (RD.move rfl) rfl rfl ?_
    refine WL.rd (RD.assign rfl) rfl rfl ?_
    refine WL.nil ?_
    refine JE.seqN ?_
    refine J.ret ?_
    refine JE.ret rfl (.tmp rfl .nil) (fun w hS => ?_)
    exact CS.fin hS (by unfold cmpB; rw [if_pos hc12]; rfl)
  ·
    refine J.skip ?_
    refine JE.seqN ?_
    refine J.seq ?_
    refine J.reg ?_
    refine WL.rd (RD.fieldC rfl rfl) rfl rfl ?_
    refine WL.rd (RD.loadC rfl rfl) rfl rfl ?_
    refine WL.rd (RD.fieldC rfl rfl) rfl rfl ?_
    refine WL.rd (RD.loadC rfl rfl) rfl rfl ?_
    refine WL.efS (EF.callS (.cons rfl (.cons rfl .nil)) (fun w hS => compareInts_c _ _ _)) rfl rfl ?_
    rintro ⟨⟩ -
    refine WL.rd (RD.assign rfl) rfl rfl ?_
    refine WL.nil ?_
    refine JE.seqN ?_
    refine J.ret ?_
    refine JE.ret rfl (.tmp rfl .nil) (fun w hS => ?_)
    exact CS.fin hS (by unfold cmpB; rw [if_neg hc12]; rfl)
theorem l2After_c (x y : Int × Int) (w : World) :
    CS Try.prog 83 [.agg (bv x).toArray, .agg (bv y).toArray] w (.bool (decide (leB x y))) := by
  refine calls_of_J (mu := (fun _ => False)) (m := []) (e := [(0, .agg (bv x).toArray), (1, .agg (bv y).toArray)]) Try.func83 rfl rfl (.cons rfl (.cons rfl .nil)) (St.init _ _) ?_
  refine J.seq ?_
  refine J.reg ?_
  refine WL.efS (EF.boxA rfl) rfl rfl ?_
  intro b2 _
  refine WL.efS (EF.boxA rfl) rfl rfl ?_
  intro b3 _
  refine WL.rd (RD.assign rfl) rfl rfl ?_
  refine WL.nil ?_
  refine JE.seqN ?_
  refine J.seq ?_
  refine J.reg ?_
  refine WL.rd (RD.fieldC rfl rfl) rfl rfl ?_
  refine WL.rd (RD.loadC rfl rfl) rfl rfl ?_
  refine WL.rd (RD.fieldC rfl rfl) rfl rfl ?_
  refine WL.rd (RD.loadC rfl rfl) rfl rfl ?_
  refine WL.rd (RD.lss rfl rfl) rfl rfl ?_
  refine WL.rd (RD.move rfl) rfl rfl ?_
  refine WL.caseP 10 rfl (fun hg10 => ?_) (fun hg10 => ?_)
  ·
    refine WL.noS rfl rfl ?_
    refine WL.noS rfl rfl ?_
    refine WL.noS rfl rfl ?_
    refine WL.noS rfl rfl ?_
    refine WL.noS rfl rfl ?_
    refine WL.noS rfl rfl ?_
    refine WL.noS rfl rfl ?_
    refine WL.noS rfl rfl ?_
    refine WL.noS rfl rfl ?_
    refine WL.noS rfl rfl ?_
    refine WL.noS rfl rfl ?_
    refine WL.noS rfl rfl ?_
    refine WL.rd (RD.pickT rfl rfl) rfl rfl ?_
    refine WL.rd (RD.assign rfl) rfl rfl ?_
    refine WL.nil ?_
    refine JE.seqN ?_
    refine J.ret ?_
    refine JE.ret rfl (.tmp rfl .nil) (fun w hS => ?_)
    first | exact CS.fin hS (mk_dec (by unfold leB; omega)) | exact CS.fin hS (mk_true (by unfold leB; omega)) | exact CS.fin hS (mk_false (by unfold leB; omega))
  ·
    refine WL.rd (RD.fieldC rfl rfl) rfl rfl ?_
    refine WL.rd (RD.loadC rfl rfl) rfl rfl ?_
    refine WL.rd (RD.fieldC rfl rfl) rfl rfl ?_
    refine WL.rd (RD.loadC rfl rfl) rfl rfl ?_
    refine WL.rd (RD.eql rfl rfl) rfl rfl ?_
    refine WL.rd (RD.move rfl) rfl rfl ?_
    refine WL.caseP 16 rfl (fun hg16 => ?_) (fun hg16 => ?_)
    ·
      refine WL.rd (RD.fieldC rfl rfl) rfl rfl ?_
      refine WL.rd (RD.loadC rfl rfl) rfl rfl ?_
      refine WL.rd (RD.fieldC rfl rfl) rfl rfl ?_
      refine WL.rd (RD.loadC rfl rfl) rfl rfl ?_
      refine WL.rd (RD.leq rfl rfl) rfl rfl ?_
      refine WL.rd (RD.pickT rfl rfl) rfl rfl ?_
      refine WL.rd (RD.pickF rfl rfl) rfl rfl ?_
      refine WL.rd (RD.assign rfl) rfl rfl ?_
      refine WL.nil ?_
      refine JE.seqN ?_
      refine J.ret ?_
      refine JE.ret rfl (.tmp rfl .nil) (fun w hS => ?_)
      first | exact CS.fin hS (mk_dec (by unfold leB; omega)) | exact CS.fin hS (mk_true (by unfold leB; omega)) | exact CS.fin hS (mk_false (by unfold leB; omega))
    ·
      refine WL.noS rfl rfl ?_
      refine WL.noS rfl rfl ?_
      refine WL.noS rfl rfl ?_
      refine WL.noS rfl rfl ?_
      refine WL.noS rfl rfl ?_
      refine WL.rd (RD.pickF rfl rfl) rfl rfl ?_
      refine WL.rd (RD.pickF rfl rfl) rfl rfl ?_
      refine WL.rd (RD.assign rfl) rfl rfl ?_
      refine WL.nil ?_
      refine JE.seqN ?_
      refine J.ret ?_
      refine JE.ret rfl (.tmp rfl .nil) (fun w hS => ?_)
      first | exact CS.fin hS (mk_dec (by unfold leB; omega)) | exact CS.fin hS (mk_true (by unfold leB; omega)) | exact CS.fin hS (mk_false (by unfold leB; omega))
theorem barHas_c (x : Int × Int) (p : Int) (w : World) :
    CS Try.prog 90 [.agg (bv x).toArray, .int .i64 p] w (.bool (decide (x.1 = p ∨ x.2 = p))) := by
  refine calls_of_J (mu := (fun _ => False)) (m := []) (e := [(0, .agg (bv x).toArray), (1, .int .i64 p)]) Try.func90 rfl rfl (.cons rfl (.cons rfl .nil)) (St.init _ _) ?_
  refine J.seq ?_
  refine J.reg ?_
  refine WL.efS (EF.boxA rfl) rfl rfl ?_
  intro b2 _
  refine WL.rd (RD.assign rfl) rfl rfl ?_
  refine WL.nil ?_
  refine JE.seqN ?_
  refine J.seq ?_
  refine J.reg ?_
  refine WL.rd (RD.fieldC rfl rfl) rfl rfl ?_
  refine WL.rd (RD.loadC rfl rfl) rfl rfl ?_
  refine WL.rd (RD.move rfl) rfl rfl ?_
  refine WL.rd (RD.eql rfl rfl) rfl rfl ?_
  refine WL.rd (RD.move rfl) rfl rfl ?_
  refine WL.caseP 9 rfl (fun hg9 => ?_) (fun hg9 => ?_)
  ·
    refine WL.noS rfl rfl ?_
    refine WL.noS rfl rfl ?_
    refine WL.noS rfl rfl ?_
    refine WL.noS rfl rfl ?_
    refine WL.rd (RD.pickT rfl rfl) rfl rfl ?_
    refine WL.rd (RD.assign rfl) rfl rfl ?_
    refine WL.nil ?_
    refine JE.seqN ?_
    refine J.ret ?_
    refine JE.ret rfl (.tmp rfl .nil) (fun w hS => ?_)
    first | exact CS.fin hS (mk_dec (by omega)) | exact CS.fin hS (mk_true (by omega)) | exact CS.fin hS (mk_false (by omega))
  ·
    refine WL.rd (RD.fieldC rfl rfl) rfl rfl ?_
    refine WL.rd (RD.loadC rfl rfl) rfl rfl ?_
    refine WL.rd (RD.move rfl) rfl rfl ?_
    refine WL.rd (RD.eql rfl rfl) rfl rfl ?_
    refine WL.rd (RD.pickF rfl rfl) rfl rfl ?_
    refine WL.rd (RD.assign rfl) rfl rfl ?_
    refine WL.nil ?_
    refine JE.seqN ?_
    refine J.ret ?_
    refine JE.ret rfl (.tmp rfl .nil) (fun w hS => ?_)
    first | exact CS.fin hS (mk_dec (by omega)) | exact CS.fin hS (mk_true (by omega)) | exact CS.fin hS (mk_false (by omega))
theorem graphHas_c (n : Int) (v : Value) (p : Int) (w : World) (hn : 0 ≤ n ∧ n ≤ 1000) :
    CS Try.prog 71 [.agg #[.int .i64 n, v], .int .i64 p] w (.bool (decide (0 ≤ p ∧ p ≤ n - 1))) := by
  refine calls_of_J (mu := (fun _ => False)) (m := []) (e := [(0, .agg #[.int .i64 n, v]), (1, .int .i64 p)]) Try.func71 rfl rfl (.cons rfl (.cons rfl .nil)) (St.init _ _) ?_
  refine J.seq ?_
  refine J.reg ?_
  refine WL.efS (EF.boxA rfl) rfl rfl ?_
  intro b2 _
  refine WL.rd (RD.assign rfl) rfl rfl ?_
  refine WL.nil ?_
  refine JE.seqN ?_
  refine J.seq ?_
  refine J.reg ?_
  refine WL.rd (RD.move rfl) rfl rfl ?_
  refine WL.rd (RD.fieldC rfl rfl) rfl rfl ?_
  refine WL.rd (RD.loadC rfl rfl) rfl rfl ?_
  refine WL.rd (RD.sub rfl rfl (by omega) (by omega)) rfl rfl ?_
  refine WL.efS (EF.callS (.cons rfl (.cons rfl (.cons rfl .nil))) (fun w hS => within_c _ _ _ _)) rfl rfl ?_
  rintro ⟨⟩ -
  refine WL.rd (RD.assign rfl) rfl rfl ?_
  refine WL.nil ?_
  refine JE.seqN ?_
  refine J.ret ?_
  refine JE.ret rfl (.tmp rfl .nil) (fun w hS => ?_)
  exact CS.fin hS rfl
theorem iIsGraph_c (n : Int) (v : Value) (xs : List (Int × Int)) (w : World) (hr : Rd w v 2 (xs.map bv)) :
    CS Try.prog 46 [.agg #[.int .i64 n, v]] w (.bool (decide (isG n xs))) := by
  have hl_xs : xs.length ≤ 9223372036854775807 := (by obtain ⟨_, _, _, hh, _⟩ := hr.shape; simpa using hh)
  refine calls_of_J (mu := (fun _ => False)) (m := [.ro v 2 (xs.map bv)]) (e := [(0, .agg #[.int .i64 n, v])]) Try.func46 rfl rfl (.cons rfl .nil) (((St.init _ _).ro0 hr (by decide))) ?_
  refine J.seq ?_
  refine J.reg ?_
  refine WL.efS (EF.boxA rfl) rfl rfl ?_
  intro b1 _
  refine WL.rd (RD.assign rfl) rfl rfl ?_
  refine WL.nil ?_
  refine JE.seqN ?_
  refine J.seq ?_
  refine J.seq ?_
  refine J.reg ?_
  refine WL.rd (RD.fieldC rfl rfl) rfl rfl ?_
  refine WL.rd (RD.loadC rfl rfl) rfl rfl ?_
  refine WL.efS (EF.callS (.cons rfl (.cons rfl (.cons rfl .nil))) (fun w hS => within_c _ _ _ _)) rfl rfl ?_
  rintro ⟨⟩ -
  refine WL.rd (RD.notP rfl) rfl rfl ?_
  refine WL.rd (RD.move rfl) rfl rfl ?_
  refine WL.caseP 9 rfl (fun hg9 => ?_) (fun hg9 => ?_)
  ·
    refine WL.noS rfl rfl ?_
    refine WL.noS rfl rfl ?_
    refine WL.noS rfl rfl ?_
    refine WL.noS rfl rfl ?_
    refine WL.rd (RD.pickT rfl rfl) rfl rfl ?_
    refine WL.nil ?_
    refine JE.seqN ?_
    refine J.condT rfl ?_
    refine J.seq ?_
    refine J.reg ?_
    refine WL.rd (RD.assign rfl) rfl rfl ?_
    refine WL.nil ?_
    refine JE.seqN ?_
    refine J.ret ?_
    refine JE.ret rfl (.tmp rfl .nil) (fun w hS => ?_)
    first | (exact CS.fin hS (mk_false (fun h => by obtain ⟨h1, h2, h3, _⟩ := h; omega))) | (exact CS.fin hS (mk_false (fun h => by obtain ⟨h1, h2, h3, h4⟩ := h.2.2.2 k (by omega); first | omega | (have h5 := hle.2 (h4 (by omega)); omega) | exact absurd (h4 (by omega)) (by assumption)))) | (exact CS.fin hS (mk_true ⟨by omega, by omega, by omega, fun j hj => hI.1 j (by omega)⟩))
  ·
    refine WL.rd (RD.fieldC rfl rfl) rfl rfl ?_
    refine WL.rd (RD.loadC rfl rfl) rfl rfl ?_
    refine WL.rd (RD.lenR rfl) rfl rfl ?_
    refine WL.rd (RD.gtr rfl rfl) rfl rfl ?_
    refine WL.rd (RD.pickF rfl rfl) rfl rfl ?_
    refine WL.nil ?_
    refine JE.seqN ?_
    refine J.condP rfl (fun hc14 => ?_) (fun hc14 => ?_)
    ·
      refine J.seq ?_
      refine J.reg ?_
      refine WL.rd (RD.assign rfl) rfl rfl ?_
      refine WL.nil ?_
      refine JE.seqN ?_
      refine J.ret ?_
      refine JE.ret rfl (.tmp rfl .nil) (fun w hS => ?_)
      first | (exact CS.fin hS (mk_false (fun h => by obtain ⟨h1, h2, h3, _⟩ := h; omega))) | (exact CS.fin hS (mk_false (fun h => by obtain ⟨h1, h2, h3, h4⟩ := h.2.2.2 k (by omega); first | omega | (have h5 := hle.2 (h4 (by omega)); omega) | exact absurd (h4 (by omega)) (by assumption)))) | (exact CS.fin hS (mk_true ⟨by omega, by omega, by omega, fun j hj => hI.1 j (by omega)⟩))
    ·
      refine J.skip ?_
      refine JE.seqN ?_
      refine J.seq ?_
      refine J.seq ?_
      refine J.reg ?_
      refine WL.rd (RD.fieldC rfl rfl) rfl rfl ?_
      refine WL.rd (RD.loadC rfl rfl) rfl rfl ?_
      refine WL.rd (RD.lenR rfl) rfl rfl ?_
      refine WL.rd (RD.move rfl) rfl rfl ?_
      refine WL.nil ?_
      refine JE.seqN ?_
      refine J.block ?_
      refine J.loop (fun gg ee mm => ∃ (k : Nat), gg = xs.length - k ∧ ((∀ j, j < k → gOk n xs j) ∧ (1 ≤ n ∧ n ≤ 8 ∧ xs.length ≤ 24)) ∧ ee = [(1, .pointer (some ⟨b1, 0, none⟩)), (16, v), (17, .int .i64 (xs.length : Int)), (18, .int .i64 (k : Int))] ∧ mm = [.cells b1 30 [.int .i64 n, v], .ro v 2 (xs.map bv)]) _ ⟨0, rfl, ?_, rfl, rfl⟩ ?_ ?_ ?_
      · exact ⟨fun j hj => by omega, by omega⟩
      · exact (Sub.consE rfl (by first | rfl | (congr 1; omega) | (simp; done)) (Sub.consE rfl (by first | rfl | (congr 1; omega) | (simp; done)) (Sub.consE rfl (by first | rfl | (congr 1; omega) | (simp; done)) (Sub.consE rfl (by first | rfl | (congr 1; omega) | (simp; done)) .nil))))
      · exact (SubM.cells rfl (by first | rfl | (simp; done)) (SubM.ro rfl (by first | rfl | (simp [iv, bv, yv, tv, sv]; done)) .nil))
      · rintro g _ _ ⟨k, rfl, hI, rfl, rfl⟩
        have hle := cmpB_le (xs.getD (k - 1) default) (xs.getD k default)
        refine J.seq ?_
        refine J.reg ?_
        refine WL.rd (RD.lss rfl rfl) rfl rfl ?_
        refine WL.nil ?_
        refine JE.seqN ?_
        refine J.seq ?_
        refine J.condP rfl (fun hc19 => ?_) (fun hc19 => ?_)
        ·
          refine J.skip ?_
          refine JE.seqN ?_
          refine J.seq ?_
          refine J.block ?_
          refine J.seq ?_
          refine J.reg ?_
          refine WL.rd (RD.move rfl) rfl rfl ?_
          refine WL.rd (RD.idx rfl rfl (by omega) rfl) rfl rfl ?_
          refine WL.rd (RD.loadEA rfl (by omega) rfl) rfl rfl ?_
          refine WL.efS (EF.allocA) rfl rfl ?_
          intro b4 _
          refine WL.rd (RD.assign rfl) rfl rfl ?_
          refine WL.efN (EF.storeA rfl rfl rfl rfl) rfl ?_
          rintro ⟨⟩ -
          refine WL.nil ?_
          refine JE.seqN ?_
          refine J.seq ?_
          refine J.anyAll [] ?_
          refine WA.takeP 0 rfl (RDP.of fun _ => RD.fieldC rfl rfl) rfl (by kernel_rfl) rfl ?_
          refine WA.take 1 rfl (RD.loadC rfl rfl) rfl (by kernel_rfl) rfl ?_
          refine WA.takeP 2 rfl (RDP.of fun _ => RD.lss rfl rfl) rfl (by kernel_rfl) rfl ?_
          refine WA.takeP 3 rfl (RDP.of fun _ => RD.move rfl) rfl (by kernel_rfl) rfl ?_
          refine WA.caseP 26 rfl (fun hg26 => ?_) (fun hg26 => ?_)
          ·
            refine WA.no 4 rfl rfl (by kernel_rfl) rfl ?_
            refine WA.no 5 rfl rfl (by kernel_rfl) rfl ?_
            refine WA.no 6 rfl rfl (by kernel_rfl) rfl ?_
            refine WA.no 7 rfl rfl (by kernel_rfl) rfl ?_
            refine WA.no 8 rfl rfl (by kernel_rfl) rfl ?_
            refine WA.takeP 9 rfl (RDP.of fun _ => RD.pickT rfl rfl) rfl (by kernel_rfl) rfl ?_
            refine WA.takeP 10 rfl (RDP.of fun _ => RD.move rfl) rfl (by kernel_rfl) rfl ?_
            refine WA.no 11 rfl rfl (by kernel_rfl) rfl ?_
            refine WA.no 12 rfl rfl (by kernel_rfl) rfl ?_
            refine WA.no 13 rfl rfl (by kernel_rfl) rfl ?_
            refine WA.no 14 rfl rfl (by kernel_rfl) rfl ?_
            refine WA.no 15 rfl rfl (by kernel_rfl) rfl ?_
            refine WA.takeP 16 rfl (RDP.of fun _ => RD.pickT rfl rfl) rfl (by kernel_rfl) rfl ?_
            refine WA.takeP 17 rfl (RDP.of fun _ => RD.move rfl) rfl (by kernel_rfl) rfl ?_
            refine WA.no 18 rfl rfl (by kernel_rfl) rfl ?_
            refine WA.no 19 rfl rfl (by kernel_rfl) rfl ?_
            refine WA.no 20 rfl rfl (by kernel_rfl) rfl ?_
            refine WA.no 21 rfl rfl (by kernel_rfl) rfl ?_
            refine WA.no 22 rfl rfl (by kernel_rfl) rfl ?_
            refine WA.no 23 rfl rfl (by kernel_rfl) rfl ?_
            refine WA.no 24 rfl rfl (by kernel_rfl) rfl ?_
            refine WA.no 25 rfl rfl (by kernel_rfl) rfl ?_
            refine WA.no 26 rfl rfl (by kernel_rfl) rfl ?_
            refine WA.no 27 rfl rfl (by kernel_rfl) rfl ?_
            refine WA.no 28 rfl rfl (by kernel_rfl) rfl ?_
            refine WA.no 29 rfl rfl (by kernel_rfl) rfl ?_
            refine WA.no 30 rfl rfl (by kernel_rfl) rfl ?_
            refine WA.takeP 31 rfl (RDP.of fun _ => RD.pickT rfl rfl) rfl (by kernel_rfl) rfl ?_
            refine WA.done (by kernel_rfl) ?_
            refine JE.seqN ?_
            refine J.condT rfl ?_
            refine J.seq ?_
            refine J.reg ?_
            refine WL.rd (RD.assign rfl) rfl rfl ?_
            refine WL.nil ?_
            refine JE.seqN ?_
            refine J.ret ?_
            refine JE.ret rfl (.tmp rfl .nil) (fun w hS => ?_)
            first | (exact CS.fin hS (mk_false (fun h => by obtain ⟨h1, h2, h3, _⟩ := h; omega))) | (exact CS.fin hS (mk_false (fun h => by obtain ⟨h1, h2, h3, h4⟩ := h.2.2.2 k (by omega); first | omega | (have h5 := hle.2 (h4 (by omega)); omega) | exact absurd (h4 (by omega)) (by assumption)))) | (exact CS.fin hS (mk_true ⟨by omega, by omega, by omega, fun j hj => hI.1 j (by omega)⟩))
          ·
            refine WA.takeP 4 rfl (RDP.of fun _ => RD.fieldC rfl rfl) rfl (by kernel_rfl) rfl ?_
            refine WA.take 5 rfl (RD.loadC rfl rfl) rfl (by kernel_rfl) rfl ?_
            refine WA.takeP 6 rfl (RDP.of fun _ => RD.fieldC rfl rfl) rfl (by kernel_rfl) rfl ?_
            refine WA.take 7 rfl (RD.loadC rfl rfl) rfl (by kernel_rfl) rfl ?_
            refine WA.takeP 8 rfl (RDP.of fun _ => RD.geq rfl rfl) rfl (by kernel_rfl) rfl ?_
            refine WA.takeP 9 rfl (RDP.of fun _ => RD.pickF rfl rfl) rfl (by kernel_rfl) rfl ?_
            refine WA.takeP 10 rfl (RDP.of fun _ => RD.move rfl) rfl (by kernel_rfl) rfl ?_
            refine WA.caseP 33 rfl (fun hg33 => ?_) (fun hg33 => ?_)
            ·
              refine WA.no 11 rfl rfl (by kernel_rfl) rfl ?_
              refine WA.no 12 rfl rfl (by kernel_rfl) rfl ?_
              refine WA.no 13 rfl rfl (by kernel_rfl) rfl ?_
              refine WA.no 14 rfl rfl (by kernel_rfl) rfl ?_
              refine WA.no 15 rfl rfl (by kernel_rfl) rfl ?_
              refine WA.takeP 16 rfl (RDP.of fun _ => RD.pickT rfl rfl) rfl (by kernel_rfl) rfl ?_
              refine WA.takeP 17 rfl (RDP.of fun _ => RD.move rfl) rfl (by kernel_rfl) rfl ?_
              refine WA.no 18 rfl rfl (by kernel_rfl) rfl ?_
              refine WA.no 19 rfl rfl (by kernel_rfl) rfl ?_
              refine WA.no 20 rfl rfl (by kernel_rfl) rfl ?_
              refine WA.no 21 rfl rfl (by kernel_rfl) rfl ?_
              refine WA.no 22 rfl rfl (by kernel_rfl) rfl ?_
              refine WA.no 23 rfl rfl (by kernel_rfl) rfl ?_
              refine WA.no 24 rfl rfl (by kernel_rfl) rfl ?_
              refine WA.no 25 rfl rfl (by kernel_rfl) rfl ?_
              refine WA.no 26 rfl rfl (by kernel_rfl) rfl ?_
              refine WA.no 27 rfl rfl (by kernel_rfl) rfl ?_
              refine WA.no 28 rfl rfl (by kernel_rfl) rfl ?_
              refine WA.no 29 rfl rfl (by kernel_rfl) rfl ?_
              refine WA.no 30 rfl rfl (by kernel_rfl) rfl ?_
              refine WA.takeP 31 rfl (RDP.of fun _ => RD.pickT rfl rfl) rfl (by kernel_rfl) rfl ?_
              refine WA.done (by kernel_rfl) ?_
              refine JE.seqN ?_
              refine J.condT rfl ?_
              refine J.seq ?_
              refine J.reg ?_
              refine WL.rd (RD.assign rfl) rfl rfl ?_
              refine WL.nil ?_
              refine JE.seqN ?_
              refine J.ret ?_
              refine JE.ret rfl (.tmp rfl .nil) (fun w hS => ?_)
              first | (exact CS.fin hS (mk_false (fun h => by obtain ⟨h1, h2, h3, _⟩ := h; omega))) | (exact CS.fin hS (mk_false (fun h => by obtain ⟨h1, h2, h3, h4⟩ := h.2.2.2 k (by omega); first | omega | (have h5 := hle.2 (h4 (by omega)); omega) | exact absurd (h4 (by omega)) (by assumption)))) | (exact CS.fin hS (mk_true ⟨by omega, by omega, by omega, fun j hj => hI.1 j (by omega)⟩))
            ·
              refine WA.takeP 11 rfl (RDP.of fun _ => RD.fieldC rfl rfl) rfl (by kernel_rfl) rfl ?_
              refine WA.take 12 rfl (RD.loadC rfl rfl) rfl (by kernel_rfl) rfl ?_
              refine WA.takeP 13 rfl (RDP.of fun _ => RD.fieldC rfl rfl) rfl (by kernel_rfl) rfl ?_
              refine WA.take 14 rfl (RD.loadC rfl rfl) rfl (by kernel_rfl) rfl ?_
              refine WA.takeP 15 rfl (RDP.of fun _ => RD.geq rfl rfl) rfl (by kernel_rfl) rfl ?_
              refine WA.takeP 16 rfl (RDP.of fun _ => RD.pickF rfl rfl) rfl (by kernel_rfl) rfl ?_
              refine WA.takeP 17 rfl (RDP.of fun _ => RD.move rfl) rfl (by kernel_rfl) rfl ?_
              refine WA.caseP 40 rfl (fun hg40 => ?_) (fun hg40 => ?_)
              ·
                refine WA.no 18 rfl rfl (by kernel_rfl) rfl ?_
                refine WA.no 19 rfl rfl (by kernel_rfl) rfl ?_
                refine WA.no 20 rfl rfl (by kernel_rfl) rfl ?_
                refine WA.no 21 rfl rfl (by kernel_rfl) rfl ?_
                refine WA.no 22 rfl rfl (by kernel_rfl) rfl ?_
                refine WA.no 23 rfl rfl (by kernel_rfl) rfl ?_
                refine WA.no 24 rfl rfl (by kernel_rfl) rfl ?_
                refine WA.no 25 rfl rfl (by kernel_rfl) rfl ?_
                refine WA.no 26 rfl rfl (by kernel_rfl) rfl ?_
                refine WA.no 27 rfl rfl (by kernel_rfl) rfl ?_
                refine WA.no 28 rfl rfl (by kernel_rfl) rfl ?_
                refine WA.no 29 rfl rfl (by kernel_rfl) rfl ?_
                refine WA.no 30 rfl rfl (by kernel_rfl) rfl ?_
                refine WA.takeP 31 rfl (RDP.of fun _ => RD.pickT rfl rfl) rfl (by kernel_rfl) rfl ?_
                refine WA.done (by kernel_rfl) ?_
                refine JE.seqN ?_
                refine J.condT rfl ?_
                refine J.seq ?_
                refine J.reg ?_
                refine WL.rd (RD.assign rfl) rfl rfl ?_
                refine WL.nil ?_
                refine JE.seqN ?_
                refine J.ret ?_
                refine JE.ret rfl (.tmp rfl .nil) (fun w hS => ?_)
                first | (exact CS.fin hS (mk_false (fun h => by obtain ⟨h1, h2, h3, _⟩ := h; omega))) | (exact CS.fin hS (mk_false (fun h => by obtain ⟨h1, h2, h3, h4⟩ := h.2.2.2 k (by omega); first | omega | (have h5 := hle.2 (h4 (by omega)); omega) | exact absurd (h4 (by omega)) (by assumption)))) | (exact CS.fin hS (mk_true ⟨by omega, by omega, by omega, fun j hj => hI.1 j (by omega)⟩))
              ·
                refine WA.takeP 18 rfl (RDP.of fun _ => RD.move rfl) rfl (by kernel_rfl) rfl ?_
                refine WA.takeP 19 rfl (RDP.of fun _ => RD.gtr rfl rfl) rfl (by kernel_rfl) rfl ?_
                refine WA.takeP 20 rfl (RDP.of fun _ => RD.move rfl) rfl (by kernel_rfl) rfl ?_
                refine WA.caseP 43 rfl (fun hg43 => ?_) (fun hg43 => ?_)
                ·
                  refine WA.takeP 21 rfl (RDP.of fun _ => RD.fieldC rfl rfl) rfl (by kernel_rfl) rfl ?_
                  refine WA.take 22 rfl (RD.loadC rfl rfl) rfl (by kernel_rfl) rfl ?_
                  refine WA.takeP 23 rfl (RDP.of fun _ => RD.move rfl) rfl (by kernel_rfl) rfl ?_
                  refine WA.takeP 24 rfl (RDP.of fun _ => RD.sub rfl rfl (by omega) (by omega)) rfl (by kernel_rfl) rfl ?_
                  refine WA.takeP 25 rfl (RDP.idx (j := k - 1) (hj := ⟨by omega⟩) rfl rfl (by omega) rfl) rfl (by kernel_rfl) rfl ?_
                  refine WA.take 26 rfl (RD.loadEA rfl (by omega) rfl) rfl (by kernel_rfl) rfl ?_
                  refine WA.take 27 rfl (RD.loadA rfl rfl) rfl (by kernel_rfl) rfl ?_
                  refine WA.one (i := 28) (by kernel_rfl) ?_
                  refine WAi.efS rfl (EF.callS (.cons rfl (.cons rfl .nil)) (fun w hS => compareBars_c _ _ _)) rfl rfl (fun _ => SubI.sub) ?_
                  rintro ⟨⟩ -
                  refine WA.takeP 29 rfl (RDP.of fun _ => RD.gtr rfl rfl) rfl (by kernel_rfl) rfl ?_
                  refine WA.takeP 30 rfl (RDP.of fun _ => RD.pickT rfl rfl) rfl (by kernel_rfl) rfl ?_
                  refine WA.takeP 31 rfl (RDP.of fun _ => RD.pickF rfl rfl) rfl (by kernel_rfl) rfl ?_
                  refine WA.done (by kernel_rfl) ?_
                  refine JE.seqN ?_
                  refine J.condP rfl (fun hc54 => ?_) (fun hc54 => ?_)
                  ·
                    refine J.seq ?_
                    refine J.reg ?_
                    refine WL.rd (RD.assign rfl) rfl rfl ?_
                    refine WL.nil ?_
                    refine JE.seqN ?_
                    refine J.ret ?_
                    refine JE.ret rfl (.tmp rfl .nil) (fun w hS => ?_)
                    first | (exact CS.fin hS (mk_false (fun h => by obtain ⟨h1, h2, h3, _⟩ := h; omega))) | (exact CS.fin hS (mk_false (fun h => by obtain ⟨h1, h2, h3, h4⟩ := h.2.2.2 k (by omega); first | omega | (have h5 := hle.2 (h4 (by omega)); omega) | exact absurd (h4 (by omega)) (by assumption)))) | (exact CS.fin hS (mk_true ⟨by omega, by omega, by omega, fun j hj => hI.1 j (by omega)⟩))
                  ·
                    refine J.skip ?_
                    refine JE.blockN ?_
                    refine JE.seqN ?_
                    refine J.reg ?_
                    refine WL.rd (RD.add rfl rfl (by omega) (by omega)) rfl rfl ?_
                    refine WL.rd (RD.move rfl) rfl rfl ?_
                    refine WL.nil ?_
                    refine JE.cutN ⟨_, ?_, k + 1, rfl, ?_, rfl, rfl⟩ ?_ ?_
                    · omega
                    · exact ⟨fun j hj => (Nat.lt_succ_iff_lt_or_eq.1 hj).elim (hI.1 j) (fun hh => by subst hh; exact ⟨by omega, by omega, by omega, fun h0 => by first | (exact hle.1 (by omega)) | (exfalso; omega) | assumption | simp_all⟩), hI.2⟩
                    · exact (Sub.consE rfl (by first | rfl | (congr 1; omega) | (simp; done)) (Sub.consE rfl (by first | rfl | (congr 1; omega) | (simp; done)) (Sub.consE rfl (by first | rfl | (congr 1; omega) | (simp; done)) (Sub.consE rfl (by first | rfl | (congr 1; omega) | (simp; done)) .nil))))
                    · exact (SubM.cells rfl (by first | rfl | (simp; done)) (SubM.ro rfl (by first | rfl | (simp [iv, bv, yv, tv, sv]; done)) .nil))
                ·
                  refine WA.no 21 rfl rfl (by kernel_rfl) rfl ?_
                  refine WA.no 22 rfl rfl (by kernel_rfl) rfl ?_
                  refine WA.no 23 rfl rfl (by kernel_rfl) rfl ?_
                  refine WA.no 24 rfl rfl (by kernel_rfl) rfl ?_
                  refine WA.no 25 rfl rfl (by kernel_rfl) rfl ?_
                  refine WA.no 26 rfl rfl (by kernel_rfl) rfl ?_
                  refine WA.no 27 rfl rfl (by kernel_rfl) rfl ?_
                  refine WA.no 28 rfl rfl (by kernel_rfl) rfl ?_
                  refine WA.no 29 rfl rfl (by kernel_rfl) rfl ?_
                  refine WA.takeP 30 rfl (RDP.of fun _ => RD.pickF rfl rfl) rfl (by kernel_rfl) rfl ?_
                  refine WA.takeP 31 rfl (RDP.of fun _ => RD.pickF rfl rfl) rfl (by kernel_rfl) rfl ?_
                  refine WA.done (by kernel_rfl) ?_
                  refine JE.seqN ?_
                  refine J.condF rfl ?_
                  refine J.skip ?_
                  refine JE.blockN ?_
                  refine JE.seqN ?_
                  refine J.reg ?_
                  refine WL.rd (RD.add rfl rfl (by omega) (by omega)) rfl rfl ?_
                  refine WL.rd (RD.move rfl) rfl rfl ?_
                  refine WL.nil ?_
                  refine JE.cutN ⟨_, ?_, k + 1, rfl, ?_, rfl, rfl⟩ ?_ ?_
                  · omega
                  · exact ⟨fun j hj => (Nat.lt_succ_iff_lt_or_eq.1 hj).elim (hI.1 j) (fun hh => by subst hh; exact ⟨by omega, by omega, by omega, fun h0 => by first | (exact hle.1 (by omega)) | (exfalso; omega) | assumption | simp_all⟩), hI.2⟩
                  · exact (Sub.consE rfl (by first | rfl | (congr 1; omega) | (simp; done)) (Sub.consE rfl (by first | rfl | (congr 1; omega) | (simp; done)) (Sub.consE rfl (by first | rfl | (congr 1; omega) | (simp; done)) (Sub.consE rfl (by first | rfl | (congr 1; omega) | (simp; done)) .nil))))
                  · exact (SubM.cells rfl (by first | rfl | (simp; done)) (SubM.ro rfl (by first | rfl | (simp [iv, bv, yv, tv, sv]; done)) .nil))
        ·
          refine J.exit ?_
          refine JE.seqX ?_
          refine JE.cutX ?_
          refine JE.blockHit ?_
          refine JE.seqN ?_
          refine J.seq ?_
          refine J.reg ?_
          refine WL.rd (RD.assign rfl) rfl rfl ?_
          refine WL.nil ?_
          refine JE.seqN ?_
          refine J.ret ?_
          refine JE.ret rfl (.tmp rfl .nil) (fun w hS => ?_)
          first | (exact CS.fin hS (mk_false (fun h => by obtain ⟨h1, h2, h3, _⟩ := h; omega))) | (exact CS.fin hS (mk_false (fun h => by obtain ⟨h1, h2, h3, h4⟩ := h.2.2.2 k (by omega); first | omega | (have h5 := hle.2 (h4 (by omega)); omega) | exact absurd (h4 (by omega)) (by assumption)))) | (exact CS.fin hS (mk_true ⟨by omega, by omega, by omega, fun j hj => hI.1 j (by omega)⟩))
theorem sIsGraph_c (n : Int) (v : Value) (xs : List (Int × Int)) (w : World) (hr : Rd w v 2 (xs.map bv)) :
    CS Try.prog 42 [.agg #[.int .i64 n, v]] w (.bool (decide (isG n xs))) := by
  have hl_xs : xs.length ≤ 9223372036854775807 := (by obtain ⟨_, _, _, hh, _⟩ := hr.shape; simpa using hh)
  refine calls_of_J (mu := (fun _ => False)) (m := [.ro v 2 (xs.map bv)]) (e := [(0, .agg #[.int .i64 n, v])]) Try.func42 rfl rfl (.cons rfl .nil) (((St.init _ _).ro0 hr (by decide))) ?_
  refine J.seq ?_
  refine J.reg ?_
  refine WL.efS (EF.boxA rfl) rfl rfl ?_
  intro b1 _
  refine WL.rd (RD.assign rfl) rfl rfl ?_
  refine WL.nil ?_
  refine JE.seqN ?_
  refine J.seq ?_
  refine J.seq ?_
  refine J.reg ?_
  refine WL.rd (RD.fieldC rfl rfl) rfl rfl ?_
  refine WL.rd (RD.loadC rfl rfl) rfl rfl ?_
  refine WL.efS (EF.callS (.cons rfl (.cons rfl (.cons rfl .nil))) (fun w hS => l1In_c _ _ _ _)) rfl rfl ?_
  rintro ⟨⟩ -
  refine WL.rd (RD.notP rfl) rfl rfl ?_
  refine WL.rd (RD.move rfl) rfl rfl ?_
  refine WL.caseP 9 rfl (fun hg9 => ?_) (fun hg9 => ?_)
  ·
    refine WL.noS rfl rfl ?_
    refine WL.noS rfl rfl ?_
    refine WL.noS rfl rfl ?_
    refine WL.noS rfl rfl ?_
    refine WL.rd (RD.pickT rfl rfl) rfl rfl ?_
    refine WL.nil ?_
    refine JE.seqN ?_
    refine J.condT rfl ?_
    refine J.seq ?_
    refine J.reg ?_
    refine WL.rd (RD.assign rfl) rfl rfl ?_
    refine WL.nil ?_
    refine JE.seqN ?_
    refine J.ret ?_
    refine JE.ret rfl (.tmp rfl .nil) (fun w hS => ?_)
    first | (exact CS.fin hS (mk_false (fun h => by obtain ⟨h1, h2, h3, _⟩ := h; omega))) | (exact CS.fin hS (mk_false (fun h => by obtain ⟨h1, h2, h3, h4⟩ := h.2.2.2 k (by omega); first | omega | (have h5 := hle.2 (h4 (by omega)); omega) | exact absurd (h4 (by omega)) (by assumption)))) | (exact CS.fin hS (mk_true ⟨by omega, by omega, by omega, fun j hj => hI.1 j (by omega)⟩))
  ·
    refine WL.rd (RD.fieldC rfl rfl) rfl rfl ?_
    refine WL.rd (RD.loadC rfl rfl) rfl rfl ?_
    refine WL.rd (RD.lenR rfl) rfl rfl ?_
    refine WL.rd (RD.gtr rfl rfl) rfl rfl ?_
    refine WL.rd (RD.pickF rfl rfl) rfl rfl ?_
    refine WL.nil ?_
    refine JE.seqN ?_
    refine J.condP rfl (fun hc14 => ?_) (fun hc14 => ?_)
    ·
      refine J.seq ?_
      refine J.reg ?_
      refine WL.rd (RD.assign rfl) rfl rfl ?_
      refine WL.nil ?_
      refine JE.seqN ?_
      refine J.ret ?_
      refine JE.ret rfl (.tmp rfl .nil) (fun w hS => ?_)
      first | (exact CS.fin hS (mk_false (fun h => by obtain ⟨h1, h2, h3, _⟩ := h; omega))) | (exact CS.fin hS (mk_false (fun h => by obtain ⟨h1, h2, h3, h4⟩ := h.2.2.2 k (by omega); first | omega | (have h5 := hle.2 (h4 (by omega)); omega) | exact absurd (h4 (by omega)) (by assumption)))) | (exact CS.fin hS (mk_true ⟨by omega, by omega, by omega, fun j hj => hI.1 j (by omega)⟩))
    ·
      refine J.skip ?_
      refine JE.seqN ?_
      refine J.seq ?_
      refine J.seq ?_
      refine J.reg ?_
      refine WL.rd (RD.assign rfl) rfl rfl ?_
      refine WL.nil ?_
      refine JE.seqN ?_
      refine J.block ?_
      refine J.loop (fun gg ee mm => ∃ (k : Nat), gg = xs.length - k ∧ ((∀ j, j < k → gOk n xs j) ∧ (1 ≤ n ∧ n ≤ 8 ∧ xs.length ≤ 24)) ∧ ee = [(1, .pointer (some ⟨b1, 0, none⟩)), (3, .int .i64 (k : Int))] ∧ mm = [.cells b1 30 [.int .i64 n, v], .ro v 2 (xs.map bv)]) _ ⟨0, rfl, ?_, rfl, rfl⟩ ?_ ?_ ?_
      · exact ⟨fun j hj => by omega, by omega⟩
      · exact (Sub.consE rfl (by first | rfl | (congr 1; omega) | (simp; done)) (Sub.consE rfl (by first | rfl | (congr 1; omega) | (simp; done)) .nil))
      · exact (SubM.cells rfl (by first | rfl | (simp; done)) (SubM.ro rfl (by first | rfl | (simp [iv, bv, yv, tv, sv]; done)) .nil))
      · rintro g _ _ ⟨k, rfl, hI, rfl, rfl⟩
        have hle := cmpB_le (xs.getD (k - 1) default) (xs.getD k default)
        refine J.seq ?_
        refine J.seq ?_
        refine J.reg ?_
        refine WL.rd (RD.move rfl) rfl rfl ?_
        refine WL.rd (RD.fieldC rfl rfl) rfl rfl ?_
        refine WL.rd (RD.loadC rfl rfl) rfl rfl ?_
        refine WL.rd (RD.lenR rfl) rfl rfl ?_
        refine WL.rd (RD.lss rfl rfl) rfl rfl ?_
        refine WL.nil ?_
        refine JE.seqN ?_
        refine J.condP rfl (fun hc19 => ?_) (fun hc19 => ?_)
        ·
          refine J.skip ?_
          refine JE.seqN ?_
          refine J.seq ?_
          refine J.block ?_
          refine J.seq ?_
          refine J.reg ?_
          refine WL.rd (RD.fieldC rfl rfl) rfl rfl ?_
          refine WL.rd (RD.loadC rfl rfl) rfl rfl ?_
          refine WL.rd (RD.move rfl) rfl rfl ?_
          refine WL.rd (RD.idx rfl rfl (by omega) rfl) rfl rfl ?_
          refine WL.rd (RD.loadEA rfl (by omega) rfl) rfl rfl ?_
          refine WL.efS (EF.allocA) rfl rfl ?_
          intro b4 _
          refine WL.efN (EF.storeA rfl rfl rfl rfl) rfl ?_
          rintro ⟨⟩ -
          refine WL.nil ?_
          refine JE.seqN ?_
          refine J.seq ?_
          refine J.anyAll [] ?_
          refine WA.takeP 0 rfl (RDP.of fun _ => RD.fieldC rfl rfl) rfl (by kernel_rfl) rfl ?_
          refine WA.take 1 rfl (RD.loadC rfl rfl) rfl (by kernel_rfl) rfl ?_
          refine WA.takeP 2 rfl (RDP.of fun _ => RD.lss rfl rfl) rfl (by kernel_rfl) rfl ?_
          refine WA.takeP 3 rfl (RDP.of fun _ => RD.move rfl) rfl (by kernel_rfl) rfl ?_
          refine WA.caseP 30 rfl (fun hg30 => ?_) (fun hg30 => ?_)
          ·
            refine WA.no 4 rfl rfl (by kernel_rfl) rfl ?_
            refine WA.no 5 rfl rfl (by kernel_rfl) rfl ?_
            refine WA.no 6 rfl rfl (by kernel_rfl) rfl ?_
            refine WA.no 7 rfl rfl (by kernel_rfl) rfl ?_
            refine WA.no 8 rfl rfl (by kernel_rfl) rfl ?_
            refine WA.takeP 9 rfl (RDP.of fun _ => RD.pickT rfl rfl) rfl (by kernel_rfl) rfl ?_
            refine WA.takeP 10 rfl (RDP.of fun _ => RD.move rfl) rfl (by kernel_rfl) rfl ?_
            refine WA.no 11 rfl rfl (by kernel_rfl) rfl ?_
            refine WA.no 12 rfl rfl (by kernel_rfl) rfl ?_
            refine WA.no 13 rfl rfl (by kernel_rfl) rfl ?_
            refine WA.no 14 rfl rfl (by kernel_rfl) rfl ?_
            refine WA.no 15 rfl rfl (by kernel_rfl) rfl ?_
            refine WA.takeP 16 rfl (RDP.of fun _ => RD.pickT rfl rfl) rfl (by kernel_rfl) rfl ?_
            refine WA.takeP 17 rfl (RDP.of fun _ => RD.move rfl) rfl (by kernel_rfl) rfl ?_
            refine WA.no 18 rfl rfl (by kernel_rfl) rfl ?_
            refine WA.no 19 rfl rfl (by kernel_rfl) rfl ?_
            refine WA.no 20 rfl rfl (by kernel_rfl) rfl ?_
            refine WA.no 21 rfl rfl (by kernel_rfl) rfl ?_
            refine WA.no 22 rfl rfl (by kernel_rfl) rfl ?_
            refine WA.no 23 rfl rfl (by kernel_rfl) rfl ?_
            refine WA.no 24 rfl rfl (by kernel_rfl) rfl ?_
            refine WA.no 25 rfl rfl (by kernel_rfl) rfl ?_
            refine WA.no 26 rfl rfl (by kernel_rfl) rfl ?_
            refine WA.no 27 rfl rfl (by kernel_rfl) rfl ?_
            refine WA.no 28 rfl rfl (by kernel_rfl) rfl ?_
            refine WA.no 29 rfl rfl (by kernel_rfl) rfl ?_
            refine WA.no 30 rfl rfl (by kernel_rfl) rfl ?_
            refine WA.takeP 31 rfl (RDP.of fun _ => RD.pickT rfl rfl) rfl (by kernel_rfl) rfl ?_
            refine WA.done (by kernel_rfl) ?_
            refine JE.seqN ?_
            refine J.condT rfl ?_
            refine J.seq ?_
            refine J.reg ?_
            refine WL.rd (RD.assign rfl) rfl rfl ?_
            refine WL.nil ?_
            refine JE.seqN ?_
            refine J.ret ?_
            refine JE.ret rfl (.tmp rfl .nil) (fun w hS => ?_)
            first | (exact CS.fin hS (mk_false (fun h => by obtain ⟨h1, h2, h3, _⟩ := h; omega))) | (exact CS.fin hS (mk_false (fun h => by obtain ⟨h1, h2, h3, h4⟩ := h.2.2.2 k (by omega); first | omega | (have h5 := hle.2 (h4 (by omega)); omega) | exact absurd (h4 (by omega)) (by assumption)))) | (exact CS.fin hS (mk_true ⟨by omega, by omega, by omega, fun j hj => hI.1 j (by omega)⟩))
          ·
            refine WA.takeP 4 rfl (RDP.of fun _ => RD.fieldC rfl rfl) rfl (by kernel_rfl) rfl ?_
            refine WA.take 5 rfl (RD.loadC rfl rfl) rfl (by kernel_rfl) rfl ?_
            refine WA.takeP 6 rfl (RDP.of fun _ => RD.fieldC rfl rfl) rfl (by kernel_rfl) rfl ?_
            refine WA.take 7 rfl (RD.loadC rfl rfl) rfl (by kernel_rfl) rfl ?_
            refine WA.takeP 8 rfl (RDP.of fun _ => RD.geq rfl rfl) rfl (by kernel_rfl) rfl ?_
            refine WA.takeP 9 rfl (RDP.of fun _ => RD.pickF rfl rfl) rfl (by kernel_rfl) rfl ?_
            refine WA.takeP 10 rfl (RDP.of fun _ => RD.move rfl) rfl (by kernel_rfl) rfl ?_
            refine WA.caseP 37 rfl (fun hg37 => ?_) (fun hg37 => ?_)
            ·
              refine WA.no 11 rfl rfl (by kernel_rfl) rfl ?_
              refine WA.no 12 rfl rfl (by kernel_rfl) rfl ?_
              refine WA.no 13 rfl rfl (by kernel_rfl) rfl ?_
              refine WA.no 14 rfl rfl (by kernel_rfl) rfl ?_
              refine WA.no 15 rfl rfl (by kernel_rfl) rfl ?_
              refine WA.takeP 16 rfl (RDP.of fun _ => RD.pickT rfl rfl) rfl (by kernel_rfl) rfl ?_
              refine WA.takeP 17 rfl (RDP.of fun _ => RD.move rfl) rfl (by kernel_rfl) rfl ?_
              refine WA.no 18 rfl rfl (by kernel_rfl) rfl ?_
              refine WA.no 19 rfl rfl (by kernel_rfl) rfl ?_
              refine WA.no 20 rfl rfl (by kernel_rfl) rfl ?_
              refine WA.no 21 rfl rfl (by kernel_rfl) rfl ?_
              refine WA.no 22 rfl rfl (by kernel_rfl) rfl ?_
              refine WA.no 23 rfl rfl (by kernel_rfl) rfl ?_
              refine WA.no 24 rfl rfl (by kernel_rfl) rfl ?_
              refine WA.no 25 rfl rfl (by kernel_rfl) rfl ?_
              refine WA.no 26 rfl rfl (by kernel_rfl) rfl ?_
              refine WA.no 27 rfl rfl (by kernel_rfl) rfl ?_
              refine WA.no 28 rfl rfl (by kernel_rfl) rfl ?_
              refine WA.no 29 rfl rfl (by kernel_rfl) rfl ?_
              refine WA.no 30 rfl rfl (by kernel_rfl) rfl ?_
              refine WA.takeP 31 rfl (RDP.of fun _ => RD.pickT rfl rfl) rfl (by kernel_rfl) rfl ?_
              refine WA.done (by kernel_rfl) ?_
              refine JE.seqN ?_
              refine J.condT rfl ?_
              refine J.seq ?_
              refine J.reg ?_
              refine WL.rd (RD.assign rfl) rfl rfl ?_
              refine WL.nil ?_
              refine JE.seqN ?_
              refine J.ret ?_
              refine JE.ret rfl (.tmp rfl .nil) (fun w hS => ?_)
              first | (exact CS.fin hS (mk_false (fun h => by obtain ⟨h1, h2, h3, _⟩ := h; omega))) | (exact CS.fin hS (mk_false (fun h => by obtain ⟨h1, h2, h3, h4⟩ := h.2.2.2 k (by omega); first | omega | (have h5 := hle.2 (h4 (by omega)); omega) | exact absurd (h4 (by omega)) (by assumption)))) | (exact CS.fin hS (mk_true ⟨by omega, by omega, by omega, fun j hj => hI.1 j (by omega)⟩))
            ·
              refine WA.takeP 11 rfl (RDP.of fun _ => RD.fieldC rfl rfl) rfl (by kernel_rfl) rfl ?_
              refine WA.take 12 rfl (RD.loadC rfl rfl) rfl (by kernel_rfl) rfl ?_
              refine WA.takeP 13 rfl (RDP.of fun _ => RD.fieldC rfl rfl) rfl (by kernel_rfl) rfl ?_
              refine WA.take 14 rfl (RD.loadC rfl rfl) rfl (by kernel_rfl) rfl ?_
              refine WA.takeP 15 rfl (RDP.of fun _ => RD.geq rfl rfl) rfl (by kernel_rfl) rfl ?_
              refine WA.takeP 16 rfl (RDP.of fun _ => RD.pickF rfl rfl) rfl (by kernel_rfl) rfl ?_
              refine WA.takeP 17 rfl (RDP.of fun _ => RD.move rfl) rfl (by kernel_rfl) rfl ?_
              refine WA.caseP 44 rfl (fun hg44 => ?_) (fun hg44 => ?_)
              ·
                refine WA.no 18 rfl rfl (by kernel_rfl) rfl ?_
                refine WA.no 19 rfl rfl (by kernel_rfl) rfl ?_
                refine WA.no 20 rfl rfl (by kernel_rfl) rfl ?_
                refine WA.no 21 rfl rfl (by kernel_rfl) rfl ?_
                refine WA.no 22 rfl rfl (by kernel_rfl) rfl ?_
                refine WA.no 23 rfl rfl (by kernel_rfl) rfl ?_
                refine WA.no 24 rfl rfl (by kernel_rfl) rfl ?_
                refine WA.no 25 rfl rfl (by kernel_rfl) rfl ?_
                refine WA.no 26 rfl rfl (by kernel_rfl) rfl ?_
                refine WA.no 27 rfl rfl (by kernel_rfl) rfl ?_
                refine WA.no 28 rfl rfl (by kernel_rfl) rfl ?_
                refine WA.no 29 rfl rfl (by kernel_rfl) rfl ?_
                refine WA.no 30 rfl rfl (by kernel_rfl) rfl ?_
                refine WA.takeP 31 rfl (RDP.of fun _ => RD.pickT rfl rfl) rfl (by kernel_rfl) rfl ?_
                refine WA.done (by kernel_rfl) ?_
                refine JE.seqN ?_
                refine J.condT rfl ?_
                refine J.seq ?_
                refine J.reg ?_
                refine WL.rd (RD.assign rfl) rfl rfl ?_
                refine WL.nil ?_
                refine JE.seqN ?_
                refine J.ret ?_
                refine JE.ret rfl (.tmp rfl .nil) (fun w hS => ?_)
                first | (exact CS.fin hS (mk_false (fun h => by obtain ⟨h1, h2, h3, _⟩ := h; omega))) | (exact CS.fin hS (mk_false (fun h => by obtain ⟨h1, h2, h3, h4⟩ := h.2.2.2 k (by omega); first | omega | (have h5 := hle.2 (h4 (by omega)); omega) | exact absurd (h4 (by omega)) (by assumption)))) | (exact CS.fin hS (mk_true ⟨by omega, by omega, by omega, fun j hj => hI.1 j (by omega)⟩))
              ·
                refine WA.takeP 18 rfl (RDP.of fun _ => RD.move rfl) rfl (by kernel_rfl) rfl ?_
                refine WA.takeP 19 rfl (RDP.of fun _ => RD.gtr rfl rfl) rfl (by kernel_rfl) rfl ?_
                refine WA.takeP 20 rfl (RDP.of fun _ => RD.move rfl) rfl (by kernel_rfl) rfl ?_
                refine WA.caseP 47 rfl (fun hg47 => ?_) (fun hg47 => ?_)
                ·
                  refine WA.takeP 21 rfl (RDP.of fun _ => RD.fieldC rfl rfl) rfl (by kernel_rfl) rfl ?_
                  refine WA.take 22 rfl (RD.loadC rfl rfl) rfl (by kernel_rfl) rfl ?_
                  refine WA.takeP 23 rfl (RDP.of fun _ => RD.move rfl) rfl (by kernel_rfl) rfl ?_
                  refine WA.takeP 24 rfl (RDP.of fun _ => RD.sub rfl rfl (by omega) (by omega)) rfl (by kernel_rfl) rfl ?_
                  refine WA.takeP 25 rfl (RDP.idx (j := k - 1) (hj := ⟨by omega⟩) rfl rfl (by omega) rfl) rfl (by kernel_rfl) rfl ?_
                  refine WA.take 26 rfl (RD.loadEA rfl (by omega) rfl) rfl (by kernel_rfl) rfl ?_
                  refine WA.take 27 rfl (RD.loadA rfl rfl) rfl (by kernel_rfl) rfl ?_
                  refine WA.one (i := 28) (by kernel_rfl) ?_
                  refine WAi.efS rfl (EF.callS (.cons rfl (.cons rfl .nil)) (fun w hS => l2After_c _ _ _)) rfl rfl (fun _ => SubI.sub) ?_
                  rintro ⟨⟩ -
                  refine WA.takeP 29 rfl (RDP.of fun _ => RD.notP rfl) rfl (by kernel_rfl) rfl ?_
                  refine WA.takeP 30 rfl (RDP.of fun _ => RD.pickT rfl rfl) rfl (by kernel_rfl) rfl ?_
                  refine WA.takeP 31 rfl (RDP.of fun _ => RD.pickF rfl rfl) rfl (by kernel_rfl) rfl ?_
                  refine WA.done (by kernel_rfl) ?_
                  refine JE.seqN ?_
                  refine J.condP rfl (fun hc58 => ?_) (fun hc58 => ?_)
                  ·
                    refine J.seq ?_
                    refine J.reg ?_
                    refine WL.rd (RD.assign rfl) rfl rfl ?_
                    refine WL.nil ?_
                    refine JE.seqN ?_
                    refine J.ret ?_
                    refine JE.ret rfl (.tmp rfl .nil) (fun w hS => ?_)
                    first | (exact CS.fin hS (mk_false (fun h => by obtain ⟨h1, h2, h3, _⟩ := h; omega))) | (exact CS.fin hS (mk_false (fun h => by obtain ⟨h1, h2, h3, h4⟩ := h.2.2.2 k (by omega); first | omega | (have h5 := hle.2 (h4 (by omega)); omega) | exact absurd (h4 (by omega)) (by assumption)))) | (exact CS.fin hS (mk_true ⟨by omega, by omega, by omega, fun j hj => hI.1 j (by omega)⟩))
                  ·
                    refine J.skip ?_
                    refine JE.blockN ?_
                    refine JE.seqN ?_
                    refine J.reg ?_
                    refine WL.rd (RD.move rfl) rfl rfl ?_
                    refine WL.rd (RD.add rfl rfl (by omega) (by omega)) rfl rfl ?_
                    refine WL.rd (RD.assign rfl) rfl rfl ?_
                    refine WL.nil ?_
                    refine JE.cutN ⟨_, ?_, k + 1, rfl, ?_, rfl, rfl⟩ ?_ ?_
                    · omega
                    · exact ⟨fun j hj => (Nat.lt_succ_iff_lt_or_eq.1 hj).elim (hI.1 j) (fun hh => by subst hh; exact ⟨by omega, by omega, by omega, fun h0 => by first | (exact hle.1 (by omega)) | (exfalso; omega) | assumption | simp_all⟩), hI.2⟩
                    · exact (Sub.consE rfl (by first | rfl | (congr 1; omega) | (simp; done)) (Sub.consE rfl (by first | rfl | (congr 1; omega) | (simp; done)) .nil))
                    · exact (SubM.cells rfl (by first | rfl | (simp; done)) (SubM.ro rfl (by first | rfl | (simp [iv, bv, yv, tv, sv]; done)) .nil))
                ·
                  refine WA.no 21 rfl rfl (by kernel_rfl) rfl ?_
                  refine WA.no 22 rfl rfl (by kernel_rfl) rfl ?_
                  refine WA.no 23 rfl rfl (by kernel_rfl) rfl ?_
                  refine WA.no 24 rfl rfl (by kernel_rfl) rfl ?_
                  refine WA.no 25 rfl rfl (by kernel_rfl) rfl ?_
                  refine WA.no 26 rfl rfl (by kernel_rfl) rfl ?_
                  refine WA.no 27 rfl rfl (by kernel_rfl) rfl ?_
                  refine WA.no 28 rfl rfl (by kernel_rfl) rfl ?_
                  refine WA.no 29 rfl rfl (by kernel_rfl) rfl ?_
                  refine WA.takeP 30 rfl (RDP.of fun _ => RD.pickF rfl rfl) rfl (by kernel_rfl) rfl ?_
                  refine WA.takeP 31 rfl (RDP.of fun _ => RD.pickF rfl rfl) rfl (by kernel_rfl) rfl ?_
                  refine WA.done (by kernel_rfl) ?_
                  refine JE.seqN ?_
                  refine J.condF rfl ?_
                  refine J.skip ?_
                  refine JE.blockN ?_
                  refine JE.seqN ?_
                  refine J.reg ?_
                  refine WL.rd (RD.move rfl) rfl rfl ?_
                  refine WL.rd (RD.add rfl rfl (by omega) (by omega)) rfl rfl ?_
                  refine WL.rd (RD.assign rfl) rfl rfl ?_
                  refine WL.nil ?_
                  refine JE.cutN ⟨_, ?_, k + 1, rfl, ?_, rfl, rfl⟩ ?_ ?_
                  · omega
                  · exact ⟨fun j hj => (Nat.lt_succ_iff_lt_or_eq.1 hj).elim (hI.1 j) (fun hh => by subst hh; exact ⟨by omega, by omega, by omega, fun h0 => by first | (exact hle.1 (by omega)) | (exfalso; omega) | assumption | simp_all⟩), hI.2⟩
                  · exact (Sub.consE rfl (by first | rfl | (congr 1; omega) | (simp; done)) (Sub.consE rfl (by first | rfl | (congr 1; omega) | (simp; done)) .nil))
                  · exact (SubM.cells rfl (by first | rfl | (simp; done)) (SubM.ro rfl (by first | rfl | (simp [iv, bv, yv, tv, sv]; done)) .nil))
        ·
          refine J.exit ?_
          refine JE.seqX ?_
          refine JE.cutX ?_
          refine JE.blockHit ?_
          refine JE.seqN ?_
          refine J.seq ?_
          refine J.reg ?_
          refine WL.rd (RD.assign rfl) rfl rfl ?_
          refine WL.nil ?_
          refine JE.seqN ?_
          refine J.ret ?_
          refine JE.ret rfl (.tmp rfl .nil) (fun w hS => ?_)
          first | (exact CS.fin hS (mk_false (fun h => by obtain ⟨h1, h2, h3, _⟩ := h; omega))) | (exact CS.fin hS (mk_false (fun h => by obtain ⟨h1, h2, h3, h4⟩ := h.2.2.2 k (by omega); first | omega | (have h5 := hle.2 (h4 (by omega)); omega) | exact absurd (h4 (by omega)) (by assumption)))) | (exact CS.fin hS (mk_true ⟨by omega, by omega, by omega, fun j hj => hI.1 j (by omega)⟩))
theorem copyGraph_c (n : Int) (v : Value) (xs : List (Int × Int)) (w : World) (hr : Rd w v 2 (xs.map bv)) (hl : xs.length ≤ 1048576) :
    CN Try.prog 70 [.agg #[.int .i64 n, v]] w Value (fun _ => True) (fun u => .agg #[.int .i64 n, u]) (fun u => [.row u 67 2 (xs.map bv)]) := by
  refine calls_of_J (mu := (fun _ => False)) (m := [.ro v 2 (xs.map bv)]) (e := [(0, .agg #[.int .i64 n, v])]) Try.func70 rfl rfl (.cons rfl .nil) (((St.init _ _).ro0 hr (by decide))) ?_
  refine J.seq ?_
  refine J.reg ?_
  refine WL.efS (EF.boxA rfl) rfl rfl ?_
  intro b1 _
  refine WL.efS (EF.allocA) rfl rfl ?_
  intro b2 _
  refine WL.nil ?_
  refine JE.seqN ?_
  refine J.seq ?_
  refine J.anyAll [7] ?_
  refine WA.takeP 0 rfl (RDP.of fun _ => RD.fieldC rfl rfl) rfl (by kernel_rfl) rfl ?_
  refine WA.take 1 rfl (RD.loadC rfl rfl) rfl (by kernel_rfl) rfl ?_
  refine WA.takeP 3 rfl (RDP.of fun _ => RD.fieldC rfl rfl) rfl (by kernel_rfl) rfl ?_
  refine WA.take 4 rfl (RD.loadC rfl rfl) rfl (by kernel_rfl) rfl ?_
  refine WA.one (i := 2) (by kernel_rfl) ?_
  refine WAi.efS rfl (by exact EF.build0) rfl rfl (fun _ => SubI.sub) ?_
  intro v5 _
  refine WA.one (i := 5) (by kernel_rfl) ?_
  refine WAi.efS rfl (EF.append rfl rfl (by omega) rfl rfl rfl) rfl rfl (fun _ => SubI.sub) ?_
  intro v8 _
  refine WA.takeP 6 rfl (RDP.build (n := 2) (.cons rfl (.cons rfl .nil)) rfl) rfl (by kernel_rfl) rfl ?_
  refine WA.one (i := 7) (by kernel_rfl) ?_
  refine WAi.efNL rfl (EF.storeA rfl rfl rfl rfl) rfl rfl ?_
  rintro ⟨⟩ -
  refine WB.done (by kernel_rfl) ?_
  refine JE.seqN ?_
  refine J.ret ?_
  refine JE.ret rfl (ResL.flat rfl rfl .nil) (fun w hS => ?_)
  exact CN.fin hS v8 rfl trivial (SubM.row rfl rfl rfl .nil) (by simp [En.rdb])
theorem l2Copy_c (n : Int) (v : Value) (xs : List (Int × Int)) (w : World) (hr : Rd w v 2 (xs.map bv)) (hl : xs.length ≤ 1048576) :
    CN Try.prog 68 [.agg #[.int .i64 n, v]] w Value (fun _ => True) (fun u => .agg #[.int .i64 n, u]) (fun u => [.row u 67 2 (xs.map bv)]) := by
  refine calls_of_J (mu := (fun _ => False)) (m := [.ro v 2 (xs.map bv)]) (e := [(0, .agg #[.int .i64 n, v])]) Try.func68 rfl rfl (.cons rfl .nil) (((St.init _ _).ro0 hr (by decide))) ?_
  refine J.seq ?_
  refine J.reg ?_
  refine WL.efS (EF.boxA rfl) rfl rfl ?_
  intro b1 _
  refine WL.efS (EF.allocA) rfl rfl ?_
  intro b2 _
  refine WL.nil ?_
  refine JE.seqN ?_
  refine J.seq ?_
  refine J.anyAll [7] ?_
  refine WA.takeP 0 rfl (RDP.of fun _ => RD.fieldC rfl rfl) rfl (by kernel_rfl) rfl ?_
  refine WA.take 1 rfl (RD.loadC rfl rfl) rfl (by kernel_rfl) rfl ?_
  refine WA.takeP 3 rfl (RDP.of fun _ => RD.fieldC rfl rfl) rfl (by kernel_rfl) rfl ?_
  refine WA.take 4 rfl (RD.loadC rfl rfl) rfl (by kernel_rfl) rfl ?_
  refine WA.one (i := 2) (by kernel_rfl) ?_
  refine WAi.efS rfl (by exact EF.build0) rfl rfl (fun _ => SubI.sub) ?_
  intro v5 _
  refine WA.one (i := 5) (by kernel_rfl) ?_
  refine WAi.efS rfl (EF.append rfl rfl (by omega) rfl rfl rfl) rfl rfl (fun _ => SubI.sub) ?_
  intro v8 _
  refine WA.takeP 6 rfl (RDP.build (n := 2) (.cons rfl (.cons rfl .nil)) rfl) rfl (by kernel_rfl) rfl ?_
  refine WA.one (i := 7) (by kernel_rfl) ?_
  refine WAi.efNL rfl (EF.storeA rfl rfl rfl rfl) rfl rfl ?_
  rintro ⟨⟩ -
  refine WB.done (by kernel_rfl) ?_
  refine JE.seqN ?_
  refine J.ret ?_
  refine JE.ret rfl (ResL.flat rfl rfl .nil) (fun w hS => ?_)
  exact CN.fin hS v8 rfl trivial (SubM.row rfl rfl rfl .nil) (by simp [En.rdb])
theorem iRemoveBar_c (n : Int) (v : Value) (xs : List (Int × Int)) (i : Int) (w : World) (hr : Rd w v 2 (xs.map bv)) (hl : xs.length ≤ 1048576) :
    CN Try.prog 62 [.agg #[.int .i64 n, v], .int .i64 i] w Value (fun _ => True) (fun u => .tuple #[.agg #[.int .i64 n, u], .bool (decide (isG n xs ∧ 0 ≤ i ∧ i < xs.length))]) (fun u => [.row u 67 2 ((rmB n xs i).map bv)]) := by
  refine calls_of_J (mu := (fun _ => False)) (m := [.ro v 2 (xs.map bv)]) (e := [(0, .agg #[.int .i64 n, v]), (1, .int .i64 i)]) Try.func62 rfl rfl (.cons rfl (.cons rfl .nil)) (((St.init _ _).ro0 hr (by decide))) ?_
  refine J.seq ?_
  refine J.reg ?_
  refine WL.efS (EF.boxA rfl) rfl rfl ?_
  intro b2 _
  refine WL.efS (EF.allocA) rfl rfl ?_
  intro b4 _
  refine WL.rd (RD.assign rfl) rfl rfl ?_
  refine WL.nil ?_
  refine JE.seqN ?_
  refine J.seq ?_
  refine J.reg ?_
  refine WL.rd (RD.loadA rfl rfl) rfl rfl ?_
  refine WL.efS (EF.callN (.cons rfl .nil) (fun w hS => copyGraph_c _ _ _ _ (by exact RdI.rd hS) (by omega))) rfl rfl ?_
  rintro v8 -
  refine WL.efS (EF.allocA) rfl rfl ?_
  intro b6 _
  refine WL.efN (EF.storeA rfl rfl rfl rfl) rfl ?_
  rintro ⟨⟩ -
  refine WL.nil ?_
  refine JE.seqN ?_
  refine J.seq ?_
  refine J.seq ?_
  refine J.reg ?_
  refine WL.rd (RD.loadA rfl rfl) rfl rfl ?_
  refine WL.efS (EF.callS (.cons rfl .nil) (fun w hS => iIsGraph_c _ _ _ _ (by exact RdI.rd hS))) rfl rfl ?_
  rintro ⟨⟩ -
  refine WL.rd (RD.notP rfl) rfl rfl ?_
  refine WL.rd (RD.move rfl) rfl rfl ?_
  refine WL.caseP 12 rfl (fun hg12 => ?_) (fun hg12 => ?_)
  ·
    refine WL.noS rfl rfl ?_
    refine WL.noS rfl rfl ?_
    refine WL.noS rfl rfl ?_
    refine WL.noS rfl rfl ?_
    refine WL.noS rfl rfl ?_
    refine WL.noS rfl rfl ?_
    refine WL.noS rfl rfl ?_
    refine WL.rd (RD.pickT rfl rfl) rfl rfl ?_
    refine WL.nil ?_
    refine JE.seqN ?_
    refine J.condT rfl ?_
    refine J.seq ?_
    refine J.reg ?_
    refine WL.rd (RD.loadA rfl rfl) rfl rfl ?_
    refine WL.efN (EF.storeA rfl rfl rfl rfl) rfl ?_
    rintro ⟨⟩ -
    refine WL.rd (RD.assign rfl) rfl rfl ?_
    refine WL.nil ?_
    refine JE.seqN ?_
    refine J.ret ?_
    refine JE.ret rfl (ResL.flat rfl rfl (.tmp rfl .nil)) (fun w hS => ?_)
    have hno : ¬ (isG n xs ∧ 0 ≤ i ∧ i < xs.length) := fun hh => by first | exact absurd hh.1 (by assumption) | (have h1 := hh.2; omega)
    exact CN.fin hS v8 (by rw [decide_eq_false hno]; rfl) trivial (SubM.row rfl rfl (by unfold rmB; rw [if_neg hno]) .nil) (by simp [En.rdb])
  ·
    refine WL.rd (RD.move rfl) rfl rfl ?_
    refine WL.rd (RD.fieldC rfl rfl) rfl rfl ?_
    refine WL.rd (RD.loadC rfl rfl) rfl rfl ?_
    refine WL.rd (RD.lenR rfl) rfl rfl ?_
    refine WL.rd (RD.sub rfl rfl (by omega) (by omega)) rfl rfl ?_
    refine WL.efS (EF.callS (.cons rfl (.cons rfl (.cons rfl .nil))) (fun w hS => within_c _ _ _ _)) rfl rfl ?_
    rintro ⟨⟩ -
    refine WL.rd (RD.notP rfl) rfl rfl ?_
    refine WL.rd (RD.pickF rfl rfl) rfl rfl ?_
    refine WL.nil ?_
    refine JE.seqN ?_
    refine J.condP rfl (fun hc20 => ?_) (fun hc20 => ?_)
    ·
      refine J.seq ?_
      refine J.reg ?_
      refine WL.rd (RD.loadA rfl rfl) rfl rfl ?_
      refine WL.efN (EF.storeA rfl rfl rfl rfl) rfl ?_
      rintro ⟨⟩ -
      refine WL.rd (RD.assign rfl) rfl rfl ?_
      refine WL.nil ?_
      refine JE.seqN ?_
      refine J.ret ?_
      refine JE.ret rfl (ResL.flat rfl rfl (.tmp rfl .nil)) (fun w hS => ?_)
      have hno : ¬ (isG n xs ∧ 0 ≤ i ∧ i < xs.length) := fun hh => by first | exact absurd hh.1 (by assumption) | (have h1 := hh.2; omega)
      exact CN.fin hS v8 (by rw [decide_eq_false hno]; rfl) trivial (SubM.row rfl rfl (by unfold rmB; rw [if_neg hno]) .nil) (by simp [En.rdb])
    ·
      refine J.skip ?_
      refine JE.seqN ?_
      refine J.seq ?_
      refine J.anyDrop [11] (v8) ?_
      refine WA.takeP 0 rfl (RDP.of fun _ => RD.fieldC rfl rfl) rfl (by kernel_rfl) rfl ?_
      refine WA.take 1 rfl (RD.loadC rfl rfl) rfl (by kernel_rfl) rfl ?_
      refine WA.takeP 2 rfl (RDP.of fun _ => RD.move rfl) rfl (by kernel_rfl) rfl ?_
      refine WA.takeP 3 rfl (RDP.sliceR (l := 0) (u := i.toNat) rfl rfl ⟨_, _, rfl, (by first | rfl | (simp; done) | omega)⟩ (by omega) (by omega) rfl) rfl (by kernel_rfl) rfl ?_
      refine WA.takeP 4 rfl (RDP.of fun _ => RD.fieldC rfl rfl) rfl (by kernel_rfl) rfl ?_
      refine WA.take 5 rfl (RD.loadC rfl rfl) rfl (by kernel_rfl) rfl ?_
      refine WA.takeP 6 rfl (RDP.of fun _ => RD.move rfl) rfl (by kernel_rfl) rfl ?_
      refine WA.takeP 7 rfl (RDP.of fun _ => RD.add rfl rfl (by omega) (by omega)) rfl (by kernel_rfl) rfl ?_
      refine WA.takeP 8 rfl (RDP.sliceR (l := i.toNat + 1) (u := xs.length) rfl ⟨_, _, rfl, (by first | rfl | (simp; done) | omega)⟩ rfl (by omega) (by omega) rfl) rfl (by kernel_rfl) rfl ?_
      refine WA.one (i := 9) (by kernel_rfl) ?_
      refine WAi.efS rfl (EF.appendSl rfl rfl (by omega) (by omega) rfl rfl rfl) rfl rfl (fun _ => SubI.sub) ?_
      intro v31 _
      refine WA.takeP 10 rfl (RDP.of fun _ => RD.fieldC rfl rfl) rfl (by kernel_rfl) rfl ?_
      refine WA.one (i := 11) (by kernel_rfl) ?_
      refine WAi.efNL rfl (EF.storeC rfl rfl rfl) rfl rfl ?_
      rintro ⟨⟩ -
      refine WB.done (by kernel_rfl) ?_
      refine JE.seqN ?_
      refine J.seq ?_
      refine J.reg ?_
      refine WL.rd (RD.loadA rfl rfl) rfl rfl ?_
      refine WL.efN (EF.storeA rfl rfl rfl rfl) rfl ?_
      rintro ⟨⟩ -
      refine WL.rd (RD.assign rfl) rfl rfl ?_
      refine WL.nil ?_
      refine JE.seqN ?_
      refine J.ret ?_
      refine JE.ret rfl (ResL.flat rfl rfl (.tmp rfl .nil)) (fun w hS => ?_)
      have hyes : isG n xs ∧ 0 ≤ i ∧ i < xs.length := ⟨by first | assumption | exact Decidable.not_not.1 (by assumption), by omega, by omega⟩
      exact CN.fin hS v31 (by rw [decide_eq_true hyes]; rfl) trivial (SubM.row rfl rfl (by unfold rmB; rw [if_pos hyes]; simp) .nil) (by simp [En.rdb])
theorem sRemoveBar_c (n : Int) (v : Value) (xs : List (Int × Int)) (i : Int) (w : World) (hr : Rd w v 2 (xs.map bv)) (hl : xs.length ≤ 1048576) :
    CN Try.prog 61 [.agg #[.int .i64 n, v], .int .i64 i] w Value (fun _ => True) (fun u => .tuple #[.agg #[.int .i64 n, u], .bool (decide (isG n xs ∧ 0 ≤ i ∧ i < xs.length))]) (fun u => [.row u 67 2 ((rmB n xs i).map bv)]) := by
  refine calls_of_J (mu := (fun _ => False)) (m := [.ro v 2 (xs.map bv)]) (e := [(0, .agg #[.int .i64 n, v]), (1, .int .i64 i)]) Try.func61 rfl rfl (.cons rfl (.cons rfl .nil)) (((St.init _ _).ro0 hr (by decide))) ?_
  refine J.seq ?_
  refine J.reg ?_
  refine WL.efS (EF.boxA rfl) rfl rfl ?_
  intro b2 _
  refine WL.efS (EF.allocA) rfl rfl ?_
  intro b4 _
  refine WL.rd (RD.assign rfl) rfl rfl ?_
  refine WL.nil ?_
  refine JE.seqN ?_
  refine J.seq ?_
  refine J.seq ?_
  refine J.reg ?_
  refine WL.rd (RD.loadA rfl rfl) rfl rfl ?_
  refine WL.efS (EF.callS (.cons rfl .nil) (fun w hS => sIsGraph_c _ _ _ _ (by exact RdI.rd hS))) rfl rfl ?_
  rintro ⟨⟩ -
  refine WL.rd (RD.notP rfl) rfl rfl ?_
  refine WL.rd (RD.move rfl) rfl rfl ?_
  refine WL.caseP 9 rfl (fun hg9 => ?_) (fun hg9 => ?_)
  ·
    refine WL.noS rfl rfl ?_
    refine WL.noS rfl rfl ?_
    refine WL.rd (RD.pickT rfl rfl) rfl rfl ?_
    refine WL.rd (RD.move rfl) rfl rfl ?_
    refine WL.noS rfl rfl ?_
    refine WL.noS rfl rfl ?_
    refine WL.noS rfl rfl ?_
    refine WL.noS rfl rfl ?_
    refine WL.noS rfl rfl ?_
    refine WL.rd (RD.pickT rfl rfl) rfl rfl ?_
    refine WL.nil ?_
    refine JE.seqN ?_
    refine J.condT rfl ?_
    refine J.seq ?_
    refine J.reg ?_
    refine WL.rd (RD.loadA rfl rfl) rfl rfl ?_
    refine WL.efS (EF.callN (.cons rfl .nil) (fun w hS => l2Copy_c _ _ _ _ (by exact RdI.rd hS) (by omega))) rfl rfl ?_
    rintro v21 -
    refine WL.efN (EF.storeA rfl rfl rfl rfl) rfl ?_
    rintro ⟨⟩ -
    refine WL.rd (RD.assign rfl) rfl rfl ?_
    refine WL.nil ?_
    refine JE.seqN ?_
    refine J.ret ?_
    refine JE.ret rfl (ResL.flat rfl rfl (.tmp rfl .nil)) (fun w hS => ?_)
    have hno : ¬ (isG n xs ∧ 0 ≤ i ∧ i < xs.length) := fun hh => by first | exact absurd hh.1 (by assumption) | (have h1 := hh.2; omega)
    exact CN.fin hS v21 (by rw [decide_eq_false hno]; rfl) trivial (SubM.row rfl rfl (by unfold rmB; rw [if_neg hno]) .nil) (by simp [En.rdb])
  ·
    refine WL.rd (RD.move rfl) rfl rfl ?_
    refine WL.rd (RD.lss rfl rfl) rfl rfl ?_
    refine WL.rd (RD.pickF rfl rfl) rfl rfl ?_
    refine WL.rd (RD.move rfl) rfl rfl ?_
    refine WL.caseP 13 rfl (fun hg13 => ?_) (fun hg13 => ?_)
    ·
      refine WL.noS rfl rfl ?_
      refine WL.noS rfl rfl ?_
      refine WL.noS rfl rfl ?_
      refine WL.noS rfl rfl ?_
      refine WL.noS rfl rfl ?_
      refine WL.rd (RD.pickT rfl rfl) rfl rfl ?_
      refine WL.nil ?_
      refine JE.seqN ?_
      refine J.condT rfl ?_
      refine J.seq ?_
      refine J.reg ?_
      refine WL.rd (RD.loadA rfl rfl) rfl rfl ?_
      refine WL.efS (EF.callN (.cons rfl .nil) (fun w hS => l2Copy_c _ _ _ _ (by exact RdI.rd hS) (by omega))) rfl rfl ?_
      rintro v21 -
      refine WL.efN (EF.storeA rfl rfl rfl rfl) rfl ?_
      rintro ⟨⟩ -
      refine WL.rd (RD.assign rfl) rfl rfl ?_
      refine WL.nil ?_
      refine JE.seqN ?_
      refine J.ret ?_
      refine JE.ret rfl (ResL.flat rfl rfl (.tmp rfl .nil)) (fun w hS => ?_)
      have hno : ¬ (isG n xs ∧ 0 ≤ i ∧ i < xs.length) := fun hh => by first | exact absurd hh.1 (by assumption) | (have h1 := hh.2; omega)
      exact CN.fin hS v21 (by rw [decide_eq_false hno]; rfl) trivial (SubM.row rfl rfl (by unfold rmB; rw [if_neg hno]) .nil) (by simp [En.rdb])
    ·
      refine WL.rd (RD.move rfl) rfl rfl ?_
      refine WL.rd (RD.fieldC rfl rfl) rfl rfl ?_
      refine WL.rd (RD.loadC rfl rfl) rfl rfl ?_
      refine WL.rd (RD.lenR rfl) rfl rfl ?_
      refine WL.rd (RD.geq rfl rfl) rfl rfl ?_
      refine WL.rd (RD.pickF rfl rfl) rfl rfl ?_
      refine WL.nil ?_
      refine JE.seqN ?_
      refine J.condP rfl (fun hc19 => ?_) (fun hc19 => ?_)
      ·
        refine J.seq ?_
        refine J.reg ?_
        refine WL.rd (RD.loadA rfl rfl) rfl rfl ?_
        refine WL.efS (EF.callN (.cons rfl .nil) (fun w hS => l2Copy_c _ _ _ _ (by exact RdI.rd hS) (by omega))) rfl rfl ?_
        rintro v21 -
        refine WL.efN (EF.storeA rfl rfl rfl rfl) rfl ?_
        rintro ⟨⟩ -
        refine WL.rd (RD.assign rfl) rfl rfl ?_
        refine WL.nil ?_
        refine JE.seqN ?_
        refine J.ret ?_
        refine JE.ret rfl (ResL.flat rfl rfl (.tmp rfl .nil)) (fun w hS => ?_)
        have hno : ¬ (isG n xs ∧ 0 ≤ i ∧ i < xs.length) := fun hh => by first | exact absurd hh.1 (by assumption) | (have h1 := hh.2; omega)
        exact CN.fin hS v21 (by rw [decide_eq_false hno]; rfl) trivial (SubM.row rfl rfl (by unfold rmB; rw [if_neg hno]) .nil) (by simp [En.rdb])
      ·
        refine J.skip ?_
        refine JE.seqN ?_
        refine J.seq ?_
        refine J.anyAll [15, 16] ?_
        refine WA.takeP 0 rfl (RDP.of fun _ => RD.fieldC rfl rfl) rfl (by kernel_rfl) rfl ?_
        refine WA.take 1 rfl (RD.loadC rfl rfl) rfl (by kernel_rfl) rfl ?_
        refine WA.takeP 3 rfl (RDP.of fun _ => RD.fieldC rfl rfl) rfl (by kernel_rfl) rfl ?_
        refine WA.take 4 rfl (RD.loadC rfl rfl) rfl (by kernel_rfl) rfl ?_
        refine WA.takeP 5 rfl (RDP.of fun _ => RD.move rfl) rfl (by kernel_rfl) rfl ?_
        refine WA.takeP 6 rfl (RDP.sliceR (l := 0) (u := i.toNat) rfl rfl ⟨_, _, rfl, (by first | rfl | (simp; done) | omega)⟩ (by omega) (by omega) rfl) rfl (by kernel_rfl) rfl ?_
        refine WA.takeP 8 rfl (RDP.of fun _ => RD.fieldC rfl rfl) rfl (by kernel_rfl) rfl ?_
        refine WA.take 9 rfl (RD.loadC rfl rfl) rfl (by kernel_rfl) rfl ?_
        refine WA.takeP 10 rfl (RDP.of fun _ => RD.move rfl) rfl (by kernel_rfl) rfl ?_
        refine WA.takeP 11 rfl (RDP.of fun _ => RD.add rfl rfl (by omega) (by omega)) rfl (by kernel_rfl) rfl ?_
        refine WA.takeP 12 rfl (RDP.sliceR (l := i.toNat + 1) (u := xs.length) rfl ⟨_, _, rfl, (by first | rfl | (simp; done) | omega)⟩ rfl (by omega) (by omega) rfl) rfl (by kernel_rfl) rfl ?_
        refine WA.one (i := 2) (by kernel_rfl) ?_
        refine WAi.efS rfl (by exact EF.build0) rfl rfl (fun _ => SubI.sub) ?_
        intro v24 _
        refine WA.one (i := 7) (by kernel_rfl) ?_
        refine WAi.efS rfl (EF.append rfl rfl (by omega) rfl rfl rfl) rfl rfl (fun _ => SubI.sub) ?_
        intro v29 _
        refine WA.one (i := 13) (by kernel_rfl) ?_
        refine WAi.efS rfl (EF.append rfl rfl (by omega) rfl rfl rfl) rfl rfl (fun _ => SubI.sub) ?_
        intro v35 _
        refine WA.takeP 14 rfl (RDP.build (n := 2) (.cons rfl (.cons rfl .nil)) rfl) rfl (by kernel_rfl) rfl ?_
        refine WA.one (i := 15) (by kernel_rfl) ?_
        refine WAi.efNL rfl (EF.storeA rfl rfl rfl rfl) rfl rfl ?_
        rintro ⟨⟩ -
        refine WB.takeP 16 rfl (RDP.of fun _ => RD.assign rfl) rfl (by kernel_rfl) rfl ?_
        refine WB.done (by kernel_rfl) ?_
        refine JE.seqN ?_
        refine J.ret ?_
        refine JE.ret rfl (ResL.flat rfl rfl (.tmp rfl .nil)) (fun w hS => ?_)
        have hyes : isG n xs ∧ 0 ≤ i ∧ i < xs.length := ⟨by first | assumption | exact Decidable.not_not.1 (by assumption), by omega, by omega⟩
        exact CN.fin hS v35 (by rw [decide_eq_true hyes]; rfl) trivial (SubM.row rfl rfl (by unfold rmB; rw [if_pos hyes]; simp) .nil) (by simp [En.rdb])
theorem l2Has_c (v : Value) (xs : List Int) (x : Int) (w : World) (hr : Rd w v 1 (xs.map iv)) :
    CS Try.prog 76 [v, .int .i64 x] w (.bool (decide (x ∈ xs))) := by
  have hl_xs : xs.length ≤ 9223372036854775807 := (by obtain ⟨_, _, _, hh, _⟩ := hr.shape; simpa using hh)
  refine calls_of_J (mu := (fun _ => False)) (m := [.ro v 1 (xs.map iv)]) (e := [(0, v), (1, .int .i64 x)]) Try.func76 rfl rfl (.cons rfl (.cons rfl .nil)) (((St.init _ _).ro0 hr (by decide))) ?_
  refine J.seq ?_
  refine J.reg ?_
  refine WL.rd (RD.assign rfl) rfl rfl ?_
  refine WL.nil ?_
  refine JE.seqN ?_
  refine J.seq ?_
  refine J.seq ?_
  refine J.reg ?_
  refine WL.rd (RD.assign rfl) rfl rfl ?_
  refine WL.nil ?_
  refine JE.seqN ?_
  refine J.block ?_
  refine J.loop (fun gg ee mm => ∃ (k : Nat), gg = xs.length - k ∧ ((x ∉ xs.take k)) ∧ ee = [(0, v), (1, .int .i64 x), (5, .int .i64 (k : Int))] ∧ mm = [.ro v 1 (xs.map iv)]) _ ⟨0, rfl, ?_, rfl, rfl⟩ ?_ ?_ ?_
  · simp
  · exact (Sub.consE rfl (by first | rfl | (congr 1; omega) | (simp; done)) (Sub.consE rfl (by first | rfl | (congr 1; omega) | (simp; done)) (Sub.consE rfl (by first | rfl | (congr 1; omega) | (simp; done)) .nil)))
  · exact (SubM.ro rfl (by first | rfl | (simp [iv, bv, yv, tv, sv]; done)) .nil)
  · rintro g _ _ ⟨k, rfl, hI, rfl, rfl⟩
    refine J.seq ?_
    refine J.seq ?_
    refine J.reg ?_
    refine WL.rd (RD.move rfl) rfl rfl ?_
    refine WL.rd (RD.move rfl) rfl rfl ?_
    refine WL.rd (RD.lenR rfl) rfl rfl ?_
    refine WL.rd (RD.lss rfl rfl) rfl rfl ?_
    refine WL.nil ?_
    refine JE.seqN ?_
    refine J.condP rfl (fun hc9 => ?_) (fun hc9 => ?_)
    ·
      refine J.skip ?_
      refine JE.seqN ?_
      refine J.seq ?_
      refine J.block ?_
      refine J.seq ?_
      refine J.reg ?_
      refine WL.rd (RD.move rfl) rfl rfl ?_
      refine WL.rd (RD.move rfl) rfl rfl ?_
      refine WL.rd (RD.idx rfl rfl (by omega) rfl) rfl rfl ?_
      refine WL.rd (RD.loadE rfl (by omega) rfl) rfl rfl ?_
      refine WL.rd (RD.move rfl) rfl rfl ?_
      refine WL.rd (RD.eql rfl rfl) rfl rfl ?_
      refine WL.nil ?_
      refine JE.seqN ?_
      refine J.condP rfl (fun hc17 => ?_) (fun hc17 => ?_)
      ·
        refine J.seq ?_
        refine J.reg ?_
        refine WL.rd (RD.assign rfl) rfl rfl ?_
        refine WL.nil ?_
        refine JE.seqN ?_
        refine J.ret ?_
        refine JE.ret rfl (.tmp rfl .nil) (fun w hS => ?_)
        exact CS.fin hS (mk_true (by rw [← hc17]; have hk : k < xs.length := (by omega); simp [hk]))
      ·
        refine J.skip ?_
        refine JE.blockN ?_
        refine JE.seqN ?_
        refine J.reg ?_
        refine WL.rd (RD.move rfl) rfl rfl ?_
        refine WL.rd (RD.add rfl rfl (by omega) (by omega)) rfl rfl ?_
        refine WL.rd (RD.assign rfl) rfl rfl ?_
        refine WL.nil ?_
        refine JE.cutN ⟨_, ?_, k + 1, rfl, ?_, rfl, rfl⟩ ?_ ?_
        · omega
        · rw [mem_take_succ default xs k (by omega)]; exact fun hh => hh.elim hI (fun h => hc17 h.symm)
        · exact (Sub.consE rfl (by first | rfl | (congr 1; omega) | (simp; done)) (Sub.consE rfl (by first | rfl | (congr 1; omega) | (simp; done)) (Sub.consE rfl (by first | rfl | (congr 1; omega) | (simp; done)) .nil)))
        · exact (SubM.ro rfl (by first | rfl | (simp [iv, bv, yv, tv, sv]; done)) .nil)
    ·
      refine J.exit ?_
      refine JE.seqX ?_
      refine JE.cutX ?_
      refine JE.blockHit ?_
      refine JE.seqN ?_
      refine J.seq ?_
      refine J.reg ?_
      refine WL.rd (RD.assign rfl) rfl rfl ?_
      refine WL.nil ?_
      refine JE.seqN ?_
      refine J.ret ?_
      refine JE.ret rfl (.tmp rfl .nil) (fun w hS => ?_)
      exact CS.fin hS (mk_false (by rwa [List.take_of_length_le (by omega)] at hI))
theorem slIndex_c (v : Value) (xs : List Int) (x : Int) (w : World) (hr : Rd w v 1 (xs.map iv)) :
    CN Try.prog 95 [v, .int .i64 x] w Int (fun r => 0 ≤ r ↔ x ∈ xs) (fun r => .int .i64 r) (fun _ => []) := by
  have hl_xs : xs.length ≤ 9223372036854775807 := (by obtain ⟨_, _, _, hh, _⟩ := hr.shape; simpa using hh)
  refine calls_of_J (mu := (fun _ => False)) (m := [.ro v 1 (xs.map iv)]) (e := [(0, v), (1, .int .i64 x)]) Try.func95 rfl rfl (.cons rfl (.cons rfl .nil)) (((St.init _ _).ro0 hr (by decide))) ?_
  refine J.seq ?_
  refine J.reg ?_
  refine WL.rd (RD.assign rfl) rfl rfl ?_
  refine WL.nil ?_
  refine JE.seqN ?_
  refine J.seq ?_
  refine J.seq ?_
  refine J.reg ?_
  refine WL.rd (RD.move rfl) rfl rfl ?_
  refine WL.rd (RD.lenR rfl) rfl rfl ?_
  refine WL.rd (RD.move rfl) rfl rfl ?_
  refine WL.nil ?_
  refine JE.seqN ?_
  refine J.block ?_
  refine J.loop (fun gg ee mm => ∃ (k : Nat), gg = xs.length - k ∧ ((x ∉ xs.take k)) ∧ ee = [(0, v), (1, .int .i64 x), (7, .int .i64 (xs.length : Int)), (8, .int .i64 (k : Int))] ∧ mm = [.ro v 1 (xs.map iv)]) _ ⟨0, rfl, ?_, rfl, rfl⟩ ?_ ?_ ?_
  · simp
  · exact (Sub.consE rfl (by first | rfl | (congr 1; omega) | (simp; done)) (Sub.consE rfl (by first | rfl | (congr 1; omega) | (simp; done)) (Sub.consE rfl (by first | rfl | (congr 1; omega) | (simp; done)) (Sub.consE rfl (by first | rfl | (congr 1; omega) | (simp; done)) .nil))))
  · exact (SubM.ro rfl (by first | rfl | (simp [iv, bv, yv, tv, sv]; done)) .nil)
  · rintro g _ _ ⟨k, rfl, hI, rfl, rfl⟩
    refine J.seq ?_
    refine J.reg ?_
    refine WL.rd (RD.lss rfl rfl) rfl rfl ?_
    refine WL.nil ?_
    refine JE.seqN ?_
    refine J.seq ?_
    refine J.condP rfl (fun hc9 => ?_) (fun hc9 => ?_)
    ·
      refine J.skip ?_
      refine JE.seqN ?_
      refine J.seq ?_
      refine J.block ?_
      refine J.seq ?_
      refine J.reg ?_
      refine WL.rd (RD.move rfl) rfl rfl ?_
      refine WL.rd (RD.assign rfl) rfl rfl ?_
      refine WL.nil ?_
      refine JE.seqN ?_
      refine J.seq ?_
      refine J.reg ?_
      refine WL.rd (RD.move rfl) rfl rfl ?_
      refine WL.rd (RD.move rfl) rfl rfl ?_
      refine WL.rd (RD.move rfl) rfl rfl ?_
      refine WL.rd (RD.idx rfl rfl (by omega) rfl) rfl rfl ?_
      refine WL.rd (RD.loadE rfl (by omega) rfl) rfl rfl ?_
      refine WL.rd (RD.eql rfl rfl) rfl rfl ?_
      refine WL.nil ?_
      refine JE.seqN ?_
      refine J.condP rfl (fun hc16 => ?_) (fun hc16 => ?_)
      ·
        refine J.seq ?_
        refine J.reg ?_
        refine WL.rd (RD.move rfl) rfl rfl ?_
        refine WL.rd (RD.assign rfl) rfl rfl ?_
        refine WL.nil ?_
        refine JE.seqN ?_
        refine J.ret ?_
        refine JE.ret rfl (.tmp rfl .nil) (fun w hS => ?_)
        exact CN.fin hS (k : Int) rfl ⟨fun _ => by rw [hc16]; have hk : k < xs.length := (by omega); simp [hk], fun _ => by omega⟩ .nil (by simp)
      ·
        refine J.skip ?_
        refine JE.blockN ?_
        refine JE.seqN ?_
        refine J.reg ?_
        refine WL.rd (RD.add rfl rfl (by omega) (by omega)) rfl rfl ?_
        refine WL.rd (RD.move rfl) rfl rfl ?_
        refine WL.nil ?_
        refine JE.cutN ⟨_, ?_, k + 1, rfl, ?_, rfl, rfl⟩ ?_ ?_
        · omega
        · rw [mem_take_succ default xs k (by omega)]; exact fun hh => hh.elim hI (fun h => hc16 h)
        · exact (Sub.consE rfl (by first | rfl | (congr 1; omega) | (simp; done)) (Sub.consE rfl (by first | rfl | (congr 1; omega) | (simp; done)) (Sub.consE rfl (by first | rfl | (congr 1; omega) | (simp; done)) (Sub.consE rfl (by first | rfl | (congr 1; omega) | (simp; done)) .nil))))
        · exact (SubM.ro rfl (by first | rfl | (simp [iv, bv, yv, tv, sv]; done)) .nil)
    ·
      refine J.exit ?_
      refine JE.seqX ?_
      refine JE.cutX ?_
      refine JE.blockHit ?_
      refine JE.seqN ?_
      refine J.seq ?_
      refine J.reg ?_
      refine WL.rd (RD.assign rfl) rfl rfl ?_
      refine WL.nil ?_
      refine JE.seqN ?_
      refine J.ret ?_
      refine JE.ret rfl (.tmp rfl .nil) (fun w hS => ?_)
      exact CN.fin hS (-1) rfl ⟨fun h => by omega, fun h => by rw [List.take_of_length_le (by omega)] at hI; exact absurd h hI⟩ .nil (by simp)
theorem slContains_c (v : Value) (xs : List Int) (x : Int) (w : World) (hr : Rd w v 1 (xs.map iv)) :
    CS Try.prog 79 [v, .int .i64 x] w (.bool (decide (x ∈ xs))) := by
  refine calls_of_J (mu := (fun _ => False)) (m := [.ro v 1 (xs.map iv)]) (e := [(0, v), (1, .int .i64 x)]) Try.func79 rfl rfl (.cons rfl (.cons rfl .nil)) (((St.init _ _).ro0 hr (by decide))) ?_
  refine J.seq ?_
  refine J.reg ?_
  refine WL.rd (RD.assign rfl) rfl rfl ?_
  refine WL.nil ?_
  refine JE.seqN ?_
  refine J.seq ?_
  refine J.reg ?_
  refine WL.rd (RD.move rfl) rfl rfl ?_
  refine WL.rd (RD.move rfl) rfl rfl ?_
  refine WL.efS (EF.callN (.cons rfl (.cons rfl .nil)) (fun w hS => slIndex_c _ _ _ _ (by exact RdI.rd hS))) rfl rfl ?_
  rintro r7 h7
  refine WL.rd (RD.geq rfl rfl) rfl rfl ?_
  refine WL.rd (RD.assign rfl) rfl rfl ?_
  refine WL.nil ?_
  refine JE.seqN ?_
  refine J.ret ?_
  refine JE.ret rfl (.tmp rfl .nil) (fun w hS => ?_)
  exact CS.fin hS (mk_dec h7)
theorem iOnlyBars_c (n : Int) (v : Value) (xs : List (Int × Int)) (vs : Value) (s : List Int) (w : World) (hr : Rd w v 2 (xs.map bv)) (hrs : Rd w vs 1 (s.map iv)) (hl : xs.length ≤ 1048576) :
    CN Try.prog 49 [.agg #[.int .i64 n, v], vs] w Value (fun _ => True) (fun u => .agg #[.int .i64 n, u]) (fun u => [.row u 67 2 ((onlyP (fun j => decide (j ∈ s)) xs xs.length).map bv)]) := by
  refine calls_of_J (mu := (fun _ => False)) (m := [.ro v 2 (xs.map bv), .ro vs 1 (s.map iv)]) (e := [(0, .agg #[.int .i64 n, v]), (1, vs)]) Try.func49 rfl rfl (.cons rfl (.cons rfl .nil)) ((((St.init _ _).ro0 hrs (by decide)).ro0 hr (by decide))) ?_
  refine J.seq ?_
  refine J.reg ?_
  refine WL.efS (EF.boxA rfl) rfl rfl ?_
  intro b2 _
  refine WL.efS (EF.allocA) rfl rfl ?_
  intro b4 _
  refine WL.nil ?_
  refine JE.seqN ?_
  refine J.seq ?_
  refine J.reg ?_
  refine WL.rd (RD.fieldC rfl rfl) rfl rfl ?_
  refine WL.rd (RD.loadC rfl rfl) rfl rfl ?_
  refine WL.rd (RD.build (n := 2) (.cons rfl .nil) rfl) rfl rfl ?_
  refine WL.efS (EF.allocA) rfl rfl ?_
  intro b5 _
  refine WL.efN (EF.storeA rfl rfl rfl rfl) rfl ?_
  rintro ⟨⟩ -
  refine WL.nil ?_
  refine JE.seqN ?_
  refine J.seq ?_
  refine J.seq ?_
  refine J.nilRow 67 2 ?_
  refine J.reg ?_
  refine WL.rd (RD.fieldC rfl rfl) rfl rfl ?_
  refine WL.rd (RD.loadC rfl rfl) rfl rfl ?_
  refine WL.rd (RD.lenR rfl) rfl rfl ?_
  refine WL.rd (RD.move rfl) rfl rfl ?_
  refine WL.nil ?_
  refine JE.seqN ?_
  refine J.block ?_
  refine J.loop (fun gg ee mm => ∃ (k : Nat), ∃ (u : Value), gg = xs.length - k ∧ ((k ≤ xs.length)) ∧ ee = [(1, vs), (4, .pointer (some ⟨b4, 0, none⟩)), (5, .pointer (some ⟨b5, 0, none⟩)), (12, v), (13, .int .i64 (xs.length : Int)), (14, .int .i64 (k : Int))] ∧ mm = [.cells b5 30 [.int .i64 n, u], .row u 67 2 ((onlyP (fun j => decide (j ∈ s)) xs k).map bv), .cells b4 30 [.int .i64 0, .slice none 0 0], .ro v 2 (xs.map bv), .ro vs 1 (s.map iv)]) _ ⟨0, .slice none 0 0, rfl, ?_, rfl, rfl⟩ ?_ ?_ ?_
  · first | omega | trivial | (refine ⟨?_, ?_⟩ <;> first | omega | rfl | simp)
  · exact (Sub.consE rfl (by first | rfl | (congr 1; omega) | (simp; done)) (Sub.consE rfl (by first | rfl | (congr 1; omega) | (simp; done)) (Sub.consE rfl (by first | rfl | (congr 1; omega) | (simp; done)) (Sub.consE rfl (by first | rfl | (congr 1; omega) | (simp; done)) (Sub.consE rfl (by first | rfl | (congr 1; omega) | (simp; done)) (Sub.consE rfl (by first | rfl | (congr 1; omega) | (simp; done)) .nil))))))
  · exact (SubM.cells rfl (by first | rfl | (simp; done)) (SubM.row rfl rfl (by simp [onlyP]) (SubM.cells rfl (by first | rfl | (simp; done)) (SubM.ro rfl (by first | rfl | (simp [iv, bv, yv, tv, sv]; done)) (SubM.ro rfl (by first | rfl | (simp [iv, bv, yv, tv, sv]; done)) .nil)))))
  · rintro g _ _ ⟨k, u, rfl, hI, rfl, rfl⟩
    have hol := onlyP_len (fun j => decide (j ∈ s)) xs k
    refine J.seq ?_
    refine J.reg ?_
    refine WL.rd (RD.lss rfl rfl) rfl rfl ?_
    refine WL.nil ?_
    refine JE.seqN ?_
    refine J.seq ?_
    refine J.condP rfl (fun hc15 => ?_) (fun hc15 => ?_)
    ·
      refine J.skip ?_
      refine JE.seqN ?_
      refine J.seq ?_
      refine J.block ?_
      refine J.seq ?_
      refine J.reg ?_
      refine WL.rd (RD.move rfl) rfl rfl ?_
      refine WL.rd (RD.idx rfl rfl (by omega) rfl) rfl rfl ?_
      refine WL.rd (RD.loadEA rfl (by omega) rfl) rfl rfl ?_
      refine WL.efS (EF.allocA) rfl rfl ?_
      intro b7 _
      refine WL.rd (RD.assign rfl) rfl rfl ?_
      refine WL.efN (EF.storeA rfl rfl rfl rfl) rfl ?_
      rintro ⟨⟩ -
      refine WL.nil ?_
      refine JE.seqN ?_
      refine J.seq ?_
      refine J.reg ?_
      refine WL.rd (RD.move rfl) rfl rfl ?_
      refine WL.rd (RD.move rfl) rfl rfl ?_
      refine WL.efS (EF.callS (.cons rfl (.cons rfl .nil)) (fun w hS => slContains_c _ _ _ _ (by exact RdI.rd hS))) rfl rfl ?_
      rintro ⟨⟩ -
      refine WL.nil ?_
      refine JE.seqN ?_
      refine J.condP rfl (fun hc21 => ?_) (fun hc21 => ?_)
      ·
        refine J.reg ?_
        refine WL.rd (RD.fieldC rfl rfl) rfl rfl ?_
        refine WL.rd (RD.loadC rfl rfl) rfl rfl ?_
        refine WL.rd (RD.loadA rfl rfl) rfl rfl ?_
        refine WL.efS (EF.build1P rfl) rfl rfl ?_
        intro v25 _
        refine WL.efS (EF.append rfl rfl (by omega) rfl rfl rfl) rfl rfl ?_
        intro v26 _
        refine WL.rd (RD.fieldC rfl rfl) rfl rfl ?_
        refine WL.efN (EF.storeC rfl rfl rfl) rfl ?_
        rintro ⟨⟩ -
        refine WL.nil ?_
        refine JE.blockN ?_
        refine JE.seqN ?_
        refine J.reg ?_
        refine WL.rd (RD.add rfl rfl (by omega) (by omega)) rfl rfl ?_
        refine WL.rd (RD.move rfl) rfl rfl ?_
        refine WL.nil ?_
        refine JE.cutN ⟨_, ?_, k + 1, v26, rfl, ?_, rfl, rfl⟩ ?_ ?_
        · omega
        · first | omega | trivial | (refine ⟨?_, ?_⟩ <;> first | omega | rfl | simp)
        · exact (Sub.consE rfl (by first | rfl | (congr 1; omega) | (simp; done)) (Sub.consE rfl (by first | rfl | (congr 1; omega) | (simp; done)) (Sub.consE rfl (by first | rfl | (congr 1; omega) | (simp; done)) (Sub.consE rfl (by first | rfl | (congr 1; omega) | (simp; done)) (Sub.consE rfl (by first | rfl | (congr 1; omega) | (simp; done)) (Sub.consE rfl (by first | rfl | (congr 1; omega) | (simp; done)) .nil))))))
        · exact (SubM.cells rfl (by first | rfl | (simp; done)) (SubM.row rfl rfl (by rw [onlyP_yes (fun j => decide (j ∈ s)) xs k (by simpa using hc21)]) (SubM.cells rfl (by first | rfl | (simp; done)) (SubM.ro rfl (by first | rfl | (simp [iv, bv, yv, tv, sv]; done)) (SubM.ro rfl (by first | rfl | (simp [iv, bv, yv, tv, sv]; done)) .nil)))))
      ·
        refine J.skip ?_
        refine JE.blockN ?_
        refine JE.seqN ?_
        refine J.reg ?_
        refine WL.rd (RD.add rfl rfl (by omega) (by omega)) rfl rfl ?_
        refine WL.rd (RD.move rfl) rfl rfl ?_
        refine WL.nil ?_
        refine JE.cutN ⟨_, ?_, k + 1, u, rfl, ?_, rfl, rfl⟩ ?_ ?_
        · omega
        · first | omega | trivial | (refine ⟨?_, ?_⟩ <;> first | omega | rfl | simp)
        · exact (Sub.consE rfl (by first | rfl | (congr 1; omega) | (simp; done)) (Sub.consE rfl (by first | rfl | (congr 1; omega) | (simp; done)) (Sub.consE rfl (by first | rfl | (congr 1; omega) | (simp; done)) (Sub.consE rfl (by first | rfl | (congr 1; omega) | (simp; done)) (Sub.consE rfl (by first | rfl | (congr 1; omega) | (simp; done)) (Sub.consE rfl (by first | rfl | (congr 1; omega) | (simp; done)) .nil))))))
        · exact (SubM.cells rfl (by first | rfl | (simp; done)) (SubM.row rfl rfl (by rw [onlyP_no (fun j => decide (j ∈ s)) xs k (by simpa using hc21)]) (SubM.cells rfl (by first | rfl | (simp; done)) (SubM.ro rfl (by first | rfl | (simp [iv, bv, yv, tv, sv]; done)) (SubM.ro rfl (by first | rfl | (simp [iv, bv, yv, tv, sv]; done)) .nil)))))
    ·
      refine J.exit ?_
      refine JE.seqX ?_
      refine JE.cutX ?_
      refine JE.blockHit ?_
      refine JE.seqN ?_
      refine J.seq ?_
      refine J.reg ?_
      refine WL.rd (RD.loadA rfl rfl) rfl rfl ?_
      refine WL.efN (EF.storeA rfl rfl rfl rfl) rfl ?_
      rintro ⟨⟩ -
      refine WL.nil ?_
      refine JE.seqN ?_
      refine J.ret ?_
      refine JE.ret rfl (ResL.flat rfl rfl .nil) (fun w hS => ?_)
      have hk : k = xs.length := by omega
      subst hk
      exact CN.fin hS u rfl trivial (SubM.row rfl rfl rfl .nil) (by simp [En.rdb])
theorem sOnlyBars_c (n : Int) (v : Value) (xs : List (Int × Int)) (vs : Value) (s : List Int) (w : World) (hr : Rd w v 2 (xs.map bv)) (hrs : Rd w vs 1 (s.map iv)) (hl : xs.length ≤ 1048576) :
    CN Try.prog 44 [.agg #[.int .i64 n, v], vs] w Value (fun _ => True) (fun u => .agg #[.int .i64 n, u]) (fun u => [.row u 67 2 ((onlyP (fun j => decide (j ∈ s)) xs xs.length).map bv)]) := by
  refine calls_of_J (mu := (fun _ => False)) (m := [.ro v 2 (xs.map bv), .ro vs 1 (s.map iv)]) (e := [(0, .agg #[.int .i64 n, v]), (1, vs)]) Try.func44 rfl rfl (.cons rfl (.cons rfl .nil)) ((((St.init _ _).ro0 hrs (by decide)).ro0 hr (by decide))) ?_
  refine J.seq ?_
  refine J.reg ?_
  refine WL.efS (EF.boxA rfl) rfl rfl ?_
  intro b2 _
  refine WL.efS (EF.allocA) rfl rfl ?_
  intro b4 _
  refine WL.nil ?_
  refine JE.seqN ?_
  refine J.seq ?_
  refine J.reg ?_
  refine WL.rd (RD.fieldC rfl rfl) rfl rfl ?_
  refine WL.rd (RD.loadC rfl rfl) rfl rfl ?_
  refine WL.efS (EF.build0) rfl rfl ?_
  intro v9 _
  refine WL.rd (RD.build (n := 2) (.cons rfl (.cons rfl .nil)) rfl) rfl rfl ?_
  refine WL.efS (EF.allocA) rfl rfl ?_
  intro b5 _
  refine WL.efN (EF.storeA rfl rfl rfl rfl) rfl ?_
  rintro ⟨⟩ -
  refine WL.nil ?_
  refine JE.seqN ?_
  refine J.seq ?_
  refine J.seq ?_
  refine J.reg ?_
  refine WL.rd (RD.assign rfl) rfl rfl ?_
  refine WL.nil ?_
  refine JE.seqN ?_
  refine J.block ?_
  refine J.loop (fun gg ee mm => ∃ (k : Nat), ∃ (u : Value), gg = xs.length - k ∧ ((k ≤ xs.length)) ∧ ee = [(1, vs), (2, .pointer (some ⟨b2, 0, none⟩)), (4, .pointer (some ⟨b4, 0, none⟩)), (5, .pointer (some ⟨b5, 0, none⟩)), (6, .int .i64 (k : Int))] ∧ mm = [.cells b5 30 [.int .i64 n, u], .row u 67 2 ((onlyP (fun j => decide (j ∈ s)) xs k).map bv), .cells b4 30 [.int .i64 0, .slice none 0 0], .ro v 2 (xs.map bv), .ro vs 1 (s.map iv), .cells b2 30 [.int .i64 n, v]]) _ ⟨0, v9, rfl, ?_, rfl, rfl⟩ ?_ ?_ ?_
  · first | omega | trivial | (refine ⟨?_, ?_⟩ <;> first | omega | rfl | simp)
  · exact (Sub.consE rfl (by first | rfl | (congr 1; omega) | (simp; done)) (Sub.consE rfl (by first | rfl | (congr 1; omega) | (simp; done)) (Sub.consE rfl (by first | rfl | (congr 1; omega) | (simp; done)) (Sub.consE rfl (by first | rfl | (congr 1; omega) | (simp; done)) (Sub.consE rfl (by first | rfl | (congr 1; omega) | (simp; done)) .nil)))))
  · exact (SubM.cells rfl (by first | rfl | (simp; done)) (SubM.row rfl rfl (by simp [onlyP]) (SubM.cells rfl (by first | rfl | (simp; done)) (SubM.ro rfl (by first | rfl | (simp [iv, bv, yv, tv, sv]; done)) (SubM.ro rfl (by first | rfl | (simp [iv, bv, yv, tv, sv]; done)) (SubM.cells rfl (by first | rfl | (simp; done)) .nil))))))
  · rintro g _ _ ⟨k, u, rfl, hI, rfl, rfl⟩
    have hol := onlyP_len (fun j => decide (j ∈ s)) xs k
    refine J.seq ?_
    refine J.seq ?_
    refine J.reg ?_
    refine WL.rd (RD.move rfl) rfl rfl ?_
    refine WL.rd (RD.fieldC rfl rfl) rfl rfl ?_
    refine WL.rd (RD.loadC rfl rfl) rfl rfl ?_
    refine WL.rd (RD.lenR rfl) rfl rfl ?_
    refine WL.rd (RD.lss rfl rfl) rfl rfl ?_
    refine WL.nil ?_
    refine JE.seqN ?_
    refine J.condP rfl (fun hc15 => ?_) (fun hc15 => ?_)
    ·
      refine J.skip ?_
      refine JE.seqN ?_
      refine J.seq ?_
      refine J.block ?_
      refine J.seq ?_
      refine J.reg ?_
      refine WL.rd (RD.move rfl) rfl rfl ?_
      refine WL.rd (RD.move rfl) rfl rfl ?_
      refine WL.efS (EF.callS (.cons rfl (.cons rfl .nil)) (fun w hS => l2Has_c _ _ _ _ (by exact RdI.rd hS))) rfl rfl ?_
      rintro ⟨⟩ -
      refine WL.nil ?_
      refine JE.seqN ?_
      refine J.condP rfl (fun hc20 => ?_) (fun hc20 => ?_)
      ·
        refine J.anyDrop [10] (u) ?_
        refine WA.takeP 0 rfl (RDP.of fun _ => RD.fieldC rfl rfl) rfl (by kernel_rfl) rfl ?_
        refine WA.take 1 rfl (RD.loadC rfl rfl) rfl (by kernel_rfl) rfl ?_
        refine WA.takeP 2 rfl (RDP.of fun _ => RD.fieldC rfl rfl) rfl (by kernel_rfl) rfl ?_
        refine WA.take 3 rfl (RD.loadC rfl rfl) rfl (by kernel_rfl) rfl ?_
        refine WA.takeP 4 rfl (RDP.of fun _ => RD.move rfl) rfl (by kernel_rfl) rfl ?_
        refine WA.takeP 5 rfl (RDP.idx rfl rfl (by omega) rfl) rfl (by kernel_rfl) rfl ?_
        refine WA.take 6 rfl (RD.loadEA rfl (by omega) rfl) rfl (by kernel_rfl) rfl ?_
        refine WA.one (i := 7) (by kernel_rfl) ?_
        refine WAi.efS rfl (EF.build1P rfl) rfl rfl (fun _ => SubI.sub) ?_
        intro v28 _
        refine WA.one (i := 8) (by kernel_rfl) ?_
        refine WAi.efS rfl (EF.append rfl rfl (by omega) rfl rfl rfl) rfl rfl (fun _ => SubI.sub) ?_
        intro v29 _
        refine WA.takeP 9 rfl (RDP.of fun _ => RD.fieldC rfl rfl) rfl (by kernel_rfl) rfl ?_
        refine WA.one (i := 10) (by kernel_rfl) ?_
        refine WAi.efNL rfl (EF.storeC rfl rfl rfl) rfl rfl ?_
        rintro ⟨⟩ -
        refine WB.done (by kernel_rfl) ?_
        refine JE.blockN ?_
        refine JE.seqN ?_
        refine J.reg ?_
        refine WL.rd (RD.move rfl) rfl rfl ?_
        refine WL.rd (RD.add rfl rfl (by omega) (by omega)) rfl rfl ?_
        refine WL.rd (RD.assign rfl) rfl rfl ?_
        refine WL.nil ?_
        refine JE.cutN ⟨_, ?_, k + 1, v29, rfl, ?_, rfl, rfl⟩ ?_ ?_
        · omega
        · first | omega | trivial | (refine ⟨?_, ?_⟩ <;> first | omega | rfl | simp)
        · exact (Sub.consE rfl (by first | rfl | (congr 1; omega) | (simp; done)) (Sub.consE rfl (by first | rfl | (congr 1; omega) | (simp; done)) (Sub.consE rfl (by first | rfl | (congr 1; omega) | (simp; done)) (Sub.consE rfl (by first | rfl | (congr 1; omega) | (simp; done)) (Sub.consE rfl (by first | rfl | (congr 1; omega) | (simp; done)) .nil)))))
        · exact (SubM.cells rfl (by first | rfl | (simp; done)) (SubM.row rfl rfl (by rw [onlyP_yes (fun j => decide (j ∈ s)) xs k (by simpa using hc20)]) (SubM.cells rfl (by first | rfl | (simp; done)) (SubM.ro rfl (by first | rfl | (simp [iv, bv, yv, tv, sv]; done)) (SubM.ro rfl (by first | rfl | (simp [iv, bv, yv, tv, sv]; done)) (SubM.cells rfl (by first | rfl | (simp; done)) .nil))))))
      ·
        refine J.skip ?_
        refine JE.blockN ?_
        refine JE.seqN ?_
        refine J.reg ?_
        refine WL.rd (RD.move rfl) rfl rfl ?_
        refine WL.rd (RD.add rfl rfl (by omega) (by omega)) rfl rfl ?_
        refine WL.rd (RD.assign rfl) rfl rfl ?_
        refine WL.nil ?_
        refine JE.cutN ⟨_, ?_, k + 1, u, rfl, ?_, rfl, rfl⟩ ?_ ?_
        · omega
        · first | omega | trivial | (refine ⟨?_, ?_⟩ <;> first | omega | rfl | simp)
        · exact (Sub.consE rfl (by first | rfl | (congr 1; omega) | (simp; done)) (Sub.consE rfl (by first | rfl | (congr 1; omega) | (simp; done)) (Sub.consE rfl (by first | rfl | (congr 1; omega) | (simp; done)) (Sub.consE rfl (by first | rfl | (congr 1; omega) | (simp; done)) (Sub.consE rfl (by first | rfl | (congr 1; omega) | (simp; done)) .nil)))))
        · exact (SubM.cells rfl (by first | rfl | (simp; done)) (SubM.row rfl rfl (by rw [onlyP_no (fun j => decide (j ∈ s)) xs k (by simpa using hc20)]) (SubM.cells rfl (by first | rfl | (simp; done)) (SubM.ro rfl (by first | rfl | (simp [iv, bv, yv, tv, sv]; done)) (SubM.ro rfl (by first | rfl | (simp [iv, bv, yv, tv, sv]; done)) (SubM.cells rfl (by first | rfl | (simp; done)) .nil))))))
    ·
      refine J.exit ?_
      refine JE.seqX ?_
      refine JE.cutX ?_
      refine JE.blockHit ?_
      refine JE.seqN ?_
      refine J.seq ?_
      refine J.reg ?_
      refine WL.rd (RD.loadA rfl rfl) rfl rfl ?_
      refine WL.efN (EF.storeA rfl rfl rfl rfl) rfl ?_
      rintro ⟨⟩ -
      refine WL.nil ?_
      refine JE.seqN ?_
      refine J.ret ?_
      refine JE.ret rfl (ResL.flat rfl rfl .nil) (fun w hS => ?_)
      have hk : k = xs.length := by omega
      subst hk
      exact CN.fin hS u rfl trivial (SubM.row rfl rfl rfl .nil) (by simp [En.rdb])

end Go.Proofs.Ytmnaohimnladnaa
