/- Contracts of functions of the program, each walked once; written by a program of our own. -/
import Derived.Test.YtfjmbnlnkmabmaaGb
import Derived.Test.YtfjmbnlnkmabmaaMj
namespace Go.Proofs.Ytfjmbnlnkmabmaa
open Go Go.RowKit
set_option maxRecDepth 4000

theorem iCountFreedom_c (n : Int) (v : Value) (xs : List (Int × Int)) (k l : Int) (w : World) (hr : Rd w v 2 (xs.map bv)) (hk : -9223372036854775808 ≤ k ∧ k ≤ 9223372036854775807) (hl : -9223372036854775808 ≤ l ∧ l ≤ 9223372036854775807) :
    CS Try.prog 29 [.agg #[.int .i64 n, v], .int .i64 k, .int .i64 l] w (.int .i64 (cfI n k l xs)) := by
  have hl_xs : xs.length ≤ 9223372036854775807 := (by obtain ⟨_, _, _, hh, _⟩ := hr.shape; simpa using hh)
  refine calls_of_J (mu := (fun _ => False)) (m := [.ro v 2 (xs.map bv)]) (e := [(0, .agg #[.int .i64 n, v]), (1, .int .i64 k), (2, .int .i64 l)]) Try.func29 rfl rfl (.cons rfl (.cons rfl (.cons rfl .nil))) (((St.init _ _).ro0 hr (by decide))) ?_
  refine J.seq ?_
  refine J.reg ?_
  refine WL.efS (EF.boxA rfl) rfl rfl ?_
  intro b3 _
  refine WL.rd (RD.assign rfl) rfl rfl ?_
  refine WL.nil ?_
  refine JE.seqN ?_
  refine J.seq ?_
  refine J.seq ?_
  refine J.reg ?_
  refine WL.rd (RD.loadA rfl rfl) rfl rfl ?_
  refine WL.efS (EF.callS (.cons rfl .nil) (fun w hS => iIsGraph_c _ _ _ _ (by exact RdI.rd hS))) rfl rfl ?_
  rintro ⟨⟩ -
  refine WL.rd (RD.notP rfl) rfl rfl ?_
  refine WL.rd (RD.move rfl) rfl rfl ?_
  refine WL.caseP 10 rfl (fun hg10 => ?_) (fun hg10 => ?_)
  ·
    refine WL.noS rfl rfl ?_
    refine WL.noS rfl rfl ?_
    refine WL.noS rfl rfl ?_
    refine WL.noS rfl rfl ?_
    refine WL.rd (RD.pickT rfl rfl) rfl rfl ?_
    refine WL.nil ?_
    refine JE.seqN ?_
    refine J.condT rfl ?_
    refine J.seq ?_
    refine J.reg ?_
    refine WL.rd (RD.assign rfl) rfl rfl ?_
    refine WL.nil ?_
    refine JE.seqN ?_
    refine J.ret ?_
    refine JE.ret rfl (.tmp rfl .nil) (fun w hS => ?_)
    exact CS.fin hS (by unfold cfI; rw [if_neg (fun h => hg10 h.1)]; rfl)
  ·
    refine WL.rd (RD.move rfl) rfl rfl ?_
    refine WL.rd (RD.move rfl) rfl rfl ?_
    refine WL.efS (EF.callS (.cons rfl (.cons rfl .nil)) (fun w hS => iIsRange_c _ _ _ (by assumption))) rfl rfl ?_
    rintro ⟨⟩ -
    refine WL.rd (RD.notP rfl) rfl rfl ?_
    refine WL.rd (RD.pickF rfl rfl) rfl rfl ?_
    refine WL.nil ?_
    refine JE.seqN ?_
    refine J.condP rfl (fun hc15 => ?_) (fun hc15 => ?_)
    ·
      refine J.seq ?_
      refine J.reg ?_
      refine WL.rd (RD.assign rfl) rfl rfl ?_
      refine WL.nil ?_
      refine JE.seqN ?_
      refine J.ret ?_
      refine JE.ret rfl (.tmp rfl .nil) (fun w hS => ?_)
      exact CS.fin hS (by unfold cfI; rw [if_neg (fun h => hc15 h.2)]; rfl)
    ·
      refine J.skip ?_
      refine JE.seqN ?_
      refine J.seq ?_
      have hg : isG n xs := Decidable.not_not.1 hg10
      have hr3 := Decidable.not_not.1 hc15
      have h12 := hg.1
      have h13 := hg.2.1
      have h14 := hg.2.2.1
      have hm := mul_rng (k := k) (n := n) (by omega) (by omega)
      refine J.reg ?_
      refine WL.rd (RD.move rfl) rfl rfl ?_
      refine WL.rd (RD.fieldC rfl rfl) rfl rfl ?_
      refine WL.rd (RD.loadC rfl rfl) rfl rfl ?_
      refine WL.rd (RD.mul rfl rfl (by omega) (by omega)) rfl rfl ?_
      refine WL.rd (RD.move rfl) rfl rfl ?_
      refine WL.rd (RD.sub rfl rfl (by omega) (by omega)) rfl rfl ?_
      refine WL.rd (RD.fieldC rfl rfl) rfl rfl ?_
      refine WL.rd (RD.loadC rfl rfl) rfl rfl ?_
      refine WL.rd (RD.lenR rfl) rfl rfl ?_
      refine WL.rd (RD.sub rfl rfl (by omega) (by omega)) rfl rfl ?_
      refine WL.rd (RD.max rfl rfl) rfl rfl ?_
      refine WL.rd (RD.assign rfl) rfl rfl ?_
      refine WL.nil ?_
      refine JE.seqN ?_
      refine J.ret ?_
      refine JE.ret rfl (.tmp rfl .nil) (fun w hS => ?_)
      exact CS.fin hS (by unfold cfI; rw [if_pos ⟨hg, hr3⟩]; rfl)
theorem sCountFreedom_c (n : Int) (v : Value) (xs : List (Int × Int)) (k l : Int) (w : World) (hr : Rd w v 2 (xs.map bv)) (hk : -9223372036854775808 ≤ k ∧ k ≤ 9223372036854775807) (hl : -9223372036854775808 ≤ l ∧ l ≤ 9223372036854775807) :
    CS Try.prog 28 [.agg #[.int .i64 n, v], .int .i64 k, .int .i64 l] w (.int .i64 (cfI n k l xs)) := by
  have hl_xs : xs.length ≤ 9223372036854775807 := (by obtain ⟨_, _, _, hh, _⟩ := hr.shape; simpa using hh)
  refine calls_of_J (mu := (fun _ => False)) (m := [.ro v 2 (xs.map bv)]) (e := [(0, .agg #[.int .i64 n, v]), (1, .int .i64 k), (2, .int .i64 l)]) Try.func28 rfl rfl (.cons rfl (.cons rfl (.cons rfl .nil))) (((St.init _ _).ro0 hr (by decide))) ?_
  refine J.seq ?_
  refine J.reg ?_
  refine WL.efS (EF.boxA rfl) rfl rfl ?_
  intro b3 _
  refine WL.rd (RD.assign rfl) rfl rfl ?_
  refine WL.nil ?_
  refine JE.seqN ?_
  refine J.seq ?_
  refine J.seq ?_
  refine J.reg ?_
  refine WL.rd (RD.loadA rfl rfl) rfl rfl ?_
  refine WL.efS (EF.callS (.cons rfl .nil) (fun w hS => sIsGraph_c _ _ _ _ (by exact RdI.rd hS))) rfl rfl ?_
  rintro ⟨⟩ -
  refine WL.rd (RD.notP rfl) rfl rfl ?_
  refine WL.rd (RD.move rfl) rfl rfl ?_
  refine WL.caseP 10 rfl (fun hg10 => ?_) (fun hg10 => ?_)
  ·
    refine WL.noS rfl rfl ?_
    refine WL.noS rfl rfl ?_
    refine WL.noS rfl rfl ?_
    refine WL.noS rfl rfl ?_
    refine WL.rd (RD.pickT rfl rfl) rfl rfl ?_
    refine WL.nil ?_
    refine JE.seqN ?_
    refine J.condT rfl ?_
    refine J.seq ?_
    refine J.reg ?_
    refine WL.rd (RD.assign rfl) rfl rfl ?_
    refine WL.nil ?_
    refine JE.seqN ?_
    refine J.ret ?_
    refine JE.ret rfl (.tmp rfl .nil) (fun w hS => ?_)
    exact CS.fin hS (by unfold cfI; rw [if_neg (fun h => hg10 h.1)]; rfl)
  ·
    refine WL.rd (RD.move rfl) rfl rfl ?_
    refine WL.rd (RD.move rfl) rfl rfl ?_
    refine WL.efS (EF.callS (.cons rfl (.cons rfl .nil)) (fun w hS => sIsRange_c _ _ _ (by assumption))) rfl rfl ?_
    rintro ⟨⟩ -
    refine WL.rd (RD.notP rfl) rfl rfl ?_
    refine WL.rd (RD.pickF rfl rfl) rfl rfl ?_
    refine WL.nil ?_
    refine JE.seqN ?_
    refine J.condP rfl (fun hc15 => ?_) (fun hc15 => ?_)
    ·
      refine J.seq ?_
      refine J.reg ?_
      refine WL.rd (RD.assign rfl) rfl rfl ?_
      refine WL.nil ?_
      refine JE.seqN ?_
      refine J.ret ?_
      refine JE.ret rfl (.tmp rfl .nil) (fun w hS => ?_)
      exact CS.fin hS (by unfold cfI; rw [if_neg (fun h => hc15 h.2)]; rfl)
    ·
      refine J.skip ?_
      refine JE.seqN ?_
      refine J.seq ?_
      have hg : isG n xs := Decidable.not_not.1 hg10
      have hr3 := Decidable.not_not.1 hc15
      have h12 := hg.1
      have h13 := hg.2.1
      have h14 := hg.2.2.1
      have hm := mul_rng (k := k) (n := n) (by omega) (by omega)
      refine J.reg ?_
      refine WL.rd (RD.move rfl) rfl rfl ?_
      refine WL.rd (RD.fieldC rfl rfl) rfl rfl ?_
      refine WL.rd (RD.loadC rfl rfl) rfl rfl ?_
      refine WL.rd (RD.mul rfl rfl (by omega) (by omega)) rfl rfl ?_
      refine WL.rd (RD.move rfl) rfl rfl ?_
      refine WL.rd (RD.sub rfl rfl (by omega) (by omega)) rfl rfl ?_
      refine WL.rd (RD.fieldC rfl rfl) rfl rfl ?_
      refine WL.rd (RD.loadC rfl rfl) rfl rfl ?_
      refine WL.rd (RD.lenR rfl) rfl rfl ?_
      refine WL.rd (RD.sub rfl rfl (by omega) (by omega)) rfl rfl ?_
      refine WL.rd (RD.max rfl rfl) rfl rfl ?_
      refine WL.rd (RD.assign rfl) rfl rfl ?_
      refine WL.nil ?_
      refine JE.seqN ?_
      refine J.ret ?_
      refine JE.ret rfl (.tmp rfl .nil) (fun w hS => ?_)
      exact CS.fin hS (by unfold cfI; rw [if_pos ⟨hg, hr3⟩]; rfl)
theorem iFormatGraph_c (n : Int) (v : Value) (xs : List (Int × Int)) (w : World) (hr : Rd w v 2 (xs.map bv)) :
    CS Try.prog 43 [.agg #[.int .i64 n, v]] w (.string (bs (fmtG n xs))) := by
  have hl_xs : xs.length ≤ 9223372036854775807 := (by obtain ⟨_, _, _, hh, _⟩ := hr.shape; simpa using hh)
  refine calls_of_J (mu := (fun _ => False)) (m := [.ro v 2 (xs.map bv)]) (e := [(0, .agg #[.int .i64 n, v])]) Try.func43 rfl rfl (.cons rfl .nil) (((St.init _ _).ro0 hr (by decide))) ?_
  refine J.seq ?_
  refine J.reg ?_
  refine WL.efS (EF.boxA rfl) rfl rfl ?_
  intro b1 _
  refine WL.rd (RD.assign rfl) rfl rfl ?_
  refine WL.nil ?_
  refine JE.seqN ?_
  refine J.seq ?_
  refine J.seq ?_
  refine J.reg ?_
  refine WL.rd (RD.loadA rfl rfl) rfl rfl ?_
  refine WL.efS (EF.callS (.cons rfl .nil) (fun w hS => iIsGraph_c _ _ _ _ (by exact RdI.rd hS))) rfl rfl ?_
  rintro ⟨⟩ -
  refine WL.rd (RD.notP rfl) rfl rfl ?_
  refine WL.nil ?_
  refine JE.seqN ?_
  refine J.condP rfl (fun hc8 => ?_) (fun hc8 => ?_)
  ·
    refine J.seq ?_
    refine J.reg ?_
    refine WL.rd (RD.assign rfl) rfl rfl ?_
    refine WL.nil ?_
    refine JE.seqN ?_
    refine J.ret ?_
    refine JE.ret rfl (.tmp rfl .nil) (fun w hS => ?_)
    exact CS.fin hS (by unfold fmtG; rw [if_neg (by assumption)]; rfl)
  ·
    refine J.skip ?_
    refine JE.seqN ?_
    refine J.seq ?_
    have hg : isG n xs := Decidable.not_not.1 hc8
    have h12 := hg.1
    have h13 := hg.2.1
    have hln := fmtInt_len n (by omega)
    refine J.reg ?_
    refine WL.rd (RD.fieldC rfl rfl) rfl rfl ?_
    refine WL.rd (RD.loadC rfl rfl) rfl rfl ?_
    refine WL.efS (EF.callS (.cons rfl .nil) (fun w hS => iFormatInt_c _ _ (by omega))) rfl rfl ?_
    rintro ⟨⟩ -
    refine WL.rd (RD.addS (b := [58]) rfl rfl (by simp only [List.length_singleton]; omega)) rfl rfl ?_
    refine WL.rd (RD.assign rfl) rfl rfl ?_
    refine WL.nil ?_
    refine JE.seqN ?_
    refine J.seq ?_
    refine J.seq ?_
    refine J.reg ?_
    refine WL.rd (RD.fieldC rfl rfl) rfl rfl ?_
    refine WL.rd (RD.loadC rfl rfl) rfl rfl ?_
    refine WL.rd (RD.lenR rfl) rfl rfl ?_
    refine WL.rd (RD.move rfl) rfl rfl ?_
    refine WL.nil ?_
    refine JE.seqN ?_
    refine J.block ?_
    refine J.loop (fun g e m => ∃ (k : Nat), g = xs.length - k ∧ ((k ≤ xs.length)) ∧ e = [(3, .string (bs (fmtK n xs k))), (14, v), (15, .int .i64 (xs.length : Int)), (16, .int .i64 (k : Int))] ∧ m = [.ro v 2 (xs.map bv), .cells b1 29 [.int .i64 n, v]]) _ ⟨0, rfl, ?_, rfl, rfl⟩ ?_ ?_ ?_
    · first | omega | trivial | (refine ⟨?_, ?_⟩ <;> first | omega | rfl | simp)
    · exact (Sub.consE rfl (by rw [fmtK_zero]) (Sub.consE rfl (by first | rfl | (congr 1; omega) | (simp; done)) (Sub.consE rfl (by first | rfl | (congr 1; omega) | (simp; done)) (Sub.consE rfl (by first | rfl | (congr 1; omega) | (simp; done)) .nil))))
    · exact (SubM.ro rfl (by first | rfl | (simp [iv, bv, yv, tv, sv]; done)) (SubM.cells rfl (by first | rfl | (simp; done)) .nil))
    · rintro g _ _ ⟨k, rfl, hI, rfl, rfl⟩
      refine J.seq ?_
      refine J.reg ?_
      refine WL.rd (RD.lss rfl rfl) rfl rfl ?_
      refine WL.nil ?_
      refine JE.seqN ?_
      refine J.seq ?_
      refine J.condP rfl (fun hc17 => ?_) (fun hc17 => ?_)
      ·
        refine J.skip ?_
        refine JE.seqN ?_
        refine J.seq ?_
        refine J.block ?_
        refine J.seq ?_
        refine J.reg ?_
        refine WL.rd (RD.idx rfl rfl (by omega) rfl) rfl rfl ?_
        refine WL.rd (RD.loadEA rfl (by omega) rfl) rfl rfl ?_
        refine WL.efS (EF.allocA) rfl rfl ?_
        intro b5 _
        refine WL.efN (EF.storeA rfl rfl rfl rfl) rfl ?_
        rintro ⟨⟩ -
        refine WL.nil ?_
        refine JE.seqN ?_
        have hfl := fmtK_len' hg k (by omega)
        have hgb := gBar hg k (by omega)
        have hl1 := fmtInt_len (xs.getD k default).1 (by omega)
        have hl2 := fmtInt_len (xs.getD k default).2 (by omega)
        have hk24 := hg.2.2.1
        refine J.anyAll [] ?_
        refine WA.takeP 0 rfl (RDP.of fun _ => RD.move rfl) rfl (by kernel_rfl) rfl ?_
        refine WA.takeP 1 rfl (RDP.of fun _ => RD.addS (b := [32]) rfl rfl (by simp only [List.length_singleton]; omega)) rfl (by kernel_rfl) rfl ?_
        refine WA.takeP 2 rfl (RDP.of fun _ => RD.fieldC rfl rfl) rfl (by kernel_rfl) rfl ?_
        refine WA.take 3 rfl (RD.loadC rfl rfl) rfl (by kernel_rfl) rfl ?_
        refine WA.takeP 7 rfl (RDP.of fun _ => RD.fieldC rfl rfl) rfl (by kernel_rfl) rfl ?_
        refine WA.take 8 rfl (RD.loadC rfl rfl) rfl (by kernel_rfl) rfl ?_
        refine WA.one (i := 4) (by kernel_rfl) ?_
        refine WAi.efS rfl (EF.callS (.cons rfl .nil) (fun w hS => iFormatInt_c _ _ (by omega))) rfl rfl (fun _ => SubI.sub) ?_
        rintro ⟨⟩ -
        refine WA.takeP 5 rfl (RDP.of fun _ => RD.addS rfl rfl (by simp only [List.length_append, List.length_singleton]; omega)) rfl (by kernel_rfl) rfl ?_
        refine WA.takeP 6 rfl (RDP.of fun _ => RD.addS (b := [45]) rfl rfl (by simp only [List.length_append, List.length_singleton]; omega)) rfl (by kernel_rfl) rfl ?_
        refine WA.one (i := 9) (by kernel_rfl) ?_
        refine WAi.efS rfl (EF.callS (.cons rfl .nil) (fun w hS => iFormatInt_c _ _ (by omega))) rfl rfl (fun _ => SubI.sub) ?_
        rintro ⟨⟩ -
        refine WA.takeP 10 rfl (RDP.of fun _ => RD.addS rfl rfl (by simp only [List.length_append, List.length_singleton]; omega)) rfl (by kernel_rfl) rfl ?_
        refine WA.takeP 11 rfl (RDP.of fun _ => RD.assign rfl) rfl (by kernel_rfl) rfl ?_
        refine WA.done (by kernel_rfl) ?_
        refine JE.blockN ?_
        refine JE.seqN ?_
        refine J.reg ?_
        refine WL.rd (RD.add rfl rfl (by omega) (by omega)) rfl rfl ?_
        refine WL.rd (RD.move rfl) rfl rfl ?_
        refine WL.nil ?_
        refine JE.cutN ⟨_, ?_, k + 1, rfl, ?_, rfl, rfl⟩ ?_ ?_
        · omega
        · first | omega | trivial | (refine ⟨?_, ?_⟩ <;> first | omega | rfl | simp)
        · exact (Sub.consE rfl (by rw [fmtK_succ n xs k (by omega)]) (Sub.consE rfl (by first | rfl | (congr 1; omega) | (simp; done)) (Sub.consE rfl (by first | rfl | (congr 1; omega) | (simp; done)) (Sub.consE rfl (by first | rfl | (congr 1; omega) | (simp; done)) .nil))))
        · exact (SubM.ro rfl (by first | rfl | (simp [iv, bv, yv, tv, sv]; done)) (SubM.cells rfl (by first | rfl | (simp; done)) .nil))
      ·
        refine J.exit ?_
        refine JE.seqX ?_
        refine JE.cutX ?_
        refine JE.blockHit ?_
        refine JE.seqN ?_
        refine J.seq ?_
        refine J.reg ?_
        refine WL.rd (RD.move rfl) rfl rfl ?_
        refine WL.rd (RD.assign rfl) rfl rfl ?_
        refine WL.nil ?_
        refine JE.seqN ?_
        refine J.ret ?_
        refine JE.ret rfl (.tmp rfl .nil) (fun w hS => ?_)
        exact CS.fin hS (by unfold fmtG; rw [if_pos hg, show xs.length = k by omega]; rfl)
theorem sFormatGraph_c (n : Int) (v : Value) (xs : List (Int × Int)) (w : World) (hr : Rd w v 2 (xs.map bv)) :
    CS Try.prog 42 [.agg #[.int .i64 n, v]] w (.string (bs (fmtG n xs))) := by
  have hl_xs : xs.length ≤ 9223372036854775807 := (by obtain ⟨_, _, _, hh, _⟩ := hr.shape; simpa using hh)
  refine calls_of_J (mu := (fun _ => False)) (m := [.ro v 2 (xs.map bv)]) (e := [(0, .agg #[.int .i64 n, v])]) Try.func42 rfl rfl (.cons rfl .nil) (((St.init _ _).ro0 hr (by decide))) ?_
  refine J.seq ?_
  refine J.reg ?_
  refine WL.efS (EF.boxA rfl) rfl rfl ?_
  intro b1 _
  refine WL.rd (RD.assign rfl) rfl rfl ?_
  refine WL.nil ?_
  refine JE.seqN ?_
  refine J.seq ?_
  refine J.seq ?_
  refine J.reg ?_
  refine WL.rd (RD.loadA rfl rfl) rfl rfl ?_
  refine WL.efS (EF.callS (.cons rfl .nil) (fun w hS => sIsGraph_c _ _ _ _ (by exact RdI.rd hS))) rfl rfl ?_
  rintro ⟨⟩ -
  refine WL.rd (RD.notP rfl) rfl rfl ?_
  refine WL.nil ?_
  refine JE.seqN ?_
  refine J.condP rfl (fun hc7 => ?_) (fun hc7 => ?_)
  ·
    refine J.seq ?_
    refine J.reg ?_
    refine WL.rd (RD.assign rfl) rfl rfl ?_
    refine WL.nil ?_
    refine JE.seqN ?_
    refine J.ret ?_
    refine JE.ret rfl (.tmp rfl .nil) (fun w hS => ?_)
    exact CS.fin hS (by unfold fmtG; rw [if_neg (by assumption)]; rfl)
  ·
    refine J.skip ?_
    refine JE.seqN ?_
    refine J.seq ?_
    have hg : isG n xs := Decidable.not_not.1 hc7
    have h12 := hg.1
    have h13 := hg.2.1
    have hln := fmtInt_len n (by omega)
    refine J.reg ?_
    refine WL.rd (RD.fieldC rfl rfl) rfl rfl ?_
    refine WL.rd (RD.loadC rfl rfl) rfl rfl ?_
    refine WL.efS (EF.callS (.cons rfl .nil) (fun w hS => sFormatInt_c _ _ (by omega))) rfl rfl ?_
    rintro ⟨⟩ -
    refine WL.rd (RD.addS (b := [58]) rfl rfl (by simp only [List.length_singleton]; omega)) rfl rfl ?_
    refine WL.rd (RD.assign rfl) rfl rfl ?_
    refine WL.nil ?_
    refine JE.seqN ?_
    refine J.seq ?_
    refine J.seq ?_
    refine J.reg ?_
    refine WL.rd (RD.assign rfl) rfl rfl ?_
    refine WL.nil ?_
    refine JE.seqN ?_
    refine J.block ?_
    refine J.loop (fun g e m => ∃ (k : Nat), g = xs.length - k ∧ ((k ≤ xs.length)) ∧ e = [(3, .string (bs (fmtK n xs k))), (4, .int .i64 (k : Int)), (1, .pointer (some ⟨b1, 0, none⟩))] ∧ m = [.ro v 2 (xs.map bv), .cells b1 29 [.int .i64 n, v]]) _ ⟨0, rfl, ?_, rfl, rfl⟩ ?_ ?_ ?_
    · first | omega | trivial | (refine ⟨?_, ?_⟩ <;> first | omega | rfl | simp)
    · exact (Sub.consE rfl (by rw [fmtK_zero]) (Sub.consE rfl (by first | rfl | (congr 1; omega) | (simp; done)) (Sub.consE rfl (by first | rfl | (congr 1; omega) | (simp; done)) .nil)))
    · exact (SubM.ro rfl (by first | rfl | (simp [iv, bv, yv, tv, sv]; done)) (SubM.cells rfl (by first | rfl | (simp; done)) .nil))
    · rintro g _ _ ⟨k, rfl, hI, rfl, rfl⟩
      refine J.seq ?_
      refine J.seq ?_
      refine J.reg ?_
      refine WL.rd (RD.move rfl) rfl rfl ?_
      refine WL.rd (RD.fieldC rfl rfl) rfl rfl ?_
      refine WL.rd (RD.loadC rfl rfl) rfl rfl ?_
      refine WL.rd (RD.lenR rfl) rfl rfl ?_
      refine WL.rd (RD.lss rfl rfl) rfl rfl ?_
      refine WL.nil ?_
      refine JE.seqN ?_
      refine J.condP rfl (fun hc16 => ?_) (fun hc16 => ?_)
      ·
        refine J.skip ?_
        refine JE.seqN ?_
        refine J.seq ?_
        refine J.block ?_
        have hfl := fmtK_len' hg k (by omega)
        have hgb := gBar hg k (by omega)
        have hl1 := fmtInt_len (xs.getD k default).1 (by omega)
        have hl2 := fmtInt_len (xs.getD k default).2 (by omega)
        have hk24 := hg.2.2.1
        refine J.anyAll [] ?_
        refine WA.takeP 0 rfl (RDP.of fun _ => RD.move rfl) rfl (by kernel_rfl) rfl ?_
        refine WA.takeP 1 rfl (RDP.of fun _ => RD.addS (b := [32]) rfl rfl (by simp only [List.length_singleton]; omega)) rfl (by kernel_rfl) rfl ?_
        refine WA.takeP 2 rfl (RDP.of fun _ => RD.fieldC rfl rfl) rfl (by kernel_rfl) rfl ?_
        refine WA.take 3 rfl (RD.loadC rfl rfl) rfl (by kernel_rfl) rfl ?_
        refine WA.takeP 4 rfl (RDP.of fun _ => RD.move rfl) rfl (by kernel_rfl) rfl ?_
        refine WA.takeP 5 rfl (RDP.idx rfl rfl (by omega) rfl) rfl (by kernel_rfl) rfl ?_
        refine WA.takeP 6 rfl (RDP.of fun _ => RD.fieldE rfl rfl) rfl (by kernel_rfl) rfl ?_
        refine WA.take 7 rfl (RD.loadE rfl (by omega) rfl) rfl (by kernel_rfl) rfl ?_
        refine WA.takeP 11 rfl (RDP.of fun _ => RD.fieldC rfl rfl) rfl (by kernel_rfl) rfl ?_
        refine WA.take 12 rfl (RD.loadC rfl rfl) rfl (by kernel_rfl) rfl ?_
        refine WA.takeP 13 rfl (RDP.of fun _ => RD.move rfl) rfl (by kernel_rfl) rfl ?_
        refine WA.takeP 14 rfl (RDP.idx rfl rfl (by omega) rfl) rfl (by kernel_rfl) rfl ?_
        refine WA.takeP 15 rfl (RDP.of fun _ => RD.fieldE rfl rfl) rfl (by kernel_rfl) rfl ?_
        refine WA.take 16 rfl (RD.loadE rfl (by omega) rfl) rfl (by kernel_rfl) rfl ?_
        refine WA.one (i := 8) (by kernel_rfl) ?_
        refine WAi.efS rfl (EF.callS (.cons rfl .nil) (fun w hS => sFormatInt_c _ _ (by omega))) rfl rfl (fun _ => SubI.sub) ?_
        rintro ⟨⟩ -
        refine WA.takeP 9 rfl (RDP.of fun _ => RD.addS rfl rfl (by simp only [List.length_append, List.length_singleton]; omega)) rfl (by kernel_rfl) rfl ?_
        refine WA.takeP 10 rfl (RDP.of fun _ => RD.addS (b := [45]) rfl rfl (by simp only [List.length_append, List.length_singleton]; omega)) rfl (by kernel_rfl) rfl ?_
        refine WA.one (i := 17) (by kernel_rfl) ?_
        refine WAi.efS rfl (EF.callS (.cons rfl .nil) (fun w hS => sFormatInt_c _ _ (by omega))) rfl rfl (fun _ => SubI.sub) ?_
        rintro ⟨⟩ -
        refine WA.takeP 18 rfl (RDP.of fun _ => RD.addS rfl rfl (by simp only [List.length_append, List.length_singleton]; omega)) rfl (by kernel_rfl) rfl ?_
        refine WA.takeP 19 rfl (RDP.of fun _ => RD.assign rfl) rfl (by kernel_rfl) rfl ?_
        refine WA.done (by kernel_rfl) ?_
        refine JE.blockN ?_
        refine JE.seqN ?_
        refine J.reg ?_
        refine WL.rd (RD.move rfl) rfl rfl ?_
        refine WL.rd (RD.add rfl rfl (by omega) (by omega)) rfl rfl ?_
        refine WL.rd (RD.assign rfl) rfl rfl ?_
        refine WL.nil ?_
        refine JE.cutN ⟨_, ?_, k + 1, rfl, ?_, rfl, rfl⟩ ?_ ?_
        · omega
        · first | omega | trivial | (refine ⟨?_, ?_⟩ <;> first | omega | rfl | simp)
        · exact (Sub.consE rfl (by rw [fmtK_succ n xs k (by omega)]) (Sub.consE rfl (by first | rfl | (congr 1; omega) | (simp; done)) (Sub.consE rfl (by first | rfl | (congr 1; omega) | (simp; done)) .nil)))
        · exact (SubM.ro rfl (by first | rfl | (simp [iv, bv, yv, tv, sv]; done)) (SubM.cells rfl (by first | rfl | (simp; done)) .nil))
      ·
        refine J.exit ?_
        refine JE.seqX ?_
        refine JE.cutX ?_
        refine JE.blockHit ?_
        refine JE.seqN ?_
        refine J.seq ?_
        refine J.reg ?_
        refine WL.rd (RD.move rfl) rfl rfl ?_
        refine WL.rd (RD.assign rfl) rfl rfl ?_
        refine WL.nil ?_
        refine JE.seqN ?_
        refine J.ret ?_
        refine JE.ret rfl (.tmp rfl .nil) (fun w hS => ?_)
        exact CS.fin hS (by unfold fmtG; rw [if_pos hg, show xs.length = k by omega]; rfl)

end Go.Proofs.Ytfjmbnlnkmabmaa
