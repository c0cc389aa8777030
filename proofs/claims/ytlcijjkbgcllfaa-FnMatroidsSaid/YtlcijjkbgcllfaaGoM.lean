/- Contracts of functions of the program, each walked once; written by a program of our own. -/
import Derived.Test.YtlcijjkbgcllfaaGnM
import Derived.Test.YtlcijjkbgcllfaaMw
namespace Go.Proofs.Ytlcijjkbgcllfaa
open Go Go.RowKit
set_option maxRecDepth 4000

theorem iRankOfSet_c (n : Int) (v : Value) (xs : List (Int × Int)) (k l : Int) (vs : Value) (s : List Int) (w : World) (hr : Rd w v 2 (xs.map bv)) (hk : -9223372036854775808 ≤ k ∧ k ≤ 9223372036854775807) (hl : -9223372036854775808 ≤ l ∧ l ≤ 9223372036854775807) (hrs : Rd w vs 1 (s.map iv)) (hlx : xs.length ≤ 1048576) :
    CS Try.prog 81 [.agg #[.int .i64 n, v], .int .i64 k, .int .i64 l, vs] w (.int .i64 (rsI n k l xs s)) := by
 have hl_xs : xs.length ≤ 9223372036854775807 := (by obtain ⟨_, _, _, hh, _⟩ := hr.shape; simpa using hh)
 have hl_s : s.length ≤ 9223372036854775807 := (by obtain ⟨_, _, _, hh, _⟩ := hrs.shape; simpa using hh)
 have hol := onlyP_len (fun j => decide (j ∈ s)) xs xs.length
 refine calls_of_J (mu := (fun _ => False)) (m := [.ro v 2 (xs.map bv), .ro vs 1 (s.map iv)]) (e := [(0, .agg #[.int .i64 n, v]), (1, .int .i64 k), (2, .int .i64 l), (3, vs)]) Try.func81 rfl rfl (.cons rfl (.cons rfl (.cons rfl (.cons rfl .nil)))) ((((St.init _ _).ro0 hrs (by decide)).ro0 hr (by decide))) ?_
 refine J.seq ?_
 refine J.reg ?_
 refine WL.efS (EF.boxA rfl) rfl rfl ?_
 intro b4 _
 refine WL.rd (RD.assign rfl) rfl rfl ?_
 refine WL.nil ?_
 refine JE.seqN ?_
 refine J.seq ?_
 refine J.seq ?_
 refine J.reg ?_
 refine WL.rd (RD.loadA rfl rfl) rfl rfl ?_
 refine WL.efS (EF.callS (.cons rfl .nil) (fun w hS => iIsGraph_c _ _ _ _ (by exact RdI.rd hS))) rfl rfl ?_
 rintro ⟨⟩ -
 refine WL.rd (RD.notP rfl) rfl rfl ?_
 refine WL.rd (RD.move rfl) rfl rfl ?_
 refine WL.caseP 12 rfl (fun hg12 => ?_) (fun hg12 => ?_)
 ·
  refine WL.noS rfl rfl ?_
  refine WL.noS rfl rfl ?_
  refine WL.noS rfl rfl ?_
  refine WL.noS rfl rfl ?_
  refine WL.rd (RD.pickT rfl rfl) rfl rfl ?_
  refine WL.nil ?_
  refine JE.seqN ?_
  refine J.condT rfl ?_
  refine J.seq ?_
  refine J.reg ?_
  refine WL.rd (RD.assign rfl) rfl rfl ?_
  refine WL.nil ?_
  refine JE.seqN ?_
  refine J.ret ?_
  refine JE.ret rfl (.tmp rfl .nil) (fun w hS => ?_)
  (exact CS.fin hS (by rw [rsI_no (fun hh => by first | exact absurd hh.1 (by assumption) | exact absurd hh.2 (by assumption))]; rfl))
 ·
  refine WL.rd (RD.move rfl) rfl rfl ?_
  refine WL.rd (RD.move rfl) rfl rfl ?_
  refine WL.efS (EF.callS (.cons rfl (.cons rfl .nil)) (fun w hS => iIsRange_c _ _ _ (by assumption))) rfl rfl ?_
  rintro ⟨⟩ -
  refine WL.rd (RD.notP rfl) rfl rfl ?_
  refine WL.rd (RD.pickF rfl rfl) rfl rfl ?_
  refine WL.nil ?_
  refine JE.seqN ?_
  refine J.condP rfl (fun hc17 => ?_) (fun hc17 => ?_)
  ·
   refine J.seq ?_
   refine J.reg ?_
   refine WL.rd (RD.assign rfl) rfl rfl ?_
   refine WL.nil ?_
   refine JE.seqN ?_
   refine J.ret ?_
   refine JE.ret rfl (.tmp rfl .nil) (fun w hS => ?_)
   (exact CS.fin hS (by rw [rsI_no (fun hh => by first | exact absurd hh.1 (by assumption) | exact absurd hh.2 (by assumption))]; rfl))
  ·
   refine J.skip ?_
   refine JE.seqN ?_
   refine J.seq ?_
   refine J.reg ?_
   refine WL.rd (RD.loadA rfl rfl) rfl rfl ?_
   refine WL.rd (RD.move rfl) rfl rfl ?_
   refine WL.efS (EF.callN (.cons rfl (.cons rfl .nil)) (fun w hS => iOnlyBars_c _ _ _ _ _ _ (by exact RdI.rd hS) (by exact RdI.rd hS) (by omega))) rfl rfl ?_
   rintro v20 -
   refine WL.rd (RD.move rfl) rfl rfl ?_
   refine WL.rd (RD.move rfl) rfl rfl ?_
   refine WL.efS (EF.callS (.cons rfl (.cons rfl (.cons rfl .nil))) (fun w hS => iRankOf_c _ _ _ _ _ _ (by exact RdI.rd hS) (by first | assumption | (constructor <;> decide) | omega) (by first | assumption | (constructor <;> decide) | omega))) rfl rfl ?_
   rintro ⟨⟩ -
   refine WL.rd (RD.assign rfl) rfl rfl ?_
   refine WL.nil ?_
   refine JE.seqN ?_
   refine J.ret ?_
   refine JE.ret rfl (.tmp rfl .nil) (fun w hS => ?_)
   exact CS.fin hS (by unfold rsI; rw [if_pos (Decidable.not_not.1 hg12)]; rfl)
theorem sRankOfSet_c (n : Int) (v : Value) (xs : List (Int × Int)) (k l : Int) (vs : Value) (s : List Int) (w : World) (hr : Rd w v 2 (xs.map bv)) (hk : -9223372036854775808 ≤ k ∧ k ≤ 9223372036854775807) (hl : -9223372036854775808 ≤ l ∧ l ≤ 9223372036854775807) (hrs : Rd w vs 1 (s.map iv)) (hlx : xs.length ≤ 1048576) :
    CS Try.prog 83 [.agg #[.int .i64 n, v], .int .i64 k, .int .i64 l, vs] w (.int .i64 (rsI n k l xs s)) := by
 have hl_xs : xs.length ≤ 9223372036854775807 := (by obtain ⟨_, _, _, hh, _⟩ := hr.shape; simpa using hh)
 have hl_s : s.length ≤ 9223372036854775807 := (by obtain ⟨_, _, _, hh, _⟩ := hrs.shape; simpa using hh)
 have hol := onlyP_len (fun j => decide (j ∈ s)) xs xs.length
 refine calls_of_J (mu := (fun _ => False)) (m := [.ro v 2 (xs.map bv), .ro vs 1 (s.map iv)]) (e := [(0, .agg #[.int .i64 n, v]), (1, .int .i64 k), (2, .int .i64 l), (3, vs)]) Try.func83 rfl rfl (.cons rfl (.cons rfl (.cons rfl (.cons rfl .nil)))) ((((St.init _ _).ro0 hrs (by decide)).ro0 hr (by decide))) ?_
 refine J.seq ?_
 refine J.reg ?_
 refine WL.efS (EF.boxA rfl) rfl rfl ?_
 intro b4 _
 refine WL.rd (RD.assign rfl) rfl rfl ?_
 refine WL.nil ?_
 refine JE.seqN ?_
 refine J.seq ?_
 refine J.seq ?_
 refine J.reg ?_
 refine WL.rd (RD.loadA rfl rfl) rfl rfl ?_
 refine WL.efS (EF.callS (.cons rfl .nil) (fun w hS => sIsGraph_c _ _ _ _ (by exact RdI.rd hS))) rfl rfl ?_
 rintro ⟨⟩ -
 refine WL.rd (RD.notP rfl) rfl rfl ?_
 refine WL.nil ?_
 refine JE.seqN ?_
 refine J.condP rfl (fun hc11 => ?_) (fun hc11 => ?_)
 ·
  refine J.seq ?_
  refine J.reg ?_
  refine WL.rd (RD.assign rfl) rfl rfl ?_
  refine WL.nil ?_
  refine JE.seqN ?_
  refine J.ret ?_
  refine JE.ret rfl (.tmp rfl .nil) (fun w hS => ?_)
  (exact CS.fin hS (by rw [rsI_no (fun hh => by first | exact absurd hh.1 (by assumption) | exact absurd hh.2 (by assumption))]; rfl))
 ·
  refine J.skip ?_
  refine JE.seqN ?_
  refine J.seq ?_
  refine J.reg ?_
  refine WL.rd (RD.loadA rfl rfl) rfl rfl ?_
  refine WL.rd (RD.move rfl) rfl rfl ?_
  refine WL.efS (EF.callN (.cons rfl (.cons rfl .nil)) (fun w hS => sOnlyBars_c _ _ _ _ _ _ (by exact RdI.rd hS) (by exact RdI.rd hS) (by omega))) rfl rfl ?_
  rintro v14 -
  refine WL.rd (RD.move rfl) rfl rfl ?_
  refine WL.rd (RD.move rfl) rfl rfl ?_
  refine WL.efS (EF.callS (.cons rfl (.cons rfl (.cons rfl .nil))) (fun w hS => sRankOf_c _ _ _ _ _ _ (by exact RdI.rd hS) (by first | assumption | (constructor <;> decide) | omega) (by first | assumption | (constructor <;> decide) | omega) (by omega))) rfl rfl ?_
  rintro ⟨⟩ -
  refine WL.rd (RD.assign rfl) rfl rfl ?_
  refine WL.nil ?_
  refine JE.seqN ?_
  refine J.ret ?_
  refine JE.ret rfl (.tmp rfl .nil) (fun w hS => ?_)
  exact CS.fin hS (by unfold rsI; rw [if_pos (Decidable.not_not.1 hc11)]; rfl)
theorem isSet_c (n : Int) (v : Value) (xs : List (Int × Int)) (vs : Value) (s : List Int) (w : World) (hr : Rd w v 2 (xs.map bv)) (hrs : Rd w vs 1 (s.map iv)) :
    CS Try.prog 140 [.agg #[.int .i64 n, v], vs] w (.bool (decide (isSt n xs s))) := by
 have hl_xs : xs.length ≤ 9223372036854775807 := (by obtain ⟨_, _, _, hh, _⟩ := hr.shape; simpa using hh)
 have hl_s : s.length ≤ 9223372036854775807 := (by obtain ⟨_, _, _, hh, _⟩ := hrs.shape; simpa using hh)
 refine calls_of_J (mu := (fun _ => False)) (m := [.ro v 2 (xs.map bv), .ro vs 1 (s.map iv)]) (e := [(0, .agg #[.int .i64 n, v]), (1, vs)]) Try.func140 rfl rfl (.cons rfl (.cons rfl .nil)) ((((St.init _ _).ro0 hrs (by decide)).ro0 hr (by decide))) ?_
 refine J.seq ?_
 refine J.reg ?_
 refine WL.efS (EF.boxA rfl) rfl rfl ?_
 intro b2 _
 refine WL.rd (RD.assign rfl) rfl rfl ?_
 refine WL.nil ?_
 refine JE.seqN ?_
 refine J.seq ?_
 refine J.seq ?_
 refine J.reg ?_
 refine WL.rd (RD.move rfl) rfl rfl ?_
 refine WL.rd (RD.lenR rfl) rfl rfl ?_
 refine WL.rd (RD.move rfl) rfl rfl ?_
 refine WL.nil ?_
 refine JE.seqN ?_
 refine J.block ?_
 refine J.loop (fun gg ee mm => ∃ (i : Nat), gg = s.length - i ∧ ((i ≤ s.length) ∧ (∀ j, j < i → stOk xs s j)) ∧ ee = [(7, vs), (8, .int .i64 (s.length : Int)), (9, .int .i64 (i : Int)), (1, vs), (2, .pointer (some ⟨b2, 0, none⟩))] ∧ mm = [.cells b2 26 [.int .i64 n, v], .ro v 2 (xs.map bv), .ro vs 1 (s.map iv)]) _ ⟨0, rfl, ?_, rfl, rfl⟩ ?_ ?_ ?_
 · exact ⟨by omega, fun j hj => by omega⟩
 · exact (Sub.consE rfl (by first | rfl | (congr 1; omega) | (simp; done)) (Sub.consE rfl (by first | rfl | (congr 1; omega) | (simp; done)) (Sub.consE rfl (by first | rfl | (congr 1; omega) | (simp; done)) (Sub.consE rfl (by first | rfl | (congr 1; omega) | (simp; done)) (Sub.consE rfl (by first | rfl | (congr 1; omega) | (simp; done)) .nil)))))
 · exact (SubM.cells rfl (by first | rfl | (simp; done)) (SubM.ro rfl (by first | rfl | (simp [iv, bv, yv, tv, sv]; done)) (SubM.ro rfl (by first | rfl | (simp [iv, bv, yv, tv, sv]; done)) .nil)))
 ·
  rintro g _ _ ⟨i, rfl, hI, rfl, rfl⟩
  refine J.seq ?_
  refine J.reg ?_
  refine WL.rd (RD.lss rfl rfl) rfl rfl ?_
  refine WL.nil ?_
  refine JE.seqN ?_
  refine J.seq ?_
  refine J.condP rfl (fun hc10 => ?_) (fun hc10 => ?_)
  ·
   refine J.skip ?_
   refine JE.seqN ?_
   refine J.seq ?_
   refine J.block ?_
   refine J.seq ?_
   refine J.reg ?_
   refine WL.rd (RD.move rfl) rfl rfl ?_
   refine WL.rd (RD.idx rfl rfl (by omega) rfl) rfl rfl ?_
   refine WL.rd (RD.loadE rfl (by omega) rfl) rfl rfl ?_
   refine WL.rd (RD.assign rfl) rfl rfl ?_
   refine WL.rd (RD.assign rfl) rfl rfl ?_
   refine WL.nil ?_
   refine JE.seqN ?_
   refine J.seq ?_
   refine J.reg ?_
   refine WL.rd (RD.move rfl) rfl rfl ?_
   refine WL.rd (RD.fieldC rfl rfl) rfl rfl ?_
   refine WL.rd (RD.loadC rfl rfl) rfl rfl ?_
   refine WL.rd (RD.lenR rfl) rfl rfl ?_
   refine WL.rd (RD.sub rfl rfl (by omega) (by omega)) rfl rfl ?_
   refine WL.efS (EF.callS (.cons rfl (.cons rfl (.cons rfl .nil))) (fun w hS => within_c _ _ _ _)) rfl rfl ?_
   rintro ⟨⟩ -
   refine WL.rd (RD.notP rfl) rfl rfl ?_
   refine WL.rd (RD.move rfl) rfl rfl ?_
   refine WL.caseP 21 rfl (fun hg21 => ?_) (fun hg21 => ?_)
   ·
    refine WL.noS rfl rfl ?_
    refine WL.noS rfl rfl ?_
    refine WL.noS rfl rfl ?_
    refine WL.noS rfl rfl ?_
    refine WL.noS rfl rfl ?_
    refine WL.noS rfl rfl ?_
    refine WL.noS rfl rfl ?_
    refine WL.noS rfl rfl ?_
    refine WL.noS rfl rfl ?_
    refine WL.noS rfl rfl ?_
    refine WL.noS rfl rfl ?_
    refine WL.rd (RD.pickT rfl rfl) rfl rfl ?_
    refine WL.nil ?_
    refine JE.seqN ?_
    refine J.condT rfl ?_
    refine J.seq ?_
    refine J.reg ?_
    refine WL.rd (RD.assign rfl) rfl rfl ?_
    refine WL.nil ?_
    refine JE.seqN ?_
    refine J.ret ?_
    refine JE.ret rfl (.tmp rfl .nil) (fun w hS => ?_)
    first | (exact CS.fin hS (mk_false (fun h => by obtain ⟨h1, h2⟩ := h.1 i (by omega); first | omega | (have h3 := h2 (by omega); omega)))) | (exact CS.fin hS (mk_dec ⟨fun h => ⟨fun j hj => hI.2 j (by omega), h⟩, fun h => h.2⟩))
   ·
    refine WL.rd (RD.move rfl) rfl rfl ?_
    refine WL.rd (RD.gtr rfl rfl) rfl rfl ?_
    refine WL.rd (RD.move rfl) rfl rfl ?_
    refine WL.caseP 24 rfl (fun hg24 => ?_) (fun hg24 => ?_)
    ·
     refine WL.rd (RD.move rfl) rfl rfl ?_
     refine WL.rd (RD.move rfl) rfl rfl ?_
     refine WL.rd (RD.sub rfl rfl (by omega) (by omega)) rfl rfl ?_
     refine WL.rd (RD.idx (j := i - 1) (hj := ⟨by omega⟩) rfl rfl (by omega) rfl) rfl rfl ?_
     refine WL.rd (RD.loadE rfl (by omega) rfl) rfl rfl ?_
     refine WL.rd (RD.move rfl) rfl rfl ?_
     refine WL.rd (RD.geq rfl rfl) rfl rfl ?_
     refine WL.rd (RD.pickT rfl rfl) rfl rfl ?_
     refine WL.rd (RD.pickF rfl rfl) rfl rfl ?_
     refine WL.nil ?_
     refine JE.seqN ?_
     refine J.condP rfl (fun hc33 => ?_) (fun hc33 => ?_)
     ·
      refine J.seq ?_
      refine J.reg ?_
      refine WL.rd (RD.assign rfl) rfl rfl ?_
      refine WL.nil ?_
      refine JE.seqN ?_
      refine J.ret ?_
      refine JE.ret rfl (.tmp rfl .nil) (fun w hS => ?_)
      first | (exact CS.fin hS (mk_false (fun h => by obtain ⟨h1, h2⟩ := h.1 i (by omega); first | omega | (have h3 := h2 (by omega); omega)))) | (exact CS.fin hS (mk_dec ⟨fun h => ⟨fun j hj => hI.2 j (by omega), h⟩, fun h => h.2⟩))
     ·
      refine J.skip ?_
      refine JE.blockN ?_
      refine JE.seqN ?_
      refine J.reg ?_
      refine WL.rd (RD.add rfl rfl (by omega) (by omega)) rfl rfl ?_
      refine WL.rd (RD.move rfl) rfl rfl ?_
      refine WL.nil ?_
      refine JE.cutN ⟨_, ?_, i + 1, rfl, ?_, rfl, rfl⟩ ?_ ?_
      · omega
      · exact ⟨by omega, fun j hj => (Nat.lt_succ_iff_lt_or_eq.1 hj).elim (hI.2 j) (fun hh => by subst hh; exact ⟨by omega, fun h0 => by omega⟩)⟩
      · exact (Sub.consE rfl (by first | rfl | (congr 1; omega) | (simp; done)) (Sub.consE rfl (by first | rfl | (congr 1; omega) | (simp; done)) (Sub.consE rfl (by first | rfl | (congr 1; omega) | (simp; done)) (Sub.consE rfl (by first | rfl | (congr 1; omega) | (simp; done)) (Sub.consE rfl (by first | rfl | (congr 1; omega) | (simp; done)) .nil)))))
      · exact (SubM.cells rfl (by first | rfl | (simp; done)) (SubM.ro rfl (by first | rfl | (simp [iv, bv, yv, tv, sv]; done)) (SubM.ro rfl (by first | rfl | (simp [iv, bv, yv, tv, sv]; done)) .nil)))
    ·
     refine WL.noS rfl rfl ?_
     refine WL.noS rfl rfl ?_
     refine WL.noS rfl rfl ?_
     refine WL.noS rfl rfl ?_
     refine WL.noS rfl rfl ?_
     refine WL.noS rfl rfl ?_
     refine WL.noS rfl rfl ?_
     refine WL.rd (RD.pickF rfl rfl) rfl rfl ?_
     refine WL.rd (RD.pickF rfl rfl) rfl rfl ?_
     refine WL.nil ?_
     refine JE.seqN ?_
     refine J.condF rfl ?_
     refine J.skip ?_
     refine JE.blockN ?_
     refine JE.seqN ?_
     refine J.reg ?_
     refine WL.rd (RD.add rfl rfl (by omega) (by omega)) rfl rfl ?_
     refine WL.rd (RD.move rfl) rfl rfl ?_
     refine WL.nil ?_
     refine JE.cutN ⟨_, ?_, i + 1, rfl, ?_, rfl, rfl⟩ ?_ ?_
     · omega
     · exact ⟨by omega, fun j hj => (Nat.lt_succ_iff_lt_or_eq.1 hj).elim (hI.2 j) (fun hh => by subst hh; exact ⟨by omega, fun h0 => by omega⟩)⟩
     · exact (Sub.consE rfl (by first | rfl | (congr 1; omega) | (simp; done)) (Sub.consE rfl (by first | rfl | (congr 1; omega) | (simp; done)) (Sub.consE rfl (by first | rfl | (congr 1; omega) | (simp; done)) (Sub.consE rfl (by first | rfl | (congr 1; omega) | (simp; done)) (Sub.consE rfl (by first | rfl | (congr 1; omega) | (simp; done)) .nil)))))
     · exact (SubM.cells rfl (by first | rfl | (simp; done)) (SubM.ro rfl (by first | rfl | (simp [iv, bv, yv, tv, sv]; done)) (SubM.ro rfl (by first | rfl | (simp [iv, bv, yv, tv, sv]; done)) .nil)))
  ·
   refine J.exit ?_
   refine JE.seqX ?_
   refine JE.cutX ?_
   refine JE.blockHit ?_
   refine JE.seqN ?_
   refine J.seq ?_
   refine J.reg ?_
   refine WL.rd (RD.loadA rfl rfl) rfl rfl ?_
   refine WL.efS (EF.callS (.cons rfl .nil) (fun w hS => iIsGraph_c _ _ _ _ (by exact RdI.rd hS))) rfl rfl ?_
   rintro ⟨⟩ -
   refine WL.rd (RD.assign rfl) rfl rfl ?_
   refine WL.nil ?_
   refine JE.seqN ?_
   refine J.ret ?_
   refine JE.ret rfl (.tmp rfl .nil) (fun w hS => ?_)
   first | (exact CS.fin hS (mk_false (fun h => by obtain ⟨h1, h2⟩ := h.1 i (by omega); first | omega | (have h3 := h2 (by omega); omega)))) | (exact CS.fin hS (mk_dec ⟨fun h => ⟨fun j hj => hI.2 j (by omega), h⟩, fun h => h.2⟩))
theorem l5Set_c (n : Int) (v : Value) (xs : List (Int × Int)) (vs : Value) (s : List Int) (w : World) (hr : Rd w v 2 (xs.map bv)) (hrs : Rd w vs 1 (s.map iv)) :
    CS Try.prog 141 [.agg #[.int .i64 n, v], vs] w (.bool (decide (isSt n xs s))) := by
 have hl_xs : xs.length ≤ 9223372036854775807 := (by obtain ⟨_, _, _, hh, _⟩ := hr.shape; simpa using hh)
 have hl_s : s.length ≤ 9223372036854775807 := (by obtain ⟨_, _, _, hh, _⟩ := hrs.shape; simpa using hh)
 refine calls_of_J (mu := (fun _ => False)) (m := [.ro v 2 (xs.map bv), .ro vs 1 (s.map iv)]) (e := [(0, .agg #[.int .i64 n, v]), (1, vs)]) Try.func141 rfl rfl (.cons rfl (.cons rfl .nil)) ((((St.init _ _).ro0 hrs (by decide)).ro0 hr (by decide))) ?_
 refine J.seq ?_
 refine J.reg ?_
 refine WL.efS (EF.boxA rfl) rfl rfl ?_
 intro b2 _
 refine WL.rd (RD.assign rfl) rfl rfl ?_
 refine WL.nil ?_
 refine JE.seqN ?_
 refine J.seq ?_
 refine J.seq ?_
 refine J.reg ?_
 refine WL.rd (RD.assign rfl) rfl rfl ?_
 refine WL.nil ?_
 refine JE.seqN ?_
 refine J.block ?_
 refine J.loop (fun gg ee mm => ∃ (i : Nat), gg = s.length - i ∧ ((i ≤ s.length) ∧ (∀ j, j < i → stOk xs s j)) ∧ ee = [(5, .int .i64 (i : Int)), (1, vs), (2, .pointer (some ⟨b2, 0, none⟩))] ∧ mm = [.cells b2 26 [.int .i64 n, v], .ro v 2 (xs.map bv), .ro vs 1 (s.map iv)]) _ ⟨0, rfl, ?_, rfl, rfl⟩ ?_ ?_ ?_
 · exact ⟨by omega, fun j hj => by omega⟩
 · exact (Sub.consE rfl (by first | rfl | (congr 1; omega) | (simp; done)) (Sub.consE rfl (by first | rfl | (congr 1; omega) | (simp; done)) (Sub.consE rfl (by first | rfl | (congr 1; omega) | (simp; done)) .nil)))
 · exact (SubM.cells rfl (by first | rfl | (simp; done)) (SubM.ro rfl (by first | rfl | (simp [iv, bv, yv, tv, sv]; done)) (SubM.ro rfl (by first | rfl | (simp [iv, bv, yv, tv, sv]; done)) .nil)))
 ·
  rintro g _ _ ⟨i, rfl, hI, rfl, rfl⟩
  refine J.seq ?_
  refine J.seq ?_
  refine J.reg ?_
  refine WL.rd (RD.move rfl) rfl rfl ?_
  refine WL.rd (RD.move rfl) rfl rfl ?_
  refine WL.rd (RD.lenR rfl) rfl rfl ?_
  refine WL.rd (RD.lss rfl rfl) rfl rfl ?_
  refine WL.nil ?_
  refine JE.seqN ?_
  refine J.condP rfl (fun hc9 => ?_) (fun hc9 => ?_)
  ·
   refine J.skip ?_
   refine JE.seqN ?_
   refine J.seq ?_
   refine J.block ?_
   refine J.seq ?_
   refine J.anyAll [] ?_
   refine WA.takeP 0 rfl (RDP.of fun _ => RD.move rfl) rfl (by kernel_rfl) rfl ?_
   refine WA.takeP 1 rfl (RDP.of fun _ => RD.move rfl) rfl (by kernel_rfl) rfl ?_
   refine WA.takeP 2 rfl (RDP.idx rfl rfl (by omega) rfl) rfl (by kernel_rfl) rfl ?_
   refine WA.take 3 rfl (RD.loadE rfl (by omega) rfl) rfl (by kernel_rfl) rfl ?_
   refine WA.takeP 4 rfl (RDP.of fun _ => RD.lss rfl rfl) rfl (by kernel_rfl) rfl ?_
   refine WA.takeP 5 rfl (RDP.of fun _ => RD.move rfl) rfl (by kernel_rfl) rfl ?_
   refine WA.caseP 17 rfl (fun hg17 => ?_) (fun hg17 => ?_)
   ·
    refine WA.no 6 rfl rfl (by kernel_rfl) rfl ?_
    refine WA.no 7 rfl rfl (by kernel_rfl) rfl ?_
    refine WA.no 8 rfl rfl (by kernel_rfl) rfl ?_
    refine WA.no 9 rfl rfl (by kernel_rfl) rfl ?_
    refine WA.no 10 rfl rfl (by kernel_rfl) rfl ?_
    refine WA.no 11 rfl rfl (by kernel_rfl) rfl ?_
    refine WA.no 12 rfl rfl (by kernel_rfl) rfl ?_
    refine WA.no 13 rfl rfl (by kernel_rfl) rfl ?_
    refine WA.takeP 14 rfl (RDP.of fun _ => RD.pickT rfl rfl) rfl (by kernel_rfl) rfl ?_
    refine WA.takeP 15 rfl (RDP.of fun _ => RD.move rfl) rfl (by kernel_rfl) rfl ?_
    refine WA.no 16 rfl rfl (by kernel_rfl) rfl ?_
    refine WA.no 17 rfl rfl (by kernel_rfl) rfl ?_
    refine WA.no 18 rfl rfl (by kernel_rfl) rfl ?_
    refine WA.no 19 rfl rfl (by kernel_rfl) rfl ?_
    refine WA.no 20 rfl rfl (by kernel_rfl) rfl ?_
    refine WA.no 21 rfl rfl (by kernel_rfl) rfl ?_
    refine WA.no 22 rfl rfl (by kernel_rfl) rfl ?_
    refine WA.no 23 rfl rfl (by kernel_rfl) rfl ?_
    refine WA.no 24 rfl rfl (by kernel_rfl) rfl ?_
    refine WA.no 25 rfl rfl (by kernel_rfl) rfl ?_
    refine WA.no 26 rfl rfl (by kernel_rfl) rfl ?_
    refine WA.no 27 rfl rfl (by kernel_rfl) rfl ?_
    refine WA.no 28 rfl rfl (by kernel_rfl) rfl ?_
    refine WA.no 29 rfl rfl (by kernel_rfl) rfl ?_
    refine WA.takeP 30 rfl (RDP.of fun _ => RD.pickT rfl rfl) rfl (by kernel_rfl) rfl ?_
    refine WA.done (by kernel_rfl) ?_
    refine JE.seqN ?_
    refine J.condT rfl ?_
    refine J.seq ?_
    refine J.reg ?_
    refine WL.rd (RD.assign rfl) rfl rfl ?_
    refine WL.nil ?_
    refine JE.seqN ?_
    refine J.ret ?_
    refine JE.ret rfl (.tmp rfl .nil) (fun w hS => ?_)
    first | (exact CS.fin hS (mk_false (fun h => by obtain ⟨h1, h2⟩ := h.1 i (by omega); first | omega | (have h3 := h2 (by omega); omega)))) | (exact CS.fin hS (mk_dec ⟨fun h => ⟨fun j hj => hI.2 j (by omega), h⟩, fun h => h.2⟩))
   ·
    refine WA.takeP 6 rfl (RDP.of fun _ => RD.move rfl) rfl (by kernel_rfl) rfl ?_
    refine WA.takeP 7 rfl (RDP.of fun _ => RD.move rfl) rfl (by kernel_rfl) rfl ?_
    refine WA.takeP 8 rfl (RDP.idx rfl rfl (by omega) rfl) rfl (by kernel_rfl) rfl ?_
    refine WA.take 9 rfl (RD.loadE rfl (by omega) rfl) rfl (by kernel_rfl) rfl ?_
    refine WA.takeP 10 rfl (RDP.of fun _ => RD.fieldC rfl rfl) rfl (by kernel_rfl) rfl ?_
    refine WA.take 11 rfl (RD.loadC rfl rfl) rfl (by kernel_rfl) rfl ?_
    refine WA.takeP 12 rfl (RDP.lenR rfl) rfl (by kernel_rfl) rfl ?_
    refine WA.takeP 13 rfl (RDP.of fun _ => RD.geq rfl rfl) rfl (by kernel_rfl) rfl ?_
    refine WA.takeP 14 rfl (RDP.of fun _ => RD.pickF rfl rfl) rfl (by kernel_rfl) rfl ?_
    refine WA.takeP 15 rfl (RDP.of fun _ => RD.move rfl) rfl (by kernel_rfl) rfl ?_
    refine WA.caseP 27 rfl (fun hg27 => ?_) (fun hg27 => ?_)
    ·
     refine WA.no 16 rfl rfl (by kernel_rfl) rfl ?_
     refine WA.no 17 rfl rfl (by kernel_rfl) rfl ?_
     refine WA.no 18 rfl rfl (by kernel_rfl) rfl ?_
     refine WA.no 19 rfl rfl (by kernel_rfl) rfl ?_
     refine WA.no 20 rfl rfl (by kernel_rfl) rfl ?_
     refine WA.no 21 rfl rfl (by kernel_rfl) rfl ?_
     refine WA.no 22 rfl rfl (by kernel_rfl) rfl ?_
     refine WA.no 23 rfl rfl (by kernel_rfl) rfl ?_
     refine WA.no 24 rfl rfl (by kernel_rfl) rfl ?_
     refine WA.no 25 rfl rfl (by kernel_rfl) rfl ?_
     refine WA.no 26 rfl rfl (by kernel_rfl) rfl ?_
     refine WA.no 27 rfl rfl (by kernel_rfl) rfl ?_
     refine WA.no 28 rfl rfl (by kernel_rfl) rfl ?_
     refine WA.no 29 rfl rfl (by kernel_rfl) rfl ?_
     refine WA.takeP 30 rfl (RDP.of fun _ => RD.pickT rfl rfl) rfl (by kernel_rfl) rfl ?_
     refine WA.done (by kernel_rfl) ?_
     refine JE.seqN ?_
     refine J.condT rfl ?_
     refine J.seq ?_
     refine J.reg ?_
     refine WL.rd (RD.assign rfl) rfl rfl ?_
     refine WL.nil ?_
     refine JE.seqN ?_
     refine J.ret ?_
     refine JE.ret rfl (.tmp rfl .nil) (fun w hS => ?_)
     first | (exact CS.fin hS (mk_false (fun h => by obtain ⟨h1, h2⟩ := h.1 i (by omega); first | omega | (have h3 := h2 (by omega); omega)))) | (exact CS.fin hS (mk_dec ⟨fun h => ⟨fun j hj => hI.2 j (by omega), h⟩, fun h => h.2⟩))
    ·
     refine WA.takeP 16 rfl (RDP.of fun _ => RD.move rfl) rfl (by kernel_rfl) rfl ?_
     refine WA.takeP 17 rfl (RDP.of fun _ => RD.gtr rfl rfl) rfl (by kernel_rfl) rfl ?_
     refine WA.takeP 18 rfl (RDP.of fun _ => RD.move rfl) rfl (by kernel_rfl) rfl ?_
     refine WA.caseP 30 rfl (fun hg30 => ?_) (fun hg30 => ?_)
     ·
      refine WA.takeP 19 rfl (RDP.of fun _ => RD.move rfl) rfl (by kernel_rfl) rfl ?_
      refine WA.takeP 20 rfl (RDP.of fun _ => RD.move rfl) rfl (by kernel_rfl) rfl ?_
      refine WA.takeP 21 rfl (RDP.of fun _ => RD.sub rfl rfl (by omega) (by omega)) rfl (by kernel_rfl) rfl ?_
      refine WA.takeP 22 rfl (RDP.idx (j := i - 1) (hj := ⟨by omega⟩) rfl rfl (by omega) rfl) rfl (by kernel_rfl) rfl ?_
      refine WA.take 23 rfl (RD.loadE rfl (by omega) rfl) rfl (by kernel_rfl) rfl ?_
      refine WA.takeP 24 rfl (RDP.of fun _ => RD.move rfl) rfl (by kernel_rfl) rfl ?_
      refine WA.takeP 25 rfl (RDP.of fun _ => RD.move rfl) rfl (by kernel_rfl) rfl ?_
      refine WA.takeP 26 rfl (RDP.idx rfl rfl (by omega) rfl) rfl (by kernel_rfl) rfl ?_
      refine WA.take 27 rfl (RD.loadE rfl (by omega) rfl) rfl (by kernel_rfl) rfl ?_
      refine WA.takeP 28 rfl (RDP.of fun _ => RD.geq rfl rfl) rfl (by kernel_rfl) rfl ?_
      refine WA.takeP 29 rfl (RDP.of fun _ => RD.pickT rfl rfl) rfl (by kernel_rfl) rfl ?_
      refine WA.takeP 30 rfl (RDP.of fun _ => RD.pickF rfl rfl) rfl (by kernel_rfl) rfl ?_
      refine WA.done (by kernel_rfl) ?_
      refine JE.seqN ?_
      refine J.condP rfl (fun hc42 => ?_) (fun hc42 => ?_)
      ·
       refine J.seq ?_
       refine J.reg ?_
       refine WL.rd (RD.assign rfl) rfl rfl ?_
       refine WL.nil ?_
       refine JE.seqN ?_
       refine J.ret ?_
       refine JE.ret rfl (.tmp rfl .nil) (fun w hS => ?_)
       first | (exact CS.fin hS (mk_false (fun h => by obtain ⟨h1, h2⟩ := h.1 i (by omega); first | omega | (have h3 := h2 (by omega); omega)))) | (exact CS.fin hS (mk_dec ⟨fun h => ⟨fun j hj => hI.2 j (by omega), h⟩, fun h => h.2⟩))
      ·
       refine J.skip ?_
       refine JE.blockN ?_
       refine JE.seqN ?_
       refine J.reg ?_
       refine WL.rd (RD.move rfl) rfl rfl ?_
       refine WL.rd (RD.add rfl rfl (by omega) (by omega)) rfl rfl ?_
       refine WL.rd (RD.assign rfl) rfl rfl ?_
       refine WL.nil ?_
       refine JE.cutN ⟨_, ?_, i + 1, rfl, ?_, rfl, rfl⟩ ?_ ?_
       · omega
       · exact ⟨by omega, fun j hj => (Nat.lt_succ_iff_lt_or_eq.1 hj).elim (hI.2 j) (fun hh => by subst hh; exact ⟨by omega, fun h0 => by omega⟩)⟩
       · exact (Sub.consE rfl (by first | rfl | (congr 1; omega) | (simp; done)) (Sub.consE rfl (by first | rfl | (congr 1; omega) | (simp; done)) (Sub.consE rfl (by first | rfl | (congr 1; omega) | (simp; done)) .nil)))
       · exact (SubM.cells rfl (by first | rfl | (simp; done)) (SubM.ro rfl (by first | rfl | (simp [iv, bv, yv, tv, sv]; done)) (SubM.ro rfl (by first | rfl | (simp [iv, bv, yv, tv, sv]; done)) .nil)))
     ·
      refine WA.no 19 rfl rfl (by kernel_rfl) rfl ?_
      refine WA.no 20 rfl rfl (by kernel_rfl) rfl ?_
      refine WA.no 21 rfl rfl (by kernel_rfl) rfl ?_
      refine WA.no 22 rfl rfl (by kernel_rfl) rfl ?_
      refine WA.no 23 rfl rfl (by kernel_rfl) rfl ?_
      refine WA.no 24 rfl rfl (by kernel_rfl) rfl ?_
      refine WA.no 25 rfl rfl (by kernel_rfl) rfl ?_
      refine WA.no 26 rfl rfl (by kernel_rfl) rfl ?_
      refine WA.no 27 rfl rfl (by kernel_rfl) rfl ?_
      refine WA.no 28 rfl rfl (by kernel_rfl) rfl ?_
      refine WA.takeP 29 rfl (RDP.of fun _ => RD.pickF rfl rfl) rfl (by kernel_rfl) rfl ?_
      refine WA.takeP 30 rfl (RDP.of fun _ => RD.pickF rfl rfl) rfl (by kernel_rfl) rfl ?_
      refine WA.done (by kernel_rfl) ?_
      refine JE.seqN ?_
      refine J.condF rfl ?_
      refine J.skip ?_
      refine JE.blockN ?_
      refine JE.seqN ?_
      refine J.reg ?_
      refine WL.rd (RD.move rfl) rfl rfl ?_
      refine WL.rd (RD.add rfl rfl (by omega) (by omega)) rfl rfl ?_
      refine WL.rd (RD.assign rfl) rfl rfl ?_
      refine WL.nil ?_
      refine JE.cutN ⟨_, ?_, i + 1, rfl, ?_, rfl, rfl⟩ ?_ ?_
      · omega
      · exact ⟨by omega, fun j hj => (Nat.lt_succ_iff_lt_or_eq.1 hj).elim (hI.2 j) (fun hh => by subst hh; exact ⟨by omega, fun h0 => by omega⟩)⟩
      · exact (Sub.consE rfl (by first | rfl | (congr 1; omega) | (simp; done)) (Sub.consE rfl (by first | rfl | (congr 1; omega) | (simp; done)) (Sub.consE rfl (by first | rfl | (congr 1; omega) | (simp; done)) .nil)))
      · exact (SubM.cells rfl (by first | rfl | (simp; done)) (SubM.ro rfl (by first | rfl | (simp [iv, bv, yv, tv, sv]; done)) (SubM.ro rfl (by first | rfl | (simp [iv, bv, yv, tv, sv]; done)) .nil)))
  ·
   refine J.exit ?_
   refine JE.seqX ?_
   refine JE.cutX ?_
   refine JE.blockHit ?_
   refine JE.seqN ?_
   refine J.seq ?_
   refine J.reg ?_
   refine WL.rd (RD.loadA rfl rfl) rfl rfl ?_
   refine WL.efS (EF.callS (.cons rfl .nil) (fun w hS => sIsGraph_c _ _ _ _ (by exact RdI.rd hS))) rfl rfl ?_
   rintro ⟨⟩ -
   refine WL.rd (RD.assign rfl) rfl rfl ?_
   refine WL.nil ?_
   refine JE.seqN ?_
   refine J.ret ?_
   refine JE.ret rfl (.tmp rfl .nil) (fun w hS => ?_)
   first | (exact CS.fin hS (mk_false (fun h => by obtain ⟨h1, h2⟩ := h.1 i (by omega); first | omega | (have h3 := h2 (by omega); omega)))) | (exact CS.fin hS (mk_dec ⟨fun h => ⟨fun j hj => hI.2 j (by omega), h⟩, fun h => h.2⟩))
theorem iIsIndependent_c (n : Int) (v : Value) (xs : List (Int × Int)) (k l : Int) (vs : Value) (s : List Int) (w : World) (hr : Rd w v 2 (xs.map bv)) (hk : -9223372036854775808 ≤ k ∧ k ≤ 9223372036854775807) (hl : -9223372036854775808 ≤ l ∧ l ≤ 9223372036854775807) (hrs : Rd w vs 1 (s.map iv)) (hlx : xs.length ≤ 1048576) :
    CS Try.prog 86 [.agg #[.int .i64 n, v], .int .i64 k, .int .i64 l, vs] w (.bool (decide (indI n k l xs s))) := by
 have hl_xs : xs.length ≤ 9223372036854775807 := (by obtain ⟨_, _, _, hh, _⟩ := hr.shape; simpa using hh)
 have hl_s : s.length ≤ 9223372036854775807 := (by obtain ⟨_, _, _, hh, _⟩ := hrs.shape; simpa using hh)
 refine calls_of_J (mu := (fun _ => False)) (m := [.ro v 2 (xs.map bv), .ro vs 1 (s.map iv)]) (e := [(0, .agg #[.int .i64 n, v]), (1, .int .i64 k), (2, .int .i64 l), (3, vs)]) Try.func86 rfl rfl (.cons rfl (.cons rfl (.cons rfl (.cons rfl .nil)))) ((((St.init _ _).ro0 hrs (by decide)).ro0 hr (by decide))) ?_
 refine J.seq ?_
 refine J.reg ?_
 refine WL.efS (EF.boxA rfl) rfl rfl ?_
 intro b4 _
 refine WL.rd (RD.assign rfl) rfl rfl ?_
 refine WL.nil ?_
 refine JE.seqN ?_
 refine J.seq ?_
 refine J.reg ?_
 refine WL.rd (RD.loadA rfl rfl) rfl rfl ?_
 refine WL.rd (RD.move rfl) rfl rfl ?_
 refine WL.efS (EF.callS (.cons rfl (.cons rfl .nil)) (fun w hS => isSet_c _ _ _ _ _ _ (by exact RdI.rd hS) (by exact RdI.rd hS))) rfl rfl ?_
 rintro ⟨⟩ -
 refine WL.rd (RD.move rfl) rfl rfl ?_
 refine WL.caseP 12 rfl (fun hg12 => ?_) (fun hg12 => ?_)
 ·
  refine WL.rd (RD.move rfl) rfl rfl ?_
  refine WL.rd (RD.move rfl) rfl rfl ?_
  refine WL.efS (EF.callS (.cons rfl (.cons rfl .nil)) (fun w hS => iIsRange_c _ _ _ (by assumption))) rfl rfl ?_
  rintro ⟨⟩ -
  refine WL.rd (RD.pickT rfl rfl) rfl rfl ?_
  refine WL.rd (RD.move rfl) rfl rfl ?_
  refine WL.caseP 17 rfl (fun hg17 => ?_) (fun hg17 => ?_)
  ·
   refine WL.rd (RD.loadA rfl rfl) rfl rfl ?_
   refine WL.rd (RD.move rfl) rfl rfl ?_
   refine WL.rd (RD.move rfl) rfl rfl ?_
   refine WL.rd (RD.move rfl) rfl rfl ?_
   refine WL.efS (EF.callS (.cons rfl (.cons rfl (.cons rfl (.cons rfl .nil)))) (fun w hS => iRankOfSet_c _ _ _ _ _ _ _ _ (by exact RdI.rd hS) (by first | assumption | (constructor <;> decide) | omega) (by first | assumption | (constructor <;> decide) | omega) (by exact RdI.rd hS) (by omega))) rfl rfl ?_
   rintro ⟨⟩ -
   refine WL.rd (RD.move rfl) rfl rfl ?_
   refine WL.rd (RD.lenR rfl) rfl rfl ?_
   refine WL.rd (RD.eql rfl rfl) rfl rfl ?_
   refine WL.rd (RD.pickT rfl rfl) rfl rfl ?_
   refine WL.rd (RD.assign rfl) rfl rfl ?_
   refine WL.nil ?_
   refine JE.seqN ?_
   refine J.ret ?_
   refine JE.ret rfl (.tmp rfl .nil) (fun w hS => ?_)
   first | exact CS.fin hS (mk_false (fun h => absurd h.1 (by assumption))) | exact CS.fin hS (mk_false (fun h => absurd h.2.1 (by assumption))) | exact CS.fin hS (mk_dec ⟨fun h => ⟨by assumption, by assumption, h⟩, fun h => h.2.2⟩)
  ·
   refine WL.noS rfl rfl ?_
   refine WL.noS rfl rfl ?_
   refine WL.noS rfl rfl ?_
   refine WL.noS rfl rfl ?_
   refine WL.noS rfl rfl ?_
   refine WL.noS rfl rfl ?_
   refine WL.noS rfl rfl ?_
   refine WL.noS rfl rfl ?_
   refine WL.rd (RD.pickF rfl rfl) rfl rfl ?_
   refine WL.rd (RD.assign rfl) rfl rfl ?_
   refine WL.nil ?_
   refine JE.seqN ?_
   refine J.ret ?_
   refine JE.ret rfl (.tmp rfl .nil) (fun w hS => ?_)
   first | exact CS.fin hS (mk_false (fun h => absurd h.1 (by assumption))) | exact CS.fin hS (mk_false (fun h => absurd h.2.1 (by assumption))) | exact CS.fin hS (mk_dec ⟨fun h => ⟨by assumption, by assumption, h⟩, fun h => h.2.2⟩)
 ·
  refine WL.noS rfl rfl ?_
  refine WL.noS rfl rfl ?_
  refine WL.noS rfl rfl ?_
  refine WL.rd (RD.pickF rfl rfl) rfl rfl ?_
  refine WL.rd (RD.move rfl) rfl rfl ?_
  refine WL.noS rfl rfl ?_
  refine WL.noS rfl rfl ?_
  refine WL.noS rfl rfl ?_
  refine WL.noS rfl rfl ?_
  refine WL.noS rfl rfl ?_
  refine WL.noS rfl rfl ?_
  refine WL.noS rfl rfl ?_
  refine WL.noS rfl rfl ?_
  refine WL.rd (RD.pickF rfl rfl) rfl rfl ?_
  refine WL.rd (RD.assign rfl) rfl rfl ?_
  refine WL.nil ?_
  refine JE.seqN ?_
  refine J.ret ?_
  refine JE.ret rfl (.tmp rfl .nil) (fun w hS => ?_)
  first | exact CS.fin hS (mk_false (fun h => absurd h.1 (by assumption))) | exact CS.fin hS (mk_false (fun h => absurd h.2.1 (by assumption))) | exact CS.fin hS (mk_dec ⟨fun h => ⟨by assumption, by assumption, h⟩, fun h => h.2.2⟩)
theorem sIsIndependent_c (n : Int) (v : Value) (xs : List (Int × Int)) (k l : Int) (vs : Value) (s : List Int) (w : World) (hr : Rd w v 2 (xs.map bv)) (hk : -9223372036854775808 ≤ k ∧ k ≤ 9223372036854775807) (hl : -9223372036854775808 ≤ l ∧ l ≤ 9223372036854775807) (hrs : Rd w vs 1 (s.map iv)) (hlx : xs.length ≤ 1048576) :
    CS Try.prog 87 [.agg #[.int .i64 n, v], .int .i64 k, .int .i64 l, vs] w (.bool (decide (indI n k l xs s))) := by
 have hl_xs : xs.length ≤ 9223372036854775807 := (by obtain ⟨_, _, _, hh, _⟩ := hr.shape; simpa using hh)
 have hl_s : s.length ≤ 9223372036854775807 := (by obtain ⟨_, _, _, hh, _⟩ := hrs.shape; simpa using hh)
 refine calls_of_J (mu := (fun _ => False)) (m := [.ro v 2 (xs.map bv), .ro vs 1 (s.map iv)]) (e := [(0, .agg #[.int .i64 n, v]), (1, .int .i64 k), (2, .int .i64 l), (3, vs)]) Try.func87 rfl rfl (.cons rfl (.cons rfl (.cons rfl (.cons rfl .nil)))) ((((St.init _ _).ro0 hrs (by decide)).ro0 hr (by decide))) ?_
 refine J.seq ?_
 refine J.reg ?_
 refine WL.efS (EF.boxA rfl) rfl rfl ?_
 intro b4 _
 refine WL.rd (RD.assign rfl) rfl rfl ?_
 refine WL.nil ?_
 refine JE.seqN ?_
 refine J.seq ?_
 refine J.reg ?_
 refine WL.rd (RD.loadA rfl rfl) rfl rfl ?_
 refine WL.rd (RD.move rfl) rfl rfl ?_
 refine WL.efS (EF.callS (.cons rfl (.cons rfl .nil)) (fun w hS => l5Set_c _ _ _ _ _ _ (by exact RdI.rd hS) (by exact RdI.rd hS))) rfl rfl ?_
 rintro ⟨⟩ -
 refine WL.rd (RD.move rfl) rfl rfl ?_
 refine WL.caseP 12 rfl (fun hg12 => ?_) (fun hg12 => ?_)
 ·
  refine WL.rd (RD.move rfl) rfl rfl ?_
  refine WL.rd (RD.move rfl) rfl rfl ?_
  refine WL.efS (EF.callS (.cons rfl (.cons rfl .nil)) (fun w hS => sIsRange_c _ _ _ (by assumption))) rfl rfl ?_
  rintro ⟨⟩ -
  refine WL.rd (RD.pickT rfl rfl) rfl rfl ?_
  refine WL.rd (RD.move rfl) rfl rfl ?_
  refine WL.caseP 17 rfl (fun hg17 => ?_) (fun hg17 => ?_)
  ·
   refine WL.rd (RD.loadA rfl rfl) rfl rfl ?_
   refine WL.rd (RD.move rfl) rfl rfl ?_
   refine WL.rd (RD.move rfl) rfl rfl ?_
   refine WL.rd (RD.move rfl) rfl rfl ?_
   refine WL.efS (EF.callS (.cons rfl (.cons rfl (.cons rfl (.cons rfl .nil)))) (fun w hS => sRankOfSet_c _ _ _ _ _ _ _ _ (by exact RdI.rd hS) (by first | assumption | (constructor <;> decide) | omega) (by first | assumption | (constructor <;> decide) | omega) (by exact RdI.rd hS) (by omega))) rfl rfl ?_
   rintro ⟨⟩ -
   refine WL.rd (RD.move rfl) rfl rfl ?_
   refine WL.rd (RD.lenR rfl) rfl rfl ?_
   refine WL.rd (RD.eql rfl rfl) rfl rfl ?_
   refine WL.rd (RD.pickT rfl rfl) rfl rfl ?_
   refine WL.rd (RD.assign rfl) rfl rfl ?_
   refine WL.nil ?_
   refine JE.seqN ?_
   refine J.ret ?_
   refine JE.ret rfl (.tmp rfl .nil) (fun w hS => ?_)
   first | exact CS.fin hS (mk_false (fun h => absurd h.1 (by assumption))) | exact CS.fin hS (mk_false (fun h => absurd h.2.1 (by assumption))) | exact CS.fin hS (mk_dec ⟨fun h => ⟨by assumption, by assumption, h⟩, fun h => h.2.2⟩)
  ·
   refine WL.noS rfl rfl ?_
   refine WL.noS rfl rfl ?_
   refine WL.noS rfl rfl ?_
   refine WL.noS rfl rfl ?_
   refine WL.noS rfl rfl ?_
   refine WL.noS rfl rfl ?_
   refine WL.noS rfl rfl ?_
   refine WL.noS rfl rfl ?_
   refine WL.rd (RD.pickF rfl rfl) rfl rfl ?_
   refine WL.rd (RD.assign rfl) rfl rfl ?_
   refine WL.nil ?_
   refine JE.seqN ?_
   refine J.ret ?_
   refine JE.ret rfl (.tmp rfl .nil) (fun w hS => ?_)
   first | exact CS.fin hS (mk_false (fun h => absurd h.1 (by assumption))) | exact CS.fin hS (mk_false (fun h => absurd h.2.1 (by assumption))) | exact CS.fin hS (mk_dec ⟨fun h => ⟨by assumption, by assumption, h⟩, fun h => h.2.2⟩)
 ·
  refine WL.noS rfl rfl ?_
  refine WL.noS rfl rfl ?_
  refine WL.noS rfl rfl ?_
  refine WL.rd (RD.pickF rfl rfl) rfl rfl ?_
  refine WL.rd (RD.move rfl) rfl rfl ?_
  refine WL.noS rfl rfl ?_
  refine WL.noS rfl rfl ?_
  refine WL.noS rfl rfl ?_
  refine WL.noS rfl rfl ?_
  refine WL.noS rfl rfl ?_
  refine WL.noS rfl rfl ?_
  refine WL.noS rfl rfl ?_
  refine WL.noS rfl rfl ?_
  refine WL.rd (RD.pickF rfl rfl) rfl rfl ?_
  refine WL.rd (RD.assign rfl) rfl rfl ?_
  refine WL.nil ?_
  refine JE.seqN ?_
  refine J.ret ?_
  refine JE.ret rfl (.tmp rfl .nil) (fun w hS => ?_)
  first | exact CS.fin hS (mk_false (fun h => absurd h.1 (by assumption))) | exact CS.fin hS (mk_false (fun h => absurd h.2.1 (by assumption))) | exact CS.fin hS (mk_dec ⟨fun h => ⟨by assumption, by assumption, h⟩, fun h => h.2.2⟩)
theorem pbI_len (n : Int) (xs : List (Int × Int)) (k l : Int) (f t pl : List Int) (i : Int) (h1 : f.length ≤ 1048576) (h2 : t.length ≤ 1048576) (h3 : pl.length ≤ 1048576) : (pbI n xs k l f t pl i).1.f.length ≤ 1048576 ∧ (pbI n xs k l f t pl i).1.t.length ≤ 1048576 ∧ (pbI n xs k l f t pl i).1.pl.length ≤ 1048576 := by
  unfold pbI
  split
  · rename_i h
    obtain ⟨⟨g1, g2, g3, g4⟩, g5⟩ := h
    have hp := isP_ok g1
    have hg := g1.1
    have hxs := hg.2.2.1
    have hn1 := hg.1
    obtain ⟨e1, e2, e3⟩ := (gGood hg).e i.toNat (by omega)
    have hgs := gathP_spec (n := n.toNat) (k := k) (xs := xs) (a := (exs xs i.toNat).1) (b := (exs xs i.toNat).2) (want := l + 1) (by omega) (by omega) (by omega) 8 ⟨f, t, pl⟩ hp (by have h1 := hp.pos (exs xs i.toNat).1 (by omega) (by omega); have h2 := hp.pos (exs xs i.toNat).2 (by omega) (by omega); simp only at h1 h2 ⊢; omega)
    have q1 := hgs.1.fl
    have q2 := hgs.1.pv.tl
    have q3 := hgs.2.1
    have q4 := asc_len hp
    simp only at q3 q4
    rw [q3] at q2
    have q5 : (gatP n.toNat xs l ⟨f, t, pl⟩ i.toNat).2 = true := by rw [← place_isSome]; exact g5
    rw [plc_yes q5]
    unfold putP
    have q6 : (gatP n.toNat xs l ⟨f, t, pl⟩ i.toNat).1.f.length = n.toNat := q1
    have q7 : (gatP n.toNat xs l ⟨f, t, pl⟩ i.toNat).1.t.length = pl.length := q2
    have q8 : (gatP n.toNat xs l ⟨f, t, pl⟩ i.toNat).1.pl.length = pl.length := by show (gathP _ _ _ _ _ _ _).1.pl.length = _; rw [q3]
    have hn8 := hg.2.1
    simp only [List.length_set, List.length_append, List.length_singleton]
    omega
  · exact ⟨h1, h2, h3⟩
end Go.Proofs.Ytlcijjkbgcllfaa
