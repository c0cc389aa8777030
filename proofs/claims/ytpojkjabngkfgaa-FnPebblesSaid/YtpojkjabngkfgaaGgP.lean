/- Contracts of functions of the program, each walked once; written by a program of our own. -/
import Derived.Test.YtpojkjabngkfgaaGfP
namespace Go.Proofs.Ytpojkjabngkfgaa
open Go Go.RowKit
set_option maxRecDepth 4000

theorem l4Tail_c (vf vt vp : Value) (f t pl : List Int) (x : Int) (w : World) (hrf : Rd w vf 1 (f.map iv)) (hrt : Rd w vt 1 (t.map iv)) (hrp : Rd w vp 1 (pl.map iv)) :
    CS Try.prog 54 [.agg #[vf, vt, vp], .int .i64 x] w (.int .i64 (t.count x : Int)) := by
 have hl_f : f.length ≤ 9223372036854775807 := (by obtain ⟨_, _, _, hh, _⟩ := hrf.shape; simpa using hh)
 have hl_t : t.length ≤ 9223372036854775807 := (by obtain ⟨_, _, _, hh, _⟩ := hrt.shape; simpa using hh)
 have hl_pl : pl.length ≤ 9223372036854775807 := (by obtain ⟨_, _, _, hh, _⟩ := hrp.shape; simpa using hh)
 refine calls_of_J (mu := (fun _ => False)) (m := [.ro vf 1 (f.map iv), .ro vt 1 (t.map iv), .ro vp 1 (pl.map iv)]) (e := [(0, .agg #[vf, vt, vp]), (1, .int .i64 x)]) Try.func54 rfl rfl (.cons rfl (.cons rfl .nil)) (((((St.init _ _).ro0 hrp (by decide)).ro0 hrt (by decide)).ro0 hrf (by decide))) ?_
 refine J.seq ?_
 refine J.reg ?_
 refine WL.efS (EF.boxA rfl) rfl rfl ?_
 intro b2 _
 refine WL.rd (RD.assign rfl) rfl rfl ?_
 refine WL.nil ?_
 refine JE.seqN ?_
 refine J.seq ?_
 refine J.reg ?_
 refine WL.rd (RD.assign rfl) rfl rfl ?_
 refine WL.nil ?_
 refine JE.seqN ?_
 refine J.seq ?_
 refine J.seq ?_
 refine J.reg ?_
 refine WL.rd (RD.assign rfl) rfl rfl ?_
 refine WL.nil ?_
 refine JE.seqN ?_
 refine J.block ?_
 refine J.loop (fun gg ee mm => ∃ (k : Nat), gg = t.length - k ∧ ((k ≤ t.length)) ∧ ee = [(5, .int .i64 ((t.take k).count x : Int)), (6, .int .i64 (k : Int)), (1, .int .i64 x), (2, .pointer (some ⟨b2, 0, none⟩))] ∧ mm = [.cells b2 31 [vf, vt, vp], .ro vf 1 (f.map iv), .ro vt 1 (t.map iv), .ro vp 1 (pl.map iv)]) _ ⟨0, rfl, ?_, rfl, rfl⟩ ?_ ?_ ?_
 · first | omega | trivial | (refine ⟨?_, ?_⟩ <;> first | omega | rfl | simp)
 · exact (Sub.consE rfl (by simp) (Sub.consE rfl (by first | rfl | (congr 1; omega) | (simp; done)) (Sub.consE rfl (by first | rfl | (congr 1; omega) | (simp; done)) (Sub.consE rfl (by first | rfl | (congr 1; omega) | (simp; done)) .nil))))
 · exact (SubM.cells rfl (by first | rfl | (simp; done)) (SubM.ro rfl (by first | rfl | (simp [iv, bv, yv, tv, sv]; done)) (SubM.ro rfl (by first | rfl | (simp [iv, bv, yv, tv, sv]; done)) (SubM.ro rfl (by first | rfl | (simp [iv, bv, yv, tv, sv]; done)) .nil))))
 ·
  rintro g _ _ ⟨k, rfl, hI, rfl, rfl⟩
  have hcl : (t.take k).count x ≤ k := Nat.le_trans List.count_le_length (List.length_take_le _ _)
  refine J.seq ?_
  refine J.seq ?_
  refine J.reg ?_
  refine WL.rd (RD.move rfl) rfl rfl ?_
  refine WL.rd (RD.fieldC rfl rfl) rfl rfl ?_
  refine WL.rd (RD.loadC rfl rfl) rfl rfl ?_
  refine WL.rd (RD.lenR rfl) rfl rfl ?_
  refine WL.rd (RD.lss rfl rfl) rfl rfl ?_
  refine WL.nil ?_
  refine JE.seqN ?_
  refine J.condP rfl (fun hc11 => ?_) (fun hc11 => ?_)
  ·
   refine J.skip ?_
   refine JE.seqN ?_
   refine J.seq ?_
   refine J.block ?_
   refine J.seq ?_
   refine J.reg ?_
   refine WL.rd (RD.fieldC rfl rfl) rfl rfl ?_
   refine WL.rd (RD.loadC rfl rfl) rfl rfl ?_
   refine WL.rd (RD.move rfl) rfl rfl ?_
   refine WL.rd (RD.idx rfl rfl (by omega) rfl) rfl rfl ?_
   refine WL.rd (RD.loadE rfl (by omega) rfl) rfl rfl ?_
   refine WL.rd (RD.move rfl) rfl rfl ?_
   refine WL.rd (RD.eql rfl rfl) rfl rfl ?_
   refine WL.nil ?_
   refine JE.seqN ?_
   refine J.condP rfl (fun hc20 => ?_) (fun hc20 => ?_)
   ·
    refine J.reg ?_
    refine WL.rd (RD.move rfl) rfl rfl ?_
    refine WL.rd (RD.add rfl rfl (by omega) (by omega)) rfl rfl ?_
    refine WL.rd (RD.assign rfl) rfl rfl ?_
    refine WL.nil ?_
    refine JE.blockN ?_
    refine JE.seqN ?_
    refine J.reg ?_
    refine WL.rd (RD.move rfl) rfl rfl ?_
    refine WL.rd (RD.add rfl rfl (by omega) (by omega)) rfl rfl ?_
    refine WL.rd (RD.assign rfl) rfl rfl ?_
    refine WL.nil ?_
    refine JE.cutN ⟨_, ?_, k + 1, rfl, ?_, rfl, rfl⟩ ?_ ?_
    · omega
    · first | omega | trivial | (refine ⟨?_, ?_⟩ <;> first | omega | rfl | simp)
    · exact (Sub.consE rfl (by first | (rw [cnt_take_yes t k x (by omega) (by assumption)]; rfl) | (rw [cnt_take_no t k x (by omega) (by assumption)])) (Sub.consE rfl (by first | rfl | (congr 1; omega) | (simp; done)) (Sub.consE rfl (by first | rfl | (congr 1; omega) | (simp; done)) (Sub.consE rfl (by first | rfl | (congr 1; omega) | (simp; done)) .nil))))
    · exact (SubM.cells rfl (by first | rfl | (simp; done)) (SubM.ro rfl (by first | rfl | (simp [iv, bv, yv, tv, sv]; done)) (SubM.ro rfl (by first | rfl | (simp [iv, bv, yv, tv, sv]; done)) (SubM.ro rfl (by first | rfl | (simp [iv, bv, yv, tv, sv]; done)) .nil))))
   ·
    refine J.skip ?_
    refine JE.blockN ?_
    refine JE.seqN ?_
    refine J.reg ?_
    refine WL.rd (RD.move rfl) rfl rfl ?_
    refine WL.rd (RD.add rfl rfl (by omega) (by omega)) rfl rfl ?_
    refine WL.rd (RD.assign rfl) rfl rfl ?_
    refine WL.nil ?_
    refine JE.cutN ⟨_, ?_, k + 1, rfl, ?_, rfl, rfl⟩ ?_ ?_
    · omega
    · first | omega | trivial | (refine ⟨?_, ?_⟩ <;> first | omega | rfl | simp)
    · exact (Sub.consE rfl (by first | (rw [cnt_take_yes t k x (by omega) (by assumption)]; rfl) | (rw [cnt_take_no t k x (by omega) (by assumption)])) (Sub.consE rfl (by first | rfl | (congr 1; omega) | (simp; done)) (Sub.consE rfl (by first | rfl | (congr 1; omega) | (simp; done)) (Sub.consE rfl (by first | rfl | (congr 1; omega) | (simp; done)) .nil))))
    · exact (SubM.cells rfl (by first | rfl | (simp; done)) (SubM.ro rfl (by first | rfl | (simp [iv, bv, yv, tv, sv]; done)) (SubM.ro rfl (by first | rfl | (simp [iv, bv, yv, tv, sv]; done)) (SubM.ro rfl (by first | rfl | (simp [iv, bv, yv, tv, sv]; done)) .nil))))
  ·
   refine J.exit ?_
   refine JE.seqX ?_
   refine JE.cutX ?_
   refine JE.blockHit ?_
   refine JE.seqN ?_
   refine J.seq ?_
   refine J.reg ?_
   refine WL.rd (RD.move rfl) rfl rfl ?_
   refine WL.rd (RD.assign rfl) rfl rfl ?_
   refine WL.nil ?_
   refine JE.seqN ?_
   refine J.ret ?_
   refine JE.ret rfl (.tmp rfl .nil) (fun w hS => ?_)
   exact CS.fin hS (by rw [List.take_of_length_le (show t.length ≤ k by omega)]; rfl)
theorem sIsPebbles_c (n : Int) (v : Value) (xs : List (Int × Int)) (k : Int) (vf vt vp : Value) (f t pl : List Int) (w : World) (hr : Rd w v 2 (xs.map bv)) (hrf : Rd w vf 1 (f.map iv)) (hrt : Rd w vt 1 (t.map iv)) (hrp : Rd w vp 1 (pl.map iv)) (hbf : ∀ x ∈ f, x ≤ 9223372036854775807) :
    CS Try.prog 29 [.agg #[.int .i64 n, v], .int .i64 k, .agg #[vf, vt, vp]] w (.bool (decide (isP n xs k f t pl))) := by
 have hl_xs : xs.length ≤ 9223372036854775807 := (by obtain ⟨_, _, _, hh, _⟩ := hr.shape; simpa using hh)
 have hl_f : f.length ≤ 9223372036854775807 := (by obtain ⟨_, _, _, hh, _⟩ := hrf.shape; simpa using hh)
 have hl_t : t.length ≤ 9223372036854775807 := (by obtain ⟨_, _, _, hh, _⟩ := hrt.shape; simpa using hh)
 have hl_pl : pl.length ≤ 9223372036854775807 := (by obtain ⟨_, _, _, hh, _⟩ := hrp.shape; simpa using hh)
 refine calls_of_J (mu := (fun _ => False)) (m := [.ro v 2 (xs.map bv), .ro vf 1 (f.map iv), .ro vt 1 (t.map iv), .ro vp 1 (pl.map iv)]) (e := [(0, .agg #[.int .i64 n, v]), (1, .int .i64 k), (2, .agg #[vf, vt, vp])]) Try.func29 rfl rfl (.cons rfl (.cons rfl (.cons rfl .nil))) ((((((St.init _ _).ro0 hrp (by decide)).ro0 hrt (by decide)).ro0 hrf (by decide)).ro0 hr (by decide))) ?_
 refine J.seq ?_
 refine J.reg ?_
 refine WL.efS (EF.boxA rfl) rfl rfl ?_
 intro b3 _
 refine WL.efS (EF.boxA rfl) rfl rfl ?_
 intro b5 _
 refine WL.rd (RD.assign rfl) rfl rfl ?_
 refine WL.nil ?_
 refine JE.seqN ?_
 refine J.seq ?_
 refine J.seq ?_
 refine J.reg ?_
 refine WL.rd (RD.loadA rfl rfl) rfl rfl ?_
 refine WL.efS (EF.callS (.cons rfl .nil) (fun w hS => sIsGraph_c _ _ _ _ (by exact RdI.rd hS))) rfl rfl ?_
 rintro ⟨⟩ -
 refine WL.rd (RD.notP rfl) rfl rfl ?_
 refine WL.rd (RD.move rfl) rfl rfl ?_
 refine WL.caseP 13 rfl (fun hg13 => ?_) (fun hg13 => ?_)
 ·
  refine WL.noS rfl rfl ?_
  refine WL.noS rfl rfl ?_
  refine WL.noS rfl rfl ?_
  refine WL.rd (RD.pickT rfl rfl) rfl rfl ?_
  refine WL.rd (RD.move rfl) rfl rfl ?_
  refine WL.noS rfl rfl ?_
  refine WL.noS rfl rfl ?_
  refine WL.noS rfl rfl ?_
  refine WL.noS rfl rfl ?_
  refine WL.noS rfl rfl ?_
  refine WL.noS rfl rfl ?_
  refine WL.rd (RD.pickT rfl rfl) rfl rfl ?_
  refine WL.rd (RD.move rfl) rfl rfl ?_
  refine WL.noS rfl rfl ?_
  refine WL.noS rfl rfl ?_
  refine WL.noS rfl rfl ?_
  refine WL.noS rfl rfl ?_
  refine WL.noS rfl rfl ?_
  refine WL.noS rfl rfl ?_
  refine WL.noS rfl rfl ?_
  refine WL.rd (RD.pickT rfl rfl) rfl rfl ?_
  refine WL.nil ?_
  refine JE.seqN ?_
  refine J.condT rfl ?_
  refine J.seq ?_
  refine J.reg ?_
  refine WL.rd (RD.assign rfl) rfl rfl ?_
  refine WL.nil ?_
  refine JE.seqN ?_
  refine J.ret ?_
  refine JE.ret rfl (.tmp rfl .nil) (fun w hS => ?_)
  first | (exact CS.fin hS (mk_false (fun h => by obtain ⟨h1, h2, h3, h4, _⟩ := h; first | exact absurd h1 (by assumption) | omega))) | (exact CS.fin hS (mk_false (fun h => by obtain ⟨h1, h2, h3, h4⟩ := h.2.2.2.2.1 i (by omega); unfold brP at h4; first | omega | (have h6 := h3 (by omega); omega)))) | (exact CS.fin hS (mk_false (fun h => by obtain ⟨h1, h2⟩ := h.2.2.2.2.2 c (by omega); omega))) | (exact CS.fin hS (mk_true ⟨hg, hk3, hfl, htl, fun j hj => hI.2 j (by omega), fun j hj => hV.2 j (by omega)⟩))
 ·
  refine WL.rd (RD.move rfl) rfl rfl ?_
  refine WL.efS (EF.callS (.cons rfl (.cons rfl (.cons rfl .nil))) (fun w hS => l1In_c _ _ _ _)) rfl rfl ?_
  rintro ⟨⟩ -
  refine WL.rd (RD.notP rfl) rfl rfl ?_
  refine WL.rd (RD.pickF rfl rfl) rfl rfl ?_
  refine WL.rd (RD.move rfl) rfl rfl ?_
  refine WL.caseP 18 rfl (fun hg18 => ?_) (fun hg18 => ?_)
  ·
   refine WL.noS rfl rfl ?_
   refine WL.noS rfl rfl ?_
   refine WL.noS rfl rfl ?_
   refine WL.noS rfl rfl ?_
   refine WL.noS rfl rfl ?_
   refine WL.noS rfl rfl ?_
   refine WL.rd (RD.pickT rfl rfl) rfl rfl ?_
   refine WL.rd (RD.move rfl) rfl rfl ?_
   refine WL.noS rfl rfl ?_
   refine WL.noS rfl rfl ?_
   refine WL.noS rfl rfl ?_
   refine WL.noS rfl rfl ?_
   refine WL.noS rfl rfl ?_
   refine WL.noS rfl rfl ?_
   refine WL.noS rfl rfl ?_
   refine WL.rd (RD.pickT rfl rfl) rfl rfl ?_
   refine WL.nil ?_
   refine JE.seqN ?_
   refine J.condT rfl ?_
   refine J.seq ?_
   refine J.reg ?_
   refine WL.rd (RD.assign rfl) rfl rfl ?_
   refine WL.nil ?_
   refine JE.seqN ?_
   refine J.ret ?_
   refine JE.ret rfl (.tmp rfl .nil) (fun w hS => ?_)
   first | (exact CS.fin hS (mk_false (fun h => by obtain ⟨h1, h2, h3, h4, _⟩ := h; first | exact absurd h1 (by assumption) | omega))) | (exact CS.fin hS (mk_false (fun h => by obtain ⟨h1, h2, h3, h4⟩ := h.2.2.2.2.1 i (by omega); unfold brP at h4; first | omega | (have h6 := h3 (by omega); omega)))) | (exact CS.fin hS (mk_false (fun h => by obtain ⟨h1, h2⟩ := h.2.2.2.2.2 c (by omega); omega))) | (exact CS.fin hS (mk_true ⟨hg, hk3, hfl, htl, fun j hj => hI.2 j (by omega), fun j hj => hV.2 j (by omega)⟩))
  ·
   refine WL.rd (RD.fieldC rfl rfl) rfl rfl ?_
   refine WL.rd (RD.loadC rfl rfl) rfl rfl ?_
   refine WL.rd (RD.lenR rfl) rfl rfl ?_
   refine WL.rd (RD.fieldC rfl rfl) rfl rfl ?_
   refine WL.rd (RD.loadC rfl rfl) rfl rfl ?_
   refine WL.rd (RD.neq rfl rfl) rfl rfl ?_
   refine WL.rd (RD.pickF rfl rfl) rfl rfl ?_
   refine WL.rd (RD.move rfl) rfl rfl ?_
   refine WL.caseP 26 rfl (fun hg26 => ?_) (fun hg26 => ?_)
   ·
    refine WL.noS rfl rfl ?_
    refine WL.noS rfl rfl ?_
    refine WL.noS rfl rfl ?_
    refine WL.noS rfl rfl ?_
    refine WL.noS rfl rfl ?_
    refine WL.noS rfl rfl ?_
    refine WL.noS rfl rfl ?_
    refine WL.rd (RD.pickT rfl rfl) rfl rfl ?_
    refine WL.nil ?_
    refine JE.seqN ?_
    refine J.condT rfl ?_
    refine J.seq ?_
    refine J.reg ?_
    refine WL.rd (RD.assign rfl) rfl rfl ?_
    refine WL.nil ?_
    refine JE.seqN ?_
    refine J.ret ?_
    refine JE.ret rfl (.tmp rfl .nil) (fun w hS => ?_)
    first | (exact CS.fin hS (mk_false (fun h => by obtain ⟨h1, h2, h3, h4, _⟩ := h; first | exact absurd h1 (by assumption) | omega))) | (exact CS.fin hS (mk_false (fun h => by obtain ⟨h1, h2, h3, h4⟩ := h.2.2.2.2.1 i (by omega); unfold brP at h4; first | omega | (have h6 := h3 (by omega); omega)))) | (exact CS.fin hS (mk_false (fun h => by obtain ⟨h1, h2⟩ := h.2.2.2.2.2 c (by omega); omega))) | (exact CS.fin hS (mk_true ⟨hg, hk3, hfl, htl, fun j hj => hI.2 j (by omega), fun j hj => hV.2 j (by omega)⟩))
   ·
    refine WL.rd (RD.fieldC rfl rfl) rfl rfl ?_
    refine WL.rd (RD.loadC rfl rfl) rfl rfl ?_
    refine WL.rd (RD.lenR rfl) rfl rfl ?_
    refine WL.rd (RD.fieldC rfl rfl) rfl rfl ?_
    refine WL.rd (RD.loadC rfl rfl) rfl rfl ?_
    refine WL.rd (RD.lenR rfl) rfl rfl ?_
    refine WL.rd (RD.neq rfl rfl) rfl rfl ?_
    refine WL.rd (RD.pickF rfl rfl) rfl rfl ?_
    refine WL.nil ?_
    refine JE.seqN ?_
    refine J.condP rfl (fun hc34 => ?_) (fun hc34 => ?_)
    ·
     refine J.seq ?_
     refine J.reg ?_
     refine WL.rd (RD.assign rfl) rfl rfl ?_
     refine WL.nil ?_
     refine JE.seqN ?_
     refine J.ret ?_
     refine JE.ret rfl (.tmp rfl .nil) (fun w hS => ?_)
     first | (exact CS.fin hS (mk_false (fun h => by obtain ⟨h1, h2, h3, h4, _⟩ := h; first | exact absurd h1 (by assumption) | omega))) | (exact CS.fin hS (mk_false (fun h => by obtain ⟨h1, h2, h3, h4⟩ := h.2.2.2.2.1 i (by omega); unfold brP at h4; first | omega | (have h6 := h3 (by omega); omega)))) | (exact CS.fin hS (mk_false (fun h => by obtain ⟨h1, h2⟩ := h.2.2.2.2.2 c (by omega); omega))) | (exact CS.fin hS (mk_true ⟨hg, hk3, hfl, htl, fun j hj => hI.2 j (by omega), fun j hj => hV.2 j (by omega)⟩))
    ·
     refine J.skip ?_
     refine JE.seqN ?_
     refine J.seq ?_
     refine J.seq ?_
     have hg : isG n xs := Decidable.not_not.1 hg13
     have h12 := hg.1
     have h13 := hg.2.1
     have h14 := hg.2.2.1
     have hk3 : 1 ≤ k ∧ k ≤ 3 := by omega
     have hfl : (f.length : Int) = n := by omega
     have htl : t.length = pl.length := by omega
     refine J.reg ?_
     refine WL.rd (RD.assign rfl) rfl rfl ?_
     refine WL.nil ?_
     refine JE.seqN ?_
     refine J.block ?_
     refine J.loop (fun gg ee mm => ∃ (i : Nat), gg = pl.length - i ∧ ((i ≤ pl.length) ∧ (∀ j, j < i → plOk xs t pl j)) ∧ ee = [(7, .int .i64 (i : Int)), (1, .int .i64 k), (3, .pointer (some ⟨b3, 0, none⟩)), (5, .pointer (some ⟨b5, 0, none⟩))] ∧ mm = [.cells b5 31 [vf, vt, vp], .cells b3 26 [.int .i64 n, v], .ro v 2 (xs.map bv), .ro vf 1 (f.map iv), .ro vt 1 (t.map iv), .ro vp 1 (pl.map iv)]) _ ⟨0, rfl, ?_, rfl, rfl⟩ ?_ ?_ ?_
     · exact ⟨by omega, fun j hj => by omega⟩
     · exact (Sub.consE rfl (by first | rfl | (congr 1; omega) | (simp; done)) (Sub.consE rfl (by first | rfl | (congr 1; omega) | (simp; done)) (Sub.consE rfl (by first | rfl | (congr 1; omega) | (simp; done)) (Sub.consE rfl (by first | rfl | (congr 1; omega) | (simp; done)) .nil))))
     · exact (SubM.cells rfl (by first | rfl | (simp; done)) (SubM.cells rfl (by first | rfl | (simp; done)) (SubM.ro rfl (by first | rfl | (simp [iv, bv, yv, tv, sv]; done)) (SubM.ro rfl (by first | rfl | (simp [iv, bv, yv, tv, sv]; done)) (SubM.ro rfl (by first | rfl | (simp [iv, bv, yv, tv, sv]; done)) (SubM.ro rfl (by first | rfl | (simp [iv, bv, yv, tv, sv]; done)) .nil))))))
     ·
      rintro g _ _ ⟨i, rfl, hI, rfl, rfl⟩
      refine J.seq ?_
      refine J.seq ?_
      refine J.reg ?_
      refine WL.rd (RD.move rfl) rfl rfl ?_
      refine WL.rd (RD.fieldC rfl rfl) rfl rfl ?_
      refine WL.rd (RD.loadC rfl rfl) rfl rfl ?_
      refine WL.rd (RD.lenR rfl) rfl rfl ?_
      refine WL.rd (RD.lss rfl rfl) rfl rfl ?_
      refine WL.nil ?_
      refine JE.seqN ?_
      refine J.condP rfl (fun hc39 => ?_) (fun hc39 => ?_)
      ·
       refine J.skip ?_
       refine JE.seqN ?_
       refine J.seq ?_
       refine J.block ?_
       refine J.seq ?_
       refine J.reg ?_
       refine WL.rd (RD.fieldC rfl rfl) rfl rfl ?_
       refine WL.rd (RD.loadC rfl rfl) rfl rfl ?_
       refine WL.rd (RD.move rfl) rfl rfl ?_
       refine WL.rd (RD.idx rfl rfl (by omega) rfl) rfl rfl ?_
       refine WL.rd (RD.loadE rfl (by omega) rfl) rfl rfl ?_
       refine WL.rd (RD.assign rfl) rfl rfl ?_
       refine WL.nil ?_
       refine JE.seqN ?_
       refine J.seq ?_
       refine J.anyAll [] ?_
       refine WA.takeP 0 rfl (RDP.of fun _ => RD.move rfl) rfl (by kernel_rfl) rfl ?_
       refine WA.takeP 1 rfl (RDP.of fun _ => RD.lss rfl rfl) rfl (by kernel_rfl) rfl ?_
       refine WA.takeP 2 rfl (RDP.of fun _ => RD.move rfl) rfl (by kernel_rfl) rfl ?_
       refine WA.caseP 49 rfl (fun hg49 => ?_) (fun hg49 => ?_)
       ·
        refine WA.no 3 rfl rfl (by kernel_rfl) rfl ?_
        refine WA.no 4 rfl rfl (by kernel_rfl) rfl ?_
        refine WA.no 5 rfl rfl (by kernel_rfl) rfl ?_
        refine WA.no 6 rfl rfl (by kernel_rfl) rfl ?_
        refine WA.no 7 rfl rfl (by kernel_rfl) rfl ?_
        refine WA.takeP 8 rfl (RDP.of fun _ => RD.pickT rfl rfl) rfl (by kernel_rfl) rfl ?_
        refine WA.takeP 9 rfl (RDP.of fun _ => RD.move rfl) rfl (by kernel_rfl) rfl ?_
        refine WA.no 10 rfl rfl (by kernel_rfl) rfl ?_
        refine WA.no 11 rfl rfl (by kernel_rfl) rfl ?_
        refine WA.no 12 rfl rfl (by kernel_rfl) rfl ?_
        refine WA.no 13 rfl rfl (by kernel_rfl) rfl ?_
        refine WA.no 14 rfl rfl (by kernel_rfl) rfl ?_
        refine WA.no 15 rfl rfl (by kernel_rfl) rfl ?_
        refine WA.no 16 rfl rfl (by kernel_rfl) rfl ?_
        refine WA.no 17 rfl rfl (by kernel_rfl) rfl ?_
        refine WA.no 18 rfl rfl (by kernel_rfl) rfl ?_
        refine WA.no 19 rfl rfl (by kernel_rfl) rfl ?_
        refine WA.no 20 rfl rfl (by kernel_rfl) rfl ?_
        refine WA.no 21 rfl rfl (by kernel_rfl) rfl ?_
        refine WA.takeP 22 rfl (RDP.of fun _ => RD.pickT rfl rfl) rfl (by kernel_rfl) rfl ?_
        refine WA.takeP 23 rfl (RDP.of fun _ => RD.move rfl) rfl (by kernel_rfl) rfl ?_
        refine WA.no 24 rfl rfl (by kernel_rfl) rfl ?_
        refine WA.no 25 rfl rfl (by kernel_rfl) rfl ?_
        refine WA.no 26 rfl rfl (by kernel_rfl) rfl ?_
        refine WA.no 27 rfl rfl (by kernel_rfl) rfl ?_
        refine WA.no 28 rfl rfl (by kernel_rfl) rfl ?_
        refine WA.no 29 rfl rfl (by kernel_rfl) rfl ?_
        refine WA.no 30 rfl rfl (by kernel_rfl) rfl ?_
        refine WA.no 31 rfl rfl (by kernel_rfl) rfl ?_
        refine WA.no 32 rfl rfl (by kernel_rfl) rfl ?_
        refine WA.no 33 rfl rfl (by kernel_rfl) rfl ?_
        refine WA.no 34 rfl rfl (by kernel_rfl) rfl ?_
        refine WA.no 35 rfl rfl (by kernel_rfl) rfl ?_
        refine WA.no 36 rfl rfl (by kernel_rfl) rfl ?_
        refine WA.no 37 rfl rfl (by kernel_rfl) rfl ?_
        refine WA.no 38 rfl rfl (by kernel_rfl) rfl ?_
        refine WA.no 39 rfl rfl (by kernel_rfl) rfl ?_
        refine WA.no 40 rfl rfl (by kernel_rfl) rfl ?_
        refine WA.no 41 rfl rfl (by kernel_rfl) rfl ?_
        refine WA.no 42 rfl rfl (by kernel_rfl) rfl ?_
        refine WA.no 43 rfl rfl (by kernel_rfl) rfl ?_
        refine WA.no 44 rfl rfl (by kernel_rfl) rfl ?_
        refine WA.no 45 rfl rfl (by kernel_rfl) rfl ?_
        refine WA.no 46 rfl rfl (by kernel_rfl) rfl ?_
        refine WA.no 47 rfl rfl (by kernel_rfl) rfl ?_
        refine WA.no 48 rfl rfl (by kernel_rfl) rfl ?_
        refine WA.no 49 rfl rfl (by kernel_rfl) rfl ?_
        refine WA.takeP 50 rfl (RDP.of fun _ => RD.pickT rfl rfl) rfl (by kernel_rfl) rfl ?_
        refine WA.done (by kernel_rfl) ?_
        refine JE.seqN ?_
        refine J.condT rfl ?_
        refine J.seq ?_
        refine J.reg ?_
        refine WL.rd (RD.assign rfl) rfl rfl ?_
        refine WL.nil ?_
        refine JE.seqN ?_
        refine J.ret ?_
        refine JE.ret rfl (.tmp rfl .nil) (fun w hS => ?_)
        first | (exact CS.fin hS (mk_false (fun h => by obtain ⟨h1, h2, h3, h4, _⟩ := h; first | exact absurd h1 (by assumption) | omega))) | (exact CS.fin hS (mk_false (fun h => by obtain ⟨h1, h2, h3, h4⟩ := h.2.2.2.2.1 i (by omega); unfold brP at h4; first | omega | (have h6 := h3 (by omega); omega)))) | (exact CS.fin hS (mk_false (fun h => by obtain ⟨h1, h2⟩ := h.2.2.2.2.2 c (by omega); omega))) | (exact CS.fin hS (mk_true ⟨hg, hk3, hfl, htl, fun j hj => hI.2 j (by omega), fun j hj => hV.2 j (by omega)⟩))
       ·
        refine WA.takeP 3 rfl (RDP.of fun _ => RD.move rfl) rfl (by kernel_rfl) rfl ?_
        refine WA.takeP 4 rfl (RDP.of fun _ => RD.fieldC rfl rfl) rfl (by kernel_rfl) rfl ?_
        refine WA.take 5 rfl (RD.loadC rfl rfl) rfl (by kernel_rfl) rfl ?_
        refine WA.takeP 6 rfl (RDP.lenR rfl) rfl (by kernel_rfl) rfl ?_
        refine WA.takeP 7 rfl (RDP.of fun _ => RD.geq rfl rfl) rfl (by kernel_rfl) rfl ?_
        refine WA.takeP 8 rfl (RDP.of fun _ => RD.pickF rfl rfl) rfl (by kernel_rfl) rfl ?_
        refine WA.takeP 9 rfl (RDP.of fun _ => RD.move rfl) rfl (by kernel_rfl) rfl ?_
        refine WA.caseP 56 rfl (fun hg56 => ?_) (fun hg56 => ?_)
        ·
         refine WA.no 10 rfl rfl (by kernel_rfl) rfl ?_
         refine WA.no 11 rfl rfl (by kernel_rfl) rfl ?_
         refine WA.no 12 rfl rfl (by kernel_rfl) rfl ?_
         refine WA.no 13 rfl rfl (by kernel_rfl) rfl ?_
         refine WA.no 14 rfl rfl (by kernel_rfl) rfl ?_
         refine WA.no 15 rfl rfl (by kernel_rfl) rfl ?_
         refine WA.no 16 rfl rfl (by kernel_rfl) rfl ?_
         refine WA.no 17 rfl rfl (by kernel_rfl) rfl ?_
         refine WA.no 18 rfl rfl (by kernel_rfl) rfl ?_
         refine WA.no 19 rfl rfl (by kernel_rfl) rfl ?_
         refine WA.no 20 rfl rfl (by kernel_rfl) rfl ?_
         refine WA.no 21 rfl rfl (by kernel_rfl) rfl ?_
         refine WA.takeP 22 rfl (RDP.of fun _ => RD.pickT rfl rfl) rfl (by kernel_rfl) rfl ?_
         refine WA.takeP 23 rfl (RDP.of fun _ => RD.move rfl) rfl (by kernel_rfl) rfl ?_
         refine WA.no 24 rfl rfl (by kernel_rfl) rfl ?_
         refine WA.no 25 rfl rfl (by kernel_rfl) rfl ?_
         refine WA.no 26 rfl rfl (by kernel_rfl) rfl ?_
         refine WA.no 27 rfl rfl (by kernel_rfl) rfl ?_
         refine WA.no 28 rfl rfl (by kernel_rfl) rfl ?_
         refine WA.no 29 rfl rfl (by kernel_rfl) rfl ?_
         refine WA.no 30 rfl rfl (by kernel_rfl) rfl ?_
         refine WA.no 31 rfl rfl (by kernel_rfl) rfl ?_
         refine WA.no 32 rfl rfl (by kernel_rfl) rfl ?_
         refine WA.no 33 rfl rfl (by kernel_rfl) rfl ?_
         refine WA.no 34 rfl rfl (by kernel_rfl) rfl ?_
         refine WA.no 35 rfl rfl (by kernel_rfl) rfl ?_
         refine WA.no 36 rfl rfl (by kernel_rfl) rfl ?_
         refine WA.no 37 rfl rfl (by kernel_rfl) rfl ?_
         refine WA.no 38 rfl rfl (by kernel_rfl) rfl ?_
         refine WA.no 39 rfl rfl (by kernel_rfl) rfl ?_
         refine WA.no 40 rfl rfl (by kernel_rfl) rfl ?_
         refine WA.no 41 rfl rfl (by kernel_rfl) rfl ?_
         refine WA.no 42 rfl rfl (by kernel_rfl) rfl ?_
         refine WA.no 43 rfl rfl (by kernel_rfl) rfl ?_
         refine WA.no 44 rfl rfl (by kernel_rfl) rfl ?_
         refine WA.no 45 rfl rfl (by kernel_rfl) rfl ?_
         refine WA.no 46 rfl rfl (by kernel_rfl) rfl ?_
         refine WA.no 47 rfl rfl (by kernel_rfl) rfl ?_
         refine WA.no 48 rfl rfl (by kernel_rfl) rfl ?_
         refine WA.no 49 rfl rfl (by kernel_rfl) rfl ?_
         refine WA.takeP 50 rfl (RDP.of fun _ => RD.pickT rfl rfl) rfl (by kernel_rfl) rfl ?_
         refine WA.done (by kernel_rfl) ?_
         refine JE.seqN ?_
         refine J.condT rfl ?_
         refine J.seq ?_
         refine J.reg ?_
         refine WL.rd (RD.assign rfl) rfl rfl ?_
         refine WL.nil ?_
         refine JE.seqN ?_
         refine J.ret ?_
         refine JE.ret rfl (.tmp rfl .nil) (fun w hS => ?_)
         first | (exact CS.fin hS (mk_false (fun h => by obtain ⟨h1, h2, h3, h4, _⟩ := h; first | exact absurd h1 (by assumption) | omega))) | (exact CS.fin hS (mk_false (fun h => by obtain ⟨h1, h2, h3, h4⟩ := h.2.2.2.2.1 i (by omega); unfold brP at h4; first | omega | (have h6 := h3 (by omega); omega)))) | (exact CS.fin hS (mk_false (fun h => by obtain ⟨h1, h2⟩ := h.2.2.2.2.2 c (by omega); omega))) | (exact CS.fin hS (mk_true ⟨hg, hk3, hfl, htl, fun j hj => hI.2 j (by omega), fun j hj => hV.2 j (by omega)⟩))
        ·
         refine WA.takeP 10 rfl (RDP.of fun _ => RD.move rfl) rfl (by kernel_rfl) rfl ?_
         refine WA.takeP 11 rfl (RDP.of fun _ => RD.gtr rfl rfl) rfl (by kernel_rfl) rfl ?_
         refine WA.takeP 12 rfl (RDP.of fun _ => RD.move rfl) rfl (by kernel_rfl) rfl ?_
         refine WA.caseP 59 rfl (fun hg59 => ?_) (fun hg59 => ?_)
         ·
          refine WA.takeP 13 rfl (RDP.of fun _ => RD.fieldC rfl rfl) rfl (by kernel_rfl) rfl ?_
          refine WA.take 14 rfl (RD.loadC rfl rfl) rfl (by kernel_rfl) rfl ?_
          refine WA.takeP 15 rfl (RDP.of fun _ => RD.move rfl) rfl (by kernel_rfl) rfl ?_
          refine WA.takeP 16 rfl (RDP.of fun _ => RD.sub rfl rfl (by omega) (by omega)) rfl (by kernel_rfl) rfl ?_
          refine WA.takeP 17 rfl (RDP.idx (j := i - 1) (hj := ⟨by omega⟩) rfl rfl (by omega) rfl) rfl (by kernel_rfl) rfl ?_
          refine WA.take 18 rfl (RD.loadE rfl (by omega) rfl) rfl (by kernel_rfl) rfl ?_
          refine WA.takeP 19 rfl (RDP.of fun _ => RD.move rfl) rfl (by kernel_rfl) rfl ?_
          refine WA.takeP 20 rfl (RDP.of fun _ => RD.geq rfl rfl) rfl (by kernel_rfl) rfl ?_
          refine WA.takeP 21 rfl (RDP.of fun _ => RD.pickT rfl rfl) rfl (by kernel_rfl) rfl ?_
          refine WA.takeP 22 rfl (RDP.of fun _ => RD.pickF rfl rfl) rfl (by kernel_rfl) rfl ?_
          refine WA.takeP 23 rfl (RDP.of fun _ => RD.move rfl) rfl (by kernel_rfl) rfl ?_
          refine WA.caseP 70 rfl (fun hg70 => ?_) (fun hg70 => ?_)
          ·
           refine WA.no 24 rfl rfl (by kernel_rfl) rfl ?_
           refine WA.no 25 rfl rfl (by kernel_rfl) rfl ?_
           refine WA.no 26 rfl rfl (by kernel_rfl) rfl ?_
           refine WA.no 27 rfl rfl (by kernel_rfl) rfl ?_
           refine WA.no 28 rfl rfl (by kernel_rfl) rfl ?_
           refine WA.no 29 rfl rfl (by kernel_rfl) rfl ?_
           refine WA.no 30 rfl rfl (by kernel_rfl) rfl ?_
           refine WA.no 31 rfl rfl (by kernel_rfl) rfl ?_
           refine WA.no 32 rfl rfl (by kernel_rfl) rfl ?_
           refine WA.no 33 rfl rfl (by kernel_rfl) rfl ?_
           refine WA.no 34 rfl rfl (by kernel_rfl) rfl ?_
           refine WA.no 35 rfl rfl (by kernel_rfl) rfl ?_
           refine WA.no 36 rfl rfl (by kernel_rfl) rfl ?_
           refine WA.no 37 rfl rfl (by kernel_rfl) rfl ?_
           refine WA.no 38 rfl rfl (by kernel_rfl) rfl ?_
           refine WA.no 39 rfl rfl (by kernel_rfl) rfl ?_
           refine WA.no 40 rfl rfl (by kernel_rfl) rfl ?_
           refine WA.no 41 rfl rfl (by kernel_rfl) rfl ?_
           refine WA.no 42 rfl rfl (by kernel_rfl) rfl ?_
           refine WA.no 43 rfl rfl (by kernel_rfl) rfl ?_
           refine WA.no 44 rfl rfl (by kernel_rfl) rfl ?_
           refine WA.no 45 rfl rfl (by kernel_rfl) rfl ?_
           refine WA.no 46 rfl rfl (by kernel_rfl) rfl ?_
           refine WA.no 47 rfl rfl (by kernel_rfl) rfl ?_
           refine WA.no 48 rfl rfl (by kernel_rfl) rfl ?_
           refine WA.no 49 rfl rfl (by kernel_rfl) rfl ?_
           refine WA.takeP 50 rfl (RDP.of fun _ => RD.pickT rfl rfl) rfl (by kernel_rfl) rfl ?_
           refine WA.done (by kernel_rfl) ?_
           refine JE.seqN ?_
           refine J.condT rfl ?_
           refine J.seq ?_
           refine J.reg ?_
           refine WL.rd (RD.assign rfl) rfl rfl ?_
           refine WL.nil ?_
           refine JE.seqN ?_
           refine J.ret ?_
           refine JE.ret rfl (.tmp rfl .nil) (fun w hS => ?_)
           first | (exact CS.fin hS (mk_false (fun h => by obtain ⟨h1, h2, h3, h4, _⟩ := h; first | exact absurd h1 (by assumption) | omega))) | (exact CS.fin hS (mk_false (fun h => by obtain ⟨h1, h2, h3, h4⟩ := h.2.2.2.2.1 i (by omega); unfold brP at h4; first | omega | (have h6 := h3 (by omega); omega)))) | (exact CS.fin hS (mk_false (fun h => by obtain ⟨h1, h2⟩ := h.2.2.2.2.2 c (by omega); omega))) | (exact CS.fin hS (mk_true ⟨hg, hk3, hfl, htl, fun j hj => hI.2 j (by omega), fun j hj => hV.2 j (by omega)⟩))
          ·
           refine WA.takeP 24 rfl (RDP.of fun _ => RD.fieldC rfl rfl) rfl (by kernel_rfl) rfl ?_
           refine WA.take 25 rfl (RD.loadC rfl rfl) rfl (by kernel_rfl) rfl ?_
           refine WA.takeP 26 rfl (RDP.of fun _ => RD.move rfl) rfl (by kernel_rfl) rfl ?_
           refine WA.takeP 27 rfl (RDP.idx rfl rfl (by omega) rfl) rfl (by kernel_rfl) rfl ?_
           refine WA.take 28 rfl (RD.loadE rfl (by omega) rfl) rfl (by kernel_rfl) rfl ?_
           refine WA.takeP 29 rfl (RDP.of fun _ => RD.fieldC rfl rfl) rfl (by kernel_rfl) rfl ?_
           refine WA.take 30 rfl (RD.loadC rfl rfl) rfl (by kernel_rfl) rfl ?_
           refine WA.takeP 31 rfl (RDP.of fun _ => RD.move rfl) rfl (by kernel_rfl) rfl ?_
           refine WA.takeP 32 rfl (RDP.idx (j := (pl.getD i default).toNat) (hj := ⟨by omega⟩) rfl rfl (by omega) rfl) rfl (by kernel_rfl) rfl ?_
           refine WA.takeP 33 rfl (RDP.of fun _ => RD.fieldE rfl rfl) rfl (by kernel_rfl) rfl ?_
           refine WA.take 34 rfl (RD.loadE rfl (by omega) rfl) rfl (by kernel_rfl) rfl ?_
           refine WA.takeP 35 rfl (RDP.of fun _ => RD.neq rfl rfl) rfl (by kernel_rfl) rfl ?_
           refine WA.takeP 36 rfl (RDP.of fun _ => RD.move rfl) rfl (by kernel_rfl) rfl ?_
           refine WA.caseP 83 rfl (fun hg83 => ?_) (fun hg83 => ?_)
           ·
            refine WA.takeP 37 rfl (RDP.of fun _ => RD.fieldC rfl rfl) rfl (by kernel_rfl) rfl ?_
            refine WA.take 38 rfl (RD.loadC rfl rfl) rfl (by kernel_rfl) rfl ?_
            refine WA.takeP 39 rfl (RDP.of fun _ => RD.move rfl) rfl (by kernel_rfl) rfl ?_
            refine WA.takeP 40 rfl (RDP.idx rfl rfl (by omega) rfl) rfl (by kernel_rfl) rfl ?_
            refine WA.take 41 rfl (RD.loadE rfl (by omega) rfl) rfl (by kernel_rfl) rfl ?_
            refine WA.takeP 42 rfl (RDP.of fun _ => RD.fieldC rfl rfl) rfl (by kernel_rfl) rfl ?_
            refine WA.take 43 rfl (RD.loadC rfl rfl) rfl (by kernel_rfl) rfl ?_
            refine WA.takeP 44 rfl (RDP.of fun _ => RD.move rfl) rfl (by kernel_rfl) rfl ?_
            refine WA.takeP 45 rfl (RDP.idx (j := (pl.getD i default).toNat) (hj := ⟨by omega⟩) rfl rfl (by omega) rfl) rfl (by kernel_rfl) rfl ?_
            refine WA.takeP 46 rfl (RDP.of fun _ => RD.fieldE rfl rfl) rfl (by kernel_rfl) rfl ?_
            refine WA.take 47 rfl (RD.loadE rfl (by omega) rfl) rfl (by kernel_rfl) rfl ?_
            refine WA.takeP 48 rfl (RDP.of fun _ => RD.neq rfl rfl) rfl (by kernel_rfl) rfl ?_
            refine WA.takeP 49 rfl (RDP.of fun _ => RD.pickT rfl rfl) rfl (by kernel_rfl) rfl ?_
            refine WA.takeP 50 rfl (RDP.of fun _ => RD.pickF rfl rfl) rfl (by kernel_rfl) rfl ?_
            refine WA.done (by kernel_rfl) ?_
            refine JE.seqN ?_
            refine J.condP rfl (fun hc97 => ?_) (fun hc97 => ?_)
            ·
             refine J.seq ?_
             refine J.reg ?_
             refine WL.rd (RD.assign rfl) rfl rfl ?_
             refine WL.nil ?_
             refine JE.seqN ?_
             refine J.ret ?_
             refine JE.ret rfl (.tmp rfl .nil) (fun w hS => ?_)
             first | (exact CS.fin hS (mk_false (fun h => by obtain ⟨h1, h2, h3, h4, _⟩ := h; first | exact absurd h1 (by assumption) | omega))) | (exact CS.fin hS (mk_false (fun h => by obtain ⟨h1, h2, h3, h4⟩ := h.2.2.2.2.1 i (by omega); unfold brP at h4; first | omega | (have h6 := h3 (by omega); omega)))) | (exact CS.fin hS (mk_false (fun h => by obtain ⟨h1, h2⟩ := h.2.2.2.2.2 c (by omega); omega))) | (exact CS.fin hS (mk_true ⟨hg, hk3, hfl, htl, fun j hj => hI.2 j (by omega), fun j hj => hV.2 j (by omega)⟩))
            ·
             refine J.skip ?_
             refine JE.blockN ?_
             refine JE.seqN ?_
             refine J.reg ?_
             refine WL.rd (RD.move rfl) rfl rfl ?_
             refine WL.rd (RD.add rfl rfl (by omega) (by omega)) rfl rfl ?_
             refine WL.rd (RD.assign rfl) rfl rfl ?_
             refine WL.nil ?_
             refine JE.cutN ⟨_, ?_, i + 1, rfl, ?_, rfl, rfl⟩ ?_ ?_
             · omega
             · exact ⟨by omega, fun j hj => (Nat.lt_succ_iff_lt_or_eq.1 hj).elim (hI.2 j) (fun hh => by subst hh; exact ⟨by omega, by omega, fun h0 => by omega, by unfold brP; omega⟩)⟩
             · exact (Sub.consE rfl (by first | rfl | (congr 1; omega) | (simp; done)) (Sub.consE rfl (by first | rfl | (congr 1; omega) | (simp; done)) (Sub.consE rfl (by first | rfl | (congr 1; omega) | (simp; done)) (Sub.consE rfl (by first | rfl | (congr 1; omega) | (simp; done)) .nil))))
             · exact (SubM.cells rfl (by first | rfl | (simp; done)) (SubM.cells rfl (by first | rfl | (simp; done)) (SubM.ro rfl (by first | rfl | (simp [iv, bv, yv, tv, sv]; done)) (SubM.ro rfl (by first | rfl | (simp [iv, bv, yv, tv, sv]; done)) (SubM.ro rfl (by first | rfl | (simp [iv, bv, yv, tv, sv]; done)) (SubM.ro rfl (by first | rfl | (simp [iv, bv, yv, tv, sv]; done)) .nil))))))
           ·
            refine WA.no 37 rfl rfl (by kernel_rfl) rfl ?_
            refine WA.no 38 rfl rfl (by kernel_rfl) rfl ?_
            refine WA.no 39 rfl rfl (by kernel_rfl) rfl ?_
            refine WA.no 40 rfl rfl (by kernel_rfl) rfl ?_
            refine WA.no 41 rfl rfl (by kernel_rfl) rfl ?_
            refine WA.no 42 rfl rfl (by kernel_rfl) rfl ?_
            refine WA.no 43 rfl rfl (by kernel_rfl) rfl ?_
            refine WA.no 44 rfl rfl (by kernel_rfl) rfl ?_
            refine WA.no 45 rfl rfl (by kernel_rfl) rfl ?_
            refine WA.no 46 rfl rfl (by kernel_rfl) rfl ?_
            refine WA.no 47 rfl rfl (by kernel_rfl) rfl ?_
            refine WA.no 48 rfl rfl (by kernel_rfl) rfl ?_
            refine WA.takeP 49 rfl (RDP.of fun _ => RD.pickF rfl rfl) rfl (by kernel_rfl) rfl ?_
            refine WA.takeP 50 rfl (RDP.of fun _ => RD.pickF rfl rfl) rfl (by kernel_rfl) rfl ?_
            refine WA.done (by kernel_rfl) ?_
            refine JE.seqN ?_
            refine J.condF rfl ?_
            refine J.skip ?_
            refine JE.blockN ?_
            refine JE.seqN ?_
            refine J.reg ?_
            refine WL.rd (RD.move rfl) rfl rfl ?_
            refine WL.rd (RD.add rfl rfl (by omega) (by omega)) rfl rfl ?_
            refine WL.rd (RD.assign rfl) rfl rfl ?_
            refine WL.nil ?_
            refine JE.cutN ⟨_, ?_, i + 1, rfl, ?_, rfl, rfl⟩ ?_ ?_
            · omega
            · exact ⟨by omega, fun j hj => (Nat.lt_succ_iff_lt_or_eq.1 hj).elim (hI.2 j) (fun hh => by subst hh; exact ⟨by omega, by omega, fun h0 => by omega, by unfold brP; omega⟩)⟩
            · exact (Sub.consE rfl (by first | rfl | (congr 1; omega) | (simp; done)) (Sub.consE rfl (by first | rfl | (congr 1; omega) | (simp; done)) (Sub.consE rfl (by first | rfl | (congr 1; omega) | (simp; done)) (Sub.consE rfl (by first | rfl | (congr 1; omega) | (simp; done)) .nil))))
            · exact (SubM.cells rfl (by first | rfl | (simp; done)) (SubM.cells rfl (by first | rfl | (simp; done)) (SubM.ro rfl (by first | rfl | (simp [iv, bv, yv, tv, sv]; done)) (SubM.ro rfl (by first | rfl | (simp [iv, bv, yv, tv, sv]; done)) (SubM.ro rfl (by first | rfl | (simp [iv, bv, yv, tv, sv]; done)) (SubM.ro rfl (by first | rfl | (simp [iv, bv, yv, tv, sv]; done)) .nil))))))
         ·
          refine WA.no 13 rfl rfl (by kernel_rfl) rfl ?_
          refine WA.no 14 rfl rfl (by kernel_rfl) rfl ?_
          refine WA.no 15 rfl rfl (by kernel_rfl) rfl ?_
          refine WA.no 16 rfl rfl (by kernel_rfl) rfl ?_
          refine WA.no 17 rfl rfl (by kernel_rfl) rfl ?_
          refine WA.no 18 rfl rfl (by kernel_rfl) rfl ?_
          refine WA.no 19 rfl rfl (by kernel_rfl) rfl ?_
          refine WA.no 20 rfl rfl (by kernel_rfl) rfl ?_
          refine WA.takeP 21 rfl (RDP.of fun _ => RD.pickF rfl rfl) rfl (by kernel_rfl) rfl ?_
          refine WA.takeP 22 rfl (RDP.of fun _ => RD.pickF rfl rfl) rfl (by kernel_rfl) rfl ?_
          refine WA.takeP 23 rfl (RDP.of fun _ => RD.move rfl) rfl (by kernel_rfl) rfl ?_
          refine WA.takeP 24 rfl (RDP.of fun _ => RD.fieldC rfl rfl) rfl (by kernel_rfl) rfl ?_
          refine WA.take 25 rfl (RD.loadC rfl rfl) rfl (by kernel_rfl) rfl ?_
          refine WA.takeP 26 rfl (RDP.of fun _ => RD.move rfl) rfl (by kernel_rfl) rfl ?_
          refine WA.takeP 27 rfl (RDP.idx rfl rfl (by omega) rfl) rfl (by kernel_rfl) rfl ?_
          refine WA.take 28 rfl (RD.loadE rfl (by omega) rfl) rfl (by kernel_rfl) rfl ?_
          refine WA.takeP 29 rfl (RDP.of fun _ => RD.fieldC rfl rfl) rfl (by kernel_rfl) rfl ?_
          refine WA.take 30 rfl (RD.loadC rfl rfl) rfl (by kernel_rfl) rfl ?_
          refine WA.takeP 31 rfl (RDP.of fun _ => RD.move rfl) rfl (by kernel_rfl) rfl ?_
          refine WA.takeP 32 rfl (RDP.idx (j := (pl.getD i default).toNat) (hj := ⟨by omega⟩) rfl rfl (by omega) rfl) rfl (by kernel_rfl) rfl ?_
          refine WA.takeP 33 rfl (RDP.of fun _ => RD.fieldE rfl rfl) rfl (by kernel_rfl) rfl ?_
          refine WA.take 34 rfl (RD.loadE rfl (by omega) rfl) rfl (by kernel_rfl) rfl ?_
          refine WA.takeP 35 rfl (RDP.of fun _ => RD.neq rfl rfl) rfl (by kernel_rfl) rfl ?_
          refine WA.takeP 36 rfl (RDP.of fun _ => RD.move rfl) rfl (by kernel_rfl) rfl ?_
          refine WA.caseP 83 rfl (fun hg83 => ?_) (fun hg83 => ?_)
          ·
           refine WA.takeP 37 rfl (RDP.of fun _ => RD.fieldC rfl rfl) rfl (by kernel_rfl) rfl ?_
           refine WA.take 38 rfl (RD.loadC rfl rfl) rfl (by kernel_rfl) rfl ?_
           refine WA.takeP 39 rfl (RDP.of fun _ => RD.move rfl) rfl (by kernel_rfl) rfl ?_
           refine WA.takeP 40 rfl (RDP.idx rfl rfl (by omega) rfl) rfl (by kernel_rfl) rfl ?_
           refine WA.take 41 rfl (RD.loadE rfl (by omega) rfl) rfl (by kernel_rfl) rfl ?_
           refine WA.takeP 42 rfl (RDP.of fun _ => RD.fieldC rfl rfl) rfl (by kernel_rfl) rfl ?_
           refine WA.take 43 rfl (RD.loadC rfl rfl) rfl (by kernel_rfl) rfl ?_
           refine WA.takeP 44 rfl (RDP.of fun _ => RD.move rfl) rfl (by kernel_rfl) rfl ?_
           refine WA.takeP 45 rfl (RDP.idx (j := (pl.getD i default).toNat) (hj := ⟨by omega⟩) rfl rfl (by omega) rfl) rfl (by kernel_rfl) rfl ?_
           refine WA.takeP 46 rfl (RDP.of fun _ => RD.fieldE rfl rfl) rfl (by kernel_rfl) rfl ?_
           refine WA.take 47 rfl (RD.loadE rfl (by omega) rfl) rfl (by kernel_rfl) rfl ?_
           refine WA.takeP 48 rfl (RDP.of fun _ => RD.neq rfl rfl) rfl (by kernel_rfl) rfl ?_
           refine WA.takeP 49 rfl (RDP.of fun _ => RD.pickT rfl rfl) rfl (by kernel_rfl) rfl ?_
           refine WA.takeP 50 rfl (RDP.of fun _ => RD.pickF rfl rfl) rfl (by kernel_rfl) rfl ?_
           refine WA.done (by kernel_rfl) ?_
           refine JE.seqN ?_
           refine J.condP rfl (fun hc97 => ?_) (fun hc97 => ?_)
           ·
            refine J.seq ?_
            refine J.reg ?_
            refine WL.rd (RD.assign rfl) rfl rfl ?_
            refine WL.nil ?_
            refine JE.seqN ?_
            refine J.ret ?_
            refine JE.ret rfl (.tmp rfl .nil) (fun w hS => ?_)
            first | (exact CS.fin hS (mk_false (fun h => by obtain ⟨h1, h2, h3, h4, _⟩ := h; first | exact absurd h1 (by assumption) | omega))) | (exact CS.fin hS (mk_false (fun h => by obtain ⟨h1, h2, h3, h4⟩ := h.2.2.2.2.1 i (by omega); unfold brP at h4; first | omega | (have h6 := h3 (by omega); omega)))) | (exact CS.fin hS (mk_false (fun h => by obtain ⟨h1, h2⟩ := h.2.2.2.2.2 c (by omega); omega))) | (exact CS.fin hS (mk_true ⟨hg, hk3, hfl, htl, fun j hj => hI.2 j (by omega), fun j hj => hV.2 j (by omega)⟩))
           ·
            refine J.skip ?_
            refine JE.blockN ?_
            refine JE.seqN ?_
            refine J.reg ?_
            refine WL.rd (RD.move rfl) rfl rfl ?_
            refine WL.rd (RD.add rfl rfl (by omega) (by omega)) rfl rfl ?_
            refine WL.rd (RD.assign rfl) rfl rfl ?_
            refine WL.nil ?_
            refine JE.cutN ⟨_, ?_, i + 1, rfl, ?_, rfl, rfl⟩ ?_ ?_
            · omega
            · exact ⟨by omega, fun j hj => (Nat.lt_succ_iff_lt_or_eq.1 hj).elim (hI.2 j) (fun hh => by subst hh; exact ⟨by omega, by omega, fun h0 => by omega, by unfold brP; omega⟩)⟩
            · exact (Sub.consE rfl (by first | rfl | (congr 1; omega) | (simp; done)) (Sub.consE rfl (by first | rfl | (congr 1; omega) | (simp; done)) (Sub.consE rfl (by first | rfl | (congr 1; omega) | (simp; done)) (Sub.consE rfl (by first | rfl | (congr 1; omega) | (simp; done)) .nil))))
            · exact (SubM.cells rfl (by first | rfl | (simp; done)) (SubM.cells rfl (by first | rfl | (simp; done)) (SubM.ro rfl (by first | rfl | (simp [iv, bv, yv, tv, sv]; done)) (SubM.ro rfl (by first | rfl | (simp [iv, bv, yv, tv, sv]; done)) (SubM.ro rfl (by first | rfl | (simp [iv, bv, yv, tv, sv]; done)) (SubM.ro rfl (by first | rfl | (simp [iv, bv, yv, tv, sv]; done)) .nil))))))
          ·
           refine WA.no 37 rfl rfl (by kernel_rfl) rfl ?_
           refine WA.no 38 rfl rfl (by kernel_rfl) rfl ?_
           refine WA.no 39 rfl rfl (by kernel_rfl) rfl ?_
           refine WA.no 40 rfl rfl (by kernel_rfl) rfl ?_
           refine WA.no 41 rfl rfl (by kernel_rfl) rfl ?_
           refine WA.no 42 rfl rfl (by kernel_rfl) rfl ?_
           refine WA.no 43 rfl rfl (by kernel_rfl) rfl ?_
           refine WA.no 44 rfl rfl (by kernel_rfl) rfl ?_
           refine WA.no 45 rfl rfl (by kernel_rfl) rfl ?_
           refine WA.no 46 rfl rfl (by kernel_rfl) rfl ?_
           refine WA.no 47 rfl rfl (by kernel_rfl) rfl ?_
           refine WA.no 48 rfl rfl (by kernel_rfl) rfl ?_
           refine WA.takeP 49 rfl (RDP.of fun _ => RD.pickF rfl rfl) rfl (by kernel_rfl) rfl ?_
           refine WA.takeP 50 rfl (RDP.of fun _ => RD.pickF rfl rfl) rfl (by kernel_rfl) rfl ?_
           refine WA.done (by kernel_rfl) ?_
           refine JE.seqN ?_
           refine J.condF rfl ?_
           refine J.skip ?_
           refine JE.blockN ?_
           refine JE.seqN ?_
           refine J.reg ?_
           refine WL.rd (RD.move rfl) rfl rfl ?_
           refine WL.rd (RD.add rfl rfl (by omega) (by omega)) rfl rfl ?_
           refine WL.rd (RD.assign rfl) rfl rfl ?_
           refine WL.nil ?_
           refine JE.cutN ⟨_, ?_, i + 1, rfl, ?_, rfl, rfl⟩ ?_ ?_
           · omega
           · exact ⟨by omega, fun j hj => (Nat.lt_succ_iff_lt_or_eq.1 hj).elim (hI.2 j) (fun hh => by subst hh; exact ⟨by omega, by omega, fun h0 => by omega, by unfold brP; omega⟩)⟩
           · exact (Sub.consE rfl (by first | rfl | (congr 1; omega) | (simp; done)) (Sub.consE rfl (by first | rfl | (congr 1; omega) | (simp; done)) (Sub.consE rfl (by first | rfl | (congr 1; omega) | (simp; done)) (Sub.consE rfl (by first | rfl | (congr 1; omega) | (simp; done)) .nil))))
           · exact (SubM.cells rfl (by first | rfl | (simp; done)) (SubM.cells rfl (by first | rfl | (simp; done)) (SubM.ro rfl (by first | rfl | (simp [iv, bv, yv, tv, sv]; done)) (SubM.ro rfl (by first | rfl | (simp [iv, bv, yv, tv, sv]; done)) (SubM.ro rfl (by first | rfl | (simp [iv, bv, yv, tv, sv]; done)) (SubM.ro rfl (by first | rfl | (simp [iv, bv, yv, tv, sv]; done)) .nil))))))
      ·
       refine J.exit ?_
       refine JE.seqX ?_
       refine JE.cutX ?_
       refine JE.blockHit ?_
       refine JE.seqN ?_
       refine J.seq ?_
       refine J.seq ?_
       refine J.reg ?_
       refine WL.rd (RD.assign rfl) rfl rfl ?_
       refine WL.nil ?_
       refine JE.seqN ?_
       refine J.block ?_
       refine J.loop (fun gg ee mm => ∃ (c : Nat), gg = n.toNat - c ∧ (((c : Int) ≤ n) ∧ (∀ j, j < c → fOk f t k j)) ∧ ee = [(9, .int .i64 (c : Int)), (1, .int .i64 k), (3, .pointer (some ⟨b3, 0, none⟩)), (5, .pointer (some ⟨b5, 0, none⟩))] ∧ mm = [.cells b5 31 [vf, vt, vp], .cells b3 26 [.int .i64 n, v], .ro v 2 (xs.map bv), .ro vf 1 (f.map iv), .ro vt 1 (t.map iv), .ro vp 1 (pl.map iv)]) _ ⟨0, rfl, ?_, rfl, rfl⟩ ?_ ?_ ?_
       · exact ⟨by omega, fun j hj => by omega⟩
       · exact (Sub.consE rfl (by first | rfl | (congr 1; omega) | (simp; done)) (Sub.consE rfl (by first | rfl | (congr 1; omega) | (simp; done)) (Sub.consE rfl (by first | rfl | (congr 1; omega) | (simp; done)) (Sub.consE rfl (by first | rfl | (congr 1; omega) | (simp; done)) .nil))))
       · exact (SubM.cells rfl (by first | rfl | (simp; done)) (SubM.cells rfl (by first | rfl | (simp; done)) (SubM.ro rfl (by first | rfl | (simp [iv, bv, yv, tv, sv]; done)) (SubM.ro rfl (by first | rfl | (simp [iv, bv, yv, tv, sv]; done)) (SubM.ro rfl (by first | rfl | (simp [iv, bv, yv, tv, sv]; done)) (SubM.ro rfl (by first | rfl | (simp [iv, bv, yv, tv, sv]; done)) .nil))))))
       ·
        rintro g _ _ ⟨c, rfl, hV, rfl, rfl⟩
        have hct : t.count (c : Int) ≤ t.length := List.count_le_length
        have hpx := plOk_len (xs := xs) (t := t) (pl := pl) (fun j hj => hI.2 j (by omega))
        refine J.seq ?_
        refine J.seq ?_
        refine J.reg ?_
        refine WL.rd (RD.move rfl) rfl rfl ?_
        refine WL.rd (RD.fieldC rfl rfl) rfl rfl ?_
        refine WL.rd (RD.loadC rfl rfl) rfl rfl ?_
        refine WL.rd (RD.lss rfl rfl) rfl rfl ?_
        refine WL.nil ?_
        refine JE.seqN ?_
        refine J.condP rfl (fun hc101 => ?_) (fun hc101 => ?_)
        ·
         refine J.skip ?_
         refine JE.seqN ?_
         refine J.seq ?_
         refine J.block ?_
         refine J.seq ?_
         refine J.anyAll [] ?_
         refine WA.takeP 0 rfl (RDP.of fun _ => RD.fieldC rfl rfl) rfl (by kernel_rfl) rfl ?_
         refine WA.take 1 rfl (RD.loadC rfl rfl) rfl (by kernel_rfl) rfl ?_
         refine WA.takeP 2 rfl (RDP.of fun _ => RD.move rfl) rfl (by kernel_rfl) rfl ?_
         refine WA.takeP 3 rfl (RDP.idx rfl rfl (by omega) rfl) rfl (by kernel_rfl) rfl ?_
         refine WA.take 4 rfl (RD.loadE rfl (by omega) rfl) rfl (by kernel_rfl) rfl ?_
         refine WA.takeP 5 rfl (RDP.of fun _ => RD.lss rfl rfl) rfl (by kernel_rfl) rfl ?_
         refine WA.takeP 6 rfl (RDP.of fun _ => RD.move rfl) rfl (by kernel_rfl) rfl ?_
         refine WA.caseP 110 rfl (fun hg110 => ?_) (fun hg110 => ?_)
         ·
          refine WA.no 7 rfl rfl (by kernel_rfl) rfl ?_
          refine WA.no 8 rfl rfl (by kernel_rfl) rfl ?_
          refine WA.no 9 rfl rfl (by kernel_rfl) rfl ?_
          refine WA.no 10 rfl rfl (by kernel_rfl) rfl ?_
          refine WA.no 11 rfl rfl (by kernel_rfl) rfl ?_
          refine WA.no 12 rfl rfl (by kernel_rfl) rfl ?_
          refine WA.no 13 rfl rfl (by kernel_rfl) rfl ?_
          refine WA.no 14 rfl rfl (by kernel_rfl) rfl ?_
          refine WA.no 15 rfl rfl (by kernel_rfl) rfl ?_
          refine WA.no 16 rfl rfl (by kernel_rfl) rfl ?_
          refine WA.no 17 rfl rfl (by kernel_rfl) rfl ?_
          refine WA.takeP 18 rfl (RDP.of fun _ => RD.pickT rfl rfl) rfl (by kernel_rfl) rfl ?_
          refine WA.done (by kernel_rfl) ?_
          refine JE.seqN ?_
          refine J.condT rfl ?_
          refine J.seq ?_
          refine J.reg ?_
          refine WL.rd (RD.assign rfl) rfl rfl ?_
          refine WL.nil ?_
          refine JE.seqN ?_
          refine J.ret ?_
          refine JE.ret rfl (.tmp rfl .nil) (fun w hS => ?_)
          first | (exact CS.fin hS (mk_false (fun h => by obtain ⟨h1, h2, h3, h4, _⟩ := h; first | exact absurd h1 (by assumption) | omega))) | (exact CS.fin hS (mk_false (fun h => by obtain ⟨h1, h2, h3, h4⟩ := h.2.2.2.2.1 i (by omega); unfold brP at h4; first | omega | (have h6 := h3 (by omega); omega)))) | (exact CS.fin hS (mk_false (fun h => by obtain ⟨h1, h2⟩ := h.2.2.2.2.2 c (by omega); omega))) | (exact CS.fin hS (mk_true ⟨hg, hk3, hfl, htl, fun j hj => hI.2 j (by omega), fun j hj => hV.2 j (by omega)⟩))
         ·
          refine WA.takeP 7 rfl (RDP.of fun _ => RD.fieldC rfl rfl) rfl (by kernel_rfl) rfl ?_
          refine WA.take 8 rfl (RD.loadC rfl rfl) rfl (by kernel_rfl) rfl ?_
          refine WA.takeP 9 rfl (RDP.of fun _ => RD.move rfl) rfl (by kernel_rfl) rfl ?_
          refine WA.takeP 10 rfl (RDP.idx rfl rfl (by omega) rfl) rfl (by kernel_rfl) rfl ?_
          refine WA.take 11 rfl (RD.loadE rfl (by omega) rfl) rfl (by kernel_rfl) rfl ?_
          refine WA.take 12 rfl (RD.loadA rfl rfl) rfl (by kernel_rfl) rfl ?_
          refine WA.takeP 13 rfl (RDP.of fun _ => RD.move rfl) rfl (by kernel_rfl) rfl ?_
          refine WA.takeP 16 rfl (RDP.of fun _ => RD.move rfl) rfl (by kernel_rfl) rfl ?_
          refine WA.one (i := 14) (by kernel_rfl) ?_
          refine WAi.efS rfl (EF.callS (.cons rfl (.cons rfl .nil)) (fun w hS => l4Tail_c _ _ _ _ _ _ _ _ (by exact RdI.rd hS) (by exact RdI.rd hS) (by exact RdI.rd hS))) rfl rfl (fun _ => SubI.sub) ?_
          rintro ⟨⟩ -
          have hw := wrap_small (k := k) (a := f.getD c default) (b := (t.count (c : Int) : Int)) (by omega) (hbf _ (getD_mem' default (by omega))) (by omega) hk3
          refine WA.takeP 15 rfl (RDP.of fun _ => RD.addW rfl rfl) rfl (by kernel_rfl) rfl ?_
          refine WA.takeP 17 rfl (RDP.of fun _ => RD.neq rfl rfl) rfl (by kernel_rfl) rfl ?_
          refine WA.takeP 18 rfl (RDP.of fun _ => RD.pickF rfl rfl) rfl (by kernel_rfl) rfl ?_
          refine WA.done (by kernel_rfl) ?_
          refine JE.seqN ?_
          refine J.condP rfl (fun hc122 => ?_) (fun hc122 => ?_)
          ·
           refine J.seq ?_
           refine J.reg ?_
           refine WL.rd (RD.assign rfl) rfl rfl ?_
           refine WL.nil ?_
           refine JE.seqN ?_
           refine J.ret ?_
           refine JE.ret rfl (.tmp rfl .nil) (fun w hS => ?_)
           first | (exact CS.fin hS (mk_false (fun h => by obtain ⟨h1, h2, h3, h4, _⟩ := h; first | exact absurd h1 (by assumption) | omega))) | (exact CS.fin hS (mk_false (fun h => by obtain ⟨h1, h2, h3, h4⟩ := h.2.2.2.2.1 i (by omega); unfold brP at h4; first | omega | (have h6 := h3 (by omega); omega)))) | (exact CS.fin hS (mk_false (fun h => by obtain ⟨h1, h2⟩ := h.2.2.2.2.2 c (by omega); omega))) | (exact CS.fin hS (mk_true ⟨hg, hk3, hfl, htl, fun j hj => hI.2 j (by omega), fun j hj => hV.2 j (by omega)⟩))
          ·
           refine J.skip ?_
           refine JE.blockN ?_
           refine JE.seqN ?_
           refine J.reg ?_
           refine WL.rd (RD.move rfl) rfl rfl ?_
           refine WL.rd (RD.add rfl rfl (by omega) (by omega)) rfl rfl ?_
           refine WL.rd (RD.assign rfl) rfl rfl ?_
           refine WL.nil ?_
           refine JE.cutN ⟨_, ?_, c + 1, rfl, ?_, rfl, rfl⟩ ?_ ?_
           · omega
           · exact ⟨by omega, fun j hj => (Nat.lt_succ_iff_lt_or_eq.1 hj).elim (hV.2 j) (fun hh => by subst hh; exact ⟨by omega, by omega⟩)⟩
           · exact (Sub.consE rfl (by first | rfl | (congr 1; omega) | (simp; done)) (Sub.consE rfl (by first | rfl | (congr 1; omega) | (simp; done)) (Sub.consE rfl (by first | rfl | (congr 1; omega) | (simp; done)) (Sub.consE rfl (by first | rfl | (congr 1; omega) | (simp; done)) .nil))))
           · exact (SubM.cells rfl (by first | rfl | (simp; done)) (SubM.cells rfl (by first | rfl | (simp; done)) (SubM.ro rfl (by first | rfl | (simp [iv, bv, yv, tv, sv]; done)) (SubM.ro rfl (by first | rfl | (simp [iv, bv, yv, tv, sv]; done)) (SubM.ro rfl (by first | rfl | (simp [iv, bv, yv, tv, sv]; done)) (SubM.ro rfl (by first | rfl | (simp [iv, bv, yv, tv, sv]; done)) .nil))))))
        ·
         refine J.exit ?_
         refine JE.seqX ?_
         refine JE.cutX ?_
         refine JE.blockHit ?_
         refine JE.seqN ?_
         refine J.seq ?_
         refine J.reg ?_
         refine WL.rd (RD.assign rfl) rfl rfl ?_
         refine WL.nil ?_
         refine JE.seqN ?_
         refine J.ret ?_
         refine JE.ret rfl (.tmp rfl .nil) (fun w hS => ?_)
         first | (exact CS.fin hS (mk_false (fun h => by obtain ⟨h1, h2, h3, h4, _⟩ := h; first | exact absurd h1 (by assumption) | omega))) | (exact CS.fin hS (mk_false (fun h => by obtain ⟨h1, h2, h3, h4⟩ := h.2.2.2.2.1 i (by omega); unfold brP at h4; first | omega | (have h6 := h3 (by omega); omega)))) | (exact CS.fin hS (mk_false (fun h => by obtain ⟨h1, h2⟩ := h.2.2.2.2.2 c (by omega); omega))) | (exact CS.fin hS (mk_true ⟨hg, hk3, hfl, htl, fun j hj => hI.2 j (by omega), fun j hj => hV.2 j (by omega)⟩))
theorem iIsPebbles_c (n : Int) (v : Value) (xs : List (Int × Int)) (k : Int) (vf vt vp : Value) (f t pl : List Int) (w : World) (hr : Rd w v 2 (xs.map bv)) (hrf : Rd w vf 1 (f.map iv)) (hrt : Rd w vt 1 (t.map iv)) (hrp : Rd w vp 1 (pl.map iv)) (_hbf : ∀ x ∈ f, x ≤ 9223372036854775807) :
    CS Try.prog 14 [.agg #[.int .i64 n, v], .int .i64 k, .agg #[vf, vt, vp]] w (.bool (decide (isP n xs k f t pl))) := by
 have hl_xs : xs.length ≤ 9223372036854775807 := (by obtain ⟨_, _, _, hh, _⟩ := hr.shape; simpa using hh)
 have hl_f : f.length ≤ 9223372036854775807 := (by obtain ⟨_, _, _, hh, _⟩ := hrf.shape; simpa using hh)
 have hl_t : t.length ≤ 9223372036854775807 := (by obtain ⟨_, _, _, hh, _⟩ := hrt.shape; simpa using hh)
 have hl_pl : pl.length ≤ 9223372036854775807 := (by obtain ⟨_, _, _, hh, _⟩ := hrp.shape; simpa using hh)
 refine calls_of_J (mu := (fun _ => False)) (m := [.ro v 2 (xs.map bv), .ro vf 1 (f.map iv), .ro vt 1 (t.map iv), .ro vp 1 (pl.map iv)]) (e := [(0, .agg #[.int .i64 n, v]), (1, .int .i64 k), (2, .agg #[vf, vt, vp])]) Try.func14 rfl rfl (.cons rfl (.cons rfl (.cons rfl .nil))) ((((((St.init _ _).ro0 hrp (by decide)).ro0 hrt (by decide)).ro0 hrf (by decide)).ro0 hr (by decide))) ?_
 refine J.seq ?_
 refine J.reg ?_
 refine WL.efS (EF.boxA rfl) rfl rfl ?_
 intro b3 _
 refine WL.efS (EF.boxA rfl) rfl rfl ?_
 intro b5 _
 refine WL.rd (RD.assign rfl) rfl rfl ?_
 refine WL.nil ?_
 refine JE.seqN ?_
 refine J.seq ?_
 refine J.seq ?_
 refine J.reg ?_
 refine WL.rd (RD.loadA rfl rfl) rfl rfl ?_
 refine WL.efS (EF.callS (.cons rfl .nil) (fun w hS => iIsGraph_c _ _ _ _ (by exact RdI.rd hS))) rfl rfl ?_
 rintro ⟨⟩ -
 refine WL.rd (RD.notP rfl) rfl rfl ?_
 refine WL.rd (RD.move rfl) rfl rfl ?_
 refine WL.caseP 15 rfl (fun hg15 => ?_) (fun hg15 => ?_)
 ·
  refine WL.noS rfl rfl ?_
  refine WL.noS rfl rfl ?_
  refine WL.noS rfl rfl ?_
  refine WL.rd (RD.pickT rfl rfl) rfl rfl ?_
  refine WL.rd (RD.move rfl) rfl rfl ?_
  refine WL.noS rfl rfl ?_
  refine WL.noS rfl rfl ?_
  refine WL.noS rfl rfl ?_
  refine WL.noS rfl rfl ?_
  refine WL.noS rfl rfl ?_
  refine WL.noS rfl rfl ?_
  refine WL.rd (RD.pickT rfl rfl) rfl rfl ?_
  refine WL.rd (RD.move rfl) rfl rfl ?_
  refine WL.noS rfl rfl ?_
  refine WL.noS rfl rfl ?_
  refine WL.noS rfl rfl ?_
  refine WL.noS rfl rfl ?_
  refine WL.noS rfl rfl ?_
  refine WL.noS rfl rfl ?_
  refine WL.noS rfl rfl ?_
  refine WL.rd (RD.pickT rfl rfl) rfl rfl ?_
  refine WL.nil ?_
  refine JE.seqN ?_
  refine J.condT rfl ?_
  refine J.seq ?_
  refine J.reg ?_
  refine WL.rd (RD.assign rfl) rfl rfl ?_
  refine WL.nil ?_
  refine JE.seqN ?_
  refine J.ret ?_
  refine JE.ret rfl (.tmp rfl .nil) (fun w hS => ?_)
  first | (exact CS.fin hS (mk_false (fun h => by obtain ⟨h1, h2, h3, h4, _⟩ := h; first | exact absurd h1 (by assumption) | omega))) | (exact CS.fin hS (mk_false (fun h => by obtain ⟨h1, h2, h3, h4⟩ := h.2.2.2.2.1 i (by omega); unfold brP at h4; first | omega | (have h6 := h3 (by omega); omega)))) | (exact CS.fin hS (mk_false (fun h => by obtain ⟨h1, h2⟩ := h.2.2.2.2.2 c (by omega); omega))) | (exact CS.fin hS (mk_true ⟨hg, hk3, hfl, htl, fun j hj => hI.2 j (by omega), fun j hj => hV.2 j (by omega)⟩))
 ·
  refine WL.rd (RD.move rfl) rfl rfl ?_
  refine WL.efS (EF.callS (.cons rfl (.cons rfl (.cons rfl .nil))) (fun w hS => within_c _ _ _ _)) rfl rfl ?_
  rintro ⟨⟩ -
  refine WL.rd (RD.notP rfl) rfl rfl ?_
  refine WL.rd (RD.pickF rfl rfl) rfl rfl ?_
  refine WL.rd (RD.move rfl) rfl rfl ?_
  refine WL.caseP 20 rfl (fun hg20 => ?_) (fun hg20 => ?_)
  ·
   refine WL.noS rfl rfl ?_
   refine WL.noS rfl rfl ?_
   refine WL.noS rfl rfl ?_
   refine WL.noS rfl rfl ?_
   refine WL.noS rfl rfl ?_
   refine WL.noS rfl rfl ?_
   refine WL.rd (RD.pickT rfl rfl) rfl rfl ?_
   refine WL.rd (RD.move rfl) rfl rfl ?_
   refine WL.noS rfl rfl ?_
   refine WL.noS rfl rfl ?_
   refine WL.noS rfl rfl ?_
   refine WL.noS rfl rfl ?_
   refine WL.noS rfl rfl ?_
   refine WL.noS rfl rfl ?_
   refine WL.noS rfl rfl ?_
   refine WL.rd (RD.pickT rfl rfl) rfl rfl ?_
   refine WL.nil ?_
   refine JE.seqN ?_
   refine J.condT rfl ?_
   refine J.seq ?_
   refine J.reg ?_
   refine WL.rd (RD.assign rfl) rfl rfl ?_
   refine WL.nil ?_
   refine JE.seqN ?_
   refine J.ret ?_
   refine JE.ret rfl (.tmp rfl .nil) (fun w hS => ?_)
   first | (exact CS.fin hS (mk_false (fun h => by obtain ⟨h1, h2, h3, h4, _⟩ := h; first | exact absurd h1 (by assumption) | omega))) | (exact CS.fin hS (mk_false (fun h => by obtain ⟨h1, h2, h3, h4⟩ := h.2.2.2.2.1 i (by omega); unfold brP at h4; first | omega | (have h6 := h3 (by omega); omega)))) | (exact CS.fin hS (mk_false (fun h => by obtain ⟨h1, h2⟩ := h.2.2.2.2.2 c (by omega); omega))) | (exact CS.fin hS (mk_true ⟨hg, hk3, hfl, htl, fun j hj => hI.2 j (by omega), fun j hj => hV.2 j (by omega)⟩))
  ·
   refine WL.rd (RD.fieldC rfl rfl) rfl rfl ?_
   refine WL.rd (RD.loadC rfl rfl) rfl rfl ?_
   refine WL.rd (RD.lenR rfl) rfl rfl ?_
   refine WL.rd (RD.fieldC rfl rfl) rfl rfl ?_
   refine WL.rd (RD.loadC rfl rfl) rfl rfl ?_
   refine WL.rd (RD.neq rfl rfl) rfl rfl ?_
   refine WL.rd (RD.pickF rfl rfl) rfl rfl ?_
   refine WL.rd (RD.move rfl) rfl rfl ?_
   refine WL.caseP 28 rfl (fun hg28 => ?_) (fun hg28 => ?_)
   ·
    refine WL.noS rfl rfl ?_
    refine WL.noS rfl rfl ?_
    refine WL.noS rfl rfl ?_
    refine WL.noS rfl rfl ?_
    refine WL.noS rfl rfl ?_
    refine WL.noS rfl rfl ?_
    refine WL.noS rfl rfl ?_
    refine WL.rd (RD.pickT rfl rfl) rfl rfl ?_
    refine WL.nil ?_
    refine JE.seqN ?_
    refine J.condT rfl ?_
    refine J.seq ?_
    refine J.reg ?_
    refine WL.rd (RD.assign rfl) rfl rfl ?_
    refine WL.nil ?_
    refine JE.seqN ?_
    refine J.ret ?_
    refine JE.ret rfl (.tmp rfl .nil) (fun w hS => ?_)
    first | (exact CS.fin hS (mk_false (fun h => by obtain ⟨h1, h2, h3, h4, _⟩ := h; first | exact absurd h1 (by assumption) | omega))) | (exact CS.fin hS (mk_false (fun h => by obtain ⟨h1, h2, h3, h4⟩ := h.2.2.2.2.1 i (by omega); unfold brP at h4; first | omega | (have h6 := h3 (by omega); omega)))) | (exact CS.fin hS (mk_false (fun h => by obtain ⟨h1, h2⟩ := h.2.2.2.2.2 c (by omega); omega))) | (exact CS.fin hS (mk_true ⟨hg, hk3, hfl, htl, fun j hj => hI.2 j (by omega), fun j hj => hV.2 j (by omega)⟩))
   ·
    refine WL.rd (RD.fieldC rfl rfl) rfl rfl ?_
    refine WL.rd (RD.loadC rfl rfl) rfl rfl ?_
    refine WL.rd (RD.lenR rfl) rfl rfl ?_
    refine WL.rd (RD.fieldC rfl rfl) rfl rfl ?_
    refine WL.rd (RD.loadC rfl rfl) rfl rfl ?_
    refine WL.rd (RD.lenR rfl) rfl rfl ?_
    refine WL.rd (RD.neq rfl rfl) rfl rfl ?_
    refine WL.rd (RD.pickF rfl rfl) rfl rfl ?_
    refine WL.nil ?_
    refine JE.seqN ?_
    refine J.condP rfl (fun hc36 => ?_) (fun hc36 => ?_)
    ·
     refine J.seq ?_
     refine J.reg ?_
     refine WL.rd (RD.assign rfl) rfl rfl ?_
     refine WL.nil ?_
     refine JE.seqN ?_
     refine J.ret ?_
     refine JE.ret rfl (.tmp rfl .nil) (fun w hS => ?_)
     first | (exact CS.fin hS (mk_false (fun h => by obtain ⟨h1, h2, h3, h4, _⟩ := h; first | exact absurd h1 (by assumption) | omega))) | (exact CS.fin hS (mk_false (fun h => by obtain ⟨h1, h2, h3, h4⟩ := h.2.2.2.2.1 i (by omega); unfold brP at h4; first | omega | (have h6 := h3 (by omega); omega)))) | (exact CS.fin hS (mk_false (fun h => by obtain ⟨h1, h2⟩ := h.2.2.2.2.2 c (by omega); omega))) | (exact CS.fin hS (mk_true ⟨hg, hk3, hfl, htl, fun j hj => hI.2 j (by omega), fun j hj => hV.2 j (by omega)⟩))
    ·
     refine J.skip ?_
     refine JE.seqN ?_
     refine J.seq ?_
     have hg : isG n xs := Decidable.not_not.1 hg15
     have h12 := hg.1
     have h13 := hg.2.1
     have h14 := hg.2.2.1
     have hk3 : 1 ≤ k ∧ k ≤ 3 := by omega
     have hfl : (f.length : Int) = n := by omega
     have htl : t.length = pl.length := by omega
     refine J.reg ?_
     refine WL.rd (RD.fieldC rfl rfl) rfl rfl ?_
     refine WL.rd (RD.loadC rfl rfl) rfl rfl ?_
     refine WL.efS (EF.makeN (n := n.toNat) (n' := n.toNat) (hn := ⟨by omega⟩) (hn' := ⟨by omega⟩) rfl rfl rfl rfl (by omega)) rfl rfl ?_
     intro v39 _
     refine WL.rd (RD.assign rfl) rfl rfl ?_
     refine WL.nil ?_
     refine JE.seqN ?_
     refine J.seq ?_
     refine J.seq ?_
     refine J.reg ?_
     refine WL.rd (RD.fieldC rfl rfl) rfl rfl ?_
     refine WL.rd (RD.loadC rfl rfl) rfl rfl ?_
     refine WL.rd (RD.lenR rfl) rfl rfl ?_
     refine WL.rd (RD.move rfl) rfl rfl ?_
     refine WL.nil ?_
     refine JE.seqN ?_
     refine J.block ?_
     refine J.loop (fun gg ee mm => ∃ (i : Nat), gg = pl.length - i ∧ ((i ≤ pl.length) ∧ (∀ j, j < i → plOk xs t pl j)) ∧ ee = [(7, v39), (41, vp), (42, .int .i64 (pl.length : Int)), (43, .int .i64 (i : Int)), (1, .int .i64 k), (3, .pointer (some ⟨b3, 0, none⟩)), (5, .pointer (some ⟨b5, 0, none⟩))] ∧ mm = [.row v39 3 1 ((usedL n.toNat t i).map iv), .cells b5 31 [vf, vt, vp], .cells b3 26 [.int .i64 n, v], .ro v 2 (xs.map bv), .ro vf 1 (f.map iv), .ro vt 1 (t.map iv), .ro vp 1 (pl.map iv)]) _ ⟨0, rfl, ?_, rfl, rfl⟩ ?_ ?_ ?_
     · exact ⟨by omega, fun j hj => by omega⟩
     · exact (Sub.consE rfl (by first | rfl | (congr 1; omega) | (simp; done)) (Sub.consE rfl (by first | rfl | (congr 1; omega) | (simp; done)) (Sub.consE rfl (by first | rfl | (congr 1; omega) | (simp; done)) (Sub.consE rfl (by first | rfl | (congr 1; omega) | (simp; done)) (Sub.consE rfl (by first | rfl | (congr 1; omega) | (simp; done)) (Sub.consE rfl (by first | rfl | (congr 1; omega) | (simp; done)) (Sub.consE rfl (by first | rfl | (congr 1; omega) | (simp; done)) .nil)))))))
     · exact (SubM.row rfl rfl (by rw [usedL_zero]; simp [iv]) (SubM.cells rfl (by first | rfl | (simp; done)) (SubM.cells rfl (by first | rfl | (simp; done)) (SubM.ro rfl (by first | rfl | (simp [iv, bv, yv, tv, sv]; done)) (SubM.ro rfl (by first | rfl | (simp [iv, bv, yv, tv, sv]; done)) (SubM.ro rfl (by first | rfl | (simp [iv, bv, yv, tv, sv]; done)) (SubM.ro rfl (by first | rfl | (simp [iv, bv, yv, tv, sv]; done)) .nil)))))))
     ·
      rintro g _ _ ⟨i, rfl, hI, rfl, rfl⟩
      refine J.seq ?_
      refine J.reg ?_
      refine WL.rd (RD.lss rfl rfl) rfl rfl ?_
      refine WL.nil ?_
      refine JE.seqN ?_
      refine J.seq ?_
      refine J.condP rfl (fun hc44 => ?_) (fun hc44 => ?_)
      ·
       refine J.skip ?_
       refine JE.seqN ?_
       refine J.seq ?_
       refine J.block ?_
       refine J.seq ?_
       refine J.reg ?_
       refine WL.rd (RD.move rfl) rfl rfl ?_
       refine WL.rd (RD.idx rfl rfl (by omega) rfl) rfl rfl ?_
       refine WL.rd (RD.loadE rfl (by omega) rfl) rfl rfl ?_
       refine WL.rd (RD.assign rfl) rfl rfl ?_
       refine WL.rd (RD.assign rfl) rfl rfl ?_
       refine WL.nil ?_
       refine JE.seqN ?_
       refine J.seq ?_
       refine J.seq ?_
       refine J.anyAll [] ?_
       refine WA.takeP 0 rfl (RDP.of fun _ => RD.move rfl) rfl (by kernel_rfl) rfl ?_
       refine WA.takeP 1 rfl (RDP.of fun _ => RD.fieldC rfl rfl) rfl (by kernel_rfl) rfl ?_
       refine WA.take 2 rfl (RD.loadC rfl rfl) rfl (by kernel_rfl) rfl ?_
       refine WA.takeP 3 rfl (RDP.lenR rfl) rfl (by kernel_rfl) rfl ?_
       refine WA.takeP 4 rfl (RDP.of fun _ => RD.sub rfl rfl (by omega) (by omega)) rfl (by kernel_rfl) rfl ?_
       refine WA.one (i := 5) (by kernel_rfl) ?_
       refine WAi.efS rfl (EF.callS (.cons rfl (.cons rfl (.cons rfl .nil))) (fun w hS => within_c _ _ _ _)) rfl rfl (fun _ => SubI.sub) ?_
       rintro ⟨⟩ -
       refine WA.takeP 6 rfl (RDP.of fun _ => RD.notP rfl) rfl (by kernel_rfl) rfl ?_
       refine WA.takeP 7 rfl (RDP.of fun _ => RD.move rfl) rfl (by kernel_rfl) rfl ?_
       refine WA.caseP 55 rfl (fun hg55 => ?_) (fun hg55 => ?_)
       ·
        refine WA.no 8 rfl rfl (by kernel_rfl) rfl ?_
        refine WA.no 9 rfl rfl (by kernel_rfl) rfl ?_
        refine WA.no 10 rfl rfl (by kernel_rfl) rfl ?_
        refine WA.no 11 rfl rfl (by kernel_rfl) rfl ?_
        refine WA.no 12 rfl rfl (by kernel_rfl) rfl ?_
        refine WA.no 13 rfl rfl (by kernel_rfl) rfl ?_
        refine WA.no 14 rfl rfl (by kernel_rfl) rfl ?_
        refine WA.no 15 rfl rfl (by kernel_rfl) rfl ?_
        refine WA.no 16 rfl rfl (by kernel_rfl) rfl ?_
        refine WA.no 17 rfl rfl (by kernel_rfl) rfl ?_
        refine WA.no 18 rfl rfl (by kernel_rfl) rfl ?_
        refine WA.no 19 rfl rfl (by kernel_rfl) rfl ?_
        refine WA.takeP 20 rfl (RDP.of fun _ => RD.pickT rfl rfl) rfl (by kernel_rfl) rfl ?_
        refine WA.takeP 21 rfl (RDP.of fun _ => RD.move rfl) rfl (by kernel_rfl) rfl ?_
        refine WA.no 22 rfl rfl (by kernel_rfl) rfl ?_
        refine WA.no 23 rfl rfl (by kernel_rfl) rfl ?_
        refine WA.no 24 rfl rfl (by kernel_rfl) rfl ?_
        refine WA.no 25 rfl rfl (by kernel_rfl) rfl ?_
        refine WA.no 26 rfl rfl (by kernel_rfl) rfl ?_
        refine WA.no 27 rfl rfl (by kernel_rfl) rfl ?_
        refine WA.no 28 rfl rfl (by kernel_rfl) rfl ?_
        refine WA.no 29 rfl rfl (by kernel_rfl) rfl ?_
        refine WA.no 30 rfl rfl (by kernel_rfl) rfl ?_
        refine WA.no 31 rfl rfl (by kernel_rfl) rfl ?_
        refine WA.no 32 rfl rfl (by kernel_rfl) rfl ?_
        refine WA.no 33 rfl rfl (by kernel_rfl) rfl ?_
        refine WA.takeP 34 rfl (RDP.of fun _ => RD.pickT rfl rfl) rfl (by kernel_rfl) rfl ?_
        refine WA.done (by kernel_rfl) ?_
        refine JE.seqN ?_
        refine J.condT rfl ?_
        refine J.seq ?_
        refine J.reg ?_
        refine WL.rd (RD.assign rfl) rfl rfl ?_
        refine WL.nil ?_
        refine JE.seqN ?_
        refine J.ret ?_
        refine JE.ret rfl (.tmp rfl .nil) (fun w hS => ?_)
        first | (exact CS.fin hS (mk_false (fun h => by obtain ⟨h1, h2, h3, h4, _⟩ := h; first | exact absurd h1 (by assumption) | omega))) | (exact CS.fin hS (mk_false (fun h => by obtain ⟨h1, h2, h3, h4⟩ := h.2.2.2.2.1 i (by omega); unfold brP at h4; first | omega | (have h6 := h3 (by omega); omega)))) | (exact CS.fin hS (mk_false (fun h => by obtain ⟨h1, h2⟩ := h.2.2.2.2.2 c (by omega); omega))) | (exact CS.fin hS (mk_true ⟨hg, hk3, hfl, htl, fun j hj => hI.2 j (by omega), fun j hj => hV.2 j (by omega)⟩))
       ·
        refine WA.takeP 8 rfl (RDP.of fun _ => RD.move rfl) rfl (by kernel_rfl) rfl ?_
        refine WA.takeP 9 rfl (RDP.of fun _ => RD.gtr rfl rfl) rfl (by kernel_rfl) rfl ?_
        refine WA.takeP 10 rfl (RDP.of fun _ => RD.move rfl) rfl (by kernel_rfl) rfl ?_
        refine WA.caseP 58 rfl (fun hg58 => ?_) (fun hg58 => ?_)
        ·
         refine WA.takeP 11 rfl (RDP.of fun _ => RD.fieldC rfl rfl) rfl (by kernel_rfl) rfl ?_
         refine WA.take 12 rfl (RD.loadC rfl rfl) rfl (by kernel_rfl) rfl ?_
         refine WA.takeP 13 rfl (RDP.of fun _ => RD.move rfl) rfl (by kernel_rfl) rfl ?_
         refine WA.takeP 14 rfl (RDP.of fun _ => RD.sub rfl rfl (by omega) (by omega)) rfl (by kernel_rfl) rfl ?_
         refine WA.takeP 15 rfl (RDP.idx (j := i - 1) (hj := ⟨by omega⟩) rfl rfl (by omega) rfl) rfl (by kernel_rfl) rfl ?_
         refine WA.take 16 rfl (RD.loadE rfl (by omega) rfl) rfl (by kernel_rfl) rfl ?_
         refine WA.takeP 17 rfl (RDP.of fun _ => RD.move rfl) rfl (by kernel_rfl) rfl ?_
         refine WA.takeP 18 rfl (RDP.of fun _ => RD.geq rfl rfl) rfl (by kernel_rfl) rfl ?_
         refine WA.takeP 19 rfl (RDP.of fun _ => RD.pickT rfl rfl) rfl (by kernel_rfl) rfl ?_
         refine WA.takeP 20 rfl (RDP.of fun _ => RD.pickF rfl rfl) rfl (by kernel_rfl) rfl ?_
         refine WA.takeP 21 rfl (RDP.of fun _ => RD.move rfl) rfl (by kernel_rfl) rfl ?_
         refine WA.caseP 69 rfl (fun hg69 => ?_) (fun hg69 => ?_)
         ·
          refine WA.no 22 rfl rfl (by kernel_rfl) rfl ?_
          refine WA.no 23 rfl rfl (by kernel_rfl) rfl ?_
          refine WA.no 24 rfl rfl (by kernel_rfl) rfl ?_
          refine WA.no 25 rfl rfl (by kernel_rfl) rfl ?_
          refine WA.no 26 rfl rfl (by kernel_rfl) rfl ?_
          refine WA.no 27 rfl rfl (by kernel_rfl) rfl ?_
          refine WA.no 28 rfl rfl (by kernel_rfl) rfl ?_
          refine WA.no 29 rfl rfl (by kernel_rfl) rfl ?_
          refine WA.no 30 rfl rfl (by kernel_rfl) rfl ?_
          refine WA.no 31 rfl rfl (by kernel_rfl) rfl ?_
          refine WA.no 32 rfl rfl (by kernel_rfl) rfl ?_
          refine WA.no 33 rfl rfl (by kernel_rfl) rfl ?_
          refine WA.takeP 34 rfl (RDP.of fun _ => RD.pickT rfl rfl) rfl (by kernel_rfl) rfl ?_
          refine WA.done (by kernel_rfl) ?_
          refine JE.seqN ?_
          refine J.condT rfl ?_
          refine J.seq ?_
          refine J.reg ?_
          refine WL.rd (RD.assign rfl) rfl rfl ?_
          refine WL.nil ?_
          refine JE.seqN ?_
          refine J.ret ?_
          refine JE.ret rfl (.tmp rfl .nil) (fun w hS => ?_)
          first | (exact CS.fin hS (mk_false (fun h => by obtain ⟨h1, h2, h3, h4, _⟩ := h; first | exact absurd h1 (by assumption) | omega))) | (exact CS.fin hS (mk_false (fun h => by obtain ⟨h1, h2, h3, h4⟩ := h.2.2.2.2.1 i (by omega); unfold brP at h4; first | omega | (have h6 := h3 (by omega); omega)))) | (exact CS.fin hS (mk_false (fun h => by obtain ⟨h1, h2⟩ := h.2.2.2.2.2 c (by omega); omega))) | (exact CS.fin hS (mk_true ⟨hg, hk3, hfl, htl, fun j hj => hI.2 j (by omega), fun j hj => hV.2 j (by omega)⟩))
         ·
          refine WA.takeP 22 rfl (RDP.of fun _ => RD.fieldC rfl rfl) rfl (by kernel_rfl) rfl ?_
          refine WA.take 23 rfl (RD.loadC rfl rfl) rfl (by kernel_rfl) rfl ?_
          refine WA.takeP 24 rfl (RDP.of fun _ => RD.move rfl) rfl (by kernel_rfl) rfl ?_
          refine WA.takeP 25 rfl (RDP.idx (j := (pl.getD i default).toNat) (hj := ⟨by omega⟩) rfl rfl (by omega) rfl) rfl (by kernel_rfl) rfl ?_
          refine WA.take 26 rfl (RD.loadEA rfl (by omega) rfl) rfl (by kernel_rfl) rfl ?_
          refine WA.takeP 27 rfl (RDP.of fun _ => RD.fieldC rfl rfl) rfl (by kernel_rfl) rfl ?_
          refine WA.take 28 rfl (RD.loadC rfl rfl) rfl (by kernel_rfl) rfl ?_
          refine WA.takeP 29 rfl (RDP.of fun _ => RD.move rfl) rfl (by kernel_rfl) rfl ?_
          refine WA.takeP 30 rfl (RDP.idx rfl rfl (by omega) rfl) rfl (by kernel_rfl) rfl ?_
          refine WA.take 31 rfl (RD.loadE rfl (by omega) rfl) rfl (by kernel_rfl) rfl ?_
          refine WA.one (i := 32) (by kernel_rfl) ?_
          refine WAi.efS rfl (EF.callS (.cons rfl (.cons rfl .nil)) (fun w hS => barHas_c _ _ _)) rfl rfl (fun _ => SubI.sub) ?_
          rintro ⟨⟩ -
          refine WA.takeP 33 rfl (RDP.of fun _ => RD.notP rfl) rfl (by kernel_rfl) rfl ?_
          refine WA.takeP 34 rfl (RDP.of fun _ => RD.pickF rfl rfl) rfl (by kernel_rfl) rfl ?_
          refine WA.done (by kernel_rfl) ?_
          refine JE.seqN ?_
          refine J.condP rfl (fun hc82 => ?_) (fun hc82 => ?_)
          ·
           refine J.seq ?_
           refine J.reg ?_
           refine WL.rd (RD.assign rfl) rfl rfl ?_
           refine WL.nil ?_
           refine JE.seqN ?_
           refine J.ret ?_
           refine JE.ret rfl (.tmp rfl .nil) (fun w hS => ?_)
           first | (exact CS.fin hS (mk_false (fun h => by obtain ⟨h1, h2, h3, h4, _⟩ := h; first | exact absurd h1 (by assumption) | omega))) | (exact CS.fin hS (mk_false (fun h => by obtain ⟨h1, h2, h3, h4⟩ := h.2.2.2.2.1 i (by omega); unfold brP at h4; first | omega | (have h6 := h3 (by omega); omega)))) | (exact CS.fin hS (mk_false (fun h => by obtain ⟨h1, h2⟩ := h.2.2.2.2.2 c (by omega); omega))) | (exact CS.fin hS (mk_true ⟨hg, hk3, hfl, htl, fun j hj => hI.2 j (by omega), fun j hj => hV.2 j (by omega)⟩))
          ·
           refine J.skip ?_
           refine JE.seqN ?_
           have hgb := gBar hg (pl.getD i default).toNat (by omega)
           have hul := usedL_len n.toNat t i
           have hug := usedL_get n.toNat t i (t.getD i default).toNat (by omega)
           have hct : (t.take i).count (((t.getD i default).toNat : Nat) : Int) ≤ i := Nat.le_trans List.count_le_length (List.length_take_le _ _)
           refine J.reg ?_
           refine WL.rd (RD.move rfl) rfl rfl ?_
           refine WL.rd (RD.fieldC rfl rfl) rfl rfl ?_
           refine WL.rd (RD.loadC rfl rfl) rfl rfl ?_
           refine WL.rd (RD.move rfl) rfl rfl ?_
           refine WL.rd (RD.idx rfl rfl (by omega) rfl) rfl rfl ?_
           refine WL.rd (RD.loadE rfl (by omega) rfl) rfl rfl ?_
           refine WL.rd (RD.idx (j := (t.getD i default).toNat) (hj := ⟨by omega⟩) rfl rfl (by omega) rfl) rfl rfl ?_
           refine WL.rd (RD.loadE rfl (by omega) rfl) rfl rfl ?_
           refine WL.rd (RD.add rfl rfl (by omega) (by omega)) rfl rfl ?_
           refine WL.rd (RD.idx (j := (t.getD i default).toNat) (hj := ⟨by omega⟩) rfl rfl (by omega) rfl) rfl rfl ?_
           refine WL.efN (EF.storeE rfl rfl (by omega) rfl) rfl ?_
           rintro ⟨⟩ -
           refine WL.nil ?_
           refine JE.blockN ?_
           refine JE.seqN ?_
           refine J.reg ?_
           refine WL.rd (RD.add rfl rfl (by omega) (by omega)) rfl rfl ?_
           refine WL.rd (RD.move rfl) rfl rfl ?_
           refine WL.nil ?_
           refine JE.cutN ⟨_, ?_, i + 1, rfl, ?_, rfl, rfl⟩ ?_ ?_
           · omega
           · exact ⟨by omega, fun j hj => (Nat.lt_succ_iff_lt_or_eq.1 hj).elim (hI.2 j) (fun hh => by subst hh; exact ⟨by omega, by omega, fun h0 => by omega, by unfold brP; omega⟩)⟩
           · exact (Sub.consE rfl (by first | rfl | (congr 1; omega) | (simp; done)) (Sub.consE rfl (by first | rfl | (congr 1; omega) | (simp; done)) (Sub.consE rfl (by first | rfl | (congr 1; omega) | (simp; done)) (Sub.consE rfl (by first | rfl | (congr 1; omega) | (simp; done)) (Sub.consE rfl (by first | rfl | (congr 1; omega) | (simp; done)) (Sub.consE rfl (by first | rfl | (congr 1; omega) | (simp; done)) (Sub.consE rfl (by first | rfl | (congr 1; omega) | (simp; done)) .nil)))))))
           · exact (SubM.row rfl rfl (by rw [← usedL_step n.toNat t i (by omega) (by omega) (by omega), List.map_set]; rfl) (SubM.cells rfl (by first | rfl | (simp; done)) (SubM.cells rfl (by first | rfl | (simp; done)) (SubM.ro rfl (by first | rfl | (simp [iv, bv, yv, tv, sv]; done)) (SubM.ro rfl (by first | rfl | (simp [iv, bv, yv, tv, sv]; done)) (SubM.ro rfl (by first | rfl | (simp [iv, bv, yv, tv, sv]; done)) (SubM.ro rfl (by first | rfl | (simp [iv, bv, yv, tv, sv]; done)) .nil)))))))
        ·
         refine WA.no 11 rfl rfl (by kernel_rfl) rfl ?_
         refine WA.no 12 rfl rfl (by kernel_rfl) rfl ?_
         refine WA.no 13 rfl rfl (by kernel_rfl) rfl ?_
         refine WA.no 14 rfl rfl (by kernel_rfl) rfl ?_
         refine WA.no 15 rfl rfl (by kernel_rfl) rfl ?_
         refine WA.no 16 rfl rfl (by kernel_rfl) rfl ?_
         refine WA.no 17 rfl rfl (by kernel_rfl) rfl ?_
         refine WA.no 18 rfl rfl (by kernel_rfl) rfl ?_
         refine WA.takeP 19 rfl (RDP.of fun _ => RD.pickF rfl rfl) rfl (by kernel_rfl) rfl ?_
         refine WA.takeP 20 rfl (RDP.of fun _ => RD.pickF rfl rfl) rfl (by kernel_rfl) rfl ?_
         refine WA.takeP 21 rfl (RDP.of fun _ => RD.move rfl) rfl (by kernel_rfl) rfl ?_
         refine WA.takeP 22 rfl (RDP.of fun _ => RD.fieldC rfl rfl) rfl (by kernel_rfl) rfl ?_
         refine WA.take 23 rfl (RD.loadC rfl rfl) rfl (by kernel_rfl) rfl ?_
         refine WA.takeP 24 rfl (RDP.of fun _ => RD.move rfl) rfl (by kernel_rfl) rfl ?_
         refine WA.takeP 25 rfl (RDP.idx (j := (pl.getD i default).toNat) (hj := ⟨by omega⟩) rfl rfl (by omega) rfl) rfl (by kernel_rfl) rfl ?_
         refine WA.take 26 rfl (RD.loadEA rfl (by omega) rfl) rfl (by kernel_rfl) rfl ?_
         refine WA.takeP 27 rfl (RDP.of fun _ => RD.fieldC rfl rfl) rfl (by kernel_rfl) rfl ?_
         refine WA.take 28 rfl (RD.loadC rfl rfl) rfl (by kernel_rfl) rfl ?_
         refine WA.takeP 29 rfl (RDP.of fun _ => RD.move rfl) rfl (by kernel_rfl) rfl ?_
         refine WA.takeP 30 rfl (RDP.idx rfl rfl (by omega) rfl) rfl (by kernel_rfl) rfl ?_
         refine WA.take 31 rfl (RD.loadE rfl (by omega) rfl) rfl (by kernel_rfl) rfl ?_
         refine WA.one (i := 32) (by kernel_rfl) ?_
         refine WAi.efS rfl (EF.callS (.cons rfl (.cons rfl .nil)) (fun w hS => barHas_c _ _ _)) rfl rfl (fun _ => SubI.sub) ?_
         rintro ⟨⟩ -
         refine WA.takeP 33 rfl (RDP.of fun _ => RD.notP rfl) rfl (by kernel_rfl) rfl ?_
         refine WA.takeP 34 rfl (RDP.of fun _ => RD.pickF rfl rfl) rfl (by kernel_rfl) rfl ?_
         refine WA.done (by kernel_rfl) ?_
         refine JE.seqN ?_
         refine J.condP rfl (fun hc82 => ?_) (fun hc82 => ?_)
         ·
          refine J.seq ?_
          refine J.reg ?_
          refine WL.rd (RD.assign rfl) rfl rfl ?_
          refine WL.nil ?_
          refine JE.seqN ?_
          refine J.ret ?_
          refine JE.ret rfl (.tmp rfl .nil) (fun w hS => ?_)
          first | (exact CS.fin hS (mk_false (fun h => by obtain ⟨h1, h2, h3, h4, _⟩ := h; first | exact absurd h1 (by assumption) | omega))) | (exact CS.fin hS (mk_false (fun h => by obtain ⟨h1, h2, h3, h4⟩ := h.2.2.2.2.1 i (by omega); unfold brP at h4; first | omega | (have h6 := h3 (by omega); omega)))) | (exact CS.fin hS (mk_false (fun h => by obtain ⟨h1, h2⟩ := h.2.2.2.2.2 c (by omega); omega))) | (exact CS.fin hS (mk_true ⟨hg, hk3, hfl, htl, fun j hj => hI.2 j (by omega), fun j hj => hV.2 j (by omega)⟩))
         ·
          refine J.skip ?_
          refine JE.seqN ?_
          have hgb := gBar hg (pl.getD i default).toNat (by omega)
          have hul := usedL_len n.toNat t i
          have hug := usedL_get n.toNat t i (t.getD i default).toNat (by omega)
          have hct : (t.take i).count (((t.getD i default).toNat : Nat) : Int) ≤ i := Nat.le_trans List.count_le_length (List.length_take_le _ _)
          refine J.reg ?_
          refine WL.rd (RD.move rfl) rfl rfl ?_
          refine WL.rd (RD.fieldC rfl rfl) rfl rfl ?_
          refine WL.rd (RD.loadC rfl rfl) rfl rfl ?_
          refine WL.rd (RD.move rfl) rfl rfl ?_
          refine WL.rd (RD.idx rfl rfl (by omega) rfl) rfl rfl ?_
          refine WL.rd (RD.loadE rfl (by omega) rfl) rfl rfl ?_
          refine WL.rd (RD.idx (j := (t.getD i default).toNat) (hj := ⟨by omega⟩) rfl rfl (by omega) rfl) rfl rfl ?_
          refine WL.rd (RD.loadE rfl (by omega) rfl) rfl rfl ?_
          refine WL.rd (RD.add rfl rfl (by omega) (by omega)) rfl rfl ?_
          refine WL.rd (RD.idx (j := (t.getD i default).toNat) (hj := ⟨by omega⟩) rfl rfl (by omega) rfl) rfl rfl ?_
          refine WL.efN (EF.storeE rfl rfl (by omega) rfl) rfl ?_
          rintro ⟨⟩ -
          refine WL.nil ?_
          refine JE.blockN ?_
          refine JE.seqN ?_
          refine J.reg ?_
          refine WL.rd (RD.add rfl rfl (by omega) (by omega)) rfl rfl ?_
          refine WL.rd (RD.move rfl) rfl rfl ?_
          refine WL.nil ?_
          refine JE.cutN ⟨_, ?_, i + 1, rfl, ?_, rfl, rfl⟩ ?_ ?_
          · omega
          · exact ⟨by omega, fun j hj => (Nat.lt_succ_iff_lt_or_eq.1 hj).elim (hI.2 j) (fun hh => by subst hh; exact ⟨by omega, by omega, fun h0 => by omega, by unfold brP; omega⟩)⟩
          · exact (Sub.consE rfl (by first | rfl | (congr 1; omega) | (simp; done)) (Sub.consE rfl (by first | rfl | (congr 1; omega) | (simp; done)) (Sub.consE rfl (by first | rfl | (congr 1; omega) | (simp; done)) (Sub.consE rfl (by first | rfl | (congr 1; omega) | (simp; done)) (Sub.consE rfl (by first | rfl | (congr 1; omega) | (simp; done)) (Sub.consE rfl (by first | rfl | (congr 1; omega) | (simp; done)) (Sub.consE rfl (by first | rfl | (congr 1; omega) | (simp; done)) .nil)))))))
          · exact (SubM.row rfl rfl (by rw [← usedL_step n.toNat t i (by omega) (by omega) (by omega), List.map_set]; rfl) (SubM.cells rfl (by first | rfl | (simp; done)) (SubM.cells rfl (by first | rfl | (simp; done)) (SubM.ro rfl (by first | rfl | (simp [iv, bv, yv, tv, sv]; done)) (SubM.ro rfl (by first | rfl | (simp [iv, bv, yv, tv, sv]; done)) (SubM.ro rfl (by first | rfl | (simp [iv, bv, yv, tv, sv]; done)) (SubM.ro rfl (by first | rfl | (simp [iv, bv, yv, tv, sv]; done)) .nil)))))))
      ·
       refine J.exit ?_
       refine JE.seqX ?_
       refine JE.cutX ?_
       refine JE.blockHit ?_
       refine JE.seqN ?_
       refine J.seq ?_
       refine J.seq ?_
       refine J.reg ?_
       refine WL.rd (RD.fieldC rfl rfl) rfl rfl ?_
       refine WL.rd (RD.loadC rfl rfl) rfl rfl ?_
       refine WL.rd (RD.lenR rfl) rfl rfl ?_
       refine WL.rd (RD.move rfl) rfl rfl ?_
       refine WL.nil ?_
       refine JE.seqN ?_
       refine J.block ?_
       refine J.loop (fun gg ee mm => ∃ (c : Nat), gg = n.toNat - c ∧ (((c : Int) ≤ n) ∧ (∀ j, j < c → fOk f t k j)) ∧ ee = [(7, v39), (95, vf), (96, .int .i64 (f.length : Int)), (97, .int .i64 (c : Int)), (1, .int .i64 k)] ∧ mm = [.row v39 3 1 ((usedL n.toNat t i).map iv), .cells b5 31 [vf, vt, vp], .cells b3 26 [.int .i64 n, v], .ro v 2 (xs.map bv), .ro vf 1 (f.map iv), .ro vt 1 (t.map iv), .ro vp 1 (pl.map iv)]) _ ⟨0, rfl, ?_, rfl, rfl⟩ ?_ ?_ ?_
       · exact ⟨by omega, fun j hj => by omega⟩
       · exact (Sub.consE rfl (by first | rfl | (congr 1; omega) | (simp; done)) (Sub.consE rfl (by first | rfl | (congr 1; omega) | (simp; done)) (Sub.consE rfl (by first | rfl | (congr 1; omega) | (simp; done)) (Sub.consE rfl (by first | rfl | (congr 1; omega) | (simp; done)) (Sub.consE rfl (by first | rfl | (congr 1; omega) | (simp; done)) .nil)))))
       · exact (SubM.row rfl rfl (by first | rfl | (simp [iv, bv, yv, tv, sv]; done)) (SubM.cells rfl (by first | rfl | (simp; done)) (SubM.cells rfl (by first | rfl | (simp; done)) (SubM.ro rfl (by first | rfl | (simp [iv, bv, yv, tv, sv]; done)) (SubM.ro rfl (by first | rfl | (simp [iv, bv, yv, tv, sv]; done)) (SubM.ro rfl (by first | rfl | (simp [iv, bv, yv, tv, sv]; done)) (SubM.ro rfl (by first | rfl | (simp [iv, bv, yv, tv, sv]; done)) .nil)))))))
       ·
        rintro g _ _ ⟨c, rfl, hV, rfl, rfl⟩
        have hct : t.count (c : Int) ≤ t.length := List.count_le_length
        have hul := usedL_len n.toNat t i
        refine J.seq ?_
        refine J.reg ?_
        refine WL.rd (RD.lss rfl rfl) rfl rfl ?_
        refine WL.nil ?_
        refine JE.seqN ?_
        refine J.seq ?_
        refine J.condP rfl (fun hc98 => ?_) (fun hc98 => ?_)
        ·
         refine J.skip ?_
         refine JE.seqN ?_
         refine J.seq ?_
         refine J.block ?_
         refine J.seq ?_
         refine J.reg ?_
         refine WL.rd (RD.move rfl) rfl rfl ?_
         refine WL.rd (RD.idx rfl rfl (by omega) rfl) rfl rfl ?_
         refine WL.rd (RD.loadE rfl (by omega) rfl) rfl rfl ?_
         refine WL.rd (RD.assign rfl) rfl rfl ?_
         refine WL.rd (RD.assign rfl) rfl rfl ?_
         refine WL.nil ?_
         refine JE.seqN ?_
         refine J.seq ?_
         have hug2 := usedL_get n.toNat t i c (by omega)
         rw [List.take_of_length_le (show t.length ≤ i by omega)] at hug2
         have hpx := plOk_len (xs := xs) (t := t) (pl := pl) (fun j hj => hI.2 j (by omega))
         refine J.reg ?_
         refine WL.rd (RD.move rfl) rfl rfl ?_
         refine WL.rd (RD.lss rfl rfl) rfl rfl ?_
         refine WL.rd (RD.move rfl) rfl rfl ?_
         refine WL.caseP 104 rfl (fun hg104 => ?_) (fun hg104 => ?_)
         ·
          refine WL.noS rfl rfl ?_
          refine WL.noS rfl rfl ?_
          refine WL.noS rfl rfl ?_
          refine WL.noS rfl rfl ?_
          refine WL.noS rfl rfl ?_
          refine WL.noS rfl rfl ?_
          refine WL.noS rfl rfl ?_
          refine WL.noS rfl rfl ?_
          refine WL.rd (RD.pickT rfl rfl) rfl rfl ?_
          refine WL.nil ?_
          refine JE.seqN ?_
          refine J.condT rfl ?_
          refine J.seq ?_
          refine J.reg ?_
          refine WL.rd (RD.assign rfl) rfl rfl ?_
          refine WL.nil ?_
          refine JE.seqN ?_
          refine J.ret ?_
          refine JE.ret rfl (.tmp rfl .nil) (fun w hS => ?_)
          first | (exact CS.fin hS (mk_false (fun h => by obtain ⟨h1, h2, h3, h4, _⟩ := h; first | exact absurd h1 (by assumption) | omega))) | (exact CS.fin hS (mk_false (fun h => by obtain ⟨h1, h2, h3, h4⟩ := h.2.2.2.2.1 i (by omega); unfold brP at h4; first | omega | (have h6 := h3 (by omega); omega)))) | (exact CS.fin hS (mk_false (fun h => by obtain ⟨h1, h2⟩ := h.2.2.2.2.2 c (by omega); omega))) | (exact CS.fin hS (mk_true ⟨hg, hk3, hfl, htl, fun j hj => hI.2 j (by omega), fun j hj => hV.2 j (by omega)⟩))
         ·
          refine WL.rd (RD.move rfl) rfl rfl ?_
          refine WL.rd (RD.move rfl) rfl rfl ?_
          refine WL.rd (RD.move rfl) rfl rfl ?_
          refine WL.rd (RD.move rfl) rfl rfl ?_
          refine WL.rd (RD.idx rfl rfl (by omega) rfl) rfl rfl ?_
          refine WL.rd (RD.loadE rfl (by omega) rfl) rfl rfl ?_
          refine WL.rd (RD.sub rfl rfl (by omega) (by omega)) rfl rfl ?_
          refine WL.rd (RD.neq rfl rfl) rfl rfl ?_
          refine WL.rd (RD.pickF rfl rfl) rfl rfl ?_
          refine WL.nil ?_
          refine JE.seqN ?_
          refine J.condP rfl (fun hc113 => ?_) (fun hc113 => ?_)
          ·
           refine J.seq ?_
           refine J.reg ?_
           refine WL.rd (RD.assign rfl) rfl rfl ?_
           refine WL.nil ?_
           refine JE.seqN ?_
           refine J.ret ?_
           refine JE.ret rfl (.tmp rfl .nil) (fun w hS => ?_)
           first | (exact CS.fin hS (mk_false (fun h => by obtain ⟨h1, h2, h3, h4, _⟩ := h; first | exact absurd h1 (by assumption) | omega))) | (exact CS.fin hS (mk_false (fun h => by obtain ⟨h1, h2, h3, h4⟩ := h.2.2.2.2.1 i (by omega); unfold brP at h4; first | omega | (have h6 := h3 (by omega); omega)))) | (exact CS.fin hS (mk_false (fun h => by obtain ⟨h1, h2⟩ := h.2.2.2.2.2 c (by omega); omega))) | (exact CS.fin hS (mk_true ⟨hg, hk3, hfl, htl, fun j hj => hI.2 j (by omega), fun j hj => hV.2 j (by omega)⟩))
          ·
           refine J.skip ?_
           refine JE.blockN ?_
           refine JE.seqN ?_
           refine J.reg ?_
           refine WL.rd (RD.add rfl rfl (by omega) (by omega)) rfl rfl ?_
           refine WL.rd (RD.move rfl) rfl rfl ?_
           refine WL.nil ?_
           refine JE.cutN ⟨_, ?_, c + 1, rfl, ?_, rfl, rfl⟩ ?_ ?_
           · omega
           · exact ⟨by omega, fun j hj => (Nat.lt_succ_iff_lt_or_eq.1 hj).elim (hV.2 j) (fun hh => by subst hh; exact ⟨by omega, by omega⟩)⟩
           · exact (Sub.consE rfl (by first | rfl | (congr 1; omega) | (simp; done)) (Sub.consE rfl (by first | rfl | (congr 1; omega) | (simp; done)) (Sub.consE rfl (by first | rfl | (congr 1; omega) | (simp; done)) (Sub.consE rfl (by first | rfl | (congr 1; omega) | (simp; done)) (Sub.consE rfl (by first | rfl | (congr 1; omega) | (simp; done)) .nil)))))
           · exact (SubM.row rfl rfl (by first | rfl | (simp [iv, bv, yv, tv, sv]; done)) (SubM.cells rfl (by first | rfl | (simp; done)) (SubM.cells rfl (by first | rfl | (simp; done)) (SubM.ro rfl (by first | rfl | (simp [iv, bv, yv, tv, sv]; done)) (SubM.ro rfl (by first | rfl | (simp [iv, bv, yv, tv, sv]; done)) (SubM.ro rfl (by first | rfl | (simp [iv, bv, yv, tv, sv]; done)) (SubM.ro rfl (by first | rfl | (simp [iv, bv, yv, tv, sv]; done)) .nil)))))))
        ·
         refine J.exit ?_
         refine JE.seqX ?_
         refine JE.cutX ?_
         refine JE.blockHit ?_
         refine JE.seqN ?_
         refine J.seq ?_
         refine J.reg ?_
         refine WL.rd (RD.assign rfl) rfl rfl ?_
         refine WL.nil ?_
         refine JE.seqN ?_
         refine J.ret ?_
         refine JE.ret rfl (.tmp rfl .nil) (fun w hS => ?_)
         first | (exact CS.fin hS (mk_false (fun h => by obtain ⟨h1, h2, h3, h4, _⟩ := h; first | exact absurd h1 (by assumption) | omega))) | (exact CS.fin hS (mk_false (fun h => by obtain ⟨h1, h2, h3, h4⟩ := h.2.2.2.2.1 i (by omega); unfold brP at h4; first | omega | (have h6 := h3 (by omega); omega)))) | (exact CS.fin hS (mk_false (fun h => by obtain ⟨h1, h2⟩ := h.2.2.2.2.2 c (by omega); omega))) | (exact CS.fin hS (mk_true ⟨hg, hk3, hfl, htl, fun j hj => hI.2 j (by omega), fun j hj => hV.2 j (by omega)⟩))

end Go.Proofs.Ytpojkjabngkfgaa
