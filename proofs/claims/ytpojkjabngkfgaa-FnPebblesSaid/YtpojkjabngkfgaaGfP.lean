/- Contracts of functions of the program, each walked once; written by a program of our own. -/
import Derived.Test.YtpojkjabngkfgaaGeP
import Derived.Test.YtpojkjabngkfgaaMs
namespace Go.Proofs.Ytpojkjabngkfgaa
open Go Go.RowKit
set_option maxRecDepth 4000

theorem iFreePebbles_c (vf vt vp : Value) (f t pl : List Int) (w : World) (hrf : Rd w vf 1 (f.map iv)) (hrt : Rd w vt 1 (t.map iv)) (hrp : Rd w vp 1 (pl.map iv)) :
    CS Try.prog 15 [.agg #[vf, vt, vp]] w (.int .i64 (fpI f)) := by
 have hl_f : f.length ≤ 9223372036854775807 := (by obtain ⟨_, _, _, hh, _⟩ := hrf.shape; simpa using hh)
 refine calls_of_J (mu := (fun _ => False)) (m := [.ro vf 1 (f.map iv), .ro vt 1 (t.map iv), .ro vp 1 (pl.map iv)]) (e := [(0, .agg #[vf, vt, vp])]) Try.func15 rfl rfl (.cons rfl .nil) (((((St.init _ _).ro0 hrp (by decide)).ro0 hrt (by decide)).ro0 hrf (by decide))) ?_
 refine J.seq ?_
 refine J.reg ?_
 refine WL.efS (EF.boxA rfl) rfl rfl ?_
 intro b1 _
 refine WL.rd (RD.assign rfl) rfl rfl ?_
 refine WL.nil ?_
 refine JE.seqN ?_
 refine J.seq ?_
 refine J.seq ?_
 refine J.reg ?_
 refine WL.rd (RD.fieldC rfl rfl) rfl rfl ?_
 refine WL.rd (RD.loadC rfl rfl) rfl rfl ?_
 refine WL.rd (RD.lenR rfl) rfl rfl ?_
 refine WL.rd (RD.gtr rfl rfl) rfl rfl ?_
 refine WL.nil ?_
 refine JE.seqN ?_
 refine J.condP rfl (fun hc9 => ?_) (fun hc9 => ?_)
 ·
  refine J.seq ?_
  refine J.reg ?_
  refine WL.rd (RD.assign rfl) rfl rfl ?_
  refine WL.nil ?_
  refine JE.seqN ?_
  refine J.ret ?_
  refine JE.ret rfl (.tmp rfl .nil) (fun w hS => ?_)
  exact CS.fin hS (by unfold fpI; rw [if_neg (by omega)]; rfl)
 ·
  refine J.skip ?_
  refine JE.seqN ?_
  refine J.seq ?_
  refine J.reg ?_
  refine WL.rd (RD.assign rfl) rfl rfl ?_
  refine WL.nil ?_
  refine JE.seqN ?_
  refine J.seq ?_
  refine J.seq ?_
  refine J.reg ?_
  refine WL.rd (RD.fieldC rfl rfl) rfl rfl ?_
  refine WL.rd (RD.loadC rfl rfl) rfl rfl ?_
  refine WL.rd (RD.lenR rfl) rfl rfl ?_
  refine WL.rd (RD.move rfl) rfl rfl ?_
  refine WL.nil ?_
  refine JE.seqN ?_
  refine J.block ?_
  refine J.loop (fun gg ee mm => ∃ (k : Nat), gg = f.length - k ∧ ((k ≤ f.length)) ∧ ee = [(3, .int .i64 (fpS f k)), (11, vf), (12, .int .i64 (f.length : Int)), (13, .int .i64 (k : Int))] ∧ mm = [.cells b1 31 [vf, vt, vp], .ro vf 1 (f.map iv), .ro vt 1 (t.map iv), .ro vp 1 (pl.map iv)]) _ ⟨0, rfl, ?_, rfl, rfl⟩ ?_ ?_ ?_
  · first | omega | trivial | (refine ⟨?_, ?_⟩ <;> first | omega | rfl | simp)
  · exact (Sub.consE rfl (by rw [fpS_zero]) (Sub.consE rfl (by first | rfl | (congr 1; omega) | (simp; done)) (Sub.consE rfl (by first | rfl | (congr 1; omega) | (simp; done)) (Sub.consE rfl (by first | rfl | (congr 1; omega) | (simp; done)) .nil))))
  · exact (SubM.cells rfl (by first | rfl | (simp; done)) (SubM.ro rfl (by first | rfl | (simp [iv, bv, yv, tv, sv]; done)) (SubM.ro rfl (by first | rfl | (simp [iv, bv, yv, tv, sv]; done)) (SubM.ro rfl (by first | rfl | (simp [iv, bv, yv, tv, sv]; done)) .nil))))
  ·
   rintro g _ _ ⟨k, rfl, hI, rfl, rfl⟩
   have hfr := fpS_rng f k hI
   refine J.seq ?_
   refine J.reg ?_
   refine WL.rd (RD.lss rfl rfl) rfl rfl ?_
   refine WL.nil ?_
   refine JE.seqN ?_
   refine J.seq ?_
   refine J.condP rfl (fun hc14 => ?_) (fun hc14 => ?_)
   ·
    refine J.skip ?_
    refine JE.seqN ?_
    refine J.seq ?_
    refine J.block ?_
    refine J.seq ?_
    refine J.reg ?_
    refine WL.rd (RD.idx rfl rfl (by omega) rfl) rfl rfl ?_
    refine WL.rd (RD.loadE rfl (by omega) rfl) rfl rfl ?_
    refine WL.rd (RD.assign rfl) rfl rfl ?_
    refine WL.nil ?_
    refine JE.seqN ?_
    refine J.reg ?_
    refine WL.rd (RD.move rfl) rfl rfl ?_
    refine WL.rd (RD.move rfl) rfl rfl ?_
    refine WL.rd (RD.max rfl rfl) rfl rfl ?_
    refine WL.rd (RD.min rfl rfl) rfl rfl ?_
    refine WL.rd (RD.add rfl rfl (by omega) (by omega)) rfl rfl ?_
    refine WL.rd (RD.assign rfl) rfl rfl ?_
    refine WL.nil ?_
    refine JE.blockN ?_
    refine JE.seqN ?_
    refine J.reg ?_
    refine WL.rd (RD.add rfl rfl (by omega) (by omega)) rfl rfl ?_
    refine WL.rd (RD.move rfl) rfl rfl ?_
    refine WL.nil ?_
    refine JE.cutN ⟨_, ?_, k + 1, rfl, ?_, rfl, rfl⟩ ?_ ?_
    · omega
    · first | omega | trivial | (refine ⟨?_, ?_⟩ <;> first | omega | rfl | simp)
    · exact (Sub.consE rfl (by rw [fpS_succ f k (by omega)] <;> (congr 1; omega)) (Sub.consE rfl (by first | rfl | (congr 1; omega) | (simp; done)) (Sub.consE rfl (by first | rfl | (congr 1; omega) | (simp; done)) (Sub.consE rfl (by first | rfl | (congr 1; omega) | (simp; done)) .nil))))
    · exact (SubM.cells rfl (by first | rfl | (simp; done)) (SubM.ro rfl (by first | rfl | (simp [iv, bv, yv, tv, sv]; done)) (SubM.ro rfl (by first | rfl | (simp [iv, bv, yv, tv, sv]; done)) (SubM.ro rfl (by first | rfl | (simp [iv, bv, yv, tv, sv]; done)) .nil))))
   ·
    refine J.exit ?_
    refine JE.seqX ?_
    refine JE.cutX ?_
    refine JE.blockHit ?_
    refine JE.seqN ?_
    refine J.seq ?_
    refine J.reg ?_
    refine WL.rd (RD.move rfl) rfl rfl ?_
    refine WL.rd (RD.assign rfl) rfl rfl ?_
    refine WL.nil ?_
    refine JE.seqN ?_
    refine J.ret ?_
    refine JE.ret rfl (.tmp rfl .nil) (fun w hS => ?_)
    exact CS.fin hS (by unfold fpI; rw [if_pos (by omega), show f.length = k by omega]; rfl)
theorem sFreePebbles_c (vf vt vp : Value) (f t pl : List Int) (w : World) (hrf : Rd w vf 1 (f.map iv)) (hrt : Rd w vt 1 (t.map iv)) (hrp : Rd w vp 1 (pl.map iv)) :
    CS Try.prog 21 [.agg #[vf, vt, vp]] w (.int .i64 (fpI f)) := by
 have hl_f : f.length ≤ 9223372036854775807 := (by obtain ⟨_, _, _, hh, _⟩ := hrf.shape; simpa using hh)
 refine calls_of_J (mu := (fun _ => False)) (m := [.ro vf 1 (f.map iv), .ro vt 1 (t.map iv), .ro vp 1 (pl.map iv)]) (e := [(0, .agg #[vf, vt, vp])]) Try.func21 rfl rfl (.cons rfl .nil) (((((St.init _ _).ro0 hrp (by decide)).ro0 hrt (by decide)).ro0 hrf (by decide))) ?_
 refine J.seq ?_
 refine J.reg ?_
 refine WL.efS (EF.boxA rfl) rfl rfl ?_
 intro b1 _
 refine WL.rd (RD.assign rfl) rfl rfl ?_
 refine WL.nil ?_
 refine JE.seqN ?_
 refine J.seq ?_
 refine J.reg ?_
 refine WL.rd (RD.assign rfl) rfl rfl ?_
 refine WL.nil ?_
 refine JE.seqN ?_
 refine J.seq ?_
 refine J.seq ?_
 refine J.reg ?_
 refine WL.rd (RD.assign rfl) rfl rfl ?_
 refine WL.nil ?_
 refine JE.seqN ?_
 refine J.block ?_
 refine J.loop (fun gg ee mm => ∃ (k : Nat), gg = f.length - k ∧ ((k ≤ f.length) ∧ (8 < f.length → k = 0)) ∧ ee = [(3, .int .i64 (fpS f k)), (4, .int .i64 (k : Int)), (1, .pointer (some ⟨b1, 0, none⟩))] ∧ mm = [.cells b1 31 [vf, vt, vp], .ro vf 1 (f.map iv), .ro vt 1 (t.map iv), .ro vp 1 (pl.map iv)]) _ ⟨0, rfl, ?_, rfl, rfl⟩ ?_ ?_ ?_
 · exact ⟨by omega, fun _ => rfl⟩
 · exact (Sub.consE rfl (by rw [fpS_zero]) (Sub.consE rfl (by first | rfl | (congr 1; omega) | (simp; done)) (Sub.consE rfl (by first | rfl | (congr 1; omega) | (simp; done)) .nil)))
 · exact (SubM.cells rfl (by first | rfl | (simp; done)) (SubM.ro rfl (by first | rfl | (simp [iv, bv, yv, tv, sv]; done)) (SubM.ro rfl (by first | rfl | (simp [iv, bv, yv, tv, sv]; done)) (SubM.ro rfl (by first | rfl | (simp [iv, bv, yv, tv, sv]; done)) .nil))))
 ·
  rintro g _ _ ⟨k, rfl, hI, rfl, rfl⟩
  have hfr := fpS_rng f k hI.1
  refine J.seq ?_
  refine J.seq ?_
  refine J.reg ?_
  refine WL.rd (RD.move rfl) rfl rfl ?_
  refine WL.rd (RD.fieldC rfl rfl) rfl rfl ?_
  refine WL.rd (RD.loadC rfl rfl) rfl rfl ?_
  refine WL.rd (RD.lenR rfl) rfl rfl ?_
  refine WL.rd (RD.lss rfl rfl) rfl rfl ?_
  refine WL.rd (RD.move rfl) rfl rfl ?_
  refine WL.caseP 10 rfl (fun hg10 => ?_) (fun hg10 => ?_)
  ·
   refine WL.rd (RD.fieldC rfl rfl) rfl rfl ?_
   refine WL.rd (RD.loadC rfl rfl) rfl rfl ?_
   refine WL.rd (RD.lenR rfl) rfl rfl ?_
   refine WL.rd (RD.leq rfl rfl) rfl rfl ?_
   refine WL.rd (RD.pickT rfl rfl) rfl rfl ?_
   refine WL.nil ?_
   refine JE.seqN ?_
   refine J.condP rfl (fun hc15 => ?_) (fun hc15 => ?_)
   ·
    refine J.skip ?_
    refine JE.seqN ?_
    refine J.seq ?_
    refine J.block ?_
    refine J.reg ?_
    refine WL.rd (RD.move rfl) rfl rfl ?_
    refine WL.rd (RD.fieldC rfl rfl) rfl rfl ?_
    refine WL.rd (RD.loadC rfl rfl) rfl rfl ?_
    refine WL.rd (RD.move rfl) rfl rfl ?_
    refine WL.rd (RD.idx rfl rfl (by omega) rfl) rfl rfl ?_
    refine WL.rd (RD.loadE rfl (by omega) rfl) rfl rfl ?_
    refine WL.rd (RD.min rfl rfl) rfl rfl ?_
    refine WL.rd (RD.max rfl rfl) rfl rfl ?_
    refine WL.rd (RD.add rfl rfl (by omega) (by omega)) rfl rfl ?_
    refine WL.rd (RD.assign rfl) rfl rfl ?_
    refine WL.nil ?_
    refine JE.blockN ?_
    refine JE.seqN ?_
    refine J.reg ?_
    refine WL.rd (RD.move rfl) rfl rfl ?_
    refine WL.rd (RD.add rfl rfl (by omega) (by omega)) rfl rfl ?_
    refine WL.rd (RD.assign rfl) rfl rfl ?_
    refine WL.nil ?_
    refine JE.cutN ⟨_, ?_, k + 1, rfl, ?_, rfl, rfl⟩ ?_ ?_
    · omega
    · exact ⟨by omega, fun h => by omega⟩
    · exact (Sub.consE rfl (by rw [fpS_succ f k (by omega)] <;> (congr 1; omega)) (Sub.consE rfl (by first | rfl | (congr 1; omega) | (simp; done)) (Sub.consE rfl (by first | rfl | (congr 1; omega) | (simp; done)) .nil)))
    · exact (SubM.cells rfl (by first | rfl | (simp; done)) (SubM.ro rfl (by first | rfl | (simp [iv, bv, yv, tv, sv]; done)) (SubM.ro rfl (by first | rfl | (simp [iv, bv, yv, tv, sv]; done)) (SubM.ro rfl (by first | rfl | (simp [iv, bv, yv, tv, sv]; done)) .nil))))
   ·
    refine J.exit ?_
    refine JE.seqX ?_
    refine JE.cutX ?_
    refine JE.blockHit ?_
    refine JE.seqN ?_
    refine J.seq ?_
    refine J.reg ?_
    refine WL.rd (RD.move rfl) rfl rfl ?_
    refine WL.rd (RD.assign rfl) rfl rfl ?_
    refine WL.nil ?_
    refine JE.seqN ?_
    refine J.ret ?_
    refine JE.ret rfl (.tmp rfl .nil) (fun w hS => ?_)
    first | exact CS.fin hS (by unfold fpI; rw [if_pos (by omega), show f.length = k by omega]; rfl) | (have hk0 : k = 0 := (by first | omega | exact hI.2 (by omega)); subst hk0; exact CS.fin hS (by unfold fpI; rw [if_neg (by omega), fpS_zero]; rfl))
  ·
   refine WL.noS rfl rfl ?_
   refine WL.noS rfl rfl ?_
   refine WL.noS rfl rfl ?_
   refine WL.noS rfl rfl ?_
   refine WL.rd (RD.pickF rfl rfl) rfl rfl ?_
   refine WL.nil ?_
   refine JE.seqN ?_
   refine J.condF rfl ?_
   refine J.exit ?_
   refine JE.seqX ?_
   refine JE.cutX ?_
   refine JE.blockHit ?_
   refine JE.seqN ?_
   refine J.seq ?_
   refine J.reg ?_
   refine WL.rd (RD.move rfl) rfl rfl ?_
   refine WL.rd (RD.assign rfl) rfl rfl ?_
   refine WL.nil ?_
   refine JE.seqN ?_
   refine J.ret ?_
   refine JE.ret rfl (.tmp rfl .nil) (fun w hS => ?_)
   first | exact CS.fin hS (by unfold fpI; rw [if_pos (by omega), show f.length = k by omega]; rfl) | (have hk0 : k = 0 := (by first | omega | exact hI.2 (by omega)); subst hk0; exact CS.fin hS (by unfold fpI; rw [if_neg (by omega), fpS_zero]; rfl))
theorem iNewPebbles_c (n : Int) (v : Value) (xs : List (Int × Int)) (k : Int) (w : World) (hr : Rd w v 2 (xs.map bv)) :
    CN Try.prog 26 [.agg #[.int .i64 n, v], .int .i64 k] w (Value × Value × Value) (fun _ => True) (fun x => .tuple #[.agg #[x.1, x.2.1, x.2.2], .bool (decide (isG n xs ∧ 1 ≤ k ∧ k ≤ 3))]) (fun x => [.row x.1 3 1 ((if (isG n xs ∧ 1 ≤ k ∧ k ≤ 3) then List.replicate n.toNat k else []).map iv), .row x.2.1 3 1 (([] : List Int).map iv), .row x.2.2 3 1 (([] : List Int).map iv)]) := by
 have hl_xs : xs.length ≤ 9223372036854775807 := (by obtain ⟨_, _, _, hh, _⟩ := hr.shape; simpa using hh)
 refine calls_of_J (mu := (fun _ => False)) (m := [.ro v 2 (xs.map bv)]) (e := [(0, .agg #[.int .i64 n, v]), (1, .int .i64 k)]) Try.func26 rfl rfl (.cons rfl (.cons rfl .nil)) (((St.init _ _).ro0 hr (by decide))) ?_
 refine J.seq ?_
 refine J.reg ?_
 refine WL.efS (EF.boxA rfl) rfl rfl ?_
 intro b2 _
 refine WL.efS (EF.allocA) rfl rfl ?_
 intro b4 _
 refine WL.rd (RD.assign rfl) rfl rfl ?_
 refine WL.nil ?_
 refine JE.seqN ?_
 refine J.seq ?_
 refine J.seq ?_
 refine J.nilRow 3 1 ?_
 refine J.nilRow 3 1 ?_
 refine J.nilRow 3 1 ?_
 refine J.reg ?_
 refine WL.rd (RD.loadA rfl rfl) rfl rfl ?_
 refine WL.efS (EF.callS (.cons rfl .nil) (fun w hS => iIsGraph_c _ _ _ _ (by exact RdI.rd hS))) rfl rfl ?_
 rintro ⟨⟩ -
 refine WL.rd (RD.notP rfl) rfl rfl ?_
 refine WL.rd (RD.move rfl) rfl rfl ?_
 refine WL.caseP 10 rfl (fun hg10 => ?_) (fun hg10 => ?_)
 ·
  refine WL.noS rfl rfl ?_
  refine WL.noS rfl rfl ?_
  refine WL.noS rfl rfl ?_
  refine WL.rd (RD.pickT rfl rfl) rfl rfl ?_
  refine WL.nil ?_
  refine JE.seqN ?_
  refine J.condT rfl ?_
  refine J.seq ?_
  refine J.reg ?_
  refine WL.rd (RD.build (n := 3) .nil rfl) rfl rfl ?_
  refine WL.efN (EF.storeA rfl rfl rfl rfl) rfl ?_
  rintro ⟨⟩ -
  refine WL.rd (RD.assign rfl) rfl rfl ?_
  refine WL.nil ?_
  refine JE.seqN ?_
  refine J.ret ?_
  refine JE.ret rfl (ResL.flat rfl rfl (.tmp rfl .nil)) (fun w hS => ?_)
  have hno : ¬ (isG n xs ∧ 1 ≤ k ∧ k ≤ 3) := by rintro ⟨h1, h2⟩; first | exact absurd h1 (by assumption) | omega
  exact CN.fin hS (.slice none 0 0, .slice none 0 0, .slice none 0 0) (by rw [decide_eq_false hno]; rfl) trivial (SubM.row rfl rfl (by rw [if_neg hno]; rfl) (SubM.row rfl rfl rfl (SubM.row rfl rfl rfl .nil))) (by simp [En.rdb])
 ·
  refine WL.rd (RD.move rfl) rfl rfl ?_
  refine WL.efS (EF.callS (.cons rfl (.cons rfl (.cons rfl .nil))) (fun w hS => within_c _ _ _ _)) rfl rfl ?_
  rintro ⟨⟩ -
  refine WL.rd (RD.notP rfl) rfl rfl ?_
  refine WL.rd (RD.pickF rfl rfl) rfl rfl ?_
  refine WL.nil ?_
  refine JE.seqN ?_
  refine J.condP rfl (fun hc14 => ?_) (fun hc14 => ?_)
  ·
   refine J.seq ?_
   refine J.reg ?_
   refine WL.rd (RD.build (n := 3) .nil rfl) rfl rfl ?_
   refine WL.efN (EF.storeA rfl rfl rfl rfl) rfl ?_
   rintro ⟨⟩ -
   refine WL.rd (RD.assign rfl) rfl rfl ?_
   refine WL.nil ?_
   refine JE.seqN ?_
   refine J.ret ?_
   refine JE.ret rfl (ResL.flat rfl rfl (.tmp rfl .nil)) (fun w hS => ?_)
   have hno : ¬ (isG n xs ∧ 1 ≤ k ∧ k ≤ 3) := by rintro ⟨h1, h2⟩; first | exact absurd h1 (by assumption) | omega
   exact CN.fin hS (.slice none 0 0, .slice none 0 0, .slice none 0 0) (by rw [decide_eq_false hno]; rfl) trivial (SubM.row rfl rfl (by rw [if_neg hno]; rfl) (SubM.row rfl rfl rfl (SubM.row rfl rfl rfl .nil))) (by simp [En.rdb])
  ·
   refine J.skip ?_
   refine JE.seqN ?_
   refine J.seq ?_
   have hg := Decidable.not_not.1 hg10
   have h12 := hg.1
   have h13 := hg.2.1
   refine J.reg ?_
   refine WL.rd (RD.build (n := 3) .nil rfl) rfl rfl ?_
   refine WL.efS (EF.allocA) rfl rfl ?_
   intro b6 _
   refine WL.efN (EF.storeA rfl rfl rfl rfl) rfl ?_
   rintro ⟨⟩ -
   refine WL.nil ?_
   refine JE.seqN ?_
   refine J.seq ?_
   refine J.seq ?_
   refine J.reg ?_
   refine WL.rd (RD.fieldC rfl rfl) rfl rfl ?_
   refine WL.rd (RD.loadC rfl rfl) rfl rfl ?_
   refine WL.rd (RD.move rfl) rfl rfl ?_
   refine WL.nil ?_
   refine JE.seqN ?_
   refine J.block ?_
   refine J.loop (fun gg ee mm => ∃ (c : Nat), ∃ (u : Value), gg = n.toNat - c ∧ (((c : Int) ≤ n)) ∧ ee = [(18, .int .i64 n), (19, .int .i64 (c : Int)), (1, .int .i64 k), (4, .pointer (some ⟨b4, 0, none⟩)), (6, .pointer (some ⟨b6, 0, none⟩))] ∧ mm = [.cells b6 31 [u, .slice none 0 0, .slice none 0 0], .row u 3 1 ((List.replicate c k).map iv), .row (.slice none 0 0) 3 1 [], .row (.slice none 0 0) 3 1 [], .cells b4 31 [.slice none 0 0, .slice none 0 0, .slice none 0 0]]) _ ⟨0, .slice none 0 0, rfl, ?_, rfl, rfl⟩ ?_ ?_ ?_
   · omega
   · exact (Sub.consE rfl (by first | rfl | (congr 1; omega) | (simp; done)) (Sub.consE rfl (by first | rfl | (congr 1; omega) | (simp; done)) (Sub.consE rfl (by first | rfl | (congr 1; omega) | (simp; done)) (Sub.consE rfl (by first | rfl | (congr 1; omega) | (simp; done)) (Sub.consE rfl (by first | rfl | (congr 1; omega) | (simp; done)) .nil)))))
   · exact (SubM.cells rfl (by first | rfl | (simp; done)) (SubM.row rfl rfl (by first | rfl | (simp [iv, bv, yv, tv, sv]; done)) (SubM.row rfl rfl (by first | rfl | (simp [iv, bv, yv, tv, sv]; done)) (SubM.row rfl rfl (by first | rfl | (simp [iv, bv, yv, tv, sv]; done)) (SubM.cells rfl (by first | rfl | (simp; done)) .nil)))))
   ·
    rintro g _ _ ⟨c, u, rfl, hI, rfl, rfl⟩
    refine J.seq ?_
    refine J.reg ?_
    refine WL.rd (RD.lss rfl rfl) rfl rfl ?_
    refine WL.nil ?_
    refine JE.seqN ?_
    refine J.seq ?_
    refine J.condP rfl (fun hc20 => ?_) (fun hc20 => ?_)
    ·
     refine J.skip ?_
     refine JE.seqN ?_
     refine J.seq ?_
     refine J.block ?_
     refine J.reg ?_
     refine WL.rd (RD.fieldC rfl rfl) rfl rfl ?_
     refine WL.rd (RD.loadC rfl rfl) rfl rfl ?_
     refine WL.rd (RD.move rfl) rfl rfl ?_
     refine WL.efS (EF.build1 rfl) rfl rfl ?_
     intro v24 _
     refine WL.efS (EF.append rfl rfl (by omega) rfl rfl rfl) rfl rfl ?_
     intro v25 _
     refine WL.rd (RD.fieldC rfl rfl) rfl rfl ?_
     refine WL.efN (EF.storeC rfl rfl rfl) rfl ?_
     rintro ⟨⟩ -
     refine WL.nil ?_
     refine JE.blockN ?_
     refine JE.seqN ?_
     refine J.reg ?_
     refine WL.rd (RD.add rfl rfl (by omega) (by omega)) rfl rfl ?_
     refine WL.rd (RD.move rfl) rfl rfl ?_
     refine WL.nil ?_
     refine JE.cutN ⟨_, ?_, c + 1, v25, rfl, ?_, rfl, rfl⟩ ?_ ?_
     · omega
     · omega
     · exact (Sub.consE rfl (by first | rfl | (congr 1; omega) | (simp; done)) (Sub.consE rfl (by first | rfl | (congr 1; omega) | (simp; done)) (Sub.consE rfl (by first | rfl | (congr 1; omega) | (simp; done)) (Sub.consE rfl (by first | rfl | (congr 1; omega) | (simp; done)) (Sub.consE rfl (by first | rfl | (congr 1; omega) | (simp; done)) .nil)))))
     · exact (SubM.cells rfl (by first | rfl | (simp; done)) (SubM.row rfl rfl (by rw [List.replicate_succ']) (SubM.row rfl rfl (by first | rfl | (simp [iv, bv, yv, tv, sv]; done)) (SubM.row rfl rfl (by first | rfl | (simp [iv, bv, yv, tv, sv]; done)) (SubM.cells rfl (by first | rfl | (simp; done)) .nil)))))
    ·
     refine J.exit ?_
     refine JE.seqX ?_
     refine JE.cutX ?_
     refine JE.blockHit ?_
     refine JE.seqN ?_
     refine J.seq ?_
     refine J.reg ?_
     refine WL.rd (RD.loadA rfl rfl) rfl rfl ?_
     refine WL.efN (EF.storeA rfl rfl rfl rfl) rfl ?_
     rintro ⟨⟩ -
     refine WL.rd (RD.assign rfl) rfl rfl ?_
     refine WL.nil ?_
     refine JE.seqN ?_
     refine J.ret ?_
     refine JE.ret rfl (ResL.flat rfl rfl (.tmp rfl .nil)) (fun w hS => ?_)
     have hyes : isG n xs ∧ 1 ≤ k ∧ k ≤ 3 := ⟨Decidable.not_not.1 hg10, by omega⟩
     exact CN.fin hS (u, .slice none 0 0, .slice none 0 0) (by rw [decide_eq_true hyes]; rfl) trivial (SubM.row rfl rfl (by rw [if_pos hyes, show n.toNat = c by omega]) (SubM.row rfl rfl rfl (SubM.row rfl rfl rfl .nil))) (by simp [En.rdb])
theorem sNewPebbles_c (n : Int) (v : Value) (xs : List (Int × Int)) (k : Int) (w : World) (hr : Rd w v 2 (xs.map bv)) :
    CN Try.prog 27 [.agg #[.int .i64 n, v], .int .i64 k] w (Value × Value × Value) (fun _ => True) (fun x => .tuple #[.agg #[x.1, x.2.1, x.2.2], .bool (decide (isG n xs ∧ 1 ≤ k ∧ k ≤ 3))]) (fun x => [.row x.1 3 1 ((if (isG n xs ∧ 1 ≤ k ∧ k ≤ 3) then List.replicate n.toNat k else []).map iv), .row x.2.1 3 1 (([] : List Int).map iv), .row x.2.2 3 1 (([] : List Int).map iv)]) := by
 have hl_xs : xs.length ≤ 9223372036854775807 := (by obtain ⟨_, _, _, hh, _⟩ := hr.shape; simpa using hh)
 refine calls_of_J (mu := (fun _ => False)) (m := [.ro v 2 (xs.map bv)]) (e := [(0, .agg #[.int .i64 n, v]), (1, .int .i64 k)]) Try.func27 rfl rfl (.cons rfl (.cons rfl .nil)) (((St.init _ _).ro0 hr (by decide))) ?_
 refine J.seq ?_
 refine J.reg ?_
 refine WL.efS (EF.boxA rfl) rfl rfl ?_
 intro b2 _
 refine WL.efS (EF.allocA) rfl rfl ?_
 intro b4 _
 refine WL.rd (RD.assign rfl) rfl rfl ?_
 refine WL.nil ?_
 refine JE.seqN ?_
 refine J.seq ?_
 refine J.nilRow 3 1 ?_
 refine J.nilRow 3 1 ?_
 refine J.nilRow 3 1 ?_
 refine J.reg ?_
 refine WL.efS (EF.build0) rfl rfl ?_
 intro v8 _
 refine WL.efS (EF.build0) rfl rfl ?_
 intro v9 _
 refine WL.efS (EF.build0) rfl rfl ?_
 intro v10 _
 refine WL.rd (RD.build (n := 3) (.cons rfl (.cons rfl (.cons rfl .nil))) rfl) rfl rfl ?_
 refine WL.efS (EF.allocA) rfl rfl ?_
 intro b6 _
 refine WL.efN (EF.storeA rfl rfl rfl rfl) rfl ?_
 rintro ⟨⟩ -
 refine WL.nil ?_
 refine JE.seqN ?_
 refine J.seq ?_
 refine J.seq ?_
 refine J.reg ?_
 refine WL.rd (RD.loadA rfl rfl) rfl rfl ?_
 refine WL.efS (EF.callS (.cons rfl .nil) (fun w hS => sIsGraph_c _ _ _ _ (by exact RdI.rd hS))) rfl rfl ?_
 rintro ⟨⟩ -
 refine WL.rd (RD.notP rfl) rfl rfl ?_
 refine WL.rd (RD.move rfl) rfl rfl ?_
 refine WL.caseP 15 rfl (fun hg15 => ?_) (fun hg15 => ?_)
 ·
  refine WL.noS rfl rfl ?_
  refine WL.noS rfl rfl ?_
  refine WL.noS rfl rfl ?_
  refine WL.rd (RD.pickT rfl rfl) rfl rfl ?_
  refine WL.nil ?_
  refine JE.seqN ?_
  refine J.condT rfl ?_
  refine J.seq ?_
  refine J.reg ?_
  refine WL.rd (RD.build (n := 3) .nil rfl) rfl rfl ?_
  refine WL.efN (EF.storeA rfl rfl rfl rfl) rfl ?_
  rintro ⟨⟩ -
  refine WL.rd (RD.assign rfl) rfl rfl ?_
  refine WL.nil ?_
  refine JE.seqN ?_
  refine J.ret ?_
  refine JE.ret rfl (ResL.flat rfl rfl (.tmp rfl .nil)) (fun w hS => ?_)
  have hno : ¬ (isG n xs ∧ 1 ≤ k ∧ k ≤ 3) := by rintro ⟨h1, h2⟩; first | exact absurd h1 (by assumption) | omega
  exact CN.fin hS (.slice none 0 0, .slice none 0 0, .slice none 0 0) (by rw [decide_eq_false hno]; rfl) trivial (SubM.row rfl rfl (by rw [if_neg hno]; rfl) (SubM.row rfl rfl rfl (SubM.row rfl rfl rfl .nil))) (by simp [En.rdb])
 ·
  refine WL.rd (RD.move rfl) rfl rfl ?_
  refine WL.efS (EF.callS (.cons rfl (.cons rfl (.cons rfl .nil))) (fun w hS => l1In_c _ _ _ _)) rfl rfl ?_
  rintro ⟨⟩ -
  refine WL.rd (RD.notP rfl) rfl rfl ?_
  refine WL.rd (RD.pickF rfl rfl) rfl rfl ?_
  refine WL.nil ?_
  refine JE.seqN ?_
  refine J.condP rfl (fun hc19 => ?_) (fun hc19 => ?_)
  ·
   refine J.seq ?_
   refine J.reg ?_
   refine WL.rd (RD.build (n := 3) .nil rfl) rfl rfl ?_
   refine WL.efN (EF.storeA rfl rfl rfl rfl) rfl ?_
   rintro ⟨⟩ -
   refine WL.rd (RD.assign rfl) rfl rfl ?_
   refine WL.nil ?_
   refine JE.seqN ?_
   refine J.ret ?_
   refine JE.ret rfl (ResL.flat rfl rfl (.tmp rfl .nil)) (fun w hS => ?_)
   have hno : ¬ (isG n xs ∧ 1 ≤ k ∧ k ≤ 3) := by rintro ⟨h1, h2⟩; first | exact absurd h1 (by assumption) | omega
   exact CN.fin hS (.slice none 0 0, .slice none 0 0, .slice none 0 0) (by rw [decide_eq_false hno]; rfl) trivial (SubM.row rfl rfl (by rw [if_neg hno]; rfl) (SubM.row rfl rfl rfl (SubM.row rfl rfl rfl .nil))) (by simp [En.rdb])
  ·
   refine J.skip ?_
   refine JE.seqN ?_
   refine J.seq ?_
   refine J.seq ?_
   have hg := Decidable.not_not.1 hg15
   have h12 := hg.1
   have h13 := hg.2.1
   refine J.reg ?_
   refine WL.rd (RD.assign rfl) rfl rfl ?_
   refine WL.nil ?_
   refine JE.seqN ?_
   refine J.block ?_
   refine J.loop (fun gg ee mm => ∃ (c : Nat), ∃ (u : Value), gg = n.toNat - c ∧ (((c : Int) ≤ n)) ∧ ee = [(7, .int .i64 (c : Int)), (1, .int .i64 k), (2, .pointer (some ⟨b2, 0, none⟩)), (4, .pointer (some ⟨b4, 0, none⟩)), (6, .pointer (some ⟨b6, 0, none⟩))] ∧ mm = [.cells b6 31 [u, v9, v10], .row u 3 1 ((List.replicate c k).map iv), .row v9 3 1 [], .row v10 3 1 [], .cells b2 26 [.int .i64 n, v], .cells b4 31 [.slice none 0 0, .slice none 0 0, .slice none 0 0]]) _ ⟨0, v8, rfl, ?_, rfl, rfl⟩ ?_ ?_ ?_
   · omega
   · exact (Sub.consE rfl (by first | rfl | (congr 1; omega) | (simp; done)) (Sub.consE rfl (by first | rfl | (congr 1; omega) | (simp; done)) (Sub.consE rfl (by first | rfl | (congr 1; omega) | (simp; done)) (Sub.consE rfl (by first | rfl | (congr 1; omega) | (simp; done)) (Sub.consE rfl (by first | rfl | (congr 1; omega) | (simp; done)) .nil)))))
   · exact (SubM.cells rfl (by first | rfl | (simp; done)) (SubM.row rfl rfl (by first | rfl | (simp [iv, bv, yv, tv, sv]; done)) (SubM.row rfl rfl (by first | rfl | (simp [iv, bv, yv, tv, sv]; done)) (SubM.row rfl rfl (by first | rfl | (simp [iv, bv, yv, tv, sv]; done)) (SubM.cells rfl (by first | rfl | (simp; done)) (SubM.cells rfl (by first | rfl | (simp; done)) .nil))))))
   ·
    rintro g _ _ ⟨c, u, rfl, hI, rfl, rfl⟩
    refine J.seq ?_
    refine J.seq ?_
    refine J.reg ?_
    refine WL.rd (RD.move rfl) rfl rfl ?_
    refine WL.rd (RD.fieldC rfl rfl) rfl rfl ?_
    refine WL.rd (RD.loadC rfl rfl) rfl rfl ?_
    refine WL.rd (RD.lss rfl rfl) rfl rfl ?_
    refine WL.nil ?_
    refine JE.seqN ?_
    refine J.condP rfl (fun hc24 => ?_) (fun hc24 => ?_)
    ·
     refine J.skip ?_
     refine JE.seqN ?_
     refine J.seq ?_
     refine J.block ?_
     refine J.reg ?_
     refine WL.rd (RD.fieldC rfl rfl) rfl rfl ?_
     refine WL.rd (RD.loadC rfl rfl) rfl rfl ?_
     refine WL.rd (RD.move rfl) rfl rfl ?_
     refine WL.efS (EF.build1 rfl) rfl rfl ?_
     intro v30 _
     refine WL.efS (EF.append rfl rfl (by omega) rfl rfl rfl) rfl rfl ?_
     intro v31 _
     refine WL.rd (RD.fieldC rfl rfl) rfl rfl ?_
     refine WL.efN (EF.storeC rfl rfl rfl) rfl ?_
     rintro ⟨⟩ -
     refine WL.nil ?_
     refine JE.blockN ?_
     refine JE.seqN ?_
     refine J.reg ?_
     refine WL.rd (RD.move rfl) rfl rfl ?_
     refine WL.rd (RD.add rfl rfl (by omega) (by omega)) rfl rfl ?_
     refine WL.rd (RD.assign rfl) rfl rfl ?_
     refine WL.nil ?_
     refine JE.cutN ⟨_, ?_, c + 1, v31, rfl, ?_, rfl, rfl⟩ ?_ ?_
     · omega
     · omega
     · exact (Sub.consE rfl (by first | rfl | (congr 1; omega) | (simp; done)) (Sub.consE rfl (by first | rfl | (congr 1; omega) | (simp; done)) (Sub.consE rfl (by first | rfl | (congr 1; omega) | (simp; done)) (Sub.consE rfl (by first | rfl | (congr 1; omega) | (simp; done)) (Sub.consE rfl (by first | rfl | (congr 1; omega) | (simp; done)) .nil)))))
     · exact (SubM.cells rfl (by first | rfl | (simp; done)) (SubM.row rfl rfl (by rw [List.replicate_succ']) (SubM.row rfl rfl (by first | rfl | (simp [iv, bv, yv, tv, sv]; done)) (SubM.row rfl rfl (by first | rfl | (simp [iv, bv, yv, tv, sv]; done)) (SubM.cells rfl (by first | rfl | (simp; done)) (SubM.cells rfl (by first | rfl | (simp; done)) .nil))))))
    ·
     refine J.exit ?_
     refine JE.seqX ?_
     refine JE.cutX ?_
     refine JE.blockHit ?_
     refine JE.seqN ?_
     refine J.seq ?_
     refine J.reg ?_
     refine WL.rd (RD.loadA rfl rfl) rfl rfl ?_
     refine WL.efN (EF.storeA rfl rfl rfl rfl) rfl ?_
     rintro ⟨⟩ -
     refine WL.rd (RD.assign rfl) rfl rfl ?_
     refine WL.nil ?_
     refine JE.seqN ?_
     refine J.ret ?_
     refine JE.ret rfl (ResL.flat rfl rfl (.tmp rfl .nil)) (fun w hS => ?_)
     have hyes : isG n xs ∧ 1 ≤ k ∧ k ≤ 3 := ⟨Decidable.not_not.1 hg15, by omega⟩
     exact CN.fin hS (u, v9, v10) (by rw [decide_eq_true hyes]; rfl) trivial (SubM.row rfl rfl (by rw [if_pos hyes, show n.toNat = c by omega]) (SubM.row rfl rfl rfl (SubM.row rfl rfl rfl .nil))) (by simp [En.rdb])

end Go.Proofs.Ytpojkjabngkfgaa
