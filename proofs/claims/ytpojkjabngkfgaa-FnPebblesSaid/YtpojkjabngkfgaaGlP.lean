/- Contracts of functions of the program, each walked once; written by a program of our own. -/
import Derived.Test.YtpojkjabngkfgaaGkP
namespace Go.Proofs.Ytpojkjabngkfgaa
open Go Go.RowKit
set_option maxRecDepth 4000

theorem l4Shift_c (n : Nat) (k : Int) (v : Value) (xs : List (Int × Int)) (vf vt vp : Value) (f t pl : List Int) (vr : Value) (s : FSt) (a u : Int) (w : World) (hn : n ≤ 8) (hk : k ≤ 3) (hxl : xs.length ≤ 1048576) (hp : okP n k xs ⟨f, t, pl⟩) (hr : Rd w v 2 (xs.map bv)) (hrf : Rd w vf 1 (f.map iv)) (hrt : Rd w vt 1 (t.map iv)) (hrp : Rd w vp 1 (pl.map iv)) (hrr : Rd w vr 1 (s.fr.map iv)) (ha : 0 ≤ a ∧ a < n) (hu : 0 ≤ u ∧ u < n) (hWF : WF n xs t pl a s) (hq : lastQ s = u) :
    CN Try.prog 69 [.agg #[.int .i64 (n : Int), v], .agg #[vf, vt, vp], vr, .int .i64 a, .int .i64 u] w (Value × Value × Value) (fun _ => True) (fun x => .agg #[x.1, x.2.1, x.2.2]) (fun x => [.row x.1 3 1 (((shiftP n (⟨f, t, pl⟩ : PS) s a).f).map iv), .row x.2.1 3 1 (((shiftP n (⟨f, t, pl⟩ : PS) s a).t).map iv), .row x.2.2 3 1 (((shiftP n (⟨f, t, pl⟩ : PS) s a).pl).map iv)]) := by
 have hl_xs : xs.length ≤ 9223372036854775807 := (by obtain ⟨_, _, _, hh, _⟩ := hr.shape; simpa using hh)
 have hfl : f.length = n := hp.fl
 have htl : t.length = pl.length := hp.pv.tl
 have hpx : pl.length ≤ xs.length := asc_len hp
 have hfu := fv_rng hp hu.1 hu.2
 have hfa := fv_rng hp ha.1 ha.2
 simp only [gI] at hfu hfa
 have hfrl := hWF.fl
 have hfp := found_path hp hWF
 rw [hq] at hfp
 refine calls_of_J (mu := (fun _ => False)) (m := [.ro v 2 (xs.map bv), .ro vf 1 (f.map iv), .ro vt 1 (t.map iv), .ro vp 1 (pl.map iv), .ro vr 1 (s.fr.map iv)]) (e := [(0, .agg #[.int .i64 (n : Int), v]), (1, .agg #[vf, vt, vp]), (2, vr), (3, .int .i64 a), (4, .int .i64 u)]) Try.func69 rfl rfl (.cons rfl (.cons rfl (.cons rfl (.cons rfl (.cons rfl .nil))))) (((((((St.init _ _).ro0 hrr (by decide)).ro0 hrp (by decide)).ro0 hrt (by decide)).ro0 hrf (by decide)).ro0 hr (by decide))) ?_
 refine J.seq ?_
 refine J.reg ?_
 refine WL.efS (EF.boxA rfl) rfl rfl ?_
 intro b5 _
 refine WL.efS (EF.boxA rfl) rfl rfl ?_
 intro b6 _
 refine WL.efS (EF.allocA) rfl rfl ?_
 intro b10 _
 refine WL.nil ?_
 refine JE.seqN ?_
 refine J.seq ?_
 refine J.reg ?_
 refine WL.rd (RD.loadA rfl rfl) rfl rfl ?_
 refine WL.efS (EF.callN (.cons rfl .nil) (fun w hS => l4Copy_c _ _ _ _ _ _ _ (by exact RdI.rd hS) (by exact RdI.rd hS) (by exact RdI.rd hS) (by omega) (by omega) (by omega))) rfl rfl ?_
 rintro ⟨f16, t16, p16⟩ -
 refine WL.efS (EF.allocA) rfl rfl ?_
 intro b11 _
 refine WL.efN (EF.storeA rfl rfl rfl rfl) rfl ?_
 rintro ⟨⟩ -
 refine WL.nil ?_
 refine JE.seqN ?_
 refine J.seq ?_
 refine J.anyAll [10] ?_
 refine WA.takeP 0 rfl (RDP.of fun _ => RD.fieldC rfl rfl) rfl (by kernel_rfl) rfl ?_
 refine WA.take 1 rfl (RD.loadC rfl rfl) rfl (by kernel_rfl) rfl ?_
 refine WA.takeP 2 rfl (RDP.of fun _ => RD.move rfl) rfl (by kernel_rfl) rfl ?_
 refine WA.takeP 3 rfl (RDP.of fun _ => RD.fieldC rfl rfl) rfl (by kernel_rfl) rfl ?_
 refine WA.take 4 rfl (RD.loadC rfl rfl) rfl (by kernel_rfl) rfl ?_
 refine WA.takeP 5 rfl (RDP.of fun _ => RD.move rfl) rfl (by kernel_rfl) rfl ?_
 refine WA.takeP 6 rfl (RDP.idx (j := u.toNat) (hj := ⟨by omega⟩) rfl rfl (by omega) rfl) rfl (by kernel_rfl) rfl ?_
 refine WA.take 7 rfl (RD.loadE rfl (by omega) rfl) rfl (by kernel_rfl) rfl ?_
 refine WA.takeP 8 rfl (RDP.of fun _ => RD.sub rfl rfl (by omega) (by omega)) rfl (by kernel_rfl) rfl ?_
 refine WA.takeP 9 rfl (RDP.idx (j := u.toNat) (hj := ⟨by omega⟩) rfl rfl (by omega) rfl) rfl (by kernel_rfl) rfl ?_
 refine WA.one (i := 10) (by kernel_rfl) ?_
 refine WAi.efNL rfl (EF.storeI rfl rfl (by omega) rfl rfl) rfl rfl ?_
 rintro ⟨⟩ -
 refine WB.done (by kernel_rfl) ?_
 refine JE.seqN ?_
 refine J.seq ?_
 have hfr : (f.set u.toNat (f.getD u.toNat default - 1)).getD a.toNat default ≤ 1000 ∧ -1000 ≤ (f.set u.toNat (f.getD u.toNat default - 1)).getD a.toNat default := by rcases Classical.em (u.toNat = a.toNat) with he | he; (rw [← he, getD_set_eq _ _ _ _ (by omega)]; omega); (rw [getD_set_ne _ _ _ _ _ he]; omega)
 refine J.anyAll [10] ?_
 refine WA.takeP 0 rfl (RDP.of fun _ => RD.fieldC rfl rfl) rfl (by kernel_rfl) rfl ?_
 refine WA.take 1 rfl (RD.loadC rfl rfl) rfl (by kernel_rfl) rfl ?_
 refine WA.takeP 2 rfl (RDP.of fun _ => RD.move rfl) rfl (by kernel_rfl) rfl ?_
 refine WA.takeP 3 rfl (RDP.of fun _ => RD.fieldC rfl rfl) rfl (by kernel_rfl) rfl ?_
 refine WA.take 4 rfl (RD.loadC rfl rfl) rfl (by kernel_rfl) rfl ?_
 refine WA.takeP 5 rfl (RDP.of fun _ => RD.move rfl) rfl (by kernel_rfl) rfl ?_
 refine WA.takeP 6 rfl (RDP.idx (j := a.toNat) (hj := ⟨by omega⟩) rfl rfl (by omega) rfl) rfl (by kernel_rfl) rfl ?_
 refine WA.take 7 rfl (RD.loadE rfl (by omega) rfl) rfl (by kernel_rfl) rfl ?_
 refine WA.takeP 8 rfl (RDP.of fun _ => RD.add rfl rfl (by omega) (by omega)) rfl (by kernel_rfl) rfl ?_
 refine WA.takeP 9 rfl (RDP.idx (j := a.toNat) (hj := ⟨by omega⟩) rfl rfl (by omega) rfl) rfl (by kernel_rfl) rfl ?_
 refine WA.one (i := 10) (by kernel_rfl) ?_
 refine WAi.efNL rfl (EF.storeI rfl rfl (by omega) rfl rfl) rfl rfl ?_
 rintro ⟨⟩ -
 refine WB.done (by kernel_rfl) ?_
 refine JE.seqN ?_
 refine J.seq ?_
 refine J.reg ?_
 refine WL.rd (RD.move rfl) rfl rfl ?_
 refine WL.rd (RD.assign rfl) rfl rfl ?_
 refine WL.nil ?_
 refine JE.seqN ?_
 refine J.seq ?_
 refine J.block ?_
 refine J.loop (fun gg ee mm => ∃ (av : Int), ∃ (tc : List Int), ∃ (ps : List (Nat × Int)), gg = ps.length ∧ ((isPath n xs pl a s.fr tc av ps) ∧ (tc.length = pl.length) ∧ (flipP tc av ps = flipP t u (pathF a s.fr t n u))) ∧ ee = [(12, .int .i64 av), (2, vr), (3, .int .i64 a), (5, .pointer (some ⟨b5, 0, none⟩)), (6, .pointer (some ⟨b6, 0, none⟩)), (10, .pointer (some ⟨b10, 0, none⟩)), (11, .pointer (some ⟨b11, 0, none⟩)), (31, f16)] ∧ mm = [.cells b11 31 [f16, t16, p16], .row f16 3 1 ((moveF f u a).map iv), .row t16 3 1 ((tc).map iv), .row p16 3 1 ((pl).map iv), .cells b10 31 [.slice none 0 0, .slice none 0 0, .slice none 0 0], .cells b6 31 [vf, vt, vp], .cells b5 26 [.int .i64 (n : Int), v], .ro v 2 (xs.map bv), .ro vf 1 (f.map iv), .ro vt 1 (t.map iv), .ro vp 1 (pl.map iv), .ro vr 1 (s.fr.map iv)]) _ ⟨u, t, (pathF a s.fr t n u), rfl, ?_, rfl, rfl⟩ ?_ ?_ ?_
 · exact ⟨hfp.1, by omega, rfl⟩
 · exact (Sub.consE rfl (by first | rfl | (congr 1; omega) | (simp; done)) (Sub.consE rfl (by first | rfl | (congr 1; omega) | (simp; done)) (Sub.consE rfl (by first | rfl | (congr 1; omega) | (simp; done)) (Sub.consE rfl (by first | rfl | (congr 1; omega) | (simp; done)) (Sub.consE rfl (by first | rfl | (congr 1; omega) | (simp; done)) (Sub.consE rfl (by first | rfl | (congr 1; omega) | (simp; done)) (Sub.consE rfl (by first | rfl | (congr 1; omega) | (simp; done)) (Sub.consE rfl (by first | rfl | (congr 1; omega) | (simp; done)) .nil))))))))
 · exact (SubM.cells rfl (by first | rfl | (simp; done)) (SubM.row rfl rfl (by first | rfl | (simp [iv, bv, yv, tv, sv]; done)) (SubM.row rfl rfl (by first | rfl | (simp [iv, bv, yv, tv, sv]; done)) (SubM.row rfl rfl (by first | rfl | (simp [iv, bv, yv, tv, sv]; done)) (SubM.cells rfl (by first | rfl | (simp; done)) (SubM.cells rfl (by first | rfl | (simp; done)) (SubM.cells rfl (by first | rfl | (simp; done)) (SubM.ro rfl (by first | rfl | (simp [iv, bv, yv, tv, sv]; done)) (SubM.ro rfl (by first | rfl | (simp [iv, bv, yv, tv, sv]; done)) (SubM.ro rfl (by first | rfl | (simp [iv, bv, yv, tv, sv]; done)) (SubM.ro rfl (by first | rfl | (simp [iv, bv, yv, tv, sv]; done)) (SubM.ro rfl (by first | rfl | (simp [iv, bv, yv, tv, sv]; done)) .nil))))))))))))
 ·
  rintro g _ _ ⟨av, tc, ps, rfl, hP, rfl, rfl⟩
  refine J.seq ?_
  refine J.seq ?_
  refine J.reg ?_
  refine WL.rd (RD.move rfl) rfl rfl ?_
  refine WL.rd (RD.move rfl) rfl rfl ?_
  refine WL.rd (RD.neq rfl rfl) rfl rfl ?_
  refine WL.nil ?_
  refine JE.seqN ?_
  refine J.condP rfl (fun hc40 => ?_) (fun hc40 => ?_)
  ·
   refine J.skip ?_
   refine JE.seqN ?_
   refine J.block ?_
   refine J.seq ?_
   obtain ⟨kk, w', ps', hps, q0, q1, q2, q3, q4, q5, q6, q7, q8⟩ := isPath_step hP.1 (by exact hc40)
   subst hps
   have hget : s.fr.getD av.toNat default = (kk : Int) := q2
   have hasc := hp.asc kk (show kk < pl.length by omega)
   simp only at hasc
   have hbk := hp.pv.ok kk (show kk < pl.length by omega)
   have htc := hP.2.1
   have hw : othB (xs.getD (pl.getD kk default).toNat default) av = w' := by unfold othB brP at *; omega
   unfold brP at hbk
   simp only at hbk
   refine J.reg ?_
   refine WL.rd (RD.move rfl) rfl rfl ?_
   refine WL.rd (RD.move rfl) rfl rfl ?_
   refine WL.rd (RD.idx (j := av.toNat) (hj := ⟨by omega⟩) rfl rfl (by omega) rfl) rfl rfl ?_
   refine WL.rd (RD.loadE rfl (by omega) rfl) rfl rfl ?_
   refine WL.say 44 (.int .i64 (kk : Int)) rfl (by rw [hget]) ?_
   refine WL.rd (RD.assign rfl) rfl rfl ?_
   refine WL.nil ?_
   refine JE.seqN ?_
   refine J.seq ?_
   refine J.anyAll [] ?_
   refine WA.takeP 0 rfl (RDP.of fun _ => RD.fieldC rfl rfl) rfl (by kernel_rfl) rfl ?_
   refine WA.take 1 rfl (RD.loadC rfl rfl) rfl (by kernel_rfl) rfl ?_
   refine WA.takeP 2 rfl (RDP.of fun _ => RD.fieldC rfl rfl) rfl (by kernel_rfl) rfl ?_
   refine WA.take 3 rfl (RD.loadC rfl rfl) rfl (by kernel_rfl) rfl ?_
   refine WA.takeP 4 rfl (RDP.of fun _ => RD.move rfl) rfl (by kernel_rfl) rfl ?_
   refine WA.takeP 5 rfl (RDP.idx rfl rfl (by omega) rfl) rfl (by kernel_rfl) rfl ?_
   refine WA.take 6 rfl (RD.loadE rfl (by omega) rfl) rfl (by kernel_rfl) rfl ?_
   refine WA.takeP 7 rfl (RDP.idx (j := (pl.getD kk default).toNat) (hj := ⟨by omega⟩) rfl rfl (by omega) rfl) rfl (by kernel_rfl) rfl ?_
   refine WA.take 8 rfl (RD.loadEA rfl (by omega) rfl) rfl (by kernel_rfl) rfl ?_
   refine WA.takeP 9 rfl (RDP.of fun _ => RD.move rfl) rfl (by kernel_rfl) rfl ?_
   refine WA.one (i := 10) (by kernel_rfl) ?_
   refine WAi.efS rfl (EF.callS (.cons rfl (.cons rfl .nil)) (fun w hS => l4Other_c _ _ _ (by omega) (by omega) (by omega))) rfl rfl (fun _ => SubI.sub) ?_
   rintro ⟨⟩ -
   refine WA.takeP 11 rfl (RDP.of fun _ => RD.assign rfl) rfl (by kernel_rfl) rfl ?_
   refine WA.done (by kernel_rfl) ?_
   refine JE.seqN ?_
   refine J.seq ?_
   refine J.reg ?_
   refine WL.rd (RD.fieldC rfl rfl) rfl rfl ?_
   refine WL.rd (RD.loadC rfl rfl) rfl rfl ?_
   refine WL.rd (RD.move rfl) rfl rfl ?_
   refine WL.rd (RD.move rfl) rfl rfl ?_
   refine WL.rd (RD.idx rfl rfl (by omega) rfl) rfl rfl ?_
   refine WL.efN (EF.storeI rfl rfl (by omega) rfl rfl) rfl ?_
   rintro ⟨⟩ -
   refine WL.nil ?_
   refine JE.seqN ?_
   refine J.reg ?_
   refine WL.rd (RD.move rfl) rfl rfl ?_
   refine WL.rd (RD.assign rfl) rfl rfl ?_
   refine WL.nil ?_
   refine JE.blockN ?_
   refine JE.cutN ⟨_, ?_, (othB (xs.getD (pl.getD kk default).toNat default) av), (tc.set kk av), ps', rfl, ?_, rfl, rfl⟩ ?_ ?_
   · simp
   · exact ⟨by rw [hw]; exact q7, by rw [List.length_set]; exact htc, by rw [← hP.2.2, q8, hw]⟩
   · exact (Sub.consE rfl (by first | rfl | (congr 1; omega) | (simp; done)) (Sub.consE rfl (by first | rfl | (congr 1; omega) | (simp; done)) (Sub.consE rfl (by first | rfl | (congr 1; omega) | (simp; done)) (Sub.consE rfl (by first | rfl | (congr 1; omega) | (simp; done)) (Sub.consE rfl (by first | rfl | (congr 1; omega) | (simp; done)) (Sub.consE rfl (by first | rfl | (congr 1; omega) | (simp; done)) (Sub.consE rfl (by first | rfl | (congr 1; omega) | (simp; done)) (Sub.consE rfl (by first | rfl | (congr 1; omega) | (simp; done)) .nil))))))))
   · exact (SubM.cells rfl (by first | rfl | (simp; done)) (SubM.row rfl rfl (by first | rfl | (simp [iv, bv, yv, tv, sv]; done)) (SubM.row rfl rfl (by first | rfl | (simp [iv, bv, yv, tv, sv]; done)) (SubM.row rfl rfl (by first | rfl | (simp [iv, bv, yv, tv, sv]; done)) (SubM.cells rfl (by first | rfl | (simp; done)) (SubM.cells rfl (by first | rfl | (simp; done)) (SubM.cells rfl (by first | rfl | (simp; done)) (SubM.ro rfl (by first | rfl | (simp [iv, bv, yv, tv, sv]; done)) (SubM.ro rfl (by first | rfl | (simp [iv, bv, yv, tv, sv]; done)) (SubM.ro rfl (by first | rfl | (simp [iv, bv, yv, tv, sv]; done)) (SubM.ro rfl (by first | rfl | (simp [iv, bv, yv, tv, sv]; done)) (SubM.ro rfl (by first | rfl | (simp [iv, bv, yv, tv, sv]; done)) .nil))))))))))))
  ·
   refine J.exit ?_
   refine JE.seqX ?_
   refine JE.cutX ?_
   refine JE.blockHit ?_
   refine JE.seqN ?_
   refine J.seq ?_
   refine J.reg ?_
   refine WL.rd (RD.loadA rfl rfl) rfl rfl ?_
   refine WL.efN (EF.storeA rfl rfl rfl rfl) rfl ?_
   rintro ⟨⟩ -
   refine WL.nil ?_
   refine JE.seqN ?_
   refine J.ret ?_
   refine JE.ret rfl (ResL.flat rfl rfl .nil) (fun w hS => ?_)
   have hav : av = a := by exact Decidable.not_not.1 hc40
   have hps := isPath_end (hav ▸ hP.1)
   have hT := hP.2.2
   rw [hps] at hT
   exact CN.fin hS (f16, t16, p16) rfl trivial (SubM.row rfl rfl (by unfold shiftP; rw [hq]) (SubM.row rfl rfl (by unfold shiftP; rw [hq, ← hT]; rfl) (SubM.row rfl rfl rfl .nil))) (by simp [En.rdb])
def fillL (n c : Nat) : List Int := List.replicate c (-1) ++ List.replicate (n - c) 0
theorem fillL_zero (n : Nat) : fillL n 0 = List.replicate n 0 := by unfold fillL; simp
theorem fillL_all (n : Nat) : fillL n n = List.replicate n (-1) := by unfold fillL; simp
theorem fillL_len (n c : Nat) (h : c ≤ n) : (fillL n c).length = n := by unfold fillL; simp; omega
theorem fillL_step (n c : Nat) (h : c < n) : (fillL n c).set c (-1) = fillL n (c + 1) := by
  unfold fillL
  rw [List.set_append_right _ _ (by simp), List.length_replicate, Nat.sub_self, show n - c = (n - (c + 1)) + 1 by omega, List.replicate_succ (n := n - (c + 1)), List.set_cons_zero, List.replicate_succ' (n := c), List.append_assoc]
  rfl
theorem l4Find_c (n : Nat) (k : Int) (v : Value) (xs : List (Int × Int)) (vf vt vp : Value) (f t pl : List Int) (a b : Int) (w : World) (hn : n ≤ 8) (hk : k ≤ 3) (hxl : xs.length ≤ 1048576) (hp : okP n k xs ⟨f, t, pl⟩) (hr : Rd w v 2 (xs.map bv)) (hrf : Rd w vf 1 (f.map iv)) (hrt : Rd w vt 1 (t.map iv)) (hrp : Rd w vp 1 (pl.map iv)) (ha : 0 ≤ a ∧ a < n) (_hb : 0 ≤ b ∧ b < n) (_hab : a ≠ b) :
    CN Try.prog 63 [.agg #[.int .i64 (n : Int), v], .agg #[vf, vt, vp], .int .i64 a, .int .i64 b] w (Option (Value × Value × Value)) (fun x => x.isSome = (findP n xs (⟨f, t, pl⟩ : PS) a b).isSome) (fR vf vt vp) (fN 3 (outP n xs (⟨f, t, pl⟩ : PS) a b)) := by
 have hl_xs : xs.length ≤ 9223372036854775807 := (by obtain ⟨_, _, _, hh, _⟩ := hr.shape; simpa using hh)
 have hfl : f.length = n := hp.fl
 have htl : t.length = pl.length := hp.pv.tl
 have hpx : pl.length ≤ xs.length := asc_len hp
 refine calls_of_J (mu := (fun _ => False)) (m := [.ro v 2 (xs.map bv), .ro vf 1 (f.map iv), .ro vt 1 (t.map iv), .ro vp 1 (pl.map iv)]) (e := [(0, .agg #[.int .i64 (n : Int), v]), (1, .agg #[vf, vt, vp]), (2, .int .i64 a), (3, .int .i64 b)]) Try.func63 rfl rfl (.cons rfl (.cons rfl (.cons rfl (.cons rfl .nil)))) ((((((St.init _ _).ro0 hrp (by decide)).ro0 hrt (by decide)).ro0 hrf (by decide)).ro0 hr (by decide))) ?_
 refine J.seq ?_
 refine J.reg ?_
 refine WL.efS (EF.boxA rfl) rfl rfl ?_
 intro b4 _
 refine WL.efS (EF.boxA rfl) rfl rfl ?_
 intro b5 _
 refine WL.efS (EF.allocA) rfl rfl ?_
 intro b8 _
 refine WL.rd (RD.assign rfl) rfl rfl ?_
 refine WL.nil ?_
 refine JE.seqN ?_
 refine J.seq ?_
 refine J.reg ?_
 refine WL.rd (RD.fieldC rfl rfl) rfl rfl ?_
 refine WL.rd (RD.loadC rfl rfl) rfl rfl ?_
 refine WL.efS (EF.makeN (n := n) (n' := n) (hn := ⟨by omega⟩) (hn' := ⟨by omega⟩) rfl rfl rfl rfl (by omega)) rfl rfl ?_
 intro v20 _
 refine WL.rd (RD.assign rfl) rfl rfl ?_
 refine WL.nil ?_
 refine JE.seqN ?_
 refine J.seq ?_
 refine J.seq ?_
 refine J.reg ?_
 refine WL.rd (RD.assign rfl) rfl rfl ?_
 refine WL.nil ?_
 refine JE.seqN ?_
 refine J.block ?_
 refine J.loop (fun gg ee mm => ∃ (c : Nat), gg = n - c ∧ ((c ≤ n)) ∧ ee = [(11, .int .i64 (c : Int)), (2, .int .i64 a), (3, .int .i64 b), (4, .pointer (some ⟨b4, 0, none⟩)), (5, .pointer (some ⟨b5, 0, none⟩)), (8, .pointer (some ⟨b8, 0, none⟩)), (10, v20)] ∧ mm = [.row v20 3 1 (((fillL n c)).map iv), .cells b8 31 [.slice none 0 0, .slice none 0 0, .slice none 0 0], .cells b5 31 [vf, vt, vp], .cells b4 26 [.int .i64 (n : Int), v], .ro v 2 (xs.map bv), .ro vf 1 (f.map iv), .ro vt 1 (t.map iv), .ro vp 1 (pl.map iv)]) _ ⟨0, rfl, ?_, rfl, rfl⟩ ?_ ?_ ?_
 · omega
 · exact (Sub.consE rfl (by first | rfl | (congr 1; omega) | (simp; done)) (Sub.consE rfl (by first | rfl | (congr 1; omega) | (simp; done)) (Sub.consE rfl (by first | rfl | (congr 1; omega) | (simp; done)) (Sub.consE rfl (by first | rfl | (congr 1; omega) | (simp; done)) (Sub.consE rfl (by first | rfl | (congr 1; omega) | (simp; done)) (Sub.consE rfl (by first | rfl | (congr 1; omega) | (simp; done)) (Sub.consE rfl (by first | rfl | (congr 1; omega) | (simp; done)) .nil)))))))
 · exact (SubM.row rfl rfl (by rw [fillL_zero]; simp [iv]) (SubM.cells rfl (by first | rfl | (simp; done)) (SubM.cells rfl (by first | rfl | (simp; done)) (SubM.cells rfl (by first | rfl | (simp; done)) (SubM.ro rfl (by first | rfl | (simp [iv, bv, yv, tv, sv]; done)) (SubM.ro rfl (by first | rfl | (simp [iv, bv, yv, tv, sv]; done)) (SubM.ro rfl (by first | rfl | (simp [iv, bv, yv, tv, sv]; done)) (SubM.ro rfl (by first | rfl | (simp [iv, bv, yv, tv, sv]; done)) .nil))))))))
 ·
  rintro g _ _ ⟨c, rfl, hI, rfl, rfl⟩
  have hfll := fillL_len n c hI
  refine J.seq ?_
  refine J.seq ?_
  refine J.reg ?_
  refine WL.rd (RD.move rfl) rfl rfl ?_
  refine WL.rd (RD.fieldC rfl rfl) rfl rfl ?_
  refine WL.rd (RD.loadC rfl rfl) rfl rfl ?_
  refine WL.rd (RD.lss rfl rfl) rfl rfl ?_
  refine WL.nil ?_
  refine JE.seqN ?_
  refine J.condP rfl (fun hc24 => ?_) (fun hc24 => ?_)
  ·
   refine J.skip ?_
   refine JE.seqN ?_
   refine J.seq ?_
   refine J.block ?_
   refine J.reg ?_
   refine WL.rd (RD.move rfl) rfl rfl ?_
   refine WL.rd (RD.move rfl) rfl rfl ?_
   refine WL.rd (RD.idx rfl rfl (by omega) rfl) rfl rfl ?_
   refine WL.efN (EF.storeI rfl rfl (by omega) rfl rfl) rfl ?_
   rintro ⟨⟩ -
   refine WL.nil ?_
   refine JE.blockN ?_
   refine JE.seqN ?_
   refine J.reg ?_
   refine WL.rd (RD.move rfl) rfl rfl ?_
   refine WL.rd (RD.add rfl rfl (by omega) (by omega)) rfl rfl ?_
   refine WL.rd (RD.assign rfl) rfl rfl ?_
   refine WL.nil ?_
   refine JE.cutN ⟨_, ?_, c + 1, rfl, ?_, rfl, rfl⟩ ?_ ?_
   · omega
   · omega
   · exact (Sub.consE rfl (by first | rfl | (congr 1; omega) | (simp; done)) (Sub.consE rfl (by first | rfl | (congr 1; omega) | (simp; done)) (Sub.consE rfl (by first | rfl | (congr 1; omega) | (simp; done)) (Sub.consE rfl (by first | rfl | (congr 1; omega) | (simp; done)) (Sub.consE rfl (by first | rfl | (congr 1; omega) | (simp; done)) (Sub.consE rfl (by first | rfl | (congr 1; omega) | (simp; done)) (Sub.consE rfl (by first | rfl | (congr 1; omega) | (simp; done)) .nil)))))))
   · exact (SubM.row rfl rfl (by rw [← fillL_step n c (by omega)]) (SubM.cells rfl (by first | rfl | (simp; done)) (SubM.cells rfl (by first | rfl | (simp; done)) (SubM.cells rfl (by first | rfl | (simp; done)) (SubM.ro rfl (by first | rfl | (simp [iv, bv, yv, tv, sv]; done)) (SubM.ro rfl (by first | rfl | (simp [iv, bv, yv, tv, sv]; done)) (SubM.ro rfl (by first | rfl | (simp [iv, bv, yv, tv, sv]; done)) (SubM.ro rfl (by first | rfl | (simp [iv, bv, yv, tv, sv]; done)) .nil))))))))
  ·
   refine J.exit ?_
   refine JE.seqX ?_
   refine JE.cutX ?_
   refine JE.blockHit ?_
   refine JE.seqN ?_
   refine J.seq ?_
   refine J.reg ?_
   refine WL.rd (RD.move rfl) rfl rfl ?_
   refine WL.efS (EF.build1 rfl) rfl rfl ?_
   intro v31 _
   refine WL.rd (RD.assign rfl) rfl rfl ?_
   refine WL.nil ?_
   refine JE.seqN ?_
   refine J.seq ?_
   refine J.reg ?_
   refine WL.rd (RD.fieldC rfl rfl) rfl rfl ?_
   refine WL.rd (RD.loadC rfl rfl) rfl rfl ?_
   refine WL.efS (EF.makeN (n := n) (n' := n) (hn := ⟨by omega⟩) (hn' := ⟨by omega⟩) rfl rfl rfl rfl (by omega)) rfl rfl ?_
   intro v34 _
   refine WL.rd (RD.assign rfl) rfl rfl ?_
   refine WL.nil ?_
   refine JE.seqN ?_
   refine J.seq ?_
   refine J.reg ?_
   refine WL.rd (RD.move rfl) rfl rfl ?_
   refine WL.rd (RD.move rfl) rfl rfl ?_
   refine WL.rd (RD.idx (j := a.toNat) (hj := ⟨by omega⟩) rfl rfl (by omega) rfl) rfl rfl ?_
   refine WL.efN (EF.storeE rfl rfl (by omega) rfl) rfl ?_
   rintro ⟨⟩ -
   refine WL.nil ?_
   refine JE.seqN ?_
   refine J.seq ?_
   refine J.seq ?_
   refine J.reg ?_
   refine WL.rd (RD.assign rfl) rfl rfl ?_
   refine WL.nil ?_
   refine JE.seqN ?_
   refine J.block ?_
   refine J.loop (fun gg ee mm => ∃ (i : Nat), ∃ (u : Value), ∃ (s : FSt), gg = n + 1 - i ∧ ((WF n xs t pl a s) ∧ (i ≤ s.q.length) ∧ (bfsF xs f t pl b (n + 1 - i) i s = findR n xs (⟨f, t, pl⟩ : PS) a b)) ∧ ee = [(12, u), (14, .int .i64 (i : Int)), (2, .int .i64 a), (3, .int .i64 b), (4, .pointer (some ⟨b4, 0, none⟩)), (5, .pointer (some ⟨b5, 0, none⟩)), (8, .pointer (some ⟨b8, 0, none⟩)), (10, v20), (13, v34), (31, v31)] ∧ mm = [.row v34 4 1 ((s.sn).map tv), .row u 3 1 ((s.q).map iv), .row v20 3 1 ((s.fr).map iv), .cells b8 31 [.slice none 0 0, .slice none 0 0, .slice none 0 0], .cells b5 31 [vf, vt, vp], .cells b4 26 [.int .i64 (n : Int), v], .ro v 2 (xs.map bv), .ro vf 1 (f.map iv), .ro vt 1 (t.map iv), .ro vp 1 (pl.map iv)]) _ ⟨0, v31, (s0F n a), rfl, ?_, rfl, rfl⟩ ?_ ?_ ?_
   · exact ⟨s0F_wf ha, by omega, rfl⟩
   · exact (Sub.consE rfl (by first | rfl | (congr 1; omega) | (simp; done)) (Sub.consE rfl (by first | rfl | (congr 1; omega) | (simp; done)) (Sub.consE rfl (by first | rfl | (congr 1; omega) | (simp; done)) (Sub.consE rfl (by first | rfl | (congr 1; omega) | (simp; done)) (Sub.consE rfl (by first | rfl | (congr 1; omega) | (simp; done)) (Sub.consE rfl (by first | rfl | (congr 1; omega) | (simp; done)) (Sub.consE rfl (by first | rfl | (congr 1; omega) | (simp; done)) (Sub.consE rfl (by first | rfl | (congr 1; omega) | (simp; done)) (Sub.consE rfl (by first | rfl | (congr 1; omega) | (simp; done)) (Sub.consE rfl (by first | rfl | (congr 1; omega) | (simp; done)) .nil))))))))))
   · exact (SubM.row rfl rfl (by unfold s0F; simp [tv, List.map_set]) (SubM.row rfl rfl (by rfl) (SubM.row rfl rfl (by rw [show c = n by omega, fillL_all]; rfl) (SubM.cells rfl (by first | rfl | (simp; done)) (SubM.cells rfl (by first | rfl | (simp; done)) (SubM.cells rfl (by first | rfl | (simp; done)) (SubM.ro rfl (by first | rfl | (simp [iv, bv, yv, tv, sv]; done)) (SubM.ro rfl (by first | rfl | (simp [iv, bv, yv, tv, sv]; done)) (SubM.ro rfl (by first | rfl | (simp [iv, bv, yv, tv, sv]; done)) (SubM.ro rfl (by first | rfl | (simp [iv, bv, yv, tv, sv]; done)) .nil))))))))))
   ·
    rintro g _ _ ⟨i, u, s, rfl, hI, rfl, rfl⟩
    have hqc := hI.1.qc
    refine J.seq ?_
    refine J.seq ?_
    refine J.reg ?_
    refine WL.rd (RD.move rfl) rfl rfl ?_
    refine WL.rd (RD.move rfl) rfl rfl ?_
    refine WL.rd (RD.lenR rfl) rfl rfl ?_
    refine WL.rd (RD.lss rfl rfl) rfl rfl ?_
    refine WL.nil ?_
    refine JE.seqN ?_
    refine J.condP rfl (fun hc41 => ?_) (fun hc41 => ?_)
    ·
     refine J.skip ?_
     refine JE.seqN ?_
     refine J.seq ?_
     refine J.block ?_
     refine J.seq ?_
     refine J.reg ?_
     refine WL.rd (RD.move rfl) rfl rfl ?_
     refine WL.rd (RD.move rfl) rfl rfl ?_
     refine WL.rd (RD.idx rfl rfl (by omega) rfl) rfl rfl ?_
     refine WL.rd (RD.loadE rfl (by omega) rfl) rfl rfl ?_
     refine WL.rd (RD.assign rfl) rfl rfl ?_
     refine WL.nil ?_
     refine JE.seqN ?_
     refine J.seq ?_
     refine J.reg ?_
     refine WL.rd (RD.assign rfl) rfl rfl ?_
     refine WL.nil ?_
     refine JE.seqN ?_
     refine J.block ?_
     refine J.loop (fun gg ee mm => ∃ (j : Nat), ∃ (u2 : Value), ∃ (s2 : FSt), gg = pl.length - j ∧ ((WF n xs t pl a s2) ∧ (i < s2.q.length) ∧ (s2.q.getD i default = s.q.getD i default) ∧ (scanF xs f t pl b (s.q.getD i default) (pl.length - j) j s2 = scanF xs f t pl b (s.q.getD i default) pl.length 0 s) ∧ (j ≤ pl.length)) ∧ ee = [(12, u2), (15, .int .i64 (s.q.getD i default)), (16, .int .i64 (j : Int)), (2, .int .i64 a), (3, .int .i64 b), (4, .pointer (some ⟨b4, 0, none⟩)), (5, .pointer (some ⟨b5, 0, none⟩)), (8, .pointer (some ⟨b8, 0, none⟩)), (10, v20), (13, v34), (14, .int .i64 (i : Int)), (31, v31)] ∧ mm = [.row v34 4 1 ((s2.sn).map tv), .row u2 3 1 ((s2.q).map iv), .row v20 3 1 ((s2.fr).map iv), .cells b8 31 [.slice none 0 0, .slice none 0 0, .slice none 0 0], .cells b5 31 [vf, vt, vp], .cells b4 26 [.int .i64 (n : Int), v], .ro v 2 (xs.map bv), .ro vf 1 (f.map iv), .ro vt 1 (t.map iv), .ro vp 1 (pl.map iv)]) _ ⟨0, u, s, rfl, ?_, rfl, rfl⟩ ?_ ?_ ?_
     · exact ⟨hI.1, by omega, rfl, rfl, by omega⟩
     · exact (Sub.consE rfl (by first | rfl | (congr 1; omega) | (simp; done)) (Sub.consE rfl (by first | rfl | (congr 1; omega) | (simp; done)) (Sub.consE rfl (by first | rfl | (congr 1; omega) | (simp; done)) (Sub.consE rfl (by first | rfl | (congr 1; omega) | (simp; done)) (Sub.consE rfl (by first | rfl | (congr 1; omega) | (simp; done)) (Sub.consE rfl (by first | rfl | (congr 1; omega) | (simp; done)) (Sub.consE rfl (by first | rfl | (congr 1; omega) | (simp; done)) (Sub.consE rfl (by first | rfl | (congr 1; omega) | (simp; done)) (Sub.consE rfl (by first | rfl | (congr 1; omega) | (simp; done)) (Sub.consE rfl (by first | rfl | (congr 1; omega) | (simp; done)) (Sub.consE rfl (by first | rfl | (congr 1; omega) | (simp; done)) (Sub.consE rfl (by first | rfl | (congr 1; omega) | (simp; done)) .nil))))))))))))
     · exact (SubM.row rfl rfl (by first | rfl | (simp [iv, bv, yv, tv, sv]; done)) (SubM.row rfl rfl (by first | rfl | (simp [iv, bv, yv, tv, sv]; done)) (SubM.row rfl rfl (by first | rfl | (simp [iv, bv, yv, tv, sv]; done)) (SubM.cells rfl (by first | rfl | (simp; done)) (SubM.cells rfl (by first | rfl | (simp; done)) (SubM.cells rfl (by first | rfl | (simp; done)) (SubM.ro rfl (by first | rfl | (simp [iv, bv, yv, tv, sv]; done)) (SubM.ro rfl (by first | rfl | (simp [iv, bv, yv, tv, sv]; done)) (SubM.ro rfl (by first | rfl | (simp [iv, bv, yv, tv, sv]; done)) (SubM.ro rfl (by first | rfl | (simp [iv, bv, yv, tv, sv]; done)) .nil))))))))))
     ·
      rintro g _ _ ⟨j, u2, s2, rfl, hJ, rfl, rfl⟩
      have hqc2 := hJ.1.qc
      have hsl2 := hJ.1.sl
      have hfl2 := hJ.1.fl
      refine J.seq ?_
      refine J.seq ?_
      refine J.reg ?_
      refine WL.rd (RD.move rfl) rfl rfl ?_
      refine WL.rd (RD.fieldC rfl rfl) rfl rfl ?_
      refine WL.rd (RD.loadC rfl rfl) rfl rfl ?_
      refine WL.rd (RD.lenR rfl) rfl rfl ?_
      refine WL.rd (RD.lss rfl rfl) rfl rfl ?_
      refine WL.nil ?_
      refine JE.seqN ?_
      refine J.condP rfl (fun hc52 => ?_) (fun hc52 => ?_)
      ·
       refine J.skip ?_
       refine JE.seqN ?_
       refine J.seq ?_
       refine J.block ?_
       refine J.seq ?_
       refine J.seq ?_
       refine J.reg ?_
       refine WL.rd (RD.fieldC rfl rfl) rfl rfl ?_
       refine WL.rd (RD.loadC rfl rfl) rfl rfl ?_
       refine WL.rd (RD.move rfl) rfl rfl ?_
       refine WL.rd (RD.idx rfl rfl (by omega) rfl) rfl rfl ?_
       refine WL.rd (RD.loadE rfl (by omega) rfl) rfl rfl ?_
       refine WL.rd (RD.move rfl) rfl rfl ?_
       refine WL.rd (RD.neq rfl rfl) rfl rfl ?_
       refine WL.nil ?_
       refine JE.seqN ?_
       refine J.condP rfl (fun hc61 => ?_) (fun hc61 => ?_)
       ·
        have hsk := scan_skip1 (xs := xs) (f := f) (pl := pl) (b := b) (s := s2) hc61 (show 0 < pl.length - j by omega)
        refine J.exit ?_
        refine JE.seqX ?_
        refine JE.blockHit ?_
        refine JE.seqN ?_
        refine J.reg ?_
        refine WL.rd (RD.move rfl) rfl rfl ?_
        refine WL.rd (RD.add rfl rfl (by omega) (by omega)) rfl rfl ?_
        refine WL.rd (RD.assign rfl) rfl rfl ?_
        refine WL.nil ?_
        refine JE.cutN ⟨_, ?_, j + 1, u2, s2, rfl, ?_, rfl, rfl⟩ ?_ ?_
        · omega
        · exact ⟨hJ.1, hJ.2.1, hJ.2.2.1, by rw [← hJ.2.2.2.1, hsk, Nat.sub_sub], by omega⟩
        · exact (Sub.consE rfl (by first | rfl | (congr 1; omega) | (simp; done)) (Sub.consE rfl (by first | rfl | (congr 1; omega) | (simp; done)) (Sub.consE rfl (by first | rfl | (congr 1; omega) | (simp; done)) (Sub.consE rfl (by first | rfl | (congr 1; omega) | (simp; done)) (Sub.consE rfl (by first | rfl | (congr 1; omega) | (simp; done)) (Sub.consE rfl (by first | rfl | (congr 1; omega) | (simp; done)) (Sub.consE rfl (by first | rfl | (congr 1; omega) | (simp; done)) (Sub.consE rfl (by first | rfl | (congr 1; omega) | (simp; done)) (Sub.consE rfl (by first | rfl | (congr 1; omega) | (simp; done)) (Sub.consE rfl (by first | rfl | (congr 1; omega) | (simp; done)) (Sub.consE rfl (by first | rfl | (congr 1; omega) | (simp; done)) (Sub.consE rfl (by first | rfl | (congr 1; omega) | (simp; done)) .nil))))))))))))
        · exact (SubM.row rfl rfl (by first | rfl | (simp [iv, bv, yv, tv, sv]; done)) (SubM.row rfl rfl (by first | rfl | (simp [iv, bv, yv, tv, sv]; done)) (SubM.row rfl rfl (by first | rfl | (simp [iv, bv, yv, tv, sv]; done)) (SubM.cells rfl (by first | rfl | (simp; done)) (SubM.cells rfl (by first | rfl | (simp; done)) (SubM.cells rfl (by first | rfl | (simp; done)) (SubM.ro rfl (by first | rfl | (simp [iv, bv, yv, tv, sv]; done)) (SubM.ro rfl (by first | rfl | (simp [iv, bv, yv, tv, sv]; done)) (SubM.ro rfl (by first | rfl | (simp [iv, bv, yv, tv, sv]; done)) (SubM.ro rfl (by first | rfl | (simp [iv, bv, yv, tv, sv]; done)) .nil))))))))))
       ·
        refine J.skip ?_
        refine JE.seqN ?_
        refine J.seq ?_
        have htv' := Decidable.not_not.1 hc61
        have htv : t.getD j default = s2.q.getD i default := by rw [hJ.2.2.1]; exact htv'
        have hU : (othB (xs.getD (pl.getD j default).toNat default) (s.q.getD i default)) = othB (brP xs pl j) (t.getD j default) := by rw [htv']; rfl
        have hru := oth_rng hp (j := j) (show j < pl.length by omega)
        simp only at hru
        rw [← hU] at hru
        have hob := hp.pv.ok j (show j < pl.length by omega)
        have has := hp.asc j (show j < pl.length by omega)
        simp only at has
        unfold brP at hob
        simp only at hob
        rw [htv'] at hob
        refine J.anyAll [] ?_
        refine WA.takeP 0 rfl (RDP.of fun _ => RD.fieldC rfl rfl) rfl (by kernel_rfl) rfl ?_
        refine WA.take 1 rfl (RD.loadC rfl rfl) rfl (by kernel_rfl) rfl ?_
        refine WA.takeP 2 rfl (RDP.of fun _ => RD.fieldC rfl rfl) rfl (by kernel_rfl) rfl ?_
        refine WA.take 3 rfl (RD.loadC rfl rfl) rfl (by kernel_rfl) rfl ?_
        refine WA.takeP 4 rfl (RDP.of fun _ => RD.move rfl) rfl (by kernel_rfl) rfl ?_
        refine WA.takeP 5 rfl (RDP.idx rfl rfl (by omega) rfl) rfl (by kernel_rfl) rfl ?_
        refine WA.take 6 rfl (RD.loadE rfl (by omega) rfl) rfl (by kernel_rfl) rfl ?_
        refine WA.takeP 7 rfl (RDP.idx (j := (pl.getD j default).toNat) (hj := ⟨by omega⟩) rfl rfl (by omega) rfl) rfl (by kernel_rfl) rfl ?_
        refine WA.take 8 rfl (RD.loadEA rfl (by omega) rfl) rfl (by kernel_rfl) rfl ?_
        refine WA.takeP 9 rfl (RDP.of fun _ => RD.move rfl) rfl (by kernel_rfl) rfl ?_
        refine WA.one (i := 10) (by kernel_rfl) ?_
        refine WAi.efS rfl (EF.callS (.cons rfl (.cons rfl .nil)) (fun w hS => l4Other_c _ _ _ (by omega) (by omega) (by omega))) rfl rfl (fun _ => SubI.sub) ?_
        rintro ⟨⟩ -
        refine WA.takeP 11 rfl (RDP.of fun _ => RD.assign rfl) rfl (by kernel_rfl) rfl ?_
        refine WA.done (by kernel_rfl) ?_
        refine JE.seqN ?_
        refine J.seq ?_
        refine J.seq ?_
        refine J.reg ?_
        refine WL.rd (RD.move rfl) rfl rfl ?_
        refine WL.rd (RD.move rfl) rfl rfl ?_
        refine WL.rd (RD.idx (j := (othB (xs.getD (pl.getD j default).toNat default) (s.q.getD i default)).toNat) (hj := ⟨by omega⟩) rfl rfl (by omega) rfl) rfl rfl ?_
        refine WL.rd (RD.loadE rfl (by omega) rfl) rfl rfl ?_
        refine WL.nil ?_
        refine JE.seqN ?_
        refine J.cond rfl (fun hc76 => ?_) (fun hc76 => ?_)
        ·
         have hsk := scan_skip2 (xs := xs) (f := f) (pl := pl) (b := b) htv' (show gB s2.sn (othB (brP xs pl j) (s.q.getD i default)) = true from hc76) (show 0 < pl.length - j by omega)
         refine J.exit ?_
         refine JE.seqX ?_
         refine JE.blockHit ?_
         refine JE.seqN ?_
         refine J.reg ?_
         refine WL.rd (RD.move rfl) rfl rfl ?_
         refine WL.rd (RD.add rfl rfl (by omega) (by omega)) rfl rfl ?_
         refine WL.rd (RD.assign rfl) rfl rfl ?_
         refine WL.nil ?_
         refine JE.cutN ⟨_, ?_, j + 1, u2, s2, rfl, ?_, rfl, rfl⟩ ?_ ?_
         · omega
         · exact ⟨hJ.1, hJ.2.1, hJ.2.2.1, by rw [← hJ.2.2.2.1, hsk, Nat.sub_sub], by omega⟩
         · exact (Sub.consE rfl (by first | rfl | (congr 1; omega) | (simp; done)) (Sub.consE rfl (by first | rfl | (congr 1; omega) | (simp; done)) (Sub.consE rfl (by first | rfl | (congr 1; omega) | (simp; done)) (Sub.consE rfl (by first | rfl | (congr 1; omega) | (simp; done)) (Sub.consE rfl (by first | rfl | (congr 1; omega) | (simp; done)) (Sub.consE rfl (by first | rfl | (congr 1; omega) | (simp; done)) (Sub.consE rfl (by first | rfl | (congr 1; omega) | (simp; done)) (Sub.consE rfl (by first | rfl | (congr 1; omega) | (simp; done)) (Sub.consE rfl (by first | rfl | (congr 1; omega) | (simp; done)) (Sub.consE rfl (by first | rfl | (congr 1; omega) | (simp; done)) (Sub.consE rfl (by first | rfl | (congr 1; omega) | (simp; done)) (Sub.consE rfl (by first | rfl | (congr 1; omega) | (simp; done)) .nil))))))))))))
         · exact (SubM.row rfl rfl (by first | rfl | (simp [iv, bv, yv, tv, sv]; done)) (SubM.row rfl rfl (by first | rfl | (simp [iv, bv, yv, tv, sv]; done)) (SubM.row rfl rfl (by first | rfl | (simp [iv, bv, yv, tv, sv]; done)) (SubM.cells rfl (by first | rfl | (simp; done)) (SubM.cells rfl (by first | rfl | (simp; done)) (SubM.cells rfl (by first | rfl | (simp; done)) (SubM.ro rfl (by first | rfl | (simp [iv, bv, yv, tv, sv]; done)) (SubM.ro rfl (by first | rfl | (simp [iv, bv, yv, tv, sv]; done)) (SubM.ro rfl (by first | rfl | (simp [iv, bv, yv, tv, sv]; done)) (SubM.ro rfl (by first | rfl | (simp [iv, bv, yv, tv, sv]; done)) .nil))))))))))
        ·
         refine J.skip ?_
         refine JE.seqN ?_
         refine J.seq ?_
         have hnU : ¬ gB s2.sn (othB (brP xs pl j) (s.q.getD i default)) = true := by intro hh; have h3 : gB s2.sn (othB (xs.getD (pl.getD j default).toNat default) (s.q.getD i default)) = false := hc76; have h4 : gB s2.sn (othB (xs.getD (pl.getD j default).toNat default) (s.q.getD i default)) = true := hh; rw [h3] at h4; cases h4
         have hmv : t.getD j default ∈ s2.q := by rw [htv]; exact getD_mem' default hJ.2.1
         have hWF2 : WF n xs t pl a (addF s2 (othB (xs.getD (pl.getD j default).toNat default) (s.q.getD i default)) j) := by have h := add_facts hp hJ.1 (show j < pl.length by omega) hmv (by simp only; rw [htv']; exact hnU); simp only at h; rw [← hU] at h; exact h
         refine J.reg ?_
         refine WL.rd (RD.move rfl) rfl rfl ?_
         refine WL.rd (RD.move rfl) rfl rfl ?_
         refine WL.rd (RD.idx (j := (othB (xs.getD (pl.getD j default).toNat default) (s.q.getD i default)).toNat) (hj := ⟨by omega⟩) rfl rfl (by omega) rfl) rfl rfl ?_
         refine WL.efN (EF.storeT rfl rfl (by omega) rfl rfl) rfl ?_
         rintro ⟨⟩ -
         refine WL.nil ?_
         refine JE.seqN ?_
         refine J.seq ?_
         refine J.reg ?_
         refine WL.rd (RD.move rfl) rfl rfl ?_
         refine WL.rd (RD.move rfl) rfl rfl ?_
         refine WL.rd (RD.move rfl) rfl rfl ?_
         refine WL.rd (RD.idx (j := (othB (xs.getD (pl.getD j default).toNat default) (s.q.getD i default)).toNat) (hj := ⟨by omega⟩) rfl rfl (by omega) rfl) rfl rfl ?_
         refine WL.efN (EF.storeI rfl rfl (by omega) rfl rfl) rfl ?_
         rintro ⟨⟩ -
         refine WL.nil ?_
         refine JE.seqN ?_
         refine J.seq ?_
         refine J.seq ?_
         have hfU := fv_rng hp hru.1 hru.2
         simp only [gI] at hfU
         refine J.reg ?_
         refine WL.rd (RD.move rfl) rfl rfl ?_
         refine WL.rd (RD.move rfl) rfl rfl ?_
         refine WL.rd (RD.neq rfl rfl) rfl rfl ?_
         refine WL.rd (RD.move rfl) rfl rfl ?_
         refine WL.caseP 87 rfl (fun hg87 => ?_) (fun hg87 => ?_)
         ·
          refine WL.rd (RD.fieldC rfl rfl) rfl rfl ?_
          refine WL.rd (RD.loadC rfl rfl) rfl rfl ?_
          refine WL.rd (RD.move rfl) rfl rfl ?_
          refine WL.rd (RD.idx (j := (othB (xs.getD (pl.getD j default).toNat default) (s.q.getD i default)).toNat) (hj := ⟨by omega⟩) rfl rfl (by omega) rfl) rfl rfl ?_
          refine WL.rd (RD.loadE rfl (by omega) rfl) rfl rfl ?_
          refine WL.rd (RD.gtr rfl rfl) rfl rfl ?_
          refine WL.rd (RD.pickT rfl rfl) rfl rfl ?_
          refine WL.nil ?_
          refine JE.seqN ?_
          refine J.condP rfl (fun hc94 => ?_) (fun hc94 => ?_)
          ·
           refine J.seq ?_
           have hsf := scan_found (xs := xs) (f := f) (pl := pl) (b := b) htv' hnU hg87 hc94 (show 0 < pl.length - j by omega)
           refine J.reg ?_
           refine WL.rd (RD.loadA rfl rfl) rfl rfl ?_
           refine WL.rd (RD.loadA rfl rfl) rfl rfl ?_
           refine WL.rd (RD.move rfl) rfl rfl ?_
           refine WL.rd (RD.move rfl) rfl rfl ?_
           refine WL.rd (RD.move rfl) rfl rfl ?_
           refine WL.efS (EF.callN (.cons rfl (.cons rfl (.cons rfl (.cons rfl (.cons rfl .nil))))) (fun w hS => l4Shift_c n k _ xs _ _ _ _ _ _ _ (addF s2 (othB (xs.getD (pl.getD j default).toNat default) (s.q.getD i default)) j) a (othB (xs.getD (pl.getD j default).toNat default) (s.q.getD i default)) _ hn hk hxl hp (by exact RdI.rd hS) (by exact RdI.rd hS) (by exact RdI.rd hS) (by exact RdI.rd hS) (by exact RdI.rd hS) ha hru hWF2 (lastQ_add _ _ _))) rfl rfl ?_
           rintro ⟨f100, t100, p100⟩ -
           refine WL.efN (EF.storeA rfl rfl rfl rfl) rfl ?_
           rintro ⟨⟩ -
           refine WL.rd (RD.assign rfl) rfl rfl ?_
           refine WL.nil ?_
           refine JE.seqN ?_
           refine J.ret ?_
           refine JE.ret rfl (ResL.flat rfl rfl (.tmp rfl .nil)) (fun w hS => ?_)
           have hfd : findP n xs (⟨f, t, pl⟩ : PS) a b = some (shiftP n (⟨f, t, pl⟩ : PS) (addF s2 (othB (xs.getD (pl.getD j default).toNat default) (s.q.getD i default)) j) a) := find_hit (by rw [← hI.2.2]; exact bfs_found (by omega) (by rw [← hJ.2.2.2.1]; exact hsf) (by omega))
           have ho : (outP n xs (⟨f, t, pl⟩ : PS) a b) = shiftP n (⟨f, t, pl⟩ : PS) (addF s2 (othB (xs.getD (pl.getD j default).toNat default) (s.q.getD i default)) j) a := by unfold outP; rw [hfd]; rfl
           exact CN.fin hS (some (f100, t100, p100)) rfl (by rw [hfd]; rfl) (SubM.row rfl rfl (by rw [ho]) (SubM.row rfl rfl (by rw [ho]) (SubM.row rfl rfl (by rw [ho]) .nil))) (by simp [En.rdb, fN])
          ·
           refine J.skip ?_
           refine JE.seqN ?_
           refine J.reg ?_
           refine WL.rd (RD.move rfl) rfl rfl ?_
           refine WL.rd (RD.move rfl) rfl rfl ?_
           refine WL.efS (EF.build1 rfl) rfl rfl ?_
           intro v103 _
           refine WL.efS (EF.append rfl rfl (by omega) rfl rfl rfl) rfl rfl ?_
           intro v104 _
           refine WL.rd (RD.assign rfl) rfl rfl ?_
           refine WL.nil ?_
           refine JE.blockN ?_
           refine JE.seqN ?_
           refine J.reg ?_
           refine WL.rd (RD.move rfl) rfl rfl ?_
           refine WL.rd (RD.add rfl rfl (by omega) (by omega)) rfl rfl ?_
           refine WL.rd (RD.assign rfl) rfl rfl ?_
           refine WL.nil ?_
           refine JE.cutN ⟨_, ?_, j + 1, v104, (addF s2 (othB (xs.getD (pl.getD j default).toNat default) (s.q.getD i default)) j), rfl, ?_, rfl, rfl⟩ ?_ ?_
           · omega
           · have hsp := scan_push (xs := xs) (f := f) (pl := pl) (b := b) htv' hnU (.inr (by have h9 := hc94; unfold othB brP at *; unfold gI; omega)) (show 0 < pl.length - j by omega); exact ⟨hWF2, (by have := hJ.2.1; unfold addF; rw [List.length_append]; omega), (by unfold addF; rw [getD_app_left _ _ _ _ hJ.2.1]; exact hJ.2.2.1), (by rw [← hJ.2.2.2.1, hsp, Nat.sub_sub]; rfl), by omega⟩
           · exact (Sub.consE rfl (by first | rfl | (congr 1; omega) | (simp; done)) (Sub.consE rfl (by first | rfl | (congr 1; omega) | (simp; done)) (Sub.consE rfl (by first | rfl | (congr 1; omega) | (simp; done)) (Sub.consE rfl (by first | rfl | (congr 1; omega) | (simp; done)) (Sub.consE rfl (by first | rfl | (congr 1; omega) | (simp; done)) (Sub.consE rfl (by first | rfl | (congr 1; omega) | (simp; done)) (Sub.consE rfl (by first | rfl | (congr 1; omega) | (simp; done)) (Sub.consE rfl (by first | rfl | (congr 1; omega) | (simp; done)) (Sub.consE rfl (by first | rfl | (congr 1; omega) | (simp; done)) (Sub.consE rfl (by first | rfl | (congr 1; omega) | (simp; done)) (Sub.consE rfl (by first | rfl | (congr 1; omega) | (simp; done)) (Sub.consE rfl (by first | rfl | (congr 1; omega) | (simp; done)) .nil))))))))))))
           · exact (SubM.row rfl rfl (by first | rfl | (simp [iv, bv, yv, tv, sv]; done)) (SubM.row rfl rfl (by first | rfl | (simp [iv, bv, yv, tv, sv]; done)) (SubM.row rfl rfl (by first | rfl | (simp [iv, bv, yv, tv, sv]; done)) (SubM.cells rfl (by first | rfl | (simp; done)) (SubM.cells rfl (by first | rfl | (simp; done)) (SubM.cells rfl (by first | rfl | (simp; done)) (SubM.ro rfl (by first | rfl | (simp [iv, bv, yv, tv, sv]; done)) (SubM.ro rfl (by first | rfl | (simp [iv, bv, yv, tv, sv]; done)) (SubM.ro rfl (by first | rfl | (simp [iv, bv, yv, tv, sv]; done)) (SubM.ro rfl (by first | rfl | (simp [iv, bv, yv, tv, sv]; done)) .nil))))))))))
         ·
          refine WL.noS rfl rfl ?_
          refine WL.noS rfl rfl ?_
          refine WL.noS rfl rfl ?_
          refine WL.noS rfl rfl ?_
          refine WL.noS rfl rfl ?_
          refine WL.noS rfl rfl ?_
          refine WL.rd (RD.pickF rfl rfl) rfl rfl ?_
          refine WL.nil ?_
          refine JE.seqN ?_
          refine J.condF rfl ?_
          refine J.skip ?_
          refine JE.seqN ?_
          refine J.reg ?_
          refine WL.rd (RD.move rfl) rfl rfl ?_
          refine WL.rd (RD.move rfl) rfl rfl ?_
          refine WL.efS (EF.build1 rfl) rfl rfl ?_
          intro v103 _
          refine WL.efS (EF.append rfl rfl (by omega) rfl rfl rfl) rfl rfl ?_
          intro v104 _
          refine WL.rd (RD.assign rfl) rfl rfl ?_
          refine WL.nil ?_
          refine JE.blockN ?_
          refine JE.seqN ?_
          refine J.reg ?_
          refine WL.rd (RD.move rfl) rfl rfl ?_
          refine WL.rd (RD.add rfl rfl (by omega) (by omega)) rfl rfl ?_
          refine WL.rd (RD.assign rfl) rfl rfl ?_
          refine WL.nil ?_
          refine JE.cutN ⟨_, ?_, j + 1, v104, (addF s2 (othB (xs.getD (pl.getD j default).toNat default) (s.q.getD i default)) j), rfl, ?_, rfl, rfl⟩ ?_ ?_
          · omega
          · have hsp := scan_push (xs := xs) (f := f) (pl := pl) (b := b) htv' hnU (.inl (Decidable.not_not.1 hg87)) (show 0 < pl.length - j by omega); exact ⟨hWF2, (by have := hJ.2.1; unfold addF; rw [List.length_append]; omega), (by unfold addF; rw [getD_app_left _ _ _ _ hJ.2.1]; exact hJ.2.2.1), (by rw [← hJ.2.2.2.1, hsp, Nat.sub_sub]; rfl), by omega⟩
          · exact (Sub.consE rfl (by first | rfl | (congr 1; omega) | (simp; done)) (Sub.consE rfl (by first | rfl | (congr 1; omega) | (simp; done)) (Sub.consE rfl (by first | rfl | (congr 1; omega) | (simp; done)) (Sub.consE rfl (by first | rfl | (congr 1; omega) | (simp; done)) (Sub.consE rfl (by first | rfl | (congr 1; omega) | (simp; done)) (Sub.consE rfl (by first | rfl | (congr 1; omega) | (simp; done)) (Sub.consE rfl (by first | rfl | (congr 1; omega) | (simp; done)) (Sub.consE rfl (by first | rfl | (congr 1; omega) | (simp; done)) (Sub.consE rfl (by first | rfl | (congr 1; omega) | (simp; done)) (Sub.consE rfl (by first | rfl | (congr 1; omega) | (simp; done)) (Sub.consE rfl (by first | rfl | (congr 1; omega) | (simp; done)) (Sub.consE rfl (by first | rfl | (congr 1; omega) | (simp; done)) .nil))))))))))))
          · exact (SubM.row rfl rfl (by first | rfl | (simp [iv, bv, yv, tv, sv]; done)) (SubM.row rfl rfl (by first | rfl | (simp [iv, bv, yv, tv, sv]; done)) (SubM.row rfl rfl (by first | rfl | (simp [iv, bv, yv, tv, sv]; done)) (SubM.cells rfl (by first | rfl | (simp; done)) (SubM.cells rfl (by first | rfl | (simp; done)) (SubM.cells rfl (by first | rfl | (simp; done)) (SubM.ro rfl (by first | rfl | (simp [iv, bv, yv, tv, sv]; done)) (SubM.ro rfl (by first | rfl | (simp [iv, bv, yv, tv, sv]; done)) (SubM.ro rfl (by first | rfl | (simp [iv, bv, yv, tv, sv]; done)) (SubM.ro rfl (by first | rfl | (simp [iv, bv, yv, tv, sv]; done)) .nil))))))))))
      ·
       refine J.exit ?_
       refine JE.seqX ?_
       refine JE.cutX ?_
       refine JE.blockHit ?_
       refine JE.blockN ?_
       refine JE.seqN ?_
       refine J.reg ?_
       refine WL.rd (RD.move rfl) rfl rfl ?_
       refine WL.rd (RD.add rfl rfl (by omega) (by omega)) rfl rfl ?_
       refine WL.rd (RD.assign rfl) rfl rfl ?_
       refine WL.nil ?_
       refine JE.cutN ⟨_, ?_, i + 1, u2, s2, rfl, ?_, rfl, rfl⟩ ?_ ?_
       · omega
       · have hse : scanF xs f t pl b (s.q.getD i default) pl.length 0 s = (s2, false) := (by rw [← hJ.2.2.2.1, show pl.length - j = 0 by omega]; rfl); exact ⟨hJ.1, by have := hJ.2.1; omega, by rw [← hI.2.2, bfs_next (by omega) hse (by omega), Nat.sub_sub]⟩
       · exact (Sub.consE rfl (by first | rfl | (congr 1; omega) | (simp; done)) (Sub.consE rfl (by first | rfl | (congr 1; omega) | (simp; done)) (Sub.consE rfl (by first | rfl | (congr 1; omega) | (simp; done)) (Sub.consE rfl (by first | rfl | (congr 1; omega) | (simp; done)) (Sub.consE rfl (by first | rfl | (congr 1; omega) | (simp; done)) (Sub.consE rfl (by first | rfl | (congr 1; omega) | (simp; done)) (Sub.consE rfl (by first | rfl | (congr 1; omega) | (simp; done)) (Sub.consE rfl (by first | rfl | (congr 1; omega) | (simp; done)) (Sub.consE rfl (by first | rfl | (congr 1; omega) | (simp; done)) (Sub.consE rfl (by first | rfl | (congr 1; omega) | (simp; done)) .nil))))))))))
       · exact (SubM.row rfl rfl (by first | rfl | (simp [iv, bv, yv, tv, sv]; done)) (SubM.row rfl rfl (by first | rfl | (simp [iv, bv, yv, tv, sv]; done)) (SubM.row rfl rfl (by first | rfl | (simp [iv, bv, yv, tv, sv]; done)) (SubM.cells rfl (by first | rfl | (simp; done)) (SubM.cells rfl (by first | rfl | (simp; done)) (SubM.cells rfl (by first | rfl | (simp; done)) (SubM.ro rfl (by first | rfl | (simp [iv, bv, yv, tv, sv]; done)) (SubM.ro rfl (by first | rfl | (simp [iv, bv, yv, tv, sv]; done)) (SubM.ro rfl (by first | rfl | (simp [iv, bv, yv, tv, sv]; done)) (SubM.ro rfl (by first | rfl | (simp [iv, bv, yv, tv, sv]; done)) .nil))))))))))
    ·
     refine J.exit ?_
     refine JE.seqX ?_
     refine JE.cutX ?_
     refine JE.blockHit ?_
     refine JE.seqN ?_
     refine J.seq ?_
     refine J.reg ?_
     refine WL.rd (RD.loadA rfl rfl) rfl rfl ?_
     refine WL.efN (EF.storeA rfl rfl rfl rfl) rfl ?_
     rintro ⟨⟩ -
     refine WL.rd (RD.assign rfl) rfl rfl ?_
     refine WL.nil ?_
     refine JE.seqN ?_
     refine J.ret ?_
     refine JE.ret rfl (ResL.flat rfl rfl (.tmp rfl .nil)) (fun w hS => ?_)
     have hfd : findP n xs (⟨f, t, pl⟩ : PS) a b = none := find_miss (s := s) (by rw [← hI.2.2]; exact bfs_end (by omega) (by omega))
     exact CN.fin hS none rfl (by rw [hfd]; rfl) .nil (by simp [En.rdb, fN])
theorem l4Find_yes (n : Nat) (k : Int) (v : Value) (xs : List (Int × Int)) (vf vt vp : Value) (f t pl : List Int) (a b : Int) (w : World) (hn : n ≤ 8) (hk : k ≤ 3) (hxl : xs.length ≤ 1048576) (hp : okP n k xs ⟨f, t, pl⟩) (hr : Rd w v 2 (xs.map bv)) (hrf : Rd w vf 1 (f.map iv)) (hrt : Rd w vt 1 (t.map iv)) (hrp : Rd w vp 1 (pl.map iv)) (ha : 0 ≤ a ∧ a < n) (hb : 0 ≤ b ∧ b < n) (hab : a ≠ b) (hs : (findP n xs (⟨f, t, pl⟩ : PS) a b).isSome = true) :
    CN Try.prog 63 [.agg #[.int .i64 (n : Int), v], .agg #[vf, vt, vp], .int .i64 a, .int .i64 b] w (Value × Value × Value) (fun _ => True) (fun x => .tuple #[.agg #[x.1, x.2.1, x.2.2], .bool true]) (fun x => [.row x.1 3 1 (((outP n xs (⟨f, t, pl⟩ : PS) a b).f).map iv), .row x.2.1 3 1 (((outP n xs (⟨f, t, pl⟩ : PS) a b).t).map iv), .row x.2.2 3 1 (((outP n xs (⟨f, t, pl⟩ : PS) a b).pl).map iv)]) :=
  (l4Find_c n k v xs vf vt vp f t pl a b w hn hk hxl hp hr hrf hrt hrp ha hb hab).mono fun en w' ⟨x, h1, h2, h3⟩ => by
    cases x with
    | none => rw [hs] at h2; cases h2
    | some y => exact ⟨y, h1, trivial, h3⟩
theorem l4Find_no (n : Nat) (k : Int) (v : Value) (xs : List (Int × Int)) (vf vt vp : Value) (f t pl : List Int) (a b : Int) (w : World) (hn : n ≤ 8) (hk : k ≤ 3) (hxl : xs.length ≤ 1048576) (hp : okP n k xs ⟨f, t, pl⟩) (hr : Rd w v 2 (xs.map bv)) (hrf : Rd w vf 1 (f.map iv)) (hrt : Rd w vt 1 (t.map iv)) (hrp : Rd w vp 1 (pl.map iv)) (ha : 0 ≤ a ∧ a < n) (hb : 0 ≤ b ∧ b < n) (hab : a ≠ b) (hs : findP n xs (⟨f, t, pl⟩ : PS) a b = none) :
    CS Try.prog 63 [.agg #[.int .i64 (n : Int), v], .agg #[vf, vt, vp], .int .i64 a, .int .i64 b] w (.tuple #[.agg #[vf, vt, vp], .bool false]) :=
  (l4Find_c n k v xs vf vt vp f t pl a b w hn hk hxl hp hr hrf hrt hrp ha hb hab).mono fun en w' ⟨x, h1, h2, h3⟩ => by
    cases x with
    | none => exact ⟨h1, h3.1⟩
    | some y => rw [hs] at h2; cases h2
theorem l4Gather_c (n : Nat) (k : Int) (v : Value) (xs : List (Int × Int)) (vf vt vp : Value) (f t pl : List Int) (a b want : Int) (w : World) (hn : n ≤ 8) (hk : k ≤ 3) (hxl : xs.length ≤ 1048576) (hp : okP n k xs ⟨f, t, pl⟩) (hr : Rd w v 2 (xs.map bv)) (hrf : Rd w vf 1 (f.map iv)) (hrt : Rd w vt 1 (t.map iv)) (hrp : Rd w vp 1 (pl.map iv)) (ha : 0 ≤ a ∧ a < n) (hb : 0 ≤ b ∧ b < n) (hab : a ≠ b) (hw : want ≤ 7) :
    CN Try.prog 50 [.agg #[.int .i64 (n : Int), v], .agg #[vf, vt, vp], .int .i64 a, .int .i64 b, .int .i64 want] w (Value × Value × Value) (fun _ => True) (fun x => .tuple #[.agg #[x.1, x.2.1, x.2.2], .bool (gathP n xs a b want 8 (⟨f, t, pl⟩ : PS)).2]) (fun x => [.row x.1 3 1 (((gathP n xs a b want 8 (⟨f, t, pl⟩ : PS)).1.f).map iv), .row x.2.1 3 1 (((gathP n xs a b want 8 (⟨f, t, pl⟩ : PS)).1.t).map iv), .row x.2.2 3 1 (((gathP n xs a b want 8 (⟨f, t, pl⟩ : PS)).1.pl).map iv)]) := by
 have hl_xs : xs.length ≤ 9223372036854775807 := (by obtain ⟨_, _, _, hh, _⟩ := hr.shape; simpa using hh)
 have hfl : f.length = n := hp.fl
 have htl : t.length = pl.length := hp.pv.tl
 have hpx : pl.length ≤ xs.length := asc_len hp
 have hfa0 := fv_rng hp ha.1 ha.2
 have hfb0 := fv_rng hp hb.1 hb.2
 simp only [gI] at hfa0 hfb0
 refine calls_of_J (mu := (fun _ => False)) (m := [.ro v 2 (xs.map bv), .ro vf 1 (f.map iv), .ro vt 1 (t.map iv), .ro vp 1 (pl.map iv)]) (e := [(0, .agg #[.int .i64 (n : Int), v]), (1, .agg #[vf, vt, vp]), (2, .int .i64 a), (3, .int .i64 b), (4, .int .i64 want)]) Try.func50 rfl rfl (.cons rfl (.cons rfl (.cons rfl (.cons rfl (.cons rfl .nil))))) ((((((St.init _ _).ro0 hrp (by decide)).ro0 hrt (by decide)).ro0 hrf (by decide)).ro0 hr (by decide))) ?_
 refine J.seq ?_
 refine J.reg ?_
 refine WL.efS (EF.boxA rfl) rfl rfl ?_
 intro b5 _
 refine WL.efS (EF.boxA rfl) rfl rfl ?_
 intro b6 _
 refine WL.efS (EF.allocA) rfl rfl ?_
 intro b10 _
 refine WL.rd (RD.assign rfl) rfl rfl ?_
 refine WL.nil ?_
 refine JE.seqN ?_
 refine J.seq ?_
 refine J.reg ?_
 refine WL.rd (RD.loadA rfl rfl) rfl rfl ?_
 refine WL.efS (EF.callN (.cons rfl .nil) (fun w hS => l4Copy_c _ _ _ _ _ _ _ (by exact RdI.rd hS) (by exact RdI.rd hS) (by exact RdI.rd hS) (by omega) (by omega) (by omega))) rfl rfl ?_
 rintro ⟨f16, t16, p16⟩ -
 refine WL.efS (EF.allocA) rfl rfl ?_
 intro b12 _
 refine WL.efN (EF.storeA rfl rfl rfl rfl) rfl ?_
 rintro ⟨⟩ -
 refine WL.nil ?_
 refine JE.seqN ?_
 refine J.seq ?_
 refine J.block ?_
 refine J.loop (fun gg ee mm => ∃ (f2 : List Int), ∃ (t2 : List Int), ∃ (r : Nat), ∃ (uf : Value), ∃ (ut : Value), ∃ (up : Value), gg = 1 + r ∧ ((okP n k xs (⟨f2, t2, pl⟩ : PS)) ∧ (gathP n xs a b want r (⟨f2, t2, pl⟩ : PS) = (gathP n xs a b want 8 (⟨f, t, pl⟩ : PS))) ∧ (want - (f2.getD a.toNat default + f2.getD b.toNat default) < (r : Int)) ∧ (0 < r)) ∧ ee = [(2, .int .i64 a), (3, .int .i64 b), (4, .int .i64 want), (5, .pointer (some ⟨b5, 0, none⟩)), (10, .pointer (some ⟨b10, 0, none⟩)), (12, .pointer (some ⟨b12, 0, none⟩))] ∧ mm = [.cells b12 31 [uf, ut, up], .row uf 3 1 ((f2).map iv), .row ut 3 1 ((t2).map iv), .row up 3 1 ((pl).map iv), .cells b10 31 [.slice none 0 0, .slice none 0 0, .slice none 0 0], .cells b6 31 [vf, vt, vp], .cells b5 26 [.int .i64 (n : Int), v], .ro v 2 (xs.map bv), .ro vf 1 (f.map iv), .ro vt 1 (t.map iv), .ro vp 1 (pl.map iv)]) _ ⟨f, t, 8, f16, t16, p16, rfl, ?_, rfl, rfl⟩ ?_ ?_ ?_
 · exact ⟨hp, rfl, by omega, by omega⟩
 · exact (Sub.consE rfl (by first | rfl | (congr 1; omega) | (simp; done)) (Sub.consE rfl (by first | rfl | (congr 1; omega) | (simp; done)) (Sub.consE rfl (by first | rfl | (congr 1; omega) | (simp; done)) (Sub.consE rfl (by first | rfl | (congr 1; omega) | (simp; done)) (Sub.consE rfl (by first | rfl | (congr 1; omega) | (simp; done)) (Sub.consE rfl (by first | rfl | (congr 1; omega) | (simp; done)) .nil))))))
 · exact (SubM.cells rfl (by first | rfl | (simp; done)) (SubM.row rfl rfl (by first | rfl | (simp [iv, bv, yv, tv, sv]; done)) (SubM.row rfl rfl (by first | rfl | (simp [iv, bv, yv, tv, sv]; done)) (SubM.row rfl rfl (by first | rfl | (simp [iv, bv, yv, tv, sv]; done)) (SubM.cells rfl (by first | rfl | (simp; done)) (SubM.cells rfl (by first | rfl | (simp; done)) (SubM.cells rfl (by first | rfl | (simp; done)) (SubM.ro rfl (by first | rfl | (simp [iv, bv, yv, tv, sv]; done)) (SubM.ro rfl (by first | rfl | (simp [iv, bv, yv, tv, sv]; done)) (SubM.ro rfl (by first | rfl | (simp [iv, bv, yv, tv, sv]; done)) (SubM.ro rfl (by first | rfl | (simp [iv, bv, yv, tv, sv]; done)) .nil)))))))))))
 ·
  rintro g _ _ ⟨f2, t2, r, uf, ut, up, rfl, hI, rfl, rfl⟩
  have hfl2 : f2.length = n := hI.1.fl
  have htl2 : t2.length = pl.length := hI.1.pv.tl
  have hfa := fv_rng hI.1 ha.1 ha.2
  have hfb := fv_rng hI.1 hb.1 hb.2
  simp only [gI] at hfa hfb
  refine J.seq ?_
  refine J.seq ?_
  refine J.anyAll [] ?_
  refine WA.takeP 0 rfl (RDP.of fun _ => RD.fieldC rfl rfl) rfl (by kernel_rfl) rfl ?_
  refine WA.take 1 rfl (RD.loadC rfl rfl) rfl (by kernel_rfl) rfl ?_
  refine WA.takeP 2 rfl (RDP.of fun _ => RD.move rfl) rfl (by kernel_rfl) rfl ?_
  refine WA.takeP 3 rfl (RDP.idx (j := a.toNat) (hj := ⟨by omega⟩) rfl rfl (by omega) rfl) rfl (by kernel_rfl) rfl ?_
  refine WA.take 4 rfl (RD.loadE rfl (by omega) rfl) rfl (by kernel_rfl) rfl ?_
  refine WA.takeP 5 rfl (RDP.of fun _ => RD.fieldC rfl rfl) rfl (by kernel_rfl) rfl ?_
  refine WA.take 6 rfl (RD.loadC rfl rfl) rfl (by kernel_rfl) rfl ?_
  refine WA.takeP 7 rfl (RDP.of fun _ => RD.move rfl) rfl (by kernel_rfl) rfl ?_
  refine WA.takeP 8 rfl (RDP.idx (j := b.toNat) (hj := ⟨by omega⟩) rfl rfl (by omega) rfl) rfl (by kernel_rfl) rfl ?_
  refine WA.take 9 rfl (RD.loadE rfl (by omega) rfl) rfl (by kernel_rfl) rfl ?_
  refine WA.takeP 10 rfl (RDP.of fun _ => RD.add rfl rfl (by omega) (by omega)) rfl (by kernel_rfl) rfl ?_
  refine WA.takeP 11 rfl (RDP.of fun _ => RD.move rfl) rfl (by kernel_rfl) rfl ?_
  refine WA.takeP 12 rfl (RDP.of fun _ => RD.lss rfl rfl) rfl (by kernel_rfl) rfl ?_
  refine WA.done (by kernel_rfl) ?_
  refine JE.seqN ?_
  refine J.condP rfl (fun hc29 => ?_) (fun hc29 => ?_)
  ·
   refine J.skip ?_
   refine JE.seqN ?_
   refine J.block ?_
   refine J.seq ?_
   refine J.reg ?_
   refine WL.rd (RD.loadA rfl rfl) rfl rfl ?_
   refine WL.rd (RD.loadA rfl rfl) rfl rfl ?_
   refine WL.rd (RD.move rfl) rfl rfl ?_
   refine WL.rd (RD.move rfl) rfl rfl ?_
   rcases hf1 : findP n xs (⟨f2, t2, pl⟩ : PS) a b with _ | y1
   ·
    refine WL.efS (EF.callS (.cons rfl (.cons rfl (.cons rfl (.cons rfl .nil)))) (fun w hS => l4Find_no n k _ xs _ _ _ _ _ _ a b _ hn hk hxl hI.1 (by exact RdI.rd hS) (by exact RdI.rd hS) (by exact RdI.rd hS) (by exact RdI.rd hS) ha hb hab hf1)) rfl rfl ?_
    rintro ⟨⟩ -
    refine WL.rd (RD.move rfl) rfl rfl ?_
    refine WL.rd (RD.extract rfl rfl) rfl rfl ?_
    refine WL.rd (RD.extract rfl rfl) rfl rfl ?_
    refine WL.efS (EF.allocA) rfl rfl ?_
    intro b13 _
    refine WL.efN (EF.storeA rfl rfl rfl rfl) rfl ?_
    rintro ⟨⟩ -
    refine WL.rd (RD.assign rfl) rfl rfl ?_
    refine WL.nil ?_
    refine JE.seqN ?_
    refine J.seq ?_
    refine J.seq ?_
    refine J.reg ?_
    refine WL.rd (RD.move rfl) rfl rfl ?_
    refine WL.rd (RD.notF rfl) rfl rfl ?_
    refine WL.nil ?_
    refine JE.seqN ?_
    refine J.condT rfl ?_
    refine J.reg ?_
    refine WL.rd (RD.loadA rfl rfl) rfl rfl ?_
    refine WL.rd (RD.loadA rfl rfl) rfl rfl ?_
    refine WL.rd (RD.move rfl) rfl rfl ?_
    refine WL.rd (RD.move rfl) rfl rfl ?_
    rcases hf2 : findP n xs (⟨f2, t2, pl⟩ : PS) b a with _ | y2
    ·
     refine WL.efS (EF.callS (.cons rfl (.cons rfl (.cons rfl (.cons rfl .nil)))) (fun w hS => l4Find_no n k _ xs _ _ _ _ _ _ b a _ hn hk hxl hI.1 (by exact RdI.rd hS) (by exact RdI.rd hS) (by exact RdI.rd hS) (by exact RdI.rd hS) hb ha (Ne.symm hab) hf2)) rfl rfl ?_
     rintro ⟨⟩ -
     refine WL.rd (RD.move rfl) rfl rfl ?_
     refine WL.rd (RD.extract rfl rfl) rfl rfl ?_
     refine WL.rd (RD.extract rfl rfl) rfl rfl ?_
     refine WL.efN (EF.storeA rfl rfl rfl rfl) rfl ?_
     rintro ⟨⟩ -
     refine WL.rd (RD.assign rfl) rfl rfl ?_
     refine WL.nil ?_
     refine JE.seqN ?_
     refine J.seq ?_
     refine J.seq ?_
     refine J.reg ?_
     refine WL.rd (RD.move rfl) rfl rfl ?_
     refine WL.rd (RD.notF rfl) rfl rfl ?_
     refine WL.nil ?_
     refine JE.seqN ?_
     refine J.condT rfl ?_
     refine J.seq ?_
     refine J.reg ?_
     refine WL.rd (RD.loadA rfl rfl) rfl rfl ?_
     refine WL.efN (EF.storeA rfl rfl rfl rfl) rfl ?_
     rintro ⟨⟩ -
     refine WL.rd (RD.assign rfl) rfl rfl ?_
     refine WL.nil ?_
     refine JE.seqN ?_
     refine J.ret ?_
     refine JE.ret rfl (ResL.flat rfl rfl (.tmp rfl .nil)) (fun w hS => ?_)
     have hG := gath_none (by exact hc29) hf1 hf2 hI.2.2.2
     rw [hI.2.1] at hG
     exact CN.fin hS (uf, ut, up) (by rw [hG]; rfl) trivial (SubM.row rfl rfl (by rw [hG]) (SubM.row rfl rfl (by rw [hG]) (SubM.row rfl rfl (by rw [hG]) .nil))) (by simp [En.rdb])
    ·
     refine WL.efS (EF.callN (.cons rfl (.cons rfl (.cons rfl (.cons rfl .nil)))) (fun w hS => l4Find_yes n k _ xs _ _ _ _ _ _ b a _ hn hk hxl hI.1 (by exact RdI.rd hS) (by exact RdI.rd hS) (by exact RdI.rd hS) (by exact RdI.rd hS) hb ha (Ne.symm hab) (by rw [hf2]; rfl))) rfl rfl ?_
     rintro ⟨f45, t45, p45⟩ -
     refine WL.rd (RD.move rfl) rfl rfl ?_
     refine WL.rd (RD.extract rfl rfl) rfl rfl ?_
     refine WL.rd (RD.extract rfl rfl) rfl rfl ?_
     refine WL.efN (EF.storeA rfl rfl rfl rfl) rfl ?_
     rintro ⟨⟩ -
     refine WL.rd (RD.assign rfl) rfl rfl ?_
     refine WL.nil ?_
     refine JE.seqN ?_
     refine J.seq ?_
     refine J.seq ?_
     refine J.reg ?_
     refine WL.rd (RD.move rfl) rfl rfl ?_
     refine WL.rd (RD.notT rfl) rfl rfl ?_
     refine WL.nil ?_
     refine JE.seqN ?_
     refine J.condF rfl ?_
     refine J.skip ?_
     refine JE.seqN ?_
     refine J.reg ?_
     refine WL.rd (RD.loadA rfl rfl) rfl rfl ?_
     refine WL.efN (EF.storeA rfl rfl rfl rfl) rfl ?_
     rintro ⟨⟩ -
     refine WL.nil ?_
     refine JE.blockN ?_
     refine JE.cutN ⟨_, ?_, (outP n xs (⟨f2, t2, pl⟩ : PS) b a).f, (outP n xs (⟨f2, t2, pl⟩ : PS) b a).t, r - 1, f45, t45, p45, rfl, ?_, rfl, rfl⟩ ?_ ?_
     · omega
     · have hs : (findP n xs (⟨f2, t2, pl⟩ : PS) b a).isSome = true := (by rw [hf2]; rfl); have ho := out_ok hI.1 hb ha (Ne.symm hab) hs; have he := ps_eta ho.2.1; have h3 := ho.2.2.1; have h4 := ho.2.2.2; simp only [gI] at h3 h4; exact ⟨by rw [he]; exact ho.1, by rw [he, ← gath_b (by exact hc29) hf1 hs hI.2.2.2]; exact hI.2.1, by omega, by omega⟩
     · exact (Sub.consE rfl (by first | rfl | (congr 1; omega) | (simp; done)) (Sub.consE rfl (by first | rfl | (congr 1; omega) | (simp; done)) (Sub.consE rfl (by first | rfl | (congr 1; omega) | (simp; done)) (Sub.consE rfl (by first | rfl | (congr 1; omega) | (simp; done)) (Sub.consE rfl (by first | rfl | (congr 1; omega) | (simp; done)) (Sub.consE rfl (by first | rfl | (congr 1; omega) | (simp; done)) .nil))))))
     · exact (SubM.cells rfl (by first | rfl | (simp; done)) (SubM.row rfl rfl (by first | rfl | (simp [iv, bv, yv, tv, sv]; done)) (SubM.row rfl rfl (by first | rfl | (simp [iv, bv, yv, tv, sv]; done)) (SubM.row rfl rfl (by rw [(out_ok hI.1 hb ha (Ne.symm hab) (by rw [hf2]; rfl)).2.1]) (SubM.cells rfl (by first | rfl | (simp; done)) (SubM.cells rfl (by first | rfl | (simp; done)) (SubM.cells rfl (by first | rfl | (simp; done)) (SubM.ro rfl (by first | rfl | (simp [iv, bv, yv, tv, sv]; done)) (SubM.ro rfl (by first | rfl | (simp [iv, bv, yv, tv, sv]; done)) (SubM.ro rfl (by first | rfl | (simp [iv, bv, yv, tv, sv]; done)) (SubM.ro rfl (by first | rfl | (simp [iv, bv, yv, tv, sv]; done)) .nil)))))))))))
   ·
    refine WL.efS (EF.callN (.cons rfl (.cons rfl (.cons rfl (.cons rfl .nil)))) (fun w hS => l4Find_yes n k _ xs _ _ _ _ _ _ a b _ hn hk hxl hI.1 (by exact RdI.rd hS) (by exact RdI.rd hS) (by exact RdI.rd hS) (by exact RdI.rd hS) ha hb hab (by rw [hf1]; rfl))) rfl rfl ?_
    rintro ⟨f35, t35, p35⟩ -
    refine WL.rd (RD.move rfl) rfl rfl ?_
    refine WL.rd (RD.extract rfl rfl) rfl rfl ?_
    refine WL.rd (RD.extract rfl rfl) rfl rfl ?_
    refine WL.efS (EF.allocA) rfl rfl ?_
    intro b13 _
    refine WL.efN (EF.storeA rfl rfl rfl rfl) rfl ?_
    rintro ⟨⟩ -
    refine WL.rd (RD.assign rfl) rfl rfl ?_
    refine WL.nil ?_
    refine JE.seqN ?_
    refine J.seq ?_
    refine J.seq ?_
    refine J.reg ?_
    refine WL.rd (RD.move rfl) rfl rfl ?_
    refine WL.rd (RD.notT rfl) rfl rfl ?_
    refine WL.nil ?_
    refine JE.seqN ?_
    refine J.condF rfl ?_
    refine J.skip ?_
    refine JE.seqN ?_
    refine J.seq ?_
    refine J.seq ?_
    refine J.reg ?_
    refine WL.rd (RD.move rfl) rfl rfl ?_
    refine WL.rd (RD.notT rfl) rfl rfl ?_
    refine WL.nil ?_
    refine JE.seqN ?_
    refine J.condF rfl ?_
    refine J.skip ?_
    refine JE.seqN ?_
    refine J.reg ?_
    refine WL.rd (RD.loadA rfl rfl) rfl rfl ?_
    refine WL.efN (EF.storeA rfl rfl rfl rfl) rfl ?_
    rintro ⟨⟩ -
    refine WL.nil ?_
    refine JE.blockN ?_
    refine JE.cutN ⟨_, ?_, (outP n xs (⟨f2, t2, pl⟩ : PS) a b).f, (outP n xs (⟨f2, t2, pl⟩ : PS) a b).t, r - 1, f35, t35, p35, rfl, ?_, rfl, rfl⟩ ?_ ?_
    · omega
    · have hs : (findP n xs (⟨f2, t2, pl⟩ : PS) a b).isSome = true := (by rw [hf1]; rfl); have ho := out_ok hI.1 ha hb hab hs; have he := ps_eta ho.2.1; have h3 := ho.2.2.1; have h4 := ho.2.2.2; simp only [gI] at h3 h4; exact ⟨by rw [he]; exact ho.1, by rw [he, ← gath_a (by exact hc29) hs hI.2.2.2]; exact hI.2.1, by omega, by omega⟩
    · exact (Sub.consE rfl (by first | rfl | (congr 1; omega) | (simp; done)) (Sub.consE rfl (by first | rfl | (congr 1; omega) | (simp; done)) (Sub.consE rfl (by first | rfl | (congr 1; omega) | (simp; done)) (Sub.consE rfl (by first | rfl | (congr 1; omega) | (simp; done)) (Sub.consE rfl (by first | rfl | (congr 1; omega) | (simp; done)) (Sub.consE rfl (by first | rfl | (congr 1; omega) | (simp; done)) .nil))))))
    · exact (SubM.cells rfl (by first | rfl | (simp; done)) (SubM.row rfl rfl (by first | rfl | (simp [iv, bv, yv, tv, sv]; done)) (SubM.row rfl rfl (by first | rfl | (simp [iv, bv, yv, tv, sv]; done)) (SubM.row rfl rfl (by rw [(out_ok hI.1 ha hb hab (by rw [hf1]; rfl)).2.1]) (SubM.cells rfl (by first | rfl | (simp; done)) (SubM.cells rfl (by first | rfl | (simp; done)) (SubM.cells rfl (by first | rfl | (simp; done)) (SubM.ro rfl (by first | rfl | (simp [iv, bv, yv, tv, sv]; done)) (SubM.ro rfl (by first | rfl | (simp [iv, bv, yv, tv, sv]; done)) (SubM.ro rfl (by first | rfl | (simp [iv, bv, yv, tv, sv]; done)) (SubM.ro rfl (by first | rfl | (simp [iv, bv, yv, tv, sv]; done)) .nil)))))))))))
  ·
   refine J.exit ?_
   refine JE.seqX ?_
   refine JE.cutX ?_
   refine JE.blockHit ?_
   refine JE.seqN ?_
   refine J.seq ?_
   refine J.reg ?_
   refine WL.rd (RD.loadA rfl rfl) rfl rfl ?_
   refine WL.efN (EF.storeA rfl rfl rfl rfl) rfl ?_
   rintro ⟨⟩ -
   refine WL.rd (RD.assign rfl) rfl rfl ?_
   refine WL.nil ?_
   refine JE.seqN ?_
   refine J.ret ?_
   refine JE.ret rfl (ResL.flat rfl rfl (.tmp rfl .nil)) (fun w hS => ?_)
   have hG := gath_done (n := n) (xs := xs) (p := (⟨f2, t2, pl⟩ : PS)) (by exact hc29) hI.2.2.2
   rw [hI.2.1] at hG
   exact CN.fin hS (uf, ut, up) (by rw [hG]; rfl) trivial (SubM.row rfl rfl (by rw [hG]) (SubM.row rfl rfl (by rw [hG]) (SubM.row rfl rfl (by rw [hG]) .nil))) (by simp [En.rdb])
theorem l4Gather_i (n k : Int) (v : Value) (xs : List (Int × Int)) (vf vt vp : Value) (f t pl : List Int) (a b want : Int) (w : World) (hn : 0 ≤ n ∧ n ≤ 8) (hk : k ≤ 3) (hxl : xs.length ≤ 1048576) (hp : okP n.toNat k xs ⟨f, t, pl⟩) (hr : Rd w v 2 (xs.map bv)) (hrf : Rd w vf 1 (f.map iv)) (hrt : Rd w vt 1 (t.map iv)) (hrp : Rd w vp 1 (pl.map iv)) (ha : 0 ≤ a ∧ a < n) (hb : 0 ≤ b ∧ b < n) (hab : a ≠ b) (hw : want ≤ 7) :
    CN Try.prog 50 [.agg #[.int .i64 n, v], .agg #[vf, vt, vp], .int .i64 a, .int .i64 b, .int .i64 want] w (Value × Value × Value) (fun _ => True) (fun x => .tuple #[.agg #[x.1, x.2.1, x.2.2], .bool (gathP n.toNat xs a b want 8 (⟨f, t, pl⟩ : PS)).2]) (fun x => [.row x.1 3 1 (((gathP n.toNat xs a b want 8 (⟨f, t, pl⟩ : PS)).1.f).map iv), .row x.2.1 3 1 (((gathP n.toNat xs a b want 8 (⟨f, t, pl⟩ : PS)).1.t).map iv), .row x.2.2 3 1 (((gathP n.toNat xs a b want 8 (⟨f, t, pl⟩ : PS)).1.pl).map iv)]) := by
  have h := l4Gather_c n.toNat k v xs vf vt vp f t pl a b want w (by omega) hk hxl hp hr hrf hrt hrp (by omega) (by omega) hab hw
  rw [Int.toNat_of_nonneg hn.1] at h
  exact h

end Go.Proofs.Ytpojkjabngkfgaa
