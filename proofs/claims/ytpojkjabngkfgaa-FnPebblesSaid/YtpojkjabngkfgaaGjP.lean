/- Contracts of functions of the program, each walked once; written by a program of our own. -/
import Derived.Test.YtpojkjabngkfgaaGiP
namespace Go.Proofs.Ytpojkjabngkfgaa
open Go Go.RowKit
set_option maxRecDepth 4000

theorem gather_c (n : Nat) (k : Int) (v : Value) (xs : List (Int × Int)) (bp : Nat) (vf vt vp : Value) (f t pl : List Int) (a b want : Int) (w : World) (hn : n ≤ 8) (hk : k ≤ 3) (hxl : xs.length ≤ 1048576) (hp : okP n k xs ⟨f, t, pl⟩) (ha : 0 ≤ a ∧ a < n) (hb : 0 ≤ b ∧ b < n) (hab : a ≠ b) (hw : want ≤ 7) :
    CM Try.prog 47 [v, .pointer (some ⟨bp, 0, none⟩), .int .i64 a, .int .i64 b, .int .i64 want] w [.cells bp 31 [vf, vt, vp], .row vf 3 1 ((f).map iv), .row vt 3 1 ((t).map iv), .row vp 3 1 ((pl).map iv)] [.ro v 2 (xs.map bv)] Unit (fun _ => True) (fun _ => .bool (gathP n xs a b want 8 (⟨f, t, pl⟩ : PS)).2) (fun _x => [.cells bp 31 [vf, vt, vp], .row vf 3 1 (((gathP n xs a b want 8 (⟨f, t, pl⟩ : PS)).1.f).map iv), .row vt 3 1 (((gathP n xs a b want 8 (⟨f, t, pl⟩ : PS)).1.t).map iv), .row vp 3 1 ((pl).map iv)]) := by
 intro hSt
 have hfa0 := fv_rng hp ha.1 ha.2
 have hfb0 := fv_rng hp hb.1 hb.2
 simp only [gI] at hfa0 hfb0
 refine calls_of_J (mu := (muOf [.cells bp 31 [vf, vt, vp], .row vf 3 1 ((f).map iv), .row vt 3 1 ((t).map iv), .row vp 3 1 ((pl).map iv)])) (m := [.cells bp 31 [vf, vt, vp], .row vf 3 1 ((f).map iv), .row vt 3 1 ((t).map iv), .row vp 3 1 ((pl).map iv), .ro v 2 (xs.map bv)]) (e := [(0, v), (1, .pointer (some ⟨bp, 0, none⟩)), (2, .int .i64 a), (3, .int .i64 b), (4, .int .i64 want)]) Try.func47 rfl rfl (.cons rfl (.cons rfl (.cons rfl (.cons rfl (.cons rfl .nil))))) (hSt) ?_
 refine J.seq ?_
 refine J.reg ?_
 refine WL.rd (RD.assign rfl) rfl rfl ?_
 refine WL.nil ?_
 refine JE.seqN ?_
 refine J.seq ?_
 refine J.block ?_
 refine J.loop (fun gg ee mm => ∃ (f2 : List Int), ∃ (t2 : List Int), ∃ (r : Nat), gg = 1 + r ∧ ((okP n k xs (⟨f2, t2, pl⟩ : PS)) ∧ (gathP n xs a b want r (⟨f2, t2, pl⟩ : PS) = (gathP n xs a b want 8 (⟨f, t, pl⟩ : PS))) ∧ (want - (f2.getD a.toNat default + f2.getD b.toNat default) < (r : Int)) ∧ (0 < r)) ∧ ee = [(0, v), (1, .pointer (some ⟨bp, 0, none⟩)), (2, .int .i64 a), (3, .int .i64 b), (4, .int .i64 want)] ∧ mm = [.cells bp 31 [vf, vt, vp], .row vf 3 1 ((f2).map iv), .row vt 3 1 ((t2).map iv), .row vp 3 1 ((pl).map iv), .ro v 2 (xs.map bv)]) _ ⟨f, t, 8, rfl, ?_, rfl, rfl⟩ ?_ ?_ ?_
 · exact ⟨hp, rfl, by omega, by omega⟩
 · exact (Sub.consE rfl (by first | rfl | (congr 1; omega) | (simp; done)) (Sub.consE rfl (by first | rfl | (congr 1; omega) | (simp; done)) (Sub.consE rfl (by first | rfl | (congr 1; omega) | (simp; done)) (Sub.consE rfl (by first | rfl | (congr 1; omega) | (simp; done)) (Sub.consE rfl (by first | rfl | (congr 1; omega) | (simp; done)) .nil)))))
 · exact (SubM.cells rfl (by first | rfl | (simp; done)) (SubM.row rfl rfl (by first | rfl | (simp [iv, bv, yv, tv, sv]; done)) (SubM.row rfl rfl (by first | rfl | (simp [iv, bv, yv, tv, sv]; done)) (SubM.row rfl rfl (by first | rfl | (simp [iv, bv, yv, tv, sv]; done)) (SubM.ro rfl (by first | rfl | (simp [iv, bv, yv, tv, sv]; done)) .nil)))))
 ·
  rintro g _ _ ⟨f2, t2, r, rfl, hI, rfl, rfl⟩
  have hfl2 : f2.length = n := hI.1.fl
  have hfa := fv_rng hI.1 ha.1 ha.2
  have hfb := fv_rng hI.1 hb.1 hb.2
  simp only [gI] at hfa hfb
  refine J.seq ?_
  refine J.seq ?_
  refine J.anyAll [] ?_
  refine WA.takeP 0 rfl (RDP.of fun _ => RD.move rfl) rfl (by kernel_rfl) rfl ?_
  refine WA.takeP 1 rfl (RDP.of fun _ => RD.nilP rfl) rfl (by kernel_rfl) rfl ?_
  refine WA.takeP 2 rfl (RDP.of fun _ => RD.fieldC rfl rfl) rfl (by kernel_rfl) rfl ?_
  refine WA.take 3 rfl (RD.loadC rfl rfl) rfl (by kernel_rfl) rfl ?_
  refine WA.takeP 4 rfl (RDP.of fun _ => RD.move rfl) rfl (by kernel_rfl) rfl ?_
  refine WA.takeP 5 rfl (RDP.idx (j := a.toNat) (hj := ⟨by omega⟩) rfl rfl (by omega) rfl) rfl (by kernel_rfl) rfl ?_
  refine WA.take 6 rfl (RD.loadE rfl (by omega) rfl) rfl (by kernel_rfl) rfl ?_
  refine WA.takeP 7 rfl (RDP.of fun _ => RD.move rfl) rfl (by kernel_rfl) rfl ?_
  refine WA.takeP 8 rfl (RDP.of fun _ => RD.nilP rfl) rfl (by kernel_rfl) rfl ?_
  refine WA.takeP 9 rfl (RDP.of fun _ => RD.fieldC rfl rfl) rfl (by kernel_rfl) rfl ?_
  refine WA.take 10 rfl (RD.loadC rfl rfl) rfl (by kernel_rfl) rfl ?_
  refine WA.takeP 11 rfl (RDP.of fun _ => RD.move rfl) rfl (by kernel_rfl) rfl ?_
  refine WA.takeP 12 rfl (RDP.idx (j := b.toNat) (hj := ⟨by omega⟩) rfl rfl (by omega) rfl) rfl (by kernel_rfl) rfl ?_
  refine WA.take 13 rfl (RD.loadE rfl (by omega) rfl) rfl (by kernel_rfl) rfl ?_
  refine WA.takeP 14 rfl (RDP.of fun _ => RD.add rfl rfl (by omega) (by omega)) rfl (by kernel_rfl) rfl ?_
  refine WA.takeP 15 rfl (RDP.of fun _ => RD.move rfl) rfl (by kernel_rfl) rfl ?_
  refine WA.takeP 16 rfl (RDP.of fun _ => RD.lss rfl rfl) rfl (by kernel_rfl) rfl ?_
  refine WA.done (by kernel_rfl) ?_
  refine JE.seqN ?_
  refine J.condP rfl (fun hc27 => ?_) (fun hc27 => ?_)
  ·
   refine J.skip ?_
   refine JE.seqN ?_
   refine J.block ?_
   refine J.seq ?_
   refine J.reg ?_
   refine WL.rd (RD.move rfl) rfl rfl ?_
   refine WL.rd (RD.move rfl) rfl rfl ?_
   refine WL.rd (RD.move rfl) rfl rfl ?_
   refine WL.rd (RD.move rfl) rfl rfl ?_
   refine WL.efS (EF.callM (.cons rfl (.cons rfl (.cons rfl (.cons rfl .nil)))) (.cells (.row (.row (.row .nil)))) (.ro .nil) (fun w hS => moveTo_c n k _ xs _ _ _ _ _ _ _ _ _ _ hn hk hxl hI.1 ha hb hab) (by simp [En.rdb])) rfl rfl ?_
   rintro ⟨⟩ -
   refine WL.rd (RD.not rfl) rfl rfl ?_
   refine WL.rd (RD.move rfl) rfl rfl ?_
   refine WL.case 34 rfl (fun hg34 => ?_) (fun hg34 => ?_)
   ·
    have hf1 : findP n xs (⟨f2, t2, pl⟩ : PS) a b = none := by simpa using hg34
    have ho1 := out_none hf1
    simp only [ho1]
    refine WL.rd (RD.move rfl) rfl rfl ?_
    refine WL.rd (RD.move rfl) rfl rfl ?_
    refine WL.rd (RD.move rfl) rfl rfl ?_
    refine WL.rd (RD.move rfl) rfl rfl ?_
    refine WL.efS (EF.callM (.cons rfl (.cons rfl (.cons rfl (.cons rfl .nil)))) (.cells (.row (.row (.row .nil)))) (.ro .nil) (fun w hS => moveTo_c n k _ xs _ _ _ _ _ _ _ _ _ _ hn hk hxl hI.1 hb ha (Ne.symm hab)) (by simp [En.rdb])) rfl rfl ?_
    rintro ⟨⟩ -
    refine WL.rd (RD.not rfl) rfl rfl ?_
    refine WL.rd (RD.pickT rfl rfl) rfl rfl ?_
    refine WL.nil ?_
    refine JE.seqN ?_
    refine J.cond rfl (fun hc41 => ?_) (fun hc41 => ?_)
    ·
     refine J.seq ?_
     refine J.reg ?_
     refine WL.rd (RD.assign rfl) rfl rfl ?_
     refine WL.nil ?_
     refine JE.seqN ?_
     refine J.ret ?_
     refine JE.ret rfl (.tmp rfl .nil) (fun w hS => ?_)
     have hf2 : findP n xs (⟨f2, t2, pl⟩ : PS) b a = none := by simpa using hc41
     have hG := gath_none (by exact hc27) hf1 hf2 hI.2.2.2
     rw [hI.2.1] at hG
     exact CM.fin hS () (by rw [hG]; rfl) trivial (SubM.cells rfl rfl (SubM.row rfl rfl (by rw [hG, out_none hf2]) (SubM.row rfl rfl (by rw [hG, out_none hf2]) (SubM.row rfl rfl (by rfl) .nil)))) (by simp [En.rdb])
    ·
     refine J.skip ?_
     refine JE.blockN ?_
     refine JE.cutN ⟨_, ?_, (outP n xs (⟨f2, t2, pl⟩ : PS) b a).f, (outP n xs (⟨f2, t2, pl⟩ : PS) b a).t, r - 1, rfl, ?_, rfl, rfl⟩ ?_ ?_
     · omega
     · have hs : (findP n xs (⟨f2, t2, pl⟩ : PS) b a).isSome = true := (by simpa using hc41); have ho := out_ok hI.1 hb ha (Ne.symm hab) hs; have he := ps_eta ho.2.1; have h3 := ho.2.2.1; have h4 := ho.2.2.2; simp only [gI] at h3 h4; exact ⟨by rw [he]; exact ho.1, by rw [he, ← gath_b (by exact hc27) hf1 hs hI.2.2.2]; exact hI.2.1, by omega, by omega⟩
     · exact (Sub.consE rfl (by first | rfl | (congr 1; omega) | (simp; done)) (Sub.consE rfl (by first | rfl | (congr 1; omega) | (simp; done)) (Sub.consE rfl (by first | rfl | (congr 1; omega) | (simp; done)) (Sub.consE rfl (by first | rfl | (congr 1; omega) | (simp; done)) (Sub.consE rfl (by first | rfl | (congr 1; omega) | (simp; done)) .nil)))))
     · exact (SubM.cells rfl (by first | rfl | (simp; done)) (SubM.row rfl rfl (by first | rfl | (simp [iv, bv, yv, tv, sv]; done)) (SubM.row rfl rfl (by first | rfl | (simp [iv, bv, yv, tv, sv]; done)) (SubM.row rfl rfl (by first | rfl | (simp [iv, bv, yv, tv, sv]; done)) (SubM.ro rfl (by first | rfl | (simp [iv, bv, yv, tv, sv]; done)) .nil)))))
   ·
    refine WL.noS rfl rfl ?_
    refine WL.noS rfl rfl ?_
    refine WL.noS rfl rfl ?_
    refine WL.noS rfl rfl ?_
    refine WL.noS rfl rfl ?_
    refine WL.noS rfl rfl ?_
    refine WL.rd (RD.pickF rfl rfl) rfl rfl ?_
    refine WL.nil ?_
    refine JE.seqN ?_
    refine J.condF rfl ?_
    refine J.skip ?_
    refine JE.blockN ?_
    refine JE.cutN ⟨_, ?_, (outP n xs (⟨f2, t2, pl⟩ : PS) a b).f, (outP n xs (⟨f2, t2, pl⟩ : PS) a b).t, r - 1, rfl, ?_, rfl, rfl⟩ ?_ ?_
    · omega
    · have hs : (findP n xs (⟨f2, t2, pl⟩ : PS) a b).isSome = true := (by simpa using hg34); have ho := out_ok hI.1 ha hb hab hs; have he := ps_eta ho.2.1; have h3 := ho.2.2.1; have h4 := ho.2.2.2; simp only [gI] at h3 h4; exact ⟨by rw [he]; exact ho.1, by rw [he, ← gath_a (by exact hc27) hs hI.2.2.2]; exact hI.2.1, by omega, by omega⟩
    · exact (Sub.consE rfl (by first | rfl | (congr 1; omega) | (simp; done)) (Sub.consE rfl (by first | rfl | (congr 1; omega) | (simp; done)) (Sub.consE rfl (by first | rfl | (congr 1; omega) | (simp; done)) (Sub.consE rfl (by first | rfl | (congr 1; omega) | (simp; done)) (Sub.consE rfl (by first | rfl | (congr 1; omega) | (simp; done)) .nil)))))
    · exact (SubM.cells rfl (by first | rfl | (simp; done)) (SubM.row rfl rfl (by first | rfl | (simp [iv, bv, yv, tv, sv]; done)) (SubM.row rfl rfl (by first | rfl | (simp [iv, bv, yv, tv, sv]; done)) (SubM.row rfl rfl (by first | rfl | (simp [iv, bv, yv, tv, sv]; done)) (SubM.ro rfl (by first | rfl | (simp [iv, bv, yv, tv, sv]; done)) .nil)))))
  ·
   refine J.exit ?_
   refine JE.seqX ?_
   refine JE.cutX ?_
   refine JE.blockHit ?_
   refine JE.seqN ?_
   refine J.seq ?_
   refine J.reg ?_
   refine WL.rd (RD.assign rfl) rfl rfl ?_
   refine WL.nil ?_
   refine JE.seqN ?_
   refine J.ret ?_
   refine JE.ret rfl (.tmp rfl .nil) (fun w hS => ?_)
   have hG := gath_done (n := n) (xs := xs) (p := (⟨f2, t2, pl⟩ : PS)) (by exact hc27) hI.2.2.2
   rw [hI.2.1] at hG
   exact CM.fin hS () (by rw [hG]; rfl) trivial (SubM.cells rfl rfl (SubM.row rfl rfl (by rw [hG]) (SubM.row rfl rfl (by rw [hG]) (SubM.row rfl rfl (by rfl) .nil)))) (by simp [En.rdb])
theorem place_c (n : Nat) (k : Int) (v : Value) (xs : List (Int × Int)) (bp : Nat) (vf vt vp : Value) (f t pl : List Int) (l : Int) (e : Nat) (w : World) (hn : n ≤ 8) (hk : k ≤ 3) (hxl : xs.length ≤ 1048576) (hp : okP n k xs ⟨f, t, pl⟩) (hl : 0 ≤ l ∧ l + 1 ≤ 7) (he : e < xs.length) (hE : GoodE xs.length n (exs xs)) :
    CM Try.prog 52 [v, .int .i64 l, .pointer (some ⟨bp, 0, none⟩), .int .i64 (e : Int)] w [.cells bp 31 [vf, vt, vp], .row vf 3 1 ((f).map iv), .row vt 3 1 ((t).map iv), .row vp 3 1 ((pl).map iv)] [.ro v 2 (xs.map bv)] (Value × Value) (fun _ => True) (fun _ => .bool (placeP n xs l (⟨f, t, pl⟩ : PS) e).isSome) (fun x => [.cells bp 31 [vf, x.1, x.2], .row vf 3 1 (((plcP n xs l (⟨f, t, pl⟩ : PS) e).f).map iv), .row x.1 3 1 (((plcP n xs l (⟨f, t, pl⟩ : PS) e).t).map iv), .row x.2 3 1 (((plcP n xs l (⟨f, t, pl⟩ : PS) e).pl).map iv)]) := by
 intro hSt
 obtain ⟨e1, e2, e3⟩ := hE e he
 unfold exs at e1 e2 e3
 have hgs := gathP_spec (n := n) (k := k) (xs := xs) (a := (xs.getD e default).1) (b := (xs.getD e default).2) (want := l + 1) (by omega) (by omega) (by omega) 8 (⟨f, t, pl⟩ : PS) hp (by have h1 := hp.pos (xs.getD e default).1 (by omega) (by omega); have h2 := hp.pos (xs.getD e default).2 (by omega) (by omega); omega)
 have hgl : (gathP n xs (xs.getD e default).1 (xs.getD e default).2 (l + 1) 8 (⟨f, t, pl⟩ : PS)).1.f.length = n := hgs.1.fl
 have hpx : pl.length ≤ xs.length := asc_len hp
 have htl : t.length = pl.length := hp.pv.tl
 have hgt : (gathP n xs (xs.getD e default).1 (xs.getD e default).2 (l + 1) 8 (⟨f, t, pl⟩ : PS)).1.t.length = pl.length := by rw [hgs.1.pv.tl, hgs.2.1]
 have hv1 := fv_rng hgs.1 (v := (xs.getD e default).1) (by omega) (by omega)
 have hv2 := fv_rng hgs.1 (v := (xs.getD e default).2) (by omega) (by omega)
 simp only [gI] at hv1 hv2
 refine calls_of_J (mu := (muOf [.cells bp 31 [vf, vt, vp], .row vf 3 1 ((f).map iv), .row vt 3 1 ((t).map iv), .row vp 3 1 ((pl).map iv)])) (m := [.cells bp 31 [vf, vt, vp], .row vf 3 1 ((f).map iv), .row vt 3 1 ((t).map iv), .row vp 3 1 ((pl).map iv), .ro v 2 (xs.map bv)]) (e := [(0, v), (1, .int .i64 l), (2, .pointer (some ⟨bp, 0, none⟩)), (3, .int .i64 (e : Int))]) Try.func52 rfl rfl (.cons rfl (.cons rfl (.cons rfl (.cons rfl .nil)))) (hSt) ?_
 refine J.seq ?_
 refine J.reg ?_
 refine WL.rd (RD.assign rfl) rfl rfl ?_
 refine WL.nil ?_
 refine JE.seqN ?_
 refine J.seq ?_
 refine J.reg ?_
 refine WL.rd (RD.move rfl) rfl rfl ?_
 refine WL.rd (RD.move rfl) rfl rfl ?_
 refine WL.rd (RD.idx rfl rfl (by omega) rfl) rfl rfl ?_
 refine WL.rd (RD.loadEA rfl (by omega) rfl) rfl rfl ?_
 refine WL.efS (EF.allocA) rfl rfl ?_
 intro b9 _
 refine WL.efN (EF.storeA rfl rfl rfl rfl) rfl ?_
 rintro ⟨⟩ -
 refine WL.nil ?_
 refine JE.seqN ?_
 refine J.seq ?_
 refine J.seq ?_
 refine J.reg ?_
 refine WL.rd (RD.move rfl) rfl rfl ?_
 refine WL.rd (RD.move rfl) rfl rfl ?_
 refine WL.rd (RD.fieldC rfl rfl) rfl rfl ?_
 refine WL.rd (RD.loadC rfl rfl) rfl rfl ?_
 refine WL.rd (RD.fieldC rfl rfl) rfl rfl ?_
 refine WL.rd (RD.loadC rfl rfl) rfl rfl ?_
 refine WL.rd (RD.move rfl) rfl rfl ?_
 refine WL.rd (RD.add rfl rfl (by omega) (by omega)) rfl rfl ?_
 refine WL.efS (EF.callM (.cons rfl (.cons rfl (.cons rfl (.cons rfl (.cons rfl .nil))))) (.cells (.row (.row (.row .nil)))) (.ro .nil) (fun w hS => gather_c n k _ xs _ _ _ _ _ _ _ _ _ _ _ hn hk hxl hp (by omega) (by omega) (by omega) (by omega)) (by simp [En.rdb])) rfl rfl ?_
 rintro ⟨⟩ -
 refine WL.rd (RD.not rfl) rfl rfl ?_
 refine WL.nil ?_
 refine JE.seqN ?_
 refine J.cond rfl (fun hc24 => ?_) (fun hc24 => ?_)
 ·
  have hG2 : (gathP n xs (xs.getD e default).1 (xs.getD e default).2 (l + 1) 8 (⟨f, t, pl⟩ : PS)).2 = false := by simpa using hc24
  refine J.seq ?_
  refine J.reg ?_
  refine WL.rd (RD.assign rfl) rfl rfl ?_
  refine WL.nil ?_
  refine JE.seqN ?_
  refine J.ret ?_
  refine JE.ret rfl (.tmp rfl .nil) (fun w hS => ?_)
  have hpc : (plcP n xs l (⟨f, t, pl⟩ : PS) e) = (gathP n xs (xs.getD e default).1 (xs.getD e default).2 (l + 1) 8 (⟨f, t, pl⟩ : PS)).1 := plc_no hG2
  exact CM.fin hS (vt, vp) (by rw [place_isSome]; exact congrArg Value.bool hG2.symm) trivial (SubM.cells rfl rfl (SubM.row rfl rfl (by rw [hpc]) (SubM.row rfl rfl (by rw [hpc]) (SubM.row rfl rfl (by rw [hpc, hgs.2.1]) .nil)))) (by simp [En.rdb])
 ·
  have hG2 : (gathP n xs (xs.getD e default).1 (xs.getD e default).2 (l + 1) 8 (⟨f, t, pl⟩ : PS)).2 = true := by simpa using hc24
  refine J.skip ?_
  refine JE.seqN ?_
  refine J.seq ?_
  refine J.reg ?_
  refine WL.rd (RD.fieldC rfl rfl) rfl rfl ?_
  refine WL.rd (RD.loadC rfl rfl) rfl rfl ?_
  refine WL.rd (RD.assign rfl) rfl rfl ?_
  refine WL.nil ?_
  refine JE.seqN ?_
  refine J.seq ?_
  refine J.seq ?_
  refine J.anyAll [] ?_
  refine WA.takeP 0 rfl (RDP.of fun _ => RD.move rfl) rfl (by kernel_rfl) rfl ?_
  refine WA.takeP 1 rfl (RDP.of fun _ => RD.nilP rfl) rfl (by kernel_rfl) rfl ?_
  refine WA.takeP 2 rfl (RDP.of fun _ => RD.fieldC rfl rfl) rfl (by kernel_rfl) rfl ?_
  refine WA.take 3 rfl (RD.loadC rfl rfl) rfl (by kernel_rfl) rfl ?_
  refine WA.takeP 4 rfl (RDP.of fun _ => RD.fieldC rfl rfl) rfl (by kernel_rfl) rfl ?_
  refine WA.take 5 rfl (RD.loadC rfl rfl) rfl (by kernel_rfl) rfl ?_
  refine WA.takeP 6 rfl (RDP.idx (j := (xs.getD e default).1.toNat) (hj := ⟨by omega⟩) rfl rfl (by omega) rfl) rfl (by kernel_rfl) rfl ?_
  refine WA.take 7 rfl (RD.loadE rfl (by omega) rfl) rfl (by kernel_rfl) rfl ?_
  refine WA.takeP 8 rfl (RDP.of fun _ => RD.eql rfl rfl) rfl (by kernel_rfl) rfl ?_
  refine WA.done (by kernel_rfl) ?_
  refine JE.seqN ?_
  refine J.condP rfl (fun hc35 => ?_) (fun hc35 => ?_)
  ·
   refine J.reg ?_
   refine WL.rd (RD.fieldC rfl rfl) rfl rfl ?_
   refine WL.rd (RD.loadC rfl rfl) rfl rfl ?_
   refine WL.rd (RD.assign rfl) rfl rfl ?_
   refine WL.nil ?_
   refine JE.seqN ?_
   refine J.seq ?_
   refine J.reg ?_
   refine WL.rd (RD.move rfl) rfl rfl ?_
   refine WL.rd (RD.nilP rfl) rfl rfl ?_
   refine WL.rd (RD.fieldC rfl rfl) rfl rfl ?_
   refine WL.rd (RD.loadC rfl rfl) rfl rfl ?_
   refine WL.rd (RD.move rfl) rfl rfl ?_
   refine WL.rd (RD.idx (j := ((xs.getD e default).2).toNat) (hj := ⟨by omega⟩) rfl rfl (by omega) rfl) rfl rfl ?_
   refine WL.rd (RD.loadE rfl (by omega) rfl) rfl rfl ?_
   refine WL.rd (RD.sub rfl rfl (by omega) (by omega)) rfl rfl ?_
   refine WL.rd (RD.idx (j := ((xs.getD e default).2).toNat) (hj := ⟨by omega⟩) rfl rfl (by omega) rfl) rfl rfl ?_
   refine WL.efN (EF.storeI rfl rfl (by omega) rfl rfl) rfl ?_
   rintro ⟨⟩ -
   refine WL.nil ?_
   refine JE.seqN ?_
   refine J.seq ?_
   refine J.reg ?_
   refine WL.rd (RD.move rfl) rfl rfl ?_
   refine WL.rd (RD.move rfl) rfl rfl ?_
   refine WL.rd (RD.nilP rfl) rfl rfl ?_
   refine WL.rd (RD.fieldC rfl rfl) rfl rfl ?_
   refine WL.rd (RD.loadC rfl rfl) rfl rfl ?_
   refine WL.rd (RD.move rfl) rfl rfl ?_
   refine WL.efS (EF.build1 rfl) rfl rfl ?_
   intro v53 _
   refine WL.efS (EF.append rfl rfl (by omega) rfl rfl rfl) rfl rfl ?_
   intro v54 _
   refine WL.rd (RD.nilP rfl) rfl rfl ?_
   refine WL.rd (RD.fieldC rfl rfl) rfl rfl ?_
   refine WL.efN (EF.storeC rfl rfl rfl) rfl ?_
   rintro ⟨⟩ -
   refine WL.nil ?_
   refine JE.seqN ?_
   refine J.seq ?_
   refine J.reg ?_
   refine WL.rd (RD.move rfl) rfl rfl ?_
   refine WL.rd (RD.move rfl) rfl rfl ?_
   refine WL.rd (RD.nilP rfl) rfl rfl ?_
   refine WL.rd (RD.fieldC rfl rfl) rfl rfl ?_
   refine WL.rd (RD.loadC rfl rfl) rfl rfl ?_
   refine WL.rd (RD.move rfl) rfl rfl ?_
   refine WL.efS (EF.build1 rfl) rfl rfl ?_
   intro v63 _
   refine WL.efS (EF.append rfl rfl (by omega) rfl rfl rfl) rfl rfl ?_
   intro v64 _
   refine WL.rd (RD.nilP rfl) rfl rfl ?_
   refine WL.rd (RD.fieldC rfl rfl) rfl rfl ?_
   refine WL.efN (EF.storeC rfl rfl rfl) rfl ?_
   rintro ⟨⟩ -
   refine WL.nil ?_
   refine JE.seqN ?_
   refine J.seq ?_
   refine J.reg ?_
   refine WL.rd (RD.assign rfl) rfl rfl ?_
   refine WL.nil ?_
   refine JE.seqN ?_
   refine J.ret ?_
   refine JE.ret rfl (.tmp rfl .nil) (fun w hS => ?_)
   have ht : tailP (gathP n xs (xs.getD e default).1 (xs.getD e default).2 (l + 1) 8 (⟨f, t, pl⟩ : PS)).1 (exs xs e) = (xs.getD e default).2 := by unfold tailP; rw [if_pos (by exact hc35)]; rfl
   have hpc : (plcP n xs l (⟨f, t, pl⟩ : PS) e) = putP (gathP n xs (xs.getD e default).1 (xs.getD e default).2 (l + 1) 8 (⟨f, t, pl⟩ : PS)).1 (exs xs e) e := plc_yes hG2
   exact CM.fin hS (v54, v64) (by rw [place_isSome]; exact congrArg Value.bool hG2.symm) trivial (SubM.cells rfl rfl (SubM.row rfl rfl (by rw [hpc]; unfold putP; rw [ht]; rfl) (SubM.row rfl rfl (by rw [hpc]; unfold putP; rw [ht]) (SubM.row rfl rfl (by rw [hpc]; unfold putP; rw [hgs.2.1]) .nil)))) (by simp [En.rdb])
  ·
   refine J.skip ?_
   refine JE.seqN ?_
   refine J.seq ?_
   refine J.reg ?_
   refine WL.rd (RD.move rfl) rfl rfl ?_
   refine WL.rd (RD.nilP rfl) rfl rfl ?_
   refine WL.rd (RD.fieldC rfl rfl) rfl rfl ?_
   refine WL.rd (RD.loadC rfl rfl) rfl rfl ?_
   refine WL.rd (RD.move rfl) rfl rfl ?_
   refine WL.rd (RD.idx (j := ((xs.getD e default).1).toNat) (hj := ⟨by omega⟩) rfl rfl (by omega) rfl) rfl rfl ?_
   refine WL.rd (RD.loadE rfl (by omega) rfl) rfl rfl ?_
   refine WL.rd (RD.sub rfl rfl (by omega) (by omega)) rfl rfl ?_
   refine WL.rd (RD.idx (j := ((xs.getD e default).1).toNat) (hj := ⟨by omega⟩) rfl rfl (by omega) rfl) rfl rfl ?_
   refine WL.efN (EF.storeI rfl rfl (by omega) rfl rfl) rfl ?_
   rintro ⟨⟩ -
   refine WL.nil ?_
   refine JE.seqN ?_
   refine J.seq ?_
   refine J.reg ?_
   refine WL.rd (RD.move rfl) rfl rfl ?_
   refine WL.rd (RD.move rfl) rfl rfl ?_
   refine WL.rd (RD.nilP rfl) rfl rfl ?_
   refine WL.rd (RD.fieldC rfl rfl) rfl rfl ?_
   refine WL.rd (RD.loadC rfl rfl) rfl rfl ?_
   refine WL.rd (RD.move rfl) rfl rfl ?_
   refine WL.efS (EF.build1 rfl) rfl rfl ?_
   intro v53 _
   refine WL.efS (EF.append rfl rfl (by omega) rfl rfl rfl) rfl rfl ?_
   intro v54 _
   refine WL.rd (RD.nilP rfl) rfl rfl ?_
   refine WL.rd (RD.fieldC rfl rfl) rfl rfl ?_
   refine WL.efN (EF.storeC rfl rfl rfl) rfl ?_
   rintro ⟨⟩ -
   refine WL.nil ?_
   refine JE.seqN ?_
   refine J.seq ?_
   refine J.reg ?_
   refine WL.rd (RD.move rfl) rfl rfl ?_
   refine WL.rd (RD.move rfl) rfl rfl ?_
   refine WL.rd (RD.nilP rfl) rfl rfl ?_
   refine WL.rd (RD.fieldC rfl rfl) rfl rfl ?_
   refine WL.rd (RD.loadC rfl rfl) rfl rfl ?_
   refine WL.rd (RD.move rfl) rfl rfl ?_
   refine WL.efS (EF.build1 rfl) rfl rfl ?_
   intro v63 _
   refine WL.efS (EF.append rfl rfl (by omega) rfl rfl rfl) rfl rfl ?_
   intro v64 _
   refine WL.rd (RD.nilP rfl) rfl rfl ?_
   refine WL.rd (RD.fieldC rfl rfl) rfl rfl ?_
   refine WL.efN (EF.storeC rfl rfl rfl) rfl ?_
   rintro ⟨⟩ -
   refine WL.nil ?_
   refine JE.seqN ?_
   refine J.seq ?_
   refine J.reg ?_
   refine WL.rd (RD.assign rfl) rfl rfl ?_
   refine WL.nil ?_
   refine JE.seqN ?_
   refine J.ret ?_
   refine JE.ret rfl (.tmp rfl .nil) (fun w hS => ?_)
   have ht : tailP (gathP n xs (xs.getD e default).1 (xs.getD e default).2 (l + 1) 8 (⟨f, t, pl⟩ : PS)).1 (exs xs e) = (xs.getD e default).1 := by unfold tailP; rw [if_neg (by exact hc35)]; rfl
   have hpc : (plcP n xs l (⟨f, t, pl⟩ : PS) e) = putP (gathP n xs (xs.getD e default).1 (xs.getD e default).2 (l + 1) 8 (⟨f, t, pl⟩ : PS)).1 (exs xs e) e := plc_yes hG2
   exact CM.fin hS (v54, v64) (by rw [place_isSome]; exact congrArg Value.bool hG2.symm) trivial (SubM.cells rfl rfl (SubM.row rfl rfl (by rw [hpc]; unfold putP; rw [ht]; rfl) (SubM.row rfl rfl (by rw [hpc]; unfold putP; rw [ht]) (SubM.row rfl rfl (by rw [hpc]; unfold putP; rw [hgs.2.1]) .nil)))) (by simp [En.rdb])

end Go.Proofs.Ytpojkjabngkfgaa
