/- Contracts of functions of the program, each walked once; written by a program of our own. -/
import Derived.Test.YtpojkjabngkfgaaGlP
namespace Go.Proofs.Ytpojkjabngkfgaa
open Go Go.RowKit
set_option maxRecDepth 4000

theorem iGatherPebbles_c (n : Int) (v : Value) (xs : List (Int × Int)) (k : Int) (vf vt vp : Value) (f t pl : List Int) (a b want : Int) (w : World) (hr : Rd w v 2 (xs.map bv)) (hrf : Rd w vf 1 (f.map iv)) (hrt : Rd w vt 1 (t.map iv)) (hrp : Rd w vp 1 (pl.map iv)) (hbf : ∀ x ∈ f, x ≤ 9223372036854775807) (h1 : f.length ≤ 1048576) (h2 : t.length ≤ 1048576) (h3 : pl.length ≤ 1048576) (hxl : xs.length ≤ 1048576) :
    CN Try.prog 19 [.agg #[.int .i64 n, v], .int .i64 k, .agg #[vf, vt, vp], .int .i64 a, .int .i64 b, .int .i64 want] w (Value × Value × Value) (fun _ => True) (fun x => .tuple #[.agg #[x.1, x.2.1, x.2.2], .bool (gpI n xs k f t pl a b want).2]) (fun x => [.row x.1 3 1 (((gpI n xs k f t pl a b want).1.f).map iv), .row x.2.1 3 1 (((gpI n xs k f t pl a b want).1.t).map iv), .row x.2.2 3 1 (((gpI n xs k f t pl a b want).1.pl).map iv)]) := by
 have hl_xs : xs.length ≤ 9223372036854775807 := (by obtain ⟨_, _, _, hh, _⟩ := hr.shape; simpa using hh)
 have hl_f : f.length ≤ 9223372036854775807 := (by obtain ⟨_, _, _, hh, _⟩ := hrf.shape; simpa using hh)
 have hl_t : t.length ≤ 9223372036854775807 := (by obtain ⟨_, _, _, hh, _⟩ := hrt.shape; simpa using hh)
 have hl_pl : pl.length ≤ 9223372036854775807 := (by obtain ⟨_, _, _, hh, _⟩ := hrp.shape; simpa using hh)
 refine calls_of_J (mu := (fun _ => False)) (m := [.ro v 2 (xs.map bv), .ro vf 1 (f.map iv), .ro vt 1 (t.map iv), .ro vp 1 (pl.map iv)]) (e := [(0, .agg #[.int .i64 n, v]), (1, .int .i64 k), (2, .agg #[vf, vt, vp]), (3, .int .i64 a), (4, .int .i64 b), (5, .int .i64 want)]) Try.func19 rfl rfl (.cons rfl (.cons rfl (.cons rfl (.cons rfl (.cons rfl (.cons rfl .nil)))))) ((((((St.init _ _).ro0 hrp (by decide)).ro0 hrt (by decide)).ro0 hrf (by decide)).ro0 hr (by decide))) ?_
 refine J.seq ?_
 refine J.reg ?_
 refine WL.efS (EF.boxA rfl) rfl rfl ?_
 intro b6 _
 refine WL.efS (EF.boxA rfl) rfl rfl ?_
 intro b8 _
 refine WL.efS (EF.allocA) rfl rfl ?_
 intro b12 _
 refine WL.rd (RD.assign rfl) rfl rfl ?_
 refine WL.nil ?_
 refine JE.seqN ?_
 refine J.seq ?_
 refine J.seq ?_
 refine J.reg ?_
 refine WL.rd (RD.loadA rfl rfl) rfl rfl ?_
 refine WL.rd (RD.move rfl) rfl rfl ?_
 refine WL.rd (RD.loadA rfl rfl) rfl rfl ?_
 refine WL.efS (EF.callS (.cons rfl (.cons rfl (.cons rfl .nil))) (fun w hS => iIsPebbles_c _ _ _ _ _ _ _ _ _ _ _ (by exact RdI.rd hS) (by exact RdI.rd hS) (by exact RdI.rd hS) (by exact RdI.rd hS) (by assumption))) rfl rfl ?_
 rintro ⟨⟩ -
 refine WL.rd (RD.notP rfl) rfl rfl ?_
 refine WL.rd (RD.move rfl) rfl rfl ?_
 refine WL.caseP 20 rfl (fun hg20 => ?_) (fun hg20 => ?_)
 ·
  refine WL.noS rfl rfl ?_
  refine WL.noS rfl rfl ?_
  refine WL.noS rfl rfl ?_
  refine WL.noS rfl rfl ?_
  refine WL.rd (RD.pickT rfl rfl) rfl rfl ?_
  refine WL.rd (RD.move rfl) rfl rfl ?_
  refine WL.noS rfl rfl ?_
  refine WL.noS rfl rfl ?_
  refine WL.noS rfl rfl ?_
  refine WL.noS rfl rfl ?_
  refine WL.rd (RD.pickT rfl rfl) rfl rfl ?_
  refine WL.rd (RD.move rfl) rfl rfl ?_
  refine WL.noS rfl rfl ?_
  refine WL.noS rfl rfl ?_
  refine WL.noS rfl rfl ?_
  refine WL.rd (RD.pickT rfl rfl) rfl rfl ?_
  refine WL.rd (RD.move rfl) rfl rfl ?_
  refine WL.noS rfl rfl ?_
  refine WL.noS rfl rfl ?_
  refine WL.noS rfl rfl ?_
  refine WL.noS rfl rfl ?_
  refine WL.noS rfl rfl ?_
  refine WL.rd (RD.pickT rfl rfl) rfl rfl ?_
  refine WL.nil ?_
  refine JE.seqN ?_
  refine J.condT rfl ?_
  refine J.seq ?_
  refine J.reg ?_
  refine WL.rd (RD.loadA rfl rfl) rfl rfl ?_
  refine WL.efS (EF.callN (.cons rfl .nil) (fun w hS => copyPebbles_c _ _ _ _ _ _ _ (by exact RdI.rd hS) (by exact RdI.rd hS) (by exact RdI.rd hS) (by omega) (by omega) (by omega))) rfl rfl ?_
  rintro ⟨f45, t45, p45⟩ -
  refine WL.efN (EF.storeA rfl rfl rfl rfl) rfl ?_
  rintro ⟨⟩ -
  refine WL.rd (RD.assign rfl) rfl rfl ?_
  refine WL.nil ?_
  refine JE.seqN ?_
  refine J.ret ?_
  refine JE.ret rfl (ResL.flat rfl rfl (.tmp rfl .nil)) (fun w hS => ?_)
  have hno : ¬ gpOk n xs k f t pl a b want := fun h => by obtain ⟨h1, h2, h3, h4, h5⟩ := h; first | exact absurd h1 (by assumption) | omega
  exact CN.fin hS (f45, t45, p45) (by rw [gpI_no hno]; rfl) trivial (SubM.row rfl rfl (by rw [gpI_no hno]) (SubM.row rfl rfl (by rw [gpI_no hno]) (SubM.row rfl rfl (by rw [gpI_no hno]) .nil))) (by simp [En.rdb])
 ·
  have hisp : isP n xs k f t pl := Decidable.not_not.1 hg20
  have hg := hisp.1
  have hk3 := hisp.2.1
  have h12 := hg.1
  have h13 := hg.2.1
  have h14 := hg.2.2.1
  have hp := isP_ok hisp
  refine WL.rd (RD.loadA rfl rfl) rfl rfl ?_
  refine WL.rd (RD.move rfl) rfl rfl ?_
  refine WL.efS (EF.callS (.cons rfl (.cons rfl .nil)) (fun w hS => graphHas_c _ _ _ _ (by omega))) rfl rfl ?_
  rintro ⟨⟩ -
  refine WL.rd (RD.notP rfl) rfl rfl ?_
  refine WL.rd (RD.pickF rfl rfl) rfl rfl ?_
  refine WL.rd (RD.move rfl) rfl rfl ?_
  refine WL.caseP 26 rfl (fun hg26 => ?_) (fun hg26 => ?_)
  ·
   refine WL.noS rfl rfl ?_
   refine WL.noS rfl rfl ?_
   refine WL.noS rfl rfl ?_
   refine WL.noS rfl rfl ?_
   refine WL.rd (RD.pickT rfl rfl) rfl rfl ?_
   refine WL.rd (RD.move rfl) rfl rfl ?_
   refine WL.noS rfl rfl ?_
   refine WL.noS rfl rfl ?_
   refine WL.noS rfl rfl ?_
   refine WL.rd (RD.pickT rfl rfl) rfl rfl ?_
   refine WL.rd (RD.move rfl) rfl rfl ?_
   refine WL.noS rfl rfl ?_
   refine WL.noS rfl rfl ?_
   refine WL.noS rfl rfl ?_
   refine WL.noS rfl rfl ?_
   refine WL.noS rfl rfl ?_
   refine WL.rd (RD.pickT rfl rfl) rfl rfl ?_
   refine WL.nil ?_
   refine JE.seqN ?_
   refine J.condT rfl ?_
   refine J.seq ?_
   refine J.reg ?_
   refine WL.rd (RD.loadA rfl rfl) rfl rfl ?_
   refine WL.efS (EF.callN (.cons rfl .nil) (fun w hS => copyPebbles_c _ _ _ _ _ _ _ (by exact RdI.rd hS) (by exact RdI.rd hS) (by exact RdI.rd hS) (by omega) (by omega) (by omega))) rfl rfl ?_
   rintro ⟨f45, t45, p45⟩ -
   refine WL.efN (EF.storeA rfl rfl rfl rfl) rfl ?_
   rintro ⟨⟩ -
   refine WL.rd (RD.assign rfl) rfl rfl ?_
   refine WL.nil ?_
   refine JE.seqN ?_
   refine J.ret ?_
   refine JE.ret rfl (ResL.flat rfl rfl (.tmp rfl .nil)) (fun w hS => ?_)
   have hno : ¬ gpOk n xs k f t pl a b want := fun h => by obtain ⟨h1, h2, h3, h4, h5⟩ := h; first | exact absurd h1 (by assumption) | omega
   exact CN.fin hS (f45, t45, p45) (by rw [gpI_no hno]; rfl) trivial (SubM.row rfl rfl (by rw [gpI_no hno]) (SubM.row rfl rfl (by rw [gpI_no hno]) (SubM.row rfl rfl (by rw [gpI_no hno]) .nil))) (by simp [En.rdb])
  ·
   refine WL.rd (RD.loadA rfl rfl) rfl rfl ?_
   refine WL.rd (RD.move rfl) rfl rfl ?_
   refine WL.efS (EF.callS (.cons rfl (.cons rfl .nil)) (fun w hS => graphHas_c _ _ _ _ (by omega))) rfl rfl ?_
   rintro ⟨⟩ -
   refine WL.rd (RD.notP rfl) rfl rfl ?_
   refine WL.rd (RD.pickF rfl rfl) rfl rfl ?_
   refine WL.rd (RD.move rfl) rfl rfl ?_
   refine WL.caseP 32 rfl (fun hg32 => ?_) (fun hg32 => ?_)
   ·
    refine WL.noS rfl rfl ?_
    refine WL.noS rfl rfl ?_
    refine WL.noS rfl rfl ?_
    refine WL.rd (RD.pickT rfl rfl) rfl rfl ?_
    refine WL.rd (RD.move rfl) rfl rfl ?_
    refine WL.noS rfl rfl ?_
    refine WL.noS rfl rfl ?_
    refine WL.noS rfl rfl ?_
    refine WL.noS rfl rfl ?_
    refine WL.noS rfl rfl ?_
    refine WL.rd (RD.pickT rfl rfl) rfl rfl ?_
    refine WL.nil ?_
    refine JE.seqN ?_
    refine J.condT rfl ?_
    refine J.seq ?_
    refine J.reg ?_
    refine WL.rd (RD.loadA rfl rfl) rfl rfl ?_
    refine WL.efS (EF.callN (.cons rfl .nil) (fun w hS => copyPebbles_c _ _ _ _ _ _ _ (by exact RdI.rd hS) (by exact RdI.rd hS) (by exact RdI.rd hS) (by omega) (by omega) (by omega))) rfl rfl ?_
    rintro ⟨f45, t45, p45⟩ -
    refine WL.efN (EF.storeA rfl rfl rfl rfl) rfl ?_
    rintro ⟨⟩ -
    refine WL.rd (RD.assign rfl) rfl rfl ?_
    refine WL.nil ?_
    refine JE.seqN ?_
    refine J.ret ?_
    refine JE.ret rfl (ResL.flat rfl rfl (.tmp rfl .nil)) (fun w hS => ?_)
    have hno : ¬ gpOk n xs k f t pl a b want := fun h => by obtain ⟨h1, h2, h3, h4, h5⟩ := h; first | exact absurd h1 (by assumption) | omega
    exact CN.fin hS (f45, t45, p45) (by rw [gpI_no hno]; rfl) trivial (SubM.row rfl rfl (by rw [gpI_no hno]) (SubM.row rfl rfl (by rw [gpI_no hno]) (SubM.row rfl rfl (by rw [gpI_no hno]) .nil))) (by simp [En.rdb])
   ·
    refine WL.rd (RD.move rfl) rfl rfl ?_
    refine WL.rd (RD.move rfl) rfl rfl ?_
    refine WL.rd (RD.eql rfl rfl) rfl rfl ?_
    refine WL.rd (RD.pickF rfl rfl) rfl rfl ?_
    refine WL.rd (RD.move rfl) rfl rfl ?_
    refine WL.caseP 37 rfl (fun hg37 => ?_) (fun hg37 => ?_)
    ·
     refine WL.noS rfl rfl ?_
     refine WL.noS rfl rfl ?_
     refine WL.noS rfl rfl ?_
     refine WL.noS rfl rfl ?_
     refine WL.noS rfl rfl ?_
     refine WL.rd (RD.pickT rfl rfl) rfl rfl ?_
     refine WL.nil ?_
     refine JE.seqN ?_
     refine J.condT rfl ?_
     refine J.seq ?_
     refine J.reg ?_
     refine WL.rd (RD.loadA rfl rfl) rfl rfl ?_
     refine WL.efS (EF.callN (.cons rfl .nil) (fun w hS => copyPebbles_c _ _ _ _ _ _ _ (by exact RdI.rd hS) (by exact RdI.rd hS) (by exact RdI.rd hS) (by omega) (by omega) (by omega))) rfl rfl ?_
     rintro ⟨f45, t45, p45⟩ -
     refine WL.efN (EF.storeA rfl rfl rfl rfl) rfl ?_
     rintro ⟨⟩ -
     refine WL.rd (RD.assign rfl) rfl rfl ?_
     refine WL.nil ?_
     refine JE.seqN ?_
     refine J.ret ?_
     refine JE.ret rfl (ResL.flat rfl rfl (.tmp rfl .nil)) (fun w hS => ?_)
     have hno : ¬ gpOk n xs k f t pl a b want := fun h => by obtain ⟨h1, h2, h3, h4, h5⟩ := h; first | exact absurd h1 (by assumption) | omega
     exact CN.fin hS (f45, t45, p45) (by rw [gpI_no hno]; rfl) trivial (SubM.row rfl rfl (by rw [gpI_no hno]) (SubM.row rfl rfl (by rw [gpI_no hno]) (SubM.row rfl rfl (by rw [gpI_no hno]) .nil))) (by simp [En.rdb])
    ·
     refine WL.rd (RD.move rfl) rfl rfl ?_
     refine WL.rd (RD.move rfl) rfl rfl ?_
     refine WL.rd (RD.mul rfl rfl (by omega) (by omega)) rfl rfl ?_
     refine WL.efS (EF.callS (.cons rfl (.cons rfl (.cons rfl .nil))) (fun w hS => within_c _ _ _ _)) rfl rfl ?_
     rintro ⟨⟩ -
     refine WL.rd (RD.notP rfl) rfl rfl ?_
     refine WL.rd (RD.pickF rfl rfl) rfl rfl ?_
     refine WL.nil ?_
     refine JE.seqN ?_
     refine J.condP rfl (fun hc43 => ?_) (fun hc43 => ?_)
     ·
      refine J.seq ?_
      refine J.reg ?_
      refine WL.rd (RD.loadA rfl rfl) rfl rfl ?_
      refine WL.efS (EF.callN (.cons rfl .nil) (fun w hS => copyPebbles_c _ _ _ _ _ _ _ (by exact RdI.rd hS) (by exact RdI.rd hS) (by exact RdI.rd hS) (by omega) (by omega) (by omega))) rfl rfl ?_
      rintro ⟨f45, t45, p45⟩ -
      refine WL.efN (EF.storeA rfl rfl rfl rfl) rfl ?_
      rintro ⟨⟩ -
      refine WL.rd (RD.assign rfl) rfl rfl ?_
      refine WL.nil ?_
      refine JE.seqN ?_
      refine J.ret ?_
      refine JE.ret rfl (ResL.flat rfl rfl (.tmp rfl .nil)) (fun w hS => ?_)
      have hno : ¬ gpOk n xs k f t pl a b want := fun h => by obtain ⟨h1, h2, h3, h4, h5⟩ := h; first | exact absurd h1 (by assumption) | omega
      exact CN.fin hS (f45, t45, p45) (by rw [gpI_no hno]; rfl) trivial (SubM.row rfl rfl (by rw [gpI_no hno]) (SubM.row rfl rfl (by rw [gpI_no hno]) (SubM.row rfl rfl (by rw [gpI_no hno]) .nil))) (by simp [En.rdb])
     ·
      refine J.skip ?_
      refine JE.seqN ?_
      refine J.seq ?_
      have hgs := gathP_spec (n := n.toNat) (k := k) (xs := xs) (a := a) (b := b) (want := want) (by omega) (by omega) (by omega) 8 ⟨f, t, pl⟩ hp (by have h1 := hp.pos a (by omega) (by omega); have h2 := hp.pos b (by omega) (by omega); omega)
      refine J.reg ?_
      refine WL.rd (RD.loadA rfl rfl) rfl rfl ?_
      refine WL.efS (EF.callN (.cons rfl .nil) (fun w hS => copyPebbles_c _ _ _ _ _ _ _ (by exact RdI.rd hS) (by exact RdI.rd hS) (by exact RdI.rd hS) (by omega) (by omega) (by omega))) rfl rfl ?_
      rintro ⟨f47, t47, p47⟩ -
      refine WL.efS (EF.allocA) rfl rfl ?_
      intro b14 _
      refine WL.efN (EF.storeA rfl rfl rfl rfl) rfl ?_
      rintro ⟨⟩ -
      refine WL.nil ?_
      refine JE.seqN ?_
      refine J.seq ?_
      refine J.seq ?_
      refine J.reg ?_
      refine WL.rd (RD.fieldC rfl rfl) rfl rfl ?_
      refine WL.rd (RD.loadC rfl rfl) rfl rfl ?_
      refine WL.rd (RD.move rfl) rfl rfl ?_
      refine WL.rd (RD.move rfl) rfl rfl ?_
      refine WL.rd (RD.move rfl) rfl rfl ?_
      refine WL.efS (EF.callM (.cons rfl (.cons rfl (.cons rfl (.cons rfl (.cons rfl .nil))))) (.cells (.row (.row (.row .nil)))) (.ro .nil) (fun w hS => gather_c n.toNat k _ xs _ _ _ _ _ _ _ a b want _ (by omega) (by omega) hxl hp (by omega) (by omega) (by omega) (by omega)) (by simp [En.rdb])) rfl rfl ?_
      rintro ⟨⟩ -
      refine WL.rd (RD.not rfl) rfl rfl ?_
      refine WL.nil ?_
      refine JE.seqN ?_
      refine J.cond rfl (fun hc54 => ?_) (fun hc54 => ?_)
      ·
       have hG2 : (gathP n.toNat xs a b want 8 ⟨f, t, pl⟩).2 = false := by simpa using hc54
       refine J.seq ?_
       refine J.reg ?_
       refine WL.rd (RD.loadA rfl rfl) rfl rfl ?_
       refine WL.efS (EF.callN (.cons rfl .nil) (fun w hS => copyPebbles_c _ _ _ _ _ _ _ (by exact RdI.rd hS) (by exact RdI.rd hS) (by exact RdI.rd hS) (by omega) (by omega) (by omega))) rfl rfl ?_
       rintro ⟨f56, t56, p56⟩ -
       refine WL.efN (EF.storeA rfl rfl rfl rfl) rfl ?_
       rintro ⟨⟩ -
       refine WL.rd (RD.assign rfl) rfl rfl ?_
       refine WL.nil ?_
       refine JE.seqN ?_
       refine J.ret ?_
       refine JE.ret rfl (ResL.flat rfl rfl (.tmp rfl .nil)) (fun w hS => ?_)
       exact CN.fin hS (f56, t56, p56) (by rw [gpI_fail hG2]; rfl) trivial (SubM.row rfl rfl (by rw [gpI_fail hG2]) (SubM.row rfl rfl (by rw [gpI_fail hG2]) (SubM.row rfl rfl (by rw [gpI_fail hG2]) .nil))) (by simp [En.rdb])
      ·
       have hG2 : (gathP n.toNat xs a b want 8 ⟨f, t, pl⟩).2 = true := by simpa using hc54
       refine J.skip ?_
       refine JE.seqN ?_
       refine J.seq ?_
       refine J.reg ?_
       refine WL.rd (RD.loadA rfl rfl) rfl rfl ?_
       refine WL.efN (EF.storeA rfl rfl rfl rfl) rfl ?_
       rintro ⟨⟩ -
       refine WL.rd (RD.assign rfl) rfl rfl ?_
       refine WL.nil ?_
       refine JE.seqN ?_
       refine J.ret ?_
       refine JE.ret rfl (ResL.flat rfl rfl (.tmp rfl .nil)) (fun w hS => ?_)
       have hgo : gpOk n xs k f t pl a b want := ⟨hisp, by omega, by omega, by omega, by omega⟩
       have hgy := gpI_yes hgo hG2
       exact CN.fin hS (f47, t47, p47) (by rw [hgy, hG2]; rfl) trivial (SubM.row rfl rfl (by rw [hgy]) (SubM.row rfl rfl (by rw [hgy]) (SubM.row rfl rfl (by first | (rw [hgy]; done) | (rw [hgy, hgs.2.1])) .nil))) (by simp [En.rdb])
theorem sGatherPebbles_c (n : Int) (v : Value) (xs : List (Int × Int)) (k : Int) (vf vt vp : Value) (f t pl : List Int) (a b want : Int) (w : World) (hr : Rd w v 2 (xs.map bv)) (hrf : Rd w vf 1 (f.map iv)) (hrt : Rd w vt 1 (t.map iv)) (hrp : Rd w vp 1 (pl.map iv)) (hbf : ∀ x ∈ f, x ≤ 9223372036854775807) (h1 : f.length ≤ 1048576) (h2 : t.length ≤ 1048576) (h3 : pl.length ≤ 1048576) (hxl : xs.length ≤ 1048576) :
    CN Try.prog 20 [.agg #[.int .i64 n, v], .int .i64 k, .agg #[vf, vt, vp], .int .i64 a, .int .i64 b, .int .i64 want] w (Value × Value × Value) (fun _ => True) (fun x => .tuple #[.agg #[x.1, x.2.1, x.2.2], .bool (gpI n xs k f t pl a b want).2]) (fun x => [.row x.1 3 1 (((gpI n xs k f t pl a b want).1.f).map iv), .row x.2.1 3 1 (((gpI n xs k f t pl a b want).1.t).map iv), .row x.2.2 3 1 (((gpI n xs k f t pl a b want).1.pl).map iv)]) := by
 have hl_xs : xs.length ≤ 9223372036854775807 := (by obtain ⟨_, _, _, hh, _⟩ := hr.shape; simpa using hh)
 have hl_f : f.length ≤ 9223372036854775807 := (by obtain ⟨_, _, _, hh, _⟩ := hrf.shape; simpa using hh)
 have hl_t : t.length ≤ 9223372036854775807 := (by obtain ⟨_, _, _, hh, _⟩ := hrt.shape; simpa using hh)
 have hl_pl : pl.length ≤ 9223372036854775807 := (by obtain ⟨_, _, _, hh, _⟩ := hrp.shape; simpa using hh)
 refine calls_of_J (mu := (fun _ => False)) (m := [.ro v 2 (xs.map bv), .ro vf 1 (f.map iv), .ro vt 1 (t.map iv), .ro vp 1 (pl.map iv)]) (e := [(0, .agg #[.int .i64 n, v]), (1, .int .i64 k), (2, .agg #[vf, vt, vp]), (3, .int .i64 a), (4, .int .i64 b), (5, .int .i64 want)]) Try.func20 rfl rfl (.cons rfl (.cons rfl (.cons rfl (.cons rfl (.cons rfl (.cons rfl .nil)))))) ((((((St.init _ _).ro0 hrp (by decide)).ro0 hrt (by decide)).ro0 hrf (by decide)).ro0 hr (by decide))) ?_
 refine J.seq ?_
 refine J.reg ?_
 refine WL.efS (EF.boxA rfl) rfl rfl ?_
 intro b6 _
 refine WL.efS (EF.boxA rfl) rfl rfl ?_
 intro b8 _
 refine WL.efS (EF.allocA) rfl rfl ?_
 intro b12 _
 refine WL.rd (RD.assign rfl) rfl rfl ?_
 refine WL.nil ?_
 refine JE.seqN ?_
 refine J.seq ?_
 refine J.seq ?_
 refine J.reg ?_
 refine WL.rd (RD.loadA rfl rfl) rfl rfl ?_
 refine WL.rd (RD.move rfl) rfl rfl ?_
 refine WL.rd (RD.loadA rfl rfl) rfl rfl ?_
 refine WL.efS (EF.callS (.cons rfl (.cons rfl (.cons rfl .nil))) (fun w hS => sIsPebbles_c _ _ _ _ _ _ _ _ _ _ _ (by exact RdI.rd hS) (by exact RdI.rd hS) (by exact RdI.rd hS) (by exact RdI.rd hS) (by assumption))) rfl rfl ?_
 rintro ⟨⟩ -
 refine WL.rd (RD.notP rfl) rfl rfl ?_
 refine WL.rd (RD.move rfl) rfl rfl ?_
 refine WL.caseP 21 rfl (fun hg21 => ?_) (fun hg21 => ?_)
 ·
  refine WL.noS rfl rfl ?_
  refine WL.noS rfl rfl ?_
  refine WL.rd (RD.pickT rfl rfl) rfl rfl ?_
  refine WL.rd (RD.move rfl) rfl rfl ?_
  refine WL.noS rfl rfl ?_
  refine WL.noS rfl rfl ?_
  refine WL.rd (RD.pickT rfl rfl) rfl rfl ?_
  refine WL.rd (RD.move rfl) rfl rfl ?_
  refine WL.noS rfl rfl ?_
  refine WL.noS rfl rfl ?_
  refine WL.noS rfl rfl ?_
  refine WL.noS rfl rfl ?_
  refine WL.rd (RD.pickT rfl rfl) rfl rfl ?_
  refine WL.rd (RD.move rfl) rfl rfl ?_
  refine WL.noS rfl rfl ?_
  refine WL.noS rfl rfl ?_
  refine WL.noS rfl rfl ?_
  refine WL.noS rfl rfl ?_
  refine WL.rd (RD.pickT rfl rfl) rfl rfl ?_
  refine WL.rd (RD.move rfl) rfl rfl ?_
  refine WL.noS rfl rfl ?_
  refine WL.noS rfl rfl ?_
  refine WL.noS rfl rfl ?_
  refine WL.rd (RD.pickT rfl rfl) rfl rfl ?_
  refine WL.rd (RD.move rfl) rfl rfl ?_
  refine WL.noS rfl rfl ?_
  refine WL.noS rfl rfl ?_
  refine WL.noS rfl rfl ?_
  refine WL.noS rfl rfl ?_
  refine WL.noS rfl rfl ?_
  refine WL.rd (RD.pickT rfl rfl) rfl rfl ?_
  refine WL.nil ?_
  refine JE.seqN ?_
  refine J.condT rfl ?_
  refine J.seq ?_
  refine J.reg ?_
  refine WL.rd (RD.loadA rfl rfl) rfl rfl ?_
  refine WL.efS (EF.callN (.cons rfl .nil) (fun w hS => l4Copy_c _ _ _ _ _ _ _ (by exact RdI.rd hS) (by exact RdI.rd hS) (by exact RdI.rd hS) (by omega) (by omega) (by omega))) rfl rfl ?_
  rintro ⟨f54, t54, p54⟩ -
  refine WL.efN (EF.storeA rfl rfl rfl rfl) rfl ?_
  rintro ⟨⟩ -
  refine WL.rd (RD.assign rfl) rfl rfl ?_
  refine WL.nil ?_
  refine JE.seqN ?_
  refine J.ret ?_
  refine JE.ret rfl (ResL.flat rfl rfl (.tmp rfl .nil)) (fun w hS => ?_)
  have hno : ¬ gpOk n xs k f t pl a b want := fun h => by obtain ⟨h1, h2, h3, h4, h5⟩ := h; first | exact absurd h1 (by assumption) | omega
  exact CN.fin hS (f54, t54, p54) (by rw [gpI_no hno]; rfl) trivial (SubM.row rfl rfl (by rw [gpI_no hno]) (SubM.row rfl rfl (by rw [gpI_no hno]) (SubM.row rfl rfl (by rw [gpI_no hno]) .nil))) (by simp [En.rdb])
 ·
  have hisp : isP n xs k f t pl := Decidable.not_not.1 hg21
  have hg := hisp.1
  have hk3 := hisp.2.1
  have h12 := hg.1
  have h13 := hg.2.1
  have h14 := hg.2.2.1
  have hp := isP_ok hisp
  refine WL.rd (RD.move rfl) rfl rfl ?_
  refine WL.rd (RD.lss rfl rfl) rfl rfl ?_
  refine WL.rd (RD.pickF rfl rfl) rfl rfl ?_
  refine WL.rd (RD.move rfl) rfl rfl ?_
  refine WL.caseP 25 rfl (fun hg25 => ?_) (fun hg25 => ?_)
  ·
   refine WL.noS rfl rfl ?_
   refine WL.noS rfl rfl ?_
   refine WL.rd (RD.pickT rfl rfl) rfl rfl ?_
   refine WL.rd (RD.move rfl) rfl rfl ?_
   refine WL.noS rfl rfl ?_
   refine WL.noS rfl rfl ?_
   refine WL.noS rfl rfl ?_
   refine WL.noS rfl rfl ?_
   refine WL.rd (RD.pickT rfl rfl) rfl rfl ?_
   refine WL.rd (RD.move rfl) rfl rfl ?_
   refine WL.noS rfl rfl ?_
   refine WL.noS rfl rfl ?_
   refine WL.noS rfl rfl ?_
   refine WL.noS rfl rfl ?_
   refine WL.rd (RD.pickT rfl rfl) rfl rfl ?_
   refine WL.rd (RD.move rfl) rfl rfl ?_
   refine WL.noS rfl rfl ?_
   refine WL.noS rfl rfl ?_
   refine WL.noS rfl rfl ?_
   refine WL.rd (RD.pickT rfl rfl) rfl rfl ?_
   refine WL.rd (RD.move rfl) rfl rfl ?_
   refine WL.noS rfl rfl ?_
   refine WL.noS rfl rfl ?_
   refine WL.noS rfl rfl ?_
   refine WL.noS rfl rfl ?_
   refine WL.noS rfl rfl ?_
   refine WL.rd (RD.pickT rfl rfl) rfl rfl ?_
   refine WL.nil ?_
   refine JE.seqN ?_
   refine J.condT rfl ?_
   refine J.seq ?_
   refine J.reg ?_
   refine WL.rd (RD.loadA rfl rfl) rfl rfl ?_
   refine WL.efS (EF.callN (.cons rfl .nil) (fun w hS => l4Copy_c _ _ _ _ _ _ _ (by exact RdI.rd hS) (by exact RdI.rd hS) (by exact RdI.rd hS) (by omega) (by omega) (by omega))) rfl rfl ?_
   rintro ⟨f54, t54, p54⟩ -
   refine WL.efN (EF.storeA rfl rfl rfl rfl) rfl ?_
   rintro ⟨⟩ -
   refine WL.rd (RD.assign rfl) rfl rfl ?_
   refine WL.nil ?_
   refine JE.seqN ?_
   refine J.ret ?_
   refine JE.ret rfl (ResL.flat rfl rfl (.tmp rfl .nil)) (fun w hS => ?_)
   have hno : ¬ gpOk n xs k f t pl a b want := fun h => by obtain ⟨h1, h2, h3, h4, h5⟩ := h; first | exact absurd h1 (by assumption) | omega
   exact CN.fin hS (f54, t54, p54) (by rw [gpI_no hno]; rfl) trivial (SubM.row rfl rfl (by rw [gpI_no hno]) (SubM.row rfl rfl (by rw [gpI_no hno]) (SubM.row rfl rfl (by rw [gpI_no hno]) .nil))) (by simp [En.rdb])
  ·
   refine WL.rd (RD.move rfl) rfl rfl ?_
   refine WL.rd (RD.lss rfl rfl) rfl rfl ?_
   refine WL.rd (RD.pickF rfl rfl) rfl rfl ?_
   refine WL.rd (RD.move rfl) rfl rfl ?_
   refine WL.caseP 29 rfl (fun hg29 => ?_) (fun hg29 => ?_)
   ·
    refine WL.noS rfl rfl ?_
    refine WL.noS rfl rfl ?_
    refine WL.noS rfl rfl ?_
    refine WL.noS rfl rfl ?_
    refine WL.rd (RD.pickT rfl rfl) rfl rfl ?_
    refine WL.rd (RD.move rfl) rfl rfl ?_
    refine WL.noS rfl rfl ?_
    refine WL.noS rfl rfl ?_
    refine WL.noS rfl rfl ?_
    refine WL.noS rfl rfl ?_
    refine WL.rd (RD.pickT rfl rfl) rfl rfl ?_
    refine WL.rd (RD.move rfl) rfl rfl ?_
    refine WL.noS rfl rfl ?_
    refine WL.noS rfl rfl ?_
    refine WL.noS rfl rfl ?_
    refine WL.rd (RD.pickT rfl rfl) rfl rfl ?_
    refine WL.rd (RD.move rfl) rfl rfl ?_
    refine WL.noS rfl rfl ?_
    refine WL.noS rfl rfl ?_
    refine WL.noS rfl rfl ?_
    refine WL.noS rfl rfl ?_
    refine WL.noS rfl rfl ?_
    refine WL.rd (RD.pickT rfl rfl) rfl rfl ?_
    refine WL.nil ?_
    refine JE.seqN ?_
    refine J.condT rfl ?_
    refine J.seq ?_
    refine J.reg ?_
    refine WL.rd (RD.loadA rfl rfl) rfl rfl ?_
    refine WL.efS (EF.callN (.cons rfl .nil) (fun w hS => l4Copy_c _ _ _ _ _ _ _ (by exact RdI.rd hS) (by exact RdI.rd hS) (by exact RdI.rd hS) (by omega) (by omega) (by omega))) rfl rfl ?_
    rintro ⟨f54, t54, p54⟩ -
    refine WL.efN (EF.storeA rfl rfl rfl rfl) rfl ?_
    rintro ⟨⟩ -
    refine WL.rd (RD.assign rfl) rfl rfl ?_
    refine WL.nil ?_
    refine JE.seqN ?_
    refine J.ret ?_
    refine JE.ret rfl (ResL.flat rfl rfl (.tmp rfl .nil)) (fun w hS => ?_)
    have hno : ¬ gpOk n xs k f t pl a b want := fun h => by obtain ⟨h1, h2, h3, h4, h5⟩ := h; first | exact absurd h1 (by assumption) | omega
    exact CN.fin hS (f54, t54, p54) (by rw [gpI_no hno]; rfl) trivial (SubM.row rfl rfl (by rw [gpI_no hno]) (SubM.row rfl rfl (by rw [gpI_no hno]) (SubM.row rfl rfl (by rw [gpI_no hno]) .nil))) (by simp [En.rdb])
   ·
    refine WL.rd (RD.move rfl) rfl rfl ?_
    refine WL.rd (RD.fieldC rfl rfl) rfl rfl ?_
    refine WL.rd (RD.loadC rfl rfl) rfl rfl ?_
    refine WL.rd (RD.geq rfl rfl) rfl rfl ?_
    refine WL.rd (RD.pickF rfl rfl) rfl rfl ?_
    refine WL.rd (RD.move rfl) rfl rfl ?_
    refine WL.caseP 35 rfl (fun hg35 => ?_) (fun hg35 => ?_)
    ·
     refine WL.noS rfl rfl ?_
     refine WL.noS rfl rfl ?_
     refine WL.noS rfl rfl ?_
     refine WL.noS rfl rfl ?_
     refine WL.rd (RD.pickT rfl rfl) rfl rfl ?_
     refine WL.rd (RD.move rfl) rfl rfl ?_
     refine WL.noS rfl rfl ?_
     refine WL.noS rfl rfl ?_
     refine WL.noS rfl rfl ?_
     refine WL.rd (RD.pickT rfl rfl) rfl rfl ?_
     refine WL.rd (RD.move rfl) rfl rfl ?_
     refine WL.noS rfl rfl ?_
     refine WL.noS rfl rfl ?_
     refine WL.noS rfl rfl ?_
     refine WL.noS rfl rfl ?_
     refine WL.noS rfl rfl ?_
     refine WL.rd (RD.pickT rfl rfl) rfl rfl ?_
     refine WL.nil ?_
     refine JE.seqN ?_
     refine J.condT rfl ?_
     refine J.seq ?_
     refine J.reg ?_
     refine WL.rd (RD.loadA rfl rfl) rfl rfl ?_
     refine WL.efS (EF.callN (.cons rfl .nil) (fun w hS => l4Copy_c _ _ _ _ _ _ _ (by exact RdI.rd hS) (by exact RdI.rd hS) (by exact RdI.rd hS) (by omega) (by omega) (by omega))) rfl rfl ?_
     rintro ⟨f54, t54, p54⟩ -
     refine WL.efN (EF.storeA rfl rfl rfl rfl) rfl ?_
     rintro ⟨⟩ -
     refine WL.rd (RD.assign rfl) rfl rfl ?_
     refine WL.nil ?_
     refine JE.seqN ?_
     refine J.ret ?_
     refine JE.ret rfl (ResL.flat rfl rfl (.tmp rfl .nil)) (fun w hS => ?_)
     have hno : ¬ gpOk n xs k f t pl a b want := fun h => by obtain ⟨h1, h2, h3, h4, h5⟩ := h; first | exact absurd h1 (by assumption) | omega
     exact CN.fin hS (f54, t54, p54) (by rw [gpI_no hno]; rfl) trivial (SubM.row rfl rfl (by rw [gpI_no hno]) (SubM.row rfl rfl (by rw [gpI_no hno]) (SubM.row rfl rfl (by rw [gpI_no hno]) .nil))) (by simp [En.rdb])
    ·
     refine WL.rd (RD.move rfl) rfl rfl ?_
     refine WL.rd (RD.fieldC rfl rfl) rfl rfl ?_
     refine WL.rd (RD.loadC rfl rfl) rfl rfl ?_
     refine WL.rd (RD.geq rfl rfl) rfl rfl ?_
     refine WL.rd (RD.pickF rfl rfl) rfl rfl ?_
     refine WL.rd (RD.move rfl) rfl rfl ?_
     refine WL.caseP 41 rfl (fun hg41 => ?_) (fun hg41 => ?_)
     ·
      refine WL.noS rfl rfl ?_
      refine WL.noS rfl rfl ?_
      refine WL.noS rfl rfl ?_
      refine WL.rd (RD.pickT rfl rfl) rfl rfl ?_
      refine WL.rd (RD.move rfl) rfl rfl ?_
      refine WL.noS rfl rfl ?_
      refine WL.noS rfl rfl ?_
      refine WL.noS rfl rfl ?_
      refine WL.noS rfl rfl ?_
      refine WL.noS rfl rfl ?_
      refine WL.rd (RD.pickT rfl rfl) rfl rfl ?_
      refine WL.nil ?_
      refine JE.seqN ?_
      refine J.condT rfl ?_
      refine J.seq ?_
      refine J.reg ?_
      refine WL.rd (RD.loadA rfl rfl) rfl rfl ?_
      refine WL.efS (EF.callN (.cons rfl .nil) (fun w hS => l4Copy_c _ _ _ _ _ _ _ (by exact RdI.rd hS) (by exact RdI.rd hS) (by exact RdI.rd hS) (by omega) (by omega) (by omega))) rfl rfl ?_
      rintro ⟨f54, t54, p54⟩ -
      refine WL.efN (EF.storeA rfl rfl rfl rfl) rfl ?_
      rintro ⟨⟩ -
      refine WL.rd (RD.assign rfl) rfl rfl ?_
      refine WL.nil ?_
      refine JE.seqN ?_
      refine J.ret ?_
      refine JE.ret rfl (ResL.flat rfl rfl (.tmp rfl .nil)) (fun w hS => ?_)
      have hno : ¬ gpOk n xs k f t pl a b want := fun h => by obtain ⟨h1, h2, h3, h4, h5⟩ := h; first | exact absurd h1 (by assumption) | omega
      exact CN.fin hS (f54, t54, p54) (by rw [gpI_no hno]; rfl) trivial (SubM.row rfl rfl (by rw [gpI_no hno]) (SubM.row rfl rfl (by rw [gpI_no hno]) (SubM.row rfl rfl (by rw [gpI_no hno]) .nil))) (by simp [En.rdb])
     ·
      refine WL.rd (RD.move rfl) rfl rfl ?_
      refine WL.rd (RD.move rfl) rfl rfl ?_
      refine WL.rd (RD.eql rfl rfl) rfl rfl ?_
      refine WL.rd (RD.pickF rfl rfl) rfl rfl ?_
      refine WL.rd (RD.move rfl) rfl rfl ?_
      refine WL.caseP 46 rfl (fun hg46 => ?_) (fun hg46 => ?_)
      ·
       refine WL.noS rfl rfl ?_
       refine WL.noS rfl rfl ?_
       refine WL.noS rfl rfl ?_
       refine WL.noS rfl rfl ?_
       refine WL.noS rfl rfl ?_
       refine WL.rd (RD.pickT rfl rfl) rfl rfl ?_
       refine WL.nil ?_
       refine JE.seqN ?_
       refine J.condT rfl ?_
       refine J.seq ?_
       refine J.reg ?_
       refine WL.rd (RD.loadA rfl rfl) rfl rfl ?_
       refine WL.efS (EF.callN (.cons rfl .nil) (fun w hS => l4Copy_c _ _ _ _ _ _ _ (by exact RdI.rd hS) (by exact RdI.rd hS) (by exact RdI.rd hS) (by omega) (by omega) (by omega))) rfl rfl ?_
       rintro ⟨f54, t54, p54⟩ -
       refine WL.efN (EF.storeA rfl rfl rfl rfl) rfl ?_
       rintro ⟨⟩ -
       refine WL.rd (RD.assign rfl) rfl rfl ?_
       refine WL.nil ?_
       refine JE.seqN ?_
       refine J.ret ?_
       refine JE.ret rfl (ResL.flat rfl rfl (.tmp rfl .nil)) (fun w hS => ?_)
       have hno : ¬ gpOk n xs k f t pl a b want := fun h => by obtain ⟨h1, h2, h3, h4, h5⟩ := h; first | exact absurd h1 (by assumption) | omega
       exact CN.fin hS (f54, t54, p54) (by rw [gpI_no hno]; rfl) trivial (SubM.row rfl rfl (by rw [gpI_no hno]) (SubM.row rfl rfl (by rw [gpI_no hno]) (SubM.row rfl rfl (by rw [gpI_no hno]) .nil))) (by simp [En.rdb])
      ·
       refine WL.rd (RD.move rfl) rfl rfl ?_
       refine WL.rd (RD.move rfl) rfl rfl ?_
       refine WL.rd (RD.mul rfl rfl (by omega) (by omega)) rfl rfl ?_
       refine WL.efS (EF.callS (.cons rfl (.cons rfl (.cons rfl .nil))) (fun w hS => l1In_c _ _ _ _)) rfl rfl ?_
       rintro ⟨⟩ -
       refine WL.rd (RD.notP rfl) rfl rfl ?_
       refine WL.rd (RD.pickF rfl rfl) rfl rfl ?_
       refine WL.nil ?_
       refine JE.seqN ?_
       refine J.condP rfl (fun hc52 => ?_) (fun hc52 => ?_)
       ·
        refine J.seq ?_
        refine J.reg ?_
        refine WL.rd (RD.loadA rfl rfl) rfl rfl ?_
        refine WL.efS (EF.callN (.cons rfl .nil) (fun w hS => l4Copy_c _ _ _ _ _ _ _ (by exact RdI.rd hS) (by exact RdI.rd hS) (by exact RdI.rd hS) (by omega) (by omega) (by omega))) rfl rfl ?_
        rintro ⟨f54, t54, p54⟩ -
        refine WL.efN (EF.storeA rfl rfl rfl rfl) rfl ?_
        rintro ⟨⟩ -
        refine WL.rd (RD.assign rfl) rfl rfl ?_
        refine WL.nil ?_
        refine JE.seqN ?_
        refine J.ret ?_
        refine JE.ret rfl (ResL.flat rfl rfl (.tmp rfl .nil)) (fun w hS => ?_)
        have hno : ¬ gpOk n xs k f t pl a b want := fun h => by obtain ⟨h1, h2, h3, h4, h5⟩ := h; first | exact absurd h1 (by assumption) | omega
        exact CN.fin hS (f54, t54, p54) (by rw [gpI_no hno]; rfl) trivial (SubM.row rfl rfl (by rw [gpI_no hno]) (SubM.row rfl rfl (by rw [gpI_no hno]) (SubM.row rfl rfl (by rw [gpI_no hno]) .nil))) (by simp [En.rdb])
       ·
        refine J.skip ?_
        refine JE.seqN ?_
        refine J.seq ?_
        have hgs := gathP_spec (n := n.toNat) (k := k) (xs := xs) (a := a) (b := b) (want := want) (by omega) (by omega) (by omega) 8 ⟨f, t, pl⟩ hp (by have h1 := hp.pos a (by omega) (by omega); have h2 := hp.pos b (by omega) (by omega); omega)
        refine J.reg ?_
        refine WL.rd (RD.loadA rfl rfl) rfl rfl ?_
        refine WL.rd (RD.loadA rfl rfl) rfl rfl ?_
        refine WL.rd (RD.move rfl) rfl rfl ?_
        refine WL.rd (RD.move rfl) rfl rfl ?_
        refine WL.rd (RD.move rfl) rfl rfl ?_
        refine WL.efS (EF.callN (.cons rfl (.cons rfl (.cons rfl (.cons rfl (.cons rfl .nil))))) (fun w hS => l4Gather_i _ k _ xs _ _ _ _ _ _ _ _ _ _ (by omega) (by omega) (by omega) (by assumption) (by exact RdI.rd hS) (by exact RdI.rd hS) (by exact RdI.rd hS) (by exact RdI.rd hS) (by omega) (by omega) (by omega) (by omega))) rfl rfl ?_
        rintro ⟨f61, t61, p61⟩ -
        refine WL.rd (RD.move rfl) rfl rfl ?_
        refine WL.rd (RD.extract rfl rfl) rfl rfl ?_
        refine WL.rd (RD.extract rfl rfl) rfl rfl ?_
        refine WL.efS (EF.allocA) rfl rfl ?_
        intro b14 _
        refine WL.efN (EF.storeA rfl rfl rfl rfl) rfl ?_
        rintro ⟨⟩ -
        refine WL.rd (RD.assign rfl) rfl rfl ?_
        refine WL.nil ?_
        refine JE.seqN ?_
        refine J.seq ?_
        refine J.seq ?_
        refine J.reg ?_
        refine WL.rd (RD.move rfl) rfl rfl ?_
        refine WL.rd (RD.not rfl) rfl rfl ?_
        refine WL.nil ?_
        refine JE.seqN ?_
        refine J.cond rfl (fun hc65 => ?_) (fun hc65 => ?_)
        ·
         have hG2 : (gathP n.toNat xs a b want 8 ⟨f, t, pl⟩).2 = false := by simpa using hc65
         refine J.seq ?_
         refine J.reg ?_
         refine WL.rd (RD.loadA rfl rfl) rfl rfl ?_
         refine WL.efS (EF.callN (.cons rfl .nil) (fun w hS => l4Copy_c _ _ _ _ _ _ _ (by exact RdI.rd hS) (by exact RdI.rd hS) (by exact RdI.rd hS) (by omega) (by omega) (by omega))) rfl rfl ?_
         rintro ⟨f67, t67, p67⟩ -
         refine WL.efN (EF.storeA rfl rfl rfl rfl) rfl ?_
         rintro ⟨⟩ -
         refine WL.rd (RD.assign rfl) rfl rfl ?_
         refine WL.nil ?_
         refine JE.seqN ?_
         refine J.ret ?_
         refine JE.ret rfl (ResL.flat rfl rfl (.tmp rfl .nil)) (fun w hS => ?_)
         exact CN.fin hS (f67, t67, p67) (by rw [gpI_fail hG2]; rfl) trivial (SubM.row rfl rfl (by rw [gpI_fail hG2]) (SubM.row rfl rfl (by rw [gpI_fail hG2]) (SubM.row rfl rfl (by rw [gpI_fail hG2]) .nil))) (by simp [En.rdb])
        ·
         have hG2 : (gathP n.toNat xs a b want 8 ⟨f, t, pl⟩).2 = true := by simpa using hc65
         refine J.skip ?_
         refine JE.seqN ?_
         refine J.seq ?_
         refine J.reg ?_
         refine WL.rd (RD.loadA rfl rfl) rfl rfl ?_
         refine WL.efN (EF.storeA rfl rfl rfl rfl) rfl ?_
         rintro ⟨⟩ -
         refine WL.rd (RD.assign rfl) rfl rfl ?_
         refine WL.nil ?_
         refine JE.seqN ?_
         refine J.ret ?_
         refine JE.ret rfl (ResL.flat rfl rfl (.tmp rfl .nil)) (fun w hS => ?_)
         have hgo : gpOk n xs k f t pl a b want := ⟨hisp, by omega, by omega, by omega, by omega⟩
         have hgy := gpI_yes hgo hG2
         exact CN.fin hS (f61, t61, p61) (by rw [hgy, hG2]; rfl) trivial (SubM.row rfl rfl (by rw [hgy]) (SubM.row rfl rfl (by rw [hgy]) (SubM.row rfl rfl (by first | (rw [hgy]; done) | (rw [hgy, hgs.2.1])) .nil))) (by simp [En.rdb])
theorem sPlaceBar_c (n : Int) (v : Value) (xs : List (Int × Int)) (k l : Int) (vf vt vp : Value) (f t pl : List Int) (i : Int) (w : World) (hr : Rd w v 2 (xs.map bv)) (hrf : Rd w vf 1 (f.map iv)) (hrt : Rd w vt 1 (t.map iv)) (hrp : Rd w vp 1 (pl.map iv)) (hbf : ∀ x ∈ f, x ≤ 9223372036854775807) (h1 : f.length ≤ 1048576) (h2 : t.length ≤ 1048576) (h3 : pl.length ≤ 1048576) (hxl : xs.length ≤ 1048576) (hlr : -9223372036854775808 ≤ l ∧ l ≤ 9223372036854775807) :
    CN Try.prog 24 [.agg #[.int .i64 n, v], .int .i64 k, .int .i64 l, .agg #[vf, vt, vp], .int .i64 i] w (Value × Value × Value) (fun _ => True) (fun x => .tuple #[.agg #[x.1, x.2.1, x.2.2], .bool (pbI n xs k l f t pl i).2]) (fun x => [.row x.1 3 1 (((pbI n xs k l f t pl i).1.f).map iv), .row x.2.1 3 1 (((pbI n xs k l f t pl i).1.t).map iv), .row x.2.2 3 1 (((pbI n xs k l f t pl i).1.pl).map iv)]) := by
 have hl_xs : xs.length ≤ 9223372036854775807 := (by obtain ⟨_, _, _, hh, _⟩ := hr.shape; simpa using hh)
 have hl_f : f.length ≤ 9223372036854775807 := (by obtain ⟨_, _, _, hh, _⟩ := hrf.shape; simpa using hh)
 have hl_t : t.length ≤ 9223372036854775807 := (by obtain ⟨_, _, _, hh, _⟩ := hrt.shape; simpa using hh)
 have hl_pl : pl.length ≤ 9223372036854775807 := (by obtain ⟨_, _, _, hh, _⟩ := hrp.shape; simpa using hh)
 refine calls_of_J (mu := (fun _ => False)) (m := [.ro v 2 (xs.map bv), .ro vf 1 (f.map iv), .ro vt 1 (t.map iv), .ro vp 1 (pl.map iv)]) (e := [(0, .agg #[.int .i64 n, v]), (1, .int .i64 k), (2, .int .i64 l), (3, .agg #[vf, vt, vp]), (4, .int .i64 i)]) Try.func24 rfl rfl (.cons rfl (.cons rfl (.cons rfl (.cons rfl (.cons rfl .nil))))) ((((((St.init _ _).ro0 hrp (by decide)).ro0 hrt (by decide)).ro0 hrf (by decide)).ro0 hr (by decide))) ?_
 refine J.seq ?_
 refine J.reg ?_
 refine WL.efS (EF.boxA rfl) rfl rfl ?_
 intro b5 _
 refine WL.efS (EF.boxA rfl) rfl rfl ?_
 intro b8 _
 refine WL.efS (EF.allocA) rfl rfl ?_
 intro b10 _
 refine WL.rd (RD.assign rfl) rfl rfl ?_
 refine WL.nil ?_
 refine JE.seqN ?_
 refine J.seq ?_
 refine J.seq ?_
 refine J.reg ?_
 refine WL.rd (RD.loadA rfl rfl) rfl rfl ?_
 refine WL.rd (RD.move rfl) rfl rfl ?_
 refine WL.rd (RD.loadA rfl rfl) rfl rfl ?_
 refine WL.efS (EF.callS (.cons rfl (.cons rfl (.cons rfl .nil))) (fun w hS => sIsPebbles_c _ _ _ _ _ _ _ _ _ _ _ (by exact RdI.rd hS) (by exact RdI.rd hS) (by exact RdI.rd hS) (by exact RdI.rd hS) (by assumption))) rfl rfl ?_
 rintro ⟨⟩ -
 refine WL.rd (RD.notP rfl) rfl rfl ?_
 refine WL.rd (RD.move rfl) rfl rfl ?_
 refine WL.caseP 21 rfl (fun hg21 => ?_) (fun hg21 => ?_)
 ·
  refine WL.noS rfl rfl ?_
  refine WL.noS rfl rfl ?_
  refine WL.noS rfl rfl ?_
  refine WL.noS rfl rfl ?_
  refine WL.rd (RD.pickT rfl rfl) rfl rfl ?_
  refine WL.rd (RD.move rfl) rfl rfl ?_
  refine WL.noS rfl rfl ?_
  refine WL.noS rfl rfl ?_
  refine WL.rd (RD.pickT rfl rfl) rfl rfl ?_
  refine WL.rd (RD.move rfl) rfl rfl ?_
  refine WL.noS rfl rfl ?_
  refine WL.noS rfl rfl ?_
  refine WL.noS rfl rfl ?_
  refine WL.noS rfl rfl ?_
  refine WL.noS rfl rfl ?_
  refine WL.rd (RD.pickT rfl rfl) rfl rfl ?_
  refine WL.rd (RD.move rfl) rfl rfl ?_
  refine WL.noS rfl rfl ?_
  refine WL.noS rfl rfl ?_
  refine WL.noS rfl rfl ?_
  refine WL.noS rfl rfl ?_
  refine WL.noS rfl rfl ?_
  refine WL.noS rfl rfl ?_
  refine WL.noS rfl rfl ?_
  refine WL.noS rfl rfl ?_
  refine WL.noS rfl rfl ?_
  refine WL.noS rfl rfl ?_
  refine WL.noS rfl rfl ?_
  refine WL.noS rfl rfl ?_
  refine WL.noS rfl rfl ?_
  refine WL.noS rfl rfl ?_
  refine WL.noS rfl rfl ?_
  refine WL.noS rfl rfl ?_
  refine WL.rd (RD.pickT rfl rfl) rfl rfl ?_
  refine WL.nil ?_
  refine JE.seqN ?_
  refine J.condT rfl ?_
  refine J.seq ?_
  refine J.reg ?_
  refine WL.rd (RD.loadA rfl rfl) rfl rfl ?_
  refine WL.efS (EF.callN (.cons rfl .nil) (fun w hS => l4Copy_c _ _ _ _ _ _ _ (by exact RdI.rd hS) (by exact RdI.rd hS) (by exact RdI.rd hS) (by omega) (by omega) (by omega))) rfl rfl ?_
  rintro ⟨f57, t57, p57⟩ -
  refine WL.efN (EF.storeA rfl rfl rfl rfl) rfl ?_
  rintro ⟨⟩ -
  refine WL.rd (RD.assign rfl) rfl rfl ?_
  refine WL.nil ?_
  refine JE.seqN ?_
  refine J.ret ?_
  refine JE.ret rfl (ResL.flat rfl rfl (.tmp rfl .nil)) (fun w hS => ?_)
  have hno : ¬ pbOk n xs k l f t pl i := fun h => by obtain ⟨h1, h2, h3, h4⟩ := h; first | exact absurd h1 (by assumption) | exact absurd h2 (by assumption) | omega | (have h5 := h4 (by omega); omega)
  exact CN.fin hS (f57, t57, p57) (by rw [pbI_no hno]; rfl) trivial (SubM.row rfl rfl (by rw [pbI_no hno]) (SubM.row rfl rfl (by rw [pbI_no hno]) (SubM.row rfl rfl (by rw [pbI_no hno]) .nil))) (by simp [En.rdb])
 ·
  have hisp : isP n xs k f t pl := Decidable.not_not.1 hg21
  have hg := hisp.1
  have hk3 := hisp.2.1
  have h12 := hg.1
  have h13 := hg.2.1
  have h14 := hg.2.2.1
  have hp := isP_ok hisp
  refine WL.rd (RD.move rfl) rfl rfl ?_
  refine WL.rd (RD.move rfl) rfl rfl ?_
  refine WL.efS (EF.callS (.cons rfl (.cons rfl .nil)) (fun w hS => sIsRange_c _ _ _ (by assumption))) rfl rfl ?_
  rintro ⟨⟩ -
  refine WL.rd (RD.notP rfl) rfl rfl ?_
  refine WL.rd (RD.pickF rfl rfl) rfl rfl ?_
  refine WL.rd (RD.move rfl) rfl rfl ?_
  refine WL.caseP 27 rfl (fun hg27 => ?_) (fun hg27 => ?_)
  ·
   refine WL.noS rfl rfl ?_
   refine WL.noS rfl rfl ?_
   refine WL.rd (RD.pickT rfl rfl) rfl rfl ?_
   refine WL.rd (RD.move rfl) rfl rfl ?_
   refine WL.noS rfl rfl ?_
   refine WL.noS rfl rfl ?_
   refine WL.noS rfl rfl ?_
   refine WL.noS rfl rfl ?_
   refine WL.noS rfl rfl ?_
   refine WL.rd (RD.pickT rfl rfl) rfl rfl ?_
   refine WL.rd (RD.move rfl) rfl rfl ?_
   refine WL.noS rfl rfl ?_
   refine WL.noS rfl rfl ?_
   refine WL.noS rfl rfl ?_
   refine WL.noS rfl rfl ?_
   refine WL.noS rfl rfl ?_
   refine WL.noS rfl rfl ?_
   refine WL.noS rfl rfl ?_
   refine WL.noS rfl rfl ?_
   refine WL.noS rfl rfl ?_
   refine WL.noS rfl rfl ?_
   refine WL.noS rfl rfl ?_
   refine WL.noS rfl rfl ?_
   refine WL.noS rfl rfl ?_
   refine WL.noS rfl rfl ?_
   refine WL.noS rfl rfl ?_
   refine WL.noS rfl rfl ?_
   refine WL.rd (RD.pickT rfl rfl) rfl rfl ?_
   refine WL.nil ?_
   refine JE.seqN ?_
   refine J.condT rfl ?_
   refine J.seq ?_
   refine J.reg ?_
   refine WL.rd (RD.loadA rfl rfl) rfl rfl ?_
   refine WL.efS (EF.callN (.cons rfl .nil) (fun w hS => l4Copy_c _ _ _ _ _ _ _ (by exact RdI.rd hS) (by exact RdI.rd hS) (by exact RdI.rd hS) (by omega) (by omega) (by omega))) rfl rfl ?_
   rintro ⟨f57, t57, p57⟩ -
   refine WL.efN (EF.storeA rfl rfl rfl rfl) rfl ?_
   rintro ⟨⟩ -
   refine WL.rd (RD.assign rfl) rfl rfl ?_
   refine WL.nil ?_
   refine JE.seqN ?_
   refine J.ret ?_
   refine JE.ret rfl (ResL.flat rfl rfl (.tmp rfl .nil)) (fun w hS => ?_)
   have hno : ¬ pbOk n xs k l f t pl i := fun h => by obtain ⟨h1, h2, h3, h4⟩ := h; first | exact absurd h1 (by assumption) | exact absurd h2 (by assumption) | omega | (have h5 := h4 (by omega); omega)
   exact CN.fin hS (f57, t57, p57) (by rw [pbI_no hno]; rfl) trivial (SubM.row rfl rfl (by rw [pbI_no hno]) (SubM.row rfl rfl (by rw [pbI_no hno]) (SubM.row rfl rfl (by rw [pbI_no hno]) .nil))) (by simp [En.rdb])
  ·
   refine WL.rd (RD.move rfl) rfl rfl ?_
   refine WL.rd (RD.lss rfl rfl) rfl rfl ?_
   refine WL.rd (RD.pickF rfl rfl) rfl rfl ?_
   refine WL.rd (RD.move rfl) rfl rfl ?_
   refine WL.caseP 31 rfl (fun hg31 => ?_) (fun hg31 => ?_)
   ·
    refine WL.noS rfl rfl ?_
    refine WL.noS rfl rfl ?_
    refine WL.noS rfl rfl ?_
    refine WL.noS rfl rfl ?_
    refine WL.noS rfl rfl ?_
    refine WL.rd (RD.pickT rfl rfl) rfl rfl ?_
    refine WL.rd (RD.move rfl) rfl rfl ?_
    refine WL.noS rfl rfl ?_
    refine WL.noS rfl rfl ?_
    refine WL.noS rfl rfl ?_
    refine WL.noS rfl rfl ?_
    refine WL.noS rfl rfl ?_
    refine WL.noS rfl rfl ?_
    refine WL.noS rfl rfl ?_
    refine WL.noS rfl rfl ?_
    refine WL.noS rfl rfl ?_
    refine WL.noS rfl rfl ?_
    refine WL.noS rfl rfl ?_
    refine WL.noS rfl rfl ?_
    refine WL.noS rfl rfl ?_
    refine WL.noS rfl rfl ?_
    refine WL.noS rfl rfl ?_
    refine WL.noS rfl rfl ?_
    refine WL.rd (RD.pickT rfl rfl) rfl rfl ?_
    refine WL.nil ?_
    refine JE.seqN ?_
    refine J.condT rfl ?_
    refine J.seq ?_
    refine J.reg ?_
    refine WL.rd (RD.loadA rfl rfl) rfl rfl ?_
    refine WL.efS (EF.callN (.cons rfl .nil) (fun w hS => l4Copy_c _ _ _ _ _ _ _ (by exact RdI.rd hS) (by exact RdI.rd hS) (by exact RdI.rd hS) (by omega) (by omega) (by omega))) rfl rfl ?_
    rintro ⟨f57, t57, p57⟩ -
    refine WL.efN (EF.storeA rfl rfl rfl rfl) rfl ?_
    rintro ⟨⟩ -
    refine WL.rd (RD.assign rfl) rfl rfl ?_
    refine WL.nil ?_
    refine JE.seqN ?_
    refine J.ret ?_
    refine JE.ret rfl (ResL.flat rfl rfl (.tmp rfl .nil)) (fun w hS => ?_)
    have hno : ¬ pbOk n xs k l f t pl i := fun h => by obtain ⟨h1, h2, h3, h4⟩ := h; first | exact absurd h1 (by assumption) | exact absurd h2 (by assumption) | omega | (have h5 := h4 (by omega); omega)
    exact CN.fin hS (f57, t57, p57) (by rw [pbI_no hno]; rfl) trivial (SubM.row rfl rfl (by rw [pbI_no hno]) (SubM.row rfl rfl (by rw [pbI_no hno]) (SubM.row rfl rfl (by rw [pbI_no hno]) .nil))) (by simp [En.rdb])
   ·
    refine WL.rd (RD.move rfl) rfl rfl ?_
    refine WL.rd (RD.fieldC rfl rfl) rfl rfl ?_
    refine WL.rd (RD.loadC rfl rfl) rfl rfl ?_
    refine WL.rd (RD.lenR rfl) rfl rfl ?_
    refine WL.rd (RD.geq rfl rfl) rfl rfl ?_
    refine WL.rd (RD.pickF rfl rfl) rfl rfl ?_
    refine WL.rd (RD.move rfl) rfl rfl ?_
    refine WL.caseP 38 rfl (fun hg38 => ?_) (fun hg38 => ?_)
    ·
     refine WL.noS rfl rfl ?_
     refine WL.noS rfl rfl ?_
     refine WL.noS rfl rfl ?_
     refine WL.noS rfl rfl ?_
     refine WL.noS rfl rfl ?_
     refine WL.noS rfl rfl ?_
     refine WL.noS rfl rfl ?_
     refine WL.noS rfl rfl ?_
     refine WL.noS rfl rfl ?_
     refine WL.noS rfl rfl ?_
     refine WL.noS rfl rfl ?_
     refine WL.noS rfl rfl ?_
     refine WL.noS rfl rfl ?_
     refine WL.noS rfl rfl ?_
     refine WL.noS rfl rfl ?_
     refine WL.noS rfl rfl ?_
     refine WL.rd (RD.pickT rfl rfl) rfl rfl ?_
     refine WL.nil ?_
     refine JE.seqN ?_
     refine J.condT rfl ?_
     refine J.seq ?_
     refine J.reg ?_
     refine WL.rd (RD.loadA rfl rfl) rfl rfl ?_
     refine WL.efS (EF.callN (.cons rfl .nil) (fun w hS => l4Copy_c _ _ _ _ _ _ _ (by exact RdI.rd hS) (by exact RdI.rd hS) (by exact RdI.rd hS) (by omega) (by omega) (by omega))) rfl rfl ?_
     rintro ⟨f57, t57, p57⟩ -
     refine WL.efN (EF.storeA rfl rfl rfl rfl) rfl ?_
     rintro ⟨⟩ -
     refine WL.rd (RD.assign rfl) rfl rfl ?_
     refine WL.nil ?_
     refine JE.seqN ?_
     refine J.ret ?_
     refine JE.ret rfl (ResL.flat rfl rfl (.tmp rfl .nil)) (fun w hS => ?_)
     have hno : ¬ pbOk n xs k l f t pl i := fun h => by obtain ⟨h1, h2, h3, h4⟩ := h; first | exact absurd h1 (by assumption) | exact absurd h2 (by assumption) | omega | (have h5 := h4 (by omega); omega)
     exact CN.fin hS (f57, t57, p57) (by rw [pbI_no hno]; rfl) trivial (SubM.row rfl rfl (by rw [pbI_no hno]) (SubM.row rfl rfl (by rw [pbI_no hno]) (SubM.row rfl rfl (by rw [pbI_no hno]) .nil))) (by simp [En.rdb])
    ·
     refine WL.rd (RD.fieldC rfl rfl) rfl rfl ?_
     refine WL.rd (RD.loadC rfl rfl) rfl rfl ?_
     refine WL.rd (RD.lenR rfl) rfl rfl ?_
     refine WL.rd (RD.gtr rfl rfl) rfl rfl ?_
     refine WL.rd (RD.move rfl) rfl rfl ?_
     refine WL.caseP 43 rfl (fun hg43 => ?_) (fun hg43 => ?_)
     ·
      refine WL.rd (RD.fieldC rfl rfl) rfl rfl ?_
      refine WL.rd (RD.loadC rfl rfl) rfl rfl ?_
      refine WL.rd (RD.fieldC rfl rfl) rfl rfl ?_
      refine WL.rd (RD.loadC rfl rfl) rfl rfl ?_
      refine WL.rd (RD.lenR rfl) rfl rfl ?_
      refine WL.rd (RD.sub rfl rfl (by omega) (by omega)) rfl rfl ?_
      refine WL.rd (RD.idx (j := pl.length - 1) (hj := ⟨by omega⟩) rfl rfl (by omega) rfl) rfl rfl ?_
      refine WL.rd (RD.loadE rfl (by omega) rfl) rfl rfl ?_
      refine WL.rd (RD.move rfl) rfl rfl ?_
      refine WL.rd (RD.geq rfl rfl) rfl rfl ?_
      refine WL.rd (RD.pickT rfl rfl) rfl rfl ?_
      refine WL.rd (RD.pickF rfl rfl) rfl rfl ?_
      refine WL.nil ?_
      refine JE.seqN ?_
      refine J.condP rfl (fun hc55 => ?_) (fun hc55 => ?_)
      ·
       refine J.seq ?_
       refine J.reg ?_
       refine WL.rd (RD.loadA rfl rfl) rfl rfl ?_
       refine WL.efS (EF.callN (.cons rfl .nil) (fun w hS => l4Copy_c _ _ _ _ _ _ _ (by exact RdI.rd hS) (by exact RdI.rd hS) (by exact RdI.rd hS) (by omega) (by omega) (by omega))) rfl rfl ?_
       rintro ⟨f57, t57, p57⟩ -
       refine WL.efN (EF.storeA rfl rfl rfl rfl) rfl ?_
       rintro ⟨⟩ -
       refine WL.rd (RD.assign rfl) rfl rfl ?_
       refine WL.nil ?_
       refine JE.seqN ?_
       refine J.ret ?_
       refine JE.ret rfl (ResL.flat rfl rfl (.tmp rfl .nil)) (fun w hS => ?_)
       have hno : ¬ pbOk n xs k l f t pl i := fun h => by obtain ⟨h1, h2, h3, h4⟩ := h; first | exact absurd h1 (by assumption) | exact absurd h2 (by assumption) | omega | (have h5 := h4 (by omega); omega)
       exact CN.fin hS (f57, t57, p57) (by rw [pbI_no hno]; rfl) trivial (SubM.row rfl rfl (by rw [pbI_no hno]) (SubM.row rfl rfl (by rw [pbI_no hno]) (SubM.row rfl rfl (by rw [pbI_no hno]) .nil))) (by simp [En.rdb])
      ·
       refine J.skip ?_
       refine JE.seqN ?_
       refine J.seq ?_
       obtain ⟨e1, e2, e3⟩ := (gGood hg).e i.toNat (by omega)
       unfold exs at e1 e2 e3
       have hgs := gathP_spec (n := n.toNat) (k := k) (xs := xs) (a := (xs.getD i.toNat default).1) (b := (xs.getD i.toNat default).2) (want := l + 1) (by omega) (by omega) (by omega) 8 (⟨f, t, pl⟩ : PS) hp (by have h1 := hp.pos (xs.getD i.toNat default).1 (by omega) (by omega); have h2 := hp.pos (xs.getD i.toNat default).2 (by omega) (by omega); omega)
       have hgl : (gathP n.toNat xs (xs.getD i.toNat default).1 (xs.getD i.toNat default).2 (l + 1) 8 (⟨f, t, pl⟩ : PS)).1.f.length = n.toNat := hgs.1.fl
       have hpx : pl.length ≤ xs.length := asc_len hp
       have htl : t.length = pl.length := hp.pv.tl
       have hgt : (gathP n.toNat xs (xs.getD i.toNat default).1 (xs.getD i.toNat default).2 (l + 1) 8 (⟨f, t, pl⟩ : PS)).1.t.length = pl.length := by rw [hgs.1.pv.tl, hgs.2.1]
       have hgp : (gathP n.toNat xs (xs.getD i.toNat default).1 (xs.getD i.toNat default).2 (l + 1) 8 (⟨f, t, pl⟩ : PS)).1.pl.length = pl.length := by rw [hgs.2.1]
       have hv1 := fv_rng hgs.1 (v := (xs.getD i.toNat default).1) (by omega) (by omega)
       have hv2 := fv_rng hgs.1 (v := (xs.getD i.toNat default).2) (by omega) (by omega)
       simp only [gI] at hv1 hv2
       refine J.reg ?_
       refine WL.rd (RD.fieldC rfl rfl) rfl rfl ?_
       refine WL.rd (RD.loadC rfl rfl) rfl rfl ?_
       refine WL.rd (RD.move rfl) rfl rfl ?_
       refine WL.rd (RD.idx (j := i.toNat) (hj := ⟨by omega⟩) rfl rfl (by omega) rfl) rfl rfl ?_
       refine WL.rd (RD.loadEA rfl (by omega) rfl) rfl rfl ?_
       refine WL.efS (EF.allocA) rfl rfl ?_
       intro b12 _
       refine WL.efN (EF.storeA rfl rfl rfl rfl) rfl ?_
       rintro ⟨⟩ -
       refine WL.nil ?_
       refine JE.seqN ?_
       refine J.seq ?_
       refine J.reg ?_
       refine WL.rd (RD.loadA rfl rfl) rfl rfl ?_
       refine WL.rd (RD.loadA rfl rfl) rfl rfl ?_
       refine WL.rd (RD.fieldC rfl rfl) rfl rfl ?_
       refine WL.rd (RD.loadC rfl rfl) rfl rfl ?_
       refine WL.rd (RD.fieldC rfl rfl) rfl rfl ?_
       refine WL.rd (RD.loadC rfl rfl) rfl rfl ?_
       refine WL.rd (RD.move rfl) rfl rfl ?_
       refine WL.rd (RD.add rfl rfl (by omega) (by omega)) rfl rfl ?_
       refine WL.efS (EF.callN (.cons rfl (.cons rfl (.cons rfl (.cons rfl (.cons rfl .nil))))) (fun w hS => l4Gather_i _ k _ xs _ _ _ _ _ _ _ _ _ _ (by omega) (by omega) (by omega) (by assumption) (by exact RdI.rd hS) (by exact RdI.rd hS) (by exact RdI.rd hS) (by exact RdI.rd hS) (by omega) (by omega) (by omega) (by omega))) rfl rfl ?_
       rintro ⟨f72, t72, p72⟩ -
       refine WL.rd (RD.move rfl) rfl rfl ?_
       refine WL.rd (RD.extract rfl rfl) rfl rfl ?_
       refine WL.rd (RD.extract rfl rfl) rfl rfl ?_
       refine WL.efS (EF.allocA) rfl rfl ?_
       intro b13 _
       refine WL.efN (EF.storeA rfl rfl rfl rfl) rfl ?_
       rintro ⟨⟩ -
       refine WL.rd (RD.assign rfl) rfl rfl ?_
       refine WL.nil ?_
       refine JE.seqN ?_
       refine J.seq ?_
       refine J.seq ?_
       refine J.reg ?_
       refine WL.rd (RD.move rfl) rfl rfl ?_
       refine WL.rd (RD.not rfl) rfl rfl ?_
       refine WL.nil ?_
       refine JE.seqN ?_
       refine J.cond rfl (fun hc76 => ?_) (fun hc76 => ?_)
       ·
        have hG2 : (gathP n.toNat xs (xs.getD i.toNat default).1 (xs.getD i.toNat default).2 (l + 1) 8 (⟨f, t, pl⟩ : PS)).2 = false := by simpa using hc76
        refine J.seq ?_
        refine J.reg ?_
        refine WL.rd (RD.loadA rfl rfl) rfl rfl ?_
        refine WL.efS (EF.callN (.cons rfl .nil) (fun w hS => l4Copy_c _ _ _ _ _ _ _ (by exact RdI.rd hS) (by exact RdI.rd hS) (by exact RdI.rd hS) (by omega) (by omega) (by omega))) rfl rfl ?_
        rintro ⟨f78, t78, p78⟩ -
        refine WL.efN (EF.storeA rfl rfl rfl rfl) rfl ?_
        rintro ⟨⟩ -
        refine WL.rd (RD.assign rfl) rfl rfl ?_
        refine WL.nil ?_
        refine JE.seqN ?_
        refine J.ret ?_
        refine JE.ret rfl (ResL.flat rfl rfl (.tmp rfl .nil)) (fun w hS => ?_)
        have hpf := pbI_fail (k := k) (n := n) (i := i) (l := l) (f := f) (t := t) (pl := pl) (xs := xs) (by rw [place_isSome]; exact hG2)
        exact CN.fin hS (f78, t78, p78) (by rw [hpf]; rfl) trivial (SubM.row rfl rfl (by rw [hpf]) (SubM.row rfl rfl (by rw [hpf]) (SubM.row rfl rfl (by rw [hpf]) .nil))) (by simp [En.rdb])
       ·
        have hG2 : (gathP n.toNat xs (xs.getD i.toNat default).1 (xs.getD i.toNat default).2 (l + 1) 8 (⟨f, t, pl⟩ : PS)).2 = true := by simpa using hc76
        refine J.skip ?_
        refine JE.seqN ?_
        refine J.seq ?_
        refine J.reg ?_
        refine WL.rd (RD.fieldC rfl rfl) rfl rfl ?_
        refine WL.rd (RD.loadC rfl rfl) rfl rfl ?_
        refine WL.rd (RD.assign rfl) rfl rfl ?_
        refine WL.nil ?_
        refine JE.seqN ?_
        refine J.seq ?_
        refine J.seq ?_
        refine J.reg ?_
        refine WL.rd (RD.fieldC rfl rfl) rfl rfl ?_
        refine WL.rd (RD.loadC rfl rfl) rfl rfl ?_
        refine WL.rd (RD.fieldC rfl rfl) rfl rfl ?_
        refine WL.rd (RD.loadC rfl rfl) rfl rfl ?_
        refine WL.rd (RD.idx (j := (xs.getD i.toNat default).1.toNat) (hj := ⟨by omega⟩) rfl rfl (by omega) rfl) rfl rfl ?_
        refine WL.rd (RD.loadE rfl (by omega) rfl) rfl rfl ?_
        refine WL.rd (RD.eql rfl rfl) rfl rfl ?_
        refine WL.nil ?_
        refine JE.seqN ?_
        refine J.condP rfl (fun hc87 => ?_) (fun hc87 => ?_)
        ·
         refine J.reg ?_
         refine WL.rd (RD.fieldC rfl rfl) rfl rfl ?_
         refine WL.rd (RD.loadC rfl rfl) rfl rfl ?_
         refine WL.rd (RD.assign rfl) rfl rfl ?_
         refine WL.nil ?_
         refine JE.seqN ?_
         refine J.seq ?_
         refine J.anyAll [10] ?_
         refine WA.takeP 0 rfl (RDP.of fun _ => RD.fieldC rfl rfl) rfl (by kernel_rfl) rfl ?_
         refine WA.take 1 rfl (RD.loadC rfl rfl) rfl (by kernel_rfl) rfl ?_
         refine WA.takeP 2 rfl (RDP.of fun _ => RD.move rfl) rfl (by kernel_rfl) rfl ?_
         refine WA.takeP 3 rfl (RDP.of fun _ => RD.fieldC rfl rfl) rfl (by kernel_rfl) rfl ?_
         refine WA.take 4 rfl (RD.loadC rfl rfl) rfl (by kernel_rfl) rfl ?_
         refine WA.takeP 5 rfl (RDP.of fun _ => RD.move rfl) rfl (by kernel_rfl) rfl ?_
         refine WA.takeP 6 rfl (RDP.idx (j := ((xs.getD i.toNat default).2).toNat) (hj := ⟨by omega⟩) rfl rfl (by omega) rfl) rfl (by kernel_rfl) rfl ?_
         refine WA.take 7 rfl (RD.loadE rfl (by omega) rfl) rfl (by kernel_rfl) rfl ?_
         refine WA.takeP 8 rfl (RDP.of fun _ => RD.sub rfl rfl (by omega) (by omega)) rfl (by kernel_rfl) rfl ?_
         refine WA.takeP 9 rfl (RDP.idx (j := ((xs.getD i.toNat default).2).toNat) (hj := ⟨by omega⟩) rfl rfl (by omega) rfl) rfl (by kernel_rfl) rfl ?_
         refine WA.one (i := 10) (by kernel_rfl) ?_
         refine WAi.efNL rfl (EF.storeI rfl rfl (by omega) rfl rfl) rfl rfl ?_
         rintro ⟨⟩ -
         refine WB.done (by kernel_rfl) ?_
         refine JE.seqN ?_
         refine J.seq ?_
         refine J.reg ?_
         refine WL.rd (RD.fieldC rfl rfl) rfl rfl ?_
         refine WL.rd (RD.loadC rfl rfl) rfl rfl ?_
         refine WL.rd (RD.move rfl) rfl rfl ?_
         refine WL.efS (EF.build1 rfl) rfl rfl ?_
         intro v103 _
         refine WL.efS (EF.append rfl rfl (by omega) rfl rfl rfl) rfl rfl ?_
         intro v104 _
         refine WL.rd (RD.fieldC rfl rfl) rfl rfl ?_
         refine WL.efN (EF.storeC rfl rfl rfl) rfl ?_
         rintro ⟨⟩ -
         refine WL.nil ?_
         refine JE.seqN ?_
         refine J.seq ?_
         refine J.reg ?_
         refine WL.rd (RD.fieldC rfl rfl) rfl rfl ?_
         refine WL.rd (RD.loadC rfl rfl) rfl rfl ?_
         refine WL.rd (RD.move rfl) rfl rfl ?_
         refine WL.efS (EF.build1 rfl) rfl rfl ?_
         intro v109 _
         refine WL.efS (EF.append rfl rfl (by omega) rfl rfl rfl) rfl rfl ?_
         intro v110 _
         refine WL.rd (RD.fieldC rfl rfl) rfl rfl ?_
         refine WL.efN (EF.storeC rfl rfl rfl) rfl ?_
         rintro ⟨⟩ -
         refine WL.nil ?_
         refine JE.seqN ?_
         refine J.seq ?_
         refine J.reg ?_
         refine WL.rd (RD.loadA rfl rfl) rfl rfl ?_
         refine WL.efN (EF.storeA rfl rfl rfl rfl) rfl ?_
         rintro ⟨⟩ -
         refine WL.rd (RD.assign rfl) rfl rfl ?_
         refine WL.nil ?_
         refine JE.seqN ?_
         refine J.ret ?_
         refine JE.ret rfl (ResL.flat rfl rfl (.tmp rfl .nil)) (fun w hS => ?_)
         have ht : tailP (gathP n.toNat xs (xs.getD i.toNat default).1 (xs.getD i.toNat default).2 (l + 1) 8 (⟨f, t, pl⟩ : PS)).1 (exs xs i.toNat) = (xs.getD i.toNat default).2 := by unfold tailP; rw [if_pos (by exact hc87)]; rfl
         have hpc : (plcP n.toNat xs l (⟨f, t, pl⟩ : PS) i.toNat) = putP (gathP n.toNat xs (xs.getD i.toNat default).1 (xs.getD i.toNat default).2 (l + 1) 8 (⟨f, t, pl⟩ : PS)).1 (exs xs i.toNat) i.toNat := plc_yes hG2
         have hpo : pbOk n xs k l f t pl i := ⟨hisp, by omega, by omega, fun h0 => by omega⟩
         have hpy := pbI_yes hpo (by rw [place_isSome]; exact hG2)
         have hin : ((i.toNat : Nat) : Int) = i := by omega
         exact CN.fin hS (f72, v104, v110) (by rw [hpy]; rfl) trivial (SubM.row rfl rfl (by rw [hpy, hpc]; unfold putP; first | (rw [ht]; done) | (rw [ht]; rfl)) (SubM.row rfl rfl (by rw [hpy, hpc]; unfold putP; first | (rw [ht]; done) | (rw [ht]; rfl)) (SubM.row rfl rfl (by rw [hpy, hpc]; unfold putP; first | (rw [hin]; done) | (rw [hin, hgs.2.1]; done) | (rw [hin]; rfl)) .nil))) (by simp [En.rdb])
        ·
         refine J.skip ?_
         refine JE.seqN ?_
         refine J.seq ?_
         refine J.anyAll [10] ?_
         refine WA.takeP 0 rfl (RDP.of fun _ => RD.fieldC rfl rfl) rfl (by kernel_rfl) rfl ?_
         refine WA.take 1 rfl (RD.loadC rfl rfl) rfl (by kernel_rfl) rfl ?_
         refine WA.takeP 2 rfl (RDP.of fun _ => RD.move rfl) rfl (by kernel_rfl) rfl ?_
         refine WA.takeP 3 rfl (RDP.of fun _ => RD.fieldC rfl rfl) rfl (by kernel_rfl) rfl ?_
         refine WA.take 4 rfl (RD.loadC rfl rfl) rfl (by kernel_rfl) rfl ?_
         refine WA.takeP 5 rfl (RDP.of fun _ => RD.move rfl) rfl (by kernel_rfl) rfl ?_
         refine WA.takeP 6 rfl (RDP.idx (j := ((xs.getD i.toNat default).1).toNat) (hj := ⟨by omega⟩) rfl rfl (by omega) rfl) rfl (by kernel_rfl) rfl ?_
         refine WA.take 7 rfl (RD.loadE rfl (by omega) rfl) rfl (by kernel_rfl) rfl ?_
         refine WA.takeP 8 rfl (RDP.of fun _ => RD.sub rfl rfl (by omega) (by omega)) rfl (by kernel_rfl) rfl ?_
         refine WA.takeP 9 rfl (RDP.idx (j := ((xs.getD i.toNat default).1).toNat) (hj := ⟨by omega⟩) rfl rfl (by omega) rfl) rfl (by kernel_rfl) rfl ?_
         refine WA.one (i := 10) (by kernel_rfl) ?_
         refine WAi.efNL rfl (EF.storeI rfl rfl (by omega) rfl rfl) rfl rfl ?_
         rintro ⟨⟩ -
         refine WB.done (by kernel_rfl) ?_
         refine JE.seqN ?_
         refine J.seq ?_
         refine J.reg ?_
         refine WL.rd (RD.fieldC rfl rfl) rfl rfl ?_
         refine WL.rd (RD.loadC rfl rfl) rfl rfl ?_
         refine WL.rd (RD.move rfl) rfl rfl ?_
         refine WL.efS (EF.build1 rfl) rfl rfl ?_
         intro v103 _
         refine WL.efS (EF.append rfl rfl (by omega) rfl rfl rfl) rfl rfl ?_
         intro v104 _
         refine WL.rd (RD.fieldC rfl rfl) rfl rfl ?_
         refine WL.efN (EF.storeC rfl rfl rfl) rfl ?_
         rintro ⟨⟩ -
         refine WL.nil ?_
         refine JE.seqN ?_
         refine J.seq ?_
         refine J.reg ?_
         refine WL.rd (RD.fieldC rfl rfl) rfl rfl ?_
         refine WL.rd (RD.loadC rfl rfl) rfl rfl ?_
         refine WL.rd (RD.move rfl) rfl rfl ?_
         refine WL.efS (EF.build1 rfl) rfl rfl ?_
         intro v109 _
         refine WL.efS (EF.append rfl rfl (by omega) rfl rfl rfl) rfl rfl ?_
         intro v110 _
         refine WL.rd (RD.fieldC rfl rfl) rfl rfl ?_
         refine WL.efN (EF.storeC rfl rfl rfl) rfl ?_
         rintro ⟨⟩ -
         refine WL.nil ?_
         refine JE.seqN ?_
         refine J.seq ?_
         refine J.reg ?_
         refine WL.rd (RD.loadA rfl rfl) rfl rfl ?_
         refine WL.efN (EF.storeA rfl rfl rfl rfl) rfl ?_
         rintro ⟨⟩ -
         refine WL.rd (RD.assign rfl) rfl rfl ?_
         refine WL.nil ?_
         refine JE.seqN ?_
         refine J.ret ?_
         refine JE.ret rfl (ResL.flat rfl rfl (.tmp rfl .nil)) (fun w hS => ?_)
         have ht : tailP (gathP n.toNat xs (xs.getD i.toNat default).1 (xs.getD i.toNat default).2 (l + 1) 8 (⟨f, t, pl⟩ : PS)).1 (exs xs i.toNat) = (xs.getD i.toNat default).1 := by unfold tailP; rw [if_neg (by exact hc87)]; rfl
         have hpc : (plcP n.toNat xs l (⟨f, t, pl⟩ : PS) i.toNat) = putP (gathP n.toNat xs (xs.getD i.toNat default).1 (xs.getD i.toNat default).2 (l + 1) 8 (⟨f, t, pl⟩ : PS)).1 (exs xs i.toNat) i.toNat := plc_yes hG2
         have hpo : pbOk n xs k l f t pl i := ⟨hisp, by omega, by omega, fun h0 => by omega⟩
         have hpy := pbI_yes hpo (by rw [place_isSome]; exact hG2)
         have hin : ((i.toNat : Nat) : Int) = i := by omega
         exact CN.fin hS (f72, v104, v110) (by rw [hpy]; rfl) trivial (SubM.row rfl rfl (by rw [hpy, hpc]; unfold putP; first | (rw [ht]; done) | (rw [ht]; rfl)) (SubM.row rfl rfl (by rw [hpy, hpc]; unfold putP; first | (rw [ht]; done) | (rw [ht]; rfl)) (SubM.row rfl rfl (by rw [hpy, hpc]; unfold putP; first | (rw [hin]; done) | (rw [hin, hgs.2.1]; done) | (rw [hin]; rfl)) .nil))) (by simp [En.rdb])
     ·
      refine WL.noS rfl rfl ?_
      refine WL.noS rfl rfl ?_
      refine WL.noS rfl rfl ?_
      refine WL.noS rfl rfl ?_
      refine WL.noS rfl rfl ?_
      refine WL.noS rfl rfl ?_
      refine WL.noS rfl rfl ?_
      refine WL.noS rfl rfl ?_
      refine WL.noS rfl rfl ?_
      refine WL.noS rfl rfl ?_
      refine WL.rd (RD.pickF rfl rfl) rfl rfl ?_
      refine WL.rd (RD.pickF rfl rfl) rfl rfl ?_
      refine WL.nil ?_
      refine JE.seqN ?_
      refine J.condF rfl ?_
      refine J.skip ?_
      refine JE.seqN ?_
      refine J.seq ?_
      obtain ⟨e1, e2, e3⟩ := (gGood hg).e i.toNat (by omega)
      unfold exs at e1 e2 e3
      have hgs := gathP_spec (n := n.toNat) (k := k) (xs := xs) (a := (xs.getD i.toNat default).1) (b := (xs.getD i.toNat default).2) (want := l + 1) (by omega) (by omega) (by omega) 8 (⟨f, t, pl⟩ : PS) hp (by have h1 := hp.pos (xs.getD i.toNat default).1 (by omega) (by omega); have h2 := hp.pos (xs.getD i.toNat default).2 (by omega) (by omega); omega)
      have hgl : (gathP n.toNat xs (xs.getD i.toNat default).1 (xs.getD i.toNat default).2 (l + 1) 8 (⟨f, t, pl⟩ : PS)).1.f.length = n.toNat := hgs.1.fl
      have hpx : pl.length ≤ xs.length := asc_len hp
      have htl : t.length = pl.length := hp.pv.tl
      have hgt : (gathP n.toNat xs (xs.getD i.toNat default).1 (xs.getD i.toNat default).2 (l + 1) 8 (⟨f, t, pl⟩ : PS)).1.t.length = pl.length := by rw [hgs.1.pv.tl, hgs.2.1]
      have hgp : (gathP n.toNat xs (xs.getD i.toNat default).1 (xs.getD i.toNat default).2 (l + 1) 8 (⟨f, t, pl⟩ : PS)).1.pl.length = pl.length := by rw [hgs.2.1]
      have hv1 := fv_rng hgs.1 (v := (xs.getD i.toNat default).1) (by omega) (by omega)
      have hv2 := fv_rng hgs.1 (v := (xs.getD i.toNat default).2) (by omega) (by omega)
      simp only [gI] at hv1 hv2
      refine J.reg ?_
      refine WL.rd (RD.fieldC rfl rfl) rfl rfl ?_
      refine WL.rd (RD.loadC rfl rfl) rfl rfl ?_
      refine WL.rd (RD.move rfl) rfl rfl ?_
      refine WL.rd (RD.idx (j := i.toNat) (hj := ⟨by omega⟩) rfl rfl (by omega) rfl) rfl rfl ?_
      refine WL.rd (RD.loadEA rfl (by omega) rfl) rfl rfl ?_
      refine WL.efS (EF.allocA) rfl rfl ?_
      intro b12 _
      refine WL.efN (EF.storeA rfl rfl rfl rfl) rfl ?_
      rintro ⟨⟩ -
      refine WL.nil ?_
      refine JE.seqN ?_
      refine J.seq ?_
      refine J.reg ?_
      refine WL.rd (RD.loadA rfl rfl) rfl rfl ?_
      refine WL.rd (RD.loadA rfl rfl) rfl rfl ?_
      refine WL.rd (RD.fieldC rfl rfl) rfl rfl ?_
      refine WL.rd (RD.loadC rfl rfl) rfl rfl ?_
      refine WL.rd (RD.fieldC rfl rfl) rfl rfl ?_
      refine WL.rd (RD.loadC rfl rfl) rfl rfl ?_
      refine WL.rd (RD.move rfl) rfl rfl ?_
      refine WL.rd (RD.add rfl rfl (by omega) (by omega)) rfl rfl ?_
      refine WL.efS (EF.callN (.cons rfl (.cons rfl (.cons rfl (.cons rfl (.cons rfl .nil))))) (fun w hS => l4Gather_i _ k _ xs _ _ _ _ _ _ _ _ _ _ (by omega) (by omega) (by omega) (by assumption) (by exact RdI.rd hS) (by exact RdI.rd hS) (by exact RdI.rd hS) (by exact RdI.rd hS) (by omega) (by omega) (by omega) (by omega))) rfl rfl ?_
      rintro ⟨f72, t72, p72⟩ -
      refine WL.rd (RD.move rfl) rfl rfl ?_
      refine WL.rd (RD.extract rfl rfl) rfl rfl ?_
      refine WL.rd (RD.extract rfl rfl) rfl rfl ?_
      refine WL.efS (EF.allocA) rfl rfl ?_
      intro b13 _
      refine WL.efN (EF.storeA rfl rfl rfl rfl) rfl ?_
      rintro ⟨⟩ -
      refine WL.rd (RD.assign rfl) rfl rfl ?_
      refine WL.nil ?_
      refine JE.seqN ?_
      refine J.seq ?_
      refine J.seq ?_
      refine J.reg ?_
      refine WL.rd (RD.move rfl) rfl rfl ?_
      refine WL.rd (RD.not rfl) rfl rfl ?_
      refine WL.nil ?_
      refine JE.seqN ?_
      refine J.cond rfl (fun hc76 => ?_) (fun hc76 => ?_)
      ·
       have hG2 : (gathP n.toNat xs (xs.getD i.toNat default).1 (xs.getD i.toNat default).2 (l + 1) 8 (⟨f, t, pl⟩ : PS)).2 = false := by simpa using hc76
       refine J.seq ?_
       refine J.reg ?_
       refine WL.rd (RD.loadA rfl rfl) rfl rfl ?_
       refine WL.efS (EF.callN (.cons rfl .nil) (fun w hS => l4Copy_c _ _ _ _ _ _ _ (by exact RdI.rd hS) (by exact RdI.rd hS) (by exact RdI.rd hS) (by omega) (by omega) (by omega))) rfl rfl ?_
       rintro ⟨f78, t78, p78⟩ -
       refine WL.efN (EF.storeA rfl rfl rfl rfl) rfl ?_
       rintro ⟨⟩ -
       refine WL.rd (RD.assign rfl) rfl rfl ?_
       refine WL.nil ?_
       refine JE.seqN ?_
       refine J.ret ?_
       refine JE.ret rfl (ResL.flat rfl rfl (.tmp rfl .nil)) (fun w hS => ?_)
       have hpf := pbI_fail (k := k) (n := n) (i := i) (l := l) (f := f) (t := t) (pl := pl) (xs := xs) (by rw [place_isSome]; exact hG2)
       exact CN.fin hS (f78, t78, p78) (by rw [hpf]; rfl) trivial (SubM.row rfl rfl (by rw [hpf]) (SubM.row rfl rfl (by rw [hpf]) (SubM.row rfl rfl (by rw [hpf]) .nil))) (by simp [En.rdb])
      ·
       have hG2 : (gathP n.toNat xs (xs.getD i.toNat default).1 (xs.getD i.toNat default).2 (l + 1) 8 (⟨f, t, pl⟩ : PS)).2 = true := by simpa using hc76
       refine J.skip ?_
       refine JE.seqN ?_
       refine J.seq ?_
       refine J.reg ?_
       refine WL.rd (RD.fieldC rfl rfl) rfl rfl ?_
       refine WL.rd (RD.loadC rfl rfl) rfl rfl ?_
       refine WL.rd (RD.assign rfl) rfl rfl ?_
       refine WL.nil ?_
       refine JE.seqN ?_
       refine J.seq ?_
       refine J.seq ?_
       refine J.reg ?_
       refine WL.rd (RD.fieldC rfl rfl) rfl rfl ?_
       refine WL.rd (RD.loadC rfl rfl) rfl rfl ?_
       refine WL.rd (RD.fieldC rfl rfl) rfl rfl ?_
       refine WL.rd (RD.loadC rfl rfl) rfl rfl ?_
       refine WL.rd (RD.idx (j := (xs.getD i.toNat default).1.toNat) (hj := ⟨by omega⟩) rfl rfl (by omega) rfl) rfl rfl ?_
       refine WL.rd (RD.loadE rfl (by omega) rfl) rfl rfl ?_
       refine WL.rd (RD.eql rfl rfl) rfl rfl ?_
       refine WL.nil ?_
       refine JE.seqN ?_
       refine J.condP rfl (fun hc87 => ?_) (fun hc87 => ?_)
       ·
        refine J.reg ?_
        refine WL.rd (RD.fieldC rfl rfl) rfl rfl ?_
        refine WL.rd (RD.loadC rfl rfl) rfl rfl ?_
        refine WL.rd (RD.assign rfl) rfl rfl ?_
        refine WL.nil ?_
        refine JE.seqN ?_
        refine J.seq ?_
        refine J.anyAll [10] ?_
        refine WA.takeP 0 rfl (RDP.of fun _ => RD.fieldC rfl rfl) rfl (by kernel_rfl) rfl ?_
        refine WA.take 1 rfl (RD.loadC rfl rfl) rfl (by kernel_rfl) rfl ?_
        refine WA.takeP 2 rfl (RDP.of fun _ => RD.move rfl) rfl (by kernel_rfl) rfl ?_
        refine WA.takeP 3 rfl (RDP.of fun _ => RD.fieldC rfl rfl) rfl (by kernel_rfl) rfl ?_
        refine WA.take 4 rfl (RD.loadC rfl rfl) rfl (by kernel_rfl) rfl ?_
        refine WA.takeP 5 rfl (RDP.of fun _ => RD.move rfl) rfl (by kernel_rfl) rfl ?_
        refine WA.takeP 6 rfl (RDP.idx (j := ((xs.getD i.toNat default).2).toNat) (hj := ⟨by omega⟩) rfl rfl (by omega) rfl) rfl (by kernel_rfl) rfl ?_
        refine WA.take 7 rfl (RD.loadE rfl (by omega) rfl) rfl (by kernel_rfl) rfl ?_
        refine WA.takeP 8 rfl (RDP.of fun _ => RD.sub rfl rfl (by omega) (by omega)) rfl (by kernel_rfl) rfl ?_
        refine WA.takeP 9 rfl (RDP.idx (j := ((xs.getD i.toNat default).2).toNat) (hj := ⟨by omega⟩) rfl rfl (by omega) rfl) rfl (by kernel_rfl) rfl ?_
        refine WA.one (i := 10) (by kernel_rfl) ?_
        refine WAi.efNL rfl (EF.storeI rfl rfl (by omega) rfl rfl) rfl rfl ?_
        rintro ⟨⟩ -
        refine WB.done (by kernel_rfl) ?_
        refine JE.seqN ?_
        refine J.seq ?_
        refine J.reg ?_
        refine WL.rd (RD.fieldC rfl rfl) rfl rfl ?_
        refine WL.rd (RD.loadC rfl rfl) rfl rfl ?_
        refine WL.rd (RD.move rfl) rfl rfl ?_
        refine WL.efS (EF.build1 rfl) rfl rfl ?_
        intro v103 _
        refine WL.efS (EF.append rfl rfl (by omega) rfl rfl rfl) rfl rfl ?_
        intro v104 _
        refine WL.rd (RD.fieldC rfl rfl) rfl rfl ?_
        refine WL.efN (EF.storeC rfl rfl rfl) rfl ?_
        rintro ⟨⟩ -
        refine WL.nil ?_
        refine JE.seqN ?_
        refine J.seq ?_
        refine J.reg ?_
        refine WL.rd (RD.fieldC rfl rfl) rfl rfl ?_
        refine WL.rd (RD.loadC rfl rfl) rfl rfl ?_
        refine WL.rd (RD.move rfl) rfl rfl ?_
        refine WL.efS (EF.build1 rfl) rfl rfl ?_
        intro v109 _
        refine WL.efS (EF.append rfl rfl (by omega) rfl rfl rfl) rfl rfl ?_
        intro v110 _
        refine WL.rd (RD.fieldC rfl rfl) rfl rfl ?_
        refine WL.efN (EF.storeC rfl rfl rfl) rfl ?_
        rintro ⟨⟩ -
        refine WL.nil ?_
        refine JE.seqN ?_
        refine J.seq ?_
        refine J.reg ?_
        refine WL.rd (RD.loadA rfl rfl) rfl rfl ?_
        refine WL.efN (EF.storeA rfl rfl rfl rfl) rfl ?_
        rintro ⟨⟩ -
        refine WL.rd (RD.assign rfl) rfl rfl ?_
        refine WL.nil ?_
        refine JE.seqN ?_
        refine J.ret ?_
        refine JE.ret rfl (ResL.flat rfl rfl (.tmp rfl .nil)) (fun w hS => ?_)
        have ht : tailP (gathP n.toNat xs (xs.getD i.toNat default).1 (xs.getD i.toNat default).2 (l + 1) 8 (⟨f, t, pl⟩ : PS)).1 (exs xs i.toNat) = (xs.getD i.toNat default).2 := by unfold tailP; rw [if_pos (by exact hc87)]; rfl
        have hpc : (plcP n.toNat xs l (⟨f, t, pl⟩ : PS) i.toNat) = putP (gathP n.toNat xs (xs.getD i.toNat default).1 (xs.getD i.toNat default).2 (l + 1) 8 (⟨f, t, pl⟩ : PS)).1 (exs xs i.toNat) i.toNat := plc_yes hG2
        have hpo : pbOk n xs k l f t pl i := ⟨hisp, by omega, by omega, fun h0 => by omega⟩
        have hpy := pbI_yes hpo (by rw [place_isSome]; exact hG2)
        have hin : ((i.toNat : Nat) : Int) = i := by omega
        exact CN.fin hS (f72, v104, v110) (by rw [hpy]; rfl) trivial (SubM.row rfl rfl (by rw [hpy, hpc]; unfold putP; first | (rw [ht]; done) | (rw [ht]; rfl)) (SubM.row rfl rfl (by rw [hpy, hpc]; unfold putP; first | (rw [ht]; done) | (rw [ht]; rfl)) (SubM.row rfl rfl (by rw [hpy, hpc]; unfold putP; first | (rw [hin]; done) | (rw [hin, hgs.2.1]; done) | (rw [hin]; rfl)) .nil))) (by simp [En.rdb])
       ·
        refine J.skip ?_
        refine JE.seqN ?_
        refine J.seq ?_
        refine J.anyAll [10] ?_
        refine WA.takeP 0 rfl (RDP.of fun _ => RD.fieldC rfl rfl) rfl (by kernel_rfl) rfl ?_
        refine WA.take 1 rfl (RD.loadC rfl rfl) rfl (by kernel_rfl) rfl ?_
        refine WA.takeP 2 rfl (RDP.of fun _ => RD.move rfl) rfl (by kernel_rfl) rfl ?_
        refine WA.takeP 3 rfl (RDP.of fun _ => RD.fieldC rfl rfl) rfl (by kernel_rfl) rfl ?_
        refine WA.take 4 rfl (RD.loadC rfl rfl) rfl (by kernel_rfl) rfl ?_
        refine WA.takeP 5 rfl (RDP.of fun _ => RD.move rfl) rfl (by kernel_rfl) rfl ?_
        refine WA.takeP 6 rfl (RDP.idx (j := ((xs.getD i.toNat default).1).toNat) (hj := ⟨by omega⟩) rfl rfl (by omega) rfl) rfl (by kernel_rfl) rfl ?_
        refine WA.take 7 rfl (RD.loadE rfl (by omega) rfl) rfl (by kernel_rfl) rfl ?_
        refine WA.takeP 8 rfl (RDP.of fun _ => RD.sub rfl rfl (by omega) (by omega)) rfl (by kernel_rfl) rfl ?_
        refine WA.takeP 9 rfl (RDP.idx (j := ((xs.getD i.toNat default).1).toNat) (hj := ⟨by omega⟩) rfl rfl (by omega) rfl) rfl (by kernel_rfl) rfl ?_
        refine WA.one (i := 10) (by kernel_rfl) ?_
        refine WAi.efNL rfl (EF.storeI rfl rfl (by omega) rfl rfl) rfl rfl ?_
        rintro ⟨⟩ -
        refine WB.done (by kernel_rfl) ?_
        refine JE.seqN ?_
        refine J.seq ?_
        refine J.reg ?_
        refine WL.rd (RD.fieldC rfl rfl) rfl rfl ?_
        refine WL.rd (RD.loadC rfl rfl) rfl rfl ?_
        refine WL.rd (RD.move rfl) rfl rfl ?_
        refine WL.efS (EF.build1 rfl) rfl rfl ?_
        intro v103 _
        refine WL.efS (EF.append rfl rfl (by omega) rfl rfl rfl) rfl rfl ?_
        intro v104 _
        refine WL.rd (RD.fieldC rfl rfl) rfl rfl ?_
        refine WL.efN (EF.storeC rfl rfl rfl) rfl ?_
        rintro ⟨⟩ -
        refine WL.nil ?_
        refine JE.seqN ?_
        refine J.seq ?_
        refine J.reg ?_
        refine WL.rd (RD.fieldC rfl rfl) rfl rfl ?_
        refine WL.rd (RD.loadC rfl rfl) rfl rfl ?_
        refine WL.rd (RD.move rfl) rfl rfl ?_
        refine WL.efS (EF.build1 rfl) rfl rfl ?_
        intro v109 _
        refine WL.efS (EF.append rfl rfl (by omega) rfl rfl rfl) rfl rfl ?_
        intro v110 _
        refine WL.rd (RD.fieldC rfl rfl) rfl rfl ?_
        refine WL.efN (EF.storeC rfl rfl rfl) rfl ?_
        rintro ⟨⟩ -
        refine WL.nil ?_
        refine JE.seqN ?_
        refine J.seq ?_
        refine J.reg ?_
        refine WL.rd (RD.loadA rfl rfl) rfl rfl ?_
        refine WL.efN (EF.storeA rfl rfl rfl rfl) rfl ?_
        rintro ⟨⟩ -
        refine WL.rd (RD.assign rfl) rfl rfl ?_
        refine WL.nil ?_
        refine JE.seqN ?_
        refine J.ret ?_
        refine JE.ret rfl (ResL.flat rfl rfl (.tmp rfl .nil)) (fun w hS => ?_)
        have ht : tailP (gathP n.toNat xs (xs.getD i.toNat default).1 (xs.getD i.toNat default).2 (l + 1) 8 (⟨f, t, pl⟩ : PS)).1 (exs xs i.toNat) = (xs.getD i.toNat default).1 := by unfold tailP; rw [if_neg (by exact hc87)]; rfl
        have hpc : (plcP n.toNat xs l (⟨f, t, pl⟩ : PS) i.toNat) = putP (gathP n.toNat xs (xs.getD i.toNat default).1 (xs.getD i.toNat default).2 (l + 1) 8 (⟨f, t, pl⟩ : PS)).1 (exs xs i.toNat) i.toNat := plc_yes hG2
        have hpo : pbOk n xs k l f t pl i := ⟨hisp, by omega, by omega, fun h0 => by omega⟩
        have hpy := pbI_yes hpo (by rw [place_isSome]; exact hG2)
        have hin : ((i.toNat : Nat) : Int) = i := by omega
        exact CN.fin hS (f72, v104, v110) (by rw [hpy]; rfl) trivial (SubM.row rfl rfl (by rw [hpy, hpc]; unfold putP; first | (rw [ht]; done) | (rw [ht]; rfl)) (SubM.row rfl rfl (by rw [hpy, hpc]; unfold putP; first | (rw [ht]; done) | (rw [ht]; rfl)) (SubM.row rfl rfl (by rw [hpy, hpc]; unfold putP; first | (rw [hin]; done) | (rw [hin, hgs.2.1]; done) | (rw [hin]; rfl)) .nil))) (by simp [En.rdb])
theorem ok_hbf {n : Nat} {k : Int} {xs : List (Int × Int)} {p : PS} (hp : okP n k xs p) (hk : k ≤ 3) : ∀ x ∈ p.f, x ≤ 9223372036854775807 := by
  intro x hx
  obtain ⟨i, hi, rfl⟩ := List.mem_iff_getElem.1 hx
  have h := fv_rng hp (v := (i : Int)) (by omega) (by have := hp.fl; omega)
  unfold gI at h
  rw [Int.toNat_natCast, List.getD_eq_getElem?_getD, List.getElem?_eq_getElem hi] at h
  simp only [Option.getD_some] at h
  omega
theorem sRunPebbles_c (n : Int) (v : Value) (xs : List (Int × Int)) (k l : Int) (w : World) (hr : Rd w v 2 (xs.map bv)) (_hk : -9223372036854775808 ≤ k ∧ k ≤ 9223372036854775807) (hl : -9223372036854775808 ≤ l ∧ l ≤ 9223372036854775807) (hlx2 : xs.length ≤ 1048576) :
    CN Try.prog 7 [.agg #[.int .i64 n, v], .int .i64 k, .int .i64 l] w (Value × Value × Value) (fun _ => True) (fun x => .tuple #[.agg #[x.1, x.2.1, x.2.2], .bool (decide (isG n xs ∧ (1 ≤ k ∧ k ≤ 3 ∧ 0 ≤ l ∧ l < 2 * k)))]) (fun x => [.row x.1 3 1 (((runP n k l xs).f).map iv), .row x.2.1 3 1 (((runP n k l xs).t).map iv), .row x.2.2 3 1 (((runP n k l xs).pl).map iv)]) := by
 have hl_xs : xs.length ≤ 9223372036854775807 := (by obtain ⟨_, _, _, hh, _⟩ := hr.shape; simpa using hh)
 refine calls_of_J (mu := (fun _ => False)) (m := [.ro v 2 (xs.map bv)]) (e := [(0, .agg #[.int .i64 n, v]), (1, .int .i64 k), (2, .int .i64 l)]) Try.func7 rfl rfl (.cons rfl (.cons rfl (.cons rfl .nil))) (((St.init _ _).ro0 hr (by decide))) ?_
 refine J.seq ?_
 refine J.reg ?_
 refine WL.efS (EF.boxA rfl) rfl rfl ?_
 intro b3 _
 refine WL.efS (EF.allocA) rfl rfl ?_
 intro b6 _
 refine WL.rd (RD.assign rfl) rfl rfl ?_
 refine WL.nil ?_
 refine JE.seqN ?_
 refine J.seq ?_
 refine J.reg ?_
 refine WL.rd (RD.loadA rfl rfl) rfl rfl ?_
 refine WL.rd (RD.move rfl) rfl rfl ?_
 refine WL.efS (EF.callN (.cons rfl (.cons rfl .nil)) (fun w hS => sNewPebbles_c _ _ _ _ _ (by exact RdI.rd hS))) rfl rfl ?_
 rintro ⟨f14, t14, p14⟩ -
 refine WL.rd (RD.move rfl) rfl rfl ?_
 refine WL.rd (RD.extract rfl rfl) rfl rfl ?_
 refine WL.rd (RD.extract rfl rfl) rfl rfl ?_
 refine WL.efS (EF.allocA) rfl rfl ?_
 intro b8 _
 refine WL.efN (EF.storeA rfl rfl rfl rfl) rfl ?_
 rintro ⟨⟩ -
 refine WL.rd (RD.assign rfl) rfl rfl ?_
 refine WL.nil ?_
 refine JE.seqN ?_
 refine J.seq ?_
 refine J.seq ?_
 refine J.reg ?_
 refine WL.rd (RD.move rfl) rfl rfl ?_
 refine WL.rd (RD.notP rfl) rfl rfl ?_
 refine WL.rd (RD.move rfl) rfl rfl ?_
 refine WL.caseP 19 rfl (fun hg19 => ?_) (fun hg19 => ?_)
 ·
  refine WL.noS rfl rfl ?_
  refine WL.noS rfl rfl ?_
  refine WL.noS rfl rfl ?_
  refine WL.noS rfl rfl ?_
  refine WL.rd (RD.pickT rfl rfl) rfl rfl ?_
  refine WL.nil ?_
  refine JE.seqN ?_
  refine J.condT rfl ?_
  refine J.seq ?_
  refine J.nilRow 3 1 ?_
  refine J.nilRow 3 1 ?_
  refine J.nilRow 3 1 ?_
  refine J.reg ?_
  refine WL.rd (RD.build (n := 3) .nil rfl) rfl rfl ?_
  refine WL.efN (EF.storeA rfl rfl rfl rfl) rfl ?_
  rintro ⟨⟩ -
  refine WL.rd (RD.assign rfl) rfl rfl ?_
  refine WL.nil ?_
  refine JE.seqN ?_
  refine J.ret ?_
  refine JE.ret rfl (ResL.flat rfl rfl (.tmp rfl .nil)) (fun w hS => ?_)
  have hno : ¬ (isG n xs ∧ (1 ≤ k ∧ k ≤ 3 ∧ 0 ≤ l ∧ l < 2 * k)) := fun hh => by first | exact absurd (show isG n xs ∧ 1 ≤ k ∧ k ≤ 3 from ⟨hh.1, hh.2.1, hh.2.2.1⟩) (by assumption) | exact absurd hh.2 (by assumption)
  have hru : runP n k l xs = ⟨[], [], []⟩ := by unfold runP; rw [if_neg hno]
  exact CN.fin hS (.slice none 0 0, .slice none 0 0, .slice none 0 0) (by rw [decide_eq_false hno]; rfl) trivial (SubM.row rfl rfl (by rw [hru]; rfl) (SubM.row rfl rfl (by rw [hru]; rfl) (SubM.row rfl rfl (by rw [hru]; rfl) .nil))) (by simp [En.rdb])
 ·
  refine WL.rd (RD.move rfl) rfl rfl ?_
  refine WL.rd (RD.move rfl) rfl rfl ?_
  refine WL.efS (EF.callS (.cons rfl (.cons rfl .nil)) (fun w hS => sIsRange_c _ _ _ (by assumption))) rfl rfl ?_
  rintro ⟨⟩ -
  refine WL.rd (RD.notP rfl) rfl rfl ?_
  refine WL.rd (RD.pickF rfl rfl) rfl rfl ?_
  refine WL.nil ?_
  refine JE.seqN ?_
  refine J.condP rfl (fun hc24 => ?_) (fun hc24 => ?_)
  ·
   refine J.seq ?_
   refine J.nilRow 3 1 ?_
   refine J.nilRow 3 1 ?_
   refine J.nilRow 3 1 ?_
   refine J.reg ?_
   refine WL.rd (RD.build (n := 3) .nil rfl) rfl rfl ?_
   refine WL.efN (EF.storeA rfl rfl rfl rfl) rfl ?_
   rintro ⟨⟩ -
   refine WL.rd (RD.assign rfl) rfl rfl ?_
   refine WL.nil ?_
   refine JE.seqN ?_
   refine J.ret ?_
   refine JE.ret rfl (ResL.flat rfl rfl (.tmp rfl .nil)) (fun w hS => ?_)
   have hno : ¬ (isG n xs ∧ (1 ≤ k ∧ k ≤ 3 ∧ 0 ≤ l ∧ l < 2 * k)) := fun hh => by first | exact absurd (show isG n xs ∧ 1 ≤ k ∧ k ≤ 3 from ⟨hh.1, hh.2.1, hh.2.2.1⟩) (by assumption) | exact absurd hh.2 (by assumption)
   have hru : runP n k l xs = ⟨[], [], []⟩ := by unfold runP; rw [if_neg hno]
   exact CN.fin hS (.slice none 0 0, .slice none 0 0, .slice none 0 0) (by rw [decide_eq_false hno]; rfl) trivial (SubM.row rfl rfl (by rw [hru]; rfl) (SubM.row rfl rfl (by rw [hru]; rfl) (SubM.row rfl rfl (by rw [hru]; rfl) .nil))) (by simp [En.rdb])
  ·
   refine J.skip ?_
   refine JE.seqN ?_
   refine J.seq ?_
   refine J.seq ?_
   have hng := Decidable.not_not.1 hg19
   have hg := hng.1
   have hrg := Decidable.not_not.1 hc24
   have h12 := hg.1
   have h13 := hg.2.1
   have h14 := hg.2.2.1
   refine J.reg ?_
   refine WL.rd (RD.assign rfl) rfl rfl ?_
   refine WL.nil ?_
   refine JE.seqN ?_
   refine J.block ?_
   refine J.loop (fun gg ee mm => ∃ (e : Nat), ∃ (uf : Value), ∃ (ut : Value), ∃ (up : Value), gg = xs.length - e ∧ ((e ≤ xs.length)) ∧ ee = [(10, .int .i64 (e : Int)), (1, .int .i64 k), (2, .int .i64 l), (3, .pointer (some ⟨b3, 0, none⟩)), (6, .pointer (some ⟨b6, 0, none⟩)), (8, .pointer (some ⟨b8, 0, none⟩))] ∧ mm = [.cells b8 31 [uf, ut, up], .row uf 3 1 (((playP n.toNat xs k l e).f).map iv), .row ut 3 1 (((playP n.toNat xs k l e).t).map iv), .row up 3 1 (((playP n.toNat xs k l e).pl).map iv), .cells b6 31 [.slice none 0 0, .slice none 0 0, .slice none 0 0], .cells b3 26 [.int .i64 n, v], .ro v 2 (xs.map bv)]) _ ⟨0, f14, t14, p14, rfl, ?_, rfl, rfl⟩ ?_ ?_ ?_
   · omega
   · exact (Sub.consE rfl (by first | rfl | (congr 1; omega) | (simp; done)) (Sub.consE rfl (by first | rfl | (congr 1; omega) | (simp; done)) (Sub.consE rfl (by first | rfl | (congr 1; omega) | (simp; done)) (Sub.consE rfl (by first | rfl | (congr 1; omega) | (simp; done)) (Sub.consE rfl (by first | rfl | (congr 1; omega) | (simp; done)) (Sub.consE rfl (by first | rfl | (congr 1; omega) | (simp; done)) .nil))))))
   · exact (SubM.cells rfl (by first | rfl | (simp; done)) (SubM.row rfl rfl (by rw [if_pos hng]; rfl) (SubM.row rfl rfl (by rfl) (SubM.row rfl rfl (by rfl) (SubM.cells rfl (by first | rfl | (simp; done)) (SubM.cells rfl (by first | rfl | (simp; done)) (SubM.ro rfl (by first | rfl | (simp [iv, bv, yv, tv, sv]; done)) .nil)))))))
   ·
    rintro g _ _ ⟨e, uf, ut, up, rfl, hI, rfl, rfl⟩
    have hok := (play_ok ⟨hrg.1, hrg.2.1⟩ hrg.2.2 (gGood hg) e (by omega)).1
    have hbf := ok_hbf hok hrg.2.1
    have q1 := hok.fl
    have q2 := hok.pv.tl
    have q3 := asc_len hok
    refine J.seq ?_
    refine J.seq ?_
    refine J.reg ?_
    refine WL.rd (RD.move rfl) rfl rfl ?_
    refine WL.rd (RD.fieldC rfl rfl) rfl rfl ?_
    refine WL.rd (RD.loadC rfl rfl) rfl rfl ?_
    refine WL.rd (RD.lenR rfl) rfl rfl ?_
    refine WL.rd (RD.lss rfl rfl) rfl rfl ?_
    refine WL.nil ?_
    refine JE.seqN ?_
    refine J.condP rfl (fun hc30 => ?_) (fun hc30 => ?_)
    ·
     refine J.skip ?_
     refine JE.seqN ?_
     refine J.seq ?_
     refine J.block ?_
     refine J.reg ?_
     refine WL.rd (RD.loadA rfl rfl) rfl rfl ?_
     refine WL.rd (RD.move rfl) rfl rfl ?_
     refine WL.rd (RD.move rfl) rfl rfl ?_
     refine WL.rd (RD.loadA rfl rfl) rfl rfl ?_
     refine WL.rd (RD.move rfl) rfl rfl ?_
     refine WL.efS (EF.callN (.cons rfl (.cons rfl (.cons rfl (.cons rfl (.cons rfl .nil))))) (fun w hS => sPlaceBar_c _ _ _ _ _ _ _ _ _ _ _ _ _ (by exact RdI.rd hS) (by exact RdI.rd hS) (by exact RdI.rd hS) (by exact RdI.rd hS) (by assumption) (by omega) (by omega) (by omega) (by omega) (by first | assumption | omega))) rfl rfl ?_
     rintro ⟨f39, t39, p39⟩ -
     refine WL.rd (RD.move rfl) rfl rfl ?_
     refine WL.rd (RD.extract rfl rfl) rfl rfl ?_
     refine WL.rd (RD.extract rfl rfl) rfl rfl ?_
     refine WL.efN (EF.storeA rfl rfl rfl rfl) rfl ?_
     rintro ⟨⟩ -
     refine WL.nil ?_
     refine JE.blockN ?_
     refine JE.seqN ?_
     refine J.reg ?_
     refine WL.rd (RD.move rfl) rfl rfl ?_
     refine WL.rd (RD.add rfl rfl (by omega) (by omega)) rfl rfl ?_
     refine WL.rd (RD.assign rfl) rfl rfl ?_
     refine WL.nil ?_
     refine JE.cutN ⟨_, ?_, e + 1, f39, t39, p39, rfl, ?_, rfl, rfl⟩ ?_ ?_
     · omega
     · omega
     · exact (Sub.consE rfl (by first | rfl | (congr 1; omega) | (simp; done)) (Sub.consE rfl (by first | rfl | (congr 1; omega) | (simp; done)) (Sub.consE rfl (by first | rfl | (congr 1; omega) | (simp; done)) (Sub.consE rfl (by first | rfl | (congr 1; omega) | (simp; done)) (Sub.consE rfl (by first | rfl | (congr 1; omega) | (simp; done)) (Sub.consE rfl (by first | rfl | (congr 1; omega) | (simp; done)) .nil))))))
     · exact (SubM.cells rfl (by first | rfl | (simp; done)) (SubM.row rfl rfl (by rw [pbI_play hg hrg e (by omega)]) (SubM.row rfl rfl (by rw [pbI_play hg hrg e (by omega)]) (SubM.row rfl rfl (by rw [pbI_play hg hrg e (by omega)]) (SubM.cells rfl (by first | rfl | (simp; done)) (SubM.cells rfl (by first | rfl | (simp; done)) (SubM.ro rfl (by first | rfl | (simp [iv, bv, yv, tv, sv]; done)) .nil)))))))
    ·
     refine J.exit ?_
     refine JE.seqX ?_
     refine JE.cutX ?_
     refine JE.blockHit ?_
     refine JE.seqN ?_
     refine J.seq ?_
     refine J.reg ?_
     refine WL.rd (RD.loadA rfl rfl) rfl rfl ?_
     refine WL.efN (EF.storeA rfl rfl rfl rfl) rfl ?_
     rintro ⟨⟩ -
     refine WL.rd (RD.assign rfl) rfl rfl ?_
     refine WL.nil ?_
     refine JE.seqN ?_
     refine J.ret ?_
     refine JE.ret rfl (ResL.flat rfl rfl (.tmp rfl .nil)) (fun w hS => ?_)
     have hyes : isG n xs ∧ (1 ≤ k ∧ k ≤ 3 ∧ 0 ≤ l ∧ l < 2 * k) := ⟨hg, hrg⟩
     have hru : runP n k l xs = playP n.toNat xs k l xs.length := by unfold runP; rw [if_pos hyes]
     have hex : e = xs.length := by omega
     subst hex
     exact CN.fin hS (uf, ut, up) (by rw [decide_eq_true hyes]; rfl) trivial (SubM.row rfl rfl (by rw [hru]) (SubM.row rfl rfl (by rw [hru]) (SubM.row rfl rfl (by rw [hru]) .nil))) (by simp [En.rdb])
theorem sAcceptedBars_c (n : Int) (v : Value) (xs : List (Int × Int)) (k l : Int) (w : World) (hr : Rd w v 2 (xs.map bv)) (hk : -9223372036854775808 ≤ k ∧ k ≤ 9223372036854775807) (hl : -9223372036854775808 ≤ l ∧ l ≤ 9223372036854775807) (hlx : xs.length ≤ 1048576) :
    CN Try.prog 12 [.agg #[.int .i64 n, v], .int .i64 k, .int .i64 l] w Value (fun _ => True) (fun u => u) (fun u => [.row u 3 1 (((runP n k l xs).pl).map iv)]) := by
 have hrl := runP_len n k l xs
 refine calls_of_J (mu := (fun _ => False)) (m := [.ro v 2 (xs.map bv)]) (e := [(0, .agg #[.int .i64 n, v]), (1, .int .i64 k), (2, .int .i64 l)]) Try.func12 rfl rfl (.cons rfl (.cons rfl (.cons rfl .nil))) (((St.init _ _).ro0 hr (by decide))) ?_
 refine J.seq ?_
 refine J.reg ?_
 refine WL.efS (EF.boxA rfl) rfl rfl ?_
 intro b3 _
 refine WL.rd (RD.assign rfl) rfl rfl ?_
 refine WL.nil ?_
 refine JE.seqN ?_
 refine J.seq ?_
 refine J.reg ?_
 refine WL.rd (RD.loadA rfl rfl) rfl rfl ?_
 refine WL.rd (RD.move rfl) rfl rfl ?_
 refine WL.rd (RD.move rfl) rfl rfl ?_
 refine WL.efS (EF.callN (.cons rfl (.cons rfl (.cons rfl .nil))) (fun w hS => sRunPebbles_c _ _ _ _ _ _ (by exact RdI.rd hS) (by first | assumption | (constructor <;> decide) | omega) (by first | assumption | (constructor <;> decide) | omega) (by omega))) rfl rfl ?_
 rintro ⟨f13, t13, p13⟩ -
 refine WL.rd (RD.move rfl) rfl rfl ?_
 refine WL.rd (RD.extract rfl rfl) rfl rfl ?_
 refine WL.rd (RD.extract rfl rfl) rfl rfl ?_
 refine WL.efS (EF.allocA) rfl rfl ?_
 intro b7 _
 refine WL.efN (EF.storeA rfl rfl rfl rfl) rfl ?_
 rintro ⟨⟩ -
 refine WL.rd (RD.assign rfl) rfl rfl ?_
 refine WL.nil ?_
 refine JE.seqN ?_
 refine J.seq ?_
 refine J.reg ?_
 refine WL.efS (EF.build0) rfl rfl ?_
 intro v16 _
 refine WL.rd (RD.fieldC rfl rfl) rfl rfl ?_
 refine WL.rd (RD.loadC rfl rfl) rfl rfl ?_
 refine WL.efS (EF.append rfl rfl (by omega) rfl rfl rfl) rfl rfl ?_
 intro v19 _
 refine WL.rd (RD.assign rfl) rfl rfl ?_
 refine WL.nil ?_
 refine JE.seqN ?_
 refine J.ret ?_
 refine JE.ret rfl (.tmp rfl .nil) (fun w hS => ?_)
 exact CN.fin hS v19 rfl trivial (SubM.row rfl rfl rfl .nil) (by simp [En.rdb])
theorem sRejectedBars_c (n : Int) (v : Value) (xs : List (Int × Int)) (k l : Int) (w : World) (hr : Rd w v 2 (xs.map bv)) (hk : -9223372036854775808 ≤ k ∧ k ≤ 9223372036854775807) (hl : -9223372036854775808 ≤ l ∧ l ≤ 9223372036854775807) (hlx : xs.length ≤ 1048576) :
    CN Try.prog 13 [.agg #[.int .i64 n, v], .int .i64 k, .int .i64 l] w Value (fun _ => True) (fun u => u) (fun u => [.row u 3 1 ((pickIx (rejF n k l xs) xs.length).map iv)]) := by
 have hrl := runP_len n k l xs
 have hl_xs : xs.length ≤ 9223372036854775807 := (by obtain ⟨_, _, _, hh, _⟩ := hr.shape; simpa using hh)
 refine calls_of_J (mu := (fun _ => False)) (m := [.ro v 2 (xs.map bv)]) (e := [(0, .agg #[.int .i64 n, v]), (1, .int .i64 k), (2, .int .i64 l)]) Try.func13 rfl rfl (.cons rfl (.cons rfl (.cons rfl .nil))) (((St.init _ _).ro0 hr (by decide))) ?_
 refine J.seq ?_
 refine J.reg ?_
 refine WL.efS (EF.boxA rfl) rfl rfl ?_
 intro b3 _
 refine WL.rd (RD.assign rfl) rfl rfl ?_
 refine WL.nil ?_
 refine JE.seqN ?_
 refine J.seq ?_
 refine J.reg ?_
 refine WL.efS (EF.build0) rfl rfl ?_
 intro v11 _
 refine WL.rd (RD.assign rfl) rfl rfl ?_
 refine WL.nil ?_
 refine JE.seqN ?_
 refine J.seq ?_
 refine J.reg ?_
 refine WL.rd (RD.loadA rfl rfl) rfl rfl ?_
 refine WL.rd (RD.move rfl) rfl rfl ?_
 refine WL.rd (RD.move rfl) rfl rfl ?_
 refine WL.efS (EF.callN (.cons rfl (.cons rfl (.cons rfl .nil))) (fun w hS => sRunPebbles_c _ _ _ _ _ _ (by exact RdI.rd hS) (by first | assumption | (constructor <;> decide) | omega) (by first | assumption | (constructor <;> decide) | omega) (by omega))) rfl rfl ?_
 rintro ⟨f16, t16, p16⟩ -
 refine WL.rd (RD.move rfl) rfl rfl ?_
 refine WL.rd (RD.extract rfl rfl) rfl rfl ?_
 refine WL.rd (RD.extract rfl rfl) rfl rfl ?_
 refine WL.efS (EF.allocA) rfl rfl ?_
 intro b8 _
 refine WL.efN (EF.storeA rfl rfl rfl rfl) rfl ?_
 rintro ⟨⟩ -
 refine WL.rd (RD.assign rfl) rfl rfl ?_
 refine WL.nil ?_
 refine JE.seqN ?_
 refine J.seq ?_
 refine J.seq ?_
 refine J.reg ?_
 refine WL.rd (RD.assign rfl) rfl rfl ?_
 refine WL.nil ?_
 refine JE.seqN ?_
 refine J.block ?_
 refine J.loop (fun gg ee mm => ∃ (j : Nat), ∃ (u : Value), gg = xs.length - j ∧ ((j ≤ xs.length) ∧ (¬ (isG n xs ∧ (1 ≤ k ∧ k ≤ 3 ∧ 0 ≤ l ∧ l < 2 * k)) → j = 0)) ∧ ee = [(7, u), (9, .bool (decide (isG n xs ∧ (1 ≤ k ∧ k ≤ 3 ∧ 0 ≤ l ∧ l < 2 * k)))), (10, .int .i64 (j : Int)), (3, .pointer (some ⟨b3, 0, none⟩)), (8, .pointer (some ⟨b8, 0, none⟩))] ∧ mm = [.cells b8 31 [f16, t16, p16], .row f16 3 1 (((runP n k l xs).f).map iv), .row t16 3 1 (((runP n k l xs).t).map iv), .row p16 3 1 (((runP n k l xs).pl).map iv), .row u 3 1 ((pickIx (rejF n k l xs) j).map iv), .cells b3 26 [.int .i64 n, v], .ro v 2 (xs.map bv)]) _ ⟨0, v11, rfl, ?_, rfl, rfl⟩ ?_ ?_ ?_
 · exact ⟨by omega, fun _ => rfl⟩
 · exact (Sub.consE rfl (by first | rfl | (congr 1; omega) | (simp; done)) (Sub.consE rfl (by first | rfl | (congr 1; omega) | (simp; done)) (Sub.consE rfl (by first | rfl | (congr 1; omega) | (simp; done)) (Sub.consE rfl (by first | rfl | (congr 1; omega) | (simp; done)) (Sub.consE rfl (by first | rfl | (congr 1; omega) | (simp; done)) .nil)))))
 · exact (SubM.cells rfl (by first | rfl | (simp; done)) (SubM.row rfl rfl (by first | rfl | (simp [iv, bv, yv, tv, sv]; done)) (SubM.row rfl rfl (by first | rfl | (simp [iv, bv, yv, tv, sv]; done)) (SubM.row rfl rfl (by first | rfl | (simp [iv, bv, yv, tv, sv]; done)) (SubM.row rfl rfl (by first | rfl | (simp [iv, bv, yv, tv, sv]; done)) (SubM.cells rfl (by first | rfl | (simp; done)) (SubM.ro rfl (by first | rfl | (simp [iv, bv, yv, tv, sv]; done)) .nil)))))))
 ·
  rintro g _ _ ⟨j, u, rfl, hI, rfl, rfl⟩
  have hpk := pickIx_le (rejF n k l xs) j
  refine J.seq ?_
  refine J.seq ?_
  refine J.reg ?_
  refine WL.rd (RD.move rfl) rfl rfl ?_
  refine WL.rd (RD.fieldC rfl rfl) rfl rfl ?_
  refine WL.rd (RD.loadC rfl rfl) rfl rfl ?_
  refine WL.rd (RD.lenR rfl) rfl rfl ?_
  refine WL.rd (RD.lss rfl rfl) rfl rfl ?_
  refine WL.rd (RD.move rfl) rfl rfl ?_
  refine WL.caseP 24 rfl (fun hg24 => ?_) (fun hg24 => ?_)
  ·
   refine WL.rd (RD.move rfl) rfl rfl ?_
   refine WL.rd (RD.pickT rfl rfl) rfl rfl ?_
   refine WL.nil ?_
   refine JE.seqN ?_
   refine J.condP rfl (fun hc26 => ?_) (fun hc26 => ?_)
   ·
    refine J.skip ?_
    refine JE.seqN ?_
    refine J.seq ?_
    refine J.block ?_
    refine J.seq ?_
    refine J.reg ?_
    refine WL.rd (RD.fieldC rfl rfl) rfl rfl ?_
    refine WL.rd (RD.loadC rfl rfl) rfl rfl ?_
    refine WL.rd (RD.move rfl) rfl rfl ?_
    refine WL.efS (EF.callS (.cons rfl (.cons rfl .nil)) (fun w hS => l2Has_c _ _ _ _ (by exact RdI.rd hS))) rfl rfl ?_
    rintro ⟨⟩ -
    refine WL.rd (RD.notP rfl) rfl rfl ?_
    refine WL.nil ?_
    refine JE.seqN ?_
    refine J.condP rfl (fun hc33 => ?_) (fun hc33 => ?_)
    ·
     refine J.reg ?_
     refine WL.rd (RD.move rfl) rfl rfl ?_
     refine WL.rd (RD.move rfl) rfl rfl ?_
     refine WL.efS (EF.build1 rfl) rfl rfl ?_
     intro v36 _
     refine WL.efS (EF.append rfl rfl (by omega) rfl rfl rfl) rfl rfl ?_
     intro v37 _
     refine WL.rd (RD.assign rfl) rfl rfl ?_
     refine WL.nil ?_
     refine JE.blockN ?_
     refine JE.seqN ?_
     refine J.reg ?_
     refine WL.rd (RD.move rfl) rfl rfl ?_
     refine WL.rd (RD.add rfl rfl (by omega) (by omega)) rfl rfl ?_
     refine WL.rd (RD.assign rfl) rfl rfl ?_
     refine WL.nil ?_
     refine JE.cutN ⟨_, ?_, j + 1, v37, rfl, ?_, rfl, rfl⟩ ?_ ?_
     · omega
     · exact ⟨by omega, fun h => absurd (by assumption) h⟩
     · exact (Sub.consE rfl (by first | rfl | (congr 1; omega) | (simp; done)) (Sub.consE rfl (by first | rfl | (congr 1; omega) | (simp; done)) (Sub.consE rfl (by first | rfl | (congr 1; omega) | (simp; done)) (Sub.consE rfl (by first | rfl | (congr 1; omega) | (simp; done)) (Sub.consE rfl (by first | rfl | (congr 1; omega) | (simp; done)) .nil)))))
     · exact (SubM.cells rfl (by first | rfl | rw [pickIx_yes _ j (rejF_yes (by assumption) (by assumption))]) (SubM.row rfl rfl (by first | rfl | rw [pickIx_yes _ j (rejF_yes (by assumption) (by assumption))]) (SubM.row rfl rfl (by first | rfl | rw [pickIx_yes _ j (rejF_yes (by assumption) (by assumption))]) (SubM.row rfl rfl (by first | rfl | rw [pickIx_yes _ j (rejF_yes (by assumption) (by assumption))]) (SubM.row rfl rfl (by first | rfl | rw [pickIx_yes _ j (rejF_yes (by assumption) (by assumption))]) (SubM.cells rfl (by first | rfl | rw [pickIx_yes _ j (rejF_yes (by assumption) (by assumption))]) (SubM.ro rfl (by first | rfl | rw [pickIx_yes _ j (rejF_yes (by assumption) (by assumption))]) .nil)))))))
    ·
     refine J.skip ?_
     refine JE.blockN ?_
     refine JE.seqN ?_
     refine J.reg ?_
     refine WL.rd (RD.move rfl) rfl rfl ?_
     refine WL.rd (RD.add rfl rfl (by omega) (by omega)) rfl rfl ?_
     refine WL.rd (RD.assign rfl) rfl rfl ?_
     refine WL.nil ?_
     refine JE.cutN ⟨_, ?_, j + 1, u, rfl, ?_, rfl, rfl⟩ ?_ ?_
     · omega
     · exact ⟨by omega, fun h => absurd (by assumption) h⟩
     · exact (Sub.consE rfl (by first | rfl | (congr 1; omega) | (simp; done)) (Sub.consE rfl (by first | rfl | (congr 1; omega) | (simp; done)) (Sub.consE rfl (by first | rfl | (congr 1; omega) | (simp; done)) (Sub.consE rfl (by first | rfl | (congr 1; omega) | (simp; done)) (Sub.consE rfl (by first | rfl | (congr 1; omega) | (simp; done)) .nil)))))
     · exact (SubM.cells rfl (by first | rfl | rw [pickIx_no _ j (rejF_no2 (by assumption))]) (SubM.row rfl rfl (by first | rfl | rw [pickIx_no _ j (rejF_no2 (by assumption))]) (SubM.row rfl rfl (by first | rfl | rw [pickIx_no _ j (rejF_no2 (by assumption))]) (SubM.row rfl rfl (by first | rfl | rw [pickIx_no _ j (rejF_no2 (by assumption))]) (SubM.row rfl rfl (by first | rfl | rw [pickIx_no _ j (rejF_no2 (by assumption))]) (SubM.cells rfl (by first | rfl | rw [pickIx_no _ j (rejF_no2 (by assumption))]) (SubM.ro rfl (by first | rfl | rw [pickIx_no _ j (rejF_no2 (by assumption))]) .nil)))))))
   ·
    refine J.exit ?_
    refine JE.seqX ?_
    refine JE.cutX ?_
    refine JE.blockHit ?_
    refine JE.seqN ?_
    refine J.seq ?_
    refine J.reg ?_
    refine WL.rd (RD.move rfl) rfl rfl ?_
    refine WL.rd (RD.assign rfl) rfl rfl ?_
    refine WL.nil ?_
    refine JE.seqN ?_
    refine J.ret ?_
    refine JE.ret rfl (.tmp rfl .nil) (fun w hS => ?_)
    exact CN.fin hS u rfl trivial (SubM.row rfl rfl (by rw [hI.2 (by assumption)]; unfold pickIx rejF; rw [decide_eq_false (by assumption)]; simp) .nil) (by simp [En.rdb])
  ·
   refine WL.noS rfl rfl ?_
   refine WL.rd (RD.pickF rfl rfl) rfl rfl ?_
   refine WL.nil ?_
   refine JE.seqN ?_
   refine J.condF rfl ?_
   refine J.exit ?_
   refine JE.seqX ?_
   refine JE.cutX ?_
   refine JE.blockHit ?_
   refine JE.seqN ?_
   refine J.seq ?_
   refine J.reg ?_
   refine WL.rd (RD.move rfl) rfl rfl ?_
   refine WL.rd (RD.assign rfl) rfl rfl ?_
   refine WL.nil ?_
   refine JE.seqN ?_
   refine J.ret ?_
   refine JE.ret rfl (.tmp rfl .nil) (fun w hS => ?_)
   exact CN.fin hS u rfl trivial (SubM.row rfl rfl (by rw [show j = xs.length by omega]) .nil) (by simp [En.rdb])

end Go.Proofs.Ytpojkjabngkfgaa
