/- Contracts of functions of the program, each walked once; written by a program of our own. -/
import Derived.Test.YtpojkjabngkfgaaGnP
import Derived.Test.YtpojkjabngkfgaaMw
namespace Go.Proofs.Ytpojkjabngkfgaa
open Go Go.RowKit
set_option maxRecDepth 4000

theorem iPlaceBar_c (n : Int) (v : Value) (xs : List (Int × Int)) (k l : Int) (vf vt vp : Value) (f t pl : List Int) (i : Int) (w : World) (hr : Rd w v 2 (xs.map bv)) (hrf : Rd w vf 1 (f.map iv)) (hrt : Rd w vt 1 (t.map iv)) (hrp : Rd w vp 1 (pl.map iv)) (hbf : ∀ x ∈ f, x ≤ 9223372036854775807) (h1 : f.length ≤ 1048576) (h2 : t.length ≤ 1048576) (h3 : pl.length ≤ 1048576) (hxl : xs.length ≤ 1048576) (hlr : -9223372036854775808 ≤ l ∧ l ≤ 9223372036854775807) :
    CN Try.prog 23 [.agg #[.int .i64 n, v], .int .i64 k, .int .i64 l, .agg #[vf, vt, vp], .int .i64 i] w (Value × Value × Value) (fun _ => True) (fun x => .tuple #[.agg #[x.1, x.2.1, x.2.2], .bool (pbI n xs k l f t pl i).2]) (fun x => [.row x.1 3 1 (((pbI n xs k l f t pl i).1.f).map iv), .row x.2.1 3 1 (((pbI n xs k l f t pl i).1.t).map iv), .row x.2.2 3 1 (((pbI n xs k l f t pl i).1.pl).map iv)]) := by
 have hl_xs : xs.length ≤ 9223372036854775807 := (by obtain ⟨_, _, _, hh, _⟩ := hr.shape; simpa using hh)
 have hl_f : f.length ≤ 9223372036854775807 := (by obtain ⟨_, _, _, hh, _⟩ := hrf.shape; simpa using hh)
 have hl_t : t.length ≤ 9223372036854775807 := (by obtain ⟨_, _, _, hh, _⟩ := hrt.shape; simpa using hh)
 have hl_pl : pl.length ≤ 9223372036854775807 := (by obtain ⟨_, _, _, hh, _⟩ := hrp.shape; simpa using hh)
 refine calls_of_J (mu := (fun _ => False)) (m := [.ro v 2 (xs.map bv), .ro vf 1 (f.map iv), .ro vt 1 (t.map iv), .ro vp 1 (pl.map iv)]) (e := [(0, .agg #[.int .i64 n, v]), (1, .int .i64 k), (2, .int .i64 l), (3, .agg #[vf, vt, vp]), (4, .int .i64 i)]) Try.func23 rfl rfl (.cons rfl (.cons rfl (.cons rfl (.cons rfl (.cons rfl .nil))))) ((((((St.init _ _).ro0 hrp (by decide)).ro0 hrt (by decide)).ro0 hrf (by decide)).ro0 hr (by decide))) ?_
 refine J.seq ?_
 refine J.reg ?_
 refine WL.efS (EF.boxA rfl) rfl rfl ?_
 intro b5 _
 refine WL.efS (EF.boxA rfl) rfl rfl ?_
 intro b8 _
 refine WL.efS (EF.allocA) rfl rfl ?_
 intro b10 _
 refine WL.rd (RD.assign rfl) rfl rfl ?_
 refine WL.nil ?_
 refine JE.seqN ?_
 refine J.seq ?_
 refine J.seq ?_
 refine J.reg ?_
 refine WL.rd (RD.loadA rfl rfl) rfl rfl ?_
 refine WL.rd (RD.move rfl) rfl rfl ?_
 refine WL.rd (RD.loadA rfl rfl) rfl rfl ?_
 refine WL.efS (EF.callS (.cons rfl (.cons rfl (.cons rfl .nil))) (fun w hS => iIsPebbles_c _ _ _ _ _ _ _ _ _ _ _ (by exact RdI.rd hS) (by exact RdI.rd hS) (by exact RdI.rd hS) (by exact RdI.rd hS) (by assumption))) rfl rfl ?_
 rintro ⟨⟩ -
 refine WL.rd (RD.notP rfl) rfl rfl ?_
 refine WL.rd (RD.move rfl) rfl rfl ?_
 refine WL.caseP 18 rfl (fun hg18 => ?_) (fun hg18 => ?_)
 ·
  refine WL.noS rfl rfl ?_
  refine WL.noS rfl rfl ?_
  refine WL.noS rfl rfl ?_
  refine WL.noS rfl rfl ?_
  refine WL.rd (RD.pickT rfl rfl) rfl rfl ?_
  refine WL.rd (RD.move rfl) rfl rfl ?_
  refine WL.noS rfl rfl ?_
  refine WL.noS rfl rfl ?_
  refine WL.noS rfl rfl ?_
  refine WL.noS rfl rfl ?_
  refine WL.noS rfl rfl ?_
  refine WL.noS rfl rfl ?_
  refine WL.noS rfl rfl ?_
  refine WL.rd (RD.pickT rfl rfl) rfl rfl ?_
  refine WL.rd (RD.move rfl) rfl rfl ?_
  refine WL.noS rfl rfl ?_
  refine WL.noS rfl rfl ?_
  refine WL.noS rfl rfl ?_
  refine WL.noS rfl rfl ?_
  refine WL.noS rfl rfl ?_
  refine WL.noS rfl rfl ?_
  refine WL.noS rfl rfl ?_
  refine WL.noS rfl rfl ?_
  refine WL.noS rfl rfl ?_
  refine WL.noS rfl rfl ?_
  refine WL.noS rfl rfl ?_
  refine WL.noS rfl rfl ?_
  refine WL.noS rfl rfl ?_
  refine WL.noS rfl rfl ?_
  refine WL.noS rfl rfl ?_
  refine WL.noS rfl rfl ?_
  refine WL.rd (RD.pickT rfl rfl) rfl rfl ?_
  refine WL.nil ?_
  refine JE.seqN ?_
  refine J.condT rfl ?_
  refine J.seq ?_
  refine J.reg ?_
  refine WL.rd (RD.loadA rfl rfl) rfl rfl ?_
  refine WL.efS (EF.callN (.cons rfl .nil) (fun w hS => copyPebbles_c _ _ _ _ _ _ _ (by exact RdI.rd hS) (by exact RdI.rd hS) (by exact RdI.rd hS) (by omega) (by omega) (by omega))) rfl rfl ?_
  rintro ⟨f52, t52, p52⟩ -
  refine WL.efN (EF.storeA rfl rfl rfl rfl) rfl ?_
  rintro ⟨⟩ -
  refine WL.rd (RD.assign rfl) rfl rfl ?_
  refine WL.nil ?_
  refine JE.seqN ?_
  refine J.ret ?_
  refine JE.ret rfl (ResL.flat rfl rfl (.tmp rfl .nil)) (fun w hS => ?_)
  have hno : ¬ pbOk n xs k l f t pl i := fun h => by obtain ⟨h1, h2, h3, h4⟩ := h; first | exact absurd h1 (by assumption) | exact absurd h2 (by assumption) | omega | (have h5 := h4 (by omega); omega)
  exact CN.fin hS (f52, t52, p52) (by rw [pbI_no hno]; rfl) trivial (SubM.row rfl rfl (by rw [pbI_no hno]) (SubM.row rfl rfl (by rw [pbI_no hno]) (SubM.row rfl rfl (by rw [pbI_no hno]) .nil))) (by simp [En.rdb])
 ·
  have hisp : isP n xs k f t pl := Decidable.not_not.1 hg18
  have hg := hisp.1
  have hk3 := hisp.2.1
  have h12 := hg.1
  have h13 := hg.2.1
  have h14 := hg.2.2.1
  have hp := isP_ok hisp
  refine WL.rd (RD.move rfl) rfl rfl ?_
  refine WL.rd (RD.move rfl) rfl rfl ?_
  refine WL.efS (EF.callS (.cons rfl (.cons rfl .nil)) (fun w hS => iIsRange_c _ _ _ (by assumption))) rfl rfl ?_
  rintro ⟨⟩ -
  refine WL.rd (RD.notP rfl) rfl rfl ?_
  refine WL.rd (RD.pickF rfl rfl) rfl rfl ?_
  refine WL.rd (RD.move rfl) rfl rfl ?_
  refine WL.caseP 24 rfl (fun hg24 => ?_) (fun hg24 => ?_)
  ·
   refine WL.noS rfl rfl ?_
   refine WL.noS rfl rfl ?_
   refine WL.noS rfl rfl ?_
   refine WL.noS rfl rfl ?_
   refine WL.noS rfl rfl ?_
   refine WL.noS rfl rfl ?_
   refine WL.noS rfl rfl ?_
   refine WL.rd (RD.pickT rfl rfl) rfl rfl ?_
   refine WL.rd (RD.move rfl) rfl rfl ?_
   refine WL.noS rfl rfl ?_
   refine WL.noS rfl rfl ?_
   refine WL.noS rfl rfl ?_
   refine WL.noS rfl rfl ?_
   refine WL.noS rfl rfl ?_
   refine WL.noS rfl rfl ?_
   refine WL.noS rfl rfl ?_
   refine WL.noS rfl rfl ?_
   refine WL.noS rfl rfl ?_
   refine WL.noS rfl rfl ?_
   refine WL.noS rfl rfl ?_
   refine WL.noS rfl rfl ?_
   refine WL.noS rfl rfl ?_
   refine WL.noS rfl rfl ?_
   refine WL.noS rfl rfl ?_
   refine WL.noS rfl rfl ?_
   refine WL.rd (RD.pickT rfl rfl) rfl rfl ?_
   refine WL.nil ?_
   refine JE.seqN ?_
   refine J.condT rfl ?_
   refine J.seq ?_
   refine J.reg ?_
   refine WL.rd (RD.loadA rfl rfl) rfl rfl ?_
   refine WL.efS (EF.callN (.cons rfl .nil) (fun w hS => copyPebbles_c _ _ _ _ _ _ _ (by exact RdI.rd hS) (by exact RdI.rd hS) (by exact RdI.rd hS) (by omega) (by omega) (by omega))) rfl rfl ?_
   rintro ⟨f52, t52, p52⟩ -
   refine WL.efN (EF.storeA rfl rfl rfl rfl) rfl ?_
   rintro ⟨⟩ -
   refine WL.rd (RD.assign rfl) rfl rfl ?_
   refine WL.nil ?_
   refine JE.seqN ?_
   refine J.ret ?_
   refine JE.ret rfl (ResL.flat rfl rfl (.tmp rfl .nil)) (fun w hS => ?_)
   have hno : ¬ pbOk n xs k l f t pl i := fun h => by obtain ⟨h1, h2, h3, h4⟩ := h; first | exact absurd h1 (by assumption) | exact absurd h2 (by assumption) | omega | (have h5 := h4 (by omega); omega)
   exact CN.fin hS (f52, t52, p52) (by rw [pbI_no hno]; rfl) trivial (SubM.row rfl rfl (by rw [pbI_no hno]) (SubM.row rfl rfl (by rw [pbI_no hno]) (SubM.row rfl rfl (by rw [pbI_no hno]) .nil))) (by simp [En.rdb])
  ·
   refine WL.rd (RD.move rfl) rfl rfl ?_
   refine WL.rd (RD.fieldC rfl rfl) rfl rfl ?_
   refine WL.rd (RD.loadC rfl rfl) rfl rfl ?_
   refine WL.rd (RD.lenR rfl) rfl rfl ?_
   refine WL.rd (RD.sub rfl rfl (by omega) (by omega)) rfl rfl ?_
   refine WL.efS (EF.callS (.cons rfl (.cons rfl (.cons rfl .nil))) (fun w hS => within_c _ _ _ _)) rfl rfl ?_
   rintro ⟨⟩ -
   refine WL.rd (RD.notP rfl) rfl rfl ?_
   refine WL.rd (RD.pickF rfl rfl) rfl rfl ?_
   refine WL.rd (RD.move rfl) rfl rfl ?_
   refine WL.caseP 33 rfl (fun hg33 => ?_) (fun hg33 => ?_)
   ·
    refine WL.noS rfl rfl ?_
    refine WL.noS rfl rfl ?_
    refine WL.noS rfl rfl ?_
    refine WL.noS rfl rfl ?_
    refine WL.noS rfl rfl ?_
    refine WL.noS rfl rfl ?_
    refine WL.noS rfl rfl ?_
    refine WL.noS rfl rfl ?_
    refine WL.noS rfl rfl ?_
    refine WL.noS rfl rfl ?_
    refine WL.noS rfl rfl ?_
    refine WL.noS rfl rfl ?_
    refine WL.noS rfl rfl ?_
    refine WL.noS rfl rfl ?_
    refine WL.noS rfl rfl ?_
    refine WL.noS rfl rfl ?_
    refine WL.rd (RD.pickT rfl rfl) rfl rfl ?_
    refine WL.nil ?_
    refine JE.seqN ?_
    refine J.condT rfl ?_
    refine J.seq ?_
    refine J.reg ?_
    refine WL.rd (RD.loadA rfl rfl) rfl rfl ?_
    refine WL.efS (EF.callN (.cons rfl .nil) (fun w hS => copyPebbles_c _ _ _ _ _ _ _ (by exact RdI.rd hS) (by exact RdI.rd hS) (by exact RdI.rd hS) (by omega) (by omega) (by omega))) rfl rfl ?_
    rintro ⟨f52, t52, p52⟩ -
    refine WL.efN (EF.storeA rfl rfl rfl rfl) rfl ?_
    rintro ⟨⟩ -
    refine WL.rd (RD.assign rfl) rfl rfl ?_
    refine WL.nil ?_
    refine JE.seqN ?_
    refine J.ret ?_
    refine JE.ret rfl (ResL.flat rfl rfl (.tmp rfl .nil)) (fun w hS => ?_)
    have hno : ¬ pbOk n xs k l f t pl i := fun h => by obtain ⟨h1, h2, h3, h4⟩ := h; first | exact absurd h1 (by assumption) | exact absurd h2 (by assumption) | omega | (have h5 := h4 (by omega); omega)
    exact CN.fin hS (f52, t52, p52) (by rw [pbI_no hno]; rfl) trivial (SubM.row rfl rfl (by rw [pbI_no hno]) (SubM.row rfl rfl (by rw [pbI_no hno]) (SubM.row rfl rfl (by rw [pbI_no hno]) .nil))) (by simp [En.rdb])
   ·
    refine WL.rd (RD.fieldC rfl rfl) rfl rfl ?_
    refine WL.rd (RD.loadC rfl rfl) rfl rfl ?_
    refine WL.rd (RD.lenR rfl) rfl rfl ?_
    refine WL.rd (RD.gtr rfl rfl) rfl rfl ?_
    refine WL.rd (RD.move rfl) rfl rfl ?_
    refine WL.caseP 38 rfl (fun hg38 => ?_) (fun hg38 => ?_)
    ·
     refine WL.rd (RD.fieldC rfl rfl) rfl rfl ?_
     refine WL.rd (RD.loadC rfl rfl) rfl rfl ?_
     refine WL.rd (RD.fieldC rfl rfl) rfl rfl ?_
     refine WL.rd (RD.loadC rfl rfl) rfl rfl ?_
     refine WL.rd (RD.lenR rfl) rfl rfl ?_
     refine WL.rd (RD.sub rfl rfl (by omega) (by omega)) rfl rfl ?_
     refine WL.rd (RD.idx (j := pl.length - 1) (hj := ⟨by omega⟩) rfl rfl (by omega) rfl) rfl rfl ?_
     refine WL.rd (RD.loadE rfl (by omega) rfl) rfl rfl ?_
     refine WL.rd (RD.move rfl) rfl rfl ?_
     refine WL.rd (RD.geq rfl rfl) rfl rfl ?_
     refine WL.rd (RD.pickT rfl rfl) rfl rfl ?_
     refine WL.rd (RD.pickF rfl rfl) rfl rfl ?_
     refine WL.nil ?_
     refine JE.seqN ?_
     refine J.condP rfl (fun hc50 => ?_) (fun hc50 => ?_)
     ·
      refine J.seq ?_
      refine J.reg ?_
      refine WL.rd (RD.loadA rfl rfl) rfl rfl ?_
      refine WL.efS (EF.callN (.cons rfl .nil) (fun w hS => copyPebbles_c _ _ _ _ _ _ _ (by exact RdI.rd hS) (by exact RdI.rd hS) (by exact RdI.rd hS) (by omega) (by omega) (by omega))) rfl rfl ?_
      rintro ⟨f52, t52, p52⟩ -
      refine WL.efN (EF.storeA rfl rfl rfl rfl) rfl ?_
      rintro ⟨⟩ -
      refine WL.rd (RD.assign rfl) rfl rfl ?_
      refine WL.nil ?_
      refine JE.seqN ?_
      refine J.ret ?_
      refine JE.ret rfl (ResL.flat rfl rfl (.tmp rfl .nil)) (fun w hS => ?_)
      have hno : ¬ pbOk n xs k l f t pl i := fun h => by obtain ⟨h1, h2, h3, h4⟩ := h; first | exact absurd h1 (by assumption) | exact absurd h2 (by assumption) | omega | (have h5 := h4 (by omega); omega)
      exact CN.fin hS (f52, t52, p52) (by rw [pbI_no hno]; rfl) trivial (SubM.row rfl rfl (by rw [pbI_no hno]) (SubM.row rfl rfl (by rw [pbI_no hno]) (SubM.row rfl rfl (by rw [pbI_no hno]) .nil))) (by simp [En.rdb])
     ·
      refine J.skip ?_
      refine JE.seqN ?_
      refine J.seq ?_
      refine J.reg ?_
      refine WL.rd (RD.loadA rfl rfl) rfl rfl ?_
      refine WL.efS (EF.callN (.cons rfl .nil) (fun w hS => copyPebbles_c _ _ _ _ _ _ _ (by exact RdI.rd hS) (by exact RdI.rd hS) (by exact RdI.rd hS) (by omega) (by omega) (by omega))) rfl rfl ?_
      rintro ⟨f54, t54, p54⟩ -
      refine WL.efS (EF.allocA) rfl rfl ?_
      intro b12 _
      refine WL.efN (EF.storeA rfl rfl rfl rfl) rfl ?_
      rintro ⟨⟩ -
      refine WL.nil ?_
      refine JE.seqN ?_
      refine J.seq ?_
      refine J.seq ?_
      refine J.reg ?_
      refine WL.rd (RD.fieldC rfl rfl) rfl rfl ?_
      refine WL.rd (RD.loadC rfl rfl) rfl rfl ?_
      refine WL.rd (RD.move rfl) rfl rfl ?_
      refine WL.rd (RD.move rfl) rfl rfl ?_
      refine WL.say 58 (.int .i64 ((i.toNat : Nat) : Int)) rfl (by congr 1; omega) ?_
      refine WL.efS (EF.callM (.cons rfl (.cons rfl (.cons rfl (.cons rfl .nil)))) (.cells (.row (.row (.row .nil)))) (.ro .nil) (fun w hS => place_c n.toNat k _ xs _ _ _ _ _ _ _ l i.toNat _ (by omega) (by omega) hxl hp (by omega) (by omega) (gGood hg).e) (by simp [En.rdb])) rfl rfl ?_
      rintro ⟨x59, y59⟩ -
      refine WL.rd (RD.not rfl) rfl rfl ?_
      refine WL.nil ?_
      refine JE.seqN ?_
      refine J.cond rfl (fun hc60 => ?_) (fun hc60 => ?_)
      ·
       have hps : (placeP n.toNat xs l (⟨f, t, pl⟩ : PS) i.toNat).isSome = false := by simpa using hc60
       refine J.seq ?_
       refine J.reg ?_
       refine WL.rd (RD.loadA rfl rfl) rfl rfl ?_
       refine WL.efS (EF.callN (.cons rfl .nil) (fun w hS => copyPebbles_c _ _ _ _ _ _ _ (by exact RdI.rd hS) (by exact RdI.rd hS) (by exact RdI.rd hS) (by omega) (by omega) (by omega))) rfl rfl ?_
       rintro ⟨f62, t62, p62⟩ -
       refine WL.efN (EF.storeA rfl rfl rfl rfl) rfl ?_
       rintro ⟨⟩ -
       refine WL.rd (RD.assign rfl) rfl rfl ?_
       refine WL.nil ?_
       refine JE.seqN ?_
       refine J.ret ?_
       refine JE.ret rfl (ResL.flat rfl rfl (.tmp rfl .nil)) (fun w hS => ?_)
       have hpf := pbI_fail (k := k) (n := n) (i := i) (l := l) (f := f) (t := t) (pl := pl) (xs := xs) hps
       exact CN.fin hS (f62, t62, p62) (by rw [hpf]; rfl) trivial (SubM.row rfl rfl (by rw [hpf]) (SubM.row rfl rfl (by rw [hpf]) (SubM.row rfl rfl (by rw [hpf]) .nil))) (by simp [En.rdb])
      ·
       have hps : (placeP n.toNat xs l (⟨f, t, pl⟩ : PS) i.toNat).isSome = true := by simpa using hc60
       refine J.skip ?_
       refine JE.seqN ?_
       refine J.seq ?_
       refine J.reg ?_
       refine WL.rd (RD.loadA rfl rfl) rfl rfl ?_
       refine WL.efN (EF.storeA rfl rfl rfl rfl) rfl ?_
       rintro ⟨⟩ -
       refine WL.rd (RD.assign rfl) rfl rfl ?_
       refine WL.nil ?_
       refine JE.seqN ?_
       refine J.ret ?_
       refine JE.ret rfl (ResL.flat rfl rfl (.tmp rfl .nil)) (fun w hS => ?_)
       have hpo : pbOk n xs k l f t pl i := ⟨hisp, by omega, by omega, fun h0 => by omega⟩
       have hpy := pbI_yes hpo hps
       exact CN.fin hS (f54, x59, y59) (by rw [hpy]; rfl) trivial (SubM.row rfl rfl (by rw [hpy]) (SubM.row rfl rfl (by rw [hpy]) (SubM.row rfl rfl (by rw [hpy]) .nil))) (by simp [En.rdb])
    ·
     refine WL.noS rfl rfl ?_
     refine WL.noS rfl rfl ?_
     refine WL.noS rfl rfl ?_
     refine WL.noS rfl rfl ?_
     refine WL.noS rfl rfl ?_
     refine WL.noS rfl rfl ?_
     refine WL.noS rfl rfl ?_
     refine WL.noS rfl rfl ?_
     refine WL.noS rfl rfl ?_
     refine WL.noS rfl rfl ?_
     refine WL.rd (RD.pickF rfl rfl) rfl rfl ?_
     refine WL.rd (RD.pickF rfl rfl) rfl rfl ?_
     refine WL.nil ?_
     refine JE.seqN ?_
     refine J.condF rfl ?_
     refine J.skip ?_
     refine JE.seqN ?_
     refine J.seq ?_
     refine J.reg ?_
     refine WL.rd (RD.loadA rfl rfl) rfl rfl ?_
     refine WL.efS (EF.callN (.cons rfl .nil) (fun w hS => copyPebbles_c _ _ _ _ _ _ _ (by exact RdI.rd hS) (by exact RdI.rd hS) (by exact RdI.rd hS) (by omega) (by omega) (by omega))) rfl rfl ?_
     rintro ⟨f54, t54, p54⟩ -
     refine WL.efS (EF.allocA) rfl rfl ?_
     intro b12 _
     refine WL.efN (EF.storeA rfl rfl rfl rfl) rfl ?_
     rintro ⟨⟩ -
     refine WL.nil ?_
     refine JE.seqN ?_
     refine J.seq ?_
     refine J.seq ?_
     refine J.reg ?_
     refine WL.rd (RD.fieldC rfl rfl) rfl rfl ?_
     refine WL.rd (RD.loadC rfl rfl) rfl rfl ?_
     refine WL.rd (RD.move rfl) rfl rfl ?_
     refine WL.rd (RD.move rfl) rfl rfl ?_
     refine WL.say 58 (.int .i64 ((i.toNat : Nat) : Int)) rfl (by congr 1; omega) ?_
     refine WL.efS (EF.callM (.cons rfl (.cons rfl (.cons rfl (.cons rfl .nil)))) (.cells (.row (.row (.row .nil)))) (.ro .nil) (fun w hS => place_c n.toNat k _ xs _ _ _ _ _ _ _ l i.toNat _ (by omega) (by omega) hxl hp (by omega) (by omega) (gGood hg).e) (by simp [En.rdb])) rfl rfl ?_
     rintro ⟨x59, y59⟩ -
     refine WL.rd (RD.not rfl) rfl rfl ?_
     refine WL.nil ?_
     refine JE.seqN ?_
     refine J.cond rfl (fun hc60 => ?_) (fun hc60 => ?_)
     ·
      have hps : (placeP n.toNat xs l (⟨f, t, pl⟩ : PS) i.toNat).isSome = false := by simpa using hc60
      refine J.seq ?_
      refine J.reg ?_
      refine WL.rd (RD.loadA rfl rfl) rfl rfl ?_
      refine WL.efS (EF.callN (.cons rfl .nil) (fun w hS => copyPebbles_c _ _ _ _ _ _ _ (by exact RdI.rd hS) (by exact RdI.rd hS) (by exact RdI.rd hS) (by omega) (by omega) (by omega))) rfl rfl ?_
      rintro ⟨f62, t62, p62⟩ -
      refine WL.efN (EF.storeA rfl rfl rfl rfl) rfl ?_
      rintro ⟨⟩ -
      refine WL.rd (RD.assign rfl) rfl rfl ?_
      refine WL.nil ?_
      refine JE.seqN ?_
      refine J.ret ?_
      refine JE.ret rfl (ResL.flat rfl rfl (.tmp rfl .nil)) (fun w hS => ?_)
      have hpf := pbI_fail (k := k) (n := n) (i := i) (l := l) (f := f) (t := t) (pl := pl) (xs := xs) hps
      exact CN.fin hS (f62, t62, p62) (by rw [hpf]; rfl) trivial (SubM.row rfl rfl (by rw [hpf]) (SubM.row rfl rfl (by rw [hpf]) (SubM.row rfl rfl (by rw [hpf]) .nil))) (by simp [En.rdb])
     ·
      have hps : (placeP n.toNat xs l (⟨f, t, pl⟩ : PS) i.toNat).isSome = true := by simpa using hc60
      refine J.skip ?_
      refine JE.seqN ?_
      refine J.seq ?_
      refine J.reg ?_
      refine WL.rd (RD.loadA rfl rfl) rfl rfl ?_
      refine WL.efN (EF.storeA rfl rfl rfl rfl) rfl ?_
      rintro ⟨⟩ -
      refine WL.rd (RD.assign rfl) rfl rfl ?_
      refine WL.nil ?_
      refine JE.seqN ?_
      refine J.ret ?_
      refine JE.ret rfl (ResL.flat rfl rfl (.tmp rfl .nil)) (fun w hS => ?_)
      have hpo : pbOk n xs k l f t pl i := ⟨hisp, by omega, by omega, fun h0 => by omega⟩
      have hpy := pbI_yes hpo hps
      exact CN.fin hS (f54, x59, y59) (by rw [hpy]; rfl) trivial (SubM.row rfl rfl (by rw [hpy]) (SubM.row rfl rfl (by rw [hpy]) (SubM.row rfl rfl (by rw [hpy]) .nil))) (by simp [En.rdb])
theorem pbI_len (n : Int) (xs : List (Int × Int)) (k l : Int) (f t pl : List Int) (i : Int) (h1 : f.length ≤ 1048576) (h2 : t.length ≤ 1048576) (h3 : pl.length ≤ 1048576) : (pbI n xs k l f t pl i).1.f.length ≤ 1048576 ∧ (pbI n xs k l f t pl i).1.t.length ≤ 1048576 ∧ (pbI n xs k l f t pl i).1.pl.length ≤ 1048576 := by
  unfold pbI
  split
  · rename_i h
    obtain ⟨⟨g1, g2, g3, g4⟩, g5⟩ := h
    have hp := isP_ok g1
    have hg := g1.1
    have hxs := hg.2.2.1
    have hn1 := hg.1
    obtain ⟨e1, e2, e3⟩ := (gGood hg).e i.toNat (by omega)
    have hgs := gathP_spec (n := n.toNat) (k := k) (xs := xs) (a := (exs xs i.toNat).1) (b := (exs xs i.toNat).2) (want := l + 1) (by omega) (by omega) (by omega) 8 ⟨f, t, pl⟩ hp (by have h1 := hp.pos (exs xs i.toNat).1 (by omega) (by omega); have h2 := hp.pos (exs xs i.toNat).2 (by omega) (by omega); simp only at h1 h2 ⊢; omega)
    have q1 := hgs.1.fl
    have q2 := hgs.1.pv.tl
    have q3 := hgs.2.1
    have q4 := asc_len hp
    simp only at q3 q4
    rw [q3] at q2
    have q5 : (gatP n.toNat xs l ⟨f, t, pl⟩ i.toNat).2 = true := by rw [← place_isSome]; exact g5
    rw [plc_yes q5]
    unfold putP
    have q6 : (gatP n.toNat xs l ⟨f, t, pl⟩ i.toNat).1.f.length = n.toNat := q1
    have q7 : (gatP n.toNat xs l ⟨f, t, pl⟩ i.toNat).1.t.length = pl.length := q2
    have q8 : (gatP n.toNat xs l ⟨f, t, pl⟩ i.toNat).1.pl.length = pl.length := by show (gathP _ _ _ _ _ _ _).1.pl.length = _; rw [q3]
    have hn8 := hg.2.1
    simp only [List.length_set, List.length_append, List.length_singleton]
    omega
  · exact ⟨h1, h2, h3⟩
end Go.Proofs.Ytpojkjabngkfgaa
