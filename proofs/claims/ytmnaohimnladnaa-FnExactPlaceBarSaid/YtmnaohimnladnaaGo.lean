/- Contracts of functions of the program, each walked once; written by a program of our own. -/
import Derived.Test.YtmnaohimnladnaaGn
import Derived.Test.YtmnaohimnladnaaMw
namespace Go.Proofs.Ytmnaohimnladnaa
open Go Go.RowKit
set_option maxRecDepth 4000

theorem iPlaceBar_c (n : Int) (v : Value) (xs : List (Int × Int)) (k l : Int) (vf vt vp : Value) (f t pl : List Int) (i : Int) (w : World) (hr : Rd w v 2 (xs.map bv)) (hrf : Rd w vf 1 (f.map iv)) (hrt : Rd w vt 1 (t.map iv)) (hrp : Rd w vp 1 (pl.map iv)) (hbf : ∀ x ∈ f, x ≤ 9223372036854775807) (h1 : f.length ≤ 1048576) (h2 : t.length ≤ 1048576) (h3 : pl.length ≤ 1048576) (hxl : xs.length ≤ 1048576) (hlr : -9223372036854775808 ≤ l ∧ l ≤ 9223372036854775807) :
    CN Try.prog 21 [.agg #[.int .i64 n, v], .int .i64 k, .int .i64 l, .agg #[vf, vt, vp], .int .i64 i] w (Value × Value × Value) (fun _ => True) (fun x => .tuple #[.agg #[x.1, x.2.1, x.2.2], .bool (pbI n xs k l f t pl i).2]) (fun x => [.row x.1 3 1 (((pbI n xs k l f t pl i).1.f).map iv), .row x.2.1 3 1 (((pbI n xs k l f t pl i).1.t).map iv), .row x.2.2 3 1 (((pbI n xs k l f t pl i).1.pl).map iv)]) := by
  have hl_xs : xs.length ≤ 9223372036854775807 := (by obtain ⟨_, _, _, hh, _⟩ := hr.shape; simpa using hh)
  have hl_f : f.length ≤ 9223372036854775807 := (by obtain ⟨_, _, _, hh, _⟩ := hrf.shape; simpa using hh)
  have hl_t : t.length ≤ 9223372036854775807 := (by obtain ⟨_, _, _, hh, _⟩ := hrt.shape; simpa using hh)
  have hl_pl : pl.length ≤ 9223372036854775807 := (by obtain ⟨_, _, _, hh, _⟩ := hrp.shape; simpa using hh)
  refine calls_of_J (mu := (fun _ => False)) (m := [.ro v 2 (xs.map bv), .ro vf 1 (f.map iv), .ro vt 1 (t.map iv), .ro vp 1 (pl.map iv)]) (e := [(0, .agg #[.int .i64 n, v]), (1, .int .i64 k), (2, .int .i64 l), (3, .agg #[vf, vt, vp]), (4, .int .i64 i)]) Try.func21 rfl rfl (.cons rfl (.cons rfl (.cons rfl (.cons rfl (.cons rfl .nil))))) ((((((St.init _ _).ro0 hrp (by decide)).ro0 hrt (by decide)).ro0 hrf (by decide)).ro0 hr (by decide))) ?_
  refine J.seq ?_
  refine J.reg ?_
  refine WL.efS (EF.boxA rfl) rfl rfl ?_
  intro b5 _
  refine WL.efS (EF.boxA rfl) rfl rfl ?_
  intro b8 _
  refine WL.efS (EF.allocA) rfl rfl ?_
  intro b10 _
  refine WL.rd (RD.assign rfl) rfl rfl ?_
  refine WL.nil ?_
  refine JE.seqN ?_
  refine J.seq ?_
  refine J.seq ?_
  refine J.reg ?_
  refine WL.rd (RD.loadA rfl rfl) rfl rfl ?_
  refine WL.rd (RD.move rfl) rfl rfl ?_
  refine WL.rd (RD.loadA rfl rfl) rfl rfl ?_
  refine WL.efS (EF.callS (.cons rfl (.cons rfl (.cons rfl .nil))) (fun w hS => iIsPebbles_c _ _ _ _ _ _ _ _ _ _ _ (by exact RdI.rd hS) (by exact RdI.rd hS) (by exact RdI.rd hS) (by exact RdI.rd hS) (by assumption))) rfl rfl ?_
  rintro ⟨⟩ -
  refine WL.rd (RD.notP rfl) rfl rfl ?_
  refine WL.rd (RD.move rfl) rfl rfl ?_
  refine WL.caseP 18 rfl (fun hg18 => ?_) (fun hg18 => ?_)
  ·
    refine WL.noS rfl rfl ?_
    refine WL.noS rfl rfl ?_
    refine WL.noS rfl rfl ?_
    refine WL.noS rfl rfl ?_
    refine WL.rd (RD.pickT rfl rfl) rfl rfl ?_
    refine WL.rd (RD.move rfl) rfl rfl ?_
    refine WL.noS rfl rfl ?_
    refine WL.noS rfl rfl ?_
    refine WL.noS rfl rfl ?_
    refine WL.noS rfl rfl ?_
    refine WL.noS rfl rfl ?_
    refine WL.noS rfl rfl ?_
    refine WL.noS rfl rfl ?_
    refine WL.rd (RD.pickT rfl rfl) rfl rfl ?_
    refine WL.rd (RD.move rfl) rfl rfl ?_
    refine WL.noS rfl rfl ?_
    refine WL.noS rfl rfl ?_
    refine WL.noS rfl rfl ?_
    refine WL.noS rfl rfl ?_
    refine WL.noS rfl rfl ?_
    refine WL.noS rfl rfl ?_
    refine WL.noS rfl rfl ?_
    refine WL.noS rfl rfl ?_
    refine WL.noS rfl rfl ?_
    refine WL.noS rfl rfl ?_
    refine WL.noS rfl rfl ?_
    refine WL.noS rfl rfl ?_
    refine WL.noS rfl rfl ?_
    refine WL.noS rfl rfl ?_
    refine WL.noS rfl rfl ?_
    refine WL.noS rfl rfl ?_
    refine WL.rd (RD.pickT rfl rfl) rfl rfl ?_
    refine WL.nil ?_
    refine JE.seqN ?_
    refine J.condT rfl ?_
    refine J.seq ?_
    refine J.reg ?_
    refine WL.rd (RD.loadA rfl rfl) rfl rfl ?_
    refine WL.efS (EF.callN (.cons rfl .nil) (fun w hS => copyPebbles_c _ _ _ _ _ _ _ (by exact RdI.rd hS) (by exact RdI.rd hS) (by exact RdI.rd hS) (by omega) (by omega) (by omega))) rfl rfl ?_
    rintro ⟨f52, t52, p52⟩ -
    refine WL.efN (EF.storeA rfl rfl rfl rfl) rfl ?_
    rintro ⟨⟩ -
    refine WL.rd (RD.assign rfl) rfl rfl ?_
    refine WL.nil ?_
    refine JE.seqN ?_
    refine J.ret ?_
    refine JE.ret rfl (ResL.flat rfl rfl (.tmp rfl .nil)) (fun w hS => ?_)
    have hno : ¬ pbOk n xs k l f t pl i := fun h => by obtain ⟨h1, h2, h3, h4⟩ := h; first | exact absurd h1 (by assumption) | exact absurd h2 (by assumption) | omega | (have h5 := h4 (by omega); omega)
    exact CN.fin hS (f52, t52, p52) (by rw [pbI_no hno]; rfl) trivial (SubM.row rfl rfl (by rw [pbI_no hno]) (SubM.row rfl rfl (by rw [pbI_no hno]) (SubM.row rfl rfl (by rw [pbI_no hno]) .nil))) (by simp [En.rdb])
  ·
    have hisp : isP n xs k f t pl := Decidable.not_not.1 hg18
    have hg := hisp.1
    have hk3 := hisp.2.1
    have h12 := hg.1
    have h13 := hg.2.1
    have h14 := hg.2.2.1
    have hp := isP_ok hisp
    refine WL.rd (RD.move rfl) rfl rfl ?_
    refine WL.rd (RD.move rfl) rfl rfl ?_
    refine WL.efS (EF.callS (.cons rfl (.cons rfl .nil)) (fun w hS => iIsRange_c _ _ _ (by assumption))) rfl rfl ?_
    rintro ⟨⟩ -
    refine WL.rd (RD.notP rfl) rfl rfl ?_
    refine WL.rd (RD.pickF rfl rfl) rfl rfl ?_
    refine WL.rd (RD.move rfl) rfl rfl ?_
    refine WL.caseP 24 rfl (fun hg24 => ?_) (fun hg24 => ?_)
    ·
      refine WL.noS rfl rfl ?_
      refine WL.noS rfl rfl ?_
      refine WL.noS rfl rfl ?_
      refine WL.noS rfl rfl ?_
      refine WL.noS rfl rfl ?_
      refine WL.noS rfl rfl ?_
      refine WL.noS rfl rfl ?_
      refine WL.rd (RD.pickT rfl rfl) rfl rfl ?_
      refine WL.rd (RD.move rfl) rfl rfl ?_
      refine WL.noS rfl rfl ?_
      refine WL.noS rfl rfl ?_
      refine WL.noS rfl rfl ?_
      refine WL.noS rfl rfl ?_
      refine WL.noS rfl rfl ?_
      refine WL.noS rfl rfl ?_
      refine WL.noS rfl rfl ?_
      refine WL.noS rfl rfl ?_
      refine WL.noS rfl rfl ?_
      refine WL.noS rfl rfl ?_
      refine WL.noS rfl rfl ?_
      refine WL.noS rfl rfl ?_
      refine WL.noS rfl rfl ?_
      refine WL.noS rfl rfl ?_
      refine WL.noS rfl rfl ?_
      refine WL.noS rfl rfl ?_
      refine WL.rd (RD.pickT rfl rfl) rfl rfl ?_
      refine WL.nil ?_
      refine JE.seqN ?_
      refine J.condT rfl ?_
      refine J.seq ?_
      refine J.reg ?_
      refine WL.rd (RD.loadA rfl rfl) rfl rfl ?_
      refine WL.efS (EF.callN (.cons rfl .nil) (fun w hS => copyPebbles_c _ _ _ _ _ _ _ (by exact RdI.rd hS) (by exact RdI.rd hS) (by exact RdI.rd hS) (by omega) (by omega) (by omega))) rfl rfl ?_
      rintro ⟨f52, t52, p52⟩ -
      refine WL.efN (EF.storeA rfl rfl rfl rfl) rfl ?_
      rintro ⟨⟩ -
      refine WL.rd (RD.assign rfl) rfl rfl ?_
      refine WL.nil ?_
      refine JE.seqN ?_
      refine J.ret ?_
      refine JE.ret rfl (ResL.flat rfl rfl (.tmp rfl .nil)) (fun w hS => ?_)
      have hno : ¬ pbOk n xs k l f t pl i := fun h => by obtain ⟨h1, h2, h3, h4⟩ := h; first | exact absurd h1 (by assumption) | exact absurd h2 (by assumption) | omega | (have h5 := h4 (by omega); omega)
      exact CN.fin hS (f52, t52, p52) (by rw [pbI_no hno]; rfl) trivial (SubM.row rfl rfl (by rw [pbI_no hno]) (SubM.row rfl rfl (by rw [pbI_no hno]) (SubM.row rfl rfl (by rw [pbI_no hno]) .nil))) (by simp [En.rdb])
    ·
      refine WL.rd (RD.move rfl) rfl rfl ?_
      refine WL.rd (RD.fieldC rfl rfl) rfl rfl ?_
      refine WL.rd (RD.loadC rfl rfl) rfl rfl ?_
      refine WL.rd (RD.lenR rfl) rfl rfl ?_
      refine WL.rd (RD.sub rfl rfl (by omega) (by omega)) rfl rfl ?_
      refine WL.efS (EF.callS (.cons rfl (.cons rfl (.cons rfl .nil))) (fun w hS => within_c _ _ _ _)) rfl rfl ?_
      rintro ⟨⟩ -
      refine WL.rd (RD.notP rfl) rfl rfl ?_
      refine WL.rd (RD.pickF rfl rfl) rfl rfl ?_
      refine WL.rd (RD.move rfl) rfl rfl ?_
      refine WL.caseP 33 rfl (fun hg33 => ?_) (fun hg33 => ?_)
      ·
        refine WL.noS rfl rfl ?_
        refine WL.noS rfl rfl ?_
        refine WL.noS rfl rfl ?_
        refine WL.noS rfl rfl ?_
        refine WL.noS rfl rfl ?_
        refine WL.noS rfl rfl ?_
        refine WL.noS rfl rfl ?_
        refine WL.noS rfl rfl ?_
        refine WL.noS rfl rfl ?_
        refine WL.noS rfl rfl ?_
        refine WL.noS rfl rfl ?_
        refine WL.noS rfl rfl ?_
        refine WL.noS rfl rfl ?_
        refine WL.noS rfl rfl ?_
        refine WL.noS rfl rfl ?_
        refine WL.noS rfl rfl ?_
        refine WL.rd (RD.pickT rfl rfl) rfl rfl ?_
        refine WL.nil ?_
        refine JE.seqN ?_
        refine J.condT rfl ?_
        refine J.seq ?_
        refine J.reg ?_
        refine WL.rd (RD.loadA rfl rfl) rfl rfl ?_
        refine WL.efS (EF.callN (.cons rfl .nil) (fun w hS => copyPebbles_c _ _ _ _ _ _ _ (by exact RdI.rd hS) (by exact RdI.rd hS) (by exact RdI.rd hS) (by omega) (by omega) (by omega))) rfl rfl ?_
        rintro ⟨f52, t52, p52⟩ -
        refine WL.efN (EF.storeA rfl rfl rfl rfl) rfl ?_
        rintro ⟨⟩ -
        refine WL.rd (RD.assign rfl) rfl rfl ?_
        refine WL.nil ?_
        refine JE.seqN ?_
        refine J.ret ?_
        refine JE.ret rfl (ResL.flat rfl rfl (.tmp rfl .nil)) (fun w hS => ?_)
        have hno : ¬ pbOk n xs k l f t pl i := fun h => by obtain ⟨h1, h2, h3, h4⟩ := h; first | exact absurd h1 (by assumption) | exact absurd h2 (by assumption) | omega | (have h5 := h4 (by omega); omega)
        exact CN.fin hS (f52, t52, p52) (by rw [pbI_no hno]; rfl) trivial (SubM.row rfl rfl (by rw [pbI_no hno]) (SubM.row rfl rfl (by rw [pbI_no hno]) (SubM.row rfl rfl (by rw [pbI_no hno]) .nil))) (by simp [En.rdb])
      ·
        refine WL.rd (RD.fieldC rfl rfl) rfl rfl ?_
        refine WL.rd (RD.loadC rfl rfl) rfl rfl ?_
        refine WL.rd (RD.lenR rfl) rfl rfl ?_
        refine WL.rd (RD.gtr rfl rfl) rfl rfl ?_
        refine WL.rd (RD.move rfl) rfl rfl ?_
        refine WL.caseP 38 rfl (fun hg38 => ?_) (fun hg38 => ?_)
        ·
          refine WL.rd (RD.fieldC rfl rfl) rfl rfl ?_
          refine WL.rd (RD.loadC rfl rfl) rfl rfl ?_
          refine WL.rd (RD.fieldC rfl rfl) rfl rfl ?_
          refine WL.rd (RD.loadC rfl rfl) rfl rfl ?_
          refine WL.rd (RD.lenR rfl) rfl rfl ?_
          refine WL.rd (RD.sub rfl rfl (by omega) (by omega)) rfl rfl ?_
          refine WL.rd (RD.idx (j := pl.length - 1) (hj := ⟨by omega⟩) rfl rfl (by omega) rfl) rfl rfl ?_
          refine WL.rd (RD.loadE rfl (by omega) rfl) rfl rfl ?_
          refine WL.rd (RD.move rfl) rfl rfl ?_
          refine WL.rd (RD.geq rfl rfl) rfl rfl ?_
          refine WL.rd (RD.pickT rfl rfl) rfl rfl ?_
          refine WL.rd (RD.pickF rfl rfl) rfl rfl ?_
          refine WL.nil ?_
          refine JE.seqN ?_
          refine J.condP rfl (fun hc50 => ?_) (fun hc50 => ?_)
          ·
            refine J.seq ?_
            refine J.reg ?_
            refine WL.rd (RD.loadA rfl rfl) rfl rfl ?_
            refine WL.efS (EF.callN (.cons rfl .nil) (fun w hS => copyPebbles_c _ _ _ _ _ _ _ (by exact RdI.rd hS) (by exact RdI.rd hS) (by exact RdI.rd hS) (by omega) (by omega) (by omega))) rfl rfl ?_
            rintro ⟨f52, t52, p52⟩ -
            refine WL.efN (EF.storeA rfl rfl rfl rfl) rfl ?_
            rintro ⟨⟩ -
            refine WL.rd (RD.assign rfl) rfl rfl ?_
            refine WL.nil ?_
            refine JE.seqN ?_
            refine J.ret ?_
            refine JE.ret rfl (ResL.flat rfl rfl (.tmp rfl .nil)) (fun w hS => ?_)
            have hno : ¬ pbOk n xs k l f t pl i := fun h => by obtain ⟨h1, h2, h3, h4⟩ := h; first | exact absurd h1 (by assumption) | exact absurd h2 (by assumption) | omega | (have h5 := h4 (by omega); omega)
            exact CN.fin hS (f52, t52, p52) (by rw [pbI_no hno]; rfl) trivial (SubM.row rfl rfl (by rw [pbI_no hno]) (SubM.row rfl rfl (by rw [pbI_no hno]) (SubM.row rfl rfl (by rw [pbI_no hno]) .nil))) (by simp [En.rdb])
          ·
            refine J.skip ?_
            refine JE.seqN ?_
            refine J.seq ?_
            refine J.reg ?_
            refine WL.rd (RD.loadA rfl rfl) rfl rfl ?_
            refine WL.efS (EF.callN (.cons rfl .nil) (fun w hS => copyPebbles_c _ _ _ _ _ _ _ (by exact RdI.rd hS) (by exact RdI.rd hS) (by exact RdI.rd hS) (by omega) (by omega) (by omega))) rfl rfl ?_
            rintro ⟨f54, t54, p54⟩ -
            refine WL.efS (EF.allocA) rfl rfl ?_
            intro b12 _
            refine WL.efN (EF.storeA rfl rfl rfl rfl) rfl ?_
            rintro ⟨⟩ -
            refine WL.nil ?_
            refine JE.seqN ?_
            refine J.seq ?_
            refine J.seq ?_
            refine J.reg ?_
            refine WL.rd (RD.fieldC rfl rfl) rfl rfl ?_
            refine WL.rd (RD.loadC rfl rfl) rfl rfl ?_
            refine WL.rd (RD.move rfl) rfl rfl ?_
            refine WL.rd (RD.move rfl) rfl rfl ?_
            refine WL.say 58 (.int .i64 ((i.toNat : Nat) : Int)) rfl (by congr 1; omega) ?_
            refine WL.efS (EF.callM (.cons rfl (.cons rfl (.cons rfl (.cons rfl .nil)))) (.cells (.row (.row (.row .nil)))) (.ro .nil) (fun w hS => place_c n.toNat k _ xs _ _ _ _ _ _ _ l i.toNat _ (by omega) (by omega) hxl hp (by omega) (by omega) (gGood hg).e) (by simp [En.rdb])) rfl rfl ?_
            rintro ⟨x59, y59⟩ -
            refine WL.rd (RD.not rfl) rfl rfl ?_
            refine WL.nil ?_
            refine JE.seqN ?_
            refine J.cond rfl (fun hc60 => ?_) (fun hc60 => ?_)
            ·
              have hps : (placeP n.toNat xs l (⟨f, t, pl⟩ : PS) i.toNat).isSome = false := by simpa using hc60
              refine J.seq ?_
              refine J.reg ?_
              refine WL.rd (RD.loadA rfl rfl) rfl rfl ?_
              refine WL.efS (EF.callN (.cons rfl .nil) (fun w hS => copyPebbles_c _ _ _ _ _ _ _ (by exact RdI.rd hS) (by exact RdI.rd hS) (by exact RdI.rd hS) (by omega) (by omega) (by omega))) rfl rfl ?_
              rintro ⟨f62, t62, p62⟩ -
              refine WL.efN (EF.storeA rfl rfl rfl rfl) rfl ?_
              rintro ⟨⟩ -
              refine WL.rd (RD.assign rfl) rfl rfl ?_
              refine WL.nil ?_
              refine JE.seqN ?_
              refine J.ret ?_
              refine JE.ret rfl (ResL.flat rfl rfl (.tmp rfl .nil)) (fun w hS => ?_)
              have hpf := pbI_fail (k := k) (n := n) (i := i) (l := l) (f := f) (t := t) (pl := pl) (xs := xs) hps
              exact CN.fin hS (f62, t62, p62) (by rw [hpf]; rfl) trivial (SubM.row rfl rfl (by rw [hpf]) (SubM.row rfl rfl (by rw [hpf]) (SubM.row rfl rfl (by rw [hpf]) .nil))) (by simp [En.rdb])
            ·
              have hps : (placeP n.toNat xs l (⟨f, t, pl⟩ : PS) i.toNat).isSome = true := by simpa using hc60
              refine J.skip ?_
              refine JE.seqN ?_
              refine J.seq ?_
              refine J.reg ?_
              refine WL.rd (RD.loadA rfl rfl) rfl rfl ?_
              refine WL.efN (EF.storeA rfl rfl rfl rfl) rfl ?_
              rintro ⟨⟩ -
              refine WL.rd (RD.assign rfl) rfl rfl ?_
              refine WL.nil ?_
              refine JE.seqN ?_
              refine J.ret ?_
              refine JE.ret rfl (ResL.flat rfl rfl (.tmp rfl .nil)) (fun w hS => ?_)
              have hpo : pbOk n xs k l f t pl i := ⟨hisp, by omega, by omega, fun h0 => by omega⟩
              have hpy := pbI_yes hpo hps
              exact CN.fin hS (f54, x59, y59) (by rw [hpy]; rfl) trivial (SubM.row rfl rfl (by rw [hpy]) (SubM.row rfl rfl (by rw [hpy]) (SubM.row rfl rfl (by rw [hpy]) .nil))) (by simp [En.rdb])
        ·
          refine WL.noS rfl rfl ?_
          refine WL.noS rfl rfl ?_
          refine WL.noS rfl rfl ?_
          refine WL.noS rfl rfl ?_
          refine WL.noS rfl rfl ?_
          refine WL.noS rfl rfl ?_
          refine WL.noS rfl rfl ?_
          refine WL.noS rfl rfl ?_
          refine WL.noS rfl rfl ?_
          refine WL.noS rfl rfl ?_
          refine WL.rd (RD.pickF rfl rfl) rfl rfl ?_
          refine WL.rd (RD.pickF rfl rfl) rfl rfl ?_
          refine WL.nil ?_
          refine JE.seqN ?_
          refine J.condF rfl ?_
          refine J.skip ?_
          refine JE.seqN ?_
          refine J.seq ?_
          refine J.reg ?_
          refine WL.rd (RD.loadA rfl rfl) rfl rfl ?_
          refine WL.efS (EF.callN (.cons rfl .nil) (fun w hS => copyPebbles_c _ _ _ _ _ _ _ (by exact RdI.rd hS) (by exact RdI.rd hS) (by exact RdI.rd hS) (by omega) (by omega) (by omega))) rfl rfl ?_
          rintro ⟨f54, t54, p54⟩ -
          refine WL.efS (EF.allocA) rfl rfl ?_
          intro b12 _
          refine WL.efN (EF.storeA rfl rfl rfl rfl) rfl ?_
          rintro ⟨⟩ -
          refine WL.nil ?_
          refine JE.seqN ?_
          refine J.seq ?_
          refine J.seq ?_
          refine J.reg ?_
          refine WL.rd (RD.fieldC rfl rfl) rfl rfl ?_
          refine WL.rd (RD.loadC rfl rfl) rfl rfl ?_
          refine WL.rd (RD.move rfl) rfl rfl ?_
          refine WL.rd (RD.move rfl) rfl rfl ?_
          refine WL.say 58 (.int .i64 ((i.toNat : Nat) : Int)) rfl (by congr 1; omega) ?_
          refine WL.efS (EF.callM (.cons rfl (.cons rfl (.cons rfl (.cons rfl .nil)))) (.cells (.row (.row (.row .nil)))) (.ro .nil) (fun w hS => place_c n.toNat k _ xs _ _ _ _ _ _ _ l i.toNat _ (by omega) (by omega) hxl hp (by omega) (by omega) (gGood hg).e) (by simp [En.rdb])) rfl rfl ?_
          rintro ⟨x59, y59⟩ -
          refine WL.rd (RD.not rfl) rfl rfl ?_
          refine WL.nil ?_
          refine JE.seqN ?_
          refine J.cond rfl (fun hc60 => ?_) (fun hc60 => ?_)
          ·
            have hps : (placeP n.toNat xs l (⟨f, t, pl⟩ : PS) i.toNat).isSome = false := by simpa using hc60
            refine J.seq ?_
            refine J.reg ?_
            refine WL.rd (RD.loadA rfl rfl) rfl rfl ?_
            refine WL.efS (EF.callN (.cons rfl .nil) (fun w hS => copyPebbles_c _ _ _ _ _ _ _ (by exact RdI.rd hS) (by exact RdI.rd hS) (by exact RdI.rd hS) (by omega) (by omega) (by omega))) rfl rfl ?_
            rintro ⟨f62, t62, p62⟩ -
            refine WL.efN (EF.storeA rfl rfl rfl rfl) rfl ?_
            rintro ⟨⟩ -
            refine WL.rd (RD.assign rfl) rfl rfl ?_
            refine WL.nil ?_
            refine JE.seqN ?_
            refine J.ret ?_
            refine JE.ret rfl (ResL.flat rfl rfl (.tmp rfl .nil)) (fun w hS => ?_)
            have hpf := pbI_fail (k := k) (n := n) (i := i) (l := l) (f := f) (t := t) (pl := pl) (xs := xs) hps
            exact CN.fin hS (f62, t62, p62) (by rw [hpf]; rfl) trivial (SubM.row rfl rfl (by rw [hpf]) (SubM.row rfl rfl (by rw [hpf]) (SubM.row rfl rfl (by rw [hpf]) .nil))) (by simp [En.rdb])
          ·
            have hps : (placeP n.toNat xs l (⟨f, t, pl⟩ : PS) i.toNat).isSome = true := by simpa using hc60
            refine J.skip ?_
            refine JE.seqN ?_
            refine J.seq ?_
            refine J.reg ?_
            refine WL.rd (RD.loadA rfl rfl) rfl rfl ?_
            refine WL.efN (EF.storeA rfl rfl rfl rfl) rfl ?_
            rintro ⟨⟩ -
            refine WL.rd (RD.assign rfl) rfl rfl ?_
            refine WL.nil ?_
            refine JE.seqN ?_
            refine J.ret ?_
            refine JE.ret rfl (ResL.flat rfl rfl (.tmp rfl .nil)) (fun w hS => ?_)
            have hpo : pbOk n xs k l f t pl i := ⟨hisp, by omega, by omega, fun h0 => by omega⟩
            have hpy := pbI_yes hpo hps
            exact CN.fin hS (f54, x59, y59) (by rw [hpy]; rfl) trivial (SubM.row rfl rfl (by rw [hpy]) (SubM.row rfl rfl (by rw [hpy]) (SubM.row rfl rfl (by rw [hpy]) .nil))) (by simp [En.rdb])
theorem iRankOfSet_c (n : Int) (v : Value) (xs : List (Int × Int)) (k l : Int) (vs : Value) (s : List Int) (w : World) (hr : Rd w v 2 (xs.map bv)) (hk : -9223372036854775808 ≤ k ∧ k ≤ 9223372036854775807) (hl : -9223372036854775808 ≤ l ∧ l ≤ 9223372036854775807) (hrs : Rd w vs 1 (s.map iv)) (hlx : xs.length ≤ 1048576) :
    CS Try.prog 15 [.agg #[.int .i64 n, v], .int .i64 k, .int .i64 l, vs] w (.int .i64 (rsI n k l xs s)) := by
  have hl_xs : xs.length ≤ 9223372036854775807 := (by obtain ⟨_, _, _, hh, _⟩ := hr.shape; simpa using hh)
  have hl_s : s.length ≤ 9223372036854775807 := (by obtain ⟨_, _, _, hh, _⟩ := hrs.shape; simpa using hh)
  have hol := onlyP_len (fun j => decide (j ∈ s)) xs xs.length
  refine calls_of_J (mu := (fun _ => False)) (m := [.ro v 2 (xs.map bv), .ro vs 1 (s.map iv)]) (e := [(0, .agg #[.int .i64 n, v]), (1, .int .i64 k), (2, .int .i64 l), (3, vs)]) Try.func15 rfl rfl (.cons rfl (.cons rfl (.cons rfl (.cons rfl .nil)))) ((((St.init _ _).ro0 hrs (by decide)).ro0 hr (by decide))) ?_
  refine J.seq ?_
  refine J.reg ?_
  refine WL.efS (EF.boxA rfl) rfl rfl ?_
  intro b4 _
  refine WL.rd (RD.assign rfl) rfl rfl ?_
  refine WL.nil ?_
  refine JE.seqN ?_
  refine J.seq ?_
  refine J.seq ?_
  refine J.reg ?_
  refine WL.rd (RD.loadA rfl rfl) rfl rfl ?_
  refine WL.efS (EF.callS (.cons rfl .nil) (fun w hS => iIsGraph_c _ _ _ _ (by exact RdI.rd hS))) rfl rfl ?_
  rintro ⟨⟩ -
  refine WL.rd (RD.notP rfl) rfl rfl ?_
  refine WL.rd (RD.move rfl) rfl rfl ?_
  refine WL.caseP 12 rfl (fun hg12 => ?_) (fun hg12 => ?_)
  ·
    refine WL.noS rfl rfl ?_
    refine WL.noS rfl rfl ?_
    refine WL.noS rfl rfl ?_
    refine WL.noS rfl rfl ?_
    refine WL.rd (RD.pickT rfl rfl) rfl rfl ?_
    refine WL.nil ?_
    refine JE.seqN ?_
    refine J.condT rfl ?_
    refine J.seq ?_
    refine J.reg ?_
    refine WL.rd (RD.assign rfl) rfl rfl ?_
    refine WL.nil ?_
    refine JE.seqN ?_
    refine J.ret ?_
    refine JE.ret rfl (.tmp rfl .nil) (fun w hS => ?_)
    (exact CS.fin hS (by rw [rsI_no (fun hh => by first | exact absurd hh.1 (by assumption) | exact absurd hh.2 (by assumption))]; rfl))
  ·
    refine WL.rd (RD.move rfl) rfl rfl ?_
    refine WL.rd (RD.move rfl) rfl rfl ?_
    refine WL.efS (EF.callS (.cons rfl (.cons rfl .nil)) (fun w hS => iIsRange_c _ _ _ (by assumption))) rfl rfl ?_
    rintro ⟨⟩ -
    refine WL.rd (RD.notP rfl) rfl rfl ?_
    refine WL.rd (RD.pickF rfl rfl) rfl rfl ?_
    refine WL.nil ?_
    refine JE.seqN ?_
    refine J.condP rfl (fun hc17 => ?_) (fun hc17 => ?_)
    ·
      refine J.seq ?_
      refine J.reg ?_
      refine WL.rd (RD.assign rfl) rfl rfl ?_
      refine WL.nil ?_
      refine JE.seqN ?_
      refine J.ret ?_
      refine JE.ret rfl (.tmp rfl .nil) (fun w hS => ?_)
      (exact CS.fin hS (by rw [rsI_no (fun hh => by first | exact absurd hh.1 (by assumption) | exact absurd hh.2 (by assumption))]; rfl))
    ·
      refine J.skip ?_
      refine JE.seqN ?_
      refine J.seq ?_
      refine J.reg ?_
      refine WL.rd (RD.loadA rfl rfl) rfl rfl ?_
      refine WL.rd (RD.move rfl) rfl rfl ?_
      refine WL.efS (EF.callN (.cons rfl (.cons rfl .nil)) (fun w hS => iOnlyBars_c _ _ _ _ _ _ (by exact RdI.rd hS) (by exact RdI.rd hS) (by omega))) rfl rfl ?_
      rintro v20 -
      refine WL.rd (RD.move rfl) rfl rfl ?_
      refine WL.rd (RD.move rfl) rfl rfl ?_
      refine WL.efS (EF.callS (.cons rfl (.cons rfl (.cons rfl .nil))) (fun w hS => iRankOf_c _ _ _ _ _ _ (by exact RdI.rd hS) (by first | assumption | (constructor <;> decide) | omega) (by first | assumption | (constructor <;> decide) | omega))) rfl rfl ?_
      rintro ⟨⟩ -
      refine WL.rd (RD.assign rfl) rfl rfl ?_
      refine WL.nil ?_
      refine JE.seqN ?_
      refine J.ret ?_
      refine JE.ret rfl (.tmp rfl .nil) (fun w hS => ?_)
      exact CS.fin hS (by unfold rsI; rw [if_pos (Decidable.not_not.1 hg12)]; rfl)
theorem sRankOfSet_c (n : Int) (v : Value) (xs : List (Int × Int)) (k l : Int) (vs : Value) (s : List Int) (w : World) (hr : Rd w v 2 (xs.map bv)) (hk : -9223372036854775808 ≤ k ∧ k ≤ 9223372036854775807) (hl : -9223372036854775808 ≤ l ∧ l ≤ 9223372036854775807) (hrs : Rd w vs 1 (s.map iv)) (hlx : xs.length ≤ 1048576) :
    CS Try.prog 12 [.agg #[.int .i64 n, v], .int .i64 k, .int .i64 l, vs] w (.int .i64 (rsI n k l xs s)) := by
  have hl_xs : xs.length ≤ 9223372036854775807 := (by obtain ⟨_, _, _, hh, _⟩ := hr.shape; simpa using hh)
  have hl_s : s.length ≤ 9223372036854775807 := (by obtain ⟨_, _, _, hh, _⟩ := hrs.shape; simpa using hh)
  have hol := onlyP_len (fun j => decide (j ∈ s)) xs xs.length
  refine calls_of_J (mu := (fun _ => False)) (m := [.ro v 2 (xs.map bv), .ro vs 1 (s.map iv)]) (e := [(0, .agg #[.int .i64 n, v]), (1, .int .i64 k), (2, .int .i64 l), (3, vs)]) Try.func12 rfl rfl (.cons rfl (.cons rfl (.cons rfl (.cons rfl .nil)))) ((((St.init _ _).ro0 hrs (by decide)).ro0 hr (by decide))) ?_
  refine J.seq ?_
  refine J.reg ?_
  refine WL.efS (EF.boxA rfl) rfl rfl ?_
  intro b4 _
  refine WL.rd (RD.assign rfl) rfl rfl ?_
  refine WL.nil ?_
  refine JE.seqN ?_
  refine J.seq ?_
  refine J.seq ?_
  refine J.reg ?_
  refine WL.rd (RD.loadA rfl rfl) rfl rfl ?_
  refine WL.efS (EF.callS (.cons rfl .nil) (fun w hS => sIsGraph_c _ _ _ _ (by exact RdI.rd hS))) rfl rfl ?_
  rintro ⟨⟩ -
  refine WL.rd (RD.notP rfl) rfl rfl ?_
  refine WL.nil ?_
  refine JE.seqN ?_
  refine J.condP rfl (fun hc11 => ?_) (fun hc11 => ?_)
  ·
    refine J.seq ?_
    refine J.reg ?_
    refine WL.rd (RD.assign rfl) rfl rfl ?_
    refine WL.nil ?_
    refine JE.seqN ?_
    refine J.ret ?_
    refine JE.ret rfl (.tmp rfl .nil) (fun w hS => ?_)
    (exact CS.fin hS (by rw [rsI_no (fun hh => by first | exact absurd hh.1 (by assumption) | exact absurd hh.2 (by assumption))]; rfl))
  ·
    refine J.skip ?_
    refine JE.seqN ?_
    refine J.seq ?_
    refine J.reg ?_
    refine WL.rd (RD.loadA rfl rfl) rfl rfl ?_
    refine WL.rd (RD.move rfl) rfl rfl ?_
    refine WL.efS (EF.callN (.cons rfl (.cons rfl .nil)) (fun w hS => sOnlyBars_c _ _ _ _ _ _ (by exact RdI.rd hS) (by exact RdI.rd hS) (by omega))) rfl rfl ?_
    rintro v14 -
    refine WL.rd (RD.move rfl) rfl rfl ?_
    refine WL.rd (RD.move rfl) rfl rfl ?_
    refine WL.efS (EF.callS (.cons rfl (.cons rfl (.cons rfl .nil))) (fun w hS => sRankOf_c _ _ _ _ _ _ (by exact RdI.rd hS) (by first | assumption | (constructor <;> decide) | omega) (by first | assumption | (constructor <;> decide) | omega) (by omega))) rfl rfl ?_
    rintro ⟨⟩ -
    refine WL.rd (RD.assign rfl) rfl rfl ?_
    refine WL.nil ?_
    refine JE.seqN ?_
    refine J.ret ?_
    refine JE.ret rfl (.tmp rfl .nil) (fun w hS => ?_)
    exact CS.fin hS (by unfold rsI; rw [if_pos (Decidable.not_not.1 hc11)]; rfl)
theorem isSet_c (n : Int) (v : Value) (xs : List (Int × Int)) (vs : Value) (s : List Int) (w : World) (hr : Rd w v 2 (xs.map bv)) (hrs : Rd w vs 1 (s.map iv)) :
    CS Try.prog 64 [.agg #[.int .i64 n, v], vs] w (.bool (decide (isSt n xs s))) := by
  have hl_xs : xs.length ≤ 9223372036854775807 := (by obtain ⟨_, _, _, hh, _⟩ := hr.shape; simpa using hh)
  have hl_s : s.length ≤ 9223372036854775807 := (by obtain ⟨_, _, _, hh, _⟩ := hrs.shape; simpa using hh)
  refine calls_of_J (mu := (fun _ => False)) (m := [.ro v 2 (xs.map bv), .ro vs 1 (s.map iv)]) (e := [(0, .agg #[.int .i64 n, v]), (1, vs)]) Try.func64 rfl rfl (.cons rfl (.cons rfl .nil)) ((((St.init _ _).ro0 hrs (by decide)).ro0 hr (by decide))) ?_
  refine J.seq ?_
  refine J.reg ?_
  refine WL.efS (EF.boxA rfl) rfl rfl ?_
  intro b2 _
  refine WL.rd (RD.assign rfl) rfl rfl ?_
  refine WL.nil ?_
  refine JE.seqN ?_
  refine J.seq ?_
  refine J.seq ?_
  refine J.reg ?_
  refine WL.rd (RD.move rfl) rfl rfl ?_
  refine WL.rd (RD.lenR rfl) rfl rfl ?_
  refine WL.rd (RD.move rfl) rfl rfl ?_
  refine WL.nil ?_
  refine JE.seqN ?_
  refine J.block ?_
  refine J.loop (fun gg ee mm => ∃ (i : Nat), gg = s.length - i ∧ ((i ≤ s.length) ∧ (∀ j, j < i → stOk xs s j)) ∧ ee = [(7, vs), (8, .int .i64 (s.length : Int)), (9, .int .i64 (i : Int)), (1, vs), (2, .pointer (some ⟨b2, 0, none⟩))] ∧ mm = [.cells b2 30 [.int .i64 n, v], .ro v 2 (xs.map bv), .ro vs 1 (s.map iv)]) _ ⟨0, rfl, ?_, rfl, rfl⟩ ?_ ?_ ?_
  · exact ⟨by omega, fun j hj => by omega⟩
  · exact (Sub.consE rfl (by first | rfl | (congr 1; omega) | (simp; done)) (Sub.consE rfl (by first | rfl | (congr 1; omega) | (simp; done)) (Sub.consE rfl (by first | rfl | (congr 1; omega) | (simp; done)) (Sub.consE rfl (by first | rfl | (congr 1; omega) | (simp; done)) (Sub.consE rfl (by first | rfl | (congr 1; omega) | (simp; done)) .nil)))))
  · exact (SubM.cells rfl (by first | rfl | (simp; done)) (SubM.ro rfl (by first | rfl | (simp [iv, bv, yv, tv, sv]; done)) (SubM.ro rfl (by first | rfl | (simp [iv, bv, yv, tv, sv]; done)) .nil)))
  · rintro g _ _ ⟨i, rfl, hI, rfl, rfl⟩
    refine J.seq ?_
    refine J.reg ?_
    refine WL.rd (RD.lss rfl rfl) rfl rfl ?_
    refine WL.nil ?_
    refine JE.seqN ?_
    refine J.seq ?_
    refine J.condP rfl (fun hc10 => ?_) (fun hc10 => ?_)
    ·
      refine J.skip ?_
      refine JE.seqN ?_
      refine J.seq ?_
      refine J.block ?_
      refine J.seq ?_
      refine J.reg ?_
      refine WL.rd (RD.move rfl) rfl rfl ?_
      refine WL.rd (RD.idx rfl rfl (by omega) rfl) rfl rfl ?_
      refine WL.rd (RD.loadE rfl (by omega) rfl) rfl rfl ?_
      refine WL.rd (RD.assign rfl) rfl rfl ?_
      refine WL.rd (RD.assign rfl) rfl rfl ?_
      refine WL.nil ?_
      refine JE.seqN ?_
      refine J.seq ?_
      refine J.reg ?_
      refine WL.rd (RD.move rfl) rfl rfl ?_
      refine WL.rd (RD.fieldC rfl rfl) rfl rfl ?_
      refine WL.rd (RD.loadC rfl rfl) rfl rfl ?_
      refine WL.rd (RD.lenR rfl) rfl rfl ?_
      refine WL.rd (RD.sub rfl rfl (by omega) (by omega)) rfl rfl ?_
      refine WL.efS (EF.callS (.cons rfl (.cons rfl (.cons rfl .nil))) (fun w hS => within_c _ _ _ _)) rfl rfl ?_
      rintro ⟨⟩ -
      refine WL.rd (RD.notP rfl) rfl rfl ?_
      refine WL.rd (RD.move rfl) rfl rfl ?_
      refine WL.caseP 21 rfl (fun hg21 => ?_) (fun hg21 => ?_)
      ·
        refine WL.noS rfl rfl ?_
        refine WL.noS rfl rfl ?_
        refine WL.noS rfl rfl ?_
        refine WL.noS rfl rfl ?_
        refine WL.noS rfl rfl ?_
        refine WL.noS rfl rfl ?_
        refine WL.noS rfl rfl ?_
        refine WL.noS rfl rfl ?_
        refine WL.noS rfl rfl ?_
        refine WL.noS rfl rfl ?_
        refine WL.noS rfl rfl ?_
        refine WL.rd (RD.pickT rfl rfl) rfl rfl ?_
        refine WL.nil ?_
        refine JE.seqN ?_
        refine J.condT rfl ?_
        refine J.seq ?_
        refine J.reg ?_
        refine WL.rd (RD.assign rfl) rfl rfl ?_
        refine WL.nil ?_
        refine JE.seqN ?_
        refine J.ret ?_
        refine JE.ret rfl (.tmp rfl .nil) (fun w hS => ?_)
        first | (exact CS.fin hS (mk_false (fun h => by obtain ⟨h1, h2⟩ := h.1 i (by omega); first | omega | (have h3 := h2 (by omega); omega)))) | (exact CS.fin hS (mk_dec ⟨fun h => ⟨fun j hj => hI.2 j (by omega), h⟩, fun h => h.2⟩))
      ·
        refine WL.rd (RD.move rfl) rfl rfl ?_
        refine WL.rd (RD.gtr rfl rfl) rfl rfl ?_
        refine WL.rd (RD.move rfl) rfl rfl ?_
        refine WL.caseP 24 rfl (fun hg24 => ?_) (fun hg24 => ?_)
        ·
          refine WL.rd (RD.move rfl) rfl rfl ?_
          refine WL.rd (RD.move rfl) rfl rfl ?_
          refine WL.rd (RD.sub rfl rfl (by omega) (by omega)) rfl rfl ?_
          refine WL.rd (RD.idx (j := i - 1) (hj := ⟨by omega⟩) rfl rfl (by omega) rfl) rfl rfl ?_
          refine WL.rd (RD.loadE rfl (by omega) rfl) rfl rfl ?_
          refine WL.rd (RD.move rfl) rfl rfl ?_
          refine WL.rd (RD.geq rfl rfl) rfl rfl ?_
          refine WL.rd (RD.pickT rfl rfl) rfl rfl ?_
          refine WL.rd (RD.pickF rfl rfl) rfl rfl ?_
          refine WL.nil ?_
          refine JE.seqN ?_
          refine J.condP rfl (fun hc33 => ?_) (fun hc33 => ?_)
          ·
            refine J.seq ?_
            refine J.reg ?_
            refine WL.rd (RD.assign rfl) rfl rfl ?_
            refine WL.nil ?_
            refine JE.seqN ?_
            refine J.ret ?_
            refine JE.ret rfl (.tmp rfl .nil) (fun w hS => ?_)
            first | (exact CS.fin hS (mk_false (fun h => by obtain ⟨h1, h2⟩ := h.1 i (by omega); first | omega | (have h3 := h2 (by omega); omega)))) | (exact CS.fin hS (mk_dec ⟨fun h => ⟨fun j hj => hI.2 j (by omega), h⟩, fun h => h.2⟩))
          ·
            refine J.skip ?_
            refine JE.blockN ?_
            refine JE.seqN ?_
            refine J.reg ?_
            refine WL.rd (RD.add rfl rfl (by omega) (by omega)) rfl rfl ?_
            refine WL.rd (RD.move rfl) rfl rfl ?_
            refine WL.nil ?_
            refine JE.cutN ⟨_, ?_, i + 1, rfl, ?_, rfl, rfl⟩ ?_ ?_
            · omega
            · exact ⟨by omega, fun j hj => (Nat.lt_succ_iff_lt_or_eq.1 hj).elim (hI.2 j) (fun hh => by subst hh; exact ⟨by omega, fun h0 => by omega⟩)⟩
            · exact (Sub.consE rfl (by first | rfl | (congr 1; omega) | (simp; done)) (Sub.consE rfl (by first | rfl | (congr 1; omega) | (simp; done)) (Sub.consE rfl (by first | rfl | (congr 1; omega) | (simp; done)) (Sub.consE rfl (by first | rfl | (congr 1; omega) | (simp; done)) (Sub.consE rfl (by first | rfl | (congr 1; omega) | (simp; done)) .nil)))))
            · exact (SubM.cells rfl (by first | rfl | (simp; done)) (SubM.ro rfl (by first | rfl | (simp [iv, bv, yv, tv, sv]; done)) (SubM.ro rfl (by first | rfl | (simp [iv, bv, yv, tv, sv]; done)) .nil)))
        ·
          refine WL.noS rfl rfl ?_
          refine WL.noS rfl rfl ?_
          refine WL.noS rfl rfl ?_
          refine WL.noS rfl rfl ?_
          refine WL.noS rfl rfl ?_
          refine WL.noS rfl rfl ?_
          refine WL.noS rfl rfl ?_
          refine WL.rd (RD.pickF rfl rfl) rfl rfl ?_
          refine WL.rd (RD.pickF rfl rfl) rfl rfl ?_
          refine WL.nil ?_
          refine JE.seqN ?_
          refine J.condF rfl ?_
          refine J.skip ?_
          refine JE.blockN ?_
          refine JE.seqN ?_
          refine J.reg ?_
          refine WL.rd (RD.add rfl rfl (by omega) (by omega)) rfl rfl ?_
          refine WL.rd (RD.move rfl) rfl rfl ?_
          refine WL.nil ?_
          refine JE.cutN ⟨_, ?_, i + 1, rfl, ?_, rfl, rfl⟩ ?_ ?_
          · omega
          · exact ⟨by omega, fun j hj => (Nat.lt_succ_iff_lt_or_eq.1 hj).elim (hI.2 j) (fun hh => by subst hh; exact ⟨by omega, fun h0 => by omega⟩)⟩
          · exact (Sub.consE rfl (by first | rfl | (congr 1; omega) | (simp; done)) (Sub.consE rfl (by first | rfl | (congr 1; omega) | (simp; done)) (Sub.consE rfl (by first | rfl | (congr 1; omega) | (simp; done)) (Sub.consE rfl (by first | rfl | (congr 1; omega) | (simp; done)) (Sub.consE rfl (by first | rfl | (congr 1; omega) | (simp; done)) .nil)))))
          · exact (SubM.cells rfl (by first | rfl | (simp; done)) (SubM.ro rfl (by first | rfl | (simp [iv, bv, yv, tv, sv]; done)) (SubM.ro rfl (by first | rfl | (simp [iv, bv, yv, tv, sv]; done)) .nil)))
    ·
      refine J.exit ?_
      refine JE.seqX ?_
      refine JE.cutX ?_
      refine JE.blockHit ?_
      refine JE.seqN ?_
      refine J.seq ?_
      refine J.reg ?_
      refine WL.rd (RD.loadA rfl rfl) rfl rfl ?_
      refine WL.efS (EF.callS (.cons rfl .nil) (fun w hS => iIsGraph_c _ _ _ _ (by exact RdI.rd hS))) rfl rfl ?_
      rintro ⟨⟩ -
      refine WL.rd (RD.assign rfl) rfl rfl ?_
      refine WL.nil ?_
      refine JE.seqN ?_
      refine J.ret ?_
      refine JE.ret rfl (.tmp rfl .nil) (fun w hS => ?_)
      first | (exact CS.fin hS (mk_false (fun h => by obtain ⟨h1, h2⟩ := h.1 i (by omega); first | omega | (have h3 := h2 (by omega); omega)))) | (exact CS.fin hS (mk_dec ⟨fun h => ⟨fun j hj => hI.2 j (by omega), h⟩, fun h => h.2⟩))
theorem l5Set_c (n : Int) (v : Value) (xs : List (Int × Int)) (vs : Value) (s : List Int) (w : World) (hr : Rd w v 2 (xs.map bv)) (hrs : Rd w vs 1 (s.map iv)) :
    CS Try.prog 63 [.agg #[.int .i64 n, v], vs] w (.bool (decide (isSt n xs s))) := by
  have hl_xs : xs.length ≤ 9223372036854775807 := (by obtain ⟨_, _, _, hh, _⟩ := hr.shape; simpa using hh)
  have hl_s : s.length ≤ 9223372036854775807 := (by obtain ⟨_, _, _, hh, _⟩ := hrs.shape; simpa using hh)
  refine calls_of_J (mu := (fun _ => False)) (m := [.ro v 2 (xs.map bv), .ro vs 1 (s.map iv)]) (e := [(0, .agg #[.int .i64 n, v]), (1, vs)]) Try.func63 rfl rfl (.cons rfl (.cons rfl .nil)) ((((St.init _ _).ro0 hrs (by decide)).ro0 hr (by decide))) ?_
  refine J.seq ?_
  refine J.reg ?_
  refine WL.efS (EF.boxA rfl) rfl rfl ?_
  intro b2 _
  refine WL.rd (RD.assign rfl) rfl rfl ?_
  refine WL.nil ?_
  refine JE.seqN ?_
  refine J.seq ?_
  refine J.seq ?_
  refine J.reg ?_
  refine WL.rd (RD.assign rfl) rfl rfl ?_
  refine WL.nil ?_
  refine JE.seqN ?_
  refine J.block ?_
  refine J.loop (fun gg ee mm => ∃ (i : Nat), gg = s.length - i ∧ ((i ≤ s.length) ∧ (∀ j, j < i → stOk xs s j)) ∧ ee = [(5, .int .i64 (i : Int)), (1, vs), (2, .pointer (some ⟨b2, 0, none⟩))] ∧ mm = [.cells b2 30 [.int .i64 n, v], .ro v 2 (xs.map bv), .ro vs 1 (s.map iv)]) _ ⟨0, rfl, ?_, rfl, rfl⟩ ?_ ?_ ?_
  · exact ⟨by omega, fun j hj => by omega⟩
  · exact (Sub.consE rfl (by first | rfl | (congr 1; omega) | (simp; done)) (Sub.consE rfl (by first | rfl | (congr 1; omega) | (simp; done)) (Sub.consE rfl (by first | rfl | (congr 1; omega) | (simp; done)) .nil)))
  · exact (SubM.cells rfl (by first | rfl | (simp; done)) (SubM.ro rfl (by first | rfl | (simp [iv, bv, yv, tv, sv]; done)) (SubM.ro rfl (by first | rfl | (simp [iv, bv, yv, tv, sv]; done)) .nil)))
  · rintro g _ _ ⟨i, rfl, hI, rfl, rfl⟩
    refine J.seq ?_
    refine J.seq ?_
    refine J.reg ?_
    refine WL.rd (RD.move rfl) rfl rfl ?_
    refine WL.rd (RD.move rfl) rfl rfl ?_
    refine WL.rd (RD.lenR rfl) rfl rfl ?_
    refine WL.rd (RD.lss rfl rfl) rfl rfl ?_
    refine WL.nil ?_
    refine JE.seqN ?_
    refine J.condP rfl (fun hc9 => ?_) (fun hc9 => ?_)
    ·
      refine J.skip ?_
      refine JE.seqN ?_
      refine J.seq ?_
      refine J.block ?_
      refine J.seq ?_
      refine J.anyAll [] ?_
      refine WA.takeP 0 rfl (RDP.of fun _ => RD.move rfl) rfl (by kernel_rfl) rfl ?_
      refine WA.takeP 1 rfl (RDP.of fun _ => RD.move rfl) rfl (by kernel_rfl) rfl ?_
      refine WA.takeP 2 rfl (RDP.idx rfl rfl (by omega) rfl) rfl (by kernel_rfl) rfl ?_
      refine WA.take 3 rfl (RD.loadE rfl (by omega) rfl) rfl (by kernel_rfl) rfl ?_
      refine WA.takeP 4 rfl (RDP.of fun _ => RD.lss rfl rfl) rfl (by kernel_rfl) rfl ?_
      refine WA.takeP 5 rfl (RDP.of fun _ => RD.move rfl) rfl (by kernel_rfl) rfl ?_
      refine WA.caseP 17 rfl (fun hg17 => ?_) (fun hg17 => ?_)
      ·
        refine WA.no 6 rfl rfl (by kernel_rfl) rfl ?_
        refine WA.no 7 rfl rfl (by kernel_rfl) rfl ?_
        refine WA.no 8 rfl rfl (by kernel_rfl) rfl ?_
        refine WA.no 9 rfl rfl (by kernel_rfl) rfl ?_
        refine WA.no 10 rfl rfl (by kernel_rfl) rfl ?_
        refine WA.no 11 rfl rfl (by kernel_rfl) rfl ?_
        refine WA.no 12 rfl rfl (by kernel_rfl) rfl ?_
        refine WA.no 13 rfl rfl (by kernel_rfl) rfl ?_
        refine WA.takeP 14 rfl (RDP.of fun _ => RD.pickT rfl rfl) rfl (by kernel_rfl) rfl ?_
        refine WA.takeP 15 rfl (RDP.of fun _ => RD.move rfl) rfl (by kernel_rfl) rfl ?_
        refine WA.no 16 rfl rfl (by kernel_rfl) rfl ?_
        refine WA.no 17 rfl rfl (by kernel_rfl) rfl ?_
        refine WA.no 18 rfl rfl (by kernel_rfl) rfl ?_
        refine WA.no 19 rfl rfl (by kernel_rfl) rfl ?_
        refine WA.no 20 rfl rfl (by kernel_rfl) rfl ?_
        refine WA.no 21 rfl rfl (by kernel_rfl) rfl ?_
        refine WA.no 22 rfl rfl (by kernel_rfl) rfl ?_
        refine WA.no 23 rfl rfl (by kernel_rfl) rfl ?_
        refine WA.no 24 rfl rfl (by kernel_rfl) rfl ?_
        refine WA.no 25 rfl rfl (by kernel_rfl) rfl ?_
        refine WA.no 26 rfl rfl (by kernel_rfl) rfl ?_
        refine WA.no 27 rfl rfl (by kernel_rfl) rfl ?_
        refine WA.no 28 rfl rfl (by kernel_rfl) rfl ?_
        refine WA.no 29 rfl rfl (by kernel_rfl) rfl ?_
        refine WA.takeP 30 rfl (RDP.of fun _ => RD.pickT rfl rfl) rfl (by kernel_rfl) rfl ?_
        refine WA.done (by kernel_rfl) ?_
        refine JE.seqN ?_
        refine J.condT rfl ?_
        refine J.seq ?_
        refine J.reg ?_
        refine WL.rd (RD.assign rfl) rfl rfl ?_
        refine WL.nil ?_
        refine JE.seqN ?_
        refine J.ret ?_
        refine JE.ret rfl (.tmp rfl .nil) (fun w hS => ?_)
        first | (exact CS.fin hS (mk_false (fun h => by obtain ⟨h1, h2⟩ := h.1 i (by omega); first | omega | (have h3 := h2 (by omega); omega)))) | (exact CS.fin hS (mk_dec ⟨fun h => ⟨fun j hj => hI.2 j (by omega), h⟩, fun h => h.2⟩))
      ·
        refine WA.takeP 6 rfl (RDP.of fun _ => RD.move rfl) rfl (by kernel_rfl) rfl ?_
        refine WA.takeP 7 rfl (RDP.of fun _ => RD.move rfl) rfl (by kernel_rfl) rfl ?_
        refine WA.takeP 8 rfl (RDP.idx rfl rfl (by omega) rfl) rfl (by kernel_rfl) rfl ?_
        refine WA.take 9 rfl (RD.loadE rfl (by omega) rfl) rfl (by kernel_rfl) rfl ?_
        refine WA.takeP 10 rfl (RDP.of fun _ => RD.fieldC rfl rfl) rfl (by kernel_rfl) rfl ?_
        refine WA.take 11 rfl (RD.loadC rfl rfl) rfl (by kernel_rfl) rfl ?_
        refine WA.takeP 12 rfl (RDP.lenR rfl) rfl (by kernel_rfl) rfl ?_
        refine WA.takeP 13 rfl (RDP.of fun _ => RD.geq rfl rfl) rfl (by kernel_rfl) rfl ?_
        refine WA.takeP 14 rfl (RDP.of fun _ => RD.pickF rfl rfl) rfl (by kernel_rfl) rfl ?_
        refine WA.takeP 15 rfl (RDP.of fun _ => RD.move rfl) rfl (by kernel_rfl) rfl ?_
        refine WA.caseP 27 rfl (fun hg27 => ?_) (fun hg27 => ?_)
        ·
          refine WA.no 16 rfl rfl (by kernel_rfl) rfl ?_
          refine WA.no 17 rfl rfl (by kernel_rfl) rfl ?_
          refine WA.no 18 rfl rfl (by kernel_rfl) rfl ?_
          refine WA.no 19 rfl rfl (by kernel_rfl) rfl ?_
          refine WA.no 20 rfl rfl (by kernel_rfl) rfl ?_
          refine WA.no 21 rfl rfl (by kernel_rfl) rfl ?_
          refine WA.no 22 rfl rfl (by kernel_rfl) rfl ?_
          refine WA.no 23 rfl rfl (by kernel_rfl) rfl ?_
          refine WA.no 24 rfl rfl (by kernel_rfl) rfl ?_
          refine WA.no 25 rfl rfl (by kernel_rfl) rfl ?_
          refine WA.no 26 rfl rfl (by kernel_rfl) rfl ?_
          refine WA.no 27 rfl rfl (by kernel_rfl) rfl ?_
          refine WA.no 28 rfl rfl (by kernel_rfl) rfl ?_
          refine WA.no 29 rfl rfl (by kernel_rfl) rfl ?_
          refine WA.takeP 30 rfl (RDP.of fun _ => RD.pickT rfl rfl) rfl (by kernel_rfl) rfl ?_
          refine WA.done (by kernel_rfl) ?_
          refine JE.seqN ?_
          refine J.condT rfl ?_
          refine J.seq ?_
          refine J.reg ?_
          refine WL.rd (RD.assign rfl) rfl rfl ?_
          refine WL.nil ?_
          refine JE.seqN ?_
          refine J.ret ?_
          refine JE.ret rfl (.tmp rfl .nil) (fun w hS => ?_)
          first | (exact CS.fin hS (mk_false (fun h => by obtain ⟨h1, h2⟩ := h.1 i (by omega); first | omega | (have h3 := h2 (by omega); omega)))) | (exact CS.fin hS (mk_dec ⟨fun h => ⟨fun j hj => hI.2 j (by omega), h⟩, fun h => h.2⟩))
        ·
          refine WA.takeP 16 rfl (RDP.of fun _ => RD.move rfl) rfl (by kernel_rfl) rfl ?_
          refine WA.takeP 17 rfl (RDP.of fun _ => RD.gtr rfl rfl) rfl (by kernel_rfl) rfl ?_
          refine WA.takeP 18 rfl (RDP.of fun _ => RD.move rfl) rfl (by kernel_rfl) rfl ?_
          refine WA.caseP 30 rfl (fun hg30 => ?_) (fun hg30 => ?_)
          ·
            refine WA.takeP 19 rfl (RDP.of fun _ => RD.move rfl) rfl (by kernel_rfl) rfl ?_
            refine WA.takeP 20 rfl (RDP.of fun _ => RD.move rfl) rfl (by kernel_rfl) rfl ?_
            refine WA.takeP 21 rfl (RDP.of fun _ => RD.sub rfl rfl (by omega) (by omega)) rfl (by kernel_rfl) rfl ?_
            refine WA.takeP 22 rfl (RDP.idx (j := i - 1) (hj := ⟨by omega⟩) rfl rfl (by omega) rfl) rfl (by kernel_rfl) rfl ?_
            refine WA.take 23 rfl (RD.loadE rfl (by omega) rfl) rfl (by kernel_rfl) rfl ?_
            refine WA.takeP 24 rfl (RDP.of fun _ => RD.move rfl) rfl (by kernel_rfl) rfl ?_
            refine WA.takeP 25 rfl (RDP.of fun _ => RD.move rfl) rfl (by kernel_rfl) rfl ?_
            refine WA.takeP 26 rfl (RDP.idx rfl rfl (by omega) rfl) rfl (by kernel_rfl) rfl ?_
            refine WA.take 27 rfl (RD.loadE rfl (by omega) rfl) rfl (by kernel_rfl) rfl ?_
            refine WA.takeP 28 rfl (RDP.of fun _ => RD.geq rfl rfl) rfl (by kernel_rfl) rfl ?_
            refine WA.takeP 29 rfl (RDP.of fun _ => RD.pickT rfl rfl) rfl (by kernel_rfl) rfl ?_
            refine WA.takeP 30 rfl (RDP.of fun _ => RD.pickF rfl rfl) rfl (by kernel_rfl) rfl ?_
            refine WA.done (by kernel_rfl) ?_
            refine JE.seqN ?_
            refine J.condP rfl (fun hc42 => ?_) (fun hc42 => ?_)
            ·
              refine J.seq ?_
              refine J.reg ?_
              refine WL.rd (RD.assign rfl) rfl rfl ?_
              refine WL.nil ?_
              refine JE.seqN ?_
              refine J.ret ?_
              refine JE.ret rfl (.tmp rfl .nil) (fun w hS => ?_)
              first | (exact CS.fin hS (mk_false (fun h => by obtain ⟨h1, h2⟩ := h.1 i (by omega); first | omega | (have h3 := h2 (by omega); omega)))) | (exact CS.fin hS (mk_dec ⟨fun h => ⟨fun j hj => hI.2 j (by omega), h⟩, fun h => h.2⟩))
            ·
              refine J.skip ?_
              refine JE.blockN ?_
              refine JE.seqN ?_
              refine J.reg ?_
              refine WL.rd (RD.move rfl) rfl rfl ?_
              refine WL.rd (RD.add rfl rfl (by omega) (by omega)) rfl rfl ?_
              refine WL.rd (RD.assign rfl) rfl rfl ?_
              refine WL.nil ?_
              refine JE.cutN ⟨_, ?_, i + 1, rfl, ?_, rfl, rfl⟩ ?_ ?_
              · omega
              · exact ⟨by omega, fun j hj => (Nat.lt_succ_iff_lt_or_eq.1 hj).elim (hI.2 j) (fun hh => by subst hh; exact ⟨by omega, fun h0 => by omega⟩)⟩
              · exact (Sub.consE rfl (by first | rfl | (congr 1; omega) | (simp; done)) (Sub.consE rfl (by first | rfl | (congr 1; omega) | (simp; done)) (Sub.consE rfl (by first | rfl | (congr 1; omega) | (simp; done)) .nil)))
              · exact (SubM.cells rfl (by first | rfl | (simp; done)) (SubM.ro rfl (by first | rfl | (simp [iv, bv, yv, tv, sv]; done)) (SubM.ro rfl (by first | rfl | (simp [iv, bv, yv, tv, sv]; done)) .nil)))
          ·
            refine WA.no 19 rfl rfl (by kernel_rfl) rfl ?_
            refine WA.no 20 rfl rfl (by kernel_rfl) rfl ?_
            refine WA.no 21 rfl rfl (by kernel_rfl) rfl ?_
            refine WA.no 22 rfl rfl (by kernel_rfl) rfl ?_
            refine WA.no 23 rfl rfl (by kernel_rfl) rfl ?_
            refine WA.no 24 rfl rfl (by kernel_rfl) rfl ?_
            refine WA.no 25 rfl rfl (by kernel_rfl) rfl ?_
            refine WA.no 26 rfl rfl (by kernel_rfl) rfl ?_
            refine WA.no 27 rfl rfl (by kernel_rfl) rfl ?_
            refine WA.no 28 rfl rfl (by kernel_rfl) rfl ?_
            refine WA.takeP 29 rfl (RDP.of fun _ => RD.pickF rfl rfl) rfl (by kernel_rfl) rfl ?_
            refine WA.takeP 30 rfl (RDP.of fun _ => RD.pickF rfl rfl) rfl (by kernel_rfl) rfl ?_
            refine WA.done (by kernel_rfl) ?_
            refine JE.seqN ?_
            refine J.condF rfl ?_
            refine J.skip ?_
            refine JE.blockN ?_
            refine JE.seqN ?_
            refine J.reg ?_
            refine WL.rd (RD.move rfl) rfl rfl ?_
            refine WL.rd (RD.add rfl rfl (by omega) (by omega)) rfl rfl ?_
            refine WL.rd (RD.assign rfl) rfl rfl ?_
            refine WL.nil ?_
            refine JE.cutN ⟨_, ?_, i + 1, rfl, ?_, rfl, rfl⟩ ?_ ?_
            · omega
            · exact ⟨by omega, fun j hj => (Nat.lt_succ_iff_lt_or_eq.1 hj).elim (hI.2 j) (fun hh => by subst hh; exact ⟨by omega, fun h0 => by omega⟩)⟩
            · exact (Sub.consE rfl (by first | rfl | (congr 1; omega) | (simp; done)) (Sub.consE rfl (by first | rfl | (congr 1; omega) | (simp; done)) (Sub.consE rfl (by first | rfl | (congr 1; omega) | (simp; done)) .nil)))
            · exact (SubM.cells rfl (by first | rfl | (simp; done)) (SubM.ro rfl (by first | rfl | (simp [iv, bv, yv, tv, sv]; done)) (SubM.ro rfl (by first | rfl | (simp [iv, bv, yv, tv, sv]; done)) .nil)))
    ·
      refine J.exit ?_
      refine JE.seqX ?_
      refine JE.cutX ?_
      refine JE.blockHit ?_
      refine JE.seqN ?_
      refine J.seq ?_
      refine J.reg ?_
      refine WL.rd (RD.loadA rfl rfl) rfl rfl ?_
      refine WL.efS (EF.callS (.cons rfl .nil) (fun w hS => sIsGraph_c _ _ _ _ (by exact RdI.rd hS))) rfl rfl ?_
      rintro ⟨⟩ -
      refine WL.rd (RD.assign rfl) rfl rfl ?_
      refine WL.nil ?_
      refine JE.seqN ?_
      refine J.ret ?_
      refine JE.ret rfl (.tmp rfl .nil) (fun w hS => ?_)
      first | (exact CS.fin hS (mk_false (fun h => by obtain ⟨h1, h2⟩ := h.1 i (by omega); first | omega | (have h3 := h2 (by omega); omega)))) | (exact CS.fin hS (mk_dec ⟨fun h => ⟨fun j hj => hI.2 j (by omega), h⟩, fun h => h.2⟩))
theorem iIsIndependent_c (n : Int) (v : Value) (xs : List (Int × Int)) (k l : Int) (vs : Value) (s : List Int) (w : World) (hr : Rd w v 2 (xs.map bv)) (hk : -9223372036854775808 ≤ k ∧ k ≤ 9223372036854775807) (hl : -9223372036854775808 ≤ l ∧ l ≤ 9223372036854775807) (hrs : Rd w vs 1 (s.map iv)) (hlx : xs.length ≤ 1048576) :
    CS Try.prog 31 [.agg #[.int .i64 n, v], .int .i64 k, .int .i64 l, vs] w (.bool (decide (indI n k l xs s))) := by
  have hl_xs : xs.length ≤ 9223372036854775807 := (by obtain ⟨_, _, _, hh, _⟩ := hr.shape; simpa using hh)
  have hl_s : s.length ≤ 9223372036854775807 := (by obtain ⟨_, _, _, hh, _⟩ := hrs.shape; simpa using hh)
  refine calls_of_J (mu := (fun _ => False)) (m := [.ro v 2 (xs.map bv), .ro vs 1 (s.map iv)]) (e := [(0, .agg #[.int .i64 n, v]), (1, .int .i64 k), (2, .int .i64 l), (3, vs)]) Try.func31 rfl rfl (.cons rfl (.cons rfl (.cons rfl (.cons rfl .nil)))) ((((St.init _ _).ro0 hrs (by decide)).ro0 hr (by decide))) ?_
  refine J.seq ?_
  refine J.reg ?_
  refine WL.efS (EF.boxA rfl) rfl rfl ?_
  intro b4 _
  refine WL.rd (RD.assign rfl) rfl rfl ?_
  refine WL.nil ?_
  refine JE.seqN ?_
  refine J.seq ?_
  refine J.reg ?_
  refine WL.rd (RD.loadA rfl rfl) rfl rfl ?_
  refine WL.rd (RD.move rfl) rfl rfl ?_
  refine WL.efS (EF.callS (.cons rfl (.cons rfl .nil)) (fun w hS => isSet_c _ _ _ _ _ _ (by exact RdI.rd hS) (by exact RdI.rd hS))) rfl rfl ?_
  rintro ⟨⟩ -
  refine WL.rd (RD.move rfl) rfl rfl ?_
  refine WL.caseP 12 rfl (fun hg12 => ?_) (fun hg12 => ?_)
  ·
    refine WL.rd (RD.move rfl) rfl rfl ?_
    refine WL.rd (RD.move rfl) rfl rfl ?_
    refine WL.efS (EF.callS (.cons rfl (.cons rfl .nil)) (fun w hS => iIsRange_c _ _ _ (by assumption))) rfl rfl ?_
    rintro ⟨⟩ -
    refine WL.rd (RD.pickT rfl rfl) rfl rfl ?_
    refine WL.rd (RD.move rfl) rfl rfl ?_
    refine WL.caseP 17 rfl (fun hg17 => ?_) (fun hg17 => ?_)
    ·
      refine WL.rd (RD.loadA rfl rfl) rfl rfl ?_
      refine WL.rd (RD.move rfl) rfl rfl ?_
      refine WL.rd (RD.move rfl) rfl rfl ?_
      refine WL.rd (RD.move rfl) rfl rfl ?_
      refine WL.efS (EF.callS (.cons rfl (.cons rfl (.cons rfl (.cons rfl .nil)))) (fun w hS => iRankOfSet_c _ _ _ _ _ _ _ _ (by exact RdI.rd hS) (by first | assumption | (constructor <;> decide) | omega) (by first | assumption | (constructor <;> decide) | omega) (by exact RdI.rd hS) (by omega))) rfl rfl ?_
      rintro ⟨⟩ -
      refine WL.rd (RD.move rfl) rfl rfl ?_
      refine WL.rd (RD.lenR rfl) rfl rfl ?_
      refine WL.rd (RD.eql rfl rfl) rfl rfl ?_
      refine WL.rd (RD.pickT rfl rfl) rfl rfl ?_
      refine WL.rd (RD.assign rfl) rfl rfl ?_
      refine WL.nil ?_
      refine JE.seqN ?_
      refine J.ret ?_
      refine JE.ret rfl (.tmp rfl .nil) (fun w hS => ?_)
      first | exact CS.fin hS (mk_false (fun h => absurd h.1 (by assumption))) | exact CS.fin hS (mk_false (fun h => absurd h.2.1 (by assumption))) | exact CS.fin hS (mk_dec ⟨fun h => ⟨by assumption, by assumption, h⟩, fun h => h.2.2⟩)
    ·
      refine WL.noS rfl rfl ?_
      refine WL.noS rfl rfl ?_
      refine WL.noS rfl rfl ?_
      refine WL.noS rfl rfl ?_
      refine WL.noS rfl rfl ?_
      refine WL.noS rfl rfl ?_
      refine WL.noS rfl rfl ?_
      refine WL.noS rfl rfl ?_
      refine WL.rd (RD.pickF rfl rfl) rfl rfl ?_
      refine WL.rd (RD.assign rfl) rfl rfl ?_
      refine WL.nil ?_
      refine JE.seqN ?_
      refine J.ret ?_
      refine JE.ret rfl (.tmp rfl .nil) (fun w hS => ?_)
      first | exact CS.fin hS (mk_false (fun h => absurd h.1 (by assumption))) | exact CS.fin hS (mk_false (fun h => absurd h.2.1 (by assumption))) | exact CS.fin hS (mk_dec ⟨fun h => ⟨by assumption, by assumption, h⟩, fun h => h.2.2⟩)
  ·
    refine WL.noS rfl rfl ?_
    refine WL.noS rfl rfl ?_
    refine WL.noS rfl rfl ?_
    refine WL.rd (RD.pickF rfl rfl) rfl rfl ?_
    refine WL.rd (RD.move rfl) rfl rfl ?_
    refine WL.noS rfl rfl ?_
    refine WL.noS rfl rfl ?_
    refine WL.noS rfl rfl ?_
    refine WL.noS rfl rfl ?_
    refine WL.noS rfl rfl ?_
    refine WL.noS rfl rfl ?_
    refine WL.noS rfl rfl ?_
    refine WL.noS rfl rfl ?_
    refine WL.rd (RD.pickF rfl rfl) rfl rfl ?_
    refine WL.rd (RD.assign rfl) rfl rfl ?_
    refine WL.nil ?_
    refine JE.seqN ?_
    refine J.ret ?_
    refine JE.ret rfl (.tmp rfl .nil) (fun w hS => ?_)
    first | exact CS.fin hS (mk_false (fun h => absurd h.1 (by assumption))) | exact CS.fin hS (mk_false (fun h => absurd h.2.1 (by assumption))) | exact CS.fin hS (mk_dec ⟨fun h => ⟨by assumption, by assumption, h⟩, fun h => h.2.2⟩)
theorem sIsIndependent_c (n : Int) (v : Value) (xs : List (Int × Int)) (k l : Int) (vs : Value) (s : List Int) (w : World) (hr : Rd w v 2 (xs.map bv)) (hk : -9223372036854775808 ≤ k ∧ k ≤ 9223372036854775807) (hl : -9223372036854775808 ≤ l ∧ l ≤ 9223372036854775807) (hrs : Rd w vs 1 (s.map iv)) (hlx : xs.length ≤ 1048576) :
    CS Try.prog 30 [.agg #[.int .i64 n, v], .int .i64 k, .int .i64 l, vs] w (.bool (decide (indI n k l xs s))) := by
  have hl_xs : xs.length ≤ 9223372036854775807 := (by obtain ⟨_, _, _, hh, _⟩ := hr.shape; simpa using hh)
  have hl_s : s.length ≤ 9223372036854775807 := (by obtain ⟨_, _, _, hh, _⟩ := hrs.shape; simpa using hh)
  refine calls_of_J (mu := (fun _ => False)) (m := [.ro v 2 (xs.map bv), .ro vs 1 (s.map iv)]) (e := [(0, .agg #[.int .i64 n, v]), (1, .int .i64 k), (2, .int .i64 l), (3, vs)]) Try.func30 rfl rfl (.cons rfl (.cons rfl (.cons rfl (.cons rfl .nil)))) ((((St.init _ _).ro0 hrs (by decide)).ro0 hr (by decide))) ?_
  refine J.seq ?_
  refine J.reg ?_
  refine WL.efS (EF.boxA rfl) rfl rfl ?_
  intro b4 _
  refine WL.rd (RD.assign rfl) rfl rfl ?_
  refine WL.nil ?_
  refine JE.seqN ?_
  refine J.seq ?_
  refine J.reg ?_
  refine WL.rd (RD.loadA rfl rfl) rfl rfl ?_
  refine WL.rd (RD.move rfl) rfl rfl ?_
  refine WL.efS (EF.callS (.cons rfl (.cons rfl .nil)) (fun w hS => l5Set_c _ _ _ _ _ _ (by exact RdI.rd hS) (by exact RdI.rd hS))) rfl rfl ?_
  rintro ⟨⟩ -
  refine WL.rd (RD.move rfl) rfl rfl ?_
  refine WL.caseP 12 rfl (fun hg12 => ?_) (fun hg12 => ?_)
  ·
    refine WL.rd (RD.move rfl) rfl rfl ?_
    refine WL.rd (RD.move rfl) rfl rfl ?_
    refine WL.efS (EF.callS (.cons rfl (.cons rfl .nil)) (fun w hS => sIsRange_c _ _ _ (by assumption))) rfl rfl ?_
    rintro ⟨⟩ -
    refine WL.rd (RD.pickT rfl rfl) rfl rfl ?_
    refine WL.rd (RD.move rfl) rfl rfl ?_
    refine WL.caseP 17 rfl (fun hg17 => ?_) (fun hg17 => ?_)
    ·
      refine WL.rd (RD.loadA rfl rfl) rfl rfl ?_
      refine WL.rd (RD.move rfl) rfl rfl ?_
      refine WL.rd (RD.move rfl) rfl rfl ?_
      refine WL.rd (RD.move rfl) rfl rfl ?_
      refine WL.efS (EF.callS (.cons rfl (.cons rfl (.cons rfl (.cons rfl .nil)))) (fun w hS => sRankOfSet_c _ _ _ _ _ _ _ _ (by exact RdI.rd hS) (by first | assumption | (constructor <;> decide) | omega) (by first | assumption | (constructor <;> decide) | omega) (by exact RdI.rd hS) (by omega))) rfl rfl ?_
      rintro ⟨⟩ -
      refine WL.rd (RD.move rfl) rfl rfl ?_
      refine WL.rd (RD.lenR rfl) rfl rfl ?_
      refine WL.rd (RD.eql rfl rfl) rfl rfl ?_
      refine WL.rd (RD.pickT rfl rfl) rfl rfl ?_
      refine WL.rd (RD.assign rfl) rfl rfl ?_
      refine WL.nil ?_
      refine JE.seqN ?_
      refine J.ret ?_
      refine JE.ret rfl (.tmp rfl .nil) (fun w hS => ?_)
      first | exact CS.fin hS (mk_false (fun h => absurd h.1 (by assumption))) | exact CS.fin hS (mk_false (fun h => absurd h.2.1 (by assumption))) | exact CS.fin hS (mk_dec ⟨fun h => ⟨by assumption, by assumption, h⟩, fun h => h.2.2⟩)
    ·
      refine WL.noS rfl rfl ?_
      refine WL.noS rfl rfl ?_
      refine WL.noS rfl rfl ?_
      refine WL.noS rfl rfl ?_
      refine WL.noS rfl rfl ?_
      refine WL.noS rfl rfl ?_
      refine WL.noS rfl rfl ?_
      refine WL.noS rfl rfl ?_
      refine WL.rd (RD.pickF rfl rfl) rfl rfl ?_
      refine WL.rd (RD.assign rfl) rfl rfl ?_
      refine WL.nil ?_
      refine JE.seqN ?_
      refine J.ret ?_
      refine JE.ret rfl (.tmp rfl .nil) (fun w hS => ?_)
      first | exact CS.fin hS (mk_false (fun h => absurd h.1 (by assumption))) | exact CS.fin hS (mk_false (fun h => absurd h.2.1 (by assumption))) | exact CS.fin hS (mk_dec ⟨fun h => ⟨by assumption, by assumption, h⟩, fun h => h.2.2⟩)
  ·
    refine WL.noS rfl rfl ?_
    refine WL.noS rfl rfl ?_
    refine WL.noS rfl rfl ?_
    refine WL.rd (RD.pickF rfl rfl) rfl rfl ?_
    refine WL.rd (RD.move rfl) rfl rfl ?_
    refine WL.noS rfl rfl ?_
    refine WL.noS rfl rfl ?_
    refine WL.noS rfl rfl ?_
    refine WL.noS rfl rfl ?_
    refine WL.noS rfl rfl ?_
    refine WL.noS rfl rfl ?_
    refine WL.noS rfl rfl ?_
    refine WL.noS rfl rfl ?_
    refine WL.rd (RD.pickF rfl rfl) rfl rfl ?_
    refine WL.rd (RD.assign rfl) rfl rfl ?_
    refine WL.nil ?_
    refine JE.seqN ?_
    refine J.ret ?_
    refine JE.ret rfl (.tmp rfl .nil) (fun w hS => ?_)
    first | exact CS.fin hS (mk_false (fun h => absurd h.1 (by assumption))) | exact CS.fin hS (mk_false (fun h => absurd h.2.1 (by assumption))) | exact CS.fin hS (mk_dec ⟨fun h => ⟨by assumption, by assumption, h⟩, fun h => h.2.2⟩)
theorem pbI_len (n : Int) (xs : List (Int × Int)) (k l : Int) (f t pl : List Int) (i : Int) (h1 : f.length ≤ 1048576) (h2 : t.length ≤ 1048576) (h3 : pl.length ≤ 1048576) : (pbI n xs k l f t pl i).1.f.length ≤ 1048576 ∧ (pbI n xs k l f t pl i).1.t.length ≤ 1048576 ∧ (pbI n xs k l f t pl i).1.pl.length ≤ 1048576 := by
  unfold pbI
  split
  · rename_i h
    obtain ⟨⟨g1, g2, g3, g4⟩, g5⟩ := h
    have hp := isP_ok g1
    have hg := g1.1
    have hxs := hg.2.2.1
    have hn1 := hg.1
    obtain ⟨e1, e2, e3⟩ := (gGood hg).e i.toNat (by omega)
    have hgs := gathP_spec (n := n.toNat) (k := k) (xs := xs) (a := (exs xs i.toNat).1) (b := (exs xs i.toNat).2) (want := l + 1) (by omega) (by omega) (by omega) 8 ⟨f, t, pl⟩ hp (by have h1 := hp.pos (exs xs i.toNat).1 (by omega) (by omega); have h2 := hp.pos (exs xs i.toNat).2 (by omega) (by omega); simp only at h1 h2 ⊢; omega)
    have q1 := hgs.1.fl
    have q2 := hgs.1.pv.tl
    have q3 := hgs.2.1
    have q4 := asc_len hp
    simp only at q3 q4
    rw [q3] at q2
    have q5 : (gatP n.toNat xs l ⟨f, t, pl⟩ i.toNat).2 = true := by rw [← place_isSome]; exact g5
    rw [plc_yes q5]
    unfold putP
    have q6 : (gatP n.toNat xs l ⟨f, t, pl⟩ i.toNat).1.f.length = n.toNat := q1
    have q7 : (gatP n.toNat xs l ⟨f, t, pl⟩ i.toNat).1.t.length = pl.length := q2
    have q8 : (gatP n.toNat xs l ⟨f, t, pl⟩ i.toNat).1.pl.length = pl.length := by show (gathP _ _ _ _ _ _ _).1.pl.length = _; rw [q3]
    have hn8 := hg.2.1
    simp only [List.length_set, List.length_append, List.length_singleton]
    omega
  · exact ⟨h1, h2, h3⟩
end Go.Proofs.Ytmnaohimnladnaa
