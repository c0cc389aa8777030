/- Contracts of functions of the program, each walked once; written by a program of our own. -/
import Derived.Test.YtmnaohimnladnaaGo
import Derived.Test.YtmnaohimnladnaaSo
namespace Go.Proofs.Ytmnaohimnladnaa
open Go Go.RowKit
set_option maxRecDepth 4000

theorem subM_app (ns : List En) {a m : List En} (h : SubM a m) : SubM a (ns ++ m) := by
  induction h with
  | nil => exact .nil
  | cons h _ ih => exact .cons ((h.append_left ns).trans List.perm_middle) ih
theorem subM_refl : ∀ m : List En, SubM m m
  | [] => .nil
  | _ :: m => .cons (List.Perm.refl _) (subM_refl m)
theorem subM_con (x : En) {a m : List En} (h : SubM a m) : SubM a (x :: m) := subM_app [x] h
set_option maxHeartbeats 2000000
theorem law_c (n : Int) (v : Value) (xs : List (Int × Int)) (k : Int) (l : Int) (vf : Value) (f : List Int) (vt : Value) (t : List Int) (vp : Value) (pl : List Int) (i : Int) (w : World) (_hn : -9223372036854775808 ≤ n ∧ n ≤ 9223372036854775807) (hrn : Rd w v 2 (xs.map bv)) (_hbn : ∀ x ∈ xs, InI64 x.1 ∧ InI64 x.2) (_hk : -9223372036854775808 ≤ k ∧ k ≤ 9223372036854775807) (hl : -9223372036854775808 ≤ l ∧ l ≤ 9223372036854775807) (hrf : Rd w vf 1 (f.map iv)) (hbf : ∀ x ∈ f, InI64 x) (hrt : Rd w vt 1 (t.map iv)) (_hbt : ∀ x ∈ t, InI64 x) (hrp : Rd w vp 1 (pl.map iv)) (_hbp : ∀ x ∈ pl, InI64 x) (_hi : -9223372036854775808 ≤ i ∧ i ≤ 9223372036854775807) :
    CS Try.prog 4 [.agg #[.int .i64 n, v], .int .i64 k, .int .i64 l, .agg #[vf, vt, vp], .int .i64 i] w (.bool true) := by
 have hbf2 : ∀ x ∈ f, x ≤ 9223372036854775807 := fun x hx => (hbf x hx).2
 refine calls_of_J (mu := (fun _ => False)) (m := [.ro v 2 (xs.map bv), .ro vf 1 (f.map iv), .ro vt 1 (t.map iv), .ro vp 1 (pl.map iv)]) (e := [(0, .agg #[.int .i64 n, v]), (1, .int .i64 k), (2, .int .i64 l), (3, .agg #[vf, vt, vp]), (4, .int .i64 i)]) Try.func4 rfl rfl (.cons rfl (.cons rfl (.cons rfl (.cons rfl (.cons rfl .nil))))) ((((((St.init _ _).ro0 hrp (by decide)).ro0 hrt (by decide)).ro0 hrf (by decide)).ro0 hrn (by decide))) ?_
 refine J.seq ?_
 refine J.reg ?_
 refine WL.efS (EF.boxA rfl) rfl rfl ?_
 intro b5 _
 refine WL.efS (EF.boxA rfl) rfl rfl ?_
 intro b8 _
 refine WL.rd (RD.assign rfl) rfl rfl ?_
 refine WL.nil ?_
 refine JE.seqN ?_
 refine J.seq ?_
 refine J.reg ?_
 refine WL.rd (RD.assign rfl) rfl rfl ?_
 refine WL.nil ?_
 refine JE.seqN ?_
 refine J.seq ?_
 refine J.reg ?_
 refine WL.rd (RD.loadA rfl rfl) rfl rfl ?_
 refine WL.rd (RD.move rfl) rfl rfl ?_
 refine WL.efS (EF.callS (.cons rfl (.cons rfl .nil)) (fun w hS => szGraph_c _ _ _ _ _ (by exact RdI.rd hS) (by omega))) rfl rfl ?_
 rintro ⟨⟩ -
 refine WL.rd (RD.assign rfl) rfl rfl ?_
 refine WL.nil ?_
 refine JE.seqN ?_
 refine J.seq ?_
 refine J.seq ?_
 refine J.reg ?_
 refine WL.rd (RD.move rfl) rfl rfl ?_
 refine WL.rd (RD.lss rfl rfl) rfl rfl ?_
 refine WL.nil ?_
 refine JE.seqN ?_
 refine J.condP rfl (fun hc27 => ?_) (fun hc27 => ?_)
 ·
  refine J.seq ?_
  refine J.reg ?_
  refine WL.rd (RD.assign rfl) rfl rfl ?_
  refine WL.nil ?_
  refine JE.seqN ?_
  refine J.ret ?_
  refine JE.ret rfl (.tmp rfl .nil) (fun w hS => ?_)
  first | exact CS.fin hS rfl | (exfalso; omega) | exact CS.fin hS (by simp_all [mkRes])
 ·
  obtain ⟨hz27, hy27⟩ := szf_nn hc27
  refine J.skip ?_
  refine JE.seqN ?_
  refine J.seq ?_
  refine J.reg ?_
  refine WL.rd (RD.loadA rfl rfl) rfl rfl ?_
  refine WL.rd (RD.move rfl) rfl rfl ?_
  refine WL.efS (EF.callS (.cons rfl (.cons rfl .nil)) (fun w hS => szPebbles_c _ _ _ _ _ _ _ _ (by exact RdI.rd hS) (by exact RdI.rd hS) (by exact RdI.rd hS) (by omega))) rfl rfl ?_
  rintro ⟨⟩ -
  refine WL.rd (RD.assign rfl) rfl rfl ?_
  refine WL.nil ?_
  refine JE.seqN ?_
  refine J.seq ?_
  refine J.seq ?_
  refine J.reg ?_
  refine WL.rd (RD.move rfl) rfl rfl ?_
  refine WL.rd (RD.lss rfl rfl) rfl rfl ?_
  refine WL.nil ?_
  refine JE.seqN ?_
  refine J.condP rfl (fun hc32 => ?_) (fun hc32 => ?_)
  ·
   refine J.seq ?_
   refine J.reg ?_
   refine WL.rd (RD.assign rfl) rfl rfl ?_
   refine WL.nil ?_
   refine JE.seqN ?_
   refine J.ret ?_
   refine JE.ret rfl (.tmp rfl .nil) (fun w hS => ?_)
   first | exact CS.fin hS rfl | (exfalso; omega) | exact CS.fin hS (by simp_all [mkRes])
  ·
   obtain ⟨hz32, hy32⟩ := szf_nn hc32
   refine J.skip ?_
   refine JE.seqN ?_
   refine J.seq ?_
   have hgl := pbI_len n xs k l f t pl i (by omega) (by omega) (by omega)
   refine J.anyAll [12, 13] ?_
   refine WA.take 0 rfl (RD.loadA rfl rfl) rfl (by kernel_rfl) rfl ?_
   refine WA.takeP 2 rfl (RDP.of fun _ => RD.move rfl) rfl (by kernel_rfl) rfl ?_
   refine WA.takeP 3 rfl (RDP.of fun _ => RD.move rfl) rfl (by kernel_rfl) rfl ?_
   refine WA.take 4 rfl (RD.loadA rfl rfl) rfl (by kernel_rfl) rfl ?_
   refine WA.takeP 6 rfl (RDP.of fun _ => RD.move rfl) rfl (by kernel_rfl) rfl ?_
   refine WA.two (i := 1) (j := 11) (by kernel_rfl) ?_ ?_
   ·
    refine WAi.efS rfl (EF.callN (.cons rfl .nil) (fun w hS => toGraph_c _ _ _ _ (by exact RdI.rd hS) (by omega))) rfl rfl (fun _ => by repeat (first | exact subM_refl _ | refine subM_app _ ?_ | refine subM_con _ ?_)) ?_
    rintro v35 -
    refine WA.two (i := 5) (j := 11) (by kernel_rfl) ?_ ?_
    ·
     refine WAi.efS rfl (EF.callN (.cons rfl .nil) (fun w hS => toPebbles_c _ _ _ _ _ _ _ (by exact RdI.rd hS) (by exact RdI.rd hS) (by exact RdI.rd hS) (by omega) (by omega) (by omega))) rfl rfl (fun _ => by repeat (first | exact subM_refl _ | refine subM_app _ ?_ | refine subM_con _ ?_)) ?_
     rintro ⟨f39, t39, p39⟩ -
     refine WA.two (i := 7) (j := 11) (by kernel_rfl) ?_ ?_
     ·
      refine WAi.efS rfl (EF.callN (.cons rfl (.cons rfl (.cons rfl (.cons rfl (.cons rfl .nil))))) (fun w hS => sPlaceBar_c _ _ _ _ _ _ _ _ _ _ _ _ _ (by exact RdI.rd hS) (by exact RdI.rd hS) (by exact RdI.rd hS) (by exact RdI.rd hS) (by assumption) (by omega) (by omega) (by omega) (by omega) (by first | assumption | omega))) rfl rfl (fun _ => by repeat (first | exact subM_refl _ | refine subM_app _ ?_ | refine subM_con _ ?_)) ?_
      rintro ⟨f41, t41, p41⟩ -
      refine WA.takeP 8 rfl (RDP.of fun _ => RD.move rfl) rfl (by kernel_rfl) rfl ?_
      refine WA.takeP 9 rfl (RDP.of fun _ => RD.extract rfl rfl) rfl (by kernel_rfl) rfl ?_
      refine WA.takeP 10 rfl (RDP.of fun _ => RD.extract rfl rfl) rfl (by kernel_rfl) rfl ?_
      refine WA.one (i := 11) (by kernel_rfl) ?_
      refine WAi.efS rfl (by exact EF.allocA) rfl rfl (fun _ => by repeat (first | exact subM_refl _ | refine subM_app _ ?_ | refine subM_con _ ?_)) ?_
      intro b12 _
      refine WA.one (i := 12) (by kernel_rfl) ?_
      refine WAi.efNL rfl (EF.storeA rfl rfl rfl rfl) rfl rfl ?_
      rintro ⟨⟩ -
      refine WB.takeP 13 rfl (RDP.of fun _ => RD.assign rfl) rfl (by kernel_rfl) rfl ?_
      refine WB.done (by kernel_rfl) ?_
      refine JE.seqN ?_
      refine J.seq ?_
      refine J.reg ?_
      refine WL.rd (RD.loadA rfl rfl) rfl rfl ?_
      refine WL.efS (EF.callN (.cons rfl .nil) (fun w hS => toGraph_c _ _ _ _ (by exact RdI.rd hS) (by omega))) rfl rfl ?_
      rintro v45 -
      refine WL.efS (EF.allocA) rfl rfl ?_
      intro b14 _
      refine WL.efN (EF.storeA rfl rfl rfl rfl) rfl ?_
      rintro ⟨⟩ -
      refine WL.nil ?_
      refine JE.seqN ?_
      refine J.seq ?_
      refine J.reg ?_
      refine WL.rd (RD.loadA rfl rfl) rfl rfl ?_
      refine WL.efS (EF.callN (.cons rfl .nil) (fun w hS => toPebbles_c _ _ _ _ _ _ _ (by exact RdI.rd hS) (by exact RdI.rd hS) (by exact RdI.rd hS) (by omega) (by omega) (by omega))) rfl rfl ?_
      rintro ⟨f47, t47, p47⟩ -
      refine WL.efS (EF.allocA) rfl rfl ?_
      intro b15 _
      refine WL.efN (EF.storeA rfl rfl rfl rfl) rfl ?_
      rintro ⟨⟩ -
      refine WL.nil ?_
      refine JE.seqN ?_
      refine J.seq ?_
      refine J.reg ?_
      refine WL.rd (RD.loadA rfl rfl) rfl rfl ?_
      refine WL.rd (RD.move rfl) rfl rfl ?_
      refine WL.rd (RD.move rfl) rfl rfl ?_
      refine WL.rd (RD.loadA rfl rfl) rfl rfl ?_
      refine WL.rd (RD.move rfl) rfl rfl ?_
      refine WL.efS (EF.callN (.cons rfl (.cons rfl (.cons rfl (.cons rfl (.cons rfl .nil))))) (fun w hS => iPlaceBar_c _ _ _ _ _ _ _ _ _ _ _ _ _ (by exact RdI.rd hS) (by exact RdI.rd hS) (by exact RdI.rd hS) (by exact RdI.rd hS) (by assumption) (by omega) (by omega) (by omega) (by omega) (by first | assumption | omega))) rfl rfl ?_
      rintro ⟨f54, t54, p54⟩ -
      refine WL.rd (RD.move rfl) rfl rfl ?_
      refine WL.rd (RD.extract rfl rfl) rfl rfl ?_
      refine WL.rd (RD.extract rfl rfl) rfl rfl ?_
      refine WL.efS (EF.allocA) rfl rfl ?_
      intro b16 _
      refine WL.efN (EF.storeA rfl rfl rfl rfl) rfl ?_
      rintro ⟨⟩ -
      refine WL.rd (RD.assign rfl) rfl rfl ?_
      refine WL.nil ?_
      refine JE.seqN ?_
      refine J.seq ?_
      refine J.seq ?_
      refine J.reg ?_
      refine WL.rd (RD.loadA rfl rfl) rfl rfl ?_
      refine WL.rd (RD.loadA rfl rfl) rfl rfl ?_
      refine WL.efS (EF.callS (.cons rfl (.cons rfl .nil)) (fun w hS => eqPebbles_c _ _ _ _ _ _ _ _ _ _ _ _ _ (by exact RdI.rd hS) (by exact RdI.rd hS) (by exact RdI.rd hS) (by exact RdI.rd hS) (by exact RdI.rd hS) (by exact RdI.rd hS))) rfl rfl ?_
      rintro ⟨⟩ -
      refine WL.rd (RD.notP rfl) rfl rfl ?_
      refine WL.rd (RD.move rfl) rfl rfl ?_
      refine WL.caseP 61 rfl (fun hg61 => ?_) (fun hg61 => ?_)
      ·
       refine WL.noS rfl rfl ?_
       refine WL.noS rfl rfl ?_
       refine WL.noS rfl rfl ?_
       refine WL.rd (RD.pickT rfl rfl) rfl rfl ?_
       refine WL.nil ?_
       refine JE.seqN ?_
       refine J.condT rfl ?_
       refine J.seq ?_
       refine J.reg ?_
       refine WL.rd (RD.assign rfl) rfl rfl ?_
       refine WL.nil ?_
       refine JE.seqN ?_
       refine J.ret ?_
       refine JE.ret rfl (.tmp rfl .nil) (fun w hS => ?_)
       first | exact CS.fin hS rfl | (exfalso; omega) | exact CS.fin hS (by simp_all)
      ·
       refine WL.rd (RD.move rfl) rfl rfl ?_
       refine WL.rd (RD.move rfl) rfl rfl ?_
       refine WL.rd (RD.neqB rfl rfl) rfl rfl ?_
       refine WL.rd (RD.pickF rfl rfl) rfl rfl ?_
       refine WL.nil ?_
       refine JE.seqN ?_
       refine J.cond rfl (fun hc65 => ?_) (fun hc65 => ?_)
       ·
        refine J.seq ?_
        refine J.reg ?_
        refine WL.rd (RD.assign rfl) rfl rfl ?_
        refine WL.nil ?_
        refine JE.seqN ?_
        refine J.ret ?_
        refine JE.ret rfl (.tmp rfl .nil) (fun w hS => ?_)
        first | exact CS.fin hS rfl | (exfalso; omega) | exact CS.fin hS (by simp_all)
       ·
        refine J.skip ?_
        refine JE.seqN ?_
        refine J.seq ?_
        refine J.seq ?_
        refine J.anyAll [] ?_
        refine WA.take 0 rfl (RD.loadA rfl rfl) rfl (by kernel_rfl) rfl ?_
        refine WA.take 1 rfl (RD.loadA rfl rfl) rfl (by kernel_rfl) rfl ?_
        refine WA.one (i := 2) (by kernel_rfl) ?_
        refine WAi.efS rfl (EF.callN (.cons rfl .nil) (fun w hS => toGraph_c _ _ _ _ (by exact RdI.rd hS) (by omega))) rfl rfl (fun _ => by repeat (first | exact subM_refl _ | refine subM_app _ ?_ | refine subM_con _ ?_)) ?_
        rintro v68 -
        refine WA.one (i := 3) (by kernel_rfl) ?_
        refine WAi.efS rfl (EF.callS (.cons rfl (.cons rfl .nil)) (fun w hS => eqGraph_c _ _ _ _ _ _ _ (by exact RdI.rd hS) (by exact RdI.rd hS))) rfl rfl (fun _ => by repeat (first | exact subM_refl _ | refine subM_app _ ?_ | refine subM_con _ ?_)) ?_
        rintro ⟨⟩ -
        refine WA.takeP 4 rfl (RDP.of fun _ => RD.notP rfl) rfl (by kernel_rfl) rfl ?_
        refine WA.done (by kernel_rfl) ?_
        refine JE.seqN ?_
        refine J.condP rfl (fun hc70 => ?_) (fun hc70 => ?_)
        ·
         refine J.seq ?_
         refine J.reg ?_
         refine WL.rd (RD.assign rfl) rfl rfl ?_
         refine WL.nil ?_
         refine JE.seqN ?_
         refine J.ret ?_
         refine JE.ret rfl (.tmp rfl .nil) (fun w hS => ?_)
         first | exact CS.fin hS rfl | (exfalso; omega) | exact CS.fin hS (by simp_all)
        ·
         refine J.skip ?_
         refine JE.seqN ?_
         refine J.seq ?_
         refine J.seq ?_
         refine J.anyAll [] ?_
         refine WA.take 0 rfl (RD.loadA rfl rfl) rfl (by kernel_rfl) rfl ?_
         refine WA.take 1 rfl (RD.loadA rfl rfl) rfl (by kernel_rfl) rfl ?_
         refine WA.one (i := 2) (by kernel_rfl) ?_
         refine WAi.efS rfl (EF.callN (.cons rfl .nil) (fun w hS => toPebbles_c _ _ _ _ _ _ _ (by exact RdI.rd hS) (by exact RdI.rd hS) (by exact RdI.rd hS) (by omega) (by omega) (by omega))) rfl rfl (fun _ => by repeat (first | exact subM_refl _ | refine subM_app _ ?_ | refine subM_con _ ?_)) ?_
         rintro ⟨f73, t73, p73⟩ -
         refine WA.one (i := 3) (by kernel_rfl) ?_
         refine WAi.efS rfl (EF.callS (.cons rfl (.cons rfl .nil)) (fun w hS => eqPebbles_c _ _ _ _ _ _ _ _ _ _ _ _ _ (by exact RdI.rd hS) (by exact RdI.rd hS) (by exact RdI.rd hS) (by exact RdI.rd hS) (by exact RdI.rd hS) (by exact RdI.rd hS))) rfl rfl (fun _ => by repeat (first | exact subM_refl _ | refine subM_app _ ?_ | refine subM_con _ ?_)) ?_
         rintro ⟨⟩ -
         refine WA.takeP 4 rfl (RDP.of fun _ => RD.notP rfl) rfl (by kernel_rfl) rfl ?_
         refine WA.done (by kernel_rfl) ?_
         refine JE.seqN ?_
         refine J.condP rfl (fun hc75 => ?_) (fun hc75 => ?_)
         ·
          refine J.seq ?_
          refine J.reg ?_
          refine WL.rd (RD.assign rfl) rfl rfl ?_
          refine WL.nil ?_
          refine JE.seqN ?_
          refine J.ret ?_
          refine JE.ret rfl (.tmp rfl .nil) (fun w hS => ?_)
          first | exact CS.fin hS rfl | (exfalso; omega) | exact CS.fin hS (by simp_all)
         ·
          refine J.skip ?_
          refine JE.seqN ?_
          refine J.seq ?_
          refine J.reg ?_
          refine WL.rd (RD.assign rfl) rfl rfl ?_
          refine WL.nil ?_
          refine JE.seqN ?_
          refine J.seq ?_
          refine J.reg ?_
          refine WL.rd (RD.loadA rfl rfl) rfl rfl ?_
          refine WL.rd (RD.move rfl) rfl rfl ?_
          refine WL.efS (EF.callM (.cons rfl (.cons rfl .nil)) (.row .nil) .nil (fun w hS => markGraph_c _ _ _ _ _ (by omega) (by omega)) (by simp [En.rdb])) rfl rfl ?_
          rintro ⟨⟩ -
          refine WL.rd (RD.assign rfl) rfl rfl ?_
          refine WL.nil ?_
          refine JE.seqN ?_
          refine J.seq ?_
          refine J.reg ?_
          refine WL.rd (RD.loadA rfl rfl) rfl rfl ?_
          refine WL.rd (RD.move rfl) rfl rfl ?_
          refine WL.efS (EF.callM (.cons rfl (.cons rfl .nil)) (.row (.row (.row .nil))) .nil (fun w hS => markPebbles_c _ _ _ _ _ _ _ _ (by omega) (by omega) (by omega) (by omega)) (by simp [En.rdb])) rfl rfl ?_
          rintro ⟨⟩ -
          refine WL.rd (RD.assign rfl) rfl rfl ?_
          refine WL.nil ?_
          refine JE.seqN ?_
          refine J.seq ?_
          refine J.seq ?_
          refine J.reg ?_
          refine WL.rd (RD.move rfl) rfl rfl ?_
          refine WL.rd (RD.lss rfl rfl) rfl rfl ?_
          refine WL.rd (RD.move rfl) rfl rfl ?_
          refine WL.caseP 84 rfl (fun hg84 => ?_) (fun hg84 => ?_)
          ·
           refine WL.noS rfl rfl ?_
           refine WL.noS rfl rfl ?_
           refine WL.noS rfl rfl ?_
           refine WL.noS rfl rfl ?_
           refine WL.rd (RD.pickT rfl rfl) rfl rfl ?_
           refine WL.rd (RD.move rfl) rfl rfl ?_
           refine WL.noS rfl rfl ?_
           refine WL.noS rfl rfl ?_
           refine WL.noS rfl rfl ?_
           refine WL.rd (RD.pickT rfl rfl) rfl rfl ?_
           refine WL.nil ?_
           refine JE.seqN ?_
           refine J.condT rfl ?_
           refine J.seq ?_
           refine J.reg ?_
           refine WL.rd (RD.assign rfl) rfl rfl ?_
           refine WL.nil ?_
           refine JE.seqN ?_
           refine J.ret ?_
           refine JE.ret rfl (.tmp rfl .nil) (fun w hS => ?_)
           first | exact CS.fin hS rfl | (exfalso; omega) | exact CS.fin hS (by simp_all [mkRes])
          ·
           refine WL.rd (RD.loadA rfl rfl) rfl rfl ?_
           refine WL.rd (RD.loadA rfl rfl) rfl rfl ?_
           refine WL.efS (EF.callS (.cons rfl (.cons rfl .nil)) (fun w hS => eqPebbles_c _ _ _ _ _ _ _ _ _ _ _ _ _ (by exact RdI.rd hS) (by exact RdI.rd hS) (by exact RdI.rd hS) (by exact RdI.rd hS) (by exact RdI.rd hS) (by exact RdI.rd hS))) rfl rfl ?_
           rintro ⟨⟩ -
           refine WL.rd (RD.notP rfl) rfl rfl ?_
           refine WL.rd (RD.pickF rfl rfl) rfl rfl ?_
           refine WL.rd (RD.move rfl) rfl rfl ?_
           refine WL.caseP 90 rfl (fun hg90 => ?_) (fun hg90 => ?_)
           ·
            refine WL.noS rfl rfl ?_
            refine WL.noS rfl rfl ?_
            refine WL.noS rfl rfl ?_
            refine WL.rd (RD.pickT rfl rfl) rfl rfl ?_
            refine WL.nil ?_
            refine JE.seqN ?_
            refine J.condT rfl ?_
            refine J.seq ?_
            refine J.reg ?_
            refine WL.rd (RD.assign rfl) rfl rfl ?_
            refine WL.nil ?_
            refine JE.seqN ?_
            refine J.ret ?_
            refine JE.ret rfl (.tmp rfl .nil) (fun w hS => ?_)
            first | exact CS.fin hS rfl | (exfalso; omega) | exact CS.fin hS (by simp_all)
           ·
            refine WL.rd (RD.move rfl) rfl rfl ?_
            refine WL.rd (RD.move rfl) rfl rfl ?_
            refine WL.rd (RD.neqB rfl rfl) rfl rfl ?_
            refine WL.rd (RD.pickF rfl rfl) rfl rfl ?_
            refine WL.nil ?_
            refine JE.seqN ?_
            refine J.cond rfl (fun hc94 => ?_) (fun hc94 => ?_)
            ·
             refine J.seq ?_
             refine J.reg ?_
             refine WL.rd (RD.assign rfl) rfl rfl ?_
             refine WL.nil ?_
             refine JE.seqN ?_
             refine J.ret ?_
             refine JE.ret rfl (.tmp rfl .nil) (fun w hS => ?_)
             first | exact CS.fin hS rfl | (exfalso; omega) | exact CS.fin hS (by simp_all)
            ·
             refine J.skip ?_
             refine JE.seqN ?_
             refine J.seq ?_
             refine J.reg ?_
             refine WL.rd (RD.assign rfl) rfl rfl ?_
             refine WL.nil ?_
             refine JE.seqN ?_
             refine J.seq ?_
             refine J.reg ?_
             refine WL.rd (RD.loadA rfl rfl) rfl rfl ?_
             refine WL.rd (RD.move rfl) rfl rfl ?_
             refine WL.efS (EF.callM (.cons rfl (.cons rfl .nil)) (.row (.row (.row .nil))) .nil (fun w hS => markPebbles_c _ _ _ _ _ _ _ _ (by omega) (by omega) (by omega) (by omega)) (by simp [En.rdb])) rfl rfl ?_
             rintro ⟨⟩ -
             refine WL.rd (RD.assign rfl) rfl rfl ?_
             refine WL.nil ?_
             refine JE.seqN ?_
             refine J.seq ?_
             refine J.reg ?_
             refine WL.rd (RD.assign rfl) rfl rfl ?_
             refine WL.nil ?_
             refine JE.seqN ?_
             refine J.seq ?_
             refine J.reg ?_
             refine WL.rd (RD.loadA rfl rfl) rfl rfl ?_
             refine WL.rd (RD.move rfl) rfl rfl ?_
             refine WL.efS (EF.callS (.cons rfl (.cons rfl .nil)) (fun w hS => heldPebbles_c _ _ _ _ _ _ _ _ (by exact RdI.rd hS) (by exact RdI.rd hS) (by exact RdI.rd hS) (by omega) (by omega) (by omega) (by omega))) rfl rfl ?_
             rintro ⟨⟩ -
             refine WL.rd (RD.assign rfl) rfl rfl ?_
             refine WL.nil ?_
             refine JE.seqN ?_
             refine J.seq ?_
             refine J.seq ?_
             refine J.reg ?_
             refine WL.rd (RD.move rfl) rfl rfl ?_
             refine WL.rd (RD.lss rfl rfl) rfl rfl ?_
             refine WL.nil ?_
             refine JE.seqN ?_
             refine J.condP rfl (fun hc102 => ?_) (fun hc102 => ?_)
             ·
              refine J.seq ?_
              refine J.reg ?_
              refine WL.rd (RD.assign rfl) rfl rfl ?_
              refine WL.nil ?_
              refine JE.seqN ?_
              refine J.ret ?_
              refine JE.ret rfl (.tmp rfl .nil) (fun w hS => ?_)
              first | exact CS.fin hS rfl | (exfalso; omega) | exact CS.fin hS (by simp_all [mkRes])
             ·
              refine J.skip ?_
              refine JE.seqN ?_
              refine J.seq ?_
              refine J.seq ?_
              refine J.reg ?_
              refine WL.rd (RD.move rfl) rfl rfl ?_
              refine WL.rd (RD.move rfl) rfl rfl ?_
              refine WL.rd (RD.neq rfl rfl) rfl rfl ?_
              refine WL.nil ?_
              refine JE.seqN ?_
              refine J.condP rfl (fun hc105 => ?_) (fun hc105 => ?_)
              ·
               refine J.seq ?_
               refine J.reg ?_
               refine WL.rd (RD.assign rfl) rfl rfl ?_
               refine WL.nil ?_
               refine JE.seqN ?_
               refine J.ret ?_
               refine JE.ret rfl (.tmp rfl .nil) (fun w hS => ?_)
               first | exact CS.fin hS rfl | (exfalso; omega) | exact CS.fin hS (by simp_all [mkRes])
              ·
               refine J.skip ?_
               refine JE.seqN ?_
               refine J.seq ?_
               refine J.anyAll [12, 13] ?_
               refine WA.take 0 rfl (RD.loadA rfl rfl) rfl (by kernel_rfl) rfl ?_
               refine WA.takeP 2 rfl (RDP.of fun _ => RD.move rfl) rfl (by kernel_rfl) rfl ?_
               refine WA.takeP 3 rfl (RDP.of fun _ => RD.move rfl) rfl (by kernel_rfl) rfl ?_
               refine WA.take 4 rfl (RD.loadA rfl rfl) rfl (by kernel_rfl) rfl ?_
               refine WA.takeP 6 rfl (RDP.of fun _ => RD.move rfl) rfl (by kernel_rfl) rfl ?_
               refine WA.two (i := 1) (j := 11) (by kernel_rfl) ?_ ?_
               ·
                refine WAi.efS rfl (EF.callN (.cons rfl .nil) (fun w hS => toGraph_c _ _ _ _ (by exact RdI.rd hS) (by omega))) rfl rfl (fun _ => by repeat (first | exact subM_refl _ | refine subM_app _ ?_ | refine subM_con _ ?_)) ?_
                rintro v108 -
                refine WA.two (i := 5) (j := 11) (by kernel_rfl) ?_ ?_
                ·
                 refine WAi.efS rfl (EF.callN (.cons rfl .nil) (fun w hS => toPebbles_c _ _ _ _ _ _ _ (by exact RdI.rd hS) (by exact RdI.rd hS) (by exact RdI.rd hS) (by omega) (by omega) (by omega))) rfl rfl (fun _ => by repeat (first | exact subM_refl _ | refine subM_app _ ?_ | refine subM_con _ ?_)) ?_
                 rintro ⟨f112, t112, p112⟩ -
                 refine WA.two (i := 7) (j := 11) (by kernel_rfl) ?_ ?_
                 ·
                  refine WAi.efS rfl (EF.callN (.cons rfl (.cons rfl (.cons rfl (.cons rfl (.cons rfl .nil))))) (fun w hS => iPlaceBar_c _ _ _ _ _ _ _ _ _ _ _ _ _ (by exact RdI.rd hS) (by exact RdI.rd hS) (by exact RdI.rd hS) (by exact RdI.rd hS) (by assumption) (by omega) (by omega) (by omega) (by omega) (by first | assumption | omega))) rfl rfl (fun _ => by repeat (first | exact subM_refl _ | refine subM_app _ ?_ | refine subM_con _ ?_)) ?_
                  rintro ⟨f114, t114, p114⟩ -
                  refine WA.takeP 8 rfl (RDP.of fun _ => RD.move rfl) rfl (by kernel_rfl) rfl ?_
                  refine WA.takeP 9 rfl (RDP.of fun _ => RD.extract rfl rfl) rfl (by kernel_rfl) rfl ?_
                  refine WA.takeP 10 rfl (RDP.of fun _ => RD.extract rfl rfl) rfl (by kernel_rfl) rfl ?_
                  refine WA.one (i := 11) (by kernel_rfl) ?_
                  refine WAi.efS rfl (by exact EF.allocA) rfl rfl (fun _ => by repeat (first | exact subM_refl _ | refine subM_app _ ?_ | refine subM_con _ ?_)) ?_
                  intro b21 _
                  refine WA.one (i := 12) (by kernel_rfl) ?_
                  refine WAi.efNL rfl (EF.storeA rfl rfl rfl rfl) rfl rfl ?_
                  rintro ⟨⟩ -
                  refine WB.takeP 13 rfl (RDP.of fun _ => RD.assign rfl) rfl (by kernel_rfl) rfl ?_
                  refine WB.done (by kernel_rfl) ?_
                  refine JE.seqN ?_
                  refine J.seq ?_
                  refine J.seq ?_
                  refine J.reg ?_
                  refine WL.rd (RD.loadA rfl rfl) rfl rfl ?_
                  refine WL.rd (RD.loadA rfl rfl) rfl rfl ?_
                  refine WL.efS (EF.callS (.cons rfl (.cons rfl .nil)) (fun w hS => eqPebbles_c _ _ _ _ _ _ _ _ _ _ _ _ _ (by exact RdI.rd hS) (by exact RdI.rd hS) (by exact RdI.rd hS) (by exact RdI.rd hS) (by exact RdI.rd hS) (by exact RdI.rd hS))) rfl rfl ?_
                  rintro ⟨⟩ -
                  refine WL.rd (RD.notP rfl) rfl rfl ?_
                  refine WL.rd (RD.move rfl) rfl rfl ?_
                  refine WL.caseP 121 rfl (fun hg121 => ?_) (fun hg121 => ?_)
                  ·
                   refine WL.noS rfl rfl ?_
                   refine WL.noS rfl rfl ?_
                   refine WL.noS rfl rfl ?_
                   refine WL.rd (RD.pickT rfl rfl) rfl rfl ?_
                   refine WL.nil ?_
                   refine JE.seqN ?_
                   refine J.condT rfl ?_
                   refine J.seq ?_
                   refine J.reg ?_
                   refine WL.rd (RD.assign rfl) rfl rfl ?_
                   refine WL.nil ?_
                   refine JE.seqN ?_
                   refine J.ret ?_
                   refine JE.ret rfl (.tmp rfl .nil) (fun w hS => ?_)
                   first | exact CS.fin hS rfl | (exfalso; omega) | exact CS.fin hS (by simp_all)
                  ·
                   refine WL.rd (RD.move rfl) rfl rfl ?_
                   refine WL.rd (RD.move rfl) rfl rfl ?_
                   refine WL.rd (RD.neqB rfl rfl) rfl rfl ?_
                   refine WL.rd (RD.pickF rfl rfl) rfl rfl ?_
                   refine WL.nil ?_
                   refine JE.seqN ?_
                   refine J.cond rfl (fun hc125 => ?_) (fun hc125 => ?_)
                   ·
                    refine J.seq ?_
                    refine J.reg ?_
                    refine WL.rd (RD.assign rfl) rfl rfl ?_
                    refine WL.nil ?_
                    refine JE.seqN ?_
                    refine J.ret ?_
                    refine JE.ret rfl (.tmp rfl .nil) (fun w hS => ?_)
                    first | exact CS.fin hS rfl | (exfalso; omega) | exact CS.fin hS (by simp_all)
                   ·
                    refine J.skip ?_
                    refine JE.seqN ?_
                    refine J.seq ?_
                    refine J.reg ?_
                    refine WL.rd (RD.assign rfl) rfl rfl ?_
                    refine WL.nil ?_
                    refine JE.seqN ?_
                    refine J.seq ?_
                    refine J.reg ?_
                    refine WL.rd (RD.loadA rfl rfl) rfl rfl ?_
                    refine WL.rd (RD.move rfl) rfl rfl ?_
                    refine WL.efS (EF.callS (.cons rfl (.cons rfl .nil)) (fun w hS => heldPebbles_c _ _ _ _ _ _ _ _ (by exact RdI.rd hS) (by exact RdI.rd hS) (by exact RdI.rd hS) (by omega) (by omega) (by omega) (by omega))) rfl rfl ?_
                    rintro ⟨⟩ -
                    refine WL.rd (RD.assign rfl) rfl rfl ?_
                    refine WL.nil ?_
                    refine JE.seqN ?_
                    refine J.seq ?_
                    refine J.seq ?_
                    refine J.reg ?_
                    refine WL.rd (RD.move rfl) rfl rfl ?_
                    refine WL.rd (RD.lss rfl rfl) rfl rfl ?_
                    refine WL.nil ?_
                    refine JE.seqN ?_
                    refine J.condP rfl (fun hc130 => ?_) (fun hc130 => ?_)
                    ·
                     refine J.seq ?_
                     refine J.reg ?_
                     refine WL.rd (RD.assign rfl) rfl rfl ?_
                     refine WL.nil ?_
                     refine JE.seqN ?_
                     refine J.ret ?_
                     refine JE.ret rfl (.tmp rfl .nil) (fun w hS => ?_)
                     first | exact CS.fin hS rfl | (exfalso; omega) | exact CS.fin hS (by simp_all [mkRes])
                    ·
                     refine J.skip ?_
                     refine JE.seqN ?_
                     refine J.seq ?_
                     refine J.seq ?_
                     refine J.reg ?_
                     refine WL.rd (RD.move rfl) rfl rfl ?_
                     refine WL.rd (RD.move rfl) rfl rfl ?_
                     refine WL.rd (RD.neq rfl rfl) rfl rfl ?_
                     refine WL.nil ?_
                     refine JE.seqN ?_
                     refine J.condP rfl (fun hc133 => ?_) (fun hc133 => ?_)
                     ·
                      refine J.seq ?_
                      refine J.reg ?_
                      refine WL.rd (RD.assign rfl) rfl rfl ?_
                      refine WL.nil ?_
                      refine JE.seqN ?_
                      refine J.ret ?_
                      refine JE.ret rfl (.tmp rfl .nil) (fun w hS => ?_)
                      first | exact CS.fin hS rfl | (exfalso; omega) | exact CS.fin hS (by simp_all [mkRes])
                     ·
                      refine J.skip ?_
                      refine JE.seqN ?_
                      refine J.seq ?_
                      refine J.reg ?_
                      refine WL.rd (RD.assign rfl) rfl rfl ?_
                      refine WL.nil ?_
                      refine JE.seqN ?_
                      refine J.ret ?_
                      refine JE.ret rfl (.tmp rfl .nil) (fun w hS => ?_)
                      first | exact CS.fin hS rfl | (exfalso; omega) | exact CS.fin hS (by simp_all [mkRes])
                 ·
                  refine WAi.efS rfl (by exact EF.allocA) rfl rfl (fun _ => by repeat (first | exact subM_refl _ | refine subM_app _ ?_ | refine subM_con _ ?_)) ?_
                  intro b21 _
                  refine WA.one (i := 7) (by kernel_rfl) ?_
                  refine WAi.efS rfl (EF.callN (.cons rfl (.cons rfl (.cons rfl (.cons rfl (.cons rfl .nil))))) (fun w hS => iPlaceBar_c _ _ _ _ _ _ _ _ _ _ _ _ _ (by exact RdI.rd hS) (by exact RdI.rd hS) (by exact RdI.rd hS) (by exact RdI.rd hS) (by assumption) (by omega) (by omega) (by omega) (by omega) (by first | assumption | omega))) rfl rfl (fun _ => by repeat (first | exact subM_refl _ | refine subM_app _ ?_ | refine subM_con _ ?_)) ?_
                  rintro ⟨f114, t114, p114⟩ -
                  refine WA.takeP 8 rfl (RDP.of fun _ => RD.move rfl) rfl (by kernel_rfl) rfl ?_
                  refine WA.takeP 9 rfl (RDP.of fun _ => RD.extract rfl rfl) rfl (by kernel_rfl) rfl ?_
                  refine WA.takeP 10 rfl (RDP.of fun _ => RD.extract rfl rfl) rfl (by kernel_rfl) rfl ?_
                  refine WA.one (i := 12) (by kernel_rfl) ?_
                  refine WAi.efNL rfl (EF.storeA rfl rfl rfl rfl) rfl rfl ?_
                  rintro ⟨⟩ -
                  refine WB.takeP 13 rfl (RDP.of fun _ => RD.assign rfl) rfl (by kernel_rfl) rfl ?_
                  refine WB.done (by kernel_rfl) ?_
                  refine JE.seqN ?_
                  refine J.seq ?_
                  refine J.seq ?_
                  refine J.reg ?_
                  refine WL.rd (RD.loadA rfl rfl) rfl rfl ?_
                  refine WL.rd (RD.loadA rfl rfl) rfl rfl ?_
                  refine WL.efS (EF.callS (.cons rfl (.cons rfl .nil)) (fun w hS => eqPebbles_c _ _ _ _ _ _ _ _ _ _ _ _ _ (by exact RdI.rd hS) (by exact RdI.rd hS) (by exact RdI.rd hS) (by exact RdI.rd hS) (by exact RdI.rd hS) (by exact RdI.rd hS))) rfl rfl ?_
                  rintro ⟨⟩ -
                  refine WL.rd (RD.notP rfl) rfl rfl ?_
                  refine WL.rd (RD.move rfl) rfl rfl ?_
                  refine WL.caseP 121 rfl (fun hg121 => ?_) (fun hg121 => ?_)
                  ·
                   refine WL.noS rfl rfl ?_
                   refine WL.noS rfl rfl ?_
                   refine WL.noS rfl rfl ?_
                   refine WL.rd (RD.pickT rfl rfl) rfl rfl ?_
                   refine WL.nil ?_
                   refine JE.seqN ?_
                   refine J.condT rfl ?_
                   refine J.seq ?_
                   refine J.reg ?_
                   refine WL.rd (RD.assign rfl) rfl rfl ?_
                   refine WL.nil ?_
                   refine JE.seqN ?_
                   refine J.ret ?_
                   refine JE.ret rfl (.tmp rfl .nil) (fun w hS => ?_)
                   first | exact CS.fin hS rfl | (exfalso; omega) | exact CS.fin hS (by simp_all)
                  ·
                   refine WL.rd (RD.move rfl) rfl rfl ?_
                   refine WL.rd (RD.move rfl) rfl rfl ?_
                   refine WL.rd (RD.neqB rfl rfl) rfl rfl ?_
                   refine WL.rd (RD.pickF rfl rfl) rfl rfl ?_
                   refine WL.nil ?_
                   refine JE.seqN ?_
                   refine J.cond rfl (fun hc125 => ?_) (fun hc125 => ?_)
                   ·
                    refine J.seq ?_
                    refine J.reg ?_
                    refine WL.rd (RD.assign rfl) rfl rfl ?_
                    refine WL.nil ?_
                    refine JE.seqN ?_
                    refine J.ret ?_
                    refine JE.ret rfl (.tmp rfl .nil) (fun w hS => ?_)
                    first | exact CS.fin hS rfl | (exfalso; omega) | exact CS.fin hS (by simp_all)
                   ·
                    refine J.skip ?_
                    refine JE.seqN ?_
                    refine J.seq ?_
                    refine J.reg ?_
                    refine WL.rd (RD.assign rfl) rfl rfl ?_
                    refine WL.nil ?_
                    refine JE.seqN ?_
                    refine J.seq ?_
                    refine J.reg ?_
                    refine WL.rd (RD.loadA rfl rfl) rfl rfl ?_
                    refine WL.rd (RD.move rfl) rfl rfl ?_
                    refine WL.efS (EF.callS (.cons rfl (.cons rfl .nil)) (fun w hS => heldPebbles_c _ _ _ _ _ _ _ _ (by exact RdI.rd hS) (by exact RdI.rd hS) (by exact RdI.rd hS) (by omega) (by omega) (by omega) (by omega))) rfl rfl ?_
                    rintro ⟨⟩ -
                    refine WL.rd (RD.assign rfl) rfl rfl ?_
                    refine WL.nil ?_
                    refine JE.seqN ?_
                    refine J.seq ?_
                    refine J.seq ?_
                    refine J.reg ?_
                    refine WL.rd (RD.move rfl) rfl rfl ?_
                    refine WL.rd (RD.lss rfl rfl) rfl rfl ?_
                    refine WL.nil ?_
                    refine JE.seqN ?_
                    refine J.condP rfl (fun hc130 => ?_) (fun hc130 => ?_)
                    ·
                     refine J.seq ?_
                     refine J.reg ?_
                     refine WL.rd (RD.assign rfl) rfl rfl ?_
                     refine WL.nil ?_
                     refine JE.seqN ?_
                     refine J.ret ?_
                     refine JE.ret rfl (.tmp rfl .nil) (fun w hS => ?_)
                     first | exact CS.fin hS rfl | (exfalso; omega) | exact CS.fin hS (by simp_all [mkRes])
                    ·
                     refine J.skip ?_
                     refine JE.seqN ?_
                     refine J.seq ?_
                     refine J.seq ?_
                     refine J.reg ?_
                     refine WL.rd (RD.move rfl) rfl rfl ?_
                     refine WL.rd (RD.move rfl) rfl rfl ?_
                     refine WL.rd (RD.neq rfl rfl) rfl rfl ?_
                     refine WL.nil ?_
                     refine JE.seqN ?_
                     refine J.condP rfl (fun hc133 => ?_) (fun hc133 => ?_)
                     ·
                      refine J.seq ?_
                      refine J.reg ?_
                      refine WL.rd (RD.assign rfl) rfl rfl ?_
                      refine WL.nil ?_
                      refine JE.seqN ?_
                      refine J.ret ?_
                      refine JE.ret rfl (.tmp rfl .nil) (fun w hS => ?_)
                      first | exact CS.fin hS rfl | (exfalso; omega) | exact CS.fin hS (by simp_all [mkRes])
                     ·
                      refine J.skip ?_
                      refine JE.seqN ?_
                      refine J.seq ?_
                      refine J.reg ?_
                      refine WL.rd (RD.assign rfl) rfl rfl ?_
                      refine WL.nil ?_
                      refine JE.seqN ?_
                      refine J.ret ?_
                      refine JE.ret rfl (.tmp rfl .nil) (fun w hS => ?_)
                      first | exact CS.fin hS rfl | (exfalso; omega) | exact CS.fin hS (by simp_all [mkRes])
                ·
                 refine WAi.efS rfl (by exact EF.allocA) rfl rfl (fun _ => by repeat (first | exact subM_refl _ | refine subM_app _ ?_ | refine subM_con _ ?_)) ?_
                 intro b21 _
                 refine WA.one (i := 5) (by kernel_rfl) ?_
                 refine WAi.efS rfl (EF.callN (.cons rfl .nil) (fun w hS => toPebbles_c _ _ _ _ _ _ _ (by exact RdI.rd hS) (by exact RdI.rd hS) (by exact RdI.rd hS) (by omega) (by omega) (by omega))) rfl rfl (fun _ => by repeat (first | exact subM_refl _ | refine subM_app _ ?_ | refine subM_con _ ?_)) ?_
                 rintro ⟨f112, t112, p112⟩ -
                 refine WA.one (i := 7) (by kernel_rfl) ?_
                 refine WAi.efS rfl (EF.callN (.cons rfl (.cons rfl (.cons rfl (.cons rfl (.cons rfl .nil))))) (fun w hS => iPlaceBar_c _ _ _ _ _ _ _ _ _ _ _ _ _ (by exact RdI.rd hS) (by exact RdI.rd hS) (by exact RdI.rd hS) (by exact RdI.rd hS) (by assumption) (by omega) (by omega) (by omega) (by omega) (by first | assumption | omega))) rfl rfl (fun _ => by repeat (first | exact subM_refl _ | refine subM_app _ ?_ | refine subM_con _ ?_)) ?_
                 rintro ⟨f114, t114, p114⟩ -
                 refine WA.takeP 8 rfl (RDP.of fun _ => RD.move rfl) rfl (by kernel_rfl) rfl ?_
                 refine WA.takeP 9 rfl (RDP.of fun _ => RD.extract rfl rfl) rfl (by kernel_rfl) rfl ?_
                 refine WA.takeP 10 rfl (RDP.of fun _ => RD.extract rfl rfl) rfl (by kernel_rfl) rfl ?_
                 refine WA.one (i := 12) (by kernel_rfl) ?_
                 refine WAi.efNL rfl (EF.storeA rfl rfl rfl rfl) rfl rfl ?_
                 rintro ⟨⟩ -
                 refine WB.takeP 13 rfl (RDP.of fun _ => RD.assign rfl) rfl (by kernel_rfl) rfl ?_
                 refine WB.done (by kernel_rfl) ?_
                 refine JE.seqN ?_
                 refine J.seq ?_
                 refine J.seq ?_
                 refine J.reg ?_
                 refine WL.rd (RD.loadA rfl rfl) rfl rfl ?_
                 refine WL.rd (RD.loadA rfl rfl) rfl rfl ?_
                 refine WL.efS (EF.callS (.cons rfl (.cons rfl .nil)) (fun w hS => eqPebbles_c _ _ _ _ _ _ _ _ _ _ _ _ _ (by exact RdI.rd hS) (by exact RdI.rd hS) (by exact RdI.rd hS) (by exact RdI.rd hS) (by exact RdI.rd hS) (by exact RdI.rd hS))) rfl rfl ?_
                 rintro ⟨⟩ -
                 refine WL.rd (RD.notP rfl) rfl rfl ?_
                 refine WL.rd (RD.move rfl) rfl rfl ?_
                 refine WL.caseP 121 rfl (fun hg121 => ?_) (fun hg121 => ?_)
                 ·
                  refine WL.noS rfl rfl ?_
                  refine WL.noS rfl rfl ?_
                  refine WL.noS rfl rfl ?_
                  refine WL.rd (RD.pickT rfl rfl) rfl rfl ?_
                  refine WL.nil ?_
                  refine JE.seqN ?_
                  refine J.condT rfl ?_
                  refine J.seq ?_
                  refine J.reg ?_
                  refine WL.rd (RD.assign rfl) rfl rfl ?_
                  refine WL.nil ?_
                  refine JE.seqN ?_
                  refine J.ret ?_
                  refine JE.ret rfl (.tmp rfl .nil) (fun w hS => ?_)
                  first | exact CS.fin hS rfl | (exfalso; omega) | exact CS.fin hS (by simp_all)
                 ·
                  refine WL.rd (RD.move rfl) rfl rfl ?_
                  refine WL.rd (RD.move rfl) rfl rfl ?_
                  refine WL.rd (RD.neqB rfl rfl) rfl rfl ?_
                  refine WL.rd (RD.pickF rfl rfl) rfl rfl ?_
                  refine WL.nil ?_
                  refine JE.seqN ?_
                  refine J.cond rfl (fun hc125 => ?_) (fun hc125 => ?_)
                  ·
                   refine J.seq ?_
                   refine J.reg ?_
                   refine WL.rd (RD.assign rfl) rfl rfl ?_
                   refine WL.nil ?_
                   refine JE.seqN ?_
                   refine J.ret ?_
                   refine JE.ret rfl (.tmp rfl .nil) (fun w hS => ?_)
                   first | exact CS.fin hS rfl | (exfalso; omega) | exact CS.fin hS (by simp_all)
                  ·
                   refine J.skip ?_
                   refine JE.seqN ?_
                   refine J.seq ?_
                   refine J.reg ?_
                   refine WL.rd (RD.assign rfl) rfl rfl ?_
                   refine WL.nil ?_
                   refine JE.seqN ?_
                   refine J.seq ?_
                   refine J.reg ?_
                   refine WL.rd (RD.loadA rfl rfl) rfl rfl ?_
                   refine WL.rd (RD.move rfl) rfl rfl ?_
                   refine WL.efS (EF.callS (.cons rfl (.cons rfl .nil)) (fun w hS => heldPebbles_c _ _ _ _ _ _ _ _ (by exact RdI.rd hS) (by exact RdI.rd hS) (by exact RdI.rd hS) (by omega) (by omega) (by omega) (by omega))) rfl rfl ?_
                   rintro ⟨⟩ -
                   refine WL.rd (RD.assign rfl) rfl rfl ?_
                   refine WL.nil ?_
                   refine JE.seqN ?_
                   refine J.seq ?_
                   refine J.seq ?_
                   refine J.reg ?_
                   refine WL.rd (RD.move rfl) rfl rfl ?_
                   refine WL.rd (RD.lss rfl rfl) rfl rfl ?_
                   refine WL.nil ?_
                   refine JE.seqN ?_
                   refine J.condP rfl (fun hc130 => ?_) (fun hc130 => ?_)
                   ·
                    refine J.seq ?_
                    refine J.reg ?_
                    refine WL.rd (RD.assign rfl) rfl rfl ?_
                    refine WL.nil ?_
                    refine JE.seqN ?_
                    refine J.ret ?_
                    refine JE.ret rfl (.tmp rfl .nil) (fun w hS => ?_)
                    first | exact CS.fin hS rfl | (exfalso; omega) | exact CS.fin hS (by simp_all [mkRes])
                   ·
                    refine J.skip ?_
                    refine JE.seqN ?_
                    refine J.seq ?_
                    refine J.seq ?_
                    refine J.reg ?_
                    refine WL.rd (RD.move rfl) rfl rfl ?_
                    refine WL.rd (RD.move rfl) rfl rfl ?_
                    refine WL.rd (RD.neq rfl rfl) rfl rfl ?_
                    refine WL.nil ?_
                    refine JE.seqN ?_
                    refine J.condP rfl (fun hc133 => ?_) (fun hc133 => ?_)
                    ·
                     refine J.seq ?_
                     refine J.reg ?_
                     refine WL.rd (RD.assign rfl) rfl rfl ?_
                     refine WL.nil ?_
                     refine JE.seqN ?_
                     refine J.ret ?_
                     refine JE.ret rfl (.tmp rfl .nil) (fun w hS => ?_)
                     first | exact CS.fin hS rfl | (exfalso; omega) | exact CS.fin hS (by simp_all [mkRes])
                    ·
                     refine J.skip ?_
                     refine JE.seqN ?_
                     refine J.seq ?_
                     refine J.reg ?_
                     refine WL.rd (RD.assign rfl) rfl rfl ?_
                     refine WL.nil ?_
                     refine JE.seqN ?_
                     refine J.ret ?_
                     refine JE.ret rfl (.tmp rfl .nil) (fun w hS => ?_)
                     first | exact CS.fin hS rfl | (exfalso; omega) | exact CS.fin hS (by simp_all [mkRes])
               ·
                refine WAi.efS rfl (by exact EF.allocA) rfl rfl (fun _ => by repeat (first | exact subM_refl _ | refine subM_app _ ?_ | refine subM_con _ ?_)) ?_
                intro b21 _
                refine WA.one (i := 1) (by kernel_rfl) ?_
                refine WAi.efS rfl (EF.callN (.cons rfl .nil) (fun w hS => toGraph_c _ _ _ _ (by exact RdI.rd hS) (by omega))) rfl rfl (fun _ => by repeat (first | exact subM_refl _ | refine subM_app _ ?_ | refine subM_con _ ?_)) ?_
                rintro v108 -
                refine WA.one (i := 5) (by kernel_rfl) ?_
                refine WAi.efS rfl (EF.callN (.cons rfl .nil) (fun w hS => toPebbles_c _ _ _ _ _ _ _ (by exact RdI.rd hS) (by exact RdI.rd hS) (by exact RdI.rd hS) (by omega) (by omega) (by omega))) rfl rfl (fun _ => by repeat (first | exact subM_refl _ | refine subM_app _ ?_ | refine subM_con _ ?_)) ?_
                rintro ⟨f112, t112, p112⟩ -
                refine WA.one (i := 7) (by kernel_rfl) ?_
                refine WAi.efS rfl (EF.callN (.cons rfl (.cons rfl (.cons rfl (.cons rfl (.cons rfl .nil))))) (fun w hS => iPlaceBar_c _ _ _ _ _ _ _ _ _ _ _ _ _ (by exact RdI.rd hS) (by exact RdI.rd hS) (by exact RdI.rd hS) (by exact RdI.rd hS) (by assumption) (by omega) (by omega) (by omega) (by omega) (by first | assumption | omega))) rfl rfl (fun _ => by repeat (first | exact subM_refl _ | refine subM_app _ ?_ | refine subM_con _ ?_)) ?_
                rintro ⟨f114, t114, p114⟩ -
                refine WA.takeP 8 rfl (RDP.of fun _ => RD.move rfl) rfl (by kernel_rfl) rfl ?_
                refine WA.takeP 9 rfl (RDP.of fun _ => RD.extract rfl rfl) rfl (by kernel_rfl) rfl ?_
                refine WA.takeP 10 rfl (RDP.of fun _ => RD.extract rfl rfl) rfl (by kernel_rfl) rfl ?_
                refine WA.one (i := 12) (by kernel_rfl) ?_
                refine WAi.efNL rfl (EF.storeA rfl rfl rfl rfl) rfl rfl ?_
                rintro ⟨⟩ -
                refine WB.takeP 13 rfl (RDP.of fun _ => RD.assign rfl) rfl (by kernel_rfl) rfl ?_
                refine WB.done (by kernel_rfl) ?_
                refine JE.seqN ?_
                refine J.seq ?_
                refine J.seq ?_
                refine J.reg ?_
                refine WL.rd (RD.loadA rfl rfl) rfl rfl ?_
                refine WL.rd (RD.loadA rfl rfl) rfl rfl ?_
                refine WL.efS (EF.callS (.cons rfl (.cons rfl .nil)) (fun w hS => eqPebbles_c _ _ _ _ _ _ _ _ _ _ _ _ _ (by exact RdI.rd hS) (by exact RdI.rd hS) (by exact RdI.rd hS) (by exact RdI.rd hS) (by exact RdI.rd hS) (by exact RdI.rd hS))) rfl rfl ?_
                rintro ⟨⟩ -
                refine WL.rd (RD.notP rfl) rfl rfl ?_
                refine WL.rd (RD.move rfl) rfl rfl ?_
                refine WL.caseP 121 rfl (fun hg121 => ?_) (fun hg121 => ?_)
                ·
                 refine WL.noS rfl rfl ?_
                 refine WL.noS rfl rfl ?_
                 refine WL.noS rfl rfl ?_
                 refine WL.rd (RD.pickT rfl rfl) rfl rfl ?_
                 refine WL.nil ?_
                 refine JE.seqN ?_
                 refine J.condT rfl ?_
                 refine J.seq ?_
                 refine J.reg ?_
                 refine WL.rd (RD.assign rfl) rfl rfl ?_
                 refine WL.nil ?_
                 refine JE.seqN ?_
                 refine J.ret ?_
                 refine JE.ret rfl (.tmp rfl .nil) (fun w hS => ?_)
                 first | exact CS.fin hS rfl | (exfalso; omega) | exact CS.fin hS (by simp_all)
                ·
                 refine WL.rd (RD.move rfl) rfl rfl ?_
                 refine WL.rd (RD.move rfl) rfl rfl ?_
                 refine WL.rd (RD.neqB rfl rfl) rfl rfl ?_
                 refine WL.rd (RD.pickF rfl rfl) rfl rfl ?_
                 refine WL.nil ?_
                 refine JE.seqN ?_
                 refine J.cond rfl (fun hc125 => ?_) (fun hc125 => ?_)
                 ·
                  refine J.seq ?_
                  refine J.reg ?_
                  refine WL.rd (RD.assign rfl) rfl rfl ?_
                  refine WL.nil ?_
                  refine JE.seqN ?_
                  refine J.ret ?_
                  refine JE.ret rfl (.tmp rfl .nil) (fun w hS => ?_)
                  first | exact CS.fin hS rfl | (exfalso; omega) | exact CS.fin hS (by simp_all)
                 ·
                  refine J.skip ?_
                  refine JE.seqN ?_
                  refine J.seq ?_
                  refine J.reg ?_
                  refine WL.rd (RD.assign rfl) rfl rfl ?_
                  refine WL.nil ?_
                  refine JE.seqN ?_
                  refine J.seq ?_
                  refine J.reg ?_
                  refine WL.rd (RD.loadA rfl rfl) rfl rfl ?_
                  refine WL.rd (RD.move rfl) rfl rfl ?_
                  refine WL.efS (EF.callS (.cons rfl (.cons rfl .nil)) (fun w hS => heldPebbles_c _ _ _ _ _ _ _ _ (by exact RdI.rd hS) (by exact RdI.rd hS) (by exact RdI.rd hS) (by omega) (by omega) (by omega) (by omega))) rfl rfl ?_
                  rintro ⟨⟩ -
                  refine WL.rd (RD.assign rfl) rfl rfl ?_
                  refine WL.nil ?_
                  refine JE.seqN ?_
                  refine J.seq ?_
                  refine J.seq ?_
                  refine J.reg ?_
                  refine WL.rd (RD.move rfl) rfl rfl ?_
                  refine WL.rd (RD.lss rfl rfl) rfl rfl ?_
                  refine WL.nil ?_
                  refine JE.seqN ?_
                  refine J.condP rfl (fun hc130 => ?_) (fun hc130 => ?_)
                  ·
                   refine J.seq ?_
                   refine J.reg ?_
                   refine WL.rd (RD.assign rfl) rfl rfl ?_
                   refine WL.nil ?_
                   refine JE.seqN ?_
                   refine J.ret ?_
                   refine JE.ret rfl (.tmp rfl .nil) (fun w hS => ?_)
                   first | exact CS.fin hS rfl | (exfalso; omega) | exact CS.fin hS (by simp_all [mkRes])
                  ·
                   refine J.skip ?_
                   refine JE.seqN ?_
                   refine J.seq ?_
                   refine J.seq ?_
                   refine J.reg ?_
                   refine WL.rd (RD.move rfl) rfl rfl ?_
                   refine WL.rd (RD.move rfl) rfl rfl ?_
                   refine WL.rd (RD.neq rfl rfl) rfl rfl ?_
                   refine WL.nil ?_
                   refine JE.seqN ?_
                   refine J.condP rfl (fun hc133 => ?_) (fun hc133 => ?_)
                   ·
                    refine J.seq ?_
                    refine J.reg ?_
                    refine WL.rd (RD.assign rfl) rfl rfl ?_
                    refine WL.nil ?_
                    refine JE.seqN ?_
                    refine J.ret ?_
                    refine JE.ret rfl (.tmp rfl .nil) (fun w hS => ?_)
                    first | exact CS.fin hS rfl | (exfalso; omega) | exact CS.fin hS (by simp_all [mkRes])
                   ·
                    refine J.skip ?_
                    refine JE.seqN ?_
                    refine J.seq ?_
                    refine J.reg ?_
                    refine WL.rd (RD.assign rfl) rfl rfl ?_
                    refine WL.nil ?_
                    refine JE.seqN ?_
                    refine J.ret ?_
                    refine JE.ret rfl (.tmp rfl .nil) (fun w hS => ?_)
                    first | exact CS.fin hS rfl | (exfalso; omega) | exact CS.fin hS (by simp_all [mkRes])
     ·
      refine WAi.efS rfl (by exact EF.allocA) rfl rfl (fun _ => by repeat (first | exact subM_refl _ | refine subM_app _ ?_ | refine subM_con _ ?_)) ?_
      intro b12 _
      refine WA.one (i := 7) (by kernel_rfl) ?_
      refine WAi.efS rfl (EF.callN (.cons rfl (.cons rfl (.cons rfl (.cons rfl (.cons rfl .nil))))) (fun w hS => sPlaceBar_c _ _ _ _ _ _ _ _ _ _ _ _ _ (by exact RdI.rd hS) (by exact RdI.rd hS) (by exact RdI.rd hS) (by exact RdI.rd hS) (by assumption) (by omega) (by omega) (by omega) (by omega) (by first | assumption | omega))) rfl rfl (fun _ => by repeat (first | exact subM_refl _ | refine subM_app _ ?_ | refine subM_con _ ?_)) ?_
      rintro ⟨f41, t41, p41⟩ -
      refine WA.takeP 8 rfl (RDP.of fun _ => RD.move rfl) rfl (by kernel_rfl) rfl ?_
      refine WA.takeP 9 rfl (RDP.of fun _ => RD.extract rfl rfl) rfl (by kernel_rfl) rfl ?_
      refine WA.takeP 10 rfl (RDP.of fun _ => RD.extract rfl rfl) rfl (by kernel_rfl) rfl ?_
      refine WA.one (i := 12) (by kernel_rfl) ?_
      refine WAi.efNL rfl (EF.storeA rfl rfl rfl rfl) rfl rfl ?_
      rintro ⟨⟩ -
      refine WB.takeP 13 rfl (RDP.of fun _ => RD.assign rfl) rfl (by kernel_rfl) rfl ?_
      refine WB.done (by kernel_rfl) ?_
      refine JE.seqN ?_
      refine J.seq ?_
      refine J.reg ?_
      refine WL.rd (RD.loadA rfl rfl) rfl rfl ?_
      refine WL.efS (EF.callN (.cons rfl .nil) (fun w hS => toGraph_c _ _ _ _ (by exact RdI.rd hS) (by omega))) rfl rfl ?_
      rintro v45 -
      refine WL.efS (EF.allocA) rfl rfl ?_
      intro b14 _
      refine WL.efN (EF.storeA rfl rfl rfl rfl) rfl ?_
      rintro ⟨⟩ -
      refine WL.nil ?_
      refine JE.seqN ?_
      refine J.seq ?_
      refine J.reg ?_
      refine WL.rd (RD.loadA rfl rfl) rfl rfl ?_
      refine WL.efS (EF.callN (.cons rfl .nil) (fun w hS => toPebbles_c _ _ _ _ _ _ _ (by exact RdI.rd hS) (by exact RdI.rd hS) (by exact RdI.rd hS) (by omega) (by omega) (by omega))) rfl rfl ?_
      rintro ⟨f47, t47, p47⟩ -
      refine WL.efS (EF.allocA) rfl rfl ?_
      intro b15 _
      refine WL.efN (EF.storeA rfl rfl rfl rfl) rfl ?_
      rintro ⟨⟩ -
      refine WL.nil ?_
      refine JE.seqN ?_
      refine J.seq ?_
      refine J.reg ?_
      refine WL.rd (RD.loadA rfl rfl) rfl rfl ?_
      refine WL.rd (RD.move rfl) rfl rfl ?_
      refine WL.rd (RD.move rfl) rfl rfl ?_
      refine WL.rd (RD.loadA rfl rfl) rfl rfl ?_
      refine WL.rd (RD.move rfl) rfl rfl ?_
      refine WL.efS (EF.callN (.cons rfl (.cons rfl (.cons rfl (.cons rfl (.cons rfl .nil))))) (fun w hS => iPlaceBar_c _ _ _ _ _ _ _ _ _ _ _ _ _ (by exact RdI.rd hS) (by exact RdI.rd hS) (by exact RdI.rd hS) (by exact RdI.rd hS) (by assumption) (by omega) (by omega) (by omega) (by omega) (by first | assumption | omega))) rfl rfl ?_
      rintro ⟨f54, t54, p54⟩ -
      refine WL.rd (RD.move rfl) rfl rfl ?_
      refine WL.rd (RD.extract rfl rfl) rfl rfl ?_
      refine WL.rd (RD.extract rfl rfl) rfl rfl ?_
      refine WL.efS (EF.allocA) rfl rfl ?_
      intro b16 _
      refine WL.efN (EF.storeA rfl rfl rfl rfl) rfl ?_
      rintro ⟨⟩ -
      refine WL.rd (RD.assign rfl) rfl rfl ?_
      refine WL.nil ?_
      refine JE.seqN ?_
      refine J.seq ?_
      refine J.seq ?_
      refine J.reg ?_
      refine WL.rd (RD.loadA rfl rfl) rfl rfl ?_
      refine WL.rd (RD.loadA rfl rfl) rfl rfl ?_
      refine WL.efS (EF.callS (.cons rfl (.cons rfl .nil)) (fun w hS => eqPebbles_c _ _ _ _ _ _ _ _ _ _ _ _ _ (by exact RdI.rd hS) (by exact RdI.rd hS) (by exact RdI.rd hS) (by exact RdI.rd hS) (by exact RdI.rd hS) (by exact RdI.rd hS))) rfl rfl ?_
      rintro ⟨⟩ -
      refine WL.rd (RD.notP rfl) rfl rfl ?_
      refine WL.rd (RD.move rfl) rfl rfl ?_
      refine WL.caseP 61 rfl (fun hg61 => ?_) (fun hg61 => ?_)
      ·
       refine WL.noS rfl rfl ?_
       refine WL.noS rfl rfl ?_
       refine WL.noS rfl rfl ?_
       refine WL.rd (RD.pickT rfl rfl) rfl rfl ?_
       refine WL.nil ?_
       refine JE.seqN ?_
       refine J.condT rfl ?_
       refine J.seq ?_
       refine J.reg ?_
       refine WL.rd (RD.assign rfl) rfl rfl ?_
       refine WL.nil ?_
       refine JE.seqN ?_
       refine J.ret ?_
       refine JE.ret rfl (.tmp rfl .nil) (fun w hS => ?_)
       first | exact CS.fin hS rfl | (exfalso; omega) | exact CS.fin hS (by simp_all)
      ·
       refine WL.rd (RD.move rfl) rfl rfl ?_
       refine WL.rd (RD.move rfl) rfl rfl ?_
       refine WL.rd (RD.neqB rfl rfl) rfl rfl ?_
       refine WL.rd (RD.pickF rfl rfl) rfl rfl ?_
       refine WL.nil ?_
       refine JE.seqN ?_
       refine J.cond rfl (fun hc65 => ?_) (fun hc65 => ?_)
       ·
        refine J.seq ?_
        refine J.reg ?_
        refine WL.rd (RD.assign rfl) rfl rfl ?_
        refine WL.nil ?_
        refine JE.seqN ?_
        refine J.ret ?_
        refine JE.ret rfl (.tmp rfl .nil) (fun w hS => ?_)
        first | exact CS.fin hS rfl | (exfalso; omega) | exact CS.fin hS (by simp_all)
       ·
        refine J.skip ?_
        refine JE.seqN ?_
        refine J.seq ?_
        refine J.seq ?_
        refine J.anyAll [] ?_
        refine WA.take 0 rfl (RD.loadA rfl rfl) rfl (by kernel_rfl) rfl ?_
        refine WA.take 1 rfl (RD.loadA rfl rfl) rfl (by kernel_rfl) rfl ?_
        refine WA.one (i := 2) (by kernel_rfl) ?_
        refine WAi.efS rfl (EF.callN (.cons rfl .nil) (fun w hS => toGraph_c _ _ _ _ (by exact RdI.rd hS) (by omega))) rfl rfl (fun _ => by repeat (first | exact subM_refl _ | refine subM_app _ ?_ | refine subM_con _ ?_)) ?_
        rintro v68 -
        refine WA.one (i := 3) (by kernel_rfl) ?_
        refine WAi.efS rfl (EF.callS (.cons rfl (.cons rfl .nil)) (fun w hS => eqGraph_c _ _ _ _ _ _ _ (by exact RdI.rd hS) (by exact RdI.rd hS))) rfl rfl (fun _ => by repeat (first | exact subM_refl _ | refine subM_app _ ?_ | refine subM_con _ ?_)) ?_
        rintro ⟨⟩ -
        refine WA.takeP 4 rfl (RDP.of fun _ => RD.notP rfl) rfl (by kernel_rfl) rfl ?_
        refine WA.done (by kernel_rfl) ?_
        refine JE.seqN ?_
        refine J.condP rfl (fun hc70 => ?_) (fun hc70 => ?_)
        ·
         refine J.seq ?_
         refine J.reg ?_
         refine WL.rd (RD.assign rfl) rfl rfl ?_
         refine WL.nil ?_
         refine JE.seqN ?_
         refine J.ret ?_
         refine JE.ret rfl (.tmp rfl .nil) (fun w hS => ?_)
         first | exact CS.fin hS rfl | (exfalso; omega) | exact CS.fin hS (by simp_all)
        ·
         refine J.skip ?_
         refine JE.seqN ?_
         refine J.seq ?_
         refine J.seq ?_
         refine J.anyAll [] ?_
         refine WA.take 0 rfl (RD.loadA rfl rfl) rfl (by kernel_rfl) rfl ?_
         refine WA.take 1 rfl (RD.loadA rfl rfl) rfl (by kernel_rfl) rfl ?_
         refine WA.one (i := 2) (by kernel_rfl) ?_
         refine WAi.efS rfl (EF.callN (.cons rfl .nil) (fun w hS => toPebbles_c _ _ _ _ _ _ _ (by exact RdI.rd hS) (by exact RdI.rd hS) (by exact RdI.rd hS) (by omega) (by omega) (by omega))) rfl rfl (fun _ => by repeat (first | exact subM_refl _ | refine subM_app _ ?_ | refine subM_con _ ?_)) ?_
         rintro ⟨f73, t73, p73⟩ -
         refine WA.one (i := 3) (by kernel_rfl) ?_
         refine WAi.efS rfl (EF.callS (.cons rfl (.cons rfl .nil)) (fun w hS => eqPebbles_c _ _ _ _ _ _ _ _ _ _ _ _ _ (by exact RdI.rd hS) (by exact RdI.rd hS) (by exact RdI.rd hS) (by exact RdI.rd hS) (by exact RdI.rd hS) (by exact RdI.rd hS))) rfl rfl (fun _ => by repeat (first | exact subM_refl _ | refine subM_app _ ?_ | refine subM_con _ ?_)) ?_
         rintro ⟨⟩ -
         refine WA.takeP 4 rfl (RDP.of fun _ => RD.notP rfl) rfl (by kernel_rfl) rfl ?_
         refine WA.done (by kernel_rfl) ?_
         refine JE.seqN ?_
         refine J.condP rfl (fun hc75 => ?_) (fun hc75 => ?_)
         ·
          refine J.seq ?_
          refine J.reg ?_
          refine WL.rd (RD.assign rfl) rfl rfl ?_
          refine WL.nil ?_
          refine JE.seqN ?_
          refine J.ret ?_
          refine JE.ret rfl (.tmp rfl .nil) (fun w hS => ?_)
          first | exact CS.fin hS rfl | (exfalso; omega) | exact CS.fin hS (by simp_all)
         ·
          refine J.skip ?_
          refine JE.seqN ?_
          refine J.seq ?_
          refine J.reg ?_
          refine WL.rd (RD.assign rfl) rfl rfl ?_
          refine WL.nil ?_
          refine JE.seqN ?_
          refine J.seq ?_
          refine J.reg ?_
          refine WL.rd (RD.loadA rfl rfl) rfl rfl ?_
          refine WL.rd (RD.move rfl) rfl rfl ?_
          refine WL.efS (EF.callM (.cons rfl (.cons rfl .nil)) (.row .nil) .nil (fun w hS => markGraph_c _ _ _ _ _ (by omega) (by omega)) (by simp [En.rdb])) rfl rfl ?_
          rintro ⟨⟩ -
          refine WL.rd (RD.assign rfl) rfl rfl ?_
          refine WL.nil ?_
          refine JE.seqN ?_
          refine J.seq ?_
          refine J.reg ?_
          refine WL.rd (RD.loadA rfl rfl) rfl rfl ?_
          refine WL.rd (RD.move rfl) rfl rfl ?_
          refine WL.efS (EF.callM (.cons rfl (.cons rfl .nil)) (.row (.row (.row .nil))) .nil (fun w hS => markPebbles_c _ _ _ _ _ _ _ _ (by omega) (by omega) (by omega) (by omega)) (by simp [En.rdb])) rfl rfl ?_
          rintro ⟨⟩ -
          refine WL.rd (RD.assign rfl) rfl rfl ?_
          refine WL.nil ?_
          refine JE.seqN ?_
          refine J.seq ?_
          refine J.seq ?_
          refine J.reg ?_
          refine WL.rd (RD.move rfl) rfl rfl ?_
          refine WL.rd (RD.lss rfl rfl) rfl rfl ?_
          refine WL.rd (RD.move rfl) rfl rfl ?_
          refine WL.caseP 84 rfl (fun hg84 => ?_) (fun hg84 => ?_)
          ·
           refine WL.noS rfl rfl ?_
           refine WL.noS rfl rfl ?_
           refine WL.noS rfl rfl ?_
           refine WL.noS rfl rfl ?_
           refine WL.rd (RD.pickT rfl rfl) rfl rfl ?_
           refine WL.rd (RD.move rfl) rfl rfl ?_
           refine WL.noS rfl rfl ?_
           refine WL.noS rfl rfl ?_
           refine WL.noS rfl rfl ?_
           refine WL.rd (RD.pickT rfl rfl) rfl rfl ?_
           refine WL.nil ?_
           refine JE.seqN ?_
           refine J.condT rfl ?_
           refine J.seq ?_
           refine J.reg ?_
           refine WL.rd (RD.assign rfl) rfl rfl ?_
           refine WL.nil ?_
           refine JE.seqN ?_
           refine J.ret ?_
           refine JE.ret rfl (.tmp rfl .nil) (fun w hS => ?_)
           first | exact CS.fin hS rfl | (exfalso; omega) | exact CS.fin hS (by simp_all [mkRes])
          ·
           refine WL.rd (RD.loadA rfl rfl) rfl rfl ?_
           refine WL.rd (RD.loadA rfl rfl) rfl rfl ?_
           refine WL.efS (EF.callS (.cons rfl (.cons rfl .nil)) (fun w hS => eqPebbles_c _ _ _ _ _ _ _ _ _ _ _ _ _ (by exact RdI.rd hS) (by exact RdI.rd hS) (by exact RdI.rd hS) (by exact RdI.rd hS) (by exact RdI.rd hS) (by exact RdI.rd hS))) rfl rfl ?_
           rintro ⟨⟩ -
           refine WL.rd (RD.notP rfl) rfl rfl ?_
           refine WL.rd (RD.pickF rfl rfl) rfl rfl ?_
           refine WL.rd (RD.move rfl) rfl rfl ?_
           refine WL.caseP 90 rfl (fun hg90 => ?_) (fun hg90 => ?_)
           ·
            refine WL.noS rfl rfl ?_
            refine WL.noS rfl rfl ?_
            refine WL.noS rfl rfl ?_
            refine WL.rd (RD.pickT rfl rfl) rfl rfl ?_
            refine WL.nil ?_
            refine JE.seqN ?_
            refine J.condT rfl ?_
            refine J.seq ?_
            refine J.reg ?_
            refine WL.rd (RD.assign rfl) rfl rfl ?_
            refine WL.nil ?_
            refine JE.seqN ?_
            refine J.ret ?_
            refine JE.ret rfl (.tmp rfl .nil) (fun w hS => ?_)
            first | exact CS.fin hS rfl | (exfalso; omega) | exact CS.fin hS (by simp_all)
           ·
            refine WL.rd (RD.move rfl) rfl rfl ?_
            refine WL.rd (RD.move rfl) rfl rfl ?_
            refine WL.rd (RD.neqB rfl rfl) rfl rfl ?_
            refine WL.rd (RD.pickF rfl rfl) rfl rfl ?_
            refine WL.nil ?_
            refine JE.seqN ?_
            refine J.cond rfl (fun hc94 => ?_) (fun hc94 => ?_)
            ·
             refine J.seq ?_
             refine J.reg ?_
             refine WL.rd (RD.assign rfl) rfl rfl ?_
             refine WL.nil ?_
             refine JE.seqN ?_
             refine J.ret ?_
             refine JE.ret rfl (.tmp rfl .nil) (fun w hS => ?_)
             first | exact CS.fin hS rfl | (exfalso; omega) | exact CS.fin hS (by simp_all)
            ·
             refine J.skip ?_
             refine JE.seqN ?_
             refine J.seq ?_
             refine J.reg ?_
             refine WL.rd (RD.assign rfl) rfl rfl ?_
             refine WL.nil ?_
             refine JE.seqN ?_
             refine J.seq ?_
             refine J.reg ?_
             refine WL.rd (RD.loadA rfl rfl) rfl rfl ?_
             refine WL.rd (RD.move rfl) rfl rfl ?_
             refine WL.efS (EF.callM (.cons rfl (.cons rfl .nil)) (.row (.row (.row .nil))) .nil (fun w hS => markPebbles_c _ _ _ _ _ _ _ _ (by omega) (by omega) (by omega) (by omega)) (by simp [En.rdb])) rfl rfl ?_
             rintro ⟨⟩ -
             refine WL.rd (RD.assign rfl) rfl rfl ?_
             refine WL.nil ?_
             refine JE.seqN ?_
             refine J.seq ?_
             refine J.reg ?_
             refine WL.rd (RD.assign rfl) rfl rfl ?_
             refine WL.nil ?_
             refine JE.seqN ?_
             refine J.seq ?_
             refine J.reg ?_
             refine WL.rd (RD.loadA rfl rfl) rfl rfl ?_
             refine WL.rd (RD.move rfl) rfl rfl ?_
             refine WL.efS (EF.callS (.cons rfl (.cons rfl .nil)) (fun w hS => heldPebbles_c _ _ _ _ _ _ _ _ (by exact RdI.rd hS) (by exact RdI.rd hS) (by exact RdI.rd hS) (by omega) (by omega) (by omega) (by omega))) rfl rfl ?_
             rintro ⟨⟩ -
             refine WL.rd (RD.assign rfl) rfl rfl ?_
             refine WL.nil ?_
             refine JE.seqN ?_
             refine J.seq ?_
             refine J.seq ?_
             refine J.reg ?_
             refine WL.rd (RD.move rfl) rfl rfl ?_
             refine WL.rd (RD.lss rfl rfl) rfl rfl ?_
             refine WL.nil ?_
             refine JE.seqN ?_
             refine J.condP rfl (fun hc102 => ?_) (fun hc102 => ?_)
             ·
              refine J.seq ?_
              refine J.reg ?_
              refine WL.rd (RD.assign rfl) rfl rfl ?_
              refine WL.nil ?_
              refine JE.seqN ?_
              refine J.ret ?_
              refine JE.ret rfl (.tmp rfl .nil) (fun w hS => ?_)
              first | exact CS.fin hS rfl | (exfalso; omega) | exact CS.fin hS (by simp_all [mkRes])
             ·
              refine J.skip ?_
              refine JE.seqN ?_
              refine J.seq ?_
              refine J.seq ?_
              refine J.reg ?_
              refine WL.rd (RD.move rfl) rfl rfl ?_
              refine WL.rd (RD.move rfl) rfl rfl ?_
              refine WL.rd (RD.neq rfl rfl) rfl rfl ?_
              refine WL.nil ?_
              refine JE.seqN ?_
              refine J.condP rfl (fun hc105 => ?_) (fun hc105 => ?_)
              ·
               refine J.seq ?_
               refine J.reg ?_
               refine WL.rd (RD.assign rfl) rfl rfl ?_
               refine WL.nil ?_
               refine JE.seqN ?_
               refine J.ret ?_
               refine JE.ret rfl (.tmp rfl .nil) (fun w hS => ?_)
               first | exact CS.fin hS rfl | (exfalso; omega) | exact CS.fin hS (by simp_all [mkRes])
              ·
               refine J.skip ?_
               refine JE.seqN ?_
               refine J.seq ?_
               refine J.anyAll [12, 13] ?_
               refine WA.take 0 rfl (RD.loadA rfl rfl) rfl (by kernel_rfl) rfl ?_
               refine WA.takeP 2 rfl (RDP.of fun _ => RD.move rfl) rfl (by kernel_rfl) rfl ?_
               refine WA.takeP 3 rfl (RDP.of fun _ => RD.move rfl) rfl (by kernel_rfl) rfl ?_
               refine WA.take 4 rfl (RD.loadA rfl rfl) rfl (by kernel_rfl) rfl ?_
               refine WA.takeP 6 rfl (RDP.of fun _ => RD.move rfl) rfl (by kernel_rfl) rfl ?_
               refine WA.two (i := 1) (j := 11) (by kernel_rfl) ?_ ?_
               ·
                refine WAi.efS rfl (EF.callN (.cons rfl .nil) (fun w hS => toGraph_c _ _ _ _ (by exact RdI.rd hS) (by omega))) rfl rfl (fun _ => by repeat (first | exact subM_refl _ | refine subM_app _ ?_ | refine subM_con _ ?_)) ?_
                rintro v108 -
                refine WA.two (i := 5) (j := 11) (by kernel_rfl) ?_ ?_
                ·
                 refine WAi.efS rfl (EF.callN (.cons rfl .nil) (fun w hS => toPebbles_c _ _ _ _ _ _ _ (by exact RdI.rd hS) (by exact RdI.rd hS) (by exact RdI.rd hS) (by omega) (by omega) (by omega))) rfl rfl (fun _ => by repeat (first | exact subM_refl _ | refine subM_app _ ?_ | refine subM_con _ ?_)) ?_
                 rintro ⟨f112, t112, p112⟩ -
                 refine WA.two (i := 7) (j := 11) (by kernel_rfl) ?_ ?_
                 ·
                  refine WAi.efS rfl (EF.callN (.cons rfl (.cons rfl (.cons rfl (.cons rfl (.cons rfl .nil))))) (fun w hS => iPlaceBar_c _ _ _ _ _ _ _ _ _ _ _ _ _ (by exact RdI.rd hS) (by exact RdI.rd hS) (by exact RdI.rd hS) (by exact RdI.rd hS) (by assumption) (by omega) (by omega) (by omega) (by omega) (by first | assumption | omega))) rfl rfl (fun _ => by repeat (first | exact subM_refl _ | refine subM_app _ ?_ | refine subM_con _ ?_)) ?_
                  rintro ⟨f114, t114, p114⟩ -
                  refine WA.takeP 8 rfl (RDP.of fun _ => RD.move rfl) rfl (by kernel_rfl) rfl ?_
                  refine WA.takeP 9 rfl (RDP.of fun _ => RD.extract rfl rfl) rfl (by kernel_rfl) rfl ?_
                  refine WA.takeP 10 rfl (RDP.of fun _ => RD.extract rfl rfl) rfl (by kernel_rfl) rfl ?_
                  refine WA.one (i := 11) (by kernel_rfl) ?_
                  refine WAi.efS rfl (by exact EF.allocA) rfl rfl (fun _ => by repeat (first | exact subM_refl _ | refine subM_app _ ?_ | refine subM_con _ ?_)) ?_
                  intro b21 _
                  refine WA.one (i := 12) (by kernel_rfl) ?_
                  refine WAi.efNL rfl (EF.storeA rfl rfl rfl rfl) rfl rfl ?_
                  rintro ⟨⟩ -
                  refine WB.takeP 13 rfl (RDP.of fun _ => RD.assign rfl) rfl (by kernel_rfl) rfl ?_
                  refine WB.done (by kernel_rfl) ?_
                  refine JE.seqN ?_
                  refine J.seq ?_
                  refine J.seq ?_
                  refine J.reg ?_
                  refine WL.rd (RD.loadA rfl rfl) rfl rfl ?_
                  refine WL.rd (RD.loadA rfl rfl) rfl rfl ?_
                  refine WL.efS (EF.callS (.cons rfl (.cons rfl .nil)) (fun w hS => eqPebbles_c _ _ _ _ _ _ _ _ _ _ _ _ _ (by exact RdI.rd hS) (by exact RdI.rd hS) (by exact RdI.rd hS) (by exact RdI.rd hS) (by exact RdI.rd hS) (by exact RdI.rd hS))) rfl rfl ?_
                  rintro ⟨⟩ -
                  refine WL.rd (RD.notP rfl) rfl rfl ?_
                  refine WL.rd (RD.move rfl) rfl rfl ?_
                  refine WL.caseP 121 rfl (fun hg121 => ?_) (fun hg121 => ?_)
                  ·
                   refine WL.noS rfl rfl ?_
                   refine WL.noS rfl rfl ?_
                   refine WL.noS rfl rfl ?_
                   refine WL.rd (RD.pickT rfl rfl) rfl rfl ?_
                   refine WL.nil ?_
                   refine JE.seqN ?_
                   refine J.condT rfl ?_
                   refine J.seq ?_
                   refine J.reg ?_
                   refine WL.rd (RD.assign rfl) rfl rfl ?_
                   refine WL.nil ?_
                   refine JE.seqN ?_
                   refine J.ret ?_
                   refine JE.ret rfl (.tmp rfl .nil) (fun w hS => ?_)
                   first | exact CS.fin hS rfl | (exfalso; omega) | exact CS.fin hS (by simp_all)
                  ·
                   refine WL.rd (RD.move rfl) rfl rfl ?_
                   refine WL.rd (RD.move rfl) rfl rfl ?_
                   refine WL.rd (RD.neqB rfl rfl) rfl rfl ?_
                   refine WL.rd (RD.pickF rfl rfl) rfl rfl ?_
                   refine WL.nil ?_
                   refine JE.seqN ?_
                   refine J.cond rfl (fun hc125 => ?_) (fun hc125 => ?_)
                   ·
                    refine J.seq ?_
                    refine J.reg ?_
                    refine WL.rd (RD.assign rfl) rfl rfl ?_
                    refine WL.nil ?_
                    refine JE.seqN ?_
                    refine J.ret ?_
                    refine JE.ret rfl (.tmp rfl .nil) (fun w hS => ?_)
                    first | exact CS.fin hS rfl | (exfalso; omega) | exact CS.fin hS (by simp_all)
                   ·
                    refine J.skip ?_
                    refine JE.seqN ?_
                    refine J.seq ?_
                    refine J.reg ?_
                    refine WL.rd (RD.assign rfl) rfl rfl ?_
                    refine WL.nil ?_
                    refine JE.seqN ?_
                    refine J.seq ?_
                    refine J.reg ?_
                    refine WL.rd (RD.loadA rfl rfl) rfl rfl ?_
                    refine WL.rd (RD.move rfl) rfl rfl ?_
                    refine WL.efS (EF.callS (.cons rfl (.cons rfl .nil)) (fun w hS => heldPebbles_c _ _ _ _ _ _ _ _ (by exact RdI.rd hS) (by exact RdI.rd hS) (by exact RdI.rd hS) (by omega) (by omega) (by omega) (by omega))) rfl rfl ?_
                    rintro ⟨⟩ -
                    refine WL.rd (RD.assign rfl) rfl rfl ?_
                    refine WL.nil ?_
                    refine JE.seqN ?_
                    refine J.seq ?_
                    refine J.seq ?_
                    refine J.reg ?_
                    refine WL.rd (RD.move rfl) rfl rfl ?_
                    refine WL.rd (RD.lss rfl rfl) rfl rfl ?_
                    refine WL.nil ?_
                    refine JE.seqN ?_
                    refine J.condP rfl (fun hc130 => ?_) (fun hc130 => ?_)
                    ·
                     refine J.seq ?_
                     refine J.reg ?_
                     refine WL.rd (RD.assign rfl) rfl rfl ?_
                     refine WL.nil ?_
                     refine JE.seqN ?_
                     refine J.ret ?_
                     refine JE.ret rfl (.tmp rfl .nil) (fun w hS => ?_)
                     first | exact CS.fin hS rfl | (exfalso; omega) | exact CS.fin hS (by simp_all [mkRes])
                    ·
                     refine J.skip ?_
                     refine JE.seqN ?_
                     refine J.seq ?_
                     refine J.seq ?_
                     refine J.reg ?_
                     refine WL.rd (RD.move rfl) rfl rfl ?_
                     refine WL.rd (RD.move rfl) rfl rfl ?_
                     refine WL.rd (RD.neq rfl rfl) rfl rfl ?_
                     refine WL.nil ?_
                     refine JE.seqN ?_
                     refine J.condP rfl (fun hc133 => ?_) (fun hc133 => ?_)
                     ·
                      refine J.seq ?_
                      refine J.reg ?_
                      refine WL.rd (RD.assign rfl) rfl rfl ?_
                      refine WL.nil ?_
                      refine JE.seqN ?_
                      refine J.ret ?_
                      refine JE.ret rfl (.tmp rfl .nil) (fun w hS => ?_)
                      first | exact CS.fin hS rfl | (exfalso; omega) | exact CS.fin hS (by simp_all [mkRes])
                     ·
                      refine J.skip ?_
                      refine JE.seqN ?_
                      refine J.seq ?_
                      refine J.reg ?_
                      refine WL.rd (RD.assign rfl) rfl rfl ?_
                      refine WL.nil ?_
                      refine JE.seqN ?_
                      refine J.ret ?_
                      refine JE.ret rfl (.tmp rfl .nil) (fun w hS => ?_)
                      first | exact CS.fin hS rfl | (exfalso; omega) | exact CS.fin hS (by simp_all [mkRes])
                 ·
                  refine WAi.efS rfl (by exact EF.allocA) rfl rfl (fun _ => by repeat (first | exact subM_refl _ | refine subM_app _ ?_ | refine subM_con _ ?_)) ?_
                  intro b21 _
                  refine WA.one (i := 7) (by kernel_rfl) ?_
                  refine WAi.efS rfl (EF.callN (.cons rfl (.cons rfl (.cons rfl (.cons rfl (.cons rfl .nil))))) (fun w hS => iPlaceBar_c _ _ _ _ _ _ _ _ _ _ _ _ _ (by exact RdI.rd hS) (by exact RdI.rd hS) (by exact RdI.rd hS) (by exact RdI.rd hS) (by assumption) (by omega) (by omega) (by omega) (by omega) (by first | assumption | omega))) rfl rfl (fun _ => by repeat (first | exact subM_refl _ | refine subM_app _ ?_ | refine subM_con _ ?_)) ?_
                  rintro ⟨f114, t114, p114⟩ -
                  refine WA.takeP 8 rfl (RDP.of fun _ => RD.move rfl) rfl (by kernel_rfl) rfl ?_
                  refine WA.takeP 9 rfl (RDP.of fun _ => RD.extract rfl rfl) rfl (by kernel_rfl) rfl ?_
                  refine WA.takeP 10 rfl (RDP.of fun _ => RD.extract rfl rfl) rfl (by kernel_rfl) rfl ?_
                  refine WA.one (i := 12) (by kernel_rfl) ?_
                  refine WAi.efNL rfl (EF.storeA rfl rfl rfl rfl) rfl rfl ?_
                  rintro ⟨⟩ -
                  refine WB.takeP 13 rfl (RDP.of fun _ => RD.assign rfl) rfl (by kernel_rfl) rfl ?_
                  refine WB.done (by kernel_rfl) ?_
                  refine JE.seqN ?_
                  refine J.seq ?_
                  refine J.seq ?_
                  refine J.reg ?_
                  refine WL.rd (RD.loadA rfl rfl) rfl rfl ?_
                  refine WL.rd (RD.loadA rfl rfl) rfl rfl ?_
                  refine WL.efS (EF.callS (.cons rfl (.cons rfl .nil)) (fun w hS => eqPebbles_c _ _ _ _ _ _ _ _ _ _ _ _ _ (by exact RdI.rd hS) (by exact RdI.rd hS) (by exact RdI.rd hS) (by exact RdI.rd hS) (by exact RdI.rd hS) (by exact RdI.rd hS))) rfl rfl ?_
                  rintro ⟨⟩ -
                  refine WL.rd (RD.notP rfl) rfl rfl ?_
                  refine WL.rd (RD.move rfl) rfl rfl ?_
                  refine WL.caseP 121 rfl (fun hg121 => ?_) (fun hg121 => ?_)
                  ·
                   refine WL.noS rfl rfl ?_
                   refine WL.noS rfl rfl ?_
                   refine WL.noS rfl rfl ?_
                   refine WL.rd (RD.pickT rfl rfl) rfl rfl ?_
                   refine WL.nil ?_
                   refine JE.seqN ?_
                   refine J.condT rfl ?_
                   refine J.seq ?_
                   refine J.reg ?_
                   refine WL.rd (RD.assign rfl) rfl rfl ?_
                   refine WL.nil ?_
                   refine JE.seqN ?_
                   refine J.ret ?_
                   refine JE.ret rfl (.tmp rfl .nil) (fun w hS => ?_)
                   first | exact CS.fin hS rfl | (exfalso; omega) | exact CS.fin hS (by simp_all)
                  ·
                   refine WL.rd (RD.move rfl) rfl rfl ?_
                   refine WL.rd (RD.move rfl) rfl rfl ?_
                   refine WL.rd (RD.neqB rfl rfl) rfl rfl ?_
                   refine WL.rd (RD.pickF rfl rfl) rfl rfl ?_
                   refine WL.nil ?_
                   refine JE.seqN ?_
                   refine J.cond rfl (fun hc125 => ?_) (fun hc125 => ?_)
                   ·
                    refine J.seq ?_
                    refine J.reg ?_
                    refine WL.rd (RD.assign rfl) rfl rfl ?_
                    refine WL.nil ?_
                    refine JE.seqN ?_
                    refine J.ret ?_
                    refine JE.ret rfl (.tmp rfl .nil) (fun w hS => ?_)
                    first | exact CS.fin hS rfl | (exfalso; omega) | exact CS.fin hS (by simp_all)
                   ·
                    refine J.skip ?_
                    refine JE.seqN ?_
                    refine J.seq ?_
                    refine J.reg ?_
                    refine WL.rd (RD.assign rfl) rfl rfl ?_
                    refine WL.nil ?_
                    refine JE.seqN ?_
                    refine J.seq ?_
                    refine J.reg ?_
                    refine WL.rd (RD.loadA rfl rfl) rfl rfl ?_
                    refine WL.rd (RD.move rfl) rfl rfl ?_
                    refine WL.efS (EF.callS (.cons rfl (.cons rfl .nil)) (fun w hS => heldPebbles_c _ _ _ _ _ _ _ _ (by exact RdI.rd hS) (by exact RdI.rd hS) (by exact RdI.rd hS) (by omega) (by omega) (by omega) (by omega))) rfl rfl ?_
                    rintro ⟨⟩ -
                    refine WL.rd (RD.assign rfl) rfl rfl ?_
                    refine WL.nil ?_
                    refine JE.seqN ?_
                    refine J.seq ?_
                    refine J.seq ?_
                    refine J.reg ?_
                    refine WL.rd (RD.move rfl) rfl rfl ?_
                    refine WL.rd (RD.lss rfl rfl) rfl rfl ?_
                    refine WL.nil ?_
                    refine JE.seqN ?_
                    refine J.condP rfl (fun hc130 => ?_) (fun hc130 => ?_)
                    ·
                     refine J.seq ?_
                     refine J.reg ?_
                     refine WL.rd (RD.assign rfl) rfl rfl ?_
                     refine WL.nil ?_
                     refine JE.seqN ?_
                     refine J.ret ?_
                     refine JE.ret rfl (.tmp rfl .nil) (fun w hS => ?_)
                     first | exact CS.fin hS rfl | (exfalso; omega) | exact CS.fin hS (by simp_all [mkRes])
                    ·
                     refine J.skip ?_
                     refine JE.seqN ?_
                     refine J.seq ?_
                     refine J.seq ?_
                     refine J.reg ?_
                     refine WL.rd (RD.move rfl) rfl rfl ?_
                     refine WL.rd (RD.move rfl) rfl rfl ?_
                     refine WL.rd (RD.neq rfl rfl) rfl rfl ?_
                     refine WL.nil ?_
                     refine JE.seqN ?_
                     refine J.condP rfl (fun hc133 => ?_) (fun hc133 => ?_)
                     ·
                      refine J.seq ?_
                      refine J.reg ?_
                      refine WL.rd (RD.assign rfl) rfl rfl ?_
                      refine WL.nil ?_
                      refine JE.seqN ?_
                      refine J.ret ?_
                      refine JE.ret rfl (.tmp rfl .nil) (fun w hS => ?_)
                      first | exact CS.fin hS rfl | (exfalso; omega) | exact CS.fin hS (by simp_all [mkRes])
                     ·
                      refine J.skip ?_
                      refine JE.seqN ?_
                      refine J.seq ?_
                      refine J.reg ?_
                      refine WL.rd (RD.assign rfl) rfl rfl ?_
                      refine WL.nil ?_
                      refine JE.seqN ?_
                      refine J.ret ?_
                      refine JE.ret rfl (.tmp rfl .nil) (fun w hS => ?_)
                      first | exact CS.fin hS rfl | (exfalso; omega) | exact CS.fin hS (by simp_all [mkRes])
                ·
                 refine WAi.efS rfl (by exact EF.allocA) rfl rfl (fun _ => by repeat (first | exact subM_refl _ | refine subM_app _ ?_ | refine subM_con _ ?_)) ?_
                 intro b21 _
                 refine WA.one (i := 5) (by kernel_rfl) ?_
                 refine WAi.efS rfl (EF.callN (.cons rfl .nil) (fun w hS => toPebbles_c _ _ _ _ _ _ _ (by exact RdI.rd hS) (by exact RdI.rd hS) (by exact RdI.rd hS) (by omega) (by omega) (by omega))) rfl rfl (fun _ => by repeat (first | exact subM_refl _ | refine subM_app _ ?_ | refine subM_con _ ?_)) ?_
                 rintro ⟨f112, t112, p112⟩ -
                 refine WA.one (i := 7) (by kernel_rfl) ?_
                 refine WAi.efS rfl (EF.callN (.cons rfl (.cons rfl (.cons rfl (.cons rfl (.cons rfl .nil))))) (fun w hS => iPlaceBar_c _ _ _ _ _ _ _ _ _ _ _ _ _ (by exact RdI.rd hS) (by exact RdI.rd hS) (by exact RdI.rd hS) (by exact RdI.rd hS) (by assumption) (by omega) (by omega) (by omega) (by omega) (by first | assumption | omega))) rfl rfl (fun _ => by repeat (first | exact subM_refl _ | refine subM_app _ ?_ | refine subM_con _ ?_)) ?_
                 rintro ⟨f114, t114, p114⟩ -
                 refine WA.takeP 8 rfl (RDP.of fun _ => RD.move rfl) rfl (by kernel_rfl) rfl ?_
                 refine WA.takeP 9 rfl (RDP.of fun _ => RD.extract rfl rfl) rfl (by kernel_rfl) rfl ?_
                 refine WA.takeP 10 rfl (RDP.of fun _ => RD.extract rfl rfl) rfl (by kernel_rfl) rfl ?_
                 refine WA.one (i := 12) (by kernel_rfl) ?_
                 refine WAi.efNL rfl (EF.storeA rfl rfl rfl rfl) rfl rfl ?_
                 rintro ⟨⟩ -
                 refine WB.takeP 13 rfl (RDP.of fun _ => RD.assign rfl) rfl (by kernel_rfl) rfl ?_
                 refine WB.done (by kernel_rfl) ?_
                 refine JE.seqN ?_
                 refine J.seq ?_
                 refine J.seq ?_
                 refine J.reg ?_
                 refine WL.rd (RD.loadA rfl rfl) rfl rfl ?_
                 refine WL.rd (RD.loadA rfl rfl) rfl rfl ?_
                 refine WL.efS (EF.callS (.cons rfl (.cons rfl .nil)) (fun w hS => eqPebbles_c _ _ _ _ _ _ _ _ _ _ _ _ _ (by exact RdI.rd hS) (by exact RdI.rd hS) (by exact RdI.rd hS) (by exact RdI.rd hS) (by exact RdI.rd hS) (by exact RdI.rd hS))) rfl rfl ?_
                 rintro ⟨⟩ -
                 refine WL.rd (RD.notP rfl) rfl rfl ?_
                 refine WL.rd (RD.move rfl) rfl rfl ?_
                 refine WL.caseP 121 rfl (fun hg121 => ?_) (fun hg121 => ?_)
                 ·
                  refine WL.noS rfl rfl ?_
                  refine WL.noS rfl rfl ?_
                  refine WL.noS rfl rfl ?_
                  refine WL.rd (RD.pickT rfl rfl) rfl rfl ?_
                  refine WL.nil ?_
                  refine JE.seqN ?_
                  refine J.condT rfl ?_
                  refine J.seq ?_
                  refine J.reg ?_
                  refine WL.rd (RD.assign rfl) rfl rfl ?_
                  refine WL.nil ?_
                  refine JE.seqN ?_
                  refine J.ret ?_
                  refine JE.ret rfl (.tmp rfl .nil) (fun w hS => ?_)
                  first | exact CS.fin hS rfl | (exfalso; omega) | exact CS.fin hS (by simp_all)
                 ·
                  refine WL.rd (RD.move rfl) rfl rfl ?_
                  refine WL.rd (RD.move rfl) rfl rfl ?_
                  refine WL.rd (RD.neqB rfl rfl) rfl rfl ?_
                  refine WL.rd (RD.pickF rfl rfl) rfl rfl ?_
                  refine WL.nil ?_
                  refine JE.seqN ?_
                  refine J.cond rfl (fun hc125 => ?_) (fun hc125 => ?_)
                  ·
                   refine J.seq ?_
                   refine J.reg ?_
                   refine WL.rd (RD.assign rfl) rfl rfl ?_
                   refine WL.nil ?_
                   refine JE.seqN ?_
                   refine J.ret ?_
                   refine JE.ret rfl (.tmp rfl .nil) (fun w hS => ?_)
                   first | exact CS.fin hS rfl | (exfalso; omega) | exact CS.fin hS (by simp_all)
                  ·
                   refine J.skip ?_
                   refine JE.seqN ?_
                   refine J.seq ?_
                   refine J.reg ?_
                   refine WL.rd (RD.assign rfl) rfl rfl ?_
                   refine WL.nil ?_
                   refine JE.seqN ?_
                   refine J.seq ?_
                   refine J.reg ?_
                   refine WL.rd (RD.loadA rfl rfl) rfl rfl ?_
                   refine WL.rd (RD.move rfl) rfl rfl ?_
                   refine WL.efS (EF.callS (.cons rfl (.cons rfl .nil)) (fun w hS => heldPebbles_c _ _ _ _ _ _ _ _ (by exact RdI.rd hS) (by exact RdI.rd hS) (by exact RdI.rd hS) (by omega) (by omega) (by omega) (by omega))) rfl rfl ?_
                   rintro ⟨⟩ -
                   refine WL.rd (RD.assign rfl) rfl rfl ?_
                   refine WL.nil ?_
                   refine JE.seqN ?_
                   refine J.seq ?_
                   refine J.seq ?_
                   refine J.reg ?_
                   refine WL.rd (RD.move rfl) rfl rfl ?_
                   refine WL.rd (RD.lss rfl rfl) rfl rfl ?_
                   refine WL.nil ?_
                   refine JE.seqN ?_
                   refine J.condP rfl (fun hc130 => ?_) (fun hc130 => ?_)
                   ·
                    refine J.seq ?_
                    refine J.reg ?_
                    refine WL.rd (RD.assign rfl) rfl rfl ?_
                    refine WL.nil ?_
                    refine JE.seqN ?_
                    refine J.ret ?_
                    refine JE.ret rfl (.tmp rfl .nil) (fun w hS => ?_)
                    first | exact CS.fin hS rfl | (exfalso; omega) | exact CS.fin hS (by simp_all [mkRes])
                   ·
                    refine J.skip ?_
                    refine JE.seqN ?_
                    refine J.seq ?_
                    refine J.seq ?_
                    refine J.reg ?_
                    refine WL.rd (RD.move rfl) rfl rfl ?_
                    refine WL.rd (RD.move rfl) rfl rfl ?_
                    refine WL.rd (RD.neq rfl rfl) rfl rfl ?_
                    refine WL.nil ?_
                    refine JE.seqN ?_
                    refine J.condP rfl (fun hc133 => ?_) (fun hc133 => ?_)
                    ·
                     refine J.seq ?_
                     refine J.reg ?_
                     refine WL.rd (RD.assign rfl) rfl rfl ?_
                     refine WL.nil ?_
                     refine JE.seqN ?_
                     refine J.ret ?_
                     refine JE.ret rfl (.tmp rfl .nil) (fun w hS => ?_)
                     first | exact CS.fin hS rfl | (exfalso; omega) | exact CS.fin hS (by simp_all [mkRes])
                    ·
                     refine J.skip ?_
                     refine JE.seqN ?_
                     refine J.seq ?_
                     refine J.reg ?_
                     refine WL.rd (RD.assign rfl) rfl rfl ?_
                     refine WL.nil ?_
                     refine JE.seqN ?_
                     refine J.ret ?_
                     refine JE.ret rfl (.tmp rfl .nil) (fun w hS => ?_)
                     first | exact CS.fin hS rfl | (exfalso; omega) | exact CS.fin hS (by simp_all [mkRes])
               ·
                refine WAi.efS rfl (by exact EF.allocA) rfl rfl (fun _ => by repeat (first | exact subM_refl _ | refine subM_app _ ?_ | refine subM_con _ ?_)) ?_
                intro b21 _
                refine WA.one (i := 1) (by kernel_rfl) ?_
                refine WAi.efS rfl (EF.callN (.cons rfl .nil) (fun w hS => toGraph_c _ _ _ _ (by exact RdI.rd hS) (by omega))) rfl rfl (fun _ => by repeat (first | exact subM_refl _ | refine subM_app _ ?_ | refine subM_con _ ?_)) ?_
                rintro v108 -
                refine WA.one (i := 5) (by kernel_rfl) ?_
                refine WAi.efS rfl (EF.callN (.cons rfl .nil) (fun w hS => toPebbles_c _ _ _ _ _ _ _ (by exact RdI.rd hS) (by exact RdI.rd hS) (by exact RdI.rd hS) (by omega) (by omega) (by omega))) rfl rfl (fun _ => by repeat (first | exact subM_refl _ | refine subM_app _ ?_ | refine subM_con _ ?_)) ?_
                rintro ⟨f112, t112, p112⟩ -
                refine WA.one (i := 7) (by kernel_rfl) ?_
                refine WAi.efS rfl (EF.callN (.cons rfl (.cons rfl (.cons rfl (.cons rfl (.cons rfl .nil))))) (fun w hS => iPlaceBar_c _ _ _ _ _ _ _ _ _ _ _ _ _ (by exact RdI.rd hS) (by exact RdI.rd hS) (by exact RdI.rd hS) (by exact RdI.rd hS) (by assumption) (by omega) (by omega) (by omega) (by omega) (by first | assumption | omega))) rfl rfl (fun _ => by repeat (first | exact subM_refl _ | refine subM_app _ ?_ | refine subM_con _ ?_)) ?_
                rintro ⟨f114, t114, p114⟩ -
                refine WA.takeP 8 rfl (RDP.of fun _ => RD.move rfl) rfl (by kernel_rfl) rfl ?_
                refine WA.takeP 9 rfl (RDP.of fun _ => RD.extract rfl rfl) rfl (by kernel_rfl) rfl ?_
                refine WA.takeP 10 rfl (RDP.of fun _ => RD.extract rfl rfl) rfl (by kernel_rfl) rfl ?_
                refine WA.one (i := 12) (by kernel_rfl) ?_
                refine WAi.efNL rfl (EF.storeA rfl rfl rfl rfl) rfl rfl ?_
                rintro ⟨⟩ -
                refine WB.takeP 13 rfl (RDP.of fun _ => RD.assign rfl) rfl (by kernel_rfl) rfl ?_
                refine WB.done (by kernel_rfl) ?_
                refine JE.seqN ?_
                refine J.seq ?_
                refine J.seq ?_
                refine J.reg ?_
                refine WL.rd (RD.loadA rfl rfl) rfl rfl ?_
                refine WL.rd (RD.loadA rfl rfl) rfl rfl ?_
                refine WL.efS (EF.callS (.cons rfl (.cons rfl .nil)) (fun w hS => eqPebbles_c _ _ _ _ _ _ _ _ _ _ _ _ _ (by exact RdI.rd hS) (by exact RdI.rd hS) (by exact RdI.rd hS) (by exact RdI.rd hS) (by exact RdI.rd hS) (by exact RdI.rd hS))) rfl rfl ?_
                rintro ⟨⟩ -
                refine WL.rd (RD.notP rfl) rfl rfl ?_
                refine WL.rd (RD.move rfl) rfl rfl ?_
                refine WL.caseP 121 rfl (fun hg121 => ?_) (fun hg121 => ?_)
                ·
                 refine WL.noS rfl rfl ?_
                 refine WL.noS rfl rfl ?_
                 refine WL.noS rfl rfl ?_
                 refine WL.rd (RD.pickT rfl rfl) rfl rfl ?_
                 refine WL.nil ?_
                 refine JE.seqN ?_
                 refine J.condT rfl ?_
                 refine J.seq ?_
                 refine J.reg ?_
                 refine WL.rd (RD.assign rfl) rfl rfl ?_
                 refine WL.nil ?_
                 refine JE.seqN ?_
                 refine J.ret ?_
                 refine JE.ret rfl (.tmp rfl .nil) (fun w hS => ?_)
                 first | exact CS.fin hS rfl | (exfalso; omega) | exact CS.fin hS (by simp_all)
                ·
                 refine WL.rd (RD.move rfl) rfl rfl ?_
                 refine WL.rd (RD.move rfl) rfl rfl ?_
                 refine WL.rd (RD.neqB rfl rfl) rfl rfl ?_
                 refine WL.rd (RD.pickF rfl rfl) rfl rfl ?_
                 refine WL.nil ?_
                 refine JE.seqN ?_
                 refine J.cond rfl (fun hc125 => ?_) (fun hc125 => ?_)
                 ·
                  refine J.seq ?_
                  refine J.reg ?_
                  refine WL.rd (RD.assign rfl) rfl rfl ?_
                  refine WL.nil ?_
                  refine JE.seqN ?_
                  refine J.ret ?_
                  refine JE.ret rfl (.tmp rfl .nil) (fun w hS => ?_)
                  first | exact CS.fin hS rfl | (exfalso; omega) | exact CS.fin hS (by simp_all)
                 ·
                  refine J.skip ?_
                  refine JE.seqN ?_
                  refine J.seq ?_
                  refine J.reg ?_
                  refine WL.rd (RD.assign rfl) rfl rfl ?_
                  refine WL.nil ?_
                  refine JE.seqN ?_
                  refine J.seq ?_
                  refine J.reg ?_
                  refine WL.rd (RD.loadA rfl rfl) rfl rfl ?_
                  refine WL.rd (RD.move rfl) rfl rfl ?_
                  refine WL.efS (EF.callS (.cons rfl (.cons rfl .nil)) (fun w hS => heldPebbles_c _ _ _ _ _ _ _ _ (by exact RdI.rd hS) (by exact RdI.rd hS) (by exact RdI.rd hS) (by omega) (by omega) (by omega) (by omega))) rfl rfl ?_
                  rintro ⟨⟩ -
                  refine WL.rd (RD.assign rfl) rfl rfl ?_
                  refine WL.nil ?_
                  refine JE.seqN ?_
                  refine J.seq ?_
                  refine J.seq ?_
                  refine J.reg ?_
                  refine WL.rd (RD.move rfl) rfl rfl ?_
                  refine WL.rd (RD.lss rfl rfl) rfl rfl ?_
                  refine WL.nil ?_
                  refine JE.seqN ?_
                  refine J.condP rfl (fun hc130 => ?_) (fun hc130 => ?_)
                  ·
                   refine J.seq ?_
                   refine J.reg ?_
                   refine WL.rd (RD.assign rfl) rfl rfl ?_
                   refine WL.nil ?_
                   refine JE.seqN ?_
                   refine J.ret ?_
                   refine JE.ret rfl (.tmp rfl .nil) (fun w hS => ?_)
                   first | exact CS.fin hS rfl | (exfalso; omega) | exact CS.fin hS (by simp_all [mkRes])
                  ·
                   refine J.skip ?_
                   refine JE.seqN ?_
                   refine J.seq ?_
                   refine J.seq ?_
                   refine J.reg ?_
                   refine WL.rd (RD.move rfl) rfl rfl ?_
                   refine WL.rd (RD.move rfl) rfl rfl ?_
                   refine WL.rd (RD.neq rfl rfl) rfl rfl ?_
                   refine WL.nil ?_
                   refine JE.seqN ?_
                   refine J.condP rfl (fun hc133 => ?_) (fun hc133 => ?_)
                   ·
                    refine J.seq ?_
                    refine J.reg ?_
                    refine WL.rd (RD.assign rfl) rfl rfl ?_
                    refine WL.nil ?_
                    refine JE.seqN ?_
                    refine J.ret ?_
                    refine JE.ret rfl (.tmp rfl .nil) (fun w hS => ?_)
                    first | exact CS.fin hS rfl | (exfalso; omega) | exact CS.fin hS (by simp_all [mkRes])
                   ·
                    refine J.skip ?_
                    refine JE.seqN ?_
                    refine J.seq ?_
                    refine J.reg ?_
                    refine WL.rd (RD.assign rfl) rfl rfl ?_
                    refine WL.nil ?_
                    refine JE.seqN ?_
                    refine J.ret ?_
                    refine JE.ret rfl (.tmp rfl .nil) (fun w hS => ?_)
                    first | exact CS.fin hS rfl | (exfalso; omega) | exact CS.fin hS (by simp_all [mkRes])
    ·
     refine WAi.efS rfl (by exact EF.allocA) rfl rfl (fun _ => by repeat (first | exact subM_refl _ | refine subM_app _ ?_ | refine subM_con _ ?_)) ?_
     intro b12 _
     refine WA.one (i := 5) (by kernel_rfl) ?_
     refine WAi.efS rfl (EF.callN (.cons rfl .nil) (fun w hS => toPebbles_c _ _ _ _ _ _ _ (by exact RdI.rd hS) (by exact RdI.rd hS) (by exact RdI.rd hS) (by omega) (by omega) (by omega))) rfl rfl (fun _ => by repeat (first | exact subM_refl _ | refine subM_app _ ?_ | refine subM_con _ ?_)) ?_
     rintro ⟨f39, t39, p39⟩ -
     refine WA.one (i := 7) (by kernel_rfl) ?_
     refine WAi.efS rfl (EF.callN (.cons rfl (.cons rfl (.cons rfl (.cons rfl (.cons rfl .nil))))) (fun w hS => sPlaceBar_c _ _ _ _ _ _ _ _ _ _ _ _ _ (by exact RdI.rd hS) (by exact RdI.rd hS) (by exact RdI.rd hS) (by exact RdI.rd hS) (by assumption) (by omega) (by omega) (by omega) (by omega) (by first | assumption | omega))) rfl rfl (fun _ => by repeat (first | exact subM_refl _ | refine subM_app _ ?_ | refine subM_con _ ?_)) ?_
     rintro ⟨f41, t41, p41⟩ -
     refine WA.takeP 8 rfl (RDP.of fun _ => RD.move rfl) rfl (by kernel_rfl) rfl ?_
     refine WA.takeP 9 rfl (RDP.of fun _ => RD.extract rfl rfl) rfl (by kernel_rfl) rfl ?_
     refine WA.takeP 10 rfl (RDP.of fun _ => RD.extract rfl rfl) rfl (by kernel_rfl) rfl ?_
     refine WA.one (i := 12) (by kernel_rfl) ?_
     refine WAi.efNL rfl (EF.storeA rfl rfl rfl rfl) rfl rfl ?_
     rintro ⟨⟩ -
     refine WB.takeP 13 rfl (RDP.of fun _ => RD.assign rfl) rfl (by kernel_rfl) rfl ?_
     refine WB.done (by kernel_rfl) ?_
     refine JE.seqN ?_
     refine J.seq ?_
     refine J.reg ?_
     refine WL.rd (RD.loadA rfl rfl) rfl rfl ?_
     refine WL.efS (EF.callN (.cons rfl .nil) (fun w hS => toGraph_c _ _ _ _ (by exact RdI.rd hS) (by omega))) rfl rfl ?_
     rintro v45 -
     refine WL.efS (EF.allocA) rfl rfl ?_
     intro b14 _
     refine WL.efN (EF.storeA rfl rfl rfl rfl) rfl ?_
     rintro ⟨⟩ -
     refine WL.nil ?_
     refine JE.seqN ?_
     refine J.seq ?_
     refine J.reg ?_
     refine WL.rd (RD.loadA rfl rfl) rfl rfl ?_
     refine WL.efS (EF.callN (.cons rfl .nil) (fun w hS => toPebbles_c _ _ _ _ _ _ _ (by exact RdI.rd hS) (by exact RdI.rd hS) (by exact RdI.rd hS) (by omega) (by omega) (by omega))) rfl rfl ?_
     rintro ⟨f47, t47, p47⟩ -
     refine WL.efS (EF.allocA) rfl rfl ?_
     intro b15 _
     refine WL.efN (EF.storeA rfl rfl rfl rfl) rfl ?_
     rintro ⟨⟩ -
     refine WL.nil ?_
     refine JE.seqN ?_
     refine J.seq ?_
     refine J.reg ?_
     refine WL.rd (RD.loadA rfl rfl) rfl rfl ?_
     refine WL.rd (RD.move rfl) rfl rfl ?_
     refine WL.rd (RD.move rfl) rfl rfl ?_
     refine WL.rd (RD.loadA rfl rfl) rfl rfl ?_
     refine WL.rd (RD.move rfl) rfl rfl ?_
     refine WL.efS (EF.callN (.cons rfl (.cons rfl (.cons rfl (.cons rfl (.cons rfl .nil))))) (fun w hS => iPlaceBar_c _ _ _ _ _ _ _ _ _ _ _ _ _ (by exact RdI.rd hS) (by exact RdI.rd hS) (by exact RdI.rd hS) (by exact RdI.rd hS) (by assumption) (by omega) (by omega) (by omega) (by omega) (by first | assumption | omega))) rfl rfl ?_
     rintro ⟨f54, t54, p54⟩ -
     refine WL.rd (RD.move rfl) rfl rfl ?_
     refine WL.rd (RD.extract rfl rfl) rfl rfl ?_
     refine WL.rd (RD.extract rfl rfl) rfl rfl ?_
     refine WL.efS (EF.allocA) rfl rfl ?_
     intro b16 _
     refine WL.efN (EF.storeA rfl rfl rfl rfl) rfl ?_
     rintro ⟨⟩ -
     refine WL.rd (RD.assign rfl) rfl rfl ?_
     refine WL.nil ?_
     refine JE.seqN ?_
     refine J.seq ?_
     refine J.seq ?_
     refine J.reg ?_
     refine WL.rd (RD.loadA rfl rfl) rfl rfl ?_
     refine WL.rd (RD.loadA rfl rfl) rfl rfl ?_
     refine WL.efS (EF.callS (.cons rfl (.cons rfl .nil)) (fun w hS => eqPebbles_c _ _ _ _ _ _ _ _ _ _ _ _ _ (by exact RdI.rd hS) (by exact RdI.rd hS) (by exact RdI.rd hS) (by exact RdI.rd hS) (by exact RdI.rd hS) (by exact RdI.rd hS))) rfl rfl ?_
     rintro ⟨⟩ -
     refine WL.rd (RD.notP rfl) rfl rfl ?_
     refine WL.rd (RD.move rfl) rfl rfl ?_
     refine WL.caseP 61 rfl (fun hg61 => ?_) (fun hg61 => ?_)
     ·
      refine WL.noS rfl rfl ?_
      refine WL.noS rfl rfl ?_
      refine WL.noS rfl rfl ?_
      refine WL.rd (RD.pickT rfl rfl) rfl rfl ?_
      refine WL.nil ?_
      refine JE.seqN ?_
      refine J.condT rfl ?_
      refine J.seq ?_
      refine J.reg ?_
      refine WL.rd (RD.assign rfl) rfl rfl ?_
      refine WL.nil ?_
      refine JE.seqN ?_
      refine J.ret ?_
      refine JE.ret rfl (.tmp rfl .nil) (fun w hS => ?_)
      first | exact CS.fin hS rfl | (exfalso; omega) | exact CS.fin hS (by simp_all)
     ·
      refine WL.rd (RD.move rfl) rfl rfl ?_
      refine WL.rd (RD.move rfl) rfl rfl ?_
      refine WL.rd (RD.neqB rfl rfl) rfl rfl ?_
      refine WL.rd (RD.pickF rfl rfl) rfl rfl ?_
      refine WL.nil ?_
      refine JE.seqN ?_
      refine J.cond rfl (fun hc65 => ?_) (fun hc65 => ?_)
      ·
       refine J.seq ?_
       refine J.reg ?_
       refine WL.rd (RD.assign rfl) rfl rfl ?_
       refine WL.nil ?_
       refine JE.seqN ?_
       refine J.ret ?_
       refine JE.ret rfl (.tmp rfl .nil) (fun w hS => ?_)
       first | exact CS.fin hS rfl | (exfalso; omega) | exact CS.fin hS (by simp_all)
      ·
       refine J.skip ?_
       refine JE.seqN ?_
       refine J.seq ?_
       refine J.seq ?_
       refine J.anyAll [] ?_
       refine WA.take 0 rfl (RD.loadA rfl rfl) rfl (by kernel_rfl) rfl ?_
       refine WA.take 1 rfl (RD.loadA rfl rfl) rfl (by kernel_rfl) rfl ?_
       refine WA.one (i := 2) (by kernel_rfl) ?_
       refine WAi.efS rfl (EF.callN (.cons rfl .nil) (fun w hS => toGraph_c _ _ _ _ (by exact RdI.rd hS) (by omega))) rfl rfl (fun _ => by repeat (first | exact subM_refl _ | refine subM_app _ ?_ | refine subM_con _ ?_)) ?_
       rintro v68 -
       refine WA.one (i := 3) (by kernel_rfl) ?_
       refine WAi.efS rfl (EF.callS (.cons rfl (.cons rfl .nil)) (fun w hS => eqGraph_c _ _ _ _ _ _ _ (by exact RdI.rd hS) (by exact RdI.rd hS))) rfl rfl (fun _ => by repeat (first | exact subM_refl _ | refine subM_app _ ?_ | refine subM_con _ ?_)) ?_
       rintro ⟨⟩ -
       refine WA.takeP 4 rfl (RDP.of fun _ => RD.notP rfl) rfl (by kernel_rfl) rfl ?_
       refine WA.done (by kernel_rfl) ?_
       refine JE.seqN ?_
       refine J.condP rfl (fun hc70 => ?_) (fun hc70 => ?_)
       ·
        refine J.seq ?_
        refine J.reg ?_
        refine WL.rd (RD.assign rfl) rfl rfl ?_
        refine WL.nil ?_
        refine JE.seqN ?_
        refine J.ret ?_
        refine JE.ret rfl (.tmp rfl .nil) (fun w hS => ?_)
        first | exact CS.fin hS rfl | (exfalso; omega) | exact CS.fin hS (by simp_all)
       ·
        refine J.skip ?_
        refine JE.seqN ?_
        refine J.seq ?_
        refine J.seq ?_
        refine J.anyAll [] ?_
        refine WA.take 0 rfl (RD.loadA rfl rfl) rfl (by kernel_rfl) rfl ?_
        refine WA.take 1 rfl (RD.loadA rfl rfl) rfl (by kernel_rfl) rfl ?_
        refine WA.one (i := 2) (by kernel_rfl) ?_
        refine WAi.efS rfl (EF.callN (.cons rfl .nil) (fun w hS => toPebbles_c _ _ _ _ _ _ _ (by exact RdI.rd hS) (by exact RdI.rd hS) (by exact RdI.rd hS) (by omega) (by omega) (by omega))) rfl rfl (fun _ => by repeat (first | exact subM_refl _ | refine subM_app _ ?_ | refine subM_con _ ?_)) ?_
        rintro ⟨f73, t73, p73⟩ -
        refine WA.one (i := 3) (by kernel_rfl) ?_
        refine WAi.efS rfl (EF.callS (.cons rfl (.cons rfl .nil)) (fun w hS => eqPebbles_c _ _ _ _ _ _ _ _ _ _ _ _ _ (by exact RdI.rd hS) (by exact RdI.rd hS) (by exact RdI.rd hS) (by exact RdI.rd hS) (by exact RdI.rd hS) (by exact RdI.rd hS))) rfl rfl (fun _ => by repeat (first | exact subM_refl _ | refine subM_app _ ?_ | refine subM_con _ ?_)) ?_
        rintro ⟨⟩ -
        refine WA.takeP 4 rfl (RDP.of fun _ => RD.notP rfl) rfl (by kernel_rfl) rfl ?_
        refine WA.done (by kernel_rfl) ?_
        refine JE.seqN ?_
        refine J.condP rfl (fun hc75 => ?_) (fun hc75 => ?_)
        ·
         refine J.seq ?_
         refine J.reg ?_
         refine WL.rd (RD.assign rfl) rfl rfl ?_
         refine WL.nil ?_
         refine JE.seqN ?_
         refine J.ret ?_
         refine JE.ret rfl (.tmp rfl .nil) (fun w hS => ?_)
         first | exact CS.fin hS rfl | (exfalso; omega) | exact CS.fin hS (by simp_all)
        ·
         refine J.skip ?_
         refine JE.seqN ?_
         refine J.seq ?_
         refine J.reg ?_
         refine WL.rd (RD.assign rfl) rfl rfl ?_
         refine WL.nil ?_
         refine JE.seqN ?_
         refine J.seq ?_
         refine J.reg ?_
         refine WL.rd (RD.loadA rfl rfl) rfl rfl ?_
         refine WL.rd (RD.move rfl) rfl rfl ?_
         refine WL.efS (EF.callM (.cons rfl (.cons rfl .nil)) (.row .nil) .nil (fun w hS => markGraph_c _ _ _ _ _ (by omega) (by omega)) (by simp [En.rdb])) rfl rfl ?_
         rintro ⟨⟩ -
         refine WL.rd (RD.assign rfl) rfl rfl ?_
         refine WL.nil ?_
         refine JE.seqN ?_
         refine J.seq ?_
         refine J.reg ?_
         refine WL.rd (RD.loadA rfl rfl) rfl rfl ?_
         refine WL.rd (RD.move rfl) rfl rfl ?_
         refine WL.efS (EF.callM (.cons rfl (.cons rfl .nil)) (.row (.row (.row .nil))) .nil (fun w hS => markPebbles_c _ _ _ _ _ _ _ _ (by omega) (by omega) (by omega) (by omega)) (by simp [En.rdb])) rfl rfl ?_
         rintro ⟨⟩ -
         refine WL.rd (RD.assign rfl) rfl rfl ?_
         refine WL.nil ?_
         refine JE.seqN ?_
         refine J.seq ?_
         refine J.seq ?_
         refine J.reg ?_
         refine WL.rd (RD.move rfl) rfl rfl ?_
         refine WL.rd (RD.lss rfl rfl) rfl rfl ?_
         refine WL.rd (RD.move rfl) rfl rfl ?_
         refine WL.caseP 84 rfl (fun hg84 => ?_) (fun hg84 => ?_)
         ·
          refine WL.noS rfl rfl ?_
          refine WL.noS rfl rfl ?_
          refine WL.noS rfl rfl ?_
          refine WL.noS rfl rfl ?_
          refine WL.rd (RD.pickT rfl rfl) rfl rfl ?_
          refine WL.rd (RD.move rfl) rfl rfl ?_
          refine WL.noS rfl rfl ?_
          refine WL.noS rfl rfl ?_
          refine WL.noS rfl rfl ?_
          refine WL.rd (RD.pickT rfl rfl) rfl rfl ?_
          refine WL.nil ?_
          refine JE.seqN ?_
          refine J.condT rfl ?_
          refine J.seq ?_
          refine J.reg ?_
          refine WL.rd (RD.assign rfl) rfl rfl ?_
          refine WL.nil ?_
          refine JE.seqN ?_
          refine J.ret ?_
          refine JE.ret rfl (.tmp rfl .nil) (fun w hS => ?_)
          first | exact CS.fin hS rfl | (exfalso; omega) | exact CS.fin hS (by simp_all [mkRes])
         ·
          refine WL.rd (RD.loadA rfl rfl) rfl rfl ?_
          refine WL.rd (RD.loadA rfl rfl) rfl rfl ?_
          refine WL.efS (EF.callS (.cons rfl (.cons rfl .nil)) (fun w hS => eqPebbles_c _ _ _ _ _ _ _ _ _ _ _ _ _ (by exact RdI.rd hS) (by exact RdI.rd hS) (by exact RdI.rd hS) (by exact RdI.rd hS) (by exact RdI.rd hS) (by exact RdI.rd hS))) rfl rfl ?_
          rintro ⟨⟩ -
          refine WL.rd (RD.notP rfl) rfl rfl ?_
          refine WL.rd (RD.pickF rfl rfl) rfl rfl ?_
          refine WL.rd (RD.move rfl) rfl rfl ?_
          refine WL.caseP 90 rfl (fun hg90 => ?_) (fun hg90 => ?_)
          ·
           refine WL.noS rfl rfl ?_
           refine WL.noS rfl rfl ?_
           refine WL.noS rfl rfl ?_
           refine WL.rd (RD.pickT rfl rfl) rfl rfl ?_
           refine WL.nil ?_
           refine JE.seqN ?_
           refine J.condT rfl ?_
           refine J.seq ?_
           refine J.reg ?_
           refine WL.rd (RD.assign rfl) rfl rfl ?_
           refine WL.nil ?_
           refine JE.seqN ?_
           refine J.ret ?_
           refine JE.ret rfl (.tmp rfl .nil) (fun w hS => ?_)
           first | exact CS.fin hS rfl | (exfalso; omega) | exact CS.fin hS (by simp_all)
          ·
           refine WL.rd (RD.move rfl) rfl rfl ?_
           refine WL.rd (RD.move rfl) rfl rfl ?_
           refine WL.rd (RD.neqB rfl rfl) rfl rfl ?_
           refine WL.rd (RD.pickF rfl rfl) rfl rfl ?_
           refine WL.nil ?_
           refine JE.seqN ?_
           refine J.cond rfl (fun hc94 => ?_) (fun hc94 => ?_)
           ·
            refine J.seq ?_
            refine J.reg ?_
            refine WL.rd (RD.assign rfl) rfl rfl ?_
            refine WL.nil ?_
            refine JE.seqN ?_
            refine J.ret ?_
            refine JE.ret rfl (.tmp rfl .nil) (fun w hS => ?_)
            first | exact CS.fin hS rfl | (exfalso; omega) | exact CS.fin hS (by simp_all)
           ·
            refine J.skip ?_
            refine JE.seqN ?_
            refine J.seq ?_
            refine J.reg ?_
            refine WL.rd (RD.assign rfl) rfl rfl ?_
            refine WL.nil ?_
            refine JE.seqN ?_
            refine J.seq ?_
            refine J.reg ?_
            refine WL.rd (RD.loadA rfl rfl) rfl rfl ?_
            refine WL.rd (RD.move rfl) rfl rfl ?_
            refine WL.efS (EF.callM (.cons rfl (.cons rfl .nil)) (.row (.row (.row .nil))) .nil (fun w hS => markPebbles_c _ _ _ _ _ _ _ _ (by omega) (by omega) (by omega) (by omega)) (by simp [En.rdb])) rfl rfl ?_
            rintro ⟨⟩ -
            refine WL.rd (RD.assign rfl) rfl rfl ?_
            refine WL.nil ?_
            refine JE.seqN ?_
            refine J.seq ?_
            refine J.reg ?_
            refine WL.rd (RD.assign rfl) rfl rfl ?_
            refine WL.nil ?_
            refine JE.seqN ?_
            refine J.seq ?_
            refine J.reg ?_
            refine WL.rd (RD.loadA rfl rfl) rfl rfl ?_
            refine WL.rd (RD.move rfl) rfl rfl ?_
            refine WL.efS (EF.callS (.cons rfl (.cons rfl .nil)) (fun w hS => heldPebbles_c _ _ _ _ _ _ _ _ (by exact RdI.rd hS) (by exact RdI.rd hS) (by exact RdI.rd hS) (by omega) (by omega) (by omega) (by omega))) rfl rfl ?_
            rintro ⟨⟩ -
            refine WL.rd (RD.assign rfl) rfl rfl ?_
            refine WL.nil ?_
            refine JE.seqN ?_
            refine J.seq ?_
            refine J.seq ?_
            refine J.reg ?_
            refine WL.rd (RD.move rfl) rfl rfl ?_
            refine WL.rd (RD.lss rfl rfl) rfl rfl ?_
            refine WL.nil ?_
            refine JE.seqN ?_
            refine J.condP rfl (fun hc102 => ?_) (fun hc102 => ?_)
            ·
             refine J.seq ?_
             refine J.reg ?_
             refine WL.rd (RD.assign rfl) rfl rfl ?_
             refine WL.nil ?_
             refine JE.seqN ?_
             refine J.ret ?_
             refine JE.ret rfl (.tmp rfl .nil) (fun w hS => ?_)
             first | exact CS.fin hS rfl | (exfalso; omega) | exact CS.fin hS (by simp_all [mkRes])
            ·
             refine J.skip ?_
             refine JE.seqN ?_
             refine J.seq ?_
             refine J.seq ?_
             refine J.reg ?_
             refine WL.rd (RD.move rfl) rfl rfl ?_
             refine WL.rd (RD.move rfl) rfl rfl ?_
             refine WL.rd (RD.neq rfl rfl) rfl rfl ?_
             refine WL.nil ?_
             refine JE.seqN ?_
             refine J.condP rfl (fun hc105 => ?_) (fun hc105 => ?_)
             ·
              refine J.seq ?_
              refine J.reg ?_
              refine WL.rd (RD.assign rfl) rfl rfl ?_
              refine WL.nil ?_
              refine JE.seqN ?_
              refine J.ret ?_
              refine JE.ret rfl (.tmp rfl .nil) (fun w hS => ?_)
              first | exact CS.fin hS rfl | (exfalso; omega) | exact CS.fin hS (by simp_all [mkRes])
             ·
              refine J.skip ?_
              refine JE.seqN ?_
              refine J.seq ?_
              refine J.anyAll [12, 13] ?_
              refine WA.take 0 rfl (RD.loadA rfl rfl) rfl (by kernel_rfl) rfl ?_
              refine WA.takeP 2 rfl (RDP.of fun _ => RD.move rfl) rfl (by kernel_rfl) rfl ?_
              refine WA.takeP 3 rfl (RDP.of fun _ => RD.move rfl) rfl (by kernel_rfl) rfl ?_
              refine WA.take 4 rfl (RD.loadA rfl rfl) rfl (by kernel_rfl) rfl ?_
              refine WA.takeP 6 rfl (RDP.of fun _ => RD.move rfl) rfl (by kernel_rfl) rfl ?_
              refine WA.two (i := 1) (j := 11) (by kernel_rfl) ?_ ?_
              ·
               refine WAi.efS rfl (EF.callN (.cons rfl .nil) (fun w hS => toGraph_c _ _ _ _ (by exact RdI.rd hS) (by omega))) rfl rfl (fun _ => by repeat (first | exact subM_refl _ | refine subM_app _ ?_ | refine subM_con _ ?_)) ?_
               rintro v108 -
               refine WA.two (i := 5) (j := 11) (by kernel_rfl) ?_ ?_
               ·
                refine WAi.efS rfl (EF.callN (.cons rfl .nil) (fun w hS => toPebbles_c _ _ _ _ _ _ _ (by exact RdI.rd hS) (by exact RdI.rd hS) (by exact RdI.rd hS) (by omega) (by omega) (by omega))) rfl rfl (fun _ => by repeat (first | exact subM_refl _ | refine subM_app _ ?_ | refine subM_con _ ?_)) ?_
                rintro ⟨f112, t112, p112⟩ -
                refine WA.two (i := 7) (j := 11) (by kernel_rfl) ?_ ?_
                ·
                 refine WAi.efS rfl (EF.callN (.cons rfl (.cons rfl (.cons rfl (.cons rfl (.cons rfl .nil))))) (fun w hS => iPlaceBar_c _ _ _ _ _ _ _ _ _ _ _ _ _ (by exact RdI.rd hS) (by exact RdI.rd hS) (by exact RdI.rd hS) (by exact RdI.rd hS) (by assumption) (by omega) (by omega) (by omega) (by omega) (by first | assumption | omega))) rfl rfl (fun _ => by repeat (first | exact subM_refl _ | refine subM_app _ ?_ | refine subM_con _ ?_)) ?_
                 rintro ⟨f114, t114, p114⟩ -
                 refine WA.takeP 8 rfl (RDP.of fun _ => RD.move rfl) rfl (by kernel_rfl) rfl ?_
                 refine WA.takeP 9 rfl (RDP.of fun _ => RD.extract rfl rfl) rfl (by kernel_rfl) rfl ?_
                 refine WA.takeP 10 rfl (RDP.of fun _ => RD.extract rfl rfl) rfl (by kernel_rfl) rfl ?_
                 refine WA.one (i := 11) (by kernel_rfl) ?_
                 refine WAi.efS rfl (by exact EF.allocA) rfl rfl (fun _ => by repeat (first | exact subM_refl _ | refine subM_app _ ?_ | refine subM_con _ ?_)) ?_
                 intro b21 _
                 refine WA.one (i := 12) (by kernel_rfl) ?_
                 refine WAi.efNL rfl (EF.storeA rfl rfl rfl rfl) rfl rfl ?_
                 rintro ⟨⟩ -
                 refine WB.takeP 13 rfl (RDP.of fun _ => RD.assign rfl) rfl (by kernel_rfl) rfl ?_
                 refine WB.done (by kernel_rfl) ?_
                 refine JE.seqN ?_
                 refine J.seq ?_
                 refine J.seq ?_
                 refine J.reg ?_
                 refine WL.rd (RD.loadA rfl rfl) rfl rfl ?_
                 refine WL.rd (RD.loadA rfl rfl) rfl rfl ?_
                 refine WL.efS (EF.callS (.cons rfl (.cons rfl .nil)) (fun w hS => eqPebbles_c _ _ _ _ _ _ _ _ _ _ _ _ _ (by exact RdI.rd hS) (by exact RdI.rd hS) (by exact RdI.rd hS) (by exact RdI.rd hS) (by exact RdI.rd hS) (by exact RdI.rd hS))) rfl rfl ?_
                 rintro ⟨⟩ -
                 refine WL.rd (RD.notP rfl) rfl rfl ?_
                 refine WL.rd (RD.move rfl) rfl rfl ?_
                 refine WL.caseP 121 rfl (fun hg121 => ?_) (fun hg121 => ?_)
                 ·
                  refine WL.noS rfl rfl ?_
                  refine WL.noS rfl rfl ?_
                  refine WL.noS rfl rfl ?_
                  refine WL.rd (RD.pickT rfl rfl) rfl rfl ?_
                  refine WL.nil ?_
                  refine JE.seqN ?_
                  refine J.condT rfl ?_
                  refine J.seq ?_
                  refine J.reg ?_
                  refine WL.rd (RD.assign rfl) rfl rfl ?_
                  refine WL.nil ?_
                  refine JE.seqN ?_
                  refine J.ret ?_
                  refine JE.ret rfl (.tmp rfl .nil) (fun w hS => ?_)
                  first | exact CS.fin hS rfl | (exfalso; omega) | exact CS.fin hS (by simp_all)
                 ·
                  refine WL.rd (RD.move rfl) rfl rfl ?_
                  refine WL.rd (RD.move rfl) rfl rfl ?_
                  refine WL.rd (RD.neqB rfl rfl) rfl rfl ?_
                  refine WL.rd (RD.pickF rfl rfl) rfl rfl ?_
                  refine WL.nil ?_
                  refine JE.seqN ?_
                  refine J.cond rfl (fun hc125 => ?_) (fun hc125 => ?_)
                  ·
                   refine J.seq ?_
                   refine J.reg ?_
                   refine WL.rd (RD.assign rfl) rfl rfl ?_
                   refine WL.nil ?_
                   refine JE.seqN ?_
                   refine J.ret ?_
                   refine JE.ret rfl (.tmp rfl .nil) (fun w hS => ?_)
                   first | exact CS.fin hS rfl | (exfalso; omega) | exact CS.fin hS (by simp_all)
                  ·
                   refine J.skip ?_
                   refine JE.seqN ?_
                   refine J.seq ?_
                   refine J.reg ?_
                   refine WL.rd (RD.assign rfl) rfl rfl ?_
                   refine WL.nil ?_
                   refine JE.seqN ?_
                   refine J.seq ?_
                   refine J.reg ?_
                   refine WL.rd (RD.loadA rfl rfl) rfl rfl ?_
                   refine WL.rd (RD.move rfl) rfl rfl ?_
                   refine WL.efS (EF.callS (.cons rfl (.cons rfl .nil)) (fun w hS => heldPebbles_c _ _ _ _ _ _ _ _ (by exact RdI.rd hS) (by exact RdI.rd hS) (by exact RdI.rd hS) (by omega) (by omega) (by omega) (by omega))) rfl rfl ?_
                   rintro ⟨⟩ -
                   refine WL.rd (RD.assign rfl) rfl rfl ?_
                   refine WL.nil ?_
                   refine JE.seqN ?_
                   refine J.seq ?_
                   refine J.seq ?_
                   refine J.reg ?_
                   refine WL.rd (RD.move rfl) rfl rfl ?_
                   refine WL.rd (RD.lss rfl rfl) rfl rfl ?_
                   refine WL.nil ?_
                   refine JE.seqN ?_
                   refine J.condP rfl (fun hc130 => ?_) (fun hc130 => ?_)
                   ·
                    refine J.seq ?_
                    refine J.reg ?_
                    refine WL.rd (RD.assign rfl) rfl rfl ?_
                    refine WL.nil ?_
                    refine JE.seqN ?_
                    refine J.ret ?_
                    refine JE.ret rfl (.tmp rfl .nil) (fun w hS => ?_)
                    first | exact CS.fin hS rfl | (exfalso; omega) | exact CS.fin hS (by simp_all [mkRes])
                   ·
                    refine J.skip ?_
                    refine JE.seqN ?_
                    refine J.seq ?_
                    refine J.seq ?_
                    refine J.reg ?_
                    refine WL.rd (RD.move rfl) rfl rfl ?_
                    refine WL.rd (RD.move rfl) rfl rfl ?_
                    refine WL.rd (RD.neq rfl rfl) rfl rfl ?_
                    refine WL.nil ?_
                    refine JE.seqN ?_
                    refine J.condP rfl (fun hc133 => ?_) (fun hc133 => ?_)
                    ·
                     refine J.seq ?_
                     refine J.reg ?_
                     refine WL.rd (RD.assign rfl) rfl rfl ?_
                     refine WL.nil ?_
                     refine JE.seqN ?_
                     refine J.ret ?_
                     refine JE.ret rfl (.tmp rfl .nil) (fun w hS => ?_)
                     first | exact CS.fin hS rfl | (exfalso; omega) | exact CS.fin hS (by simp_all [mkRes])
                    ·
                     refine J.skip ?_
                     refine JE.seqN ?_
                     refine J.seq ?_
                     refine J.reg ?_
                     refine WL.rd (RD.assign rfl) rfl rfl ?_
                     refine WL.nil ?_
                     refine JE.seqN ?_
                     refine J.ret ?_
                     refine JE.ret rfl (.tmp rfl .nil) (fun w hS => ?_)
                     first | exact CS.fin hS rfl | (exfalso; omega) | exact CS.fin hS (by simp_all [mkRes])
                ·
                 refine WAi.efS rfl (by exact EF.allocA) rfl rfl (fun _ => by repeat (first | exact subM_refl _ | refine subM_app _ ?_ | refine subM_con _ ?_)) ?_
                 intro b21 _
                 refine WA.one (i := 7) (by kernel_rfl) ?_
                 refine WAi.efS rfl (EF.callN (.cons rfl (.cons rfl (.cons rfl (.cons rfl (.cons rfl .nil))))) (fun w hS => iPlaceBar_c _ _ _ _ _ _ _ _ _ _ _ _ _ (by exact RdI.rd hS) (by exact RdI.rd hS) (by exact RdI.rd hS) (by exact RdI.rd hS) (by assumption) (by omega) (by omega) (by omega) (by omega) (by first | assumption | omega))) rfl rfl (fun _ => by repeat (first | exact subM_refl _ | refine subM_app _ ?_ | refine subM_con _ ?_)) ?_
                 rintro ⟨f114, t114, p114⟩ -
                 refine WA.takeP 8 rfl (RDP.of fun _ => RD.move rfl) rfl (by kernel_rfl) rfl ?_
                 refine WA.takeP 9 rfl (RDP.of fun _ => RD.extract rfl rfl) rfl (by kernel_rfl) rfl ?_
                 refine WA.takeP 10 rfl (RDP.of fun _ => RD.extract rfl rfl) rfl (by kernel_rfl) rfl ?_
                 refine WA.one (i := 12) (by kernel_rfl) ?_
                 refine WAi.efNL rfl (EF.storeA rfl rfl rfl rfl) rfl rfl ?_
                 rintro ⟨⟩ -
                 refine WB.takeP 13 rfl (RDP.of fun _ => RD.assign rfl) rfl (by kernel_rfl) rfl ?_
                 refine WB.done (by kernel_rfl) ?_
                 refine JE.seqN ?_
                 refine J.seq ?_
                 refine J.seq ?_
                 refine J.reg ?_
                 refine WL.rd (RD.loadA rfl rfl) rfl rfl ?_
                 refine WL.rd (RD.loadA rfl rfl) rfl rfl ?_
                 refine WL.efS (EF.callS (.cons rfl (.cons rfl .nil)) (fun w hS => eqPebbles_c _ _ _ _ _ _ _ _ _ _ _ _ _ (by exact RdI.rd hS) (by exact RdI.rd hS) (by exact RdI.rd hS) (by exact RdI.rd hS) (by exact RdI.rd hS) (by exact RdI.rd hS))) rfl rfl ?_
                 rintro ⟨⟩ -
                 refine WL.rd (RD.notP rfl) rfl rfl ?_
                 refine WL.rd (RD.move rfl) rfl rfl ?_
                 refine WL.caseP 121 rfl (fun hg121 => ?_) (fun hg121 => ?_)
                 ·
                  refine WL.noS rfl rfl ?_
                  refine WL.noS rfl rfl ?_
                  refine WL.noS rfl rfl ?_
                  refine WL.rd (RD.pickT rfl rfl) rfl rfl ?_
                  refine WL.nil ?_
                  refine JE.seqN ?_
                  refine J.condT rfl ?_
                  refine J.seq ?_
                  refine J.reg ?_
                  refine WL.rd (RD.assign rfl) rfl rfl ?_
                  refine WL.nil ?_
                  refine JE.seqN ?_
                  refine J.ret ?_
                  refine JE.ret rfl (.tmp rfl .nil) (fun w hS => ?_)
                  first | exact CS.fin hS rfl | (exfalso; omega) | exact CS.fin hS (by simp_all)
                 ·
                  refine WL.rd (RD.move rfl) rfl rfl ?_
                  refine WL.rd (RD.move rfl) rfl rfl ?_
                  refine WL.rd (RD.neqB rfl rfl) rfl rfl ?_
                  refine WL.rd (RD.pickF rfl rfl) rfl rfl ?_
                  refine WL.nil ?_
                  refine JE.seqN ?_
                  refine J.cond rfl (fun hc125 => ?_) (fun hc125 => ?_)
                  ·
                   refine J.seq ?_
                   refine J.reg ?_
                   refine WL.rd (RD.assign rfl) rfl rfl ?_
                   refine WL.nil ?_
                   refine JE.seqN ?_
                   refine J.ret ?_
                   refine JE.ret rfl (.tmp rfl .nil) (fun w hS => ?_)
                   first | exact CS.fin hS rfl | (exfalso; omega) | exact CS.fin hS (by simp_all)
                  ·
                   refine J.skip ?_
                   refine JE.seqN ?_
                   refine J.seq ?_
                   refine J.reg ?_
                   refine WL.rd (RD.assign rfl) rfl rfl ?_
                   refine WL.nil ?_
                   refine JE.seqN ?_
                   refine J.seq ?_
                   refine J.reg ?_
                   refine WL.rd (RD.loadA rfl rfl) rfl rfl ?_
                   refine WL.rd (RD.move rfl) rfl rfl ?_
                   refine WL.efS (EF.callS (.cons rfl (.cons rfl .nil)) (fun w hS => heldPebbles_c _ _ _ _ _ _ _ _ (by exact RdI.rd hS) (by exact RdI.rd hS) (by exact RdI.rd hS) (by omega) (by omega) (by omega) (by omega))) rfl rfl ?_
                   rintro ⟨⟩ -
                   refine WL.rd (RD.assign rfl) rfl rfl ?_
                   refine WL.nil ?_
                   refine JE.seqN ?_
                   refine J.seq ?_
                   refine J.seq ?_
                   refine J.reg ?_
                   refine WL.rd (RD.move rfl) rfl rfl ?_
                   refine WL.rd (RD.lss rfl rfl) rfl rfl ?_
                   refine WL.nil ?_
                   refine JE.seqN ?_
                   refine J.condP rfl (fun hc130 => ?_) (fun hc130 => ?_)
                   ·
                    refine J.seq ?_
                    refine J.reg ?_
                    refine WL.rd (RD.assign rfl) rfl rfl ?_
                    refine WL.nil ?_
                    refine JE.seqN ?_
                    refine J.ret ?_
                    refine JE.ret rfl (.tmp rfl .nil) (fun w hS => ?_)
                    first | exact CS.fin hS rfl | (exfalso; omega) | exact CS.fin hS (by simp_all [mkRes])
                   ·
                    refine J.skip ?_
                    refine JE.seqN ?_
                    refine J.seq ?_
                    refine J.seq ?_
                    refine J.reg ?_
                    refine WL.rd (RD.move rfl) rfl rfl ?_
                    refine WL.rd (RD.move rfl) rfl rfl ?_
                    refine WL.rd (RD.neq rfl rfl) rfl rfl ?_
                    refine WL.nil ?_
                    refine JE.seqN ?_
                    refine J.condP rfl (fun hc133 => ?_) (fun hc133 => ?_)
                    ·
                     refine J.seq ?_
                     refine J.reg ?_
                     refine WL.rd (RD.assign rfl) rfl rfl ?_
                     refine WL.nil ?_
                     refine JE.seqN ?_
                     refine J.ret ?_
                     refine JE.ret rfl (.tmp rfl .nil) (fun w hS => ?_)
                     first | exact CS.fin hS rfl | (exfalso; omega) | exact CS.fin hS (by simp_all [mkRes])
                    ·
                     refine J.skip ?_
                     refine JE.seqN ?_
                     refine J.seq ?_
                     refine J.reg ?_
                     refine WL.rd (RD.assign rfl) rfl rfl ?_
                     refine WL.nil ?_
                     refine JE.seqN ?_
                     refine J.ret ?_
                     refine JE.ret rfl (.tmp rfl .nil) (fun w hS => ?_)
                     first | exact CS.fin hS rfl | (exfalso; omega) | exact CS.fin hS (by simp_all [mkRes])
               ·
                refine WAi.efS rfl (by exact EF.allocA) rfl rfl (fun _ => by repeat (first | exact subM_refl _ | refine subM_app _ ?_ | refine subM_con _ ?_)) ?_
                intro b21 _
                refine WA.one (i := 5) (by kernel_rfl) ?_
                refine WAi.efS rfl (EF.callN (.cons rfl .nil) (fun w hS => toPebbles_c _ _ _ _ _ _ _ (by exact RdI.rd hS) (by exact RdI.rd hS) (by exact RdI.rd hS) (by omega) (by omega) (by omega))) rfl rfl (fun _ => by repeat (first | exact subM_refl _ | refine subM_app _ ?_ | refine subM_con _ ?_)) ?_
                rintro ⟨f112, t112, p112⟩ -
                refine WA.one (i := 7) (by kernel_rfl) ?_
                refine WAi.efS rfl (EF.callN (.cons rfl (.cons rfl (.cons rfl (.cons rfl (.cons rfl .nil))))) (fun w hS => iPlaceBar_c _ _ _ _ _ _ _ _ _ _ _ _ _ (by exact RdI.rd hS) (by exact RdI.rd hS) (by exact RdI.rd hS) (by exact RdI.rd hS) (by assumption) (by omega) (by omega) (by omega) (by omega) (by first | assumption | omega))) rfl rfl (fun _ => by repeat (first | exact subM_refl _ | refine subM_app _ ?_ | refine subM_con _ ?_)) ?_
                rintro ⟨f114, t114, p114⟩ -
                refine WA.takeP 8 rfl (RDP.of fun _ => RD.move rfl) rfl (by kernel_rfl) rfl ?_
                refine WA.takeP 9 rfl (RDP.of fun _ => RD.extract rfl rfl) rfl (by kernel_rfl) rfl ?_
                refine WA.takeP 10 rfl (RDP.of fun _ => RD.extract rfl rfl) rfl (by kernel_rfl) rfl ?_
                refine WA.one (i := 12) (by kernel_rfl) ?_
                refine WAi.efNL rfl (EF.storeA rfl rfl rfl rfl) rfl rfl ?_
                rintro ⟨⟩ -
                refine WB.takeP 13 rfl (RDP.of fun _ => RD.assign rfl) rfl (by kernel_rfl) rfl ?_
                refine WB.done (by kernel_rfl) ?_
                refine JE.seqN ?_
                refine J.seq ?_
                refine J.seq ?_
                refine J.reg ?_
                refine WL.rd (RD.loadA rfl rfl) rfl rfl ?_
                refine WL.rd (RD.loadA rfl rfl) rfl rfl ?_
                refine WL.efS (EF.callS (.cons rfl (.cons rfl .nil)) (fun w hS => eqPebbles_c _ _ _ _ _ _ _ _ _ _ _ _ _ (by exact RdI.rd hS) (by exact RdI.rd hS) (by exact RdI.rd hS) (by exact RdI.rd hS) (by exact RdI.rd hS) (by exact RdI.rd hS))) rfl rfl ?_
                rintro ⟨⟩ -
                refine WL.rd (RD.notP rfl) rfl rfl ?_
                refine WL.rd (RD.move rfl) rfl rfl ?_
                refine WL.caseP 121 rfl (fun hg121 => ?_) (fun hg121 => ?_)
                ·
                 refine WL.noS rfl rfl ?_
                 refine WL.noS rfl rfl ?_
                 refine WL.noS rfl rfl ?_
                 refine WL.rd (RD.pickT rfl rfl) rfl rfl ?_
                 refine WL.nil ?_
                 refine JE.seqN ?_
                 refine J.condT rfl ?_
                 refine J.seq ?_
                 refine J.reg ?_
                 refine WL.rd (RD.assign rfl) rfl rfl ?_
                 refine WL.nil ?_
                 refine JE.seqN ?_
                 refine J.ret ?_
                 refine JE.ret rfl (.tmp rfl .nil) (fun w hS => ?_)
                 first | exact CS.fin hS rfl | (exfalso; omega) | exact CS.fin hS (by simp_all)
                ·
                 refine WL.rd (RD.move rfl) rfl rfl ?_
                 refine WL.rd (RD.move rfl) rfl rfl ?_
                 refine WL.rd (RD.neqB rfl rfl) rfl rfl ?_
                 refine WL.rd (RD.pickF rfl rfl) rfl rfl ?_
                 refine WL.nil ?_
                 refine JE.seqN ?_
                 refine J.cond rfl (fun hc125 => ?_) (fun hc125 => ?_)
                 ·
                  refine J.seq ?_
                  refine J.reg ?_
                  refine WL.rd (RD.assign rfl) rfl rfl ?_
                  refine WL.nil ?_
                  refine JE.seqN ?_
                  refine J.ret ?_
                  refine JE.ret rfl (.tmp rfl .nil) (fun w hS => ?_)
                  first | exact CS.fin hS rfl | (exfalso; omega) | exact CS.fin hS (by simp_all)
                 ·
                  refine J.skip ?_
                  refine JE.seqN ?_
                  refine J.seq ?_
                  refine J.reg ?_
                  refine WL.rd (RD.assign rfl) rfl rfl ?_
                  refine WL.nil ?_
                  refine JE.seqN ?_
                  refine J.seq ?_
                  refine J.reg ?_
                  refine WL.rd (RD.loadA rfl rfl) rfl rfl ?_
                  refine WL.rd (RD.move rfl) rfl rfl ?_
                  refine WL.efS (EF.callS (.cons rfl (.cons rfl .nil)) (fun w hS => heldPebbles_c _ _ _ _ _ _ _ _ (by exact RdI.rd hS) (by exact RdI.rd hS) (by exact RdI.rd hS) (by omega) (by omega) (by omega) (by omega))) rfl rfl ?_
                  rintro ⟨⟩ -
                  refine WL.rd (RD.assign rfl) rfl rfl ?_
                  refine WL.nil ?_
                  refine JE.seqN ?_
                  refine J.seq ?_
                  refine J.seq ?_
                  refine J.reg ?_
                  refine WL.rd (RD.move rfl) rfl rfl ?_
                  refine WL.rd (RD.lss rfl rfl) rfl rfl ?_
                  refine WL.nil ?_
                  refine JE.seqN ?_
                  refine J.condP rfl (fun hc130 => ?_) (fun hc130 => ?_)
                  ·
                   refine J.seq ?_
                   refine J.reg ?_
                   refine WL.rd (RD.assign rfl) rfl rfl ?_
                   refine WL.nil ?_
                   refine JE.seqN ?_
                   refine J.ret ?_
                   refine JE.ret rfl (.tmp rfl .nil) (fun w hS => ?_)
                   first | exact CS.fin hS rfl | (exfalso; omega) | exact CS.fin hS (by simp_all [mkRes])
                  ·
                   refine J.skip ?_
                   refine JE.seqN ?_
                   refine J.seq ?_
                   refine J.seq ?_
                   refine J.reg ?_
                   refine WL.rd (RD.move rfl) rfl rfl ?_
                   refine WL.rd (RD.move rfl) rfl rfl ?_
                   refine WL.rd (RD.neq rfl rfl) rfl rfl ?_
                   refine WL.nil ?_
                   refine JE.seqN ?_
                   refine J.condP rfl (fun hc133 => ?_) (fun hc133 => ?_)
                   ·
                    refine J.seq ?_
                    refine J.reg ?_
                    refine WL.rd (RD.assign rfl) rfl rfl ?_
                    refine WL.nil ?_
                    refine JE.seqN ?_
                    refine J.ret ?_
                    refine JE.ret rfl (.tmp rfl .nil) (fun w hS => ?_)
                    first | exact CS.fin hS rfl | (exfalso; omega) | exact CS.fin hS (by simp_all [mkRes])
                   ·
                    refine J.skip ?_
                    refine JE.seqN ?_
                    refine J.seq ?_
                    refine J.reg ?_
                    refine WL.rd (RD.assign rfl) rfl rfl ?_
                    refine WL.nil ?_
                    refine JE.seqN ?_
                    refine J.ret ?_
                    refine JE.ret rfl (.tmp rfl .nil) (fun w hS => ?_)
                    first | exact CS.fin hS rfl | (exfalso; omega) | exact CS.fin hS (by simp_all [mkRes])
              ·
               refine WAi.efS rfl (by exact EF.allocA) rfl rfl (fun _ => by repeat (first | exact subM_refl _ | refine subM_app _ ?_ | refine subM_con _ ?_)) ?_
               intro b21 _
               refine WA.one (i := 1) (by kernel_rfl) ?_
               refine WAi.efS rfl (EF.callN (.cons rfl .nil) (fun w hS => toGraph_c _ _ _ _ (by exact RdI.rd hS) (by omega))) rfl rfl (fun _ => by repeat (first | exact subM_refl _ | refine subM_app _ ?_ | refine subM_con _ ?_)) ?_
               rintro v108 -
               refine WA.one (i := 5) (by kernel_rfl) ?_
               refine WAi.efS rfl (EF.callN (.cons rfl .nil) (fun w hS => toPebbles_c _ _ _ _ _ _ _ (by exact RdI.rd hS) (by exact RdI.rd hS) (by exact RdI.rd hS) (by omega) (by omega) (by omega))) rfl rfl (fun _ => by repeat (first | exact subM_refl _ | refine subM_app _ ?_ | refine subM_con _ ?_)) ?_
               rintro ⟨f112, t112, p112⟩ -
               refine WA.one (i := 7) (by kernel_rfl) ?_
               refine WAi.efS rfl (EF.callN (.cons rfl (.cons rfl (.cons rfl (.cons rfl (.cons rfl .nil))))) (fun w hS => iPlaceBar_c _ _ _ _ _ _ _ _ _ _ _ _ _ (by exact RdI.rd hS) (by exact RdI.rd hS) (by exact RdI.rd hS) (by exact RdI.rd hS) (by assumption) (by omega) (by omega) (by omega) (by omega) (by first | assumption | omega))) rfl rfl (fun _ => by repeat (first | exact subM_refl _ | refine subM_app _ ?_ | refine subM_con _ ?_)) ?_
               rintro ⟨f114, t114, p114⟩ -
               refine WA.takeP 8 rfl (RDP.of fun _ => RD.move rfl) rfl (by kernel_rfl) rfl ?_
               refine WA.takeP 9 rfl (RDP.of fun _ => RD.extract rfl rfl) rfl (by kernel_rfl) rfl ?_
               refine WA.takeP 10 rfl (RDP.of fun _ => RD.extract rfl rfl) rfl (by kernel_rfl) rfl ?_
               refine WA.one (i := 12) (by kernel_rfl) ?_
               refine WAi.efNL rfl (EF.storeA rfl rfl rfl rfl) rfl rfl ?_
               rintro ⟨⟩ -
               refine WB.takeP 13 rfl (RDP.of fun _ => RD.assign rfl) rfl (by kernel_rfl) rfl ?_
               refine WB.done (by kernel_rfl) ?_
               refine JE.seqN ?_
               refine J.seq ?_
               refine J.seq ?_
               refine J.reg ?_
               refine WL.rd (RD.loadA rfl rfl) rfl rfl ?_
               refine WL.rd (RD.loadA rfl rfl) rfl rfl ?_
               refine WL.efS (EF.callS (.cons rfl (.cons rfl .nil)) (fun w hS => eqPebbles_c _ _ _ _ _ _ _ _ _ _ _ _ _ (by exact RdI.rd hS) (by exact RdI.rd hS) (by exact RdI.rd hS) (by exact RdI.rd hS) (by exact RdI.rd hS) (by exact RdI.rd hS))) rfl rfl ?_
               rintro ⟨⟩ -
               refine WL.rd (RD.notP rfl) rfl rfl ?_
               refine WL.rd (RD.move rfl) rfl rfl ?_
               refine WL.caseP 121 rfl (fun hg121 => ?_) (fun hg121 => ?_)
               ·
                refine WL.noS rfl rfl ?_
                refine WL.noS rfl rfl ?_
                refine WL.noS rfl rfl ?_
                refine WL.rd (RD.pickT rfl rfl) rfl rfl ?_
                refine WL.nil ?_
                refine JE.seqN ?_
                refine J.condT rfl ?_
                refine J.seq ?_
                refine J.reg ?_
                refine WL.rd (RD.assign rfl) rfl rfl ?_
                refine WL.nil ?_
                refine JE.seqN ?_
                refine J.ret ?_
                refine JE.ret rfl (.tmp rfl .nil) (fun w hS => ?_)
                first | exact CS.fin hS rfl | (exfalso; omega) | exact CS.fin hS (by simp_all)
               ·
                refine WL.rd (RD.move rfl) rfl rfl ?_
                refine WL.rd (RD.move rfl) rfl rfl ?_
                refine WL.rd (RD.neqB rfl rfl) rfl rfl ?_
                refine WL.rd (RD.pickF rfl rfl) rfl rfl ?_
                refine WL.nil ?_
                refine JE.seqN ?_
                refine J.cond rfl (fun hc125 => ?_) (fun hc125 => ?_)
                ·
                 refine J.seq ?_
                 refine J.reg ?_
                 refine WL.rd (RD.assign rfl) rfl rfl ?_
                 refine WL.nil ?_
                 refine JE.seqN ?_
                 refine J.ret ?_
                 refine JE.ret rfl (.tmp rfl .nil) (fun w hS => ?_)
                 first | exact CS.fin hS rfl | (exfalso; omega) | exact CS.fin hS (by simp_all)
                ·
                 refine J.skip ?_
                 refine JE.seqN ?_
                 refine J.seq ?_
                 refine J.reg ?_
                 refine WL.rd (RD.assign rfl) rfl rfl ?_
                 refine WL.nil ?_
                 refine JE.seqN ?_
                 refine J.seq ?_
                 refine J.reg ?_
                 refine WL.rd (RD.loadA rfl rfl) rfl rfl ?_
                 refine WL.rd (RD.move rfl) rfl rfl ?_
                 refine WL.efS (EF.callS (.cons rfl (.cons rfl .nil)) (fun w hS => heldPebbles_c _ _ _ _ _ _ _ _ (by exact RdI.rd hS) (by exact RdI.rd hS) (by exact RdI.rd hS) (by omega) (by omega) (by omega) (by omega))) rfl rfl ?_
                 rintro ⟨⟩ -
                 refine WL.rd (RD.assign rfl) rfl rfl ?_
                 refine WL.nil ?_
                 refine JE.seqN ?_
                 refine J.seq ?_
                 refine J.seq ?_
                 refine J.reg ?_
                 refine WL.rd (RD.move rfl) rfl rfl ?_
                 refine WL.rd (RD.lss rfl rfl) rfl rfl ?_
                 refine WL.nil ?_
                 refine JE.seqN ?_
                 refine J.condP rfl (fun hc130 => ?_) (fun hc130 => ?_)
                 ·
                  refine J.seq ?_
                  refine J.reg ?_
                  refine WL.rd (RD.assign rfl) rfl rfl ?_
                  refine WL.nil ?_
                  refine JE.seqN ?_
                  refine J.ret ?_
                  refine JE.ret rfl (.tmp rfl .nil) (fun w hS => ?_)
                  first | exact CS.fin hS rfl | (exfalso; omega) | exact CS.fin hS (by simp_all [mkRes])
                 ·
                  refine J.skip ?_
                  refine JE.seqN ?_
                  refine J.seq ?_
                  refine J.seq ?_
                  refine J.reg ?_
                  refine WL.rd (RD.move rfl) rfl rfl ?_
                  refine WL.rd (RD.move rfl) rfl rfl ?_
                  refine WL.rd (RD.neq rfl rfl) rfl rfl ?_
                  refine WL.nil ?_
                  refine JE.seqN ?_
                  refine J.condP rfl (fun hc133 => ?_) (fun hc133 => ?_)
                  ·
                   refine J.seq ?_
                   refine J.reg ?_
                   refine WL.rd (RD.assign rfl) rfl rfl ?_
                   refine WL.nil ?_
                   refine JE.seqN ?_
                   refine J.ret ?_
                   refine JE.ret rfl (.tmp rfl .nil) (fun w hS => ?_)
                   first | exact CS.fin hS rfl | (exfalso; omega) | exact CS.fin hS (by simp_all [mkRes])
                  ·
                   refine J.skip ?_
                   refine JE.seqN ?_
                   refine J.seq ?_
                   refine J.reg ?_
                   refine WL.rd (RD.assign rfl) rfl rfl ?_
                   refine WL.nil ?_
                   refine JE.seqN ?_
                   refine J.ret ?_
                   refine JE.ret rfl (.tmp rfl .nil) (fun w hS => ?_)
                   first | exact CS.fin hS rfl | (exfalso; omega) | exact CS.fin hS (by simp_all [mkRes])
   ·
    refine WAi.efS rfl (by exact EF.allocA) rfl rfl (fun _ => by repeat (first | exact subM_refl _ | refine subM_app _ ?_ | refine subM_con _ ?_)) ?_
    intro b12 _
    refine WA.one (i := 1) (by kernel_rfl) ?_
    refine WAi.efS rfl (EF.callN (.cons rfl .nil) (fun w hS => toGraph_c _ _ _ _ (by exact RdI.rd hS) (by omega))) rfl rfl (fun _ => by repeat (first | exact subM_refl _ | refine subM_app _ ?_ | refine subM_con _ ?_)) ?_
    rintro v35 -
    refine WA.one (i := 5) (by kernel_rfl) ?_
    refine WAi.efS rfl (EF.callN (.cons rfl .nil) (fun w hS => toPebbles_c _ _ _ _ _ _ _ (by exact RdI.rd hS) (by exact RdI.rd hS) (by exact RdI.rd hS) (by omega) (by omega) (by omega))) rfl rfl (fun _ => by repeat (first | exact subM_refl _ | refine subM_app _ ?_ | refine subM_con _ ?_)) ?_
    rintro ⟨f39, t39, p39⟩ -
    refine WA.one (i := 7) (by kernel_rfl) ?_
    refine WAi.efS rfl (EF.callN (.cons rfl (.cons rfl (.cons rfl (.cons rfl (.cons rfl .nil))))) (fun w hS => sPlaceBar_c _ _ _ _ _ _ _ _ _ _ _ _ _ (by exact RdI.rd hS) (by exact RdI.rd hS) (by exact RdI.rd hS) (by exact RdI.rd hS) (by assumption) (by omega) (by omega) (by omega) (by omega) (by first | assumption | omega))) rfl rfl (fun _ => by repeat (first | exact subM_refl _ | refine subM_app _ ?_ | refine subM_con _ ?_)) ?_
    rintro ⟨f41, t41, p41⟩ -
    refine WA.takeP 8 rfl (RDP.of fun _ => RD.move rfl) rfl (by kernel_rfl) rfl ?_
    refine WA.takeP 9 rfl (RDP.of fun _ => RD.extract rfl rfl) rfl (by kernel_rfl) rfl ?_
    refine WA.takeP 10 rfl (RDP.of fun _ => RD.extract rfl rfl) rfl (by kernel_rfl) rfl ?_
    refine WA.one (i := 12) (by kernel_rfl) ?_
    refine WAi.efNL rfl (EF.storeA rfl rfl rfl rfl) rfl rfl ?_
    rintro ⟨⟩ -
    refine WB.takeP 13 rfl (RDP.of fun _ => RD.assign rfl) rfl (by kernel_rfl) rfl ?_
    refine WB.done (by kernel_rfl) ?_
    refine JE.seqN ?_
    refine J.seq ?_
    refine J.reg ?_
    refine WL.rd (RD.loadA rfl rfl) rfl rfl ?_
    refine WL.efS (EF.callN (.cons rfl .nil) (fun w hS => toGraph_c _ _ _ _ (by exact RdI.rd hS) (by omega))) rfl rfl ?_
    rintro v45 -
    refine WL.efS (EF.allocA) rfl rfl ?_
    intro b14 _
    refine WL.efN (EF.storeA rfl rfl rfl rfl) rfl ?_
    rintro ⟨⟩ -
    refine WL.nil ?_
    refine JE.seqN ?_
    refine J.seq ?_
    refine J.reg ?_
    refine WL.rd (RD.loadA rfl rfl) rfl rfl ?_
    refine WL.efS (EF.callN (.cons rfl .nil) (fun w hS => toPebbles_c _ _ _ _ _ _ _ (by exact RdI.rd hS) (by exact RdI.rd hS) (by exact RdI.rd hS) (by omega) (by omega) (by omega))) rfl rfl ?_
    rintro ⟨f47, t47, p47⟩ -
    refine WL.efS (EF.allocA) rfl rfl ?_
    intro b15 _
    refine WL.efN (EF.storeA rfl rfl rfl rfl) rfl ?_
    rintro ⟨⟩ -
    refine WL.nil ?_
    refine JE.seqN ?_
    refine J.seq ?_
    refine J.reg ?_
    refine WL.rd (RD.loadA rfl rfl) rfl rfl ?_
    refine WL.rd (RD.move rfl) rfl rfl ?_
    refine WL.rd (RD.move rfl) rfl rfl ?_
    refine WL.rd (RD.loadA rfl rfl) rfl rfl ?_
    refine WL.rd (RD.move rfl) rfl rfl ?_
    refine WL.efS (EF.callN (.cons rfl (.cons rfl (.cons rfl (.cons rfl (.cons rfl .nil))))) (fun w hS => iPlaceBar_c _ _ _ _ _ _ _ _ _ _ _ _ _ (by exact RdI.rd hS) (by exact RdI.rd hS) (by exact RdI.rd hS) (by exact RdI.rd hS) (by assumption) (by omega) (by omega) (by omega) (by omega) (by first | assumption | omega))) rfl rfl ?_
    rintro ⟨f54, t54, p54⟩ -
    refine WL.rd (RD.move rfl) rfl rfl ?_
    refine WL.rd (RD.extract rfl rfl) rfl rfl ?_
    refine WL.rd (RD.extract rfl rfl) rfl rfl ?_
    refine WL.efS (EF.allocA) rfl rfl ?_
    intro b16 _
    refine WL.efN (EF.storeA rfl rfl rfl rfl) rfl ?_
    rintro ⟨⟩ -
    refine WL.rd (RD.assign rfl) rfl rfl ?_
    refine WL.nil ?_
    refine JE.seqN ?_
    refine J.seq ?_
    refine J.seq ?_
    refine J.reg ?_
    refine WL.rd (RD.loadA rfl rfl) rfl rfl ?_
    refine WL.rd (RD.loadA rfl rfl) rfl rfl ?_
    refine WL.efS (EF.callS (.cons rfl (.cons rfl .nil)) (fun w hS => eqPebbles_c _ _ _ _ _ _ _ _ _ _ _ _ _ (by exact RdI.rd hS) (by exact RdI.rd hS) (by exact RdI.rd hS) (by exact RdI.rd hS) (by exact RdI.rd hS) (by exact RdI.rd hS))) rfl rfl ?_
    rintro ⟨⟩ -
    refine WL.rd (RD.notP rfl) rfl rfl ?_
    refine WL.rd (RD.move rfl) rfl rfl ?_
    refine WL.caseP 61 rfl (fun hg61 => ?_) (fun hg61 => ?_)
    ·
     refine WL.noS rfl rfl ?_
     refine WL.noS rfl rfl ?_
     refine WL.noS rfl rfl ?_
     refine WL.rd (RD.pickT rfl rfl) rfl rfl ?_
     refine WL.nil ?_
     refine JE.seqN ?_
     refine J.condT rfl ?_
     refine J.seq ?_
     refine J.reg ?_
     refine WL.rd (RD.assign rfl) rfl rfl ?_
     refine WL.nil ?_
     refine JE.seqN ?_
     refine J.ret ?_
     refine JE.ret rfl (.tmp rfl .nil) (fun w hS => ?_)
     first | exact CS.fin hS rfl | (exfalso; omega) | exact CS.fin hS (by simp_all)
    ·
     refine WL.rd (RD.move rfl) rfl rfl ?_
     refine WL.rd (RD.move rfl) rfl rfl ?_
     refine WL.rd (RD.neqB rfl rfl) rfl rfl ?_
     refine WL.rd (RD.pickF rfl rfl) rfl rfl ?_
     refine WL.nil ?_
     refine JE.seqN ?_
     refine J.cond rfl (fun hc65 => ?_) (fun hc65 => ?_)
     ·
      refine J.seq ?_
      refine J.reg ?_
      refine WL.rd (RD.assign rfl) rfl rfl ?_
      refine WL.nil ?_
      refine JE.seqN ?_
      refine J.ret ?_
      refine JE.ret rfl (.tmp rfl .nil) (fun w hS => ?_)
      first | exact CS.fin hS rfl | (exfalso; omega) | exact CS.fin hS (by simp_all)
     ·
      refine J.skip ?_
      refine JE.seqN ?_
      refine J.seq ?_
      refine J.seq ?_
      refine J.anyAll [] ?_
      refine WA.take 0 rfl (RD.loadA rfl rfl) rfl (by kernel_rfl) rfl ?_
      refine WA.take 1 rfl (RD.loadA rfl rfl) rfl (by kernel_rfl) rfl ?_
      refine WA.one (i := 2) (by kernel_rfl) ?_
      refine WAi.efS rfl (EF.callN (.cons rfl .nil) (fun w hS => toGraph_c _ _ _ _ (by exact RdI.rd hS) (by omega))) rfl rfl (fun _ => by repeat (first | exact subM_refl _ | refine subM_app _ ?_ | refine subM_con _ ?_)) ?_
      rintro v68 -
      refine WA.one (i := 3) (by kernel_rfl) ?_
      refine WAi.efS rfl (EF.callS (.cons rfl (.cons rfl .nil)) (fun w hS => eqGraph_c _ _ _ _ _ _ _ (by exact RdI.rd hS) (by exact RdI.rd hS))) rfl rfl (fun _ => by repeat (first | exact subM_refl _ | refine subM_app _ ?_ | refine subM_con _ ?_)) ?_
      rintro ⟨⟩ -
      refine WA.takeP 4 rfl (RDP.of fun _ => RD.notP rfl) rfl (by kernel_rfl) rfl ?_
      refine WA.done (by kernel_rfl) ?_
      refine JE.seqN ?_
      refine J.condP rfl (fun hc70 => ?_) (fun hc70 => ?_)
      ·
       refine J.seq ?_
       refine J.reg ?_
       refine WL.rd (RD.assign rfl) rfl rfl ?_
       refine WL.nil ?_
       refine JE.seqN ?_
       refine J.ret ?_
       refine JE.ret rfl (.tmp rfl .nil) (fun w hS => ?_)
       first | exact CS.fin hS rfl | (exfalso; omega) | exact CS.fin hS (by simp_all)
      ·
       refine J.skip ?_
       refine JE.seqN ?_
       refine J.seq ?_
       refine J.seq ?_
       refine J.anyAll [] ?_
       refine WA.take 0 rfl (RD.loadA rfl rfl) rfl (by kernel_rfl) rfl ?_
       refine WA.take 1 rfl (RD.loadA rfl rfl) rfl (by kernel_rfl) rfl ?_
       refine WA.one (i := 2) (by kernel_rfl) ?_
       refine WAi.efS rfl (EF.callN (.cons rfl .nil) (fun w hS => toPebbles_c _ _ _ _ _ _ _ (by exact RdI.rd hS) (by exact RdI.rd hS) (by exact RdI.rd hS) (by omega) (by omega) (by omega))) rfl rfl (fun _ => by repeat (first | exact subM_refl _ | refine subM_app _ ?_ | refine subM_con _ ?_)) ?_
       rintro ⟨f73, t73, p73⟩ -
       refine WA.one (i := 3) (by kernel_rfl) ?_
       refine WAi.efS rfl (EF.callS (.cons rfl (.cons rfl .nil)) (fun w hS => eqPebbles_c _ _ _ _ _ _ _ _ _ _ _ _ _ (by exact RdI.rd hS) (by exact RdI.rd hS) (by exact RdI.rd hS) (by exact RdI.rd hS) (by exact RdI.rd hS) (by exact RdI.rd hS))) rfl rfl (fun _ => by repeat (first | exact subM_refl _ | refine subM_app _ ?_ | refine subM_con _ ?_)) ?_
       rintro ⟨⟩ -
       refine WA.takeP 4 rfl (RDP.of fun _ => RD.notP rfl) rfl (by kernel_rfl) rfl ?_
       refine WA.done (by kernel_rfl) ?_
       refine JE.seqN ?_
       refine J.condP rfl (fun hc75 => ?_) (fun hc75 => ?_)
       ·
        refine J.seq ?_
        refine J.reg ?_
        refine WL.rd (RD.assign rfl) rfl rfl ?_
        refine WL.nil ?_
        refine JE.seqN ?_
        refine J.ret ?_
        refine JE.ret rfl (.tmp rfl .nil) (fun w hS => ?_)
        first | exact CS.fin hS rfl | (exfalso; omega) | exact CS.fin hS (by simp_all)
       ·
        refine J.skip ?_
        refine JE.seqN ?_
        refine J.seq ?_
        refine J.reg ?_
        refine WL.rd (RD.assign rfl) rfl rfl ?_
        refine WL.nil ?_
        refine JE.seqN ?_
        refine J.seq ?_
        refine J.reg ?_
        refine WL.rd (RD.loadA rfl rfl) rfl rfl ?_
        refine WL.rd (RD.move rfl) rfl rfl ?_
        refine WL.efS (EF.callM (.cons rfl (.cons rfl .nil)) (.row .nil) .nil (fun w hS => markGraph_c _ _ _ _ _ (by omega) (by omega)) (by simp [En.rdb])) rfl rfl ?_
        rintro ⟨⟩ -
        refine WL.rd (RD.assign rfl) rfl rfl ?_
        refine WL.nil ?_
        refine JE.seqN ?_
        refine J.seq ?_
        refine J.reg ?_
        refine WL.rd (RD.loadA rfl rfl) rfl rfl ?_
        refine WL.rd (RD.move rfl) rfl rfl ?_
        refine WL.efS (EF.callM (.cons rfl (.cons rfl .nil)) (.row (.row (.row .nil))) .nil (fun w hS => markPebbles_c _ _ _ _ _ _ _ _ (by omega) (by omega) (by omega) (by omega)) (by simp [En.rdb])) rfl rfl ?_
        rintro ⟨⟩ -
        refine WL.rd (RD.assign rfl) rfl rfl ?_
        refine WL.nil ?_
        refine JE.seqN ?_
        refine J.seq ?_
        refine J.seq ?_
        refine J.reg ?_
        refine WL.rd (RD.move rfl) rfl rfl ?_
        refine WL.rd (RD.lss rfl rfl) rfl rfl ?_
        refine WL.rd (RD.move rfl) rfl rfl ?_
        refine WL.caseP 84 rfl (fun hg84 => ?_) (fun hg84 => ?_)
        ·
         refine WL.noS rfl rfl ?_
         refine WL.noS rfl rfl ?_
         refine WL.noS rfl rfl ?_
         refine WL.noS rfl rfl ?_
         refine WL.rd (RD.pickT rfl rfl) rfl rfl ?_
         refine WL.rd (RD.move rfl) rfl rfl ?_
         refine WL.noS rfl rfl ?_
         refine WL.noS rfl rfl ?_
         refine WL.noS rfl rfl ?_
         refine WL.rd (RD.pickT rfl rfl) rfl rfl ?_
         refine WL.nil ?_
         refine JE.seqN ?_
         refine J.condT rfl ?_
         refine J.seq ?_
         refine J.reg ?_
         refine WL.rd (RD.assign rfl) rfl rfl ?_
         refine WL.nil ?_
         refine JE.seqN ?_
         refine J.ret ?_
         refine JE.ret rfl (.tmp rfl .nil) (fun w hS => ?_)
         first | exact CS.fin hS rfl | (exfalso; omega) | exact CS.fin hS (by simp_all [mkRes])
        ·
         refine WL.rd (RD.loadA rfl rfl) rfl rfl ?_
         refine WL.rd (RD.loadA rfl rfl) rfl rfl ?_
         refine WL.efS (EF.callS (.cons rfl (.cons rfl .nil)) (fun w hS => eqPebbles_c _ _ _ _ _ _ _ _ _ _ _ _ _ (by exact RdI.rd hS) (by exact RdI.rd hS) (by exact RdI.rd hS) (by exact RdI.rd hS) (by exact RdI.rd hS) (by exact RdI.rd hS))) rfl rfl ?_
         rintro ⟨⟩ -
         refine WL.rd (RD.notP rfl) rfl rfl ?_
         refine WL.rd (RD.pickF rfl rfl) rfl rfl ?_
         refine WL.rd (RD.move rfl) rfl rfl ?_
         refine WL.caseP 90 rfl (fun hg90 => ?_) (fun hg90 => ?_)
         ·
          refine WL.noS rfl rfl ?_
          refine WL.noS rfl rfl ?_
          refine WL.noS rfl rfl ?_
          refine WL.rd (RD.pickT rfl rfl) rfl rfl ?_
          refine WL.nil ?_
          refine JE.seqN ?_
          refine J.condT rfl ?_
          refine J.seq ?_
          refine J.reg ?_
          refine WL.rd (RD.assign rfl) rfl rfl ?_
          refine WL.nil ?_
          refine JE.seqN ?_
          refine J.ret ?_
          refine JE.ret rfl (.tmp rfl .nil) (fun w hS => ?_)
          first | exact CS.fin hS rfl | (exfalso; omega) | exact CS.fin hS (by simp_all)
         ·
          refine WL.rd (RD.move rfl) rfl rfl ?_
          refine WL.rd (RD.move rfl) rfl rfl ?_
          refine WL.rd (RD.neqB rfl rfl) rfl rfl ?_
          refine WL.rd (RD.pickF rfl rfl) rfl rfl ?_
          refine WL.nil ?_
          refine JE.seqN ?_
          refine J.cond rfl (fun hc94 => ?_) (fun hc94 => ?_)
          ·
           refine J.seq ?_
           refine J.reg ?_
           refine WL.rd (RD.assign rfl) rfl rfl ?_
           refine WL.nil ?_
           refine JE.seqN ?_
           refine J.ret ?_
           refine JE.ret rfl (.tmp rfl .nil) (fun w hS => ?_)
           first | exact CS.fin hS rfl | (exfalso; omega) | exact CS.fin hS (by simp_all)
          ·
           refine J.skip ?_
           refine JE.seqN ?_
           refine J.seq ?_
           refine J.reg ?_
           refine WL.rd (RD.assign rfl) rfl rfl ?_
           refine WL.nil ?_
           refine JE.seqN ?_
           refine J.seq ?_
           refine J.reg ?_
           refine WL.rd (RD.loadA rfl rfl) rfl rfl ?_
           refine WL.rd (RD.move rfl) rfl rfl ?_
           refine WL.efS (EF.callM (.cons rfl (.cons rfl .nil)) (.row (.row (.row .nil))) .nil (fun w hS => markPebbles_c _ _ _ _ _ _ _ _ (by omega) (by omega) (by omega) (by omega)) (by simp [En.rdb])) rfl rfl ?_
           rintro ⟨⟩ -
           refine WL.rd (RD.assign rfl) rfl rfl ?_
           refine WL.nil ?_
           refine JE.seqN ?_
           refine J.seq ?_
           refine J.reg ?_
           refine WL.rd (RD.assign rfl) rfl rfl ?_
           refine WL.nil ?_
           refine JE.seqN ?_
           refine J.seq ?_
           refine J.reg ?_
           refine WL.rd (RD.loadA rfl rfl) rfl rfl ?_
           refine WL.rd (RD.move rfl) rfl rfl ?_
           refine WL.efS (EF.callS (.cons rfl (.cons rfl .nil)) (fun w hS => heldPebbles_c _ _ _ _ _ _ _ _ (by exact RdI.rd hS) (by exact RdI.rd hS) (by exact RdI.rd hS) (by omega) (by omega) (by omega) (by omega))) rfl rfl ?_
           rintro ⟨⟩ -
           refine WL.rd (RD.assign rfl) rfl rfl ?_
           refine WL.nil ?_
           refine JE.seqN ?_
           refine J.seq ?_
           refine J.seq ?_
           refine J.reg ?_
           refine WL.rd (RD.move rfl) rfl rfl ?_
           refine WL.rd (RD.lss rfl rfl) rfl rfl ?_
           refine WL.nil ?_
           refine JE.seqN ?_
           refine J.condP rfl (fun hc102 => ?_) (fun hc102 => ?_)
           ·
            refine J.seq ?_
            refine J.reg ?_
            refine WL.rd (RD.assign rfl) rfl rfl ?_
            refine WL.nil ?_
            refine JE.seqN ?_
            refine J.ret ?_
            refine JE.ret rfl (.tmp rfl .nil) (fun w hS => ?_)
            first | exact CS.fin hS rfl | (exfalso; omega) | exact CS.fin hS (by simp_all [mkRes])
           ·
            refine J.skip ?_
            refine JE.seqN ?_
            refine J.seq ?_
            refine J.seq ?_
            refine J.reg ?_
            refine WL.rd (RD.move rfl) rfl rfl ?_
            refine WL.rd (RD.move rfl) rfl rfl ?_
            refine WL.rd (RD.neq rfl rfl) rfl rfl ?_
            refine WL.nil ?_
            refine JE.seqN ?_
            refine J.condP rfl (fun hc105 => ?_) (fun hc105 => ?_)
            ·
             refine J.seq ?_
             refine J.reg ?_
             refine WL.rd (RD.assign rfl) rfl rfl ?_
             refine WL.nil ?_
             refine JE.seqN ?_
             refine J.ret ?_
             refine JE.ret rfl (.tmp rfl .nil) (fun w hS => ?_)
             first | exact CS.fin hS rfl | (exfalso; omega) | exact CS.fin hS (by simp_all [mkRes])
            ·
             refine J.skip ?_
             refine JE.seqN ?_
             refine J.seq ?_
             refine J.anyAll [12, 13] ?_
             refine WA.take 0 rfl (RD.loadA rfl rfl) rfl (by kernel_rfl) rfl ?_
             refine WA.takeP 2 rfl (RDP.of fun _ => RD.move rfl) rfl (by kernel_rfl) rfl ?_
             refine WA.takeP 3 rfl (RDP.of fun _ => RD.move rfl) rfl (by kernel_rfl) rfl ?_
             refine WA.take 4 rfl (RD.loadA rfl rfl) rfl (by kernel_rfl) rfl ?_
             refine WA.takeP 6 rfl (RDP.of fun _ => RD.move rfl) rfl (by kernel_rfl) rfl ?_
             refine WA.two (i := 1) (j := 11) (by kernel_rfl) ?_ ?_
             ·
              refine WAi.efS rfl (EF.callN (.cons rfl .nil) (fun w hS => toGraph_c _ _ _ _ (by exact RdI.rd hS) (by omega))) rfl rfl (fun _ => by repeat (first | exact subM_refl _ | refine subM_app _ ?_ | refine subM_con _ ?_)) ?_
              rintro v108 -
              refine WA.two (i := 5) (j := 11) (by kernel_rfl) ?_ ?_
              ·
               refine WAi.efS rfl (EF.callN (.cons rfl .nil) (fun w hS => toPebbles_c _ _ _ _ _ _ _ (by exact RdI.rd hS) (by exact RdI.rd hS) (by exact RdI.rd hS) (by omega) (by omega) (by omega))) rfl rfl (fun _ => by repeat (first | exact subM_refl _ | refine subM_app _ ?_ | refine subM_con _ ?_)) ?_
               rintro ⟨f112, t112, p112⟩ -
               refine WA.two (i := 7) (j := 11) (by kernel_rfl) ?_ ?_
               ·
                refine WAi.efS rfl (EF.callN (.cons rfl (.cons rfl (.cons rfl (.cons rfl (.cons rfl .nil))))) (fun w hS => iPlaceBar_c _ _ _ _ _ _ _ _ _ _ _ _ _ (by exact RdI.rd hS) (by exact RdI.rd hS) (by exact RdI.rd hS) (by exact RdI.rd hS) (by assumption) (by omega) (by omega) (by omega) (by omega) (by first | assumption | omega))) rfl rfl (fun _ => by repeat (first | exact subM_refl _ | refine subM_app _ ?_ | refine subM_con _ ?_)) ?_
                rintro ⟨f114, t114, p114⟩ -
                refine WA.takeP 8 rfl (RDP.of fun _ => RD.move rfl) rfl (by kernel_rfl) rfl ?_
                refine WA.takeP 9 rfl (RDP.of fun _ => RD.extract rfl rfl) rfl (by kernel_rfl) rfl ?_
                refine WA.takeP 10 rfl (RDP.of fun _ => RD.extract rfl rfl) rfl (by kernel_rfl) rfl ?_
                refine WA.one (i := 11) (by kernel_rfl) ?_
                refine WAi.efS rfl (by exact EF.allocA) rfl rfl (fun _ => by repeat (first | exact subM_refl _ | refine subM_app _ ?_ | refine subM_con _ ?_)) ?_
                intro b21 _
                refine WA.one (i := 12) (by kernel_rfl) ?_
                refine WAi.efNL rfl (EF.storeA rfl rfl rfl rfl) rfl rfl ?_
                rintro ⟨⟩ -
                refine WB.takeP 13 rfl (RDP.of fun _ => RD.assign rfl) rfl (by kernel_rfl) rfl ?_
                refine WB.done (by kernel_rfl) ?_
                refine JE.seqN ?_
                refine J.seq ?_
                refine J.seq ?_
                refine J.reg ?_
                refine WL.rd (RD.loadA rfl rfl) rfl rfl ?_
                refine WL.rd (RD.loadA rfl rfl) rfl rfl ?_
                refine WL.efS (EF.callS (.cons rfl (.cons rfl .nil)) (fun w hS => eqPebbles_c _ _ _ _ _ _ _ _ _ _ _ _ _ (by exact RdI.rd hS) (by exact RdI.rd hS) (by exact RdI.rd hS) (by exact RdI.rd hS) (by exact RdI.rd hS) (by exact RdI.rd hS))) rfl rfl ?_
                rintro ⟨⟩ -
                refine WL.rd (RD.notP rfl) rfl rfl ?_
                refine WL.rd (RD.move rfl) rfl rfl ?_
                refine WL.caseP 121 rfl (fun hg121 => ?_) (fun hg121 => ?_)
                ·
                 refine WL.noS rfl rfl ?_
                 refine WL.noS rfl rfl ?_
                 refine WL.noS rfl rfl ?_
                 refine WL.rd (RD.pickT rfl rfl) rfl rfl ?_
                 refine WL.nil ?_
                 refine JE.seqN ?_
                 refine J.condT rfl ?_
                 refine J.seq ?_
                 refine J.reg ?_
                 refine WL.rd (RD.assign rfl) rfl rfl ?_
                 refine WL.nil ?_
                 refine JE.seqN ?_
                 refine J.ret ?_
                 refine JE.ret rfl (.tmp rfl .nil) (fun w hS => ?_)
                 first | exact CS.fin hS rfl | (exfalso; omega) | exact CS.fin hS (by simp_all)
                ·
                 refine WL.rd (RD.move rfl) rfl rfl ?_
                 refine WL.rd (RD.move rfl) rfl rfl ?_
                 refine WL.rd (RD.neqB rfl rfl) rfl rfl ?_
                 refine WL.rd (RD.pickF rfl rfl) rfl rfl ?_
                 refine WL.nil ?_
                 refine JE.seqN ?_
                 refine J.cond rfl (fun hc125 => ?_) (fun hc125 => ?_)
                 ·
                  refine J.seq ?_
                  refine J.reg ?_
                  refine WL.rd (RD.assign rfl) rfl rfl ?_
                  refine WL.nil ?_
                  refine JE.seqN ?_
                  refine J.ret ?_
                  refine JE.ret rfl (.tmp rfl .nil) (fun w hS => ?_)
                  first | exact CS.fin hS rfl | (exfalso; omega) | exact CS.fin hS (by simp_all)
                 ·
                  refine J.skip ?_
                  refine JE.seqN ?_
                  refine J.seq ?_
                  refine J.reg ?_
                  refine WL.rd (RD.assign rfl) rfl rfl ?_
                  refine WL.nil ?_
                  refine JE.seqN ?_
                  refine J.seq ?_
                  refine J.reg ?_
                  refine WL.rd (RD.loadA rfl rfl) rfl rfl ?_
                  refine WL.rd (RD.move rfl) rfl rfl ?_
                  refine WL.efS (EF.callS (.cons rfl (.cons rfl .nil)) (fun w hS => heldPebbles_c _ _ _ _ _ _ _ _ (by exact RdI.rd hS) (by exact RdI.rd hS) (by exact RdI.rd hS) (by omega) (by omega) (by omega) (by omega))) rfl rfl ?_
                  rintro ⟨⟩ -
                  refine WL.rd (RD.assign rfl) rfl rfl ?_
                  refine WL.nil ?_
                  refine JE.seqN ?_
                  refine J.seq ?_
                  refine J.seq ?_
                  refine J.reg ?_
                  refine WL.rd (RD.move rfl) rfl rfl ?_
                  refine WL.rd (RD.lss rfl rfl) rfl rfl ?_
                  refine WL.nil ?_
                  refine JE.seqN ?_
                  refine J.condP rfl (fun hc130 => ?_) (fun hc130 => ?_)
                  ·
                   refine J.seq ?_
                   refine J.reg ?_
                   refine WL.rd (RD.assign rfl) rfl rfl ?_
                   refine WL.nil ?_
                   refine JE.seqN ?_
                   refine J.ret ?_
                   refine JE.ret rfl (.tmp rfl .nil) (fun w hS => ?_)
                   first | exact CS.fin hS rfl | (exfalso; omega) | exact CS.fin hS (by simp_all [mkRes])
                  ·
                   refine J.skip ?_
                   refine JE.seqN ?_
                   refine J.seq ?_
                   refine J.seq ?_
                   refine J.reg ?_
                   refine WL.rd (RD.move rfl) rfl rfl ?_
                   refine WL.rd (RD.move rfl) rfl rfl ?_
                   refine WL.rd (RD.neq rfl rfl) rfl rfl ?_
                   refine WL.nil ?_
                   refine JE.seqN ?_
                   refine J.condP rfl (fun hc133 => ?_) (fun hc133 => ?_)
                   ·
                    refine J.seq ?_
                    refine J.reg ?_
                    refine WL.rd (RD.assign rfl) rfl rfl ?_
                    refine WL.nil ?_
                    refine JE.seqN ?_
                    refine J.ret ?_
                    refine JE.ret rfl (.tmp rfl .nil) (fun w hS => ?_)
                    first | exact CS.fin hS rfl | (exfalso; omega) | exact CS.fin hS (by simp_all [mkRes])
                   ·
                    refine J.skip ?_
                    refine JE.seqN ?_
                    refine J.seq ?_
                    refine J.reg ?_
                    refine WL.rd (RD.assign rfl) rfl rfl ?_
                    refine WL.nil ?_
                    refine JE.seqN ?_
                    refine J.ret ?_
                    refine JE.ret rfl (.tmp rfl .nil) (fun w hS => ?_)
                    first | exact CS.fin hS rfl | (exfalso; omega) | exact CS.fin hS (by simp_all [mkRes])
               ·
                refine WAi.efS rfl (by exact EF.allocA) rfl rfl (fun _ => by repeat (first | exact subM_refl _ | refine subM_app _ ?_ | refine subM_con _ ?_)) ?_
                intro b21 _
                refine WA.one (i := 7) (by kernel_rfl) ?_
                refine WAi.efS rfl (EF.callN (.cons rfl (.cons rfl (.cons rfl (.cons rfl (.cons rfl .nil))))) (fun w hS => iPlaceBar_c _ _ _ _ _ _ _ _ _ _ _ _ _ (by exact RdI.rd hS) (by exact RdI.rd hS) (by exact RdI.rd hS) (by exact RdI.rd hS) (by assumption) (by omega) (by omega) (by omega) (by omega) (by first | assumption | omega))) rfl rfl (fun _ => by repeat (first | exact subM_refl _ | refine subM_app _ ?_ | refine subM_con _ ?_)) ?_
                rintro ⟨f114, t114, p114⟩ -
                refine WA.takeP 8 rfl (RDP.of fun _ => RD.move rfl) rfl (by kernel_rfl) rfl ?_
                refine WA.takeP 9 rfl (RDP.of fun _ => RD.extract rfl rfl) rfl (by kernel_rfl) rfl ?_
                refine WA.takeP 10 rfl (RDP.of fun _ => RD.extract rfl rfl) rfl (by kernel_rfl) rfl ?_
                refine WA.one (i := 12) (by kernel_rfl) ?_
                refine WAi.efNL rfl (EF.storeA rfl rfl rfl rfl) rfl rfl ?_
                rintro ⟨⟩ -
                refine WB.takeP 13 rfl (RDP.of fun _ => RD.assign rfl) rfl (by kernel_rfl) rfl ?_
                refine WB.done (by kernel_rfl) ?_
                refine JE.seqN ?_
                refine J.seq ?_
                refine J.seq ?_
                refine J.reg ?_
                refine WL.rd (RD.loadA rfl rfl) rfl rfl ?_
                refine WL.rd (RD.loadA rfl rfl) rfl rfl ?_
                refine WL.efS (EF.callS (.cons rfl (.cons rfl .nil)) (fun w hS => eqPebbles_c _ _ _ _ _ _ _ _ _ _ _ _ _ (by exact RdI.rd hS) (by exact RdI.rd hS) (by exact RdI.rd hS) (by exact RdI.rd hS) (by exact RdI.rd hS) (by exact RdI.rd hS))) rfl rfl ?_
                rintro ⟨⟩ -
                refine WL.rd (RD.notP rfl) rfl rfl ?_
                refine WL.rd (RD.move rfl) rfl rfl ?_
                refine WL.caseP 121 rfl (fun hg121 => ?_) (fun hg121 => ?_)
                ·
                 refine WL.noS rfl rfl ?_
                 refine WL.noS rfl rfl ?_
                 refine WL.noS rfl rfl ?_
                 refine WL.rd (RD.pickT rfl rfl) rfl rfl ?_
                 refine WL.nil ?_
                 refine JE.seqN ?_
                 refine J.condT rfl ?_
                 refine J.seq ?_
                 refine J.reg ?_
                 refine WL.rd (RD.assign rfl) rfl rfl ?_
                 refine WL.nil ?_
                 refine JE.seqN ?_
                 refine J.ret ?_
                 refine JE.ret rfl (.tmp rfl .nil) (fun w hS => ?_)
                 first | exact CS.fin hS rfl | (exfalso; omega) | exact CS.fin hS (by simp_all)
                ·
                 refine WL.rd (RD.move rfl) rfl rfl ?_
                 refine WL.rd (RD.move rfl) rfl rfl ?_
                 refine WL.rd (RD.neqB rfl rfl) rfl rfl ?_
                 refine WL.rd (RD.pickF rfl rfl) rfl rfl ?_
                 refine WL.nil ?_
                 refine JE.seqN ?_
                 refine J.cond rfl (fun hc125 => ?_) (fun hc125 => ?_)
                 ·
                  refine J.seq ?_
                  refine J.reg ?_
                  refine WL.rd (RD.assign rfl) rfl rfl ?_
                  refine WL.nil ?_
                  refine JE.seqN ?_
                  refine J.ret ?_
                  refine JE.ret rfl (.tmp rfl .nil) (fun w hS => ?_)
                  first | exact CS.fin hS rfl | (exfalso; omega) | exact CS.fin hS (by simp_all)
                 ·
                  refine J.skip ?_
                  refine JE.seqN ?_
                  refine J.seq ?_
                  refine J.reg ?_
                  refine WL.rd (RD.assign rfl) rfl rfl ?_
                  refine WL.nil ?_
                  refine JE.seqN ?_
                  refine J.seq ?_
                  refine J.reg ?_
                  refine WL.rd (RD.loadA rfl rfl) rfl rfl ?_
                  refine WL.rd (RD.move rfl) rfl rfl ?_
                  refine WL.efS (EF.callS (.cons rfl (.cons rfl .nil)) (fun w hS => heldPebbles_c _ _ _ _ _ _ _ _ (by exact RdI.rd hS) (by exact RdI.rd hS) (by exact RdI.rd hS) (by omega) (by omega) (by omega) (by omega))) rfl rfl ?_
                  rintro ⟨⟩ -
                  refine WL.rd (RD.assign rfl) rfl rfl ?_
                  refine WL.nil ?_
                  refine JE.seqN ?_
                  refine J.seq ?_
                  refine J.seq ?_
                  refine J.reg ?_
                  refine WL.rd (RD.move rfl) rfl rfl ?_
                  refine WL.rd (RD.lss rfl rfl) rfl rfl ?_
                  refine WL.nil ?_
                  refine JE.seqN ?_
                  refine J.condP rfl (fun hc130 => ?_) (fun hc130 => ?_)
                  ·
                   refine J.seq ?_
                   refine J.reg ?_
                   refine WL.rd (RD.assign rfl) rfl rfl ?_
                   refine WL.nil ?_
                   refine JE.seqN ?_
                   refine J.ret ?_
                   refine JE.ret rfl (.tmp rfl .nil) (fun w hS => ?_)
                   first | exact CS.fin hS rfl | (exfalso; omega) | exact CS.fin hS (by simp_all [mkRes])
                  ·
                   refine J.skip ?_
                   refine JE.seqN ?_
                   refine J.seq ?_
                   refine J.seq ?_
                   refine J.reg ?_
                   refine WL.rd (RD.move rfl) rfl rfl ?_
                   refine WL.rd (RD.move rfl) rfl rfl ?_
                   refine WL.rd (RD.neq rfl rfl) rfl rfl ?_
                   refine WL.nil ?_
                   refine JE.seqN ?_
                   refine J.condP rfl (fun hc133 => ?_) (fun hc133 => ?_)
                   ·
                    refine J.seq ?_
                    refine J.reg ?_
                    refine WL.rd (RD.assign rfl) rfl rfl ?_
                    refine WL.nil ?_
                    refine JE.seqN ?_
                    refine J.ret ?_
                    refine JE.ret rfl (.tmp rfl .nil) (fun w hS => ?_)
                    first | exact CS.fin hS rfl | (exfalso; omega) | exact CS.fin hS (by simp_all [mkRes])
                   ·
                    refine J.skip ?_
                    refine JE.seqN ?_
                    refine J.seq ?_
                    refine J.reg ?_
                    refine WL.rd (RD.assign rfl) rfl rfl ?_
                    refine WL.nil ?_
                    refine JE.seqN ?_
                    refine J.ret ?_
                    refine JE.ret rfl (.tmp rfl .nil) (fun w hS => ?_)
                    first | exact CS.fin hS rfl | (exfalso; omega) | exact CS.fin hS (by simp_all [mkRes])
              ·
               refine WAi.efS rfl (by exact EF.allocA) rfl rfl (fun _ => by repeat (first | exact subM_refl _ | refine subM_app _ ?_ | refine subM_con _ ?_)) ?_
               intro b21 _
               refine WA.one (i := 5) (by kernel_rfl) ?_
               refine WAi.efS rfl (EF.callN (.cons rfl .nil) (fun w hS => toPebbles_c _ _ _ _ _ _ _ (by exact RdI.rd hS) (by exact RdI.rd hS) (by exact RdI.rd hS) (by omega) (by omega) (by omega))) rfl rfl (fun _ => by repeat (first | exact subM_refl _ | refine subM_app _ ?_ | refine subM_con _ ?_)) ?_
               rintro ⟨f112, t112, p112⟩ -
               refine WA.one (i := 7) (by kernel_rfl) ?_
               refine WAi.efS rfl (EF.callN (.cons rfl (.cons rfl (.cons rfl (.cons rfl (.cons rfl .nil))))) (fun w hS => iPlaceBar_c _ _ _ _ _ _ _ _ _ _ _ _ _ (by exact RdI.rd hS) (by exact RdI.rd hS) (by exact RdI.rd hS) (by exact RdI.rd hS) (by assumption) (by omega) (by omega) (by omega) (by omega) (by first | assumption | omega))) rfl rfl (fun _ => by repeat (first | exact subM_refl _ | refine subM_app _ ?_ | refine subM_con _ ?_)) ?_
               rintro ⟨f114, t114, p114⟩ -
               refine WA.takeP 8 rfl (RDP.of fun _ => RD.move rfl) rfl (by kernel_rfl) rfl ?_
               refine WA.takeP 9 rfl (RDP.of fun _ => RD.extract rfl rfl) rfl (by kernel_rfl) rfl ?_
               refine WA.takeP 10 rfl (RDP.of fun _ => RD.extract rfl rfl) rfl (by kernel_rfl) rfl ?_
               refine WA.one (i := 12) (by kernel_rfl) ?_
               refine WAi.efNL rfl (EF.storeA rfl rfl rfl rfl) rfl rfl ?_
               rintro ⟨⟩ -
               refine WB.takeP 13 rfl (RDP.of fun _ => RD.assign rfl) rfl (by kernel_rfl) rfl ?_
               refine WB.done (by kernel_rfl) ?_
               refine JE.seqN ?_
               refine J.seq ?_
               refine J.seq ?_
               refine J.reg ?_
               refine WL.rd (RD.loadA rfl rfl) rfl rfl ?_
               refine WL.rd (RD.loadA rfl rfl) rfl rfl ?_
               refine WL.efS (EF.callS (.cons rfl (.cons rfl .nil)) (fun w hS => eqPebbles_c _ _ _ _ _ _ _ _ _ _ _ _ _ (by exact RdI.rd hS) (by exact RdI.rd hS) (by exact RdI.rd hS) (by exact RdI.rd hS) (by exact RdI.rd hS) (by exact RdI.rd hS))) rfl rfl ?_
               rintro ⟨⟩ -
               refine WL.rd (RD.notP rfl) rfl rfl ?_
               refine WL.rd (RD.move rfl) rfl rfl ?_
               refine WL.caseP 121 rfl (fun hg121 => ?_) (fun hg121 => ?_)
               ·
                refine WL.noS rfl rfl ?_
                refine WL.noS rfl rfl ?_
                refine WL.noS rfl rfl ?_
                refine WL.rd (RD.pickT rfl rfl) rfl rfl ?_
                refine WL.nil ?_
                refine JE.seqN ?_
                refine J.condT rfl ?_
                refine J.seq ?_
                refine J.reg ?_
                refine WL.rd (RD.assign rfl) rfl rfl ?_
                refine WL.nil ?_
                refine JE.seqN ?_
                refine J.ret ?_
                refine JE.ret rfl (.tmp rfl .nil) (fun w hS => ?_)
                first | exact CS.fin hS rfl | (exfalso; omega) | exact CS.fin hS (by simp_all)
               ·
                refine WL.rd (RD.move rfl) rfl rfl ?_
                refine WL.rd (RD.move rfl) rfl rfl ?_
                refine WL.rd (RD.neqB rfl rfl) rfl rfl ?_
                refine WL.rd (RD.pickF rfl rfl) rfl rfl ?_
                refine WL.nil ?_
                refine JE.seqN ?_
                refine J.cond rfl (fun hc125 => ?_) (fun hc125 => ?_)
                ·
                 refine J.seq ?_
                 refine J.reg ?_
                 refine WL.rd (RD.assign rfl) rfl rfl ?_
                 refine WL.nil ?_
                 refine JE.seqN ?_
                 refine J.ret ?_
                 refine JE.ret rfl (.tmp rfl .nil) (fun w hS => ?_)
                 first | exact CS.fin hS rfl | (exfalso; omega) | exact CS.fin hS (by simp_all)
                ·
                 refine J.skip ?_
                 refine JE.seqN ?_
                 refine J.seq ?_
                 refine J.reg ?_
                 refine WL.rd (RD.assign rfl) rfl rfl ?_
                 refine WL.nil ?_
                 refine JE.seqN ?_
                 refine J.seq ?_
                 refine J.reg ?_
                 refine WL.rd (RD.loadA rfl rfl) rfl rfl ?_
                 refine WL.rd (RD.move rfl) rfl rfl ?_
                 refine WL.efS (EF.callS (.cons rfl (.cons rfl .nil)) (fun w hS => heldPebbles_c _ _ _ _ _ _ _ _ (by exact RdI.rd hS) (by exact RdI.rd hS) (by exact RdI.rd hS) (by omega) (by omega) (by omega) (by omega))) rfl rfl ?_
                 rintro ⟨⟩ -
                 refine WL.rd (RD.assign rfl) rfl rfl ?_
                 refine WL.nil ?_
                 refine JE.seqN ?_
                 refine J.seq ?_
                 refine J.seq ?_
                 refine J.reg ?_
                 refine WL.rd (RD.move rfl) rfl rfl ?_
                 refine WL.rd (RD.lss rfl rfl) rfl rfl ?_
                 refine WL.nil ?_
                 refine JE.seqN ?_
                 refine J.condP rfl (fun hc130 => ?_) (fun hc130 => ?_)
                 ·
                  refine J.seq ?_
                  refine J.reg ?_
                  refine WL.rd (RD.assign rfl) rfl rfl ?_
                  refine WL.nil ?_
                  refine JE.seqN ?_
                  refine J.ret ?_
                  refine JE.ret rfl (.tmp rfl .nil) (fun w hS => ?_)
                  first | exact CS.fin hS rfl | (exfalso; omega) | exact CS.fin hS (by simp_all [mkRes])
                 ·
                  refine J.skip ?_
                  refine JE.seqN ?_
                  refine J.seq ?_
                  refine J.seq ?_
                  refine J.reg ?_
                  refine WL.rd (RD.move rfl) rfl rfl ?_
                  refine WL.rd (RD.move rfl) rfl rfl ?_
                  refine WL.rd (RD.neq rfl rfl) rfl rfl ?_
                  refine WL.nil ?_
                  refine JE.seqN ?_
                  refine J.condP rfl (fun hc133 => ?_) (fun hc133 => ?_)
                  ·
                   refine J.seq ?_
                   refine J.reg ?_
                   refine WL.rd (RD.assign rfl) rfl rfl ?_
                   refine WL.nil ?_
                   refine JE.seqN ?_
                   refine J.ret ?_
                   refine JE.ret rfl (.tmp rfl .nil) (fun w hS => ?_)
                   first | exact CS.fin hS rfl | (exfalso; omega) | exact CS.fin hS (by simp_all [mkRes])
                  ·
                   refine J.skip ?_
                   refine JE.seqN ?_
                   refine J.seq ?_
                   refine J.reg ?_
                   refine WL.rd (RD.assign rfl) rfl rfl ?_
                   refine WL.nil ?_
                   refine JE.seqN ?_
                   refine J.ret ?_
                   refine JE.ret rfl (.tmp rfl .nil) (fun w hS => ?_)
                   first | exact CS.fin hS rfl | (exfalso; omega) | exact CS.fin hS (by simp_all [mkRes])
             ·
              refine WAi.efS rfl (by exact EF.allocA) rfl rfl (fun _ => by repeat (first | exact subM_refl _ | refine subM_app _ ?_ | refine subM_con _ ?_)) ?_
              intro b21 _
              refine WA.one (i := 1) (by kernel_rfl) ?_
              refine WAi.efS rfl (EF.callN (.cons rfl .nil) (fun w hS => toGraph_c _ _ _ _ (by exact RdI.rd hS) (by omega))) rfl rfl (fun _ => by repeat (first | exact subM_refl _ | refine subM_app _ ?_ | refine subM_con _ ?_)) ?_
              rintro v108 -
              refine WA.one (i := 5) (by kernel_rfl) ?_
              refine WAi.efS rfl (EF.callN (.cons rfl .nil) (fun w hS => toPebbles_c _ _ _ _ _ _ _ (by exact RdI.rd hS) (by exact RdI.rd hS) (by exact RdI.rd hS) (by omega) (by omega) (by omega))) rfl rfl (fun _ => by repeat (first | exact subM_refl _ | refine subM_app _ ?_ | refine subM_con _ ?_)) ?_
              rintro ⟨f112, t112, p112⟩ -
              refine WA.one (i := 7) (by kernel_rfl) ?_
              refine WAi.efS rfl (EF.callN (.cons rfl (.cons rfl (.cons rfl (.cons rfl (.cons rfl .nil))))) (fun w hS => iPlaceBar_c _ _ _ _ _ _ _ _ _ _ _ _ _ (by exact RdI.rd hS) (by exact RdI.rd hS) (by exact RdI.rd hS) (by exact RdI.rd hS) (by assumption) (by omega) (by omega) (by omega) (by omega) (by first | assumption | omega))) rfl rfl (fun _ => by repeat (first | exact subM_refl _ | refine subM_app _ ?_ | refine subM_con _ ?_)) ?_
              rintro ⟨f114, t114, p114⟩ -
              refine WA.takeP 8 rfl (RDP.of fun _ => RD.move rfl) rfl (by kernel_rfl) rfl ?_
              refine WA.takeP 9 rfl (RDP.of fun _ => RD.extract rfl rfl) rfl (by kernel_rfl) rfl ?_
              refine WA.takeP 10 rfl (RDP.of fun _ => RD.extract rfl rfl) rfl (by kernel_rfl) rfl ?_
              refine WA.one (i := 12) (by kernel_rfl) ?_
              refine WAi.efNL rfl (EF.storeA rfl rfl rfl rfl) rfl rfl ?_
              rintro ⟨⟩ -
              refine WB.takeP 13 rfl (RDP.of fun _ => RD.assign rfl) rfl (by kernel_rfl) rfl ?_
              refine WB.done (by kernel_rfl) ?_
              refine JE.seqN ?_
              refine J.seq ?_
              refine J.seq ?_
              refine J.reg ?_
              refine WL.rd (RD.loadA rfl rfl) rfl rfl ?_
              refine WL.rd (RD.loadA rfl rfl) rfl rfl ?_
              refine WL.efS (EF.callS (.cons rfl (.cons rfl .nil)) (fun w hS => eqPebbles_c _ _ _ _ _ _ _ _ _ _ _ _ _ (by exact RdI.rd hS) (by exact RdI.rd hS) (by exact RdI.rd hS) (by exact RdI.rd hS) (by exact RdI.rd hS) (by exact RdI.rd hS))) rfl rfl ?_
              rintro ⟨⟩ -
              refine WL.rd (RD.notP rfl) rfl rfl ?_
              refine WL.rd (RD.move rfl) rfl rfl ?_
              refine WL.caseP 121 rfl (fun hg121 => ?_) (fun hg121 => ?_)
              ·
               refine WL.noS rfl rfl ?_
               refine WL.noS rfl rfl ?_
               refine WL.noS rfl rfl ?_
               refine WL.rd (RD.pickT rfl rfl) rfl rfl ?_
               refine WL.nil ?_
               refine JE.seqN ?_
               refine J.condT rfl ?_
               refine J.seq ?_
               refine J.reg ?_
               refine WL.rd (RD.assign rfl) rfl rfl ?_
               refine WL.nil ?_
               refine JE.seqN ?_
               refine J.ret ?_
               refine JE.ret rfl (.tmp rfl .nil) (fun w hS => ?_)
               first | exact CS.fin hS rfl | (exfalso; omega) | exact CS.fin hS (by simp_all)
              ·
               refine WL.rd (RD.move rfl) rfl rfl ?_
               refine WL.rd (RD.move rfl) rfl rfl ?_
               refine WL.rd (RD.neqB rfl rfl) rfl rfl ?_
               refine WL.rd (RD.pickF rfl rfl) rfl rfl ?_
               refine WL.nil ?_
               refine JE.seqN ?_
               refine J.cond rfl (fun hc125 => ?_) (fun hc125 => ?_)
               ·
                refine J.seq ?_
                refine J.reg ?_
                refine WL.rd (RD.assign rfl) rfl rfl ?_
                refine WL.nil ?_
                refine JE.seqN ?_
                refine J.ret ?_
                refine JE.ret rfl (.tmp rfl .nil) (fun w hS => ?_)
                first | exact CS.fin hS rfl | (exfalso; omega) | exact CS.fin hS (by simp_all)
               ·
                refine J.skip ?_
                refine JE.seqN ?_
                refine J.seq ?_
                refine J.reg ?_
                refine WL.rd (RD.assign rfl) rfl rfl ?_
                refine WL.nil ?_
                refine JE.seqN ?_
                refine J.seq ?_
                refine J.reg ?_
                refine WL.rd (RD.loadA rfl rfl) rfl rfl ?_
                refine WL.rd (RD.move rfl) rfl rfl ?_
                refine WL.efS (EF.callS (.cons rfl (.cons rfl .nil)) (fun w hS => heldPebbles_c _ _ _ _ _ _ _ _ (by exact RdI.rd hS) (by exact RdI.rd hS) (by exact RdI.rd hS) (by omega) (by omega) (by omega) (by omega))) rfl rfl ?_
                rintro ⟨⟩ -
                refine WL.rd (RD.assign rfl) rfl rfl ?_
                refine WL.nil ?_
                refine JE.seqN ?_
                refine J.seq ?_
                refine J.seq ?_
                refine J.reg ?_
                refine WL.rd (RD.move rfl) rfl rfl ?_
                refine WL.rd (RD.lss rfl rfl) rfl rfl ?_
                refine WL.nil ?_
                refine JE.seqN ?_
                refine J.condP rfl (fun hc130 => ?_) (fun hc130 => ?_)
                ·
                 refine J.seq ?_
                 refine J.reg ?_
                 refine WL.rd (RD.assign rfl) rfl rfl ?_
                 refine WL.nil ?_
                 refine JE.seqN ?_
                 refine J.ret ?_
                 refine JE.ret rfl (.tmp rfl .nil) (fun w hS => ?_)
                 first | exact CS.fin hS rfl | (exfalso; omega) | exact CS.fin hS (by simp_all [mkRes])
                ·
                 refine J.skip ?_
                 refine JE.seqN ?_
                 refine J.seq ?_
                 refine J.seq ?_
                 refine J.reg ?_
                 refine WL.rd (RD.move rfl) rfl rfl ?_
                 refine WL.rd (RD.move rfl) rfl rfl ?_
                 refine WL.rd (RD.neq rfl rfl) rfl rfl ?_
                 refine WL.nil ?_
                 refine JE.seqN ?_
                 refine J.condP rfl (fun hc133 => ?_) (fun hc133 => ?_)
                 ·
                  refine J.seq ?_
                  refine J.reg ?_
                  refine WL.rd (RD.assign rfl) rfl rfl ?_
                  refine WL.nil ?_
                  refine JE.seqN ?_
                  refine J.ret ?_
                  refine JE.ret rfl (.tmp rfl .nil) (fun w hS => ?_)
                  first | exact CS.fin hS rfl | (exfalso; omega) | exact CS.fin hS (by simp_all [mkRes])
                 ·
                  refine J.skip ?_
                  refine JE.seqN ?_
                  refine J.seq ?_
                  refine J.reg ?_
                  refine WL.rd (RD.assign rfl) rfl rfl ?_
                  refine WL.nil ?_
                  refine JE.seqN ?_
                  refine J.ret ?_
                  refine JE.ret rfl (.tmp rfl .nil) (fun w hS => ?_)
                  first | exact CS.fin hS rfl | (exfalso; omega) | exact CS.fin hS (by simp_all [mkRes])

end Go.Proofs.Ytmnaohimnladnaa
