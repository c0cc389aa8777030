/- Contracts of functions of the program, each walked once; written by a program of our own. -/
import Derived.Test.YtnfkalfpijolkaaGn
import Derived.Test.YtnfkalfpijolkaaSo
namespace Go.Proofs.Ytnfkalfpijolkaa
open Go Go.RowKit
set_option maxRecDepth 4000

theorem subM_app (ns : List En) {a m : List En} (h : SubM a m) : SubM a (ns ++ m) := by
  induction h with
  | nil => exact .nil
  | cons h _ ih => exact .cons ((h.append_left ns).trans List.perm_middle) ih
theorem subM_refl : ∀ m : List En, SubM m m
  | [] => .nil
  | _ :: m => .cons (List.Perm.refl _) (subM_refl m)
theorem subM_con (x : En) {a m : List En} (h : SubM a m) : SubM a (x :: m) := subM_app [x] h
set_option maxHeartbeats 2000000
theorem law_c (n : Int) (v : Value) (xs : List (Int × Int)) (k : Int) (vf : Value) (f : List Int) (vt : Value) (t : List Int) (vp : Value) (pl : List Int) (a : Int) (b : Int) (want : Int) (w : World) (_hn : -9223372036854775808 ≤ n ∧ n ≤ 9223372036854775807) (hrn : Rd w v 2 (xs.map bv)) (_hbn : ∀ x ∈ xs, InI64 x.1 ∧ InI64 x.2) (_hk : -9223372036854775808 ≤ k ∧ k ≤ 9223372036854775807) (hrf : Rd w vf 1 (f.map iv)) (hbf : ∀ x ∈ f, InI64 x) (hrt : Rd w vt 1 (t.map iv)) (_hbt : ∀ x ∈ t, InI64 x) (hrp : Rd w vp 1 (pl.map iv)) (_hbp : ∀ x ∈ pl, InI64 x) (_ha : -9223372036854775808 ≤ a ∧ a ≤ 9223372036854775807) (_hb : -9223372036854775808 ≤ b ∧ b ≤ 9223372036854775807) (_hwant : -9223372036854775808 ≤ want ∧ want ≤ 9223372036854775807) :
    CS Try.prog 11 [.agg #[.int .i64 n, v], .int .i64 k, .agg #[vf, vt, vp], .int .i64 a, .int .i64 b, .int .i64 want] w (.bool true) := by
 have hbf2 : ∀ x ∈ f, x ≤ 9223372036854775807 := fun x hx => (hbf x hx).2
 have hgl := gpI_len n xs k f t pl a b want
 refine calls_of_J (mu := (fun _ => False)) (m := [.ro v 2 (xs.map bv), .ro vf 1 (f.map iv), .ro vt 1 (t.map iv), .ro vp 1 (pl.map iv)]) (e := [(0, .agg #[.int .i64 n, v]), (1, .int .i64 k), (2, .agg #[vf, vt, vp]), (3, .int .i64 a), (4, .int .i64 b), (5, .int .i64 want)]) Try.func11 rfl rfl (.cons rfl (.cons rfl (.cons rfl (.cons rfl (.cons rfl (.cons rfl .nil)))))) ((((((St.init _ _).ro0 hrp (by decide)).ro0 hrt (by decide)).ro0 hrf (by decide)).ro0 hrn (by decide))) ?_
 refine J.seq ?_
 refine J.reg ?_
 refine WL.efS (EF.boxA rfl) rfl rfl ?_
 intro b6 _
 refine WL.efS (EF.boxA rfl) rfl rfl ?_
 intro b8 _
 refine WL.rd (RD.assign rfl) rfl rfl ?_
 refine WL.nil ?_
 refine JE.seqN ?_
 refine J.seq ?_
 refine J.reg ?_
 refine WL.rd (RD.assign rfl) rfl rfl ?_
 refine WL.nil ?_
 refine JE.seqN ?_
 refine J.seq ?_
 refine J.reg ?_
 refine WL.rd (RD.loadA rfl rfl) rfl rfl ?_
 refine WL.rd (RD.move rfl) rfl rfl ?_
 refine WL.efS (EF.callS (.cons rfl (.cons rfl .nil)) (fun w hS => szGraph_c _ _ _ _ _ (by exact RdI.rd hS) (by omega))) rfl rfl ?_
 rintro ⟨⟩ -
 refine WL.rd (RD.assign rfl) rfl rfl ?_
 refine WL.nil ?_
 refine JE.seqN ?_
 refine J.seq ?_
 refine J.seq ?_
 refine J.reg ?_
 refine WL.rd (RD.move rfl) rfl rfl ?_
 refine WL.rd (RD.lss rfl rfl) rfl rfl ?_
 refine WL.nil ?_
 refine JE.seqN ?_
 refine J.condP rfl (fun hc29 => ?_) (fun hc29 => ?_)
 ·
  refine J.seq ?_
  refine J.reg ?_
  refine WL.rd (RD.assign rfl) rfl rfl ?_
  refine WL.nil ?_
  refine JE.seqN ?_
  refine J.ret ?_
  refine JE.ret rfl (.tmp rfl .nil) (fun w hS => ?_)
  first | exact CS.fin hS rfl | (exfalso; omega) | exact CS.fin hS (by simp_all [mkRes])
 ·
  obtain ⟨hz29, hy29⟩ := szf_nn hc29
  refine J.skip ?_
  refine JE.seqN ?_
  refine J.seq ?_
  refine J.reg ?_
  refine WL.rd (RD.loadA rfl rfl) rfl rfl ?_
  refine WL.rd (RD.move rfl) rfl rfl ?_
  refine WL.efS (EF.callS (.cons rfl (.cons rfl .nil)) (fun w hS => szPebbles_c _ _ _ _ _ _ _ _ (by exact RdI.rd hS) (by exact RdI.rd hS) (by exact RdI.rd hS) (by omega))) rfl rfl ?_
  rintro ⟨⟩ -
  refine WL.rd (RD.assign rfl) rfl rfl ?_
  refine WL.nil ?_
  refine JE.seqN ?_
  refine J.seq ?_
  refine J.seq ?_
  refine J.reg ?_
  refine WL.rd (RD.move rfl) rfl rfl ?_
  refine WL.rd (RD.lss rfl rfl) rfl rfl ?_
  refine WL.nil ?_
  refine JE.seqN ?_
  refine J.condP rfl (fun hc34 => ?_) (fun hc34 => ?_)
  ·
   refine J.seq ?_
   refine J.reg ?_
   refine WL.rd (RD.assign rfl) rfl rfl ?_
   refine WL.nil ?_
   refine JE.seqN ?_
   refine J.ret ?_
   refine JE.ret rfl (.tmp rfl .nil) (fun w hS => ?_)
   first | exact CS.fin hS rfl | (exfalso; omega) | exact CS.fin hS (by simp_all [mkRes])
  ·
   obtain ⟨hz34, hy34⟩ := szf_nn hc34
   refine J.skip ?_
   refine JE.seqN ?_
   refine J.seq ?_
   refine J.anyAll [13, 14] ?_
   refine WA.take 0 rfl (RD.loadA rfl rfl) rfl (by kernel_rfl) rfl ?_
   refine WA.takeP 2 rfl (RDP.of fun _ => RD.move rfl) rfl (by kernel_rfl) rfl ?_
   refine WA.take 3 rfl (RD.loadA rfl rfl) rfl (by kernel_rfl) rfl ?_
   refine WA.takeP 5 rfl (RDP.of fun _ => RD.move rfl) rfl (by kernel_rfl) rfl ?_
   refine WA.takeP 6 rfl (RDP.of fun _ => RD.move rfl) rfl (by kernel_rfl) rfl ?_
   refine WA.takeP 7 rfl (RDP.of fun _ => RD.move rfl) rfl (by kernel_rfl) rfl ?_
   refine WA.two (i := 1) (j := 12) (by kernel_rfl) ?_ ?_
   ·
    refine WAi.efS rfl (EF.callN (.cons rfl .nil) (fun w hS => toGraph_c _ _ _ _ (by exact RdI.rd hS) (by omega))) rfl rfl (fun _ => by repeat (first | exact subM_refl _ | refine subM_app _ ?_ | refine subM_con _ ?_)) ?_
    rintro v37 -
    refine WA.two (i := 4) (j := 12) (by kernel_rfl) ?_ ?_
    ·
     refine WAi.efS rfl (EF.callN (.cons rfl .nil) (fun w hS => toPebbles_c _ _ _ _ _ _ _ (by exact RdI.rd hS) (by exact RdI.rd hS) (by exact RdI.rd hS) (by omega) (by omega) (by omega))) rfl rfl (fun _ => by repeat (first | exact subM_refl _ | refine subM_app _ ?_ | refine subM_con _ ?_)) ?_
     rintro ⟨f40, t40, p40⟩ -
     refine WA.two (i := 8) (j := 12) (by kernel_rfl) ?_ ?_
     ·
      refine WAi.efS rfl (EF.callN (.cons rfl (.cons rfl (.cons rfl (.cons rfl (.cons rfl (.cons rfl .nil)))))) (fun w hS => sGatherPebbles_c _ _ _ _ _ _ _ _ _ _ _ _ _ _ (by exact RdI.rd hS) (by exact RdI.rd hS) (by exact RdI.rd hS) (by exact RdI.rd hS) (by assumption) (by omega) (by omega) (by omega) (by omega))) rfl rfl (fun _ => by repeat (first | exact subM_refl _ | refine subM_app _ ?_ | refine subM_con _ ?_)) ?_
      rintro ⟨f44, t44, p44⟩ -
      refine WA.takeP 9 rfl (RDP.of fun _ => RD.move rfl) rfl (by kernel_rfl) rfl ?_
      refine WA.takeP 10 rfl (RDP.of fun _ => RD.extract rfl rfl) rfl (by kernel_rfl) rfl ?_
      refine WA.takeP 11 rfl (RDP.of fun _ => RD.extract rfl rfl) rfl (by kernel_rfl) rfl ?_
      refine WA.one (i := 12) (by kernel_rfl) ?_
      refine WAi.efS rfl (by exact EF.allocA) rfl rfl (fun _ => by repeat (first | exact subM_refl _ | refine subM_app _ ?_ | refine subM_con _ ?_)) ?_
      intro b14 _
      refine WA.one (i := 13) (by kernel_rfl) ?_
      refine WAi.efNL rfl (EF.storeA rfl rfl rfl rfl) rfl rfl ?_
      rintro ⟨⟩ -
      refine WB.takeP 14 rfl (RDP.of fun _ => RD.assign rfl) rfl (by kernel_rfl) rfl ?_
      refine WB.done (by kernel_rfl) ?_
      refine JE.seqN ?_
      refine J.seq ?_
      refine J.reg ?_
      refine WL.rd (RD.loadA rfl rfl) rfl rfl ?_
      refine WL.efS (EF.callN (.cons rfl .nil) (fun w hS => toGraph_c _ _ _ _ (by exact RdI.rd hS) (by omega))) rfl rfl ?_
      rintro v48 -
      refine WL.efS (EF.allocA) rfl rfl ?_
      intro b16 _
      refine WL.efN (EF.storeA rfl rfl rfl rfl) rfl ?_
      rintro ⟨⟩ -
      refine WL.nil ?_
      refine JE.seqN ?_
      refine J.seq ?_
      refine J.reg ?_
      refine WL.rd (RD.loadA rfl rfl) rfl rfl ?_
      refine WL.efS (EF.callN (.cons rfl .nil) (fun w hS => toPebbles_c _ _ _ _ _ _ _ (by exact RdI.rd hS) (by exact RdI.rd hS) (by exact RdI.rd hS) (by omega) (by omega) (by omega))) rfl rfl ?_
      rintro ⟨f50, t50, p50⟩ -
      refine WL.efS (EF.allocA) rfl rfl ?_
      intro b17 _
      refine WL.efN (EF.storeA rfl rfl rfl rfl) rfl ?_
      rintro ⟨⟩ -
      refine WL.nil ?_
      refine JE.seqN ?_
      refine J.seq ?_
      refine J.reg ?_
      refine WL.rd (RD.loadA rfl rfl) rfl rfl ?_
      refine WL.rd (RD.move rfl) rfl rfl ?_
      refine WL.rd (RD.loadA rfl rfl) rfl rfl ?_
      refine WL.rd (RD.move rfl) rfl rfl ?_
      refine WL.rd (RD.move rfl) rfl rfl ?_
      refine WL.rd (RD.move rfl) rfl rfl ?_
      refine WL.efS (EF.callN (.cons rfl (.cons rfl (.cons rfl (.cons rfl (.cons rfl (.cons rfl .nil)))))) (fun w hS => iGatherPebbles_c _ _ _ _ _ _ _ _ _ _ _ _ _ _ (by exact RdI.rd hS) (by exact RdI.rd hS) (by exact RdI.rd hS) (by exact RdI.rd hS) (by assumption) (by omega) (by omega) (by omega) (by omega))) rfl rfl ?_
      rintro ⟨f58, t58, p58⟩ -
      refine WL.rd (RD.move rfl) rfl rfl ?_
      refine WL.rd (RD.extract rfl rfl) rfl rfl ?_
      refine WL.rd (RD.extract rfl rfl) rfl rfl ?_
      refine WL.efS (EF.allocA) rfl rfl ?_
      intro b18 _
      refine WL.efN (EF.storeA rfl rfl rfl rfl) rfl ?_
      rintro ⟨⟩ -
      refine WL.rd (RD.assign rfl) rfl rfl ?_
      refine WL.nil ?_
      refine JE.seqN ?_
      refine J.seq ?_
      refine J.seq ?_
      refine J.reg ?_
      refine WL.rd (RD.loadA rfl rfl) rfl rfl ?_
      refine WL.rd (RD.loadA rfl rfl) rfl rfl ?_
      refine WL.efS (EF.callS (.cons rfl (.cons rfl .nil)) (fun w hS => eqPebbles_c _ _ _ _ _ _ _ _ _ _ _ _ _ (by exact RdI.rd hS) (by exact RdI.rd hS) (by exact RdI.rd hS) (by exact RdI.rd hS) (by exact RdI.rd hS) (by exact RdI.rd hS))) rfl rfl ?_
      rintro ⟨⟩ -
      refine WL.rd (RD.notP rfl) rfl rfl ?_
      refine WL.rd (RD.move rfl) rfl rfl ?_
      refine WL.caseP 65 rfl (fun hg65 => ?_) (fun hg65 => ?_)
      ·
       refine WL.noS rfl rfl ?_
       refine WL.noS rfl rfl ?_
       refine WL.noS rfl rfl ?_
       refine WL.rd (RD.pickT rfl rfl) rfl rfl ?_
       refine WL.nil ?_
       refine JE.seqN ?_
       refine J.condT rfl ?_
       refine J.seq ?_
       refine J.reg ?_
       refine WL.rd (RD.assign rfl) rfl rfl ?_
       refine WL.nil ?_
       refine JE.seqN ?_
       refine J.ret ?_
       refine JE.ret rfl (.tmp rfl .nil) (fun w hS => ?_)
       first | exact CS.fin hS rfl | (exfalso; omega) | exact CS.fin hS (by simp_all)
      ·
       refine WL.rd (RD.move rfl) rfl rfl ?_
       refine WL.rd (RD.move rfl) rfl rfl ?_
       refine WL.rd (RD.neqB rfl rfl) rfl rfl ?_
       refine WL.rd (RD.pickF rfl rfl) rfl rfl ?_
       refine WL.nil ?_
       refine JE.seqN ?_
       refine J.cond rfl (fun hc69 => ?_) (fun hc69 => ?_)
       ·
        refine J.seq ?_
        refine J.reg ?_
        refine WL.rd (RD.assign rfl) rfl rfl ?_
        refine WL.nil ?_
        refine JE.seqN ?_
        refine J.ret ?_
        refine JE.ret rfl (.tmp rfl .nil) (fun w hS => ?_)
        first | exact CS.fin hS rfl | (exfalso; omega) | exact CS.fin hS (by simp_all)
       ·
        refine J.skip ?_
        refine JE.seqN ?_
        refine J.seq ?_
        refine J.seq ?_
        refine J.anyAll [] ?_
        refine WA.take 0 rfl (RD.loadA rfl rfl) rfl (by kernel_rfl) rfl ?_
        refine WA.take 1 rfl (RD.loadA rfl rfl) rfl (by kernel_rfl) rfl ?_
        refine WA.one (i := 2) (by kernel_rfl) ?_
        refine WAi.efS rfl (EF.callN (.cons rfl .nil) (fun w hS => toGraph_c _ _ _ _ (by exact RdI.rd hS) (by omega))) rfl rfl (fun _ => by repeat (first | exact subM_refl _ | refine subM_app _ ?_ | refine subM_con _ ?_)) ?_
        rintro v72 -
        refine WA.one (i := 3) (by kernel_rfl) ?_
        refine WAi.efS rfl (EF.callS (.cons rfl (.cons rfl .nil)) (fun w hS => eqGraph_c _ _ _ _ _ _ _ (by exact RdI.rd hS) (by exact RdI.rd hS))) rfl rfl (fun _ => by repeat (first | exact subM_refl _ | refine subM_app _ ?_ | refine subM_con _ ?_)) ?_
        rintro ⟨⟩ -
        refine WA.takeP 4 rfl (RDP.of fun _ => RD.notP rfl) rfl (by kernel_rfl) rfl ?_
        refine WA.done (by kernel_rfl) ?_
        refine JE.seqN ?_
        refine J.condP rfl (fun hc74 => ?_) (fun hc74 => ?_)
        ·
         refine J.seq ?_
         refine J.reg ?_
         refine WL.rd (RD.assign rfl) rfl rfl ?_
         refine WL.nil ?_
         refine JE.seqN ?_
         refine J.ret ?_
         refine JE.ret rfl (.tmp rfl .nil) (fun w hS => ?_)
         first | exact CS.fin hS rfl | (exfalso; omega) | exact CS.fin hS (by simp_all)
        ·
         refine J.skip ?_
         refine JE.seqN ?_
         refine J.seq ?_
         refine J.seq ?_
         refine J.anyAll [] ?_
         refine WA.take 0 rfl (RD.loadA rfl rfl) rfl (by kernel_rfl) rfl ?_
         refine WA.take 1 rfl (RD.loadA rfl rfl) rfl (by kernel_rfl) rfl ?_
         refine WA.one (i := 2) (by kernel_rfl) ?_
         refine WAi.efS rfl (EF.callN (.cons rfl .nil) (fun w hS => toPebbles_c _ _ _ _ _ _ _ (by exact RdI.rd hS) (by exact RdI.rd hS) (by exact RdI.rd hS) (by omega) (by omega) (by omega))) rfl rfl (fun _ => by repeat (first | exact subM_refl _ | refine subM_app _ ?_ | refine subM_con _ ?_)) ?_
         rintro ⟨f77, t77, p77⟩ -
         refine WA.one (i := 3) (by kernel_rfl) ?_
         refine WAi.efS rfl (EF.callS (.cons rfl (.cons rfl .nil)) (fun w hS => eqPebbles_c _ _ _ _ _ _ _ _ _ _ _ _ _ (by exact RdI.rd hS) (by exact RdI.rd hS) (by exact RdI.rd hS) (by exact RdI.rd hS) (by exact RdI.rd hS) (by exact RdI.rd hS))) rfl rfl (fun _ => by repeat (first | exact subM_refl _ | refine subM_app _ ?_ | refine subM_con _ ?_)) ?_
         rintro ⟨⟩ -
         refine WA.takeP 4 rfl (RDP.of fun _ => RD.notP rfl) rfl (by kernel_rfl) rfl ?_
         refine WA.done (by kernel_rfl) ?_
         refine JE.seqN ?_
         refine J.condP rfl (fun hc79 => ?_) (fun hc79 => ?_)
         ·
          refine J.seq ?_
          refine J.reg ?_
          refine WL.rd (RD.assign rfl) rfl rfl ?_
          refine WL.nil ?_
          refine JE.seqN ?_
          refine J.ret ?_
          refine JE.ret rfl (.tmp rfl .nil) (fun w hS => ?_)
          first | exact CS.fin hS rfl | (exfalso; omega) | exact CS.fin hS (by simp_all)
         ·
          refine J.skip ?_
          refine JE.seqN ?_
          refine J.seq ?_
          refine J.reg ?_
          refine WL.rd (RD.assign rfl) rfl rfl ?_
          refine WL.nil ?_
          refine JE.seqN ?_
          refine J.seq ?_
          refine J.reg ?_
          refine WL.rd (RD.loadA rfl rfl) rfl rfl ?_
          refine WL.rd (RD.move rfl) rfl rfl ?_
          refine WL.efS (EF.callM (.cons rfl (.cons rfl .nil)) (.row .nil) .nil (fun w hS => markGraph_c _ _ _ _ _ (by omega) (by omega)) (by simp [En.rdb])) rfl rfl ?_
          rintro ⟨⟩ -
          refine WL.rd (RD.assign rfl) rfl rfl ?_
          refine WL.nil ?_
          refine JE.seqN ?_
          refine J.seq ?_
          refine J.reg ?_
          refine WL.rd (RD.loadA rfl rfl) rfl rfl ?_
          refine WL.rd (RD.move rfl) rfl rfl ?_
          refine WL.efS (EF.callM (.cons rfl (.cons rfl .nil)) (.row (.row (.row .nil))) .nil (fun w hS => markPebbles_c _ _ _ _ _ _ _ _ (by omega) (by omega) (by omega) (by omega)) (by simp [En.rdb])) rfl rfl ?_
          rintro ⟨⟩ -
          refine WL.rd (RD.assign rfl) rfl rfl ?_
          refine WL.nil ?_
          refine JE.seqN ?_
          refine J.seq ?_
          refine J.seq ?_
          refine J.reg ?_
          refine WL.rd (RD.move rfl) rfl rfl ?_
          refine WL.rd (RD.lss rfl rfl) rfl rfl ?_
          refine WL.rd (RD.move rfl) rfl rfl ?_
          refine WL.caseP 88 rfl (fun hg88 => ?_) (fun hg88 => ?_)
          ·
           refine WL.noS rfl rfl ?_
           refine WL.noS rfl rfl ?_
           refine WL.noS rfl rfl ?_
           refine WL.noS rfl rfl ?_
           refine WL.rd (RD.pickT rfl rfl) rfl rfl ?_
           refine WL.rd (RD.move rfl) rfl rfl ?_
           refine WL.noS rfl rfl ?_
           refine WL.noS rfl rfl ?_
           refine WL.noS rfl rfl ?_
           refine WL.rd (RD.pickT rfl rfl) rfl rfl ?_
           refine WL.nil ?_
           refine JE.seqN ?_
           refine J.condT rfl ?_
           refine J.seq ?_
           refine J.reg ?_
           refine WL.rd (RD.assign rfl) rfl rfl ?_
           refine WL.nil ?_
           refine JE.seqN ?_
           refine J.ret ?_
           refine JE.ret rfl (.tmp rfl .nil) (fun w hS => ?_)
           first | exact CS.fin hS rfl | (exfalso; omega) | exact CS.fin hS (by simp_all [mkRes])
          ·
           refine WL.rd (RD.loadA rfl rfl) rfl rfl ?_
           refine WL.rd (RD.loadA rfl rfl) rfl rfl ?_
           refine WL.efS (EF.callS (.cons rfl (.cons rfl .nil)) (fun w hS => eqPebbles_c _ _ _ _ _ _ _ _ _ _ _ _ _ (by exact RdI.rd hS) (by exact RdI.rd hS) (by exact RdI.rd hS) (by exact RdI.rd hS) (by exact RdI.rd hS) (by exact RdI.rd hS))) rfl rfl ?_
           rintro ⟨⟩ -
           refine WL.rd (RD.notP rfl) rfl rfl ?_
           refine WL.rd (RD.pickF rfl rfl) rfl rfl ?_
           refine WL.rd (RD.move rfl) rfl rfl ?_
           refine WL.caseP 94 rfl (fun hg94 => ?_) (fun hg94 => ?_)
           ·
            refine WL.noS rfl rfl ?_
            refine WL.noS rfl rfl ?_
            refine WL.noS rfl rfl ?_
            refine WL.rd (RD.pickT rfl rfl) rfl rfl ?_
            refine WL.nil ?_
            refine JE.seqN ?_
            refine J.condT rfl ?_
            refine J.seq ?_
            refine J.reg ?_
            refine WL.rd (RD.assign rfl) rfl rfl ?_
            refine WL.nil ?_
            refine JE.seqN ?_
            refine J.ret ?_
            refine JE.ret rfl (.tmp rfl .nil) (fun w hS => ?_)
            first | exact CS.fin hS rfl | (exfalso; omega) | exact CS.fin hS (by simp_all)
           ·
            refine WL.rd (RD.move rfl) rfl rfl ?_
            refine WL.rd (RD.move rfl) rfl rfl ?_
            refine WL.rd (RD.neqB rfl rfl) rfl rfl ?_
            refine WL.rd (RD.pickF rfl rfl) rfl rfl ?_
            refine WL.nil ?_
            refine JE.seqN ?_
            refine J.cond rfl (fun hc98 => ?_) (fun hc98 => ?_)
            ·
             refine J.seq ?_
             refine J.reg ?_
             refine WL.rd (RD.assign rfl) rfl rfl ?_
             refine WL.nil ?_
             refine JE.seqN ?_
             refine J.ret ?_
             refine JE.ret rfl (.tmp rfl .nil) (fun w hS => ?_)
             first | exact CS.fin hS rfl | (exfalso; omega) | exact CS.fin hS (by simp_all)
            ·
             refine J.skip ?_
             refine JE.seqN ?_
             refine J.seq ?_
             refine J.reg ?_
             refine WL.rd (RD.assign rfl) rfl rfl ?_
             refine WL.nil ?_
             refine JE.seqN ?_
             refine J.seq ?_
             refine J.reg ?_
             refine WL.rd (RD.loadA rfl rfl) rfl rfl ?_
             refine WL.rd (RD.move rfl) rfl rfl ?_
             refine WL.efS (EF.callM (.cons rfl (.cons rfl .nil)) (.row (.row (.row .nil))) .nil (fun w hS => markPebbles_c _ _ _ _ _ _ _ _ (by omega) (by omega) (by omega) (by omega)) (by simp [En.rdb])) rfl rfl ?_
             rintro ⟨⟩ -
             refine WL.rd (RD.assign rfl) rfl rfl ?_
             refine WL.nil ?_
             refine JE.seqN ?_
             refine J.seq ?_
             refine J.reg ?_
             refine WL.rd (RD.assign rfl) rfl rfl ?_
             refine WL.nil ?_
             refine JE.seqN ?_
             refine J.seq ?_
             refine J.reg ?_
             refine WL.rd (RD.loadA rfl rfl) rfl rfl ?_
             refine WL.rd (RD.move rfl) rfl rfl ?_
             refine WL.efS (EF.callS (.cons rfl (.cons rfl .nil)) (fun w hS => heldPebbles_c _ _ _ _ _ _ _ _ (by exact RdI.rd hS) (by exact RdI.rd hS) (by exact RdI.rd hS) (by omega) (by omega) (by omega) (by omega))) rfl rfl ?_
             rintro ⟨⟩ -
             refine WL.rd (RD.assign rfl) rfl rfl ?_
             refine WL.nil ?_
             refine JE.seqN ?_
             refine J.seq ?_
             refine J.seq ?_
             refine J.reg ?_
             refine WL.rd (RD.move rfl) rfl rfl ?_
             refine WL.rd (RD.lss rfl rfl) rfl rfl ?_
             refine WL.nil ?_
             refine JE.seqN ?_
             refine J.condP rfl (fun hc106 => ?_) (fun hc106 => ?_)
             ·
              refine J.seq ?_
              refine J.reg ?_
              refine WL.rd (RD.assign rfl) rfl rfl ?_
              refine WL.nil ?_
              refine JE.seqN ?_
              refine J.ret ?_
              refine JE.ret rfl (.tmp rfl .nil) (fun w hS => ?_)
              first | exact CS.fin hS rfl | (exfalso; omega) | exact CS.fin hS (by simp_all [mkRes])
             ·
              refine J.skip ?_
              refine JE.seqN ?_
              refine J.seq ?_
              refine J.seq ?_
              refine J.reg ?_
              refine WL.rd (RD.move rfl) rfl rfl ?_
              refine WL.rd (RD.move rfl) rfl rfl ?_
              refine WL.rd (RD.neq rfl rfl) rfl rfl ?_
              refine WL.nil ?_
              refine JE.seqN ?_
              refine J.condP rfl (fun hc109 => ?_) (fun hc109 => ?_)
              ·
               refine J.seq ?_
               refine J.reg ?_
               refine WL.rd (RD.assign rfl) rfl rfl ?_
               refine WL.nil ?_
               refine JE.seqN ?_
               refine J.ret ?_
               refine JE.ret rfl (.tmp rfl .nil) (fun w hS => ?_)
               first | exact CS.fin hS rfl | (exfalso; omega) | exact CS.fin hS (by simp_all [mkRes])
              ·
               refine J.skip ?_
               refine JE.seqN ?_
               refine J.seq ?_
               refine J.anyAll [13, 14] ?_
               refine WA.take 0 rfl (RD.loadA rfl rfl) rfl (by kernel_rfl) rfl ?_
               refine WA.takeP 2 rfl (RDP.of fun _ => RD.move rfl) rfl (by kernel_rfl) rfl ?_
               refine WA.take 3 rfl (RD.loadA rfl rfl) rfl (by kernel_rfl) rfl ?_
               refine WA.takeP 5 rfl (RDP.of fun _ => RD.move rfl) rfl (by kernel_rfl) rfl ?_
               refine WA.takeP 6 rfl (RDP.of fun _ => RD.move rfl) rfl (by kernel_rfl) rfl ?_
               refine WA.takeP 7 rfl (RDP.of fun _ => RD.move rfl) rfl (by kernel_rfl) rfl ?_
               refine WA.two (i := 1) (j := 12) (by kernel_rfl) ?_ ?_
               ·
                refine WAi.efS rfl (EF.callN (.cons rfl .nil) (fun w hS => toGraph_c _ _ _ _ (by exact RdI.rd hS) (by omega))) rfl rfl (fun _ => by repeat (first | exact subM_refl _ | refine subM_app _ ?_ | refine subM_con _ ?_)) ?_
                rintro v112 -
                refine WA.two (i := 4) (j := 12) (by kernel_rfl) ?_ ?_
                ·
                 refine WAi.efS rfl (EF.callN (.cons rfl .nil) (fun w hS => toPebbles_c _ _ _ _ _ _ _ (by exact RdI.rd hS) (by exact RdI.rd hS) (by exact RdI.rd hS) (by omega) (by omega) (by omega))) rfl rfl (fun _ => by repeat (first | exact subM_refl _ | refine subM_app _ ?_ | refine subM_con _ ?_)) ?_
                 rintro ⟨f115, t115, p115⟩ -
                 refine WA.two (i := 8) (j := 12) (by kernel_rfl) ?_ ?_
                 ·
                  refine WAi.efS rfl (EF.callN (.cons rfl (.cons rfl (.cons rfl (.cons rfl (.cons rfl (.cons rfl .nil)))))) (fun w hS => iGatherPebbles_c _ _ _ _ _ _ _ _ _ _ _ _ _ _ (by exact RdI.rd hS) (by exact RdI.rd hS) (by exact RdI.rd hS) (by exact RdI.rd hS) (by assumption) (by omega) (by omega) (by omega) (by omega))) rfl rfl (fun _ => by repeat (first | exact subM_refl _ | refine subM_app _ ?_ | refine subM_con _ ?_)) ?_
                  rintro ⟨f119, t119, p119⟩ -
                  refine WA.takeP 9 rfl (RDP.of fun _ => RD.move rfl) rfl (by kernel_rfl) rfl ?_
                  refine WA.takeP 10 rfl (RDP.of fun _ => RD.extract rfl rfl) rfl (by kernel_rfl) rfl ?_
                  refine WA.takeP 11 rfl (RDP.of fun _ => RD.extract rfl rfl) rfl (by kernel_rfl) rfl ?_
                  refine WA.one (i := 12) (by kernel_rfl) ?_
                  refine WAi.efS rfl (by exact EF.allocA) rfl rfl (fun _ => by repeat (first | exact subM_refl _ | refine subM_app _ ?_ | refine subM_con _ ?_)) ?_
                  intro b23 _
                  refine WA.one (i := 13) (by kernel_rfl) ?_
                  refine WAi.efNL rfl (EF.storeA rfl rfl rfl rfl) rfl rfl ?_
                  rintro ⟨⟩ -
                  refine WB.takeP 14 rfl (RDP.of fun _ => RD.assign rfl) rfl (by kernel_rfl) rfl ?_
                  refine WB.done (by kernel_rfl) ?_
                  refine JE.seqN ?_
                  refine J.seq ?_
                  refine J.seq ?_
                  refine J.reg ?_
                  refine WL.rd (RD.loadA rfl rfl) rfl rfl ?_
                  refine WL.rd (RD.loadA rfl rfl) rfl rfl ?_
                  refine WL.efS (EF.callS (.cons rfl (.cons rfl .nil)) (fun w hS => eqPebbles_c _ _ _ _ _ _ _ _ _ _ _ _ _ (by exact RdI.rd hS) (by exact RdI.rd hS) (by exact RdI.rd hS) (by exact RdI.rd hS) (by exact RdI.rd hS) (by exact RdI.rd hS))) rfl rfl ?_
                  rintro ⟨⟩ -
                  refine WL.rd (RD.notP rfl) rfl rfl ?_
                  refine WL.rd (RD.move rfl) rfl rfl ?_
                  refine WL.caseP 126 rfl (fun hg126 => ?_) (fun hg126 => ?_)
                  ·
                   refine WL.noS rfl rfl ?_
                   refine WL.noS rfl rfl ?_
                   refine WL.noS rfl rfl ?_
                   refine WL.rd (RD.pickT rfl rfl) rfl rfl ?_
                   refine WL.nil ?_
                   refine JE.seqN ?_
                   refine J.condT rfl ?_
                   refine J.seq ?_
                   refine J.reg ?_
                   refine WL.rd (RD.assign rfl) rfl rfl ?_
                   refine WL.nil ?_
                   refine JE.seqN ?_
                   refine J.ret ?_
                   refine JE.ret rfl (.tmp rfl .nil) (fun w hS => ?_)
                   first | exact CS.fin hS rfl | (exfalso; omega) | exact CS.fin hS (by simp_all)
                  ·
                   refine WL.rd (RD.move rfl) rfl rfl ?_
                   refine WL.rd (RD.move rfl) rfl rfl ?_
                   refine WL.rd (RD.neqB rfl rfl) rfl rfl ?_
                   refine WL.rd (RD.pickF rfl rfl) rfl rfl ?_
                   refine WL.nil ?_
                   refine JE.seqN ?_
                   refine J.cond rfl (fun hc130 => ?_) (fun hc130 => ?_)
                   ·
                    refine J.seq ?_
                    refine J.reg ?_
                    refine WL.rd (RD.assign rfl) rfl rfl ?_
                    refine WL.nil ?_
                    refine JE.seqN ?_
                    refine J.ret ?_
                    refine JE.ret rfl (.tmp rfl .nil) (fun w hS => ?_)
                    first | exact CS.fin hS rfl | (exfalso; omega) | exact CS.fin hS (by simp_all)
                   ·
                    refine J.skip ?_
                    refine JE.seqN ?_
                    refine J.seq ?_
                    refine J.reg ?_
                    refine WL.rd (RD.assign rfl) rfl rfl ?_
                    refine WL.nil ?_
                    refine JE.seqN ?_
                    refine J.seq ?_
                    refine J.reg ?_
                    refine WL.rd (RD.loadA rfl rfl) rfl rfl ?_
                    refine WL.rd (RD.move rfl) rfl rfl ?_
                    refine WL.efS (EF.callS (.cons rfl (.cons rfl .nil)) (fun w hS => heldPebbles_c _ _ _ _ _ _ _ _ (by exact RdI.rd hS) (by exact RdI.rd hS) (by exact RdI.rd hS) (by omega) (by omega) (by omega) (by omega))) rfl rfl ?_
                    rintro ⟨⟩ -
                    refine WL.rd (RD.assign rfl) rfl rfl ?_
                    refine WL.nil ?_
                    refine JE.seqN ?_
                    refine J.seq ?_
                    refine J.seq ?_
                    refine J.reg ?_
                    refine WL.rd (RD.move rfl) rfl rfl ?_
                    refine WL.rd (RD.lss rfl rfl) rfl rfl ?_
                    refine WL.nil ?_
                    refine JE.seqN ?_
                    refine J.condP rfl (fun hc135 => ?_) (fun hc135 => ?_)
                    ·
                     refine J.seq ?_
                     refine J.reg ?_
                     refine WL.rd (RD.assign rfl) rfl rfl ?_
                     refine WL.nil ?_
                     refine JE.seqN ?_
                     refine J.ret ?_
                     refine JE.ret rfl (.tmp rfl .nil) (fun w hS => ?_)
                     first | exact CS.fin hS rfl | (exfalso; omega) | exact CS.fin hS (by simp_all [mkRes])
                    ·
                     refine J.skip ?_
                     refine JE.seqN ?_
                     refine J.seq ?_
                     refine J.seq ?_
                     refine J.reg ?_
                     refine WL.rd (RD.move rfl) rfl rfl ?_
                     refine WL.rd (RD.move rfl) rfl rfl ?_
                     refine WL.rd (RD.neq rfl rfl) rfl rfl ?_
                     refine WL.nil ?_
                     refine JE.seqN ?_
                     refine J.condP rfl (fun hc138 => ?_) (fun hc138 => ?_)
                     ·
                      refine J.seq ?_
                      refine J.reg ?_
                      refine WL.rd (RD.assign rfl) rfl rfl ?_
                      refine WL.nil ?_
                      refine JE.seqN ?_
                      refine J.ret ?_
                      refine JE.ret rfl (.tmp rfl .nil) (fun w hS => ?_)
                      first | exact CS.fin hS rfl | (exfalso; omega) | exact CS.fin hS (by simp_all [mkRes])
                     ·
                      refine J.skip ?_
                      refine JE.seqN ?_
                      refine J.seq ?_
                      refine J.reg ?_
                      refine WL.rd (RD.assign rfl) rfl rfl ?_
                      refine WL.nil ?_
                      refine JE.seqN ?_
                      refine J.ret ?_
                      refine JE.ret rfl (.tmp rfl .nil) (fun w hS => ?_)
                      first | exact CS.fin hS rfl | (exfalso; omega) | exact CS.fin hS (by simp_all [mkRes])
                 ·
                  refine WAi.efS rfl (by exact EF.allocA) rfl rfl (fun _ => by repeat (first | exact subM_refl _ | refine subM_app _ ?_ | refine subM_con _ ?_)) ?_
                  intro b23 _
                  refine WA.one (i := 8) (by kernel_rfl) ?_
                  refine WAi.efS rfl (EF.callN (.cons rfl (.cons rfl (.cons rfl (.cons rfl (.cons rfl (.cons rfl .nil)))))) (fun w hS => iGatherPebbles_c _ _ _ _ _ _ _ _ _ _ _ _ _ _ (by exact RdI.rd hS) (by exact RdI.rd hS) (by exact RdI.rd hS) (by exact RdI.rd hS) (by assumption) (by omega) (by omega) (by omega) (by omega))) rfl rfl (fun _ => by repeat (first | exact subM_refl _ | refine subM_app _ ?_ | refine subM_con _ ?_)) ?_
                  rintro ⟨f119, t119, p119⟩ -
                  refine WA.takeP 9 rfl (RDP.of fun _ => RD.move rfl) rfl (by kernel_rfl) rfl ?_
                  refine WA.takeP 10 rfl (RDP.of fun _ => RD.extract rfl rfl) rfl (by kernel_rfl) rfl ?_
                  refine WA.takeP 11 rfl (RDP.of fun _ => RD.extract rfl rfl) rfl (by kernel_rfl) rfl ?_
                  refine WA.one (i := 13) (by kernel_rfl) ?_
                  refine WAi.efNL rfl (EF.storeA rfl rfl rfl rfl) rfl rfl ?_
                  rintro ⟨⟩ -
                  refine WB.takeP 14 rfl (RDP.of fun _ => RD.assign rfl) rfl (by kernel_rfl) rfl ?_
                  refine WB.done (by kernel_rfl) ?_
                  refine JE.seqN ?_
                  refine J.seq ?_
                  refine J.seq ?_
                  refine J.reg ?_
                  refine WL.rd (RD.loadA rfl rfl) rfl rfl ?_
                  refine WL.rd (RD.loadA rfl rfl) rfl rfl ?_
                  refine WL.efS (EF.callS (.cons rfl (.cons rfl .nil)) (fun w hS => eqPebbles_c _ _ _ _ _ _ _ _ _ _ _ _ _ (by exact RdI.rd hS) (by exact RdI.rd hS) (by exact RdI.rd hS) (by exact RdI.rd hS) (by exact RdI.rd hS) (by exact RdI.rd hS))) rfl rfl ?_
                  rintro ⟨⟩ -
                  refine WL.rd (RD.notP rfl) rfl rfl ?_
                  refine WL.rd (RD.move rfl) rfl rfl ?_
                  refine WL.caseP 126 rfl (fun hg126 => ?_) (fun hg126 => ?_)
                  ·
                   refine WL.noS rfl rfl ?_
                   refine WL.noS rfl rfl ?_
                   refine WL.noS rfl rfl ?_
                   refine WL.rd (RD.pickT rfl rfl) rfl rfl ?_
                   refine WL.nil ?_
                   refine JE.seqN ?_
                   refine J.condT rfl ?_
                   refine J.seq ?_
                   refine J.reg ?_
                   refine WL.rd (RD.assign rfl) rfl rfl ?_
                   refine WL.nil ?_
                   refine JE.seqN ?_
                   refine J.ret ?_
                   refine JE.ret rfl (.tmp rfl .nil) (fun w hS => ?_)
                   first | exact CS.fin hS rfl | (exfalso; omega) | exact CS.fin hS (by simp_all)
                  ·
                   refine WL.rd (RD.move rfl) rfl rfl ?_
                   refine WL.rd (RD.move rfl) rfl rfl ?_
                   refine WL.rd (RD.neqB rfl rfl) rfl rfl ?_
                   refine WL.rd (RD.pickF rfl rfl) rfl rfl ?_
                   refine WL.nil ?_
                   refine JE.seqN ?_
                   refine J.cond rfl (fun hc130 => ?_) (fun hc130 => ?_)
                   ·
                    refine J.seq ?_
                    refine J.reg ?_
                    refine WL.rd (RD.assign rfl) rfl rfl ?_
                    refine WL.nil ?_
                    refine JE.seqN ?_
                    refine J.ret ?_
                    refine JE.ret rfl (.tmp rfl .nil) (fun w hS => ?_)
                    first | exact CS.fin hS rfl | (exfalso; omega) | exact CS.fin hS (by simp_all)
                   ·
                    refine J.skip ?_
                    refine JE.seqN ?_
                    refine J.seq ?_
                    refine J.reg ?_
                    refine WL.rd (RD.assign rfl) rfl rfl ?_
                    refine WL.nil ?_
                    refine JE.seqN ?_
                    refine J.seq ?_
                    refine J.reg ?_
                    refine WL.rd (RD.loadA rfl rfl) rfl rfl ?_
                    refine WL.rd (RD.move rfl) rfl rfl ?_
                    refine WL.efS (EF.callS (.cons rfl (.cons rfl .nil)) (fun w hS => heldPebbles_c _ _ _ _ _ _ _ _ (by exact RdI.rd hS) (by exact RdI.rd hS) (by exact RdI.rd hS) (by omega) (by omega) (by omega) (by omega))) rfl rfl ?_
                    rintro ⟨⟩ -
                    refine WL.rd (RD.assign rfl) rfl rfl ?_
                    refine WL.nil ?_
                    refine JE.seqN ?_
                    refine J.seq ?_
                    refine J.seq ?_
                    refine J.reg ?_
                    refine WL.rd (RD.move rfl) rfl rfl ?_
                    refine WL.rd (RD.lss rfl rfl) rfl rfl ?_
                    refine WL.nil ?_
                    refine JE.seqN ?_
                    refine J.condP rfl (fun hc135 => ?_) (fun hc135 => ?_)
                    ·
                     refine J.seq ?_
                     refine J.reg ?_
                     refine WL.rd (RD.assign rfl) rfl rfl ?_
                     refine WL.nil ?_
                     refine JE.seqN ?_
                     refine J.ret ?_
                     refine JE.ret rfl (.tmp rfl .nil) (fun w hS => ?_)
                     first | exact CS.fin hS rfl | (exfalso; omega) | exact CS.fin hS (by simp_all [mkRes])
                    ·
                     refine J.skip ?_
                     refine JE.seqN ?_
                     refine J.seq ?_
                     refine J.seq ?_
                     refine J.reg ?_
                     refine WL.rd (RD.move rfl) rfl rfl ?_
                     refine WL.rd (RD.move rfl) rfl rfl ?_
                     refine WL.rd (RD.neq rfl rfl) rfl rfl ?_
                     refine WL.nil ?_
                     refine JE.seqN ?_
                     refine J.condP rfl (fun hc138 => ?_) (fun hc138 => ?_)
                     ·
                      refine J.seq ?_
                      refine J.reg ?_
                      refine WL.rd (RD.assign rfl) rfl rfl ?_
                      refine WL.nil ?_
                      refine JE.seqN ?_
                      refine J.ret ?_
                      refine JE.ret rfl (.tmp rfl .nil) (fun w hS => ?_)
                      first | exact CS.fin hS rfl | (exfalso; omega) | exact CS.fin hS (by simp_all [mkRes])
                     ·
                      refine J.skip ?_
                      refine JE.seqN ?_
                      refine J.seq ?_
                      refine J.reg ?_
                      refine WL.rd (RD.assign rfl) rfl rfl ?_
                      refine WL.nil ?_
                      refine JE.seqN ?_
                      refine J.ret ?_
                      refine JE.ret rfl (.tmp rfl .nil) (fun w hS => ?_)
                      first | exact CS.fin hS rfl | (exfalso; omega) | exact CS.fin hS (by simp_all [mkRes])
                ·
                 refine WAi.efS rfl (by exact EF.allocA) rfl rfl (fun _ => by repeat (first | exact subM_refl _ | refine subM_app _ ?_ | refine subM_con _ ?_)) ?_
                 intro b23 _
                 refine WA.one (i := 4) (by kernel_rfl) ?_
                 refine WAi.efS rfl (EF.callN (.cons rfl .nil) (fun w hS => toPebbles_c _ _ _ _ _ _ _ (by exact RdI.rd hS) (by exact RdI.rd hS) (by exact RdI.rd hS) (by omega) (by omega) (by omega))) rfl rfl (fun _ => by repeat (first | exact subM_refl _ | refine subM_app _ ?_ | refine subM_con _ ?_)) ?_
                 rintro ⟨f115, t115, p115⟩ -
                 refine WA.one (i := 8) (by kernel_rfl) ?_
                 refine WAi.efS rfl (EF.callN (.cons rfl (.cons rfl (.cons rfl (.cons rfl (.cons rfl (.cons rfl .nil)))))) (fun w hS => iGatherPebbles_c _ _ _ _ _ _ _ _ _ _ _ _ _ _ (by exact RdI.rd hS) (by exact RdI.rd hS) (by exact RdI.rd hS) (by exact RdI.rd hS) (by assumption) (by omega) (by omega) (by omega) (by omega))) rfl rfl (fun _ => by repeat (first | exact subM_refl _ | refine subM_app _ ?_ | refine subM_con _ ?_)) ?_
                 rintro ⟨f119, t119, p119⟩ -
                 refine WA.takeP 9 rfl (RDP.of fun _ => RD.move rfl) rfl (by kernel_rfl) rfl ?_
                 refine WA.takeP 10 rfl (RDP.of fun _ => RD.extract rfl rfl) rfl (by kernel_rfl) rfl ?_
                 refine WA.takeP 11 rfl (RDP.of fun _ => RD.extract rfl rfl) rfl (by kernel_rfl) rfl ?_
                 refine WA.one (i := 13) (by kernel_rfl) ?_
                 refine WAi.efNL rfl (EF.storeA rfl rfl rfl rfl) rfl rfl ?_
                 rintro ⟨⟩ -
                 refine WB.takeP 14 rfl (RDP.of fun _ => RD.assign rfl) rfl (by kernel_rfl) rfl ?_
                 refine WB.done (by kernel_rfl) ?_
                 refine JE.seqN ?_
                 refine J.seq ?_
                 refine J.seq ?_
                 refine J.reg ?_
                 refine WL.rd (RD.loadA rfl rfl) rfl rfl ?_
                 refine WL.rd (RD.loadA rfl rfl) rfl rfl ?_
                 refine WL.efS (EF.callS (.cons rfl (.cons rfl .nil)) (fun w hS => eqPebbles_c _ _ _ _ _ _ _ _ _ _ _ _ _ (by exact RdI.rd hS) (by exact RdI.rd hS) (by exact RdI.rd hS) (by exact RdI.rd hS) (by exact RdI.rd hS) (by exact RdI.rd hS))) rfl rfl ?_
                 rintro ⟨⟩ -
                 refine WL.rd (RD.notP rfl) rfl rfl ?_
                 refine WL.rd (RD.move rfl) rfl rfl ?_
                 refine WL.caseP 126 rfl (fun hg126 => ?_) (fun hg126 => ?_)
                 ·
                  refine WL.noS rfl rfl ?_
                  refine WL.noS rfl rfl ?_
                  refine WL.noS rfl rfl ?_
                  refine WL.rd (RD.pickT rfl rfl) rfl rfl ?_
                  refine WL.nil ?_
                  refine JE.seqN ?_
                  refine J.condT rfl ?_
                  refine J.seq ?_
                  refine J.reg ?_
                  refine WL.rd (RD.assign rfl) rfl rfl ?_
                  refine WL.nil ?_
                  refine JE.seqN ?_
                  refine J.ret ?_
                  refine JE.ret rfl (.tmp rfl .nil) (fun w hS => ?_)
                  first | exact CS.fin hS rfl | (exfalso; omega) | exact CS.fin hS (by simp_all)
                 ·
                  refine WL.rd (RD.move rfl) rfl rfl ?_
                  refine WL.rd (RD.move rfl) rfl rfl ?_
                  refine WL.rd (RD.neqB rfl rfl) rfl rfl ?_
                  refine WL.rd (RD.pickF rfl rfl) rfl rfl ?_
                  refine WL.nil ?_
                  refine JE.seqN ?_
                  refine J.cond rfl (fun hc130 => ?_) (fun hc130 => ?_)
                  ·
                   refine J.seq ?_
                   refine J.reg ?_
                   refine WL.rd (RD.assign rfl) rfl rfl ?_
                   refine WL.nil ?_
                   refine JE.seqN ?_
                   refine J.ret ?_
                   refine JE.ret rfl (.tmp rfl .nil) (fun w hS => ?_)
                   first | exact CS.fin hS rfl | (exfalso; omega) | exact CS.fin hS (by simp_all)
                  ·
                   refine J.skip ?_
                   refine JE.seqN ?_
                   refine J.seq ?_
                   refine J.reg ?_
                   refine WL.rd (RD.assign rfl) rfl rfl ?_
                   refine WL.nil ?_
                   refine JE.seqN ?_
                   refine J.seq ?_
                   refine J.reg ?_
                   refine WL.rd (RD.loadA rfl rfl) rfl rfl ?_
                   refine WL.rd (RD.move rfl) rfl rfl ?_
                   refine WL.efS (EF.callS (.cons rfl (.cons rfl .nil)) (fun w hS => heldPebbles_c _ _ _ _ _ _ _ _ (by exact RdI.rd hS) (by exact RdI.rd hS) (by exact RdI.rd hS) (by omega) (by omega) (by omega) (by omega))) rfl rfl ?_
                   rintro ⟨⟩ -
                   refine WL.rd (RD.assign rfl) rfl rfl ?_
                   refine WL.nil ?_
                   refine JE.seqN ?_
                   refine J.seq ?_
                   refine J.seq ?_
                   refine J.reg ?_
                   refine WL.rd (RD.move rfl) rfl rfl ?_
                   refine WL.rd (RD.lss rfl rfl) rfl rfl ?_
                   refine WL.nil ?_
                   refine JE.seqN ?_
                   refine J.condP rfl (fun hc135 => ?_) (fun hc135 => ?_)
                   ·
                    refine J.seq ?_
                    refine J.reg ?_
                    refine WL.rd (RD.assign rfl) rfl rfl ?_
                    refine WL.nil ?_
                    refine JE.seqN ?_
                    refine J.ret ?_
                    refine JE.ret rfl (.tmp rfl .nil) (fun w hS => ?_)
                    first | exact CS.fin hS rfl | (exfalso; omega) | exact CS.fin hS (by simp_all [mkRes])
                   ·
                    refine J.skip ?_
                    refine JE.seqN ?_
                    refine J.seq ?_
                    refine J.seq ?_
                    refine J.reg ?_
                    refine WL.rd (RD.move rfl) rfl rfl ?_
                    refine WL.rd (RD.move rfl) rfl rfl ?_
                    refine WL.rd (RD.neq rfl rfl) rfl rfl ?_
                    refine WL.nil ?_
                    refine JE.seqN ?_
                    refine J.condP rfl (fun hc138 => ?_) (fun hc138 => ?_)
                    ·
                     refine J.seq ?_
                     refine J.reg ?_
                     refine WL.rd (RD.assign rfl) rfl rfl ?_
                     refine WL.nil ?_
                     refine JE.seqN ?_
                     refine J.ret ?_
                     refine JE.ret rfl (.tmp rfl .nil) (fun w hS => ?_)
                     first | exact CS.fin hS rfl | (exfalso; omega) | exact CS.fin hS (by simp_all [mkRes])
                    ·
                     refine J.skip ?_
                     refine JE.seqN ?_
                     refine J.seq ?_
                     refine J.reg ?_
                     refine WL.rd (RD.assign rfl) rfl rfl ?_
                     refine WL.nil ?_
                     refine JE.seqN ?_
                     refine J.ret ?_
                     refine JE.ret rfl (.tmp rfl .nil) (fun w hS => ?_)
                     first | exact CS.fin hS rfl | (exfalso; omega) | exact CS.fin hS (by simp_all [mkRes])
               ·
                refine WAi.efS rfl (by exact EF.allocA) rfl rfl (fun _ => by repeat (first | exact subM_refl _ | refine subM_app _ ?_ | refine subM_con _ ?_)) ?_
                intro b23 _
                refine WA.one (i := 1) (by kernel_rfl) ?_
                refine WAi.efS rfl (EF.callN (.cons rfl .nil) (fun w hS => toGraph_c _ _ _ _ (by exact RdI.rd hS) (by omega))) rfl rfl (fun _ => by repeat (first | exact subM_refl _ | refine subM_app _ ?_ | refine subM_con _ ?_)) ?_
                rintro v112 -
                refine WA.one (i := 4) (by kernel_rfl) ?_
                refine WAi.efS rfl (EF.callN (.cons rfl .nil) (fun w hS => toPebbles_c _ _ _ _ _ _ _ (by exact RdI.rd hS) (by exact RdI.rd hS) (by exact RdI.rd hS) (by omega) (by omega) (by omega))) rfl rfl (fun _ => by repeat (first | exact subM_refl _ | refine subM_app _ ?_ | refine subM_con _ ?_)) ?_
                rintro ⟨f115, t115, p115⟩ -
                refine WA.one (i := 8) (by kernel_rfl) ?_
                refine WAi.efS rfl (EF.callN (.cons rfl (.cons rfl (.cons rfl (.cons rfl (.cons rfl (.cons rfl .nil)))))) (fun w hS => iGatherPebbles_c _ _ _ _ _ _ _ _ _ _ _ _ _ _ (by exact RdI.rd hS) (by exact RdI.rd hS) (by exact RdI.rd hS) (by exact RdI.rd hS) (by assumption) (by omega) (by omega) (by omega) (by omega))) rfl rfl (fun _ => by repeat (first | exact subM_refl _ | refine subM_app _ ?_ | refine subM_con _ ?_)) ?_
                rintro ⟨f119, t119, p119⟩ -
                refine WA.takeP 9 rfl (RDP.of fun _ => RD.move rfl) rfl (by kernel_rfl) rfl ?_
                refine WA.takeP 10 rfl (RDP.of fun _ => RD.extract rfl rfl) rfl (by kernel_rfl) rfl ?_
                refine WA.takeP 11 rfl (RDP.of fun _ => RD.extract rfl rfl) rfl (by kernel_rfl) rfl ?_
                refine WA.one (i := 13) (by kernel_rfl) ?_
                refine WAi.efNL rfl (EF.storeA rfl rfl rfl rfl) rfl rfl ?_
                rintro ⟨⟩ -
                refine WB.takeP 14 rfl (RDP.of fun _ => RD.assign rfl) rfl (by kernel_rfl) rfl ?_
                refine WB.done (by kernel_rfl) ?_
                refine JE.seqN ?_
                refine J.seq ?_
                refine J.seq ?_
                refine J.reg ?_
                refine WL.rd (RD.loadA rfl rfl) rfl rfl ?_
                refine WL.rd (RD.loadA rfl rfl) rfl rfl ?_
                refine WL.efS (EF.callS (.cons rfl (.cons rfl .nil)) (fun w hS => eqPebbles_c _ _ _ _ _ _ _ _ _ _ _ _ _ (by exact RdI.rd hS) (by exact RdI.rd hS) (by exact RdI.rd hS) (by exact RdI.rd hS) (by exact RdI.rd hS) (by exact RdI.rd hS))) rfl rfl ?_
                rintro ⟨⟩ -
                refine WL.rd (RD.notP rfl) rfl rfl ?_
                refine WL.rd (RD.move rfl) rfl rfl ?_
                refine WL.caseP 126 rfl (fun hg126 => ?_) (fun hg126 => ?_)
                ·
                 refine WL.noS rfl rfl ?_
                 refine WL.noS rfl rfl ?_
                 refine WL.noS rfl rfl ?_
                 refine WL.rd (RD.pickT rfl rfl) rfl rfl ?_
                 refine WL.nil ?_
                 refine JE.seqN ?_
                 refine J.condT rfl ?_
                 refine J.seq ?_
                 refine J.reg ?_
                 refine WL.rd (RD.assign rfl) rfl rfl ?_
                 refine WL.nil ?_
                 refine JE.seqN ?_
                 refine J.ret ?_
                 refine JE.ret rfl (.tmp rfl .nil) (fun w hS => ?_)
                 first | exact CS.fin hS rfl | (exfalso; omega) | exact CS.fin hS (by simp_all)
                ·
                 refine WL.rd (RD.move rfl) rfl rfl ?_
                 refine WL.rd (RD.move rfl) rfl rfl ?_
                 refine WL.rd (RD.neqB rfl rfl) rfl rfl ?_
                 refine WL.rd (RD.pickF rfl rfl) rfl rfl ?_
                 refine WL.nil ?_
                 refine JE.seqN ?_
                 refine J.cond rfl (fun hc130 => ?_) (fun hc130 => ?_)
                 ·
                  refine J.seq ?_
                  refine J.reg ?_
                  refine WL.rd (RD.assign rfl) rfl rfl ?_
                  refine WL.nil ?_
                  refine JE.seqN ?_
                  refine J.ret ?_
                  refine JE.ret rfl (.tmp rfl .nil) (fun w hS => ?_)
                  first | exact CS.fin hS rfl | (exfalso; omega) | exact CS.fin hS (by simp_all)
                 ·
                  refine J.skip ?_
                  refine JE.seqN ?_
                  refine J.seq ?_
                  refine J.reg ?_
                  refine WL.rd (RD.assign rfl) rfl rfl ?_
                  refine WL.nil ?_
                  refine JE.seqN ?_
                  refine J.seq ?_
                  refine J.reg ?_
                  refine WL.rd (RD.loadA rfl rfl) rfl rfl ?_
                  refine WL.rd (RD.move rfl) rfl rfl ?_
                  refine WL.efS (EF.callS (.cons rfl (.cons rfl .nil)) (fun w hS => heldPebbles_c _ _ _ _ _ _ _ _ (by exact RdI.rd hS) (by exact RdI.rd hS) (by exact RdI.rd hS) (by omega) (by omega) (by omega) (by omega))) rfl rfl ?_
                  rintro ⟨⟩ -
                  refine WL.rd (RD.assign rfl) rfl rfl ?_
                  refine WL.nil ?_
                  refine JE.seqN ?_
                  refine J.seq ?_
                  refine J.seq ?_
                  refine J.reg ?_
                  refine WL.rd (RD.move rfl) rfl rfl ?_
                  refine WL.rd (RD.lss rfl rfl) rfl rfl ?_
                  refine WL.nil ?_
                  refine JE.seqN ?_
                  refine J.condP rfl (fun hc135 => ?_) (fun hc135 => ?_)
                  ·
                   refine J.seq ?_
                   refine J.reg ?_
                   refine WL.rd (RD.assign rfl) rfl rfl ?_
                   refine WL.nil ?_
                   refine JE.seqN ?_
                   refine J.ret ?_
                   refine JE.ret rfl (.tmp rfl .nil) (fun w hS => ?_)
                   first | exact CS.fin hS rfl | (exfalso; omega) | exact CS.fin hS (by simp_all [mkRes])
                  ·
                   refine J.skip ?_
                   refine JE.seqN ?_
                   refine J.seq ?_
                   refine J.seq ?_
                   refine J.reg ?_
                   refine WL.rd (RD.move rfl) rfl rfl ?_
                   refine WL.rd (RD.move rfl) rfl rfl ?_
                   refine WL.rd (RD.neq rfl rfl) rfl rfl ?_
                   refine WL.nil ?_
                   refine JE.seqN ?_
                   refine J.condP rfl (fun hc138 => ?_) (fun hc138 => ?_)
                   ·
                    refine J.seq ?_
                    refine J.reg ?_
                    refine WL.rd (RD.assign rfl) rfl rfl ?_
                    refine WL.nil ?_
                    refine JE.seqN ?_
                    refine J.ret ?_
                    refine JE.ret rfl (.tmp rfl .nil) (fun w hS => ?_)
                    first | exact CS.fin hS rfl | (exfalso; omega) | exact CS.fin hS (by simp_all [mkRes])
                   ·
                    refine J.skip ?_
                    refine JE.seqN ?_
                    refine J.seq ?_
                    refine J.reg ?_
                    refine WL.rd (RD.assign rfl) rfl rfl ?_
                    refine WL.nil ?_
                    refine JE.seqN ?_
                    refine J.ret ?_
                    refine JE.ret rfl (.tmp rfl .nil) (fun w hS => ?_)
                    first | exact CS.fin hS rfl | (exfalso; omega) | exact CS.fin hS (by simp_all [mkRes])
     ·
      refine WAi.efS rfl (by exact EF.allocA) rfl rfl (fun _ => by repeat (first | exact subM_refl _ | refine subM_app _ ?_ | refine subM_con _ ?_)) ?_
      intro b14 _
      refine WA.one (i := 8) (by kernel_rfl) ?_
      refine WAi.efS rfl (EF.callN (.cons rfl (.cons rfl (.cons rfl (.cons rfl (.cons rfl (.cons rfl .nil)))))) (fun w hS => sGatherPebbles_c _ _ _ _ _ _ _ _ _ _ _ _ _ _ (by exact RdI.rd hS) (by exact RdI.rd hS) (by exact RdI.rd hS) (by exact RdI.rd hS) (by assumption) (by omega) (by omega) (by omega) (by omega))) rfl rfl (fun _ => by repeat (first | exact subM_refl _ | refine subM_app _ ?_ | refine subM_con _ ?_)) ?_
      rintro ⟨f44, t44, p44⟩ -
      refine WA.takeP 9 rfl (RDP.of fun _ => RD.move rfl) rfl (by kernel_rfl) rfl ?_
      refine WA.takeP 10 rfl (RDP.of fun _ => RD.extract rfl rfl) rfl (by kernel_rfl) rfl ?_
      refine WA.takeP 11 rfl (RDP.of fun _ => RD.extract rfl rfl) rfl (by kernel_rfl) rfl ?_
      refine WA.one (i := 13) (by kernel_rfl) ?_
      refine WAi.efNL rfl (EF.storeA rfl rfl rfl rfl) rfl rfl ?_
      rintro ⟨⟩ -
      refine WB.takeP 14 rfl (RDP.of fun _ => RD.assign rfl) rfl (by kernel_rfl) rfl ?_
      refine WB.done (by kernel_rfl) ?_
      refine JE.seqN ?_
      refine J.seq ?_
      refine J.reg ?_
      refine WL.rd (RD.loadA rfl rfl) rfl rfl ?_
      refine WL.efS (EF.callN (.cons rfl .nil) (fun w hS => toGraph_c _ _ _ _ (by exact RdI.rd hS) (by omega))) rfl rfl ?_
      rintro v48 -
      refine WL.efS (EF.allocA) rfl rfl ?_
      intro b16 _
      refine WL.efN (EF.storeA rfl rfl rfl rfl) rfl ?_
      rintro ⟨⟩ -
      refine WL.nil ?_
      refine JE.seqN ?_
      refine J.seq ?_
      refine J.reg ?_
      refine WL.rd (RD.loadA rfl rfl) rfl rfl ?_
      refine WL.efS (EF.callN (.cons rfl .nil) (fun w hS => toPebbles_c _ _ _ _ _ _ _ (by exact RdI.rd hS) (by exact RdI.rd hS) (by exact RdI.rd hS) (by omega) (by omega) (by omega))) rfl rfl ?_
      rintro ⟨f50, t50, p50⟩ -
      refine WL.efS (EF.allocA) rfl rfl ?_
      intro b17 _
      refine WL.efN (EF.storeA rfl rfl rfl rfl) rfl ?_
      rintro ⟨⟩ -
      refine WL.nil ?_
      refine JE.seqN ?_
      refine J.seq ?_
      refine J.reg ?_
      refine WL.rd (RD.loadA rfl rfl) rfl rfl ?_
      refine WL.rd (RD.move rfl) rfl rfl ?_
      refine WL.rd (RD.loadA rfl rfl) rfl rfl ?_
      refine WL.rd (RD.move rfl) rfl rfl ?_
      refine WL.rd (RD.move rfl) rfl rfl ?_
      refine WL.rd (RD.move rfl) rfl rfl ?_
      refine WL.efS (EF.callN (.cons rfl (.cons rfl (.cons rfl (.cons rfl (.cons rfl (.cons rfl .nil)))))) (fun w hS => iGatherPebbles_c _ _ _ _ _ _ _ _ _ _ _ _ _ _ (by exact RdI.rd hS) (by exact RdI.rd hS) (by exact RdI.rd hS) (by exact RdI.rd hS) (by assumption) (by omega) (by omega) (by omega) (by omega))) rfl rfl ?_
      rintro ⟨f58, t58, p58⟩ -
      refine WL.rd (RD.move rfl) rfl rfl ?_
      refine WL.rd (RD.extract rfl rfl) rfl rfl ?_
      refine WL.rd (RD.extract rfl rfl) rfl rfl ?_
      refine WL.efS (EF.allocA) rfl rfl ?_
      intro b18 _
      refine WL.efN (EF.storeA rfl rfl rfl rfl) rfl ?_
      rintro ⟨⟩ -
      refine WL.rd (RD.assign rfl) rfl rfl ?_
      refine WL.nil ?_
      refine JE.seqN ?_
      refine J.seq ?_
      refine J.seq ?_
      refine J.reg ?_
      refine WL.rd (RD.loadA rfl rfl) rfl rfl ?_
      refine WL.rd (RD.loadA rfl rfl) rfl rfl ?_
      refine WL.efS (EF.callS (.cons rfl (.cons rfl .nil)) (fun w hS => eqPebbles_c _ _ _ _ _ _ _ _ _ _ _ _ _ (by exact RdI.rd hS) (by exact RdI.rd hS) (by exact RdI.rd hS) (by exact RdI.rd hS) (by exact RdI.rd hS) (by exact RdI.rd hS))) rfl rfl ?_
      rintro ⟨⟩ -
      refine WL.rd (RD.notP rfl) rfl rfl ?_
      refine WL.rd (RD.move rfl) rfl rfl ?_
      refine WL.caseP 65 rfl (fun hg65 => ?_) (fun hg65 => ?_)
      ·
       refine WL.noS rfl rfl ?_
       refine WL.noS rfl rfl ?_
       refine WL.noS rfl rfl ?_
       refine WL.rd (RD.pickT rfl rfl) rfl rfl ?_
       refine WL.nil ?_
       refine JE.seqN ?_
       refine J.condT rfl ?_
       refine J.seq ?_
       refine J.reg ?_
       refine WL.rd (RD.assign rfl) rfl rfl ?_
       refine WL.nil ?_
       refine JE.seqN ?_
       refine J.ret ?_
       refine JE.ret rfl (.tmp rfl .nil) (fun w hS => ?_)
       first | exact CS.fin hS rfl | (exfalso; omega) | exact CS.fin hS (by simp_all)
      ·
       refine WL.rd (RD.move rfl) rfl rfl ?_
       refine WL.rd (RD.move rfl) rfl rfl ?_
       refine WL.rd (RD.neqB rfl rfl) rfl rfl ?_
       refine WL.rd (RD.pickF rfl rfl) rfl rfl ?_
       refine WL.nil ?_
       refine JE.seqN ?_
       refine J.cond rfl (fun hc69 => ?_) (fun hc69 => ?_)
       ·
        refine J.seq ?_
        refine J.reg ?_
        refine WL.rd (RD.assign rfl) rfl rfl ?_
        refine WL.nil ?_
        refine JE.seqN ?_
        refine J.ret ?_
        refine JE.ret rfl (.tmp rfl .nil) (fun w hS => ?_)
        first | exact CS.fin hS rfl | (exfalso; omega) | exact CS.fin hS (by simp_all)
       ·
        refine J.skip ?_
        refine JE.seqN ?_
        refine J.seq ?_
        refine J.seq ?_
        refine J.anyAll [] ?_
        refine WA.take 0 rfl (RD.loadA rfl rfl) rfl (by kernel_rfl) rfl ?_
        refine WA.take 1 rfl (RD.loadA rfl rfl) rfl (by kernel_rfl) rfl ?_
        refine WA.one (i := 2) (by kernel_rfl) ?_
        refine WAi.efS rfl (EF.callN (.cons rfl .nil) (fun w hS => toGraph_c _ _ _ _ (by exact RdI.rd hS) (by omega))) rfl rfl (fun _ => by repeat (first | exact subM_refl _ | refine subM_app _ ?_ | refine subM_con _ ?_)) ?_
        rintro v72 -
        refine WA.one (i := 3) (by kernel_rfl) ?_
        refine WAi.efS rfl (EF.callS (.cons rfl (.cons rfl .nil)) (fun w hS => eqGraph_c _ _ _ _ _ _ _ (by exact RdI.rd hS) (by exact RdI.rd hS))) rfl rfl (fun _ => by repeat (first | exact subM_refl _ | refine subM_app _ ?_ | refine subM_con _ ?_)) ?_
        rintro ⟨⟩ -
        refine WA.takeP 4 rfl (RDP.of fun _ => RD.notP rfl) rfl (by kernel_rfl) rfl ?_
        refine WA.done (by kernel_rfl) ?_
        refine JE.seqN ?_
        refine J.condP rfl (fun hc74 => ?_) (fun hc74 => ?_)
        ·
         refine J.seq ?_
         refine J.reg ?_
         refine WL.rd (RD.assign rfl) rfl rfl ?_
         refine WL.nil ?_
         refine JE.seqN ?_
         refine J.ret ?_
         refine JE.ret rfl (.tmp rfl .nil) (fun w hS => ?_)
         first | exact CS.fin hS rfl | (exfalso; omega) | exact CS.fin hS (by simp_all)
        ·
         refine J.skip ?_
         refine JE.seqN ?_
         refine J.seq ?_
         refine J.seq ?_
         refine J.anyAll [] ?_
         refine WA.take 0 rfl (RD.loadA rfl rfl) rfl (by kernel_rfl) rfl ?_
         refine WA.take 1 rfl (RD.loadA rfl rfl) rfl (by kernel_rfl) rfl ?_
         refine WA.one (i := 2) (by kernel_rfl) ?_
         refine WAi.efS rfl (EF.callN (.cons rfl .nil) (fun w hS => toPebbles_c _ _ _ _ _ _ _ (by exact RdI.rd hS) (by exact RdI.rd hS) (by exact RdI.rd hS) (by omega) (by omega) (by omega))) rfl rfl (fun _ => by repeat (first | exact subM_refl _ | refine subM_app _ ?_ | refine subM_con _ ?_)) ?_
         rintro ⟨f77, t77, p77⟩ -
         refine WA.one (i := 3) (by kernel_rfl) ?_
         refine WAi.efS rfl (EF.callS (.cons rfl (.cons rfl .nil)) (fun w hS => eqPebbles_c _ _ _ _ _ _ _ _ _ _ _ _ _ (by exact RdI.rd hS) (by exact RdI.rd hS) (by exact RdI.rd hS) (by exact RdI.rd hS) (by exact RdI.rd hS) (by exact RdI.rd hS))) rfl rfl (fun _ => by repeat (first | exact subM_refl _ | refine subM_app _ ?_ | refine subM_con _ ?_)) ?_
         rintro ⟨⟩ -
         refine WA.takeP 4 rfl (RDP.of fun _ => RD.notP rfl) rfl (by kernel_rfl) rfl ?_
         refine WA.done (by kernel_rfl) ?_
         refine JE.seqN ?_
         refine J.condP rfl (fun hc79 => ?_) (fun hc79 => ?_)
         ·
          refine J.seq ?_
          refine J.reg ?_
          refine WL.rd (RD.assign rfl) rfl rfl ?_
          refine WL.nil ?_
          refine JE.seqN ?_
          refine J.ret ?_
          refine JE.ret rfl (.tmp rfl .nil) (fun w hS => ?_)
          first | exact CS.fin hS rfl | (exfalso; omega) | exact CS.fin hS (by simp_all)
         ·
          refine J.skip ?_
          refine JE.seqN ?_
          refine J.seq ?_
          refine J.reg ?_
          refine WL.rd (RD.assign rfl) rfl rfl ?_
          refine WL.nil ?_
          refine JE.seqN ?_
          refine J.seq ?_
          refine J.reg ?_
          refine WL.rd (RD.loadA rfl rfl) rfl rfl ?_
          refine WL.rd (RD.move rfl) rfl rfl ?_
          refine WL.efS (EF.callM (.cons rfl (.cons rfl .nil)) (.row .nil) .nil (fun w hS => markGraph_c _ _ _ _ _ (by omega) (by omega)) (by simp [En.rdb])) rfl rfl ?_
          rintro ⟨⟩ -
          refine WL.rd (RD.assign rfl) rfl rfl ?_
          refine WL.nil ?_
          refine JE.seqN ?_
          refine J.seq ?_
          refine J.reg ?_
          refine WL.rd (RD.loadA rfl rfl) rfl rfl ?_
          refine WL.rd (RD.move rfl) rfl rfl ?_
          refine WL.efS (EF.callM (.cons rfl (.cons rfl .nil)) (.row (.row (.row .nil))) .nil (fun w hS => markPebbles_c _ _ _ _ _ _ _ _ (by omega) (by omega) (by omega) (by omega)) (by simp [En.rdb])) rfl rfl ?_
          rintro ⟨⟩ -
          refine WL.rd (RD.assign rfl) rfl rfl ?_
          refine WL.nil ?_
          refine JE.seqN ?_
          refine J.seq ?_
          refine J.seq ?_
          refine J.reg ?_
          refine WL.rd (RD.move rfl) rfl rfl ?_
          refine WL.rd (RD.lss rfl rfl) rfl rfl ?_
          refine WL.rd (RD.move rfl) rfl rfl ?_
          refine WL.caseP 88 rfl (fun hg88 => ?_) (fun hg88 => ?_)
          ·
           refine WL.noS rfl rfl ?_
           refine WL.noS rfl rfl ?_
           refine WL.noS rfl rfl ?_
           refine WL.noS rfl rfl ?_
           refine WL.rd (RD.pickT rfl rfl) rfl rfl ?_
           refine WL.rd (RD.move rfl) rfl rfl ?_
           refine WL.noS rfl rfl ?_
           refine WL.noS rfl rfl ?_
           refine WL.noS rfl rfl ?_
           refine WL.rd (RD.pickT rfl rfl) rfl rfl ?_
           refine WL.nil ?_
           refine JE.seqN ?_
           refine J.condT rfl ?_
           refine J.seq ?_
           refine J.reg ?_
           refine WL.rd (RD.assign rfl) rfl rfl ?_
           refine WL.nil ?_
           refine JE.seqN ?_
           refine J.ret ?_
           refine JE.ret rfl (.tmp rfl .nil) (fun w hS => ?_)
           first | exact CS.fin hS rfl | (exfalso; omega) | exact CS.fin hS (by simp_all [mkRes])
          ·
           refine WL.rd (RD.loadA rfl rfl) rfl rfl ?_
           refine WL.rd (RD.loadA rfl rfl) rfl rfl ?_
           refine WL.efS (EF.callS (.cons rfl (.cons rfl .nil)) (fun w hS => eqPebbles_c _ _ _ _ _ _ _ _ _ _ _ _ _ (by exact RdI.rd hS) (by exact RdI.rd hS) (by exact RdI.rd hS) (by exact RdI.rd hS) (by exact RdI.rd hS) (by exact RdI.rd hS))) rfl rfl ?_
           rintro ⟨⟩ -
           refine WL.rd (RD.notP rfl) rfl rfl ?_
           refine WL.rd (RD.pickF rfl rfl) rfl rfl ?_
           refine WL.rd (RD.move rfl) rfl rfl ?_
           refine WL.caseP 94 rfl (fun hg94 => ?_) (fun hg94 => ?_)
           ·
            refine WL.noS rfl rfl ?_
            refine WL.noS rfl rfl ?_
            refine WL.noS rfl rfl ?_
            refine WL.rd (RD.pickT rfl rfl) rfl rfl ?_
            refine WL.nil ?_
            refine JE.seqN ?_
            refine J.condT rfl ?_
            refine J.seq ?_
            refine J.reg ?_
            refine WL.rd (RD.assign rfl) rfl rfl ?_
            refine WL.nil ?_
            refine JE.seqN ?_
            refine J.ret ?_
            refine JE.ret rfl (.tmp rfl .nil) (fun w hS => ?_)
            first | exact CS.fin hS rfl | (exfalso; omega) | exact CS.fin hS (by simp_all)
           ·
            refine WL.rd (RD.move rfl) rfl rfl ?_
            refine WL.rd (RD.move rfl) rfl rfl ?_
            refine WL.rd (RD.neqB rfl rfl) rfl rfl ?_
            refine WL.rd (RD.pickF rfl rfl) rfl rfl ?_
            refine WL.nil ?_
            refine JE.seqN ?_
            refine J.cond rfl (fun hc98 => ?_) (fun hc98 => ?_)
            ·
             refine J.seq ?_
             refine J.reg ?_
             refine WL.rd (RD.assign rfl) rfl rfl ?_
             refine WL.nil ?_
             refine JE.seqN ?_
             refine J.ret ?_
             refine JE.ret rfl (.tmp rfl .nil) (fun w hS => ?_)
             first | exact CS.fin hS rfl | (exfalso; omega) | exact CS.fin hS (by simp_all)
            ·
             refine J.skip ?_
             refine JE.seqN ?_
             refine J.seq ?_
             refine J.reg ?_
             refine WL.rd (RD.assign rfl) rfl rfl ?_
             refine WL.nil ?_
             refine JE.seqN ?_
             refine J.seq ?_
             refine J.reg ?_
             refine WL.rd (RD.loadA rfl rfl) rfl rfl ?_
             refine WL.rd (RD.move rfl) rfl rfl ?_
             refine WL.efS (EF.callM (.cons rfl (.cons rfl .nil)) (.row (.row (.row .nil))) .nil (fun w hS => markPebbles_c _ _ _ _ _ _ _ _ (by omega) (by omega) (by omega) (by omega)) (by simp [En.rdb])) rfl rfl ?_
             rintro ⟨⟩ -
             refine WL.rd (RD.assign rfl) rfl rfl ?_
             refine WL.nil ?_
             refine JE.seqN ?_
             refine J.seq ?_
             refine J.reg ?_
             refine WL.rd (RD.assign rfl) rfl rfl ?_
             refine WL.nil ?_
             refine JE.seqN ?_
             refine J.seq ?_
             refine J.reg ?_
             refine WL.rd (RD.loadA rfl rfl) rfl rfl ?_
             refine WL.rd (RD.move rfl) rfl rfl ?_
             refine WL.efS (EF.callS (.cons rfl (.cons rfl .nil)) (fun w hS => heldPebbles_c _ _ _ _ _ _ _ _ (by exact RdI.rd hS) (by exact RdI.rd hS) (by exact RdI.rd hS) (by omega) (by omega) (by omega) (by omega))) rfl rfl ?_
             rintro ⟨⟩ -
             refine WL.rd (RD.assign rfl) rfl rfl ?_
             refine WL.nil ?_
             refine JE.seqN ?_
             refine J.seq ?_
             refine J.seq ?_
             refine J.reg ?_
             refine WL.rd (RD.move rfl) rfl rfl ?_
             refine WL.rd (RD.lss rfl rfl) rfl rfl ?_
             refine WL.nil ?_
             refine JE.seqN ?_
             refine J.condP rfl (fun hc106 => ?_) (fun hc106 => ?_)
             ·
              refine J.seq ?_
              refine J.reg ?_
              refine WL.rd (RD.assign rfl) rfl rfl ?_
              refine WL.nil ?_
              refine JE.seqN ?_
              refine J.ret ?_
              refine JE.ret rfl (.tmp rfl .nil) (fun w hS => ?_)
              first | exact CS.fin hS rfl | (exfalso; omega) | exact CS.fin hS (by simp_all [mkRes])
             ·
              refine J.skip ?_
              refine JE.seqN ?_
              refine J.seq ?_
              refine J.seq ?_
              refine J.reg ?_
              refine WL.rd (RD.move rfl) rfl rfl ?_
              refine WL.rd (RD.move rfl) rfl rfl ?_
              refine WL.rd (RD.neq rfl rfl) rfl rfl ?_
              refine WL.nil ?_
              refine JE.seqN ?_
              refine J.condP rfl (fun hc109 => ?_) (fun hc109 => ?_)
              ·
               refine J.seq ?_
               refine J.reg ?_
               refine WL.rd (RD.assign rfl) rfl rfl ?_
               refine WL.nil ?_
               refine JE.seqN ?_
               refine J.ret ?_
               refine JE.ret rfl (.tmp rfl .nil) (fun w hS => ?_)
               first | exact CS.fin hS rfl | (exfalso; omega) | exact CS.fin hS (by simp_all [mkRes])
              ·
               refine J.skip ?_
               refine JE.seqN ?_
               refine J.seq ?_
               refine J.anyAll [13, 14] ?_
               refine WA.take 0 rfl (RD.loadA rfl rfl) rfl (by kernel_rfl) rfl ?_
               refine WA.takeP 2 rfl (RDP.of fun _ => RD.move rfl) rfl (by kernel_rfl) rfl ?_
               refine WA.take 3 rfl (RD.loadA rfl rfl) rfl (by kernel_rfl) rfl ?_
               refine WA.takeP 5 rfl (RDP.of fun _ => RD.move rfl) rfl (by kernel_rfl) rfl ?_
               refine WA.takeP 6 rfl (RDP.of fun _ => RD.move rfl) rfl (by kernel_rfl) rfl ?_
               refine WA.takeP 7 rfl (RDP.of fun _ => RD.move rfl) rfl (by kernel_rfl) rfl ?_
               refine WA.two (i := 1) (j := 12) (by kernel_rfl) ?_ ?_
               ·
                refine WAi.efS rfl (EF.callN (.cons rfl .nil) (fun w hS => toGraph_c _ _ _ _ (by exact RdI.rd hS) (by omega))) rfl rfl (fun _ => by repeat (first | exact subM_refl _ | refine subM_app _ ?_ | refine subM_con _ ?_)) ?_
                rintro v112 -
                refine WA.two (i := 4) (j := 12) (by kernel_rfl) ?_ ?_
                ·
                 refine WAi.efS rfl (EF.callN (.cons rfl .nil) (fun w hS => toPebbles_c _ _ _ _ _ _ _ (by exact RdI.rd hS) (by exact RdI.rd hS) (by exact RdI.rd hS) (by omega) (by omega) (by omega))) rfl rfl (fun _ => by repeat (first | exact subM_refl _ | refine subM_app _ ?_ | refine subM_con _ ?_)) ?_
                 rintro ⟨f115, t115, p115⟩ -
                 refine WA.two (i := 8) (j := 12) (by kernel_rfl) ?_ ?_
                 ·
                  refine WAi.efS rfl (EF.callN (.cons rfl (.cons rfl (.cons rfl (.cons rfl (.cons rfl (.cons rfl .nil)))))) (fun w hS => iGatherPebbles_c _ _ _ _ _ _ _ _ _ _ _ _ _ _ (by exact RdI.rd hS) (by exact RdI.rd hS) (by exact RdI.rd hS) (by exact RdI.rd hS) (by assumption) (by omega) (by omega) (by omega) (by omega))) rfl rfl (fun _ => by repeat (first | exact subM_refl _ | refine subM_app _ ?_ | refine subM_con _ ?_)) ?_
                  rintro ⟨f119, t119, p119⟩ -
                  refine WA.takeP 9 rfl (RDP.of fun _ => RD.move rfl) rfl (by kernel_rfl) rfl ?_
                  refine WA.takeP 10 rfl (RDP.of fun _ => RD.extract rfl rfl) rfl (by kernel_rfl) rfl ?_
                  refine WA.takeP 11 rfl (RDP.of fun _ => RD.extract rfl rfl) rfl (by kernel_rfl) rfl ?_
                  refine WA.one (i := 12) (by kernel_rfl) ?_
                  refine WAi.efS rfl (by exact EF.allocA) rfl rfl (fun _ => by repeat (first | exact subM_refl _ | refine subM_app _ ?_ | refine subM_con _ ?_)) ?_
                  intro b23 _
                  refine WA.one (i := 13) (by kernel_rfl) ?_
                  refine WAi.efNL rfl (EF.storeA rfl rfl rfl rfl) rfl rfl ?_
                  rintro ⟨⟩ -
                  refine WB.takeP 14 rfl (RDP.of fun _ => RD.assign rfl) rfl (by kernel_rfl) rfl ?_
                  refine WB.done (by kernel_rfl) ?_
                  refine JE.seqN ?_
                  refine J.seq ?_
                  refine J.seq ?_
                  refine J.reg ?_
                  refine WL.rd (RD.loadA rfl rfl) rfl rfl ?_
                  refine WL.rd (RD.loadA rfl rfl) rfl rfl ?_
                  refine WL.efS (EF.callS (.cons rfl (.cons rfl .nil)) (fun w hS => eqPebbles_c _ _ _ _ _ _ _ _ _ _ _ _ _ (by exact RdI.rd hS) (by exact RdI.rd hS) (by exact RdI.rd hS) (by exact RdI.rd hS) (by exact RdI.rd hS) (by exact RdI.rd hS))) rfl rfl ?_
                  rintro ⟨⟩ -
                  refine WL.rd (RD.notP rfl) rfl rfl ?_
                  refine WL.rd (RD.move rfl) rfl rfl ?_
                  refine WL.caseP 126 rfl (fun hg126 => ?_) (fun hg126 => ?_)
                  ·
                   refine WL.noS rfl rfl ?_
                   refine WL.noS rfl rfl ?_
                   refine WL.noS rfl rfl ?_
                   refine WL.rd (RD.pickT rfl rfl) rfl rfl ?_
                   refine WL.nil ?_
                   refine JE.seqN ?_
                   refine J.condT rfl ?_
                   refine J.seq ?_
                   refine J.reg ?_
                   refine WL.rd (RD.assign rfl) rfl rfl ?_
                   refine WL.nil ?_
                   refine JE.seqN ?_
                   refine J.ret ?_
                   refine JE.ret rfl (.tmp rfl .nil) (fun w hS => ?_)
                   first | exact CS.fin hS rfl | (exfalso; omega) | exact CS.fin hS (by simp_all)
                  ·
                   refine WL.rd (RD.move rfl) rfl rfl ?_
                   refine WL.rd (RD.move rfl) rfl rfl ?_
                   refine WL.rd (RD.neqB rfl rfl) rfl rfl ?_
                   refine WL.rd (RD.pickF rfl rfl) rfl rfl ?_
                   refine WL.nil ?_
                   refine JE.seqN ?_
                   refine J.cond rfl (fun hc130 => ?_) (fun hc130 => ?_)
                   ·
                    refine J.seq ?_
                    refine J.reg ?_
                    refine WL.rd (RD.assign rfl) rfl rfl ?_
                    refine WL.nil ?_
                    refine JE.seqN ?_
                    refine J.ret ?_
                    refine JE.ret rfl (.tmp rfl .nil) (fun w hS => ?_)
                    first | exact CS.fin hS rfl | (exfalso; omega) | exact CS.fin hS (by simp_all)
                   ·
                    refine J.skip ?_
                    refine JE.seqN ?_
                    refine J.seq ?_
                    refine J.reg ?_
                    refine WL.rd (RD.assign rfl) rfl rfl ?_
                    refine WL.nil ?_
                    refine JE.seqN ?_
                    refine J.seq ?_
                    refine J.reg ?_
                    refine WL.rd (RD.loadA rfl rfl) rfl rfl ?_
                    refine WL.rd (RD.move rfl) rfl rfl ?_
                    refine WL.efS (EF.callS (.cons rfl (.cons rfl .nil)) (fun w hS => heldPebbles_c _ _ _ _ _ _ _ _ (by exact RdI.rd hS) (by exact RdI.rd hS) (by exact RdI.rd hS) (by omega) (by omega) (by omega) (by omega))) rfl rfl ?_
                    rintro ⟨⟩ -
                    refine WL.rd (RD.assign rfl) rfl rfl ?_
                    refine WL.nil ?_
                    refine JE.seqN ?_
                    refine J.seq ?_
                    refine J.seq ?_
                    refine J.reg ?_
                    refine WL.rd (RD.move rfl) rfl rfl ?_
                    refine WL.rd (RD.lss rfl rfl) rfl rfl ?_
                    refine WL.nil ?_
                    refine JE.seqN ?_
                    refine J.condP rfl (fun hc135 => ?_) (fun hc135 => ?_)
                    ·
                     refine J.seq ?_
                     refine J.reg ?_
                     refine WL.rd (RD.assign rfl) rfl rfl ?_
                     refine WL.nil ?_
                     refine JE.seqN ?_
                     refine J.ret ?_
                     refine JE.ret rfl (.tmp rfl .nil) (fun w hS => ?_)
                     first | exact CS.fin hS rfl | (exfalso; omega) | exact CS.fin hS (by simp_all [mkRes])
                    ·
                     refine J.skip ?_
                     refine JE.seqN ?_
                     refine J.seq ?_
                     refine J.seq ?_
                     refine J.reg ?_
                     refine WL.rd (RD.move rfl) rfl rfl ?_
                     refine WL.rd (RD.move rfl) rfl rfl ?_
                     refine WL.rd (RD.neq rfl rfl) rfl rfl ?_
                     refine WL.nil ?_
                     refine JE.seqN ?_
                     refine J.condP rfl (fun hc138 => ?_) (fun hc138 => ?_)
                     ·
                      refine J.seq ?_
                      refine J.reg ?_
                      refine WL.rd (RD.assign rfl) rfl rfl ?_
                      refine WL.nil ?_
                      refine JE.seqN ?_
                      refine J.ret ?_
                      refine JE.ret rfl (.tmp rfl .nil) (fun w hS => ?_)
                      first | exact CS.fin hS rfl | (exfalso; omega) | exact CS.fin hS (by simp_all [mkRes])
                     ·
                      refine J.skip ?_
                      refine JE.seqN ?_
                      refine J.seq ?_
                      refine J.reg ?_
                      refine WL.rd (RD.assign rfl) rfl rfl ?_
                      refine WL.nil ?_
                      refine JE.seqN ?_
                      refine J.ret ?_
                      refine JE.ret rfl (.tmp rfl .nil) (fun w hS => ?_)
                      first | exact CS.fin hS rfl | (exfalso; omega) | exact CS.fin hS (by simp_all [mkRes])
                 ·
                  refine WAi.efS rfl (by exact EF.allocA) rfl rfl (fun _ => by repeat (first | exact subM_refl _ | refine subM_app _ ?_ | refine subM_con _ ?_)) ?_
                  intro b23 _
                  refine WA.one (i := 8) (by kernel_rfl) ?_
                  refine WAi.efS rfl (EF.callN (.cons rfl (.cons rfl (.cons rfl (.cons rfl (.cons rfl (.cons rfl .nil)))))) (fun w hS => iGatherPebbles_c _ _ _ _ _ _ _ _ _ _ _ _ _ _ (by exact RdI.rd hS) (by exact RdI.rd hS) (by exact RdI.rd hS) (by exact RdI.rd hS) (by assumption) (by omega) (by omega) (by omega) (by omega))) rfl rfl (fun _ => by repeat (first | exact subM_refl _ | refine subM_app _ ?_ | refine subM_con _ ?_)) ?_
                  rintro ⟨f119, t119, p119⟩ -
                  refine WA.takeP 9 rfl (RDP.of fun _ => RD.move rfl) rfl (by kernel_rfl) rfl ?_
                  refine WA.takeP 10 rfl (RDP.of fun _ => RD.extract rfl rfl) rfl (by kernel_rfl) rfl ?_
                  refine WA.takeP 11 rfl (RDP.of fun _ => RD.extract rfl rfl) rfl (by kernel_rfl) rfl ?_
                  refine WA.one (i := 13) (by kernel_rfl) ?_
                  refine WAi.efNL rfl (EF.storeA rfl rfl rfl rfl) rfl rfl ?_
                  rintro ⟨⟩ -
                  refine WB.takeP 14 rfl (RDP.of fun _ => RD.assign rfl) rfl (by kernel_rfl) rfl ?_
                  refine WB.done (by kernel_rfl) ?_
                  refine JE.seqN ?_
                  refine J.seq ?_
                  refine J.seq ?_
                  refine J.reg ?_
                  refine WL.rd (RD.loadA rfl rfl) rfl rfl ?_
                  refine WL.rd (RD.loadA rfl rfl) rfl rfl ?_
                  refine WL.efS (EF.callS (.cons rfl (.cons rfl .nil)) (fun w hS => eqPebbles_c _ _ _ _ _ _ _ _ _ _ _ _ _ (by exact RdI.rd hS) (by exact RdI.rd hS) (by exact RdI.rd hS) (by exact RdI.rd hS) (by exact RdI.rd hS) (by exact RdI.rd hS))) rfl rfl ?_
                  rintro ⟨⟩ -
                  refine WL.rd (RD.notP rfl) rfl rfl ?_
                  refine WL.rd (RD.move rfl) rfl rfl ?_
                  refine WL.caseP 126 rfl (fun hg126 => ?_) (fun hg126 => ?_)
                  ·
                   refine WL.noS rfl rfl ?_
                   refine WL.noS rfl rfl ?_
                   refine WL.noS rfl rfl ?_
                   refine WL.rd (RD.pickT rfl rfl) rfl rfl ?_
                   refine WL.nil ?_
                   refine JE.seqN ?_
                   refine J.condT rfl ?_
                   refine J.seq ?_
                   refine J.reg ?_
                   refine WL.rd (RD.assign rfl) rfl rfl ?_
                   refine WL.nil ?_
                   refine JE.seqN ?_
                   refine J.ret ?_
                   refine JE.ret rfl (.tmp rfl .nil) (fun w hS => ?_)
                   first | exact CS.fin hS rfl | (exfalso; omega) | exact CS.fin hS (by simp_all)
                  ·
                   refine WL.rd (RD.move rfl) rfl rfl ?_
                   refine WL.rd (RD.move rfl) rfl rfl ?_
                   refine WL.rd (RD.neqB rfl rfl) rfl rfl ?_
                   refine WL.rd (RD.pickF rfl rfl) rfl rfl ?_
                   refine WL.nil ?_
                   refine JE.seqN ?_
                   refine J.cond rfl (fun hc130 => ?_) (fun hc130 => ?_)
                   ·
                    refine J.seq ?_
                    refine J.reg ?_
                    refine WL.rd (RD.assign rfl) rfl rfl ?_
                    refine WL.nil ?_
                    refine JE.seqN ?_
                    refine J.ret ?_
                    refine JE.ret rfl (.tmp rfl .nil) (fun w hS => ?_)
                    first | exact CS.fin hS rfl | (exfalso; omega) | exact CS.fin hS (by simp_all)
                   ·
                    refine J.skip ?_
                    refine JE.seqN ?_
                    refine J.seq ?_
                    refine J.reg ?_
                    refine WL.rd (RD.assign rfl) rfl rfl ?_
                    refine WL.nil ?_
                    refine JE.seqN ?_
                    refine J.seq ?_
                    refine J.reg ?_
                    refine WL.rd (RD.loadA rfl rfl) rfl rfl ?_
                    refine WL.rd (RD.move rfl) rfl rfl ?_
                    refine WL.efS (EF.callS (.cons rfl (.cons rfl .nil)) (fun w hS => heldPebbles_c _ _ _ _ _ _ _ _ (by exact RdI.rd hS) (by exact RdI.rd hS) (by exact RdI.rd hS) (by omega) (by omega) (by omega) (by omega))) rfl rfl ?_
                    rintro ⟨⟩ -
                    refine WL.rd (RD.assign rfl) rfl rfl ?_
                    refine WL.nil ?_
                    refine JE.seqN ?_
                    refine J.seq ?_
                    refine J.seq ?_
                    refine J.reg ?_
                    refine WL.rd (RD.move rfl) rfl rfl ?_
                    refine WL.rd (RD.lss rfl rfl) rfl rfl ?_
                    refine WL.nil ?_
                    refine JE.seqN ?_
                    refine J.condP rfl (fun hc135 => ?_) (fun hc135 => ?_)
                    ·
                     refine J.seq ?_
                     refine J.reg ?_
                     refine WL.rd (RD.assign rfl) rfl rfl ?_
                     refine WL.nil ?_
                     refine JE.seqN ?_
                     refine J.ret ?_
                     refine JE.ret rfl (.tmp rfl .nil) (fun w hS => ?_)
                     first | exact CS.fin hS rfl | (exfalso; omega) | exact CS.fin hS (by simp_all [mkRes])
                    ·
                     refine J.skip ?_
                     refine JE.seqN ?_
                     refine J.seq ?_
                     refine J.seq ?_
                     refine J.reg ?_
                     refine WL.rd (RD.move rfl) rfl rfl ?_
                     refine WL.rd (RD.move rfl) rfl rfl ?_
                     refine WL.rd (RD.neq rfl rfl) rfl rfl ?_
                     refine WL.nil ?_
                     refine JE.seqN ?_
                     refine J.condP rfl (fun hc138 => ?_) (fun hc138 => ?_)
                     ·
                      refine J.seq ?_
                      refine J.reg ?_
                      refine WL.rd (RD.assign rfl) rfl rfl ?_
                      refine WL.nil ?_
                      refine JE.seqN ?_
                      refine J.ret ?_
                      refine JE.ret rfl (.tmp rfl .nil) (fun w hS => ?_)
                      first | exact CS.fin hS rfl | (exfalso; omega) | exact CS.fin hS (by simp_all [mkRes])
                     ·
                      refine J.skip ?_
                      refine JE.seqN ?_
                      refine J.seq ?_
                      refine J.reg ?_
                      refine WL.rd (RD.assign rfl) rfl rfl ?_
                      refine WL.nil ?_
                      refine JE.seqN ?_
                      refine J.ret ?_
                      refine JE.ret rfl (.tmp rfl .nil) (fun w hS => ?_)
                      first | exact CS.fin hS rfl | (exfalso; omega) | exact CS.fin hS (by simp_all [mkRes])
                ·
                 refine WAi.efS rfl (by exact EF.allocA) rfl rfl (fun _ => by repeat (first | exact subM_refl _ | refine subM_app _ ?_ | refine subM_con _ ?_)) ?_
                 intro b23 _
                 refine WA.one (i := 4) (by kernel_rfl) ?_
                 refine WAi.efS rfl (EF.callN (.cons rfl .nil) (fun w hS => toPebbles_c _ _ _ _ _ _ _ (by exact RdI.rd hS) (by exact RdI.rd hS) (by exact RdI.rd hS) (by omega) (by omega) (by omega))) rfl rfl (fun _ => by repeat (first | exact subM_refl _ | refine subM_app _ ?_ | refine subM_con _ ?_)) ?_
                 rintro ⟨f115, t115, p115⟩ -
                 refine WA.one (i := 8) (by kernel_rfl) ?_
                 refine WAi.efS rfl (EF.callN (.cons rfl (.cons rfl (.cons rfl (.cons rfl (.cons rfl (.cons rfl .nil)))))) (fun w hS => iGatherPebbles_c _ _ _ _ _ _ _ _ _ _ _ _ _ _ (by exact RdI.rd hS) (by exact RdI.rd hS) (by exact RdI.rd hS) (by exact RdI.rd hS) (by assumption) (by omega) (by omega) (by omega) (by omega))) rfl rfl (fun _ => by repeat (first | exact subM_refl _ | refine subM_app _ ?_ | refine subM_con _ ?_)) ?_
                 rintro ⟨f119, t119, p119⟩ -
                 refine WA.takeP 9 rfl (RDP.of fun _ => RD.move rfl) rfl (by kernel_rfl) rfl ?_
                 refine WA.takeP 10 rfl (RDP.of fun _ => RD.extract rfl rfl) rfl (by kernel_rfl) rfl ?_
                 refine WA.takeP 11 rfl (RDP.of fun _ => RD.extract rfl rfl) rfl (by kernel_rfl) rfl ?_
                 refine WA.one (i := 13) (by kernel_rfl) ?_
                 refine WAi.efNL rfl (EF.storeA rfl rfl rfl rfl) rfl rfl ?_
                 rintro ⟨⟩ -
                 refine WB.takeP 14 rfl (RDP.of fun _ => RD.assign rfl) rfl (by kernel_rfl) rfl ?_
                 refine WB.done (by kernel_rfl) ?_
                 refine JE.seqN ?_
                 refine J.seq ?_
                 refine J.seq ?_
                 refine J.reg ?_
                 refine WL.rd (RD.loadA rfl rfl) rfl rfl ?_
                 refine WL.rd (RD.loadA rfl rfl) rfl rfl ?_
                 refine WL.efS (EF.callS (.cons rfl (.cons rfl .nil)) (fun w hS => eqPebbles_c _ _ _ _ _ _ _ _ _ _ _ _ _ (by exact RdI.rd hS) (by exact RdI.rd hS) (by exact RdI.rd hS) (by exact RdI.rd hS) (by exact RdI.rd hS) (by exact RdI.rd hS))) rfl rfl ?_
                 rintro ⟨⟩ -
                 refine WL.rd (RD.notP rfl) rfl rfl ?_
                 refine WL.rd (RD.move rfl) rfl rfl ?_
                 refine WL.caseP 126 rfl (fun hg126 => ?_) (fun hg126 => ?_)
                 ·
                  refine WL.noS rfl rfl ?_
                  refine WL.noS rfl rfl ?_
                  refine WL.noS rfl rfl ?_
                  refine WL.rd (RD.pickT rfl rfl) rfl rfl ?_
                  refine WL.nil ?_
                  refine JE.seqN ?_
                  refine J.condT rfl ?_
                  refine J.seq ?_
                  refine J.reg ?_
                  refine WL.rd (RD.assign rfl) rfl rfl ?_
                  refine WL.nil ?_
                  refine JE.seqN ?_
                  refine J.ret ?_
                  refine JE.ret rfl (.tmp rfl .nil) (fun w hS => ?_)
                  first | exact CS.fin hS rfl | (exfalso; omega) | exact CS.fin hS (by simp_all)
                 ·
                  refine WL.rd (RD.move rfl) rfl rfl ?_
                  refine WL.rd (RD.move rfl) rfl rfl ?_
                  refine WL.rd (RD.neqB rfl rfl) rfl rfl ?_
                  refine WL.rd (RD.pickF rfl rfl) rfl rfl ?_
                  refine WL.nil ?_
                  refine JE.seqN ?_
                  refine J.cond rfl (fun hc130 => ?_) (fun hc130 => ?_)
                  ·
                   refine J.seq ?_
                   refine J.reg ?_
                   refine WL.rd (RD.assign rfl) rfl rfl ?_
                   refine WL.nil ?_
                   refine JE.seqN ?_
                   refine J.ret ?_
                   refine JE.ret rfl (.tmp rfl .nil) (fun w hS => ?_)
                   first | exact CS.fin hS rfl | (exfalso; omega) | exact CS.fin hS (by simp_all)
                  ·
                   refine J.skip ?_
                   refine JE.seqN ?_
                   refine J.seq ?_
                   refine J.reg ?_
                   refine WL.rd (RD.assign rfl) rfl rfl ?_
                   refine WL.nil ?_
                   refine JE.seqN ?_
                   refine J.seq ?_
                   refine J.reg ?_
                   refine WL.rd (RD.loadA rfl rfl) rfl rfl ?_
                   refine WL.rd (RD.move rfl) rfl rfl ?_
                   refine WL.efS (EF.callS (.cons rfl (.cons rfl .nil)) (fun w hS => heldPebbles_c _ _ _ _ _ _ _ _ (by exact RdI.rd hS) (by exact RdI.rd hS) (by exact RdI.rd hS) (by omega) (by omega) (by omega) (by omega))) rfl rfl ?_
                   rintro ⟨⟩ -
                   refine WL.rd (RD.assign rfl) rfl rfl ?_
                   refine WL.nil ?_
                   refine JE.seqN ?_
                   refine J.seq ?_
                   refine J.seq ?_
                   refine J.reg ?_
                   refine WL.rd (RD.move rfl) rfl rfl ?_
                   refine WL.rd (RD.lss rfl rfl) rfl rfl ?_
                   refine WL.nil ?_
                   refine JE.seqN ?_
                   refine J.condP rfl (fun hc135 => ?_) (fun hc135 => ?_)
                   ·
                    refine J.seq ?_
                    refine J.reg ?_
                    refine WL.rd (RD.assign rfl) rfl rfl ?_
                    refine WL.nil ?_
                    refine JE.seqN ?_
                    refine J.ret ?_
                    refine JE.ret rfl (.tmp rfl .nil) (fun w hS => ?_)
                    first | exact CS.fin hS rfl | (exfalso; omega) | exact CS.fin hS (by simp_all [mkRes])
                   ·
                    refine J.skip ?_
                    refine JE.seqN ?_
                    refine J.seq ?_
                    refine J.seq ?_
                    refine J.reg ?_
                    refine WL.rd (RD.move rfl) rfl rfl ?_
                    refine WL.rd (RD.move rfl) rfl rfl ?_
                    refine WL.rd (RD.neq rfl rfl) rfl rfl ?_
                    refine WL.nil ?_
                    refine JE.seqN ?_
                    refine J.condP rfl (fun hc138 => ?_) (fun hc138 => ?_)
                    ·
                     refine J.seq ?_
                     refine J.reg ?_
                     refine WL.rd (RD.assign rfl) rfl rfl ?_
                     refine WL.nil ?_
                     refine JE.seqN ?_
                     refine J.ret ?_
                     refine JE.ret rfl (.tmp rfl .nil) (fun w hS => ?_)
                     first | exact CS.fin hS rfl | (exfalso; omega) | exact CS.fin hS (by simp_all [mkRes])
                    ·
                     refine J.skip ?_
                     refine JE.seqN ?_
                     refine J.seq ?_
                     refine J.reg ?_
                     refine WL.rd (RD.assign rfl) rfl rfl ?_
                     refine WL.nil ?_
                     refine JE.seqN ?_
                     refine J.ret ?_
                     refine JE.ret rfl (.tmp rfl .nil) (fun w hS => ?_)
                     first | exact CS.fin hS rfl | (exfalso; omega) | exact CS.fin hS (by simp_all [mkRes])
               ·
                refine WAi.efS rfl (by exact EF.allocA) rfl rfl (fun _ => by repeat (first | exact subM_refl _ | refine subM_app _ ?_ | refine subM_con _ ?_)) ?_
                intro b23 _
                refine WA.one (i := 1) (by kernel_rfl) ?_
                refine WAi.efS rfl (EF.callN (.cons rfl .nil) (fun w hS => toGraph_c _ _ _ _ (by exact RdI.rd hS) (by omega))) rfl rfl (fun _ => by repeat (first | exact subM_refl _ | refine subM_app _ ?_ | refine subM_con _ ?_)) ?_
                rintro v112 -
                refine WA.one (i := 4) (by kernel_rfl) ?_
                refine WAi.efS rfl (EF.callN (.cons rfl .nil) (fun w hS => toPebbles_c _ _ _ _ _ _ _ (by exact RdI.rd hS) (by exact RdI.rd hS) (by exact RdI.rd hS) (by omega) (by omega) (by omega))) rfl rfl (fun _ => by repeat (first | exact subM_refl _ | refine subM_app _ ?_ | refine subM_con _ ?_)) ?_
                rintro ⟨f115, t115, p115⟩ -
                refine WA.one (i := 8) (by kernel_rfl) ?_
                refine WAi.efS rfl (EF.callN (.cons rfl (.cons rfl (.cons rfl (.cons rfl (.cons rfl (.cons rfl .nil)))))) (fun w hS => iGatherPebbles_c _ _ _ _ _ _ _ _ _ _ _ _ _ _ (by exact RdI.rd hS) (by exact RdI.rd hS) (by exact RdI.rd hS) (by exact RdI.rd hS) (by assumption) (by omega) (by omega) (by omega) (by omega))) rfl rfl (fun _ => by repeat (first | exact subM_refl _ | refine subM_app _ ?_ | refine subM_con _ ?_)) ?_
                rintro ⟨f119, t119, p119⟩ -
                refine WA.takeP 9 rfl (RDP.of fun _ => RD.move rfl) rfl (by kernel_rfl) rfl ?_
                refine WA.takeP 10 rfl (RDP.of fun _ => RD.extract rfl rfl) rfl (by kernel_rfl) rfl ?_
                refine WA.takeP 11 rfl (RDP.of fun _ => RD.extract rfl rfl) rfl (by kernel_rfl) rfl ?_
                refine WA.one (i := 13) (by kernel_rfl) ?_
                refine WAi.efNL rfl (EF.storeA rfl rfl rfl rfl) rfl rfl ?_
                rintro ⟨⟩ -
                refine WB.takeP 14 rfl (RDP.of fun _ => RD.assign rfl) rfl (by kernel_rfl) rfl ?_
                refine WB.done (by kernel_rfl) ?_
                refine JE.seqN ?_
                refine J.seq ?_
                refine J.seq ?_
                refine J.reg ?_
                refine WL.rd (RD.loadA rfl rfl) rfl rfl ?_
                refine WL.rd (RD.loadA rfl rfl) rfl rfl ?_
                refine WL.efS (EF.callS (.cons rfl (.cons rfl .nil)) (fun w hS => eqPebbles_c _ _ _ _ _ _ _ _ _ _ _ _ _ (by exact RdI.rd hS) (by exact RdI.rd hS) (by exact RdI.rd hS) (by exact RdI.rd hS) (by exact RdI.rd hS) (by exact RdI.rd hS))) rfl rfl ?_
                rintro ⟨⟩ -
                refine WL.rd (RD.notP rfl) rfl rfl ?_
                refine WL.rd (RD.move rfl) rfl rfl ?_
                refine WL.caseP 126 rfl (fun hg126 => ?_) (fun hg126 => ?_)
                ·
                 refine WL.noS rfl rfl ?_
                 refine WL.noS rfl rfl ?_
                 refine WL.noS rfl rfl ?_
                 refine WL.rd (RD.pickT rfl rfl) rfl rfl ?_
                 refine WL.nil ?_
                 refine JE.seqN ?_
                 refine J.condT rfl ?_
                 refine J.seq ?_
                 refine J.reg ?_
                 refine WL.rd (RD.assign rfl) rfl rfl ?_
                 refine WL.nil ?_
                 refine JE.seqN ?_
                 refine J.ret ?_
                 refine JE.ret rfl (.tmp rfl .nil) (fun w hS => ?_)
                 first | exact CS.fin hS rfl | (exfalso; omega) | exact CS.fin hS (by simp_all)
                ·
                 refine WL.rd (RD.move rfl) rfl rfl ?_
                 refine WL.rd (RD.move rfl) rfl rfl ?_
                 refine WL.rd (RD.neqB rfl rfl) rfl rfl ?_
                 refine WL.rd (RD.pickF rfl rfl) rfl rfl ?_
                 refine WL.nil ?_
                 refine JE.seqN ?_
                 refine J.cond rfl (fun hc130 => ?_) (fun hc130 => ?_)
                 ·
                  refine J.seq ?_
                  refine J.reg ?_
                  refine WL.rd (RD.assign rfl) rfl rfl ?_
                  refine WL.nil ?_
                  refine JE.seqN ?_
                  refine J.ret ?_
                  refine JE.ret rfl (.tmp rfl .nil) (fun w hS => ?_)
                  first | exact CS.fin hS rfl | (exfalso; omega) | exact CS.fin hS (by simp_all)
                 ·
                  refine J.skip ?_
                  refine JE.seqN ?_
                  refine J.seq ?_
                  refine J.reg ?_
                  refine WL.rd (RD.assign rfl) rfl rfl ?_
                  refine WL.nil ?_
                  refine JE.seqN ?_
                  refine J.seq ?_
                  refine J.reg ?_
                  refine WL.rd (RD.loadA rfl rfl) rfl rfl ?_
                  refine WL.rd (RD.move rfl) rfl rfl ?_
                  refine WL.efS (EF.callS (.cons rfl (.cons rfl .nil)) (fun w hS => heldPebbles_c _ _ _ _ _ _ _ _ (by exact RdI.rd hS) (by exact RdI.rd hS) (by exact RdI.rd hS) (by omega) (by omega) (by omega) (by omega))) rfl rfl ?_
                  rintro ⟨⟩ -
                  refine WL.rd (RD.assign rfl) rfl rfl ?_
                  refine WL.nil ?_
                  refine JE.seqN ?_
                  refine J.seq ?_
                  refine J.seq ?_
                  refine J.reg ?_
                  refine WL.rd (RD.move rfl) rfl rfl ?_
                  refine WL.rd (RD.lss rfl rfl) rfl rfl ?_
                  refine WL.nil ?_
                  refine JE.seqN ?_
                  refine J.condP rfl (fun hc135 => ?_) (fun hc135 => ?_)
                  ·
                   refine J.seq ?_
                   refine J.reg ?_
                   refine WL.rd (RD.assign rfl) rfl rfl ?_
                   refine WL.nil ?_
                   refine JE.seqN ?_
                   refine J.ret ?_
                   refine JE.ret rfl (.tmp rfl .nil) (fun w hS => ?_)
                   first | exact CS.fin hS rfl | (exfalso; omega) | exact CS.fin hS (by simp_all [mkRes])
                  ·
                   refine J.skip ?_
                   refine JE.seqN ?_
                   refine J.seq ?_
                   refine J.seq ?_
                   refine J.reg ?_
                   refine WL.rd (RD.move rfl) rfl rfl ?_
                   refine WL.rd (RD.move rfl) rfl rfl ?_
                   refine WL.rd (RD.neq rfl rfl) rfl rfl ?_
                   refine WL.nil ?_
                   refine JE.seqN ?_
                   refine J.condP rfl (fun hc138 => ?_) (fun hc138 => ?_)
                   ·
                    refine J.seq ?_
                    refine J.reg ?_
                    refine WL.rd (RD.assign rfl) rfl rfl ?_
                    refine WL.nil ?_
                    refine JE.seqN ?_
                    refine J.ret ?_
                    refine JE.ret rfl (.tmp rfl .nil) (fun w hS => ?_)
                    first | exact CS.fin hS rfl | (exfalso; omega) | exact CS.fin hS (by simp_all [mkRes])
                   ·
                    refine J.skip ?_
                    refine JE.seqN ?_
                    refine J.seq ?_
                    refine J.reg ?_
                    refine WL.rd (RD.assign rfl) rfl rfl ?_
                    refine WL.nil ?_
                    refine JE.seqN ?_
                    refine J.ret ?_
                    refine JE.ret rfl (.tmp rfl .nil) (fun w hS => ?_)
                    first | exact CS.fin hS rfl | (exfalso; omega) | exact CS.fin hS (by simp_all [mkRes])
    ·
     refine WAi.efS rfl (by exact EF.allocA) rfl rfl (fun _ => by repeat (first | exact subM_refl _ | refine subM_app _ ?_ | refine subM_con _ ?_)) ?_
     intro b14 _
     refine WA.one (i := 4) (by kernel_rfl) ?_
     refine WAi.efS rfl (EF.callN (.cons rfl .nil) (fun w hS => toPebbles_c _ _ _ _ _ _ _ (by exact RdI.rd hS) (by exact RdI.rd hS) (by exact RdI.rd hS) (by omega) (by omega) (by omega))) rfl rfl (fun _ => by repeat (first | exact subM_refl _ | refine subM_app _ ?_ | refine subM_con _ ?_)) ?_
     rintro ⟨f40, t40, p40⟩ -
     refine WA.one (i := 8) (by kernel_rfl) ?_
     refine WAi.efS rfl (EF.callN (.cons rfl (.cons rfl (.cons rfl (.cons rfl (.cons rfl (.cons rfl .nil)))))) (fun w hS => sGatherPebbles_c _ _ _ _ _ _ _ _ _ _ _ _ _ _ (by exact RdI.rd hS) (by exact RdI.rd hS) (by exact RdI.rd hS) (by exact RdI.rd hS) (by assumption) (by omega) (by omega) (by omega) (by omega))) rfl rfl (fun _ => by repeat (first | exact subM_refl _ | refine subM_app _ ?_ | refine subM_con _ ?_)) ?_
     rintro ⟨f44, t44, p44⟩ -
     refine WA.takeP 9 rfl (RDP.of fun _ => RD.move rfl) rfl (by kernel_rfl) rfl ?_
     refine WA.takeP 10 rfl (RDP.of fun _ => RD.extract rfl rfl) rfl (by kernel_rfl) rfl ?_
     refine WA.takeP 11 rfl (RDP.of fun _ => RD.extract rfl rfl) rfl (by kernel_rfl) rfl ?_
     refine WA.one (i := 13) (by kernel_rfl) ?_
     refine WAi.efNL rfl (EF.storeA rfl rfl rfl rfl) rfl rfl ?_
     rintro ⟨⟩ -
     refine WB.takeP 14 rfl (RDP.of fun _ => RD.assign rfl) rfl (by kernel_rfl) rfl ?_
     refine WB.done (by kernel_rfl) ?_
     refine JE.seqN ?_
     refine J.seq ?_
     refine J.reg ?_
     refine WL.rd (RD.loadA rfl rfl) rfl rfl ?_
     refine WL.efS (EF.callN (.cons rfl .nil) (fun w hS => toGraph_c _ _ _ _ (by exact RdI.rd hS) (by omega))) rfl rfl ?_
     rintro v48 -
     refine WL.efS (EF.allocA) rfl rfl ?_
     intro b16 _
     refine WL.efN (EF.storeA rfl rfl rfl rfl) rfl ?_
     rintro ⟨⟩ -
     refine WL.nil ?_
     refine JE.seqN ?_
     refine J.seq ?_
     refine J.reg ?_
     refine WL.rd (RD.loadA rfl rfl) rfl rfl ?_
     refine WL.efS (EF.callN (.cons rfl .nil) (fun w hS => toPebbles_c _ _ _ _ _ _ _ (by exact RdI.rd hS) (by exact RdI.rd hS) (by exact RdI.rd hS) (by omega) (by omega) (by omega))) rfl rfl ?_
     rintro ⟨f50, t50, p50⟩ -
     refine WL.efS (EF.allocA) rfl rfl ?_
     intro b17 _
     refine WL.efN (EF.storeA rfl rfl rfl rfl) rfl ?_
     rintro ⟨⟩ -
     refine WL.nil ?_
     refine JE.seqN ?_
     refine J.seq ?_
     refine J.reg ?_
     refine WL.rd (RD.loadA rfl rfl) rfl rfl ?_
     refine WL.rd (RD.move rfl) rfl rfl ?_
     refine WL.rd (RD.loadA rfl rfl) rfl rfl ?_
     refine WL.rd (RD.move rfl) rfl rfl ?_
     refine WL.rd (RD.move rfl) rfl rfl ?_
     refine WL.rd (RD.move rfl) rfl rfl ?_
     refine WL.efS (EF.callN (.cons rfl (.cons rfl (.cons rfl (.cons rfl (.cons rfl (.cons rfl .nil)))))) (fun w hS => iGatherPebbles_c _ _ _ _ _ _ _ _ _ _ _ _ _ _ (by exact RdI.rd hS) (by exact RdI.rd hS) (by exact RdI.rd hS) (by exact RdI.rd hS) (by assumption) (by omega) (by omega) (by omega) (by omega))) rfl rfl ?_
     rintro ⟨f58, t58, p58⟩ -
     refine WL.rd (RD.move rfl) rfl rfl ?_
     refine WL.rd (RD.extract rfl rfl) rfl rfl ?_
     refine WL.rd (RD.extract rfl rfl) rfl rfl ?_
     refine WL.efS (EF.allocA) rfl rfl ?_
     intro b18 _
     refine WL.efN (EF.storeA rfl rfl rfl rfl) rfl ?_
     rintro ⟨⟩ -
     refine WL.rd (RD.assign rfl) rfl rfl ?_
     refine WL.nil ?_
     refine JE.seqN ?_
     refine J.seq ?_
     refine J.seq ?_
     refine J.reg ?_
     refine WL.rd (RD.loadA rfl rfl) rfl rfl ?_
     refine WL.rd (RD.loadA rfl rfl) rfl rfl ?_
     refine WL.efS (EF.callS (.cons rfl (.cons rfl .nil)) (fun w hS => eqPebbles_c _ _ _ _ _ _ _ _ _ _ _ _ _ (by exact RdI.rd hS) (by exact RdI.rd hS) (by exact RdI.rd hS) (by exact RdI.rd hS) (by exact RdI.rd hS) (by exact RdI.rd hS))) rfl rfl ?_
     rintro ⟨⟩ -
     refine WL.rd (RD.notP rfl) rfl rfl ?_
     refine WL.rd (RD.move rfl) rfl rfl ?_
     refine WL.caseP 65 rfl (fun hg65 => ?_) (fun hg65 => ?_)
     ·
      refine WL.noS rfl rfl ?_
      refine WL.noS rfl rfl ?_
      refine WL.noS rfl rfl ?_
      refine WL.rd (RD.pickT rfl rfl) rfl rfl ?_
      refine WL.nil ?_
      refine JE.seqN ?_
      refine J.condT rfl ?_
      refine J.seq ?_
      refine J.reg ?_
      refine WL.rd (RD.assign rfl) rfl rfl ?_
      refine WL.nil ?_
      refine JE.seqN ?_
      refine J.ret ?_
      refine JE.ret rfl (.tmp rfl .nil) (fun w hS => ?_)
      first | exact CS.fin hS rfl | (exfalso; omega) | exact CS.fin hS (by simp_all)
     ·
      refine WL.rd (RD.move rfl) rfl rfl ?_
      refine WL.rd (RD.move rfl) rfl rfl ?_
      refine WL.rd (RD.neqB rfl rfl) rfl rfl ?_
      refine WL.rd (RD.pickF rfl rfl) rfl rfl ?_
      refine WL.nil ?_
      refine JE.seqN ?_
      refine J.cond rfl (fun hc69 => ?_) (fun hc69 => ?_)
      ·
       refine J.seq ?_
       refine J.reg ?_
       refine WL.rd (RD.assign rfl) rfl rfl ?_
       refine WL.nil ?_
       refine JE.seqN ?_
       refine J.ret ?_
       refine JE.ret rfl (.tmp rfl .nil) (fun w hS => ?_)
       first | exact CS.fin hS rfl | (exfalso; omega) | exact CS.fin hS (by simp_all)
      ·
       refine J.skip ?_
       refine JE.seqN ?_
       refine J.seq ?_
       refine J.seq ?_
       refine J.anyAll [] ?_
       refine WA.take 0 rfl (RD.loadA rfl rfl) rfl (by kernel_rfl) rfl ?_
       refine WA.take 1 rfl (RD.loadA rfl rfl) rfl (by kernel_rfl) rfl ?_
       refine WA.one (i := 2) (by kernel_rfl) ?_
       refine WAi.efS rfl (EF.callN (.cons rfl .nil) (fun w hS => toGraph_c _ _ _ _ (by exact RdI.rd hS) (by omega))) rfl rfl (fun _ => by repeat (first | exact subM_refl _ | refine subM_app _ ?_ | refine subM_con _ ?_)) ?_
       rintro v72 -
       refine WA.one (i := 3) (by kernel_rfl) ?_
       refine WAi.efS rfl (EF.callS (.cons rfl (.cons rfl .nil)) (fun w hS => eqGraph_c _ _ _ _ _ _ _ (by exact RdI.rd hS) (by exact RdI.rd hS))) rfl rfl (fun _ => by repeat (first | exact subM_refl _ | refine subM_app _ ?_ | refine subM_con _ ?_)) ?_
       rintro ⟨⟩ -
       refine WA.takeP 4 rfl (RDP.of fun _ => RD.notP rfl) rfl (by kernel_rfl) rfl ?_
       refine WA.done (by kernel_rfl) ?_
       refine JE.seqN ?_
       refine J.condP rfl (fun hc74 => ?_) (fun hc74 => ?_)
       ·
        refine J.seq ?_
        refine J.reg ?_
        refine WL.rd (RD.assign rfl) rfl rfl ?_
        refine WL.nil ?_
        refine JE.seqN ?_
        refine J.ret ?_
        refine JE.ret rfl (.tmp rfl .nil) (fun w hS => ?_)
        first | exact CS.fin hS rfl | (exfalso; omega) | exact CS.fin hS (by simp_all)
       ·
        refine J.skip ?_
        refine JE.seqN ?_
        refine J.seq ?_
        refine J.seq ?_
        refine J.anyAll [] ?_
        refine WA.take 0 rfl (RD.loadA rfl rfl) rfl (by kernel_rfl) rfl ?_
        refine WA.take 1 rfl (RD.loadA rfl rfl) rfl (by kernel_rfl) rfl ?_
        refine WA.one (i := 2) (by kernel_rfl) ?_
        refine WAi.efS rfl (EF.callN (.cons rfl .nil) (fun w hS => toPebbles_c _ _ _ _ _ _ _ (by exact RdI.rd hS) (by exact RdI.rd hS) (by exact RdI.rd hS) (by omega) (by omega) (by omega))) rfl rfl (fun _ => by repeat (first | exact subM_refl _ | refine subM_app _ ?_ | refine subM_con _ ?_)) ?_
        rintro ⟨f77, t77, p77⟩ -
        refine WA.one (i := 3) (by kernel_rfl) ?_
        refine WAi.efS rfl (EF.callS (.cons rfl (.cons rfl .nil)) (fun w hS => eqPebbles_c _ _ _ _ _ _ _ _ _ _ _ _ _ (by exact RdI.rd hS) (by exact RdI.rd hS) (by exact RdI.rd hS) (by exact RdI.rd hS) (by exact RdI.rd hS) (by exact RdI.rd hS))) rfl rfl (fun _ => by repeat (first | exact subM_refl _ | refine subM_app _ ?_ | refine subM_con _ ?_)) ?_
        rintro ⟨⟩ -
        refine WA.takeP 4 rfl (RDP.of fun _ => RD.notP rfl) rfl (by kernel_rfl) rfl ?_
        refine WA.done (by kernel_rfl) ?_
        refine JE.seqN ?_
        refine J.condP rfl (fun hc79 => ?_) (fun hc79 => ?_)
        ·
         refine J.seq ?_
         refine J.reg ?_
         refine WL.rd (RD.assign rfl) rfl rfl ?_
         refine WL.nil ?_
         refine JE.seqN ?_
         refine J.ret ?_
         refine JE.ret rfl (.tmp rfl .nil) (fun w hS => ?_)
         first | exact CS.fin hS rfl | (exfalso; omega) | exact CS.fin hS (by simp_all)
        ·
         refine J.skip ?_
         refine JE.seqN ?_
         refine J.seq ?_
         refine J.reg ?_
         refine WL.rd (RD.assign rfl) rfl rfl ?_
         refine WL.nil ?_
         refine JE.seqN ?_
         refine J.seq ?_
         refine J.reg ?_
         refine WL.rd (RD.loadA rfl rfl) rfl rfl ?_
         refine WL.rd (RD.move rfl) rfl rfl ?_
         refine WL.efS (EF.callM (.cons rfl (.cons rfl .nil)) (.row .nil) .nil (fun w hS => markGraph_c _ _ _ _ _ (by omega) (by omega)) (by simp [En.rdb])) rfl rfl ?_
         rintro ⟨⟩ -
         refine WL.rd (RD.assign rfl) rfl rfl ?_
         refine WL.nil ?_
         refine JE.seqN ?_
         refine J.seq ?_
         refine J.reg ?_
         refine WL.rd (RD.loadA rfl rfl) rfl rfl ?_
         refine WL.rd (RD.move rfl) rfl rfl ?_
         refine WL.efS (EF.callM (.cons rfl (.cons rfl .nil)) (.row (.row (.row .nil))) .nil (fun w hS => markPebbles_c _ _ _ _ _ _ _ _ (by omega) (by omega) (by omega) (by omega)) (by simp [En.rdb])) rfl rfl ?_
         rintro ⟨⟩ -
         refine WL.rd (RD.assign rfl) rfl rfl ?_
         refine WL.nil ?_
         refine JE.seqN ?_
         refine J.seq ?_
         refine J.seq ?_
         refine J.reg ?_
         refine WL.rd (RD.move rfl) rfl rfl ?_
         refine WL.rd (RD.lss rfl rfl) rfl rfl ?_
         refine WL.rd (RD.move rfl) rfl rfl ?_
         refine WL.caseP 88 rfl (fun hg88 => ?_) (fun hg88 => ?_)
         ·
          refine WL.noS rfl rfl ?_
          refine WL.noS rfl rfl ?_
          refine WL.noS rfl rfl ?_
          refine WL.noS rfl rfl ?_
          refine WL.rd (RD.pickT rfl rfl) rfl rfl ?_
          refine WL.rd (RD.move rfl) rfl rfl ?_
          refine WL.noS rfl rfl ?_
          refine WL.noS rfl rfl ?_
          refine WL.noS rfl rfl ?_
          refine WL.rd (RD.pickT rfl rfl) rfl rfl ?_
          refine WL.nil ?_
          refine JE.seqN ?_
          refine J.condT rfl ?_
          refine J.seq ?_
          refine J.reg ?_
          refine WL.rd (RD.assign rfl) rfl rfl ?_
          refine WL.nil ?_
          refine JE.seqN ?_
          refine J.ret ?_
          refine JE.ret rfl (.tmp rfl .nil) (fun w hS => ?_)
          first | exact CS.fin hS rfl | (exfalso; omega) | exact CS.fin hS (by simp_all [mkRes])
         ·
          refine WL.rd (RD.loadA rfl rfl) rfl rfl ?_
          refine WL.rd (RD.loadA rfl rfl) rfl rfl ?_
          refine WL.efS (EF.callS (.cons rfl (.cons rfl .nil)) (fun w hS => eqPebbles_c _ _ _ _ _ _ _ _ _ _ _ _ _ (by exact RdI.rd hS) (by exact RdI.rd hS) (by exact RdI.rd hS) (by exact RdI.rd hS) (by exact RdI.rd hS) (by exact RdI.rd hS))) rfl rfl ?_
          rintro ⟨⟩ -
          refine WL.rd (RD.notP rfl) rfl rfl ?_
          refine WL.rd (RD.pickF rfl rfl) rfl rfl ?_
          refine WL.rd (RD.move rfl) rfl rfl ?_
          refine WL.caseP 94 rfl (fun hg94 => ?_) (fun hg94 => ?_)
          ·
           refine WL.noS rfl rfl ?_
           refine WL.noS rfl rfl ?_
           refine WL.noS rfl rfl ?_
           refine WL.rd (RD.pickT rfl rfl) rfl rfl ?_
           refine WL.nil ?_
           refine JE.seqN ?_
           refine J.condT rfl ?_
           refine J.seq ?_
           refine J.reg ?_
           refine WL.rd (RD.assign rfl) rfl rfl ?_
           refine WL.nil ?_
           refine JE.seqN ?_
           refine J.ret ?_
           refine JE.ret rfl (.tmp rfl .nil) (fun w hS => ?_)
           first | exact CS.fin hS rfl | (exfalso; omega) | exact CS.fin hS (by simp_all)
          ·
           refine WL.rd (RD.move rfl) rfl rfl ?_
           refine WL.rd (RD.move rfl) rfl rfl ?_
           refine WL.rd (RD.neqB rfl rfl) rfl rfl ?_
           refine WL.rd (RD.pickF rfl rfl) rfl rfl ?_
           refine WL.nil ?_
           refine JE.seqN ?_
           refine J.cond rfl (fun hc98 => ?_) (fun hc98 => ?_)
           ·
            refine J.seq ?_
            refine J.reg ?_
            refine WL.rd (RD.assign rfl) rfl rfl ?_
            refine WL.nil ?_
            refine JE.seqN ?_
            refine J.ret ?_
            refine JE.ret rfl (.tmp rfl .nil) (fun w hS => ?_)
            first | exact CS.fin hS rfl | (exfalso; omega) | exact CS.fin hS (by simp_all)
           ·
            refine J.skip ?_
            refine JE.seqN ?_
            refine J.seq ?_
            refine J.reg ?_
            refine WL.rd (RD.assign rfl) rfl rfl ?_
            refine WL.nil ?_
            refine JE.seqN ?_
            refine J.seq ?_
            refine J.reg ?_
            refine WL.rd (RD.loadA rfl rfl) rfl rfl ?_
            refine WL.rd (RD.move rfl) rfl rfl ?_
            refine WL.efS (EF.callM (.cons rfl (.cons rfl .nil)) (.row (.row (.row .nil))) .nil (fun w hS => markPebbles_c _ _ _ _ _ _ _ _ (by omega) (by omega) (by omega) (by omega)) (by simp [En.rdb])) rfl rfl ?_
            rintro ⟨⟩ -
            refine WL.rd (RD.assign rfl) rfl rfl ?_
            refine WL.nil ?_
            refine JE.seqN ?_
            refine J.seq ?_
            refine J.reg ?_
            refine WL.rd (RD.assign rfl) rfl rfl ?_
            refine WL.nil ?_
            refine JE.seqN ?_
            refine J.seq ?_
            refine J.reg ?_
            refine WL.rd (RD.loadA rfl rfl) rfl rfl ?_
            refine WL.rd (RD.move rfl) rfl rfl ?_
            refine WL.efS (EF.callS (.cons rfl (.cons rfl .nil)) (fun w hS => heldPebbles_c _ _ _ _ _ _ _ _ (by exact RdI.rd hS) (by exact RdI.rd hS) (by exact RdI.rd hS) (by omega) (by omega) (by omega) (by omega))) rfl rfl ?_
            rintro ⟨⟩ -
            refine WL.rd (RD.assign rfl) rfl rfl ?_
            refine WL.nil ?_
            refine JE.seqN ?_
            refine J.seq ?_
            refine J.seq ?_
            refine J.reg ?_
            refine WL.rd (RD.move rfl) rfl rfl ?_
            refine WL.rd (RD.lss rfl rfl) rfl rfl ?_
            refine WL.nil ?_
            refine JE.seqN ?_
            refine J.condP rfl (fun hc106 => ?_) (fun hc106 => ?_)
            ·
             refine J.seq ?_
             refine J.reg ?_
             refine WL.rd (RD.assign rfl) rfl rfl ?_
             refine WL.nil ?_
             refine JE.seqN ?_
             refine J.ret ?_
             refine JE.ret rfl (.tmp rfl .nil) (fun w hS => ?_)
             first | exact CS.fin hS rfl | (exfalso; omega) | exact CS.fin hS (by simp_all [mkRes])
            ·
             refine J.skip ?_
             refine JE.seqN ?_
             refine J.seq ?_
             refine J.seq ?_
             refine J.reg ?_
             refine WL.rd (RD.move rfl) rfl rfl ?_
             refine WL.rd (RD.move rfl) rfl rfl ?_
             refine WL.rd (RD.neq rfl rfl) rfl rfl ?_
             refine WL.nil ?_
             refine JE.seqN ?_
             refine J.condP rfl (fun hc109 => ?_) (fun hc109 => ?_)
             ·
              refine J.seq ?_
              refine J.reg ?_
              refine WL.rd (RD.assign rfl) rfl rfl ?_
              refine WL.nil ?_
              refine JE.seqN ?_
              refine J.ret ?_
              refine JE.ret rfl (.tmp rfl .nil) (fun w hS => ?_)
              first | exact CS.fin hS rfl | (exfalso; omega) | exact CS.fin hS (by simp_all [mkRes])
             ·
              refine J.skip ?_
              refine JE.seqN ?_
              refine J.seq ?_
              refine J.anyAll [13, 14] ?_
              refine WA.take 0 rfl (RD.loadA rfl rfl) rfl (by kernel_rfl) rfl ?_
              refine WA.takeP 2 rfl (RDP.of fun _ => RD.move rfl) rfl (by kernel_rfl) rfl ?_
              refine WA.take 3 rfl (RD.loadA rfl rfl) rfl (by kernel_rfl) rfl ?_
              refine WA.takeP 5 rfl (RDP.of fun _ => RD.move rfl) rfl (by kernel_rfl) rfl ?_
              refine WA.takeP 6 rfl (RDP.of fun _ => RD.move rfl) rfl (by kernel_rfl) rfl ?_
              refine WA.takeP 7 rfl (RDP.of fun _ => RD.move rfl) rfl (by kernel_rfl) rfl ?_
              refine WA.two (i := 1) (j := 12) (by kernel_rfl) ?_ ?_
              ·
               refine WAi.efS rfl (EF.callN (.cons rfl .nil) (fun w hS => toGraph_c _ _ _ _ (by exact RdI.rd hS) (by omega))) rfl rfl (fun _ => by repeat (first | exact subM_refl _ | refine subM_app _ ?_ | refine subM_con _ ?_)) ?_
               rintro v112 -
               refine WA.two (i := 4) (j := 12) (by kernel_rfl) ?_ ?_
               ·
                refine WAi.efS rfl (EF.callN (.cons rfl .nil) (fun w hS => toPebbles_c _ _ _ _ _ _ _ (by exact RdI.rd hS) (by exact RdI.rd hS) (by exact RdI.rd hS) (by omega) (by omega) (by omega))) rfl rfl (fun _ => by repeat (first | exact subM_refl _ | refine subM_app _ ?_ | refine subM_con _ ?_)) ?_
                rintro ⟨f115, t115, p115⟩ -
                refine WA.two (i := 8) (j := 12) (by kernel_rfl) ?_ ?_
                ·
                 refine WAi.efS rfl (EF.callN (.cons rfl (.cons rfl (.cons rfl (.cons rfl (.cons rfl (.cons rfl .nil)))))) (fun w hS => iGatherPebbles_c _ _ _ _ _ _ _ _ _ _ _ _ _ _ (by exact RdI.rd hS) (by exact RdI.rd hS) (by exact RdI.rd hS) (by exact RdI.rd hS) (by assumption) (by omega) (by omega) (by omega) (by omega))) rfl rfl (fun _ => by repeat (first | exact subM_refl _ | refine subM_app _ ?_ | refine subM_con _ ?_)) ?_
                 rintro ⟨f119, t119, p119⟩ -
                 refine WA.takeP 9 rfl (RDP.of fun _ => RD.move rfl) rfl (by kernel_rfl) rfl ?_
                 refine WA.takeP 10 rfl (RDP.of fun _ => RD.extract rfl rfl) rfl (by kernel_rfl) rfl ?_
                 refine WA.takeP 11 rfl (RDP.of fun _ => RD.extract rfl rfl) rfl (by kernel_rfl) rfl ?_
                 refine WA.one (i := 12) (by kernel_rfl) ?_
                 refine WAi.efS rfl (by exact EF.allocA) rfl rfl (fun _ => by repeat (first | exact subM_refl _ | refine subM_app _ ?_ | refine subM_con _ ?_)) ?_
                 intro b23 _
                 refine WA.one (i := 13) (by kernel_rfl) ?_
                 refine WAi.efNL rfl (EF.storeA rfl rfl rfl rfl) rfl rfl ?_
                 rintro ⟨⟩ -
                 refine WB.takeP 14 rfl (RDP.of fun _ => RD.assign rfl) rfl (by kernel_rfl) rfl ?_
                 refine WB.done (by kernel_rfl) ?_
                 refine JE.seqN ?_
                 refine J.seq ?_
                 refine J.seq ?_
                 refine J.reg ?_
                 refine WL.rd (RD.loadA rfl rfl) rfl rfl ?_
                 refine WL.rd (RD.loadA rfl rfl) rfl rfl ?_
                 refine WL.efS (EF.callS (.cons rfl (.cons rfl .nil)) (fun w hS => eqPebbles_c _ _ _ _ _ _ _ _ _ _ _ _ _ (by exact RdI.rd hS) (by exact RdI.rd hS) (by exact RdI.rd hS) (by exact RdI.rd hS) (by exact RdI.rd hS) (by exact RdI.rd hS))) rfl rfl ?_
                 rintro ⟨⟩ -
                 refine WL.rd (RD.notP rfl) rfl rfl ?_
                 refine WL.rd (RD.move rfl) rfl rfl ?_
                 refine WL.caseP 126 rfl (fun hg126 => ?_) (fun hg126 => ?_)
                 ·
                  refine WL.noS rfl rfl ?_
                  refine WL.noS rfl rfl ?_
                  refine WL.noS rfl rfl ?_
                  refine WL.rd (RD.pickT rfl rfl) rfl rfl ?_
                  refine WL.nil ?_
                  refine JE.seqN ?_
                  refine J.condT rfl ?_
                  refine J.seq ?_
                  refine J.reg ?_
                  refine WL.rd (RD.assign rfl) rfl rfl ?_
                  refine WL.nil ?_
                  refine JE.seqN ?_
                  refine J.ret ?_
                  refine JE.ret rfl (.tmp rfl .nil) (fun w hS => ?_)
                  first | exact CS.fin hS rfl | (exfalso; omega) | exact CS.fin hS (by simp_all)
                 ·
                  refine WL.rd (RD.move rfl) rfl rfl ?_
                  refine WL.rd (RD.move rfl) rfl rfl ?_
                  refine WL.rd (RD.neqB rfl rfl) rfl rfl ?_
                  refine WL.rd (RD.pickF rfl rfl) rfl rfl ?_
                  refine WL.nil ?_
                  refine JE.seqN ?_
                  refine J.cond rfl (fun hc130 => ?_) (fun hc130 => ?_)
                  ·
                   refine J.seq ?_
                   refine J.reg ?_
                   refine WL.rd (RD.assign rfl) rfl rfl ?_
                   refine WL.nil ?_
                   refine JE.seqN ?_
                   refine J.ret ?_
                   refine JE.ret rfl (.tmp rfl .nil) (fun w hS => ?_)
                   first | exact CS.fin hS rfl | (exfalso; omega) | exact CS.fin hS (by simp_all)
                  ·
                   refine J.skip ?_
                   refine JE.seqN ?_
                   refine J.seq ?_
                   refine J.reg ?_
                   refine WL.rd (RD.assign rfl) rfl rfl ?_
                   refine WL.nil ?_
                   refine JE.seqN ?_
                   refine J.seq ?_
                   refine J.reg ?_
                   refine WL.rd (RD.loadA rfl rfl) rfl rfl ?_
                   refine WL.rd (RD.move rfl) rfl rfl ?_
                   refine WL.efS (EF.callS (.cons rfl (.cons rfl .nil)) (fun w hS => heldPebbles_c _ _ _ _ _ _ _ _ (by exact RdI.rd hS) (by exact RdI.rd hS) (by exact RdI.rd hS) (by omega) (by omega) (by omega) (by omega))) rfl rfl ?_
                   rintro ⟨⟩ -
                   refine WL.rd (RD.assign rfl) rfl rfl ?_
                   refine WL.nil ?_
                   refine JE.seqN ?_
                   refine J.seq ?_
                   refine J.seq ?_
                   refine J.reg ?_
                   refine WL.rd (RD.move rfl) rfl rfl ?_
                   refine WL.rd (RD.lss rfl rfl) rfl rfl ?_
                   refine WL.nil ?_
                   refine JE.seqN ?_
                   refine J.condP rfl (fun hc135 => ?_) (fun hc135 => ?_)
                   ·
                    refine J.seq ?_
                    refine J.reg ?_
                    refine WL.rd (RD.assign rfl) rfl rfl ?_
                    refine WL.nil ?_
                    refine JE.seqN ?_
                    refine J.ret ?_
                    refine JE.ret rfl (.tmp rfl .nil) (fun w hS => ?_)
                    first | exact CS.fin hS rfl | (exfalso; omega) | exact CS.fin hS (by simp_all [mkRes])
                   ·
                    refine J.skip ?_
                    refine JE.seqN ?_
                    refine J.seq ?_
                    refine J.seq ?_
                    refine J.reg ?_
                    refine WL.rd (RD.move rfl) rfl rfl ?_
                    refine WL.rd (RD.move rfl) rfl rfl ?_
                    refine WL.rd (RD.neq rfl rfl) rfl rfl ?_
                    refine WL.nil ?_
                    refine JE.seqN ?_
                    refine J.condP rfl (fun hc138 => ?_) (fun hc138 => ?_)
                    ·
                     refine J.seq ?_
                     refine J.reg ?_
                     refine WL.rd (RD.assign rfl) rfl rfl ?_
                     refine WL.nil ?_
                     refine JE.seqN ?_
                     refine J.ret ?_
                     refine JE.ret rfl (.tmp rfl .nil) (fun w hS => ?_)
                     first | exact CS.fin hS rfl | (exfalso; omega) | exact CS.fin hS (by simp_all [mkRes])
                    ·
                     refine J.skip ?_
                     refine JE.seqN ?_
                     refine J.seq ?_
                     refine J.reg ?_
                     refine WL.rd (RD.assign rfl) rfl rfl ?_
                     refine WL.nil ?_
                     refine JE.seqN ?_
                     refine J.ret ?_
                     refine JE.ret rfl (.tmp rfl .nil) (fun w hS => ?_)
                     first | exact CS.fin hS rfl | (exfalso; omega) | exact CS.fin hS (by simp_all [mkRes])
                ·
                 refine WAi.efS rfl (by exact EF.allocA) rfl rfl (fun _ => by repeat (first | exact subM_refl _ | refine subM_app _ ?_ | refine subM_con _ ?_)) ?_
                 intro b23 _
                 refine WA.one (i := 8) (by kernel_rfl) ?_
                 refine WAi.efS rfl (EF.callN (.cons rfl (.cons rfl (.cons rfl (.cons rfl (.cons rfl (.cons rfl .nil)))))) (fun w hS => iGatherPebbles_c _ _ _ _ _ _ _ _ _ _ _ _ _ _ (by exact RdI.rd hS) (by exact RdI.rd hS) (by exact RdI.rd hS) (by exact RdI.rd hS) (by assumption) (by omega) (by omega) (by omega) (by omega))) rfl rfl (fun _ => by repeat (first | exact subM_refl _ | refine subM_app _ ?_ | refine subM_con _ ?_)) ?_
                 rintro ⟨f119, t119, p119⟩ -
                 refine WA.takeP 9 rfl (RDP.of fun _ => RD.move rfl) rfl (by kernel_rfl) rfl ?_
                 refine WA.takeP 10 rfl (RDP.of fun _ => RD.extract rfl rfl) rfl (by kernel_rfl) rfl ?_
                 refine WA.takeP 11 rfl (RDP.of fun _ => RD.extract rfl rfl) rfl (by kernel_rfl) rfl ?_
                 refine WA.one (i := 13) (by kernel_rfl) ?_
                 refine WAi.efNL rfl (EF.storeA rfl rfl rfl rfl) rfl rfl ?_
                 rintro ⟨⟩ -
                 refine WB.takeP 14 rfl (RDP.of fun _ => RD.assign rfl) rfl (by kernel_rfl) rfl ?_
                 refine WB.done (by kernel_rfl) ?_
                 refine JE.seqN ?_
                 refine J.seq ?_
                 refine J.seq ?_
                 refine J.reg ?_
                 refine WL.rd (RD.loadA rfl rfl) rfl rfl ?_
                 refine WL.rd (RD.loadA rfl rfl) rfl rfl ?_
                 refine WL.efS (EF.callS (.cons rfl (.cons rfl .nil)) (fun w hS => eqPebbles_c _ _ _ _ _ _ _ _ _ _ _ _ _ (by exact RdI.rd hS) (by exact RdI.rd hS) (by exact RdI.rd hS) (by exact RdI.rd hS) (by exact RdI.rd hS) (by exact RdI.rd hS))) rfl rfl ?_
                 rintro ⟨⟩ -
                 refine WL.rd (RD.notP rfl) rfl rfl ?_
                 refine WL.rd (RD.move rfl) rfl rfl ?_
                 refine WL.caseP 126 rfl (fun hg126 => ?_) (fun hg126 => ?_)
                 ·
                  refine WL.noS rfl rfl ?_
                  refine WL.noS rfl rfl ?_
                  refine WL.noS rfl rfl ?_
                  refine WL.rd (RD.pickT rfl rfl) rfl rfl ?_
                  refine WL.nil ?_
                  refine JE.seqN ?_
                  refine J.condT rfl ?_
                  refine J.seq ?_
                  refine J.reg ?_
                  refine WL.rd (RD.assign rfl) rfl rfl ?_
                  refine WL.nil ?_
                  refine JE.seqN ?_
                  refine J.ret ?_
                  refine JE.ret rfl (.tmp rfl .nil) (fun w hS => ?_)
                  first | exact CS.fin hS rfl | (exfalso; omega) | exact CS.fin hS (by simp_all)
                 ·
                  refine WL.rd (RD.move rfl) rfl rfl ?_
                  refine WL.rd (RD.move rfl) rfl rfl ?_
                  refine WL.rd (RD.neqB rfl rfl) rfl rfl ?_
                  refine WL.rd (RD.pickF rfl rfl) rfl rfl ?_
                  refine WL.nil ?_
                  refine JE.seqN ?_
                  refine J.cond rfl (fun hc130 => ?_) (fun hc130 => ?_)
                  ·
                   refine J.seq ?_
                   refine J.reg ?_
                   refine WL.rd (RD.assign rfl) rfl rfl ?_
                   refine WL.nil ?_
                   refine JE.seqN ?_
                   refine J.ret ?_
                   refine JE.ret rfl (.tmp rfl .nil) (fun w hS => ?_)
                   first | exact CS.fin hS rfl | (exfalso; omega) | exact CS.fin hS (by simp_all)
                  ·
                   refine J.skip ?_
                   refine JE.seqN ?_
                   refine J.seq ?_
                   refine J.reg ?_
                   refine WL.rd (RD.assign rfl) rfl rfl ?_
                   refine WL.nil ?_
                   refine JE.seqN ?_
                   refine J.seq ?_
                   refine J.reg ?_
                   refine WL.rd (RD.loadA rfl rfl) rfl rfl ?_
                   refine WL.rd (RD.move rfl) rfl rfl ?_
                   refine WL.efS (EF.callS (.cons rfl (.cons rfl .nil)) (fun w hS => heldPebbles_c _ _ _ _ _ _ _ _ (by exact RdI.rd hS) (by exact RdI.rd hS) (by exact RdI.rd hS) (by omega) (by omega) (by omega) (by omega))) rfl rfl ?_
                   rintro ⟨⟩ -
                   refine WL.rd (RD.assign rfl) rfl rfl ?_
                   refine WL.nil ?_
                   refine JE.seqN ?_
                   refine J.seq ?_
                   refine J.seq ?_
                   refine J.reg ?_
                   refine WL.rd (RD.move rfl) rfl rfl ?_
                   refine WL.rd (RD.lss rfl rfl) rfl rfl ?_
                   refine WL.nil ?_
                   refine JE.seqN ?_
                   refine J.condP rfl (fun hc135 => ?_) (fun hc135 => ?_)
                   ·
                    refine J.seq ?_
                    refine J.reg ?_
                    refine WL.rd (RD.assign rfl) rfl rfl ?_
                    refine WL.nil ?_
                    refine JE.seqN ?_
                    refine J.ret ?_
                    refine JE.ret rfl (.tmp rfl .nil) (fun w hS => ?_)
                    first | exact CS.fin hS rfl | (exfalso; omega) | exact CS.fin hS (by simp_all [mkRes])
                   ·
                    refine J.skip ?_
                    refine JE.seqN ?_
                    refine J.seq ?_
                    refine J.seq ?_
                    refine J.reg ?_
                    refine WL.rd (RD.move rfl) rfl rfl ?_
                    refine WL.rd (RD.move rfl) rfl rfl ?_
                    refine WL.rd (RD.neq rfl rfl) rfl rfl ?_
                    refine WL.nil ?_
                    refine JE.seqN ?_
                    refine J.condP rfl (fun hc138 => ?_) (fun hc138 => ?_)
                    ·
                     refine J.seq ?_
                     refine J.reg ?_
                     refine WL.rd (RD.assign rfl) rfl rfl ?_
                     refine WL.nil ?_
                     refine JE.seqN ?_
                     refine J.ret ?_
                     refine JE.ret rfl (.tmp rfl .nil) (fun w hS => ?_)
                     first | exact CS.fin hS rfl | (exfalso; omega) | exact CS.fin hS (by simp_all [mkRes])
                    ·
                     refine J.skip ?_
                     refine JE.seqN ?_
                     refine J.seq ?_
                     refine J.reg ?_
                     refine WL.rd (RD.assign rfl) rfl rfl ?_
                     refine WL.nil ?_
                     refine JE.seqN ?_
                     refine J.ret ?_
                     refine JE.ret rfl (.tmp rfl .nil) (fun w hS => ?_)
                     first | exact CS.fin hS rfl | (exfalso; omega) | exact CS.fin hS (by simp_all [mkRes])
               ·
                refine WAi.efS rfl (by exact EF.allocA) rfl rfl (fun _ => by repeat (first | exact subM_refl _ | refine subM_app _ ?_ | refine subM_con _ ?_)) ?_
                intro b23 _
                refine WA.one (i := 4) (by kernel_rfl) ?_
                refine WAi.efS rfl (EF.callN (.cons rfl .nil) (fun w hS => toPebbles_c _ _ _ _ _ _ _ (by exact RdI.rd hS) (by exact RdI.rd hS) (by exact RdI.rd hS) (by omega) (by omega) (by omega))) rfl rfl (fun _ => by repeat (first | exact subM_refl _ | refine subM_app _ ?_ | refine subM_con _ ?_)) ?_
                rintro ⟨f115, t115, p115⟩ -
                refine WA.one (i := 8) (by kernel_rfl) ?_
                refine WAi.efS rfl (EF.callN (.cons rfl (.cons rfl (.cons rfl (.cons rfl (.cons rfl (.cons rfl .nil)))))) (fun w hS => iGatherPebbles_c _ _ _ _ _ _ _ _ _ _ _ _ _ _ (by exact RdI.rd hS) (by exact RdI.rd hS) (by exact RdI.rd hS) (by exact RdI.rd hS) (by assumption) (by omega) (by omega) (by omega) (by omega))) rfl rfl (fun _ => by repeat (first | exact subM_refl _ | refine subM_app _ ?_ | refine subM_con _ ?_)) ?_
                rintro ⟨f119, t119, p119⟩ -
                refine WA.takeP 9 rfl (RDP.of fun _ => RD.move rfl) rfl (by kernel_rfl) rfl ?_
                refine WA.takeP 10 rfl (RDP.of fun _ => RD.extract rfl rfl) rfl (by kernel_rfl) rfl ?_
                refine WA.takeP 11 rfl (RDP.of fun _ => RD.extract rfl rfl) rfl (by kernel_rfl) rfl ?_
                refine WA.one (i := 13) (by kernel_rfl) ?_
                refine WAi.efNL rfl (EF.storeA rfl rfl rfl rfl) rfl rfl ?_
                rintro ⟨⟩ -
                refine WB.takeP 14 rfl (RDP.of fun _ => RD.assign rfl) rfl (by kernel_rfl) rfl ?_
                refine WB.done (by kernel_rfl) ?_
                refine JE.seqN ?_
                refine J.seq ?_
                refine J.seq ?_
                refine J.reg ?_
                refine WL.rd (RD.loadA rfl rfl) rfl rfl ?_
                refine WL.rd (RD.loadA rfl rfl) rfl rfl ?_
                refine WL.efS (EF.callS (.cons rfl (.cons rfl .nil)) (fun w hS => eqPebbles_c _ _ _ _ _ _ _ _ _ _ _ _ _ (by exact RdI.rd hS) (by exact RdI.rd hS) (by exact RdI.rd hS) (by exact RdI.rd hS) (by exact RdI.rd hS) (by exact RdI.rd hS))) rfl rfl ?_
                rintro ⟨⟩ -
                refine WL.rd (RD.notP rfl) rfl rfl ?_
                refine WL.rd (RD.move rfl) rfl rfl ?_
                refine WL.caseP 126 rfl (fun hg126 => ?_) (fun hg126 => ?_)
                ·
                 refine WL.noS rfl rfl ?_
                 refine WL.noS rfl rfl ?_
                 refine WL.noS rfl rfl ?_
                 refine WL.rd (RD.pickT rfl rfl) rfl rfl ?_
                 refine WL.nil ?_
                 refine JE.seqN ?_
                 refine J.condT rfl ?_
                 refine J.seq ?_
                 refine J.reg ?_
                 refine WL.rd (RD.assign rfl) rfl rfl ?_
                 refine WL.nil ?_
                 refine JE.seqN ?_
                 refine J.ret ?_
                 refine JE.ret rfl (.tmp rfl .nil) (fun w hS => ?_)
                 first | exact CS.fin hS rfl | (exfalso; omega) | exact CS.fin hS (by simp_all)
                ·
                 refine WL.rd (RD.move rfl) rfl rfl ?_
                 refine WL.rd (RD.move rfl) rfl rfl ?_
                 refine WL.rd (RD.neqB rfl rfl) rfl rfl ?_
                 refine WL.rd (RD.pickF rfl rfl) rfl rfl ?_
                 refine WL.nil ?_
                 refine JE.seqN ?_
                 refine J.cond rfl (fun hc130 => ?_) (fun hc130 => ?_)
                 ·
                  refine J.seq ?_
                  refine J.reg ?_
                  refine WL.rd (RD.assign rfl) rfl rfl ?_
                  refine WL.nil ?_
                  refine JE.seqN ?_
                  refine J.ret ?_
                  refine JE.ret rfl (.tmp rfl .nil) (fun w hS => ?_)
                  first | exact CS.fin hS rfl | (exfalso; omega) | exact CS.fin hS (by simp_all)
                 ·
                  refine J.skip ?_
                  refine JE.seqN ?_
                  refine J.seq ?_
                  refine J.reg ?_
                  refine WL.rd (RD.assign rfl) rfl rfl ?_
                  refine WL.nil ?_
                  refine JE.seqN ?_
                  refine J.seq ?_
                  refine J.reg ?_
                  refine WL.rd (RD.loadA rfl rfl) rfl rfl ?_
                  refine WL.rd (RD.move rfl) rfl rfl ?_
                  refine WL.efS (EF.callS (.cons rfl (.cons rfl .nil)) (fun w hS => heldPebbles_c _ _ _ _ _ _ _ _ (by exact RdI.rd hS) (by exact RdI.rd hS) (by exact RdI.rd hS) (by omega) (by omega) (by omega) (by omega))) rfl rfl ?_
                  rintro ⟨⟩ -
                  refine WL.rd (RD.assign rfl) rfl rfl ?_
                  refine WL.nil ?_
                  refine JE.seqN ?_
                  refine J.seq ?_
                  refine J.seq ?_
                  refine J.reg ?_
                  refine WL.rd (RD.move rfl) rfl rfl ?_
                  refine WL.rd (RD.lss rfl rfl) rfl rfl ?_
                  refine WL.nil ?_
                  refine JE.seqN ?_
                  refine J.condP rfl (fun hc135 => ?_) (fun hc135 => ?_)
                  ·
                   refine J.seq ?_
                   refine J.reg ?_
                   refine WL.rd (RD.assign rfl) rfl rfl ?_
                   refine WL.nil ?_
                   refine JE.seqN ?_
                   refine J.ret ?_
                   refine JE.ret rfl (.tmp rfl .nil) (fun w hS => ?_)
                   first | exact CS.fin hS rfl | (exfalso; omega) | exact CS.fin hS (by simp_all [mkRes])
                  ·
                   refine J.skip ?_
                   refine JE.seqN ?_
                   refine J.seq ?_
                   refine J.seq ?_
                   refine J.reg ?_
                   refine WL.rd (RD.move rfl) rfl rfl ?_
                   refine WL.rd (RD.move rfl) rfl rfl ?_
                   refine WL.rd (RD.neq rfl rfl) rfl rfl ?_
                   refine WL.nil ?_
                   refine JE.seqN ?_
                   refine J.condP rfl (fun hc138 => ?_) (fun hc138 => ?_)
                   ·
                    refine J.seq ?_
                    refine J.reg ?_
                    refine WL.rd (RD.assign rfl) rfl rfl ?_
                    refine WL.nil ?_
                    refine JE.seqN ?_
                    refine J.ret ?_
                    refine JE.ret rfl (.tmp rfl .nil) (fun w hS => ?_)
                    first | exact CS.fin hS rfl | (exfalso; omega) | exact CS.fin hS (by simp_all [mkRes])
                   ·
                    refine J.skip ?_
                    refine JE.seqN ?_
                    refine J.seq ?_
                    refine J.reg ?_
                    refine WL.rd (RD.assign rfl) rfl rfl ?_
                    refine WL.nil ?_
                    refine JE.seqN ?_
                    refine J.ret ?_
                    refine JE.ret rfl (.tmp rfl .nil) (fun w hS => ?_)
                    first | exact CS.fin hS rfl | (exfalso; omega) | exact CS.fin hS (by simp_all [mkRes])
              ·
               refine WAi.efS rfl (by exact EF.allocA) rfl rfl (fun _ => by repeat (first | exact subM_refl _ | refine subM_app _ ?_ | refine subM_con _ ?_)) ?_
               intro b23 _
               refine WA.one (i := 1) (by kernel_rfl) ?_
               refine WAi.efS rfl (EF.callN (.cons rfl .nil) (fun w hS => toGraph_c _ _ _ _ (by exact RdI.rd hS) (by omega))) rfl rfl (fun _ => by repeat (first | exact subM_refl _ | refine subM_app _ ?_ | refine subM_con _ ?_)) ?_
               rintro v112 -
               refine WA.one (i := 4) (by kernel_rfl) ?_
               refine WAi.efS rfl (EF.callN (.cons rfl .nil) (fun w hS => toPebbles_c _ _ _ _ _ _ _ (by exact RdI.rd hS) (by exact RdI.rd hS) (by exact RdI.rd hS) (by omega) (by omega) (by omega))) rfl rfl (fun _ => by repeat (first | exact subM_refl _ | refine subM_app _ ?_ | refine subM_con _ ?_)) ?_
               rintro ⟨f115, t115, p115⟩ -
               refine WA.one (i := 8) (by kernel_rfl) ?_
               refine WAi.efS rfl (EF.callN (.cons rfl (.cons rfl (.cons rfl (.cons rfl (.cons rfl (.cons rfl .nil)))))) (fun w hS => iGatherPebbles_c _ _ _ _ _ _ _ _ _ _ _ _ _ _ (by exact RdI.rd hS) (by exact RdI.rd hS) (by exact RdI.rd hS) (by exact RdI.rd hS) (by assumption) (by omega) (by omega) (by omega) (by omega))) rfl rfl (fun _ => by repeat (first | exact subM_refl _ | refine subM_app _ ?_ | refine subM_con _ ?_)) ?_
               rintro ⟨f119, t119, p119⟩ -
               refine WA.takeP 9 rfl (RDP.of fun _ => RD.move rfl) rfl (by kernel_rfl) rfl ?_
               refine WA.takeP 10 rfl (RDP.of fun _ => RD.extract rfl rfl) rfl (by kernel_rfl) rfl ?_
               refine WA.takeP 11 rfl (RDP.of fun _ => RD.extract rfl rfl) rfl (by kernel_rfl) rfl ?_
               refine WA.one (i := 13) (by kernel_rfl) ?_
               refine WAi.efNL rfl (EF.storeA rfl rfl rfl rfl) rfl rfl ?_
               rintro ⟨⟩ -
               refine WB.takeP 14 rfl (RDP.of fun _ => RD.assign rfl) rfl (by kernel_rfl) rfl ?_
               refine WB.done (by kernel_rfl) ?_
               refine JE.seqN ?_
               refine J.seq ?_
               refine J.seq ?_
               refine J.reg ?_
               refine WL.rd (RD.loadA rfl rfl) rfl rfl ?_
               refine WL.rd (RD.loadA rfl rfl) rfl rfl ?_
               refine WL.efS (EF.callS (.cons rfl (.cons rfl .nil)) (fun w hS => eqPebbles_c _ _ _ _ _ _ _ _ _ _ _ _ _ (by exact RdI.rd hS) (by exact RdI.rd hS) (by exact RdI.rd hS) (by exact RdI.rd hS) (by exact RdI.rd hS) (by exact RdI.rd hS))) rfl rfl ?_
               rintro ⟨⟩ -
               refine WL.rd (RD.notP rfl) rfl rfl ?_
               refine WL.rd (RD.move rfl) rfl rfl ?_
               refine WL.caseP 126 rfl (fun hg126 => ?_) (fun hg126 => ?_)
               ·
                refine WL.noS rfl rfl ?_
                refine WL.noS rfl rfl ?_
                refine WL.noS rfl rfl ?_
                refine WL.rd (RD.pickT rfl rfl) rfl rfl ?_
                refine WL.nil ?_
                refine JE.seqN ?_
                refine J.condT rfl ?_
                refine J.seq ?_
                refine J.reg ?_
                refine WL.rd (RD.assign rfl) rfl rfl ?_
                refine WL.nil ?_
                refine JE.seqN ?_
                refine J.ret ?_
                refine JE.ret rfl (.tmp rfl .nil) (fun w hS => ?_)
                first | exact CS.fin hS rfl | (exfalso; omega) | exact CS.fin hS (by simp_all)
               ·
                refine WL.rd (RD.move rfl) rfl rfl ?_
                refine WL.rd (RD.move rfl) rfl rfl ?_
                refine WL.rd (RD.neqB rfl rfl) rfl rfl ?_
                refine WL.rd (RD.pickF rfl rfl) rfl rfl ?_
                refine WL.nil ?_
                refine JE.seqN ?_
                refine J.cond rfl (fun hc130 => ?_) (fun hc130 => ?_)
                ·
                 refine J.seq ?_
                 refine J.reg ?_
                 refine WL.rd (RD.assign rfl) rfl rfl ?_
                 refine WL.nil ?_
                 refine JE.seqN ?_
                 refine J.ret ?_
                 refine JE.ret rfl (.tmp rfl .nil) (fun w hS => ?_)
                 first | exact CS.fin hS rfl | (exfalso; omega) | exact CS.fin hS (by simp_all)
                ·
                 refine J.skip ?_
                 refine JE.seqN ?_
                 refine J.seq ?_
                 refine J.reg ?_
                 refine WL.rd (RD.assign rfl) rfl rfl ?_
                 refine WL.nil ?_
                 refine JE.seqN ?_
                 refine J.seq ?_
                 refine J.reg ?_
                 refine WL.rd (RD.loadA rfl rfl) rfl rfl ?_
                 refine WL.rd (RD.move rfl) rfl rfl ?_
                 refine WL.efS (EF.callS (.cons rfl (.cons rfl .nil)) (fun w hS => heldPebbles_c _ _ _ _ _ _ _ _ (by exact RdI.rd hS) (by exact RdI.rd hS) (by exact RdI.rd hS) (by omega) (by omega) (by omega) (by omega))) rfl rfl ?_
                 rintro ⟨⟩ -
                 refine WL.rd (RD.assign rfl) rfl rfl ?_
                 refine WL.nil ?_
                 refine JE.seqN ?_
                 refine J.seq ?_
                 refine J.seq ?_
                 refine J.reg ?_
                 refine WL.rd (RD.move rfl) rfl rfl ?_
                 refine WL.rd (RD.lss rfl rfl) rfl rfl ?_
                 refine WL.nil ?_
                 refine JE.seqN ?_
                 refine J.condP rfl (fun hc135 => ?_) (fun hc135 => ?_)
                 ·
                  refine J.seq ?_
                  refine J.reg ?_
                  refine WL.rd (RD.assign rfl) rfl rfl ?_
                  refine WL.nil ?_
                  refine JE.seqN ?_
                  refine J.ret ?_
                  refine JE.ret rfl (.tmp rfl .nil) (fun w hS => ?_)
                  first | exact CS.fin hS rfl | (exfalso; omega) | exact CS.fin hS (by simp_all [mkRes])
                 ·
                  refine J.skip ?_
                  refine JE.seqN ?_
                  refine J.seq ?_
                  refine J.seq ?_
                  refine J.reg ?_
                  refine WL.rd (RD.move rfl) rfl rfl ?_
                  refine WL.rd (RD.move rfl) rfl rfl ?_
                  refine WL.rd (RD.neq rfl rfl) rfl rfl ?_
                  refine WL.nil ?_
                  refine JE.seqN ?_
                  refine J.condP rfl (fun hc138 => ?_) (fun hc138 => ?_)
                  ·
                   refine J.seq ?_
                   refine J.reg ?_
                   refine WL.rd (RD.assign rfl) rfl rfl ?_
                   refine WL.nil ?_
                   refine JE.seqN ?_
                   refine J.ret ?_
                   refine JE.ret rfl (.tmp rfl .nil) (fun w hS => ?_)
                   first | exact CS.fin hS rfl | (exfalso; omega) | exact CS.fin hS (by simp_all [mkRes])
                  ·
                   refine J.skip ?_
                   refine JE.seqN ?_
                   refine J.seq ?_
                   refine J.reg ?_
                   refine WL.rd (RD.assign rfl) rfl rfl ?_
                   refine WL.nil ?_
                   refine JE.seqN ?_
                   refine J.ret ?_
                   refine JE.ret rfl (.tmp rfl .nil) (fun w hS => ?_)
                   first | exact CS.fin hS rfl | (exfalso; omega) | exact CS.fin hS (by simp_all [mkRes])
   ·
    refine WAi.efS rfl (by exact EF.allocA) rfl rfl (fun _ => by repeat (first | exact subM_refl _ | refine subM_app _ ?_ | refine subM_con _ ?_)) ?_
    intro b14 _
    refine WA.one (i := 1) (by kernel_rfl) ?_
    refine WAi.efS rfl (EF.callN (.cons rfl .nil) (fun w hS => toGraph_c _ _ _ _ (by exact RdI.rd hS) (by omega))) rfl rfl (fun _ => by repeat (first | exact subM_refl _ | refine subM_app _ ?_ | refine subM_con _ ?_)) ?_
    rintro v37 -
    refine WA.one (i := 4) (by kernel_rfl) ?_
    refine WAi.efS rfl (EF.callN (.cons rfl .nil) (fun w hS => toPebbles_c _ _ _ _ _ _ _ (by exact RdI.rd hS) (by exact RdI.rd hS) (by exact RdI.rd hS) (by omega) (by omega) (by omega))) rfl rfl (fun _ => by repeat (first | exact subM_refl _ | refine subM_app _ ?_ | refine subM_con _ ?_)) ?_
    rintro ⟨f40, t40, p40⟩ -
    refine WA.one (i := 8) (by kernel_rfl) ?_
    refine WAi.efS rfl (EF.callN (.cons rfl (.cons rfl (.cons rfl (.cons rfl (.cons rfl (.cons rfl .nil)))))) (fun w hS => sGatherPebbles_c _ _ _ _ _ _ _ _ _ _ _ _ _ _ (by exact RdI.rd hS) (by exact RdI.rd hS) (by exact RdI.rd hS) (by exact RdI.rd hS) (by assumption) (by omega) (by omega) (by omega) (by omega))) rfl rfl (fun _ => by repeat (first | exact subM_refl _ | refine subM_app _ ?_ | refine subM_con _ ?_)) ?_
    rintro ⟨f44, t44, p44⟩ -
    refine WA.takeP 9 rfl (RDP.of fun _ => RD.move rfl) rfl (by kernel_rfl) rfl ?_
    refine WA.takeP 10 rfl (RDP.of fun _ => RD.extract rfl rfl) rfl (by kernel_rfl) rfl ?_
    refine WA.takeP 11 rfl (RDP.of fun _ => RD.extract rfl rfl) rfl (by kernel_rfl) rfl ?_
    refine WA.one (i := 13) (by kernel_rfl) ?_
    refine WAi.efNL rfl (EF.storeA rfl rfl rfl rfl) rfl rfl ?_
    rintro ⟨⟩ -
    refine WB.takeP 14 rfl (RDP.of fun _ => RD.assign rfl) rfl (by kernel_rfl) rfl ?_
    refine WB.done (by kernel_rfl) ?_
    refine JE.seqN ?_
    refine J.seq ?_
    refine J.reg ?_
    refine WL.rd (RD.loadA rfl rfl) rfl rfl ?_
    refine WL.efS (EF.callN (.cons rfl .nil) (fun w hS => toGraph_c _ _ _ _ (by exact RdI.rd hS) (by omega))) rfl rfl ?_
    rintro v48 -
    refine WL.efS (EF.allocA) rfl rfl ?_
    intro b16 _
    refine WL.efN (EF.storeA rfl rfl rfl rfl) rfl ?_
    rintro ⟨⟩ -
    refine WL.nil ?_
    refine JE.seqN ?_
    refine J.seq ?_
    refine J.reg ?_
    refine WL.rd (RD.loadA rfl rfl) rfl rfl ?_
    refine WL.efS (EF.callN (.cons rfl .nil) (fun w hS => toPebbles_c _ _ _ _ _ _ _ (by exact RdI.rd hS) (by exact RdI.rd hS) (by exact RdI.rd hS) (by omega) (by omega) (by omega))) rfl rfl ?_
    rintro ⟨f50, t50, p50⟩ -
    refine WL.efS (EF.allocA) rfl rfl ?_
    intro b17 _
    refine WL.efN (EF.storeA rfl rfl rfl rfl) rfl ?_
    rintro ⟨⟩ -
    refine WL.nil ?_
    refine JE.seqN ?_
    refine J.seq ?_
    refine J.reg ?_
    refine WL.rd (RD.loadA rfl rfl) rfl rfl ?_
    refine WL.rd (RD.move rfl) rfl rfl ?_
    refine WL.rd (RD.loadA rfl rfl) rfl rfl ?_
    refine WL.rd (RD.move rfl) rfl rfl ?_
    refine WL.rd (RD.move rfl) rfl rfl ?_
    refine WL.rd (RD.move rfl) rfl rfl ?_
    refine WL.efS (EF.callN (.cons rfl (.cons rfl (.cons rfl (.cons rfl (.cons rfl (.cons rfl .nil)))))) (fun w hS => iGatherPebbles_c _ _ _ _ _ _ _ _ _ _ _ _ _ _ (by exact RdI.rd hS) (by exact RdI.rd hS) (by exact RdI.rd hS) (by exact RdI.rd hS) (by assumption) (by omega) (by omega) (by omega) (by omega))) rfl rfl ?_
    rintro ⟨f58, t58, p58⟩ -
    refine WL.rd (RD.move rfl) rfl rfl ?_
    refine WL.rd (RD.extract rfl rfl) rfl rfl ?_
    refine WL.rd (RD.extract rfl rfl) rfl rfl ?_
    refine WL.efS (EF.allocA) rfl rfl ?_
    intro b18 _
    refine WL.efN (EF.storeA rfl rfl rfl rfl) rfl ?_
    rintro ⟨⟩ -
    refine WL.rd (RD.assign rfl) rfl rfl ?_
    refine WL.nil ?_
    refine JE.seqN ?_
    refine J.seq ?_
    refine J.seq ?_
    refine J.reg ?_
    refine WL.rd (RD.loadA rfl rfl) rfl rfl ?_
    refine WL.rd (RD.loadA rfl rfl) rfl rfl ?_
    refine WL.efS (EF.callS (.cons rfl (.cons rfl .nil)) (fun w hS => eqPebbles_c _ _ _ _ _ _ _ _ _ _ _ _ _ (by exact RdI.rd hS) (by exact RdI.rd hS) (by exact RdI.rd hS) (by exact RdI.rd hS) (by exact RdI.rd hS) (by exact RdI.rd hS))) rfl rfl ?_
    rintro ⟨⟩ -
    refine WL.rd (RD.notP rfl) rfl rfl ?_
    refine WL.rd (RD.move rfl) rfl rfl ?_
    refine WL.caseP 65 rfl (fun hg65 => ?_) (fun hg65 => ?_)
    ·
     refine WL.noS rfl rfl ?_
     refine WL.noS rfl rfl ?_
     refine WL.noS rfl rfl ?_
     refine WL.rd (RD.pickT rfl rfl) rfl rfl ?_
     refine WL.nil ?_
     refine JE.seqN ?_
     refine J.condT rfl ?_
     refine J.seq ?_
     refine J.reg ?_
     refine WL.rd (RD.assign rfl) rfl rfl ?_
     refine WL.nil ?_
     refine JE.seqN ?_
     refine J.ret ?_
     refine JE.ret rfl (.tmp rfl .nil) (fun w hS => ?_)
     first | exact CS.fin hS rfl | (exfalso; omega) | exact CS.fin hS (by simp_all)
    ·
     refine WL.rd (RD.move rfl) rfl rfl ?_
     refine WL.rd (RD.move rfl) rfl rfl ?_
     refine WL.rd (RD.neqB rfl rfl) rfl rfl ?_
     refine WL.rd (RD.pickF rfl rfl) rfl rfl ?_
     refine WL.nil ?_
     refine JE.seqN ?_
     refine J.cond rfl (fun hc69 => ?_) (fun hc69 => ?_)
     ·
      refine J.seq ?_
      refine J.reg ?_
      refine WL.rd (RD.assign rfl) rfl rfl ?_
      refine WL.nil ?_
      refine JE.seqN ?_
      refine J.ret ?_
      refine JE.ret rfl (.tmp rfl .nil) (fun w hS => ?_)
      first | exact CS.fin hS rfl | (exfalso; omega) | exact CS.fin hS (by simp_all)
     ·
      refine J.skip ?_
      refine JE.seqN ?_
      refine J.seq ?_
      refine J.seq ?_
      refine J.anyAll [] ?_
      refine WA.take 0 rfl (RD.loadA rfl rfl) rfl (by kernel_rfl) rfl ?_
      refine WA.take 1 rfl (RD.loadA rfl rfl) rfl (by kernel_rfl) rfl ?_
      refine WA.one (i := 2) (by kernel_rfl) ?_
      refine WAi.efS rfl (EF.callN (.cons rfl .nil) (fun w hS => toGraph_c _ _ _ _ (by exact RdI.rd hS) (by omega))) rfl rfl (fun _ => by repeat (first | exact subM_refl _ | refine subM_app _ ?_ | refine subM_con _ ?_)) ?_
      rintro v72 -
      refine WA.one (i := 3) (by kernel_rfl) ?_
      refine WAi.efS rfl (EF.callS (.cons rfl (.cons rfl .nil)) (fun w hS => eqGraph_c _ _ _ _ _ _ _ (by exact RdI.rd hS) (by exact RdI.rd hS))) rfl rfl (fun _ => by repeat (first | exact subM_refl _ | refine subM_app _ ?_ | refine subM_con _ ?_)) ?_
      rintro ⟨⟩ -
      refine WA.takeP 4 rfl (RDP.of fun _ => RD.notP rfl) rfl (by kernel_rfl) rfl ?_
      refine WA.done (by kernel_rfl) ?_
      refine JE.seqN ?_
      refine J.condP rfl (fun hc74 => ?_) (fun hc74 => ?_)
      ·
       refine J.seq ?_
       refine J.reg ?_
       refine WL.rd (RD.assign rfl) rfl rfl ?_
       refine WL.nil ?_
       refine JE.seqN ?_
       refine J.ret ?_
       refine JE.ret rfl (.tmp rfl .nil) (fun w hS => ?_)
       first | exact CS.fin hS rfl | (exfalso; omega) | exact CS.fin hS (by simp_all)
      ·
       refine J.skip ?_
       refine JE.seqN ?_
       refine J.seq ?_
       refine J.seq ?_
       refine J.anyAll [] ?_
       refine WA.take 0 rfl (RD.loadA rfl rfl) rfl (by kernel_rfl) rfl ?_
       refine WA.take 1 rfl (RD.loadA rfl rfl) rfl (by kernel_rfl) rfl ?_
       refine WA.one (i := 2) (by kernel_rfl) ?_
       refine WAi.efS rfl (EF.callN (.cons rfl .nil) (fun w hS => toPebbles_c _ _ _ _ _ _ _ (by exact RdI.rd hS) (by exact RdI.rd hS) (by exact RdI.rd hS) (by omega) (by omega) (by omega))) rfl rfl (fun _ => by repeat (first | exact subM_refl _ | refine subM_app _ ?_ | refine subM_con _ ?_)) ?_
       rintro ⟨f77, t77, p77⟩ -
       refine WA.one (i := 3) (by kernel_rfl) ?_
       refine WAi.efS rfl (EF.callS (.cons rfl (.cons rfl .nil)) (fun w hS => eqPebbles_c _ _ _ _ _ _ _ _ _ _ _ _ _ (by exact RdI.rd hS) (by exact RdI.rd hS) (by exact RdI.rd hS) (by exact RdI.rd hS) (by exact RdI.rd hS) (by exact RdI.rd hS))) rfl rfl (fun _ => by repeat (first | exact subM_refl _ | refine subM_app _ ?_ | refine subM_con _ ?_)) ?_
       rintro ⟨⟩ -
       refine WA.takeP 4 rfl (RDP.of fun _ => RD.notP rfl) rfl (by kernel_rfl) rfl ?_
       refine WA.done (by kernel_rfl) ?_
       refine JE.seqN ?_
       refine J.condP rfl (fun hc79 => ?_) (fun hc79 => ?_)
       ·
        refine J.seq ?_
        refine J.reg ?_
        refine WL.rd (RD.assign rfl) rfl rfl ?_
        refine WL.nil ?_
        refine JE.seqN ?_
        refine J.ret ?_
        refine JE.ret rfl (.tmp rfl .nil) (fun w hS => ?_)
        first | exact CS.fin hS rfl | (exfalso; omega) | exact CS.fin hS (by simp_all)
       ·
        refine J.skip ?_
        refine JE.seqN ?_
        refine J.seq ?_
        refine J.reg ?_
        refine WL.rd (RD.assign rfl) rfl rfl ?_
        refine WL.nil ?_
        refine JE.seqN ?_
        refine J.seq ?_
        refine J.reg ?_
        refine WL.rd (RD.loadA rfl rfl) rfl rfl ?_
        refine WL.rd (RD.move rfl) rfl rfl ?_
        refine WL.efS (EF.callM (.cons rfl (.cons rfl .nil)) (.row .nil) .nil (fun w hS => markGraph_c _ _ _ _ _ (by omega) (by omega)) (by simp [En.rdb])) rfl rfl ?_
        rintro ⟨⟩ -
        refine WL.rd (RD.assign rfl) rfl rfl ?_
        refine WL.nil ?_
        refine JE.seqN ?_
        refine J.seq ?_
        refine J.reg ?_
        refine WL.rd (RD.loadA rfl rfl) rfl rfl ?_
        refine WL.rd (RD.move rfl) rfl rfl ?_
        refine WL.efS (EF.callM (.cons rfl (.cons rfl .nil)) (.row (.row (.row .nil))) .nil (fun w hS => markPebbles_c _ _ _ _ _ _ _ _ (by omega) (by omega) (by omega) (by omega)) (by simp [En.rdb])) rfl rfl ?_
        rintro ⟨⟩ -
        refine WL.rd (RD.assign rfl) rfl rfl ?_
        refine WL.nil ?_
        refine JE.seqN ?_
        refine J.seq ?_
        refine J.seq ?_
        refine J.reg ?_
        refine WL.rd (RD.move rfl) rfl rfl ?_
        refine WL.rd (RD.lss rfl rfl) rfl rfl ?_
        refine WL.rd (RD.move rfl) rfl rfl ?_
        refine WL.caseP 88 rfl (fun hg88 => ?_) (fun hg88 => ?_)
        ·
         refine WL.noS rfl rfl ?_
         refine WL.noS rfl rfl ?_
         refine WL.noS rfl rfl ?_
         refine WL.noS rfl rfl ?_
         refine WL.rd (RD.pickT rfl rfl) rfl rfl ?_
         refine WL.rd (RD.move rfl) rfl rfl ?_
         refine WL.noS rfl rfl ?_
         refine WL.noS rfl rfl ?_
         refine WL.noS rfl rfl ?_
         refine WL.rd (RD.pickT rfl rfl) rfl rfl ?_
         refine WL.nil ?_
         refine JE.seqN ?_
         refine J.condT rfl ?_
         refine J.seq ?_
         refine J.reg ?_
         refine WL.rd (RD.assign rfl) rfl rfl ?_
         refine WL.nil ?_
         refine JE.seqN ?_
         refine J.ret ?_
         refine JE.ret rfl (.tmp rfl .nil) (fun w hS => ?_)
         first | exact CS.fin hS rfl | (exfalso; omega) | exact CS.fin hS (by simp_all [mkRes])
        ·
         refine WL.rd (RD.loadA rfl rfl) rfl rfl ?_
         refine WL.rd (RD.loadA rfl rfl) rfl rfl ?_
         refine WL.efS (EF.callS (.cons rfl (.cons rfl .nil)) (fun w hS => eqPebbles_c _ _ _ _ _ _ _ _ _ _ _ _ _ (by exact RdI.rd hS) (by exact RdI.rd hS) (by exact RdI.rd hS) (by exact RdI.rd hS) (by exact RdI.rd hS) (by exact RdI.rd hS))) rfl rfl ?_
         rintro ⟨⟩ -
         refine WL.rd (RD.notP rfl) rfl rfl ?_
         refine WL.rd (RD.pickF rfl rfl) rfl rfl ?_
         refine WL.rd (RD.move rfl) rfl rfl ?_
         refine WL.caseP 94 rfl (fun hg94 => ?_) (fun hg94 => ?_)
         ·
          refine WL.noS rfl rfl ?_
          refine WL.noS rfl rfl ?_
          refine WL.noS rfl rfl ?_
          refine WL.rd (RD.pickT rfl rfl) rfl rfl ?_
          refine WL.nil ?_
          refine JE.seqN ?_
          refine J.condT rfl ?_
          refine J.seq ?_
          refine J.reg ?_
          refine WL.rd (RD.assign rfl) rfl rfl ?_
          refine WL.nil ?_
          refine JE.seqN ?_
          refine J.ret ?_
          refine JE.ret rfl (.tmp rfl .nil) (fun w hS => ?_)
          first | exact CS.fin hS rfl | (exfalso; omega) | exact CS.fin hS (by simp_all)
         ·
          refine WL.rd (RD.move rfl) rfl rfl ?_
          refine WL.rd (RD.move rfl) rfl rfl ?_
          refine WL.rd (RD.neqB rfl rfl) rfl rfl ?_
          refine WL.rd (RD.pickF rfl rfl) rfl rfl ?_
          refine WL.nil ?_
          refine JE.seqN ?_
          refine J.cond rfl (fun hc98 => ?_) (fun hc98 => ?_)
          ·
           refine J.seq ?_
           refine J.reg ?_
           refine WL.rd (RD.assign rfl) rfl rfl ?_
           refine WL.nil ?_
           refine JE.seqN ?_
           refine J.ret ?_
           refine JE.ret rfl (.tmp rfl .nil) (fun w hS => ?_)
           first | exact CS.fin hS rfl | (exfalso; omega) | exact CS.fin hS (by simp_all)
          ·
           refine J.skip ?_
           refine JE.seqN ?_
           refine J.seq ?_
           refine J.reg ?_
           refine WL.rd (RD.assign rfl) rfl rfl ?_
           refine WL.nil ?_
           refine JE.seqN ?_
           refine J.seq ?_
           refine J.reg ?_
           refine WL.rd (RD.loadA rfl rfl) rfl rfl ?_
           refine WL.rd (RD.move rfl) rfl rfl ?_
           refine WL.efS (EF.callM (.cons rfl (.cons rfl .nil)) (.row (.row (.row .nil))) .nil (fun w hS => markPebbles_c _ _ _ _ _ _ _ _ (by omega) (by omega) (by omega) (by omega)) (by simp [En.rdb])) rfl rfl ?_
           rintro ⟨⟩ -
           refine WL.rd (RD.assign rfl) rfl rfl ?_
           refine WL.nil ?_
           refine JE.seqN ?_
           refine J.seq ?_
           refine J.reg ?_
           refine WL.rd (RD.assign rfl) rfl rfl ?_
           refine WL.nil ?_
           refine JE.seqN ?_
           refine J.seq ?_
           refine J.reg ?_
           refine WL.rd (RD.loadA rfl rfl) rfl rfl ?_
           refine WL.rd (RD.move rfl) rfl rfl ?_
           refine WL.efS (EF.callS (.cons rfl (.cons rfl .nil)) (fun w hS => heldPebbles_c _ _ _ _ _ _ _ _ (by exact RdI.rd hS) (by exact RdI.rd hS) (by exact RdI.rd hS) (by omega) (by omega) (by omega) (by omega))) rfl rfl ?_
           rintro ⟨⟩ -
           refine WL.rd (RD.assign rfl) rfl rfl ?_
           refine WL.nil ?_
           refine JE.seqN ?_
           refine J.seq ?_
           refine J.seq ?_
           refine J.reg ?_
           refine WL.rd (RD.move rfl) rfl rfl ?_
           refine WL.rd (RD.lss rfl rfl) rfl rfl ?_
           refine WL.nil ?_
           refine JE.seqN ?_
           refine J.condP rfl (fun hc106 => ?_) (fun hc106 => ?_)
           ·
            refine J.seq ?_
            refine J.reg ?_
            refine WL.rd (RD.assign rfl) rfl rfl ?_
            refine WL.nil ?_
            refine JE.seqN ?_
            refine J.ret ?_
            refine JE.ret rfl (.tmp rfl .nil) (fun w hS => ?_)
            first | exact CS.fin hS rfl | (exfalso; omega) | exact CS.fin hS (by simp_all [mkRes])
           ·
            refine J.skip ?_
            refine JE.seqN ?_
            refine J.seq ?_
            refine J.seq ?_
            refine J.reg ?_
            refine WL.rd (RD.move rfl) rfl rfl ?_
            refine WL.rd (RD.move rfl) rfl rfl ?_
            refine WL.rd (RD.neq rfl rfl) rfl rfl ?_
            refine WL.nil ?_
            refine JE.seqN ?_
            refine J.condP rfl (fun hc109 => ?_) (fun hc109 => ?_)
            ·
             refine J.seq ?_
             refine J.reg ?_
             refine WL.rd (RD.assign rfl) rfl rfl ?_
             refine WL.nil ?_
             refine JE.seqN ?_
             refine J.ret ?_
             refine JE.ret rfl (.tmp rfl .nil) (fun w hS => ?_)
             first | exact CS.fin hS rfl | (exfalso; omega) | exact CS.fin hS (by simp_all [mkRes])
            ·
             refine J.skip ?_
             refine JE.seqN ?_
             refine J.seq ?_
             refine J.anyAll [13, 14] ?_
             refine WA.take 0 rfl (RD.loadA rfl rfl) rfl (by kernel_rfl) rfl ?_
             refine WA.takeP 2 rfl (RDP.of fun _ => RD.move rfl) rfl (by kernel_rfl) rfl ?_
             refine WA.take 3 rfl (RD.loadA rfl rfl) rfl (by kernel_rfl) rfl ?_
             refine WA.takeP 5 rfl (RDP.of fun _ => RD.move rfl) rfl (by kernel_rfl) rfl ?_
             refine WA.takeP 6 rfl (RDP.of fun _ => RD.move rfl) rfl (by kernel_rfl) rfl ?_
             refine WA.takeP 7 rfl (RDP.of fun _ => RD.move rfl) rfl (by kernel_rfl) rfl ?_
             refine WA.two (i := 1) (j := 12) (by kernel_rfl) ?_ ?_
             ·
              refine WAi.efS rfl (EF.callN (.cons rfl .nil) (fun w hS => toGraph_c _ _ _ _ (by exact RdI.rd hS) (by omega))) rfl rfl (fun _ => by repeat (first | exact subM_refl _ | refine subM_app _ ?_ | refine subM_con _ ?_)) ?_
              rintro v112 -
              refine WA.two (i := 4) (j := 12) (by kernel_rfl) ?_ ?_
              ·
               refine WAi.efS rfl (EF.callN (.cons rfl .nil) (fun w hS => toPebbles_c _ _ _ _ _ _ _ (by exact RdI.rd hS) (by exact RdI.rd hS) (by exact RdI.rd hS) (by omega) (by omega) (by omega))) rfl rfl (fun _ => by repeat (first | exact subM_refl _ | refine subM_app _ ?_ | refine subM_con _ ?_)) ?_
               rintro ⟨f115, t115, p115⟩ -
               refine WA.two (i := 8) (j := 12) (by kernel_rfl) ?_ ?_
               ·
                refine WAi.efS rfl (EF.callN (.cons rfl (.cons rfl (.cons rfl (.cons rfl (.cons rfl (.cons rfl .nil)))))) (fun w hS => iGatherPebbles_c _ _ _ _ _ _ _ _ _ _ _ _ _ _ (by exact RdI.rd hS) (by exact RdI.rd hS) (by exact RdI.rd hS) (by exact RdI.rd hS) (by assumption) (by omega) (by omega) (by omega) (by omega))) rfl rfl (fun _ => by repeat (first | exact subM_refl _ | refine subM_app _ ?_ | refine subM_con _ ?_)) ?_
                rintro ⟨f119, t119, p119⟩ -
                refine WA.takeP 9 rfl (RDP.of fun _ => RD.move rfl) rfl (by kernel_rfl) rfl ?_
                refine WA.takeP 10 rfl (RDP.of fun _ => RD.extract rfl rfl) rfl (by kernel_rfl) rfl ?_
                refine WA.takeP 11 rfl (RDP.of fun _ => RD.extract rfl rfl) rfl (by kernel_rfl) rfl ?_
                refine WA.one (i := 12) (by kernel_rfl) ?_
                refine WAi.efS rfl (by exact EF.allocA) rfl rfl (fun _ => by repeat (first | exact subM_refl _ | refine subM_app _ ?_ | refine subM_con _ ?_)) ?_
                intro b23 _
                refine WA.one (i := 13) (by kernel_rfl) ?_
                refine WAi.efNL rfl (EF.storeA rfl rfl rfl rfl) rfl rfl ?_
                rintro ⟨⟩ -
                refine WB.takeP 14 rfl (RDP.of fun _ => RD.assign rfl) rfl (by kernel_rfl) rfl ?_
                refine WB.done (by kernel_rfl) ?_
                refine JE.seqN ?_
                refine J.seq ?_
                refine J.seq ?_
                refine J.reg ?_
                refine WL.rd (RD.loadA rfl rfl) rfl rfl ?_
                refine WL.rd (RD.loadA rfl rfl) rfl rfl ?_
                refine WL.efS (EF.callS (.cons rfl (.cons rfl .nil)) (fun w hS => eqPebbles_c _ _ _ _ _ _ _ _ _ _ _ _ _ (by exact RdI.rd hS) (by exact RdI.rd hS) (by exact RdI.rd hS) (by exact RdI.rd hS) (by exact RdI.rd hS) (by exact RdI.rd hS))) rfl rfl ?_
                rintro ⟨⟩ -
                refine WL.rd (RD.notP rfl) rfl rfl ?_
                refine WL.rd (RD.move rfl) rfl rfl ?_
                refine WL.caseP 126 rfl (fun hg126 => ?_) (fun hg126 => ?_)
                ·
                 refine WL.noS rfl rfl ?_
                 refine WL.noS rfl rfl ?_
                 refine WL.noS rfl rfl ?_
                 refine WL.rd (RD.pickT rfl rfl) rfl rfl ?_
                 refine WL.nil ?_
                 refine JE.seqN ?_
                 refine J.condT rfl ?_
                 refine J.seq ?_
                 refine J.reg ?_
                 refine WL.rd (RD.assign rfl) rfl rfl ?_
                 refine WL.nil ?_
                 refine JE.seqN ?_
                 refine J.ret ?_
                 refine JE.ret rfl (.tmp rfl .nil) (fun w hS => ?_)
                 first | exact CS.fin hS rfl | (exfalso; omega) | exact CS.fin hS (by simp_all)
                ·
                 refine WL.rd (RD.move rfl) rfl rfl ?_
                 refine WL.rd (RD.move rfl) rfl rfl ?_
                 refine WL.rd (RD.neqB rfl rfl) rfl rfl ?_
                 refine WL.rd (RD.pickF rfl rfl) rfl rfl ?_
                 refine WL.nil ?_
                 refine JE.seqN ?_
                 refine J.cond rfl (fun hc130 => ?_) (fun hc130 => ?_)
                 ·
                  refine J.seq ?_
                  refine J.reg ?_
                  refine WL.rd (RD.assign rfl) rfl rfl ?_
                  refine WL.nil ?_
                  refine JE.seqN ?_
                  refine J.ret ?_
                  refine JE.ret rfl (.tmp rfl .nil) (fun w hS => ?_)
                  first | exact CS.fin hS rfl | (exfalso; omega) | exact CS.fin hS (by simp_all)
                 ·
                  refine J.skip ?_
                  refine JE.seqN ?_
                  refine J.seq ?_
                  refine J.reg ?_
                  refine WL.rd (RD.assign rfl) rfl rfl ?_
                  refine WL.nil ?_
                  refine JE.seqN ?_
                  refine J.seq ?_
                  refine J.reg ?_
                  refine WL.rd (RD.loadA rfl rfl) rfl rfl ?_
                  refine WL.rd (RD.move rfl) rfl rfl ?_
                  refine WL.efS (EF.callS (.cons rfl (.cons rfl .nil)) (fun w hS => heldPebbles_c _ _ _ _ _ _ _ _ (by exact RdI.rd hS) (by exact RdI.rd hS) (by exact RdI.rd hS) (by omega) (by omega) (by omega) (by omega))) rfl rfl ?_
                  rintro ⟨⟩ -
                  refine WL.rd (RD.assign rfl) rfl rfl ?_
                  refine WL.nil ?_
                  refine JE.seqN ?_
                  refine J.seq ?_
                  refine J.seq ?_
                  refine J.reg ?_
                  refine WL.rd (RD.move rfl) rfl rfl ?_
                  refine WL.rd (RD.lss rfl rfl) rfl rfl ?_
                  refine WL.nil ?_
                  refine JE.seqN ?_
                  refine J.condP rfl (fun hc135 => ?_) (fun hc135 => ?_)
                  ·
                   refine J.seq ?_
                   refine J.reg ?_
                   refine WL.rd (RD.assign rfl) rfl rfl ?_
                   refine WL.nil ?_
                   refine JE.seqN ?_
                   refine J.ret ?_
                   refine JE.ret rfl (.tmp rfl .nil) (fun w hS => ?_)
                   first | exact CS.fin hS rfl | (exfalso; omega) | exact CS.fin hS (by simp_all [mkRes])
                  ·
                   refine J.skip ?_
                   refine JE.seqN ?_
                   refine J.seq ?_
                   refine J.seq ?_
                   refine J.reg ?_
                   refine WL.rd (RD.move rfl) rfl rfl ?_
                   refine WL.rd (RD.move rfl) rfl rfl ?_
                   refine WL.rd (RD.neq rfl rfl) rfl rfl ?_
                   refine WL.nil ?_
                   refine JE.seqN ?_
                   refine J.condP rfl (fun hc138 => ?_) (fun hc138 => ?_)
                   ·
                    refine J.seq ?_
                    refine J.reg ?_
                    refine WL.rd (RD.assign rfl) rfl rfl ?_
                    refine WL.nil ?_
                    refine JE.seqN ?_
                    refine J.ret ?_
                    refine JE.ret rfl (.tmp rfl .nil) (fun w hS => ?_)
                    first | exact CS.fin hS rfl | (exfalso; omega) | exact CS.fin hS (by simp_all [mkRes])
                   ·
                    refine J.skip ?_
                    refine JE.seqN ?_
                    refine J.seq ?_
                    refine J.reg ?_
                    refine WL.rd (RD.assign rfl) rfl rfl ?_
                    refine WL.nil ?_
                    refine JE.seqN ?_
                    refine J.ret ?_
                    refine JE.ret rfl (.tmp rfl .nil) (fun w hS => ?_)
                    first | exact CS.fin hS rfl | (exfalso; omega) | exact CS.fin hS (by simp_all [mkRes])
               ·
                refine WAi.efS rfl (by exact EF.allocA) rfl rfl (fun _ => by repeat (first | exact subM_refl _ | refine subM_app _ ?_ | refine subM_con _ ?_)) ?_
                intro b23 _
                refine WA.one (i := 8) (by kernel_rfl) ?_
                refine WAi.efS rfl (EF.callN (.cons rfl (.cons rfl (.cons rfl (.cons rfl (.cons rfl (.cons rfl .nil)))))) (fun w hS => iGatherPebbles_c _ _ _ _ _ _ _ _ _ _ _ _ _ _ (by exact RdI.rd hS) (by exact RdI.rd hS) (by exact RdI.rd hS) (by exact RdI.rd hS) (by assumption) (by omega) (by omega) (by omega) (by omega))) rfl rfl (fun _ => by repeat (first | exact subM_refl _ | refine subM_app _ ?_ | refine subM_con _ ?_)) ?_
                rintro ⟨f119, t119, p119⟩ -
                refine WA.takeP 9 rfl (RDP.of fun _ => RD.move rfl) rfl (by kernel_rfl) rfl ?_
                refine WA.takeP 10 rfl (RDP.of fun _ => RD.extract rfl rfl) rfl (by kernel_rfl) rfl ?_
                refine WA.takeP 11 rfl (RDP.of fun _ => RD.extract rfl rfl) rfl (by kernel_rfl) rfl ?_
                refine WA.one (i := 13) (by kernel_rfl) ?_
                refine WAi.efNL rfl (EF.storeA rfl rfl rfl rfl) rfl rfl ?_
                rintro ⟨⟩ -
                refine WB.takeP 14 rfl (RDP.of fun _ => RD.assign rfl) rfl (by kernel_rfl) rfl ?_
                refine WB.done (by kernel_rfl) ?_
                refine JE.seqN ?_
                refine J.seq ?_
                refine J.seq ?_
                refine J.reg ?_
                refine WL.rd (RD.loadA rfl rfl) rfl rfl ?_
                refine WL.rd (RD.loadA rfl rfl) rfl rfl ?_
                refine WL.efS (EF.callS (.cons rfl (.cons rfl .nil)) (fun w hS => eqPebbles_c _ _ _ _ _ _ _ _ _ _ _ _ _ (by exact RdI.rd hS) (by exact RdI.rd hS) (by exact RdI.rd hS) (by exact RdI.rd hS) (by exact RdI.rd hS) (by exact RdI.rd hS))) rfl rfl ?_
                rintro ⟨⟩ -
                refine WL.rd (RD.notP rfl) rfl rfl ?_
                refine WL.rd (RD.move rfl) rfl rfl ?_
                refine WL.caseP 126 rfl (fun hg126 => ?_) (fun hg126 => ?_)
                ·
                 refine WL.noS rfl rfl ?_
                 refine WL.noS rfl rfl ?_
                 refine WL.noS rfl rfl ?_
                 refine WL.rd (RD.pickT rfl rfl) rfl rfl ?_
                 refine WL.nil ?_
                 refine JE.seqN ?_
                 refine J.condT rfl ?_
                 refine J.seq ?_
                 refine J.reg ?_
                 refine WL.rd (RD.assign rfl) rfl rfl ?_
                 refine WL.nil ?_
                 refine JE.seqN ?_
                 refine J.ret ?_
                 refine JE.ret rfl (.tmp rfl .nil) (fun w hS => ?_)
                 first | exact CS.fin hS rfl | (exfalso; omega) | exact CS.fin hS (by simp_all)
                ·
                 refine WL.rd (RD.move rfl) rfl rfl ?_
                 refine WL.rd (RD.move rfl) rfl rfl ?_
                 refine WL.rd (RD.neqB rfl rfl) rfl rfl ?_
                 refine WL.rd (RD.pickF rfl rfl) rfl rfl ?_
                 refine WL.nil ?_
                 refine JE.seqN ?_
                 refine J.cond rfl (fun hc130 => ?_) (fun hc130 => ?_)
                 ·
                  refine J.seq ?_
                  refine J.reg ?_
                  refine WL.rd (RD.assign rfl) rfl rfl ?_
                  refine WL.nil ?_
                  refine JE.seqN ?_
                  refine J.ret ?_
                  refine JE.ret rfl (.tmp rfl .nil) (fun w hS => ?_)
                  first | exact CS.fin hS rfl | (exfalso; omega) | exact CS.fin hS (by simp_all)
                 ·
                  refine J.skip ?_
                  refine JE.seqN ?_
                  refine J.seq ?_
                  refine J.reg ?_
                  refine WL.rd (RD.assign rfl) rfl rfl ?_
                  refine WL.nil ?_
                  refine JE.seqN ?_
                  refine J.seq ?_
                  refine J.reg ?_
                  refine WL.rd (RD.loadA rfl rfl) rfl rfl ?_
                  refine WL.rd (RD.move rfl) rfl rfl ?_
                  refine WL.efS (EF.callS (.cons rfl (.cons rfl .nil)) (fun w hS => heldPebbles_c _ _ _ _ _ _ _ _ (by exact RdI.rd hS) (by exact RdI.rd hS) (by exact RdI.rd hS) (by omega) (by omega) (by omega) (by omega))) rfl rfl ?_
                  rintro ⟨⟩ -
                  refine WL.rd (RD.assign rfl) rfl rfl ?_
                  refine WL.nil ?_
                  refine JE.seqN ?_
                  refine J.seq ?_
                  refine J.seq ?_
                  refine J.reg ?_
                  refine WL.rd (RD.move rfl) rfl rfl ?_
                  refine WL.rd (RD.lss rfl rfl) rfl rfl ?_
                  refine WL.nil ?_
                  refine JE.seqN ?_
                  refine J.condP rfl (fun hc135 => ?_) (fun hc135 => ?_)
                  ·
                   refine J.seq ?_
                   refine J.reg ?_
                   refine WL.rd (RD.assign rfl) rfl rfl ?_
                   refine WL.nil ?_
                   refine JE.seqN ?_
                   refine J.ret ?_
                   refine JE.ret rfl (.tmp rfl .nil) (fun w hS => ?_)
                   first | exact CS.fin hS rfl | (exfalso; omega) | exact CS.fin hS (by simp_all [mkRes])
                  ·
                   refine J.skip ?_
                   refine JE.seqN ?_
                   refine J.seq ?_
                   refine J.seq ?_
                   refine J.reg ?_
                   refine WL.rd (RD.move rfl) rfl rfl ?_
                   refine WL.rd (RD.move rfl) rfl rfl ?_
                   refine WL.rd (RD.neq rfl rfl) rfl rfl ?_
                   refine WL.nil ?_
                   refine JE.seqN ?_
                   refine J.condP rfl (fun hc138 => ?_) (fun hc138 => ?_)
                   ·
                    refine J.seq ?_
                    refine J.reg ?_
                    refine WL.rd (RD.assign rfl) rfl rfl ?_
                    refine WL.nil ?_
                    refine JE.seqN ?_
                    refine J.ret ?_
                    refine JE.ret rfl (.tmp rfl .nil) (fun w hS => ?_)
                    first | exact CS.fin hS rfl | (exfalso; omega) | exact CS.fin hS (by simp_all [mkRes])
                   ·
                    refine J.skip ?_
                    refine JE.seqN ?_
                    refine J.seq ?_
                    refine J.reg ?_
                    refine WL.rd (RD.assign rfl) rfl rfl ?_
                    refine WL.nil ?_
                    refine JE.seqN ?_
                    refine J.ret ?_
                    refine JE.ret rfl (.tmp rfl .nil) (fun w hS => ?_)
                    first | exact CS.fin hS rfl | (exfalso; omega) | exact CS.fin hS (by simp_all [mkRes])
              ·
               refine WAi.efS rfl (by exact EF.allocA) rfl rfl (fun _ => by repeat (first | exact subM_refl _ | refine subM_app _ ?_ | refine subM_con _ ?_)) ?_
               intro b23 _
               refine WA.one (i := 4) (by kernel_rfl) ?_
               refine WAi.efS rfl (EF.callN (.cons rfl .nil) (fun w hS => toPebbles_c _ _ _ _ _ _ _ (by exact RdI.rd hS) (by exact RdI.rd hS) (by exact RdI.rd hS) (by omega) (by omega) (by omega))) rfl rfl (fun _ => by repeat (first | exact subM_refl _ | refine subM_app _ ?_ | refine subM_con _ ?_)) ?_
               rintro ⟨f115, t115, p115⟩ -
               refine WA.one (i := 8) (by kernel_rfl) ?_
               refine WAi.efS rfl (EF.callN (.cons rfl (.cons rfl (.cons rfl (.cons rfl (.cons rfl (.cons rfl .nil)))))) (fun w hS => iGatherPebbles_c _ _ _ _ _ _ _ _ _ _ _ _ _ _ (by exact RdI.rd hS) (by exact RdI.rd hS) (by exact RdI.rd hS) (by exact RdI.rd hS) (by assumption) (by omega) (by omega) (by omega) (by omega))) rfl rfl (fun _ => by repeat (first | exact subM_refl _ | refine subM_app _ ?_ | refine subM_con _ ?_)) ?_
               rintro ⟨f119, t119, p119⟩ -
               refine WA.takeP 9 rfl (RDP.of fun _ => RD.move rfl) rfl (by kernel_rfl) rfl ?_
               refine WA.takeP 10 rfl (RDP.of fun _ => RD.extract rfl rfl) rfl (by kernel_rfl) rfl ?_
               refine WA.takeP 11 rfl (RDP.of fun _ => RD.extract rfl rfl) rfl (by kernel_rfl) rfl ?_
               refine WA.one (i := 13) (by kernel_rfl) ?_
               refine WAi.efNL rfl (EF.storeA rfl rfl rfl rfl) rfl rfl ?_
               rintro ⟨⟩ -
               refine WB.takeP 14 rfl (RDP.of fun _ => RD.assign rfl) rfl (by kernel_rfl) rfl ?_
               refine WB.done (by kernel_rfl) ?_
               refine JE.seqN ?_
               refine J.seq ?_
               refine J.seq ?_
               refine J.reg ?_
               refine WL.rd (RD.loadA rfl rfl) rfl rfl ?_
               refine WL.rd (RD.loadA rfl rfl) rfl rfl ?_
               refine WL.efS (EF.callS (.cons rfl (.cons rfl .nil)) (fun w hS => eqPebbles_c _ _ _ _ _ _ _ _ _ _ _ _ _ (by exact RdI.rd hS) (by exact RdI.rd hS) (by exact RdI.rd hS) (by exact RdI.rd hS) (by exact RdI.rd hS) (by exact RdI.rd hS))) rfl rfl ?_
               rintro ⟨⟩ -
               refine WL.rd (RD.notP rfl) rfl rfl ?_
               refine WL.rd (RD.move rfl) rfl rfl ?_
               refine WL.caseP 126 rfl (fun hg126 => ?_) (fun hg126 => ?_)
               ·
                refine WL.noS rfl rfl ?_
                refine WL.noS rfl rfl ?_
                refine WL.noS rfl rfl ?_
                refine WL.rd (RD.pickT rfl rfl) rfl rfl ?_
                refine WL.nil ?_
                refine JE.seqN ?_
                refine J.condT rfl ?_
                refine J.seq ?_
                refine J.reg ?_
                refine WL.rd (RD.assign rfl) rfl rfl ?_
                refine WL.nil ?_
                refine JE.seqN ?_
                refine J.ret ?_
                refine JE.ret rfl (.tmp rfl .nil) (fun w hS => ?_)
                first | exact CS.fin hS rfl | (exfalso; omega) | exact CS.fin hS (by simp_all)
               ·
                refine WL.rd (RD.move rfl) rfl rfl ?_
                refine WL.rd (RD.move rfl) rfl rfl ?_
                refine WL.rd (RD.neqB rfl rfl) rfl rfl ?_
                refine WL.rd (RD.pickF rfl rfl) rfl rfl ?_
                refine WL.nil ?_
                refine JE.seqN ?_
                refine J.cond rfl (fun hc130 => ?_) (fun hc130 => ?_)
                ·
                 refine J.seq ?_
                 refine J.reg ?_
                 refine WL.rd (RD.assign rfl) rfl rfl ?_
                 refine WL.nil ?_
                 refine JE.seqN ?_
                 refine J.ret ?_
                 refine JE.ret rfl (.tmp rfl .nil) (fun w hS => ?_)
                 first | exact CS.fin hS rfl | (exfalso; omega) | exact CS.fin hS (by simp_all)
                ·
                 refine J.skip ?_
                 refine JE.seqN ?_
                 refine J.seq ?_
                 refine J.reg ?_
                 refine WL.rd (RD.assign rfl) rfl rfl ?_
                 refine WL.nil ?_
                 refine JE.seqN ?_
                 refine J.seq ?_
                 refine J.reg ?_
                 refine WL.rd (RD.loadA rfl rfl) rfl rfl ?_
                 refine WL.rd (RD.move rfl) rfl rfl ?_
                 refine WL.efS (EF.callS (.cons rfl (.cons rfl .nil)) (fun w hS => heldPebbles_c _ _ _ _ _ _ _ _ (by exact RdI.rd hS) (by exact RdI.rd hS) (by exact RdI.rd hS) (by omega) (by omega) (by omega) (by omega))) rfl rfl ?_
                 rintro ⟨⟩ -
                 refine WL.rd (RD.assign rfl) rfl rfl ?_
                 refine WL.nil ?_
                 refine JE.seqN ?_
                 refine J.seq ?_
                 refine J.seq ?_
                 refine J.reg ?_
                 refine WL.rd (RD.move rfl) rfl rfl ?_
                 refine WL.rd (RD.lss rfl rfl) rfl rfl ?_
                 refine WL.nil ?_
                 refine JE.seqN ?_
                 refine J.condP rfl (fun hc135 => ?_) (fun hc135 => ?_)
                 ·
                  refine J.seq ?_
                  refine J.reg ?_
                  refine WL.rd (RD.assign rfl) rfl rfl ?_
                  refine WL.nil ?_
                  refine JE.seqN ?_
                  refine J.ret ?_
                  refine JE.ret rfl (.tmp rfl .nil) (fun w hS => ?_)
                  first | exact CS.fin hS rfl | (exfalso; omega) | exact CS.fin hS (by simp_all [mkRes])
                 ·
                  refine J.skip ?_
                  refine JE.seqN ?_
                  refine J.seq ?_
                  refine J.seq ?_
                  refine J.reg ?_
                  refine WL.rd (RD.move rfl) rfl rfl ?_
                  refine WL.rd (RD.move rfl) rfl rfl ?_
                  refine WL.rd (RD.neq rfl rfl) rfl rfl ?_
                  refine WL.nil ?_
                  refine JE.seqN ?_
                  refine J.condP rfl (fun hc138 => ?_) (fun hc138 => ?_)
                  ·
                   refine J.seq ?_
                   refine J.reg ?_
                   refine WL.rd (RD.assign rfl) rfl rfl ?_
                   refine WL.nil ?_
                   refine JE.seqN ?_
                   refine J.ret ?_
                   refine JE.ret rfl (.tmp rfl .nil) (fun w hS => ?_)
                   first | exact CS.fin hS rfl | (exfalso; omega) | exact CS.fin hS (by simp_all [mkRes])
                  ·
                   refine J.skip ?_
                   refine JE.seqN ?_
                   refine J.seq ?_
                   refine J.reg ?_
                   refine WL.rd (RD.assign rfl) rfl rfl ?_
                   refine WL.nil ?_
                   refine JE.seqN ?_
                   refine J.ret ?_
                   refine JE.ret rfl (.tmp rfl .nil) (fun w hS => ?_)
                   first | exact CS.fin hS rfl | (exfalso; omega) | exact CS.fin hS (by simp_all [mkRes])
             ·
              refine WAi.efS rfl (by exact EF.allocA) rfl rfl (fun _ => by repeat (first | exact subM_refl _ | refine subM_app _ ?_ | refine subM_con _ ?_)) ?_
              intro b23 _
              refine WA.one (i := 1) (by kernel_rfl) ?_
              refine WAi.efS rfl (EF.callN (.cons rfl .nil) (fun w hS => toGraph_c _ _ _ _ (by exact RdI.rd hS) (by omega))) rfl rfl (fun _ => by repeat (first | exact subM_refl _ | refine subM_app _ ?_ | refine subM_con _ ?_)) ?_
              rintro v112 -
              refine WA.one (i := 4) (by kernel_rfl) ?_
              refine WAi.efS rfl (EF.callN (.cons rfl .nil) (fun w hS => toPebbles_c _ _ _ _ _ _ _ (by exact RdI.rd hS) (by exact RdI.rd hS) (by exact RdI.rd hS) (by omega) (by omega) (by omega))) rfl rfl (fun _ => by repeat (first | exact subM_refl _ | refine subM_app _ ?_ | refine subM_con _ ?_)) ?_
              rintro ⟨f115, t115, p115⟩ -
              refine WA.one (i := 8) (by kernel_rfl) ?_
              refine WAi.efS rfl (EF.callN (.cons rfl (.cons rfl (.cons rfl (.cons rfl (.cons rfl (.cons rfl .nil)))))) (fun w hS => iGatherPebbles_c _ _ _ _ _ _ _ _ _ _ _ _ _ _ (by exact RdI.rd hS) (by exact RdI.rd hS) (by exact RdI.rd hS) (by exact RdI.rd hS) (by assumption) (by omega) (by omega) (by omega) (by omega))) rfl rfl (fun _ => by repeat (first | exact subM_refl _ | refine subM_app _ ?_ | refine subM_con _ ?_)) ?_
              rintro ⟨f119, t119, p119⟩ -
              refine WA.takeP 9 rfl (RDP.of fun _ => RD.move rfl) rfl (by kernel_rfl) rfl ?_
              refine WA.takeP 10 rfl (RDP.of fun _ => RD.extract rfl rfl) rfl (by kernel_rfl) rfl ?_
              refine WA.takeP 11 rfl (RDP.of fun _ => RD.extract rfl rfl) rfl (by kernel_rfl) rfl ?_
              refine WA.one (i := 13) (by kernel_rfl) ?_
              refine WAi.efNL rfl (EF.storeA rfl rfl rfl rfl) rfl rfl ?_
              rintro ⟨⟩ -
              refine WB.takeP 14 rfl (RDP.of fun _ => RD.assign rfl) rfl (by kernel_rfl) rfl ?_
              refine WB.done (by kernel_rfl) ?_
              refine JE.seqN ?_
              refine J.seq ?_
              refine J.seq ?_
              refine J.reg ?_
              refine WL.rd (RD.loadA rfl rfl) rfl rfl ?_
              refine WL.rd (RD.loadA rfl rfl) rfl rfl ?_
              refine WL.efS (EF.callS (.cons rfl (.cons rfl .nil)) (fun w hS => eqPebbles_c _ _ _ _ _ _ _ _ _ _ _ _ _ (by exact RdI.rd hS) (by exact RdI.rd hS) (by exact RdI.rd hS) (by exact RdI.rd hS) (by exact RdI.rd hS) (by exact RdI.rd hS))) rfl rfl ?_
              rintro ⟨⟩ -
              refine WL.rd (RD.notP rfl) rfl rfl ?_
              refine WL.rd (RD.move rfl) rfl rfl ?_
              refine WL.caseP 126 rfl (fun hg126 => ?_) (fun hg126 => ?_)
              ·
               refine WL.noS rfl rfl ?_
               refine WL.noS rfl rfl ?_
               refine WL.noS rfl rfl ?_
               refine WL.rd (RD.pickT rfl rfl) rfl rfl ?_
               refine WL.nil ?_
               refine JE.seqN ?_
               refine J.condT rfl ?_
               refine J.seq ?_
               refine J.reg ?_
               refine WL.rd (RD.assign rfl) rfl rfl ?_
               refine WL.nil ?_
               refine JE.seqN ?_
               refine J.ret ?_
               refine JE.ret rfl (.tmp rfl .nil) (fun w hS => ?_)
               first | exact CS.fin hS rfl | (exfalso; omega) | exact CS.fin hS (by simp_all)
              ·
               refine WL.rd (RD.move rfl) rfl rfl ?_
               refine WL.rd (RD.move rfl) rfl rfl ?_
               refine WL.rd (RD.neqB rfl rfl) rfl rfl ?_
               refine WL.rd (RD.pickF rfl rfl) rfl rfl ?_
               refine WL.nil ?_
               refine JE.seqN ?_
               refine J.cond rfl (fun hc130 => ?_) (fun hc130 => ?_)
               ·
                refine J.seq ?_
                refine J.reg ?_
                refine WL.rd (RD.assign rfl) rfl rfl ?_
                refine WL.nil ?_
                refine JE.seqN ?_
                refine J.ret ?_
                refine JE.ret rfl (.tmp rfl .nil) (fun w hS => ?_)
                first | exact CS.fin hS rfl | (exfalso; omega) | exact CS.fin hS (by simp_all)
               ·
                refine J.skip ?_
                refine JE.seqN ?_
                refine J.seq ?_
                refine J.reg ?_
                refine WL.rd (RD.assign rfl) rfl rfl ?_
                refine WL.nil ?_
                refine JE.seqN ?_
                refine J.seq ?_
                refine J.reg ?_
                refine WL.rd (RD.loadA rfl rfl) rfl rfl ?_
                refine WL.rd (RD.move rfl) rfl rfl ?_
                refine WL.efS (EF.callS (.cons rfl (.cons rfl .nil)) (fun w hS => heldPebbles_c _ _ _ _ _ _ _ _ (by exact RdI.rd hS) (by exact RdI.rd hS) (by exact RdI.rd hS) (by omega) (by omega) (by omega) (by omega))) rfl rfl ?_
                rintro ⟨⟩ -
                refine WL.rd (RD.assign rfl) rfl rfl ?_
                refine WL.nil ?_
                refine JE.seqN ?_
                refine J.seq ?_
                refine J.seq ?_
                refine J.reg ?_
                refine WL.rd (RD.move rfl) rfl rfl ?_
                refine WL.rd (RD.lss rfl rfl) rfl rfl ?_
                refine WL.nil ?_
                refine JE.seqN ?_
                refine J.condP rfl (fun hc135 => ?_) (fun hc135 => ?_)
                ·
                 refine J.seq ?_
                 refine J.reg ?_
                 refine WL.rd (RD.assign rfl) rfl rfl ?_
                 refine WL.nil ?_
                 refine JE.seqN ?_
                 refine J.ret ?_
                 refine JE.ret rfl (.tmp rfl .nil) (fun w hS => ?_)
                 first | exact CS.fin hS rfl | (exfalso; omega) | exact CS.fin hS (by simp_all [mkRes])
                ·
                 refine J.skip ?_
                 refine JE.seqN ?_
                 refine J.seq ?_
                 refine J.seq ?_
                 refine J.reg ?_
                 refine WL.rd (RD.move rfl) rfl rfl ?_
                 refine WL.rd (RD.move rfl) rfl rfl ?_
                 refine WL.rd (RD.neq rfl rfl) rfl rfl ?_
                 refine WL.nil ?_
                 refine JE.seqN ?_
                 refine J.condP rfl (fun hc138 => ?_) (fun hc138 => ?_)
                 ·
                  refine J.seq ?_
                  refine J.reg ?_
                  refine WL.rd (RD.assign rfl) rfl rfl ?_
                  refine WL.nil ?_
                  refine JE.seqN ?_
                  refine J.ret ?_
                  refine JE.ret rfl (.tmp rfl .nil) (fun w hS => ?_)
                  first | exact CS.fin hS rfl | (exfalso; omega) | exact CS.fin hS (by simp_all [mkRes])
                 ·
                  refine J.skip ?_
                  refine JE.seqN ?_
                  refine J.seq ?_
                  refine J.reg ?_
                  refine WL.rd (RD.assign rfl) rfl rfl ?_
                  refine WL.nil ?_
                  refine JE.seqN ?_
                  refine J.ret ?_
                  refine JE.ret rfl (.tmp rfl .nil) (fun w hS => ?_)
                  first | exact CS.fin hS rfl | (exfalso; omega) | exact CS.fin hS (by simp_all [mkRes])

end Go.Proofs.Ytnfkalfpijolkaa
