/- Contracts of functions of the program, each walked once; written by a program of our own. -/
import Derived.Test.YtpojkjabngkfgaaGgP
import Derived.Test.YtpojkjabngkfgaaMx
namespace Go.Proofs.Ytpojkjabngkfgaa
open Go Go.RowKit
set_option maxRecDepth 4000

theorem copyInts_c (v : Value) (l : List Int) (w : World) (hr : Rd w v 1 (l.map iv)) (hl : l.length ≤ 1048576) :
    CN Try.prog 35 [v] w Value (fun _ => True) (fun u => u) (fun u => [.row u 3 1 (l.map iv)]) := by
 refine calls_of_J (mu := (fun _ => False)) (m := [.ro v 1 (l.map iv)]) (e := [(0, v)]) Try.func35 rfl rfl (.cons rfl .nil) (((St.init _ _).ro0 hr (by decide))) ?_
 refine J.seq ?_
 refine J.reg ?_
 refine WL.rd (RD.assign rfl) rfl rfl ?_
 refine WL.nil ?_
 refine JE.seqN ?_
 refine J.seq ?_
 refine J.reg ?_
 refine WL.efS (EF.build0) rfl rfl ?_
 intro v3 _
 refine WL.rd (RD.move rfl) rfl rfl ?_
 refine WL.efS (EF.append rfl rfl (by omega) rfl rfl rfl) rfl rfl ?_
 intro v5 _
 refine WL.rd (RD.assign rfl) rfl rfl ?_
 refine WL.nil ?_
 refine JE.seqN ?_
 refine J.ret ?_
 refine JE.ret rfl (.tmp rfl .nil) (fun w hS => ?_)
 exact CN.fin hS v5 rfl trivial (SubM.row rfl rfl rfl .nil) (by simp [En.rdb])
theorem copyPebbles_c (vf vt vp : Value) (f t pl : List Int) (w : World) (hrf : Rd w vf 1 (f.map iv)) (hrt : Rd w vt 1 (t.map iv)) (hrp : Rd w vp 1 (pl.map iv)) (h1 : f.length ≤ 1048576) (h2 : t.length ≤ 1048576) (h3 : pl.length ≤ 1048576) :
    CN Try.prog 46 [.agg #[vf, vt, vp]] w (Value × Value × Value) (fun _ => True) (fun x => .agg #[x.1, x.2.1, x.2.2]) (fun x => [.row x.1 3 1 (f.map iv), .row x.2.1 3 1 (t.map iv), .row x.2.2 3 1 (pl.map iv)]) := by
 have hl_f : f.length ≤ 9223372036854775807 := (by obtain ⟨_, _, _, hh, _⟩ := hrf.shape; simpa using hh)
 have hl_t : t.length ≤ 9223372036854775807 := (by obtain ⟨_, _, _, hh, _⟩ := hrt.shape; simpa using hh)
 have hl_pl : pl.length ≤ 9223372036854775807 := (by obtain ⟨_, _, _, hh, _⟩ := hrp.shape; simpa using hh)
 refine calls_of_J (mu := (fun _ => False)) (m := [.ro vf 1 (f.map iv), .ro vt 1 (t.map iv), .ro vp 1 (pl.map iv)]) (e := [(0, .agg #[vf, vt, vp])]) Try.func46 rfl rfl (.cons rfl .nil) (((((St.init _ _).ro0 hrp (by decide)).ro0 hrt (by decide)).ro0 hrf (by decide))) ?_
 refine J.seq ?_
 refine J.reg ?_
 refine WL.efS (EF.boxA rfl) rfl rfl ?_
 intro b1 _
 refine WL.efS (EF.allocA) rfl rfl ?_
 intro b2 _
 refine WL.nil ?_
 refine JE.seqN ?_
 refine J.seq ?_
 refine J.anyAll [10] ?_
 refine WA.takeP 0 rfl (RDP.of fun _ => RD.fieldC rfl rfl) rfl (by kernel_rfl) rfl ?_
 refine WA.take 1 rfl (RD.loadC rfl rfl) rfl (by kernel_rfl) rfl ?_
 refine WA.takeP 3 rfl (RDP.of fun _ => RD.fieldC rfl rfl) rfl (by kernel_rfl) rfl ?_
 refine WA.take 4 rfl (RD.loadC rfl rfl) rfl (by kernel_rfl) rfl ?_
 refine WA.takeP 6 rfl (RDP.of fun _ => RD.fieldC rfl rfl) rfl (by kernel_rfl) rfl ?_
 refine WA.take 7 rfl (RD.loadC rfl rfl) rfl (by kernel_rfl) rfl ?_
 refine WA.one (i := 2) (by kernel_rfl) ?_
 refine WAi.efS rfl (EF.callN (.cons rfl .nil) (fun w hS => copyInts_c _ _ _ (by exact RdI.rd hS) (by omega))) rfl rfl (fun _ => SubI.sub) ?_
 rintro v5 -
 refine WA.one (i := 5) (by kernel_rfl) ?_
 refine WAi.efS rfl (EF.callN (.cons rfl .nil) (fun w hS => copyInts_c _ _ _ (by exact RdI.rd hS) (by omega))) rfl rfl (fun _ => SubI.sub) ?_
 rintro v8 -
 refine WA.one (i := 8) (by kernel_rfl) ?_
 refine WAi.efS rfl (EF.callN (.cons rfl .nil) (fun w hS => copyInts_c _ _ _ (by exact RdI.rd hS) (by omega))) rfl rfl (fun _ => SubI.sub) ?_
 rintro v11 -
 refine WA.takeP 9 rfl (RDP.build (n := 3) (.cons rfl (.cons rfl (.cons rfl .nil))) rfl) rfl (by kernel_rfl) rfl ?_
 refine WA.one (i := 10) (by kernel_rfl) ?_
 refine WAi.efNL rfl (EF.storeA rfl rfl rfl rfl) rfl rfl ?_
 rintro ⟨⟩ -
 refine WB.done (by kernel_rfl) ?_
 refine JE.seqN ?_
 refine J.ret ?_
 refine JE.ret rfl (ResL.flat rfl rfl .nil) (fun w hS => ?_)
 exact CN.fin hS (v5, v8, v11) rfl trivial (SubM.row rfl rfl rfl (SubM.row rfl rfl rfl (SubM.row rfl rfl rfl .nil))) (by simp [En.rdb])
theorem l4Copy_c (vf vt vp : Value) (f t pl : List Int) (w : World) (hrf : Rd w vf 1 (f.map iv)) (hrt : Rd w vt 1 (t.map iv)) (hrp : Rd w vp 1 (pl.map iv)) (h1 : f.length ≤ 1048576) (h2 : t.length ≤ 1048576) (h3 : pl.length ≤ 1048576) :
    CN Try.prog 49 [.agg #[vf, vt, vp]] w (Value × Value × Value) (fun _ => True) (fun x => .agg #[x.1, x.2.1, x.2.2]) (fun x => [.row x.1 3 1 (f.map iv), .row x.2.1 3 1 (t.map iv), .row x.2.2 3 1 (pl.map iv)]) := by
 have hl_f : f.length ≤ 9223372036854775807 := (by obtain ⟨_, _, _, hh, _⟩ := hrf.shape; simpa using hh)
 have hl_t : t.length ≤ 9223372036854775807 := (by obtain ⟨_, _, _, hh, _⟩ := hrt.shape; simpa using hh)
 have hl_pl : pl.length ≤ 9223372036854775807 := (by obtain ⟨_, _, _, hh, _⟩ := hrp.shape; simpa using hh)
 refine calls_of_J (mu := (fun _ => False)) (m := [.ro vf 1 (f.map iv), .ro vt 1 (t.map iv), .ro vp 1 (pl.map iv)]) (e := [(0, .agg #[vf, vt, vp])]) Try.func49 rfl rfl (.cons rfl .nil) (((((St.init _ _).ro0 hrp (by decide)).ro0 hrt (by decide)).ro0 hrf (by decide))) ?_
 refine J.seq ?_
 refine J.reg ?_
 refine WL.efS (EF.boxA rfl) rfl rfl ?_
 intro b1 _
 refine WL.efS (EF.allocA) rfl rfl ?_
 intro b2 _
 refine WL.nil ?_
 refine JE.seqN ?_
 refine J.seq ?_
 refine J.anyAll [13] ?_
 refine WA.takeP 1 rfl (RDP.of fun _ => RD.fieldC rfl rfl) rfl (by kernel_rfl) rfl ?_
 refine WA.take 2 rfl (RD.loadC rfl rfl) rfl (by kernel_rfl) rfl ?_
 refine WA.takeP 5 rfl (RDP.of fun _ => RD.fieldC rfl rfl) rfl (by kernel_rfl) rfl ?_
 refine WA.take 6 rfl (RD.loadC rfl rfl) rfl (by kernel_rfl) rfl ?_
 refine WA.takeP 9 rfl (RDP.of fun _ => RD.fieldC rfl rfl) rfl (by kernel_rfl) rfl ?_
 refine WA.take 10 rfl (RD.loadC rfl rfl) rfl (by kernel_rfl) rfl ?_
 refine WA.three (a := 0) (b := 4) (c := 8) (by kernel_rfl) ?_ ?_ ?_
 ·
  refine WAi.efS rfl (by exact EF.build0) rfl rfl (fun _ => SubI.sub) ?_
  intro v3 _
  refine WA.three (a := 3) (b := 4) (c := 8) (by kernel_rfl) ?_ ?_ ?_
  ·
   refine WAi.efS rfl (EF.append rfl rfl (by omega) rfl rfl rfl) rfl rfl (fun _ => SubI.sub) ?_
   intro v6 _
   refine WA.two (i := 4) (j := 8) (by kernel_rfl) ?_ ?_
   ·
    refine WAi.efS rfl (by exact EF.build0) rfl rfl (fun _ => SubI.sub) ?_
    intro v7 _
    refine WA.two (i := 7) (j := 8) (by kernel_rfl) ?_ ?_
    ·
     refine WAi.efS rfl (EF.append rfl rfl (by omega) rfl rfl rfl) rfl rfl (fun _ => SubI.sub) ?_
     intro v10 _
     refine WA.one (i := 8) (by kernel_rfl) ?_
     refine WAi.efS rfl (by exact EF.build0) rfl rfl (fun _ => SubI.sub) ?_
     intro v11 _
     refine WA.one (i := 11) (by kernel_rfl) ?_
     refine WAi.efS rfl (EF.append rfl rfl (by omega) rfl rfl rfl) rfl rfl (fun _ => SubI.sub) ?_
     intro v14 _
     refine WA.takeP 12 rfl (RDP.build (n := 3) (.cons rfl (.cons rfl (.cons rfl .nil))) rfl) rfl (by kernel_rfl) rfl ?_
     refine WA.one (i := 13) (by kernel_rfl) ?_
     refine WAi.efNL rfl (EF.storeA rfl rfl rfl rfl) rfl rfl ?_
     rintro ⟨⟩ -
     refine WB.done (by kernel_rfl) ?_
     refine JE.seqN ?_
     refine J.ret ?_
     refine JE.ret rfl (ResL.flat rfl rfl .nil) (fun w hS => ?_)
     exact CN.fin hS (v6, v10, v14) rfl trivial (SubM.row rfl rfl rfl (SubM.row rfl rfl rfl (SubM.row rfl rfl rfl .nil))) (by simp [En.rdb])
    ·
     refine WAi.efS rfl (by exact EF.build0) rfl rfl (fun _ => SubI.sub) ?_
     intro v11 _
     refine WA.one (i := 7) (by kernel_rfl) ?_
     refine WAi.efS rfl (EF.append rfl rfl (by omega) rfl rfl rfl) rfl rfl (fun _ => SubI.sub) ?_
     intro v10 _
     refine WA.one (i := 11) (by kernel_rfl) ?_
     refine WAi.efS rfl (EF.append rfl rfl (by omega) rfl rfl rfl) rfl rfl (fun _ => SubI.sub) ?_
     intro v14 _
     refine WA.takeP 12 rfl (RDP.build (n := 3) (.cons rfl (.cons rfl (.cons rfl .nil))) rfl) rfl (by kernel_rfl) rfl ?_
     refine WA.one (i := 13) (by kernel_rfl) ?_
     refine WAi.efNL rfl (EF.storeA rfl rfl rfl rfl) rfl rfl ?_
     rintro ⟨⟩ -
     refine WB.done (by kernel_rfl) ?_
     refine JE.seqN ?_
     refine J.ret ?_
     refine JE.ret rfl (ResL.flat rfl rfl .nil) (fun w hS => ?_)
     exact CN.fin hS (v6, v10, v14) rfl trivial (SubM.row rfl rfl rfl (SubM.row rfl rfl rfl (SubM.row rfl rfl rfl .nil))) (by simp [En.rdb])
   ·
    refine WAi.efS rfl (by exact EF.build0) rfl rfl (fun _ => SubI.sub) ?_
    intro v11 _
    refine WA.one (i := 4) (by kernel_rfl) ?_
    refine WAi.efS rfl (by exact EF.build0) rfl rfl (fun _ => SubI.sub) ?_
    intro v7 _
    refine WA.one (i := 7) (by kernel_rfl) ?_
    refine WAi.efS rfl (EF.append rfl rfl (by omega) rfl rfl rfl) rfl rfl (fun _ => SubI.sub) ?_
    intro v10 _
    refine WA.one (i := 11) (by kernel_rfl) ?_
    refine WAi.efS rfl (EF.append rfl rfl (by omega) rfl rfl rfl) rfl rfl (fun _ => SubI.sub) ?_
    intro v14 _
    refine WA.takeP 12 rfl (RDP.build (n := 3) (.cons rfl (.cons rfl (.cons rfl .nil))) rfl) rfl (by kernel_rfl) rfl ?_
    refine WA.one (i := 13) (by kernel_rfl) ?_
    refine WAi.efNL rfl (EF.storeA rfl rfl rfl rfl) rfl rfl ?_
    rintro ⟨⟩ -
    refine WB.done (by kernel_rfl) ?_
    refine JE.seqN ?_
    refine J.ret ?_
    refine JE.ret rfl (ResL.flat rfl rfl .nil) (fun w hS => ?_)
    exact CN.fin hS (v6, v10, v14) rfl trivial (SubM.row rfl rfl rfl (SubM.row rfl rfl rfl (SubM.row rfl rfl rfl .nil))) (by simp [En.rdb])
  ·
   refine WAi.efS rfl (by exact EF.build0) rfl rfl (fun _ => SubI.sub) ?_
   intro v7 _
   refine WA.two (i := 3) (j := 8) (by kernel_rfl) ?_ ?_
   ·
    refine WAi.efS rfl (EF.append rfl rfl (by omega) rfl rfl rfl) rfl rfl (fun _ => SubI.sub) ?_
    intro v6 _
    refine WA.two (i := 7) (j := 8) (by kernel_rfl) ?_ ?_
    ·
     refine WAi.efS rfl (EF.append rfl rfl (by omega) rfl rfl rfl) rfl rfl (fun _ => SubI.sub) ?_
     intro v10 _
     refine WA.one (i := 8) (by kernel_rfl) ?_
     refine WAi.efS rfl (by exact EF.build0) rfl rfl (fun _ => SubI.sub) ?_
     intro v11 _
     refine WA.one (i := 11) (by kernel_rfl) ?_
     refine WAi.efS rfl (EF.append rfl rfl (by omega) rfl rfl rfl) rfl rfl (fun _ => SubI.sub) ?_
     intro v14 _
     refine WA.takeP 12 rfl (RDP.build (n := 3) (.cons rfl (.cons rfl (.cons rfl .nil))) rfl) rfl (by kernel_rfl) rfl ?_
     refine WA.one (i := 13) (by kernel_rfl) ?_
     refine WAi.efNL rfl (EF.storeA rfl rfl rfl rfl) rfl rfl ?_
     rintro ⟨⟩ -
     refine WB.done (by kernel_rfl) ?_
     refine JE.seqN ?_
     refine J.ret ?_
     refine JE.ret rfl (ResL.flat rfl rfl .nil) (fun w hS => ?_)
     exact CN.fin hS (v6, v10, v14) rfl trivial (SubM.row rfl rfl rfl (SubM.row rfl rfl rfl (SubM.row rfl rfl rfl .nil))) (by simp [En.rdb])
    ·
     refine WAi.efS rfl (by exact EF.build0) rfl rfl (fun _ => SubI.sub) ?_
     intro v11 _
     refine WA.one (i := 7) (by kernel_rfl) ?_
     refine WAi.efS rfl (EF.append rfl rfl (by omega) rfl rfl rfl) rfl rfl (fun _ => SubI.sub) ?_
     intro v10 _
     refine WA.one (i := 11) (by kernel_rfl) ?_
     refine WAi.efS rfl (EF.append rfl rfl (by omega) rfl rfl rfl) rfl rfl (fun _ => SubI.sub) ?_
     intro v14 _
     refine WA.takeP 12 rfl (RDP.build (n := 3) (.cons rfl (.cons rfl (.cons rfl .nil))) rfl) rfl (by kernel_rfl) rfl ?_
     refine WA.one (i := 13) (by kernel_rfl) ?_
     refine WAi.efNL rfl (EF.storeA rfl rfl rfl rfl) rfl rfl ?_
     rintro ⟨⟩ -
     refine WB.done (by kernel_rfl) ?_
     refine JE.seqN ?_
     refine J.ret ?_
     refine JE.ret rfl (ResL.flat rfl rfl .nil) (fun w hS => ?_)
     exact CN.fin hS (v6, v10, v14) rfl trivial (SubM.row rfl rfl rfl (SubM.row rfl rfl rfl (SubM.row rfl rfl rfl .nil))) (by simp [En.rdb])
   ·
    refine WAi.efS rfl (by exact EF.build0) rfl rfl (fun _ => SubI.sub) ?_
    intro v11 _
    refine WA.one (i := 3) (by kernel_rfl) ?_
    refine WAi.efS rfl (EF.append rfl rfl (by omega) rfl rfl rfl) rfl rfl (fun _ => SubI.sub) ?_
    intro v6 _
    refine WA.one (i := 7) (by kernel_rfl) ?_
    refine WAi.efS rfl (EF.append rfl rfl (by omega) rfl rfl rfl) rfl rfl (fun _ => SubI.sub) ?_
    intro v10 _
    refine WA.one (i := 11) (by kernel_rfl) ?_
    refine WAi.efS rfl (EF.append rfl rfl (by omega) rfl rfl rfl) rfl rfl (fun _ => SubI.sub) ?_
    intro v14 _
    refine WA.takeP 12 rfl (RDP.build (n := 3) (.cons rfl (.cons rfl (.cons rfl .nil))) rfl) rfl (by kernel_rfl) rfl ?_
    refine WA.one (i := 13) (by kernel_rfl) ?_
    refine WAi.efNL rfl (EF.storeA rfl rfl rfl rfl) rfl rfl ?_
    rintro ⟨⟩ -
    refine WB.done (by kernel_rfl) ?_
    refine JE.seqN ?_
    refine J.ret ?_
    refine JE.ret rfl (ResL.flat rfl rfl .nil) (fun w hS => ?_)
    exact CN.fin hS (v6, v10, v14) rfl trivial (SubM.row rfl rfl rfl (SubM.row rfl rfl rfl (SubM.row rfl rfl rfl .nil))) (by simp [En.rdb])
  ·
   refine WAi.efS rfl (by exact EF.build0) rfl rfl (fun _ => SubI.sub) ?_
   intro v11 _
   refine WA.two (i := 3) (j := 4) (by kernel_rfl) ?_ ?_
   ·
    refine WAi.efS rfl (EF.append rfl rfl (by omega) rfl rfl rfl) rfl rfl (fun _ => SubI.sub) ?_
    intro v6 _
    refine WA.one (i := 4) (by kernel_rfl) ?_
    refine WAi.efS rfl (by exact EF.build0) rfl rfl (fun _ => SubI.sub) ?_
    intro v7 _
    refine WA.one (i := 7) (by kernel_rfl) ?_
    refine WAi.efS rfl (EF.append rfl rfl (by omega) rfl rfl rfl) rfl rfl (fun _ => SubI.sub) ?_
    intro v10 _
    refine WA.one (i := 11) (by kernel_rfl) ?_
    refine WAi.efS rfl (EF.append rfl rfl (by omega) rfl rfl rfl) rfl rfl (fun _ => SubI.sub) ?_
    intro v14 _
    refine WA.takeP 12 rfl (RDP.build (n := 3) (.cons rfl (.cons rfl (.cons rfl .nil))) rfl) rfl (by kernel_rfl) rfl ?_
    refine WA.one (i := 13) (by kernel_rfl) ?_
    refine WAi.efNL rfl (EF.storeA rfl rfl rfl rfl) rfl rfl ?_
    rintro ⟨⟩ -
    refine WB.done (by kernel_rfl) ?_
    refine JE.seqN ?_
    refine J.ret ?_
    refine JE.ret rfl (ResL.flat rfl rfl .nil) (fun w hS => ?_)
    exact CN.fin hS (v6, v10, v14) rfl trivial (SubM.row rfl rfl rfl (SubM.row rfl rfl rfl (SubM.row rfl rfl rfl .nil))) (by simp [En.rdb])
   ·
    refine WAi.efS rfl (by exact EF.build0) rfl rfl (fun _ => SubI.sub) ?_
    intro v7 _
    refine WA.one (i := 3) (by kernel_rfl) ?_
    refine WAi.efS rfl (EF.append rfl rfl (by omega) rfl rfl rfl) rfl rfl (fun _ => SubI.sub) ?_
    intro v6 _
    refine WA.one (i := 7) (by kernel_rfl) ?_
    refine WAi.efS rfl (EF.append rfl rfl (by omega) rfl rfl rfl) rfl rfl (fun _ => SubI.sub) ?_
    intro v10 _
    refine WA.one (i := 11) (by kernel_rfl) ?_
    refine WAi.efS rfl (EF.append rfl rfl (by omega) rfl rfl rfl) rfl rfl (fun _ => SubI.sub) ?_
    intro v14 _
    refine WA.takeP 12 rfl (RDP.build (n := 3) (.cons rfl (.cons rfl (.cons rfl .nil))) rfl) rfl (by kernel_rfl) rfl ?_
    refine WA.one (i := 13) (by kernel_rfl) ?_
    refine WAi.efNL rfl (EF.storeA rfl rfl rfl rfl) rfl rfl ?_
    rintro ⟨⟩ -
    refine WB.done (by kernel_rfl) ?_
    refine JE.seqN ?_
    refine J.ret ?_
    refine JE.ret rfl (ResL.flat rfl rfl .nil) (fun w hS => ?_)
    exact CN.fin hS (v6, v10, v14) rfl trivial (SubM.row rfl rfl rfl (SubM.row rfl rfl rfl (SubM.row rfl rfl rfl .nil))) (by simp [En.rdb])
 ·
  refine WAi.efS rfl (by exact EF.build0) rfl rfl (fun _ => SubI.sub) ?_
  intro v7 _
  refine WA.two (i := 0) (j := 8) (by kernel_rfl) ?_ ?_
  ·
   refine WAi.efS rfl (by exact EF.build0) rfl rfl (fun _ => SubI.sub) ?_
   intro v3 _
   refine WA.two (i := 3) (j := 8) (by kernel_rfl) ?_ ?_
   ·
    refine WAi.efS rfl (EF.append rfl rfl (by omega) rfl rfl rfl) rfl rfl (fun _ => SubI.sub) ?_
    intro v6 _
    refine WA.two (i := 7) (j := 8) (by kernel_rfl) ?_ ?_
    ·
     refine WAi.efS rfl (EF.append rfl rfl (by omega) rfl rfl rfl) rfl rfl (fun _ => SubI.sub) ?_
     intro v10 _
     refine WA.one (i := 8) (by kernel_rfl) ?_
     refine WAi.efS rfl (by exact EF.build0) rfl rfl (fun _ => SubI.sub) ?_
     intro v11 _
     refine WA.one (i := 11) (by kernel_rfl) ?_
     refine WAi.efS rfl (EF.append rfl rfl (by omega) rfl rfl rfl) rfl rfl (fun _ => SubI.sub) ?_
     intro v14 _
     refine WA.takeP 12 rfl (RDP.build (n := 3) (.cons rfl (.cons rfl (.cons rfl .nil))) rfl) rfl (by kernel_rfl) rfl ?_
     refine WA.one (i := 13) (by kernel_rfl) ?_
     refine WAi.efNL rfl (EF.storeA rfl rfl rfl rfl) rfl rfl ?_
     rintro ⟨⟩ -
     refine WB.done (by kernel_rfl) ?_
     refine JE.seqN ?_
     refine J.ret ?_
     refine JE.ret rfl (ResL.flat rfl rfl .nil) (fun w hS => ?_)
     exact CN.fin hS (v6, v10, v14) rfl trivial (SubM.row rfl rfl rfl (SubM.row rfl rfl rfl (SubM.row rfl rfl rfl .nil))) (by simp [En.rdb])
    ·
     refine WAi.efS rfl (by exact EF.build0) rfl rfl (fun _ => SubI.sub) ?_
     intro v11 _
     refine WA.one (i := 7) (by kernel_rfl) ?_
     refine WAi.efS rfl (EF.append rfl rfl (by omega) rfl rfl rfl) rfl rfl (fun _ => SubI.sub) ?_
     intro v10 _
     refine WA.one (i := 11) (by kernel_rfl) ?_
     refine WAi.efS rfl (EF.append rfl rfl (by omega) rfl rfl rfl) rfl rfl (fun _ => SubI.sub) ?_
     intro v14 _
     refine WA.takeP 12 rfl (RDP.build (n := 3) (.cons rfl (.cons rfl (.cons rfl .nil))) rfl) rfl (by kernel_rfl) rfl ?_
     refine WA.one (i := 13) (by kernel_rfl) ?_
     refine WAi.efNL rfl (EF.storeA rfl rfl rfl rfl) rfl rfl ?_
     rintro ⟨⟩ -
     refine WB.done (by kernel_rfl) ?_
     refine JE.seqN ?_
     refine J.ret ?_
     refine JE.ret rfl (ResL.flat rfl rfl .nil) (fun w hS => ?_)
     exact CN.fin hS (v6, v10, v14) rfl trivial (SubM.row rfl rfl rfl (SubM.row rfl rfl rfl (SubM.row rfl rfl rfl .nil))) (by simp [En.rdb])
   ·
    refine WAi.efS rfl (by exact EF.build0) rfl rfl (fun _ => SubI.sub) ?_
    intro v11 _
    refine WA.one (i := 3) (by kernel_rfl) ?_
    refine WAi.efS rfl (EF.append rfl rfl (by omega) rfl rfl rfl) rfl rfl (fun _ => SubI.sub) ?_
    intro v6 _
    refine WA.one (i := 7) (by kernel_rfl) ?_
    refine WAi.efS rfl (EF.append rfl rfl (by omega) rfl rfl rfl) rfl rfl (fun _ => SubI.sub) ?_
    intro v10 _
    refine WA.one (i := 11) (by kernel_rfl) ?_
    refine WAi.efS rfl (EF.append rfl rfl (by omega) rfl rfl rfl) rfl rfl (fun _ => SubI.sub) ?_
    intro v14 _
    refine WA.takeP 12 rfl (RDP.build (n := 3) (.cons rfl (.cons rfl (.cons rfl .nil))) rfl) rfl (by kernel_rfl) rfl ?_
    refine WA.one (i := 13) (by kernel_rfl) ?_
    refine WAi.efNL rfl (EF.storeA rfl rfl rfl rfl) rfl rfl ?_
    rintro ⟨⟩ -
    refine WB.done (by kernel_rfl) ?_
    refine JE.seqN ?_
    refine J.ret ?_
    refine JE.ret rfl (ResL.flat rfl rfl .nil) (fun w hS => ?_)
    exact CN.fin hS (v6, v10, v14) rfl trivial (SubM.row rfl rfl rfl (SubM.row rfl rfl rfl (SubM.row rfl rfl rfl .nil))) (by simp [En.rdb])
  ·
   refine WAi.efS rfl (by exact EF.build0) rfl rfl (fun _ => SubI.sub) ?_
   intro v11 _
   refine WA.one (i := 0) (by kernel_rfl) ?_
   refine WAi.efS rfl (by exact EF.build0) rfl rfl (fun _ => SubI.sub) ?_
   intro v3 _
   refine WA.one (i := 3) (by kernel_rfl) ?_
   refine WAi.efS rfl (EF.append rfl rfl (by omega) rfl rfl rfl) rfl rfl (fun _ => SubI.sub) ?_
   intro v6 _
   refine WA.one (i := 7) (by kernel_rfl) ?_
   refine WAi.efS rfl (EF.append rfl rfl (by omega) rfl rfl rfl) rfl rfl (fun _ => SubI.sub) ?_
   intro v10 _
   refine WA.one (i := 11) (by kernel_rfl) ?_
   refine WAi.efS rfl (EF.append rfl rfl (by omega) rfl rfl rfl) rfl rfl (fun _ => SubI.sub) ?_
   intro v14 _
   refine WA.takeP 12 rfl (RDP.build (n := 3) (.cons rfl (.cons rfl (.cons rfl .nil))) rfl) rfl (by kernel_rfl) rfl ?_
   refine WA.one (i := 13) (by kernel_rfl) ?_
   refine WAi.efNL rfl (EF.storeA rfl rfl rfl rfl) rfl rfl ?_
   rintro ⟨⟩ -
   refine WB.done (by kernel_rfl) ?_
   refine JE.seqN ?_
   refine J.ret ?_
   refine JE.ret rfl (ResL.flat rfl rfl .nil) (fun w hS => ?_)
   exact CN.fin hS (v6, v10, v14) rfl trivial (SubM.row rfl rfl rfl (SubM.row rfl rfl rfl (SubM.row rfl rfl rfl .nil))) (by simp [En.rdb])
 ·
  refine WAi.efS rfl (by exact EF.build0) rfl rfl (fun _ => SubI.sub) ?_
  intro v11 _
  refine WA.two (i := 0) (j := 4) (by kernel_rfl) ?_ ?_
  ·
   refine WAi.efS rfl (by exact EF.build0) rfl rfl (fun _ => SubI.sub) ?_
   intro v3 _
   refine WA.two (i := 3) (j := 4) (by kernel_rfl) ?_ ?_
   ·
    refine WAi.efS rfl (EF.append rfl rfl (by omega) rfl rfl rfl) rfl rfl (fun _ => SubI.sub) ?_
    intro v6 _
    refine WA.one (i := 4) (by kernel_rfl) ?_
    refine WAi.efS rfl (by exact EF.build0) rfl rfl (fun _ => SubI.sub) ?_
    intro v7 _
    refine WA.one (i := 7) (by kernel_rfl) ?_
    refine WAi.efS rfl (EF.append rfl rfl (by omega) rfl rfl rfl) rfl rfl (fun _ => SubI.sub) ?_
    intro v10 _
    refine WA.one (i := 11) (by kernel_rfl) ?_
    refine WAi.efS rfl (EF.append rfl rfl (by omega) rfl rfl rfl) rfl rfl (fun _ => SubI.sub) ?_
    intro v14 _
    refine WA.takeP 12 rfl (RDP.build (n := 3) (.cons rfl (.cons rfl (.cons rfl .nil))) rfl) rfl (by kernel_rfl) rfl ?_
    refine WA.one (i := 13) (by kernel_rfl) ?_
    refine WAi.efNL rfl (EF.storeA rfl rfl rfl rfl) rfl rfl ?_
    rintro ⟨⟩ -
    refine WB.done (by kernel_rfl) ?_
    refine JE.seqN ?_
    refine J.ret ?_
    refine JE.ret rfl (ResL.flat rfl rfl .nil) (fun w hS => ?_)
    exact CN.fin hS (v6, v10, v14) rfl trivial (SubM.row rfl rfl rfl (SubM.row rfl rfl rfl (SubM.row rfl rfl rfl .nil))) (by simp [En.rdb])
   ·
    refine WAi.efS rfl (by exact EF.build0) rfl rfl (fun _ => SubI.sub) ?_
    intro v7 _
    refine WA.one (i := 3) (by kernel_rfl) ?_
    refine WAi.efS rfl (EF.append rfl rfl (by omega) rfl rfl rfl) rfl rfl (fun _ => SubI.sub) ?_
    intro v6 _
    refine WA.one (i := 7) (by kernel_rfl) ?_
    refine WAi.efS rfl (EF.append rfl rfl (by omega) rfl rfl rfl) rfl rfl (fun _ => SubI.sub) ?_
    intro v10 _
    refine WA.one (i := 11) (by kernel_rfl) ?_
    refine WAi.efS rfl (EF.append rfl rfl (by omega) rfl rfl rfl) rfl rfl (fun _ => SubI.sub) ?_
    intro v14 _
    refine WA.takeP 12 rfl (RDP.build (n := 3) (.cons rfl (.cons rfl (.cons rfl .nil))) rfl) rfl (by kernel_rfl) rfl ?_
    refine WA.one (i := 13) (by kernel_rfl) ?_
    refine WAi.efNL rfl (EF.storeA rfl rfl rfl rfl) rfl rfl ?_
    rintro ⟨⟩ -
    refine WB.done (by kernel_rfl) ?_
    refine JE.seqN ?_
    refine J.ret ?_
    refine JE.ret rfl (ResL.flat rfl rfl .nil) (fun w hS => ?_)
    exact CN.fin hS (v6, v10, v14) rfl trivial (SubM.row rfl rfl rfl (SubM.row rfl rfl rfl (SubM.row rfl rfl rfl .nil))) (by simp [En.rdb])
  ·
   refine WAi.efS rfl (by exact EF.build0) rfl rfl (fun _ => SubI.sub) ?_
   intro v7 _
   refine WA.one (i := 0) (by kernel_rfl) ?_
   refine WAi.efS rfl (by exact EF.build0) rfl rfl (fun _ => SubI.sub) ?_
   intro v3 _
   refine WA.one (i := 3) (by kernel_rfl) ?_
   refine WAi.efS rfl (EF.append rfl rfl (by omega) rfl rfl rfl) rfl rfl (fun _ => SubI.sub) ?_
   intro v6 _
   refine WA.one (i := 7) (by kernel_rfl) ?_
   refine WAi.efS rfl (EF.append rfl rfl (by omega) rfl rfl rfl) rfl rfl (fun _ => SubI.sub) ?_
   intro v10 _
   refine WA.one (i := 11) (by kernel_rfl) ?_
   refine WAi.efS rfl (EF.append rfl rfl (by omega) rfl rfl rfl) rfl rfl (fun _ => SubI.sub) ?_
   intro v14 _
   refine WA.takeP 12 rfl (RDP.build (n := 3) (.cons rfl (.cons rfl (.cons rfl .nil))) rfl) rfl (by kernel_rfl) rfl ?_
   refine WA.one (i := 13) (by kernel_rfl) ?_
   refine WAi.efNL rfl (EF.storeA rfl rfl rfl rfl) rfl rfl ?_
   rintro ⟨⟩ -
   refine WB.done (by kernel_rfl) ?_
   refine JE.seqN ?_
   refine J.ret ?_
   refine JE.ret rfl (ResL.flat rfl rfl .nil) (fun w hS => ?_)
   exact CN.fin hS (v6, v10, v14) rfl trivial (SubM.row rfl rfl rfl (SubM.row rfl rfl rfl (SubM.row rfl rfl rfl .nil))) (by simp [En.rdb])
theorem other_c (x : Int × Int) (p : Int) (w : World) (h : p = x.1 ∨ p = x.2) :
    CS Try.prog 67 [.agg (bv x).toArray, .int .i64 p] w (.int .i64 (othB x p)) := by
 refine calls_of_J (mu := (fun _ => False)) (m := []) (e := [(0, .agg (bv x).toArray), (1, .int .i64 p)]) Try.func67 rfl rfl (.cons rfl (.cons rfl .nil)) (St.init _ _) ?_
 refine J.seq ?_
 refine J.reg ?_
 refine WL.efS (EF.boxA rfl) rfl rfl ?_
 intro b2 _
 refine WL.rd (RD.assign rfl) rfl rfl ?_
 refine WL.nil ?_
 refine JE.seqN ?_
 refine J.seq ?_
 refine J.seq ?_
 refine J.reg ?_
 refine WL.rd (RD.fieldC rfl rfl) rfl rfl ?_
 refine WL.rd (RD.loadC rfl rfl) rfl rfl ?_
 refine WL.rd (RD.move rfl) rfl rfl ?_
 refine WL.rd (RD.eql rfl rfl) rfl rfl ?_
 refine WL.nil ?_
 refine JE.seqN ?_
 refine J.condP rfl (fun hc8 => ?_) (fun hc8 => ?_)
 ·
  refine J.seq ?_
  refine J.reg ?_
  refine WL.rd (RD.fieldC rfl rfl) rfl rfl ?_
  refine WL.rd (RD.loadC rfl rfl) rfl rfl ?_
  refine WL.rd (RD.assign rfl) rfl rfl ?_
  refine WL.nil ?_
  refine JE.seqN ?_
  refine J.ret ?_
  refine JE.ret rfl (.tmp rfl .nil) (fun w hS => ?_)
  exact CS.fin hS (by unfold othB; simp only [mkRes]; congr 1; omega)
 ·
  refine J.skip ?_
  refine JE.seqN ?_
  refine J.seq ?_
  refine J.reg ?_
  refine WL.rd (RD.fieldC rfl rfl) rfl rfl ?_
  refine WL.rd (RD.loadC rfl rfl) rfl rfl ?_
  refine WL.rd (RD.assign rfl) rfl rfl ?_
  refine WL.nil ?_
  refine JE.seqN ?_
  refine J.ret ?_
  refine JE.ret rfl (.tmp rfl .nil) (fun w hS => ?_)
  exact CS.fin hS (by unfold othB; simp only [mkRes]; congr 1; omega)
theorem l4Other_c (x : Int × Int) (p : Int) (w : World) (h1 : 0 ≤ x.1 ∧ x.1 ≤ 1000) (h2 : 0 ≤ x.2 ∧ x.2 ≤ 1000) (h3 : 0 ≤ p ∧ p ≤ 1000) :
    CS Try.prog 68 [.agg (bv x).toArray, .int .i64 p] w (.int .i64 (othB x p)) := by
 refine calls_of_J (mu := (fun _ => False)) (m := []) (e := [(0, .agg (bv x).toArray), (1, .int .i64 p)]) Try.func68 rfl rfl (.cons rfl (.cons rfl .nil)) (St.init _ _) ?_
 refine J.seq ?_
 refine J.reg ?_
 refine WL.efS (EF.boxA rfl) rfl rfl ?_
 intro b2 _
 refine WL.rd (RD.assign rfl) rfl rfl ?_
 refine WL.nil ?_
 refine JE.seqN ?_
 refine J.seq ?_
 refine J.reg ?_
 refine WL.rd (RD.fieldC rfl rfl) rfl rfl ?_
 refine WL.rd (RD.loadC rfl rfl) rfl rfl ?_
 refine WL.rd (RD.fieldC rfl rfl) rfl rfl ?_
 refine WL.rd (RD.loadC rfl rfl) rfl rfl ?_
 refine WL.rd (RD.add rfl rfl (by omega) (by omega)) rfl rfl ?_
 refine WL.rd (RD.move rfl) rfl rfl ?_
 refine WL.rd (RD.sub rfl rfl (by omega) (by omega)) rfl rfl ?_
 refine WL.rd (RD.assign rfl) rfl rfl ?_
 refine WL.nil ?_
 refine JE.seqN ?_
 refine J.ret ?_
 refine JE.ret rfl (.tmp rfl .nil) (fun w hS => ?_)
 exact CS.fin hS rfl
theorem moveTo_c (n : Nat) (k : Int) (v : Value) (xs : List (Int × Int)) (bp : Nat) (vf vt vp : Value) (f t pl : List Int) (a b : Int) (w : World) (hn : n ≤ 8) (hk : k ≤ 3) (hxl : xs.length ≤ 1048576) (hp : okP n k xs ⟨f, t, pl⟩) (ha : 0 ≤ a ∧ a < n) (_hb : 0 ≤ b ∧ b < n) (_hab : a ≠ b) :
    CM Try.prog 62 [v, .pointer (some ⟨bp, 0, none⟩), .int .i64 a, .int .i64 b] w [.cells bp 31 [vf, vt, vp], .row vf 3 1 ((f).map iv), .row vt 3 1 ((t).map iv), .row vp 3 1 ((pl).map iv)] [.ro v 2 (xs.map bv)] Unit (fun _ => True) (fun _ => .bool (findP n xs (⟨f, t, pl⟩ : PS) a b).isSome) (fun _x => [.cells bp 31 [vf, vt, vp], .row vf 3 1 (((outP n xs (⟨f, t, pl⟩ : PS) a b).f).map iv), .row vt 3 1 (((outP n xs (⟨f, t, pl⟩ : PS) a b).t).map iv), .row vp 3 1 ((pl).map iv)]) := by
 intro hSt
 have hfl : f.length = n := hp.fl
 have htl : t.length = pl.length := hp.pv.tl
 have hpx : pl.length ≤ xs.length := asc_len hp
 refine calls_of_J (mu := (muOf [.cells bp 31 [vf, vt, vp], .row vf 3 1 ((f).map iv), .row vt 3 1 ((t).map iv), .row vp 3 1 ((pl).map iv)])) (m := [.cells bp 31 [vf, vt, vp], .row vf 3 1 ((f).map iv), .row vt 3 1 ((t).map iv), .row vp 3 1 ((pl).map iv), .ro v 2 (xs.map bv)]) (e := [(0, v), (1, .pointer (some ⟨bp, 0, none⟩)), (2, .int .i64 a), (3, .int .i64 b)]) Try.func62 rfl rfl (.cons rfl (.cons rfl (.cons rfl (.cons rfl .nil)))) (hSt) ?_
 refine J.seq ?_
 refine J.reg ?_
 refine WL.rd (RD.assign rfl) rfl rfl ?_
 refine WL.nil ?_
 refine JE.seqN ?_
 refine J.seq ?_
 refine J.reg ?_
 refine WL.efS (EF.makeMap) rfl rfl ?_
 intro b20 _
 refine WL.rd (RD.move rfl) rfl rfl ?_
 refine WL.efN (EF.mapIns rfl rfl rfl (MapI.empty _ _ _) (by omega) (by omega) (by omega) (by omega) (by omega)) rfl ?_
 rintro ⟨es1, cl1⟩ hM1
 refine WL.rd (RD.move rfl) rfl rfl ?_
 refine WL.rd (RD.assign rfl) rfl rfl ?_
 refine WL.nil ?_
 refine JE.seqN ?_
 refine J.seq ?_
 refine J.reg ?_
 refine WL.rd (RD.move rfl) rfl rfl ?_
 refine WL.efS (EF.build1 rfl) rfl rfl ?_
 intro v24 _
 refine WL.rd (RD.assign rfl) rfl rfl ?_
 refine WL.nil ?_
 refine JE.seqN ?_
 refine J.seq ?_
 refine J.seq ?_
 refine J.reg ?_
 refine WL.rd (RD.assign rfl) rfl rfl ?_
 refine WL.nil ?_
 refine JE.seqN ?_
 refine J.block ?_
 refine J.loop (fun gg ee mm => ∃ (i : Nat), ∃ (u : Value), ∃ (s : FSt), ∃ (es : Array MapEntry), ∃ (cl : Nat), gg = n + 1 - i ∧ ((WF n xs t pl a s) ∧ (i ≤ s.q.length) ∧ (bfsF xs f t pl b (n + 1 - i) i s = findR n xs (⟨f, t, pl⟩ : PS) a b) ∧ (MapI Try.prog 3 3 es cl s.q.length (mapf n s))) ∧ ee = [(9, .map (some b20)), (10, u), (11, .int .i64 (i : Int)), (0, v), (1, .pointer (some ⟨bp, 0, none⟩)), (2, .int .i64 a), (3, .int .i64 b)] ∧ mm = [.obj b20 (.map es cl), .row u 3 1 ((s.q).map iv), .cells bp 31 [vf, vt, vp], .row vf 3 1 ((f).map iv), .row vt 3 1 ((t).map iv), .row vp 3 1 ((pl).map iv), .ro v 2 (xs.map bv)]) _ ⟨0, v24, (s0F n a), es1, cl1, rfl, ?_, rfl, rfl⟩ ?_ ?_ ?_
 · exact ⟨s0F_wf ha, by omega, rfl, by rw [← mapf_s0 ha]; exact hM1⟩
 · exact (Sub.consE rfl (by first | rfl | (congr 1; omega) | (simp; done)) (Sub.consE rfl (by first | rfl | (congr 1; omega) | (simp; done)) (Sub.consE rfl (by first | rfl | (congr 1; omega) | (simp; done)) (Sub.consE rfl (by first | rfl | (congr 1; omega) | (simp; done)) (Sub.consE rfl (by first | rfl | (congr 1; omega) | (simp; done)) (Sub.consE rfl (by first | rfl | (congr 1; omega) | (simp; done)) (Sub.consE rfl (by first | rfl | (congr 1; omega) | (simp; done)) .nil)))))))
 · exact (SubM.obj rfl (SubM.row rfl rfl (by first | rfl | (simp [iv, bv, yv, tv, sv]; done)) (SubM.cells rfl (by first | rfl | (simp; done)) (SubM.row rfl rfl (by first | rfl | (simp [iv, bv, yv, tv, sv]; done)) (SubM.row rfl rfl (by first | rfl | (simp [iv, bv, yv, tv, sv]; done)) (SubM.row rfl rfl (by first | rfl | (simp [iv, bv, yv, tv, sv]; done)) (SubM.ro rfl (by first | rfl | (simp [iv, bv, yv, tv, sv]; done)) .nil)))))))
 ·
  rintro g _ _ ⟨i, u, s, es, cl, rfl, hI, rfl, rfl⟩
  have hqc := hI.1.qc
  refine J.seq ?_
  refine J.seq ?_
  refine J.reg ?_
  refine WL.rd (RD.move rfl) rfl rfl ?_
  refine WL.rd (RD.move rfl) rfl rfl ?_
  refine WL.rd (RD.lenR rfl) rfl rfl ?_
  refine WL.rd (RD.lss rfl rfl) rfl rfl ?_
  refine WL.nil ?_
  refine JE.seqN ?_
  refine J.condP rfl (fun hc28 => ?_) (fun hc28 => ?_)
  ·
   refine J.skip ?_
   refine JE.seqN ?_
   refine J.seq ?_
   refine J.block ?_
   refine J.seq ?_
   refine J.reg ?_
   refine WL.rd (RD.move rfl) rfl rfl ?_
   refine WL.rd (RD.nilP rfl) rfl rfl ?_
   refine WL.rd (RD.fieldC rfl rfl) rfl rfl ?_
   refine WL.rd (RD.loadC rfl rfl) rfl rfl ?_
   refine WL.rd (RD.lenR rfl) rfl rfl ?_
   refine WL.rd (RD.move rfl) rfl rfl ?_
   refine WL.nil ?_
   refine JE.seqN ?_
   refine J.block ?_
   refine J.loop (fun gg ee mm => ∃ (j : Nat), ∃ (u2 : Value), ∃ (s2 : FSt), ∃ (es2 : Array MapEntry), ∃ (cl2 : Nat), gg = pl.length - j ∧ ((WF n xs t pl a s2) ∧ (i < s2.q.length) ∧ (s2.q.getD i default = s.q.getD i default) ∧ (scanF xs f t pl b (s.q.getD i default) (pl.length - j) j s2 = scanF xs f t pl b (s.q.getD i default) pl.length 0 s) ∧ (MapI Try.prog 3 3 es2 cl2 s2.q.length (mapf n s2)) ∧ (j ≤ pl.length)) ∧ ee = [(9, .map (some b20)), (10, u2), (11, .int .i64 (i : Int)), (34, vp), (35, .int .i64 (pl.length : Int)), (36, .int .i64 (j : Int)), (0, v), (1, .pointer (some ⟨bp, 0, none⟩)), (2, .int .i64 a), (3, .int .i64 b)] ∧ mm = [.obj b20 (.map es2 cl2), .row u2 3 1 ((s2.q).map iv), .cells bp 31 [vf, vt, vp], .row vf 3 1 ((f).map iv), .row vt 3 1 ((t).map iv), .row vp 3 1 ((pl).map iv), .ro v 2 (xs.map bv)]) _ ⟨0, u, s, es, cl, rfl, ?_, rfl, rfl⟩ ?_ ?_ ?_
   · exact ⟨hI.1, by omega, rfl, rfl, hI.2.2.2, by omega⟩
   · exact (Sub.consE rfl (by first | rfl | (congr 1; omega) | (simp; done)) (Sub.consE rfl (by first | rfl | (congr 1; omega) | (simp; done)) (Sub.consE rfl (by first | rfl | (congr 1; omega) | (simp; done)) (Sub.consE rfl (by first | rfl | (congr 1; omega) | (simp; done)) (Sub.consE rfl (by first | rfl | (congr 1; omega) | (simp; done)) (Sub.consE rfl (by first | rfl | (congr 1; omega) | (simp; done)) (Sub.consE rfl (by first | rfl | (congr 1; omega) | (simp; done)) (Sub.consE rfl (by first | rfl | (congr 1; omega) | (simp; done)) (Sub.consE rfl (by first | rfl | (congr 1; omega) | (simp; done)) (Sub.consE rfl (by first | rfl | (congr 1; omega) | (simp; done)) .nil))))))))))
   · exact (SubM.obj rfl (SubM.row rfl rfl (by first | rfl | (simp [iv, bv, yv, tv, sv]; done)) (SubM.cells rfl (by first | rfl | (simp; done)) (SubM.row rfl rfl (by first | rfl | (simp [iv, bv, yv, tv, sv]; done)) (SubM.row rfl rfl (by first | rfl | (simp [iv, bv, yv, tv, sv]; done)) (SubM.row rfl rfl (by first | rfl | (simp [iv, bv, yv, tv, sv]; done)) (SubM.ro rfl (by first | rfl | (simp [iv, bv, yv, tv, sv]; done)) .nil)))))))
   ·
    rintro g _ _ ⟨j, u2, s2, es2, cl2, rfl, hJ, rfl, rfl⟩
    have hqc2 := hJ.1.qc
    refine J.seq ?_
    refine J.reg ?_
    refine WL.rd (RD.lss rfl rfl) rfl rfl ?_
    refine WL.nil ?_
    refine JE.seqN ?_
    refine J.seq ?_
    refine J.condP rfl (fun hc37 => ?_) (fun hc37 => ?_)
    ·
     refine J.skip ?_
     refine JE.seqN ?_
     refine J.seq ?_
     refine J.block ?_
     refine J.seq ?_
     refine J.reg ?_
     refine WL.rd (RD.move rfl) rfl rfl ?_
     refine WL.rd (RD.idx rfl rfl (by omega) rfl) rfl rfl ?_
     refine WL.rd (RD.loadE rfl (by omega) rfl) rfl rfl ?_
     refine WL.rd (RD.assign rfl) rfl rfl ?_
     refine WL.rd (RD.assign rfl) rfl rfl ?_
     refine WL.nil ?_
     refine JE.seqN ?_
     refine J.seq ?_
     refine J.seq ?_
     refine J.anyAll [] ?_
     refine WA.takeP 0 rfl (RDP.of fun _ => RD.move rfl) rfl (by kernel_rfl) rfl ?_
     refine WA.takeP 1 rfl (RDP.of fun _ => RD.nilP rfl) rfl (by kernel_rfl) rfl ?_
     refine WA.takeP 2 rfl (RDP.of fun _ => RD.fieldC rfl rfl) rfl (by kernel_rfl) rfl ?_
     refine WA.take 3 rfl (RD.loadC rfl rfl) rfl (by kernel_rfl) rfl ?_
     refine WA.takeP 4 rfl (RDP.of fun _ => RD.move rfl) rfl (by kernel_rfl) rfl ?_
     refine WA.takeP 5 rfl (RDP.idx rfl rfl (by omega) rfl) rfl (by kernel_rfl) rfl ?_
     refine WA.take 6 rfl (RD.loadE rfl (by omega) rfl) rfl (by kernel_rfl) rfl ?_
     refine WA.takeP 7 rfl (RDP.of fun _ => RD.move rfl) rfl (by kernel_rfl) rfl ?_
     refine WA.takeP 8 rfl (RDP.of fun _ => RD.move rfl) rfl (by kernel_rfl) rfl ?_
     refine WA.takeP 9 rfl (RDP.idx rfl rfl (by omega) rfl) rfl (by kernel_rfl) rfl ?_
     refine WA.take 10 rfl (RD.loadE rfl (by omega) rfl) rfl (by kernel_rfl) rfl ?_
     refine WA.takeP 11 rfl (RDP.of fun _ => RD.neq rfl rfl) rfl (by kernel_rfl) rfl ?_
     refine WA.done (by kernel_rfl) ?_
     refine JE.seqN ?_
     refine J.condP rfl (fun hc52 => ?_) (fun hc52 => ?_)
     ·
      have hsk := scan_skip1 (xs := xs) (f := f) (pl := pl) (b := b) (s := s2) hc52 (show 0 < pl.length - j by omega)
      refine J.exit ?_
      refine JE.seqX ?_
      refine JE.blockHit ?_
      refine JE.seqN ?_
      refine J.reg ?_
      refine WL.rd (RD.add rfl rfl (by omega) (by omega)) rfl rfl ?_
      refine WL.rd (RD.move rfl) rfl rfl ?_
      refine WL.nil ?_
      refine JE.cutN ⟨_, ?_, j + 1, u2, s2, es2, cl2, rfl, ?_, rfl, rfl⟩ ?_ ?_
      · omega
      · exact ⟨hJ.1, hJ.2.1, hJ.2.2.1, by rw [← hJ.2.2.2.1, ← hJ.2.2.1, hsk, Nat.sub_sub], hJ.2.2.2.2.1, by omega⟩
      · exact (Sub.consE rfl (by first | rfl | (congr 1; omega) | (simp; done)) (Sub.consE rfl (by first | rfl | (congr 1; omega) | (simp; done)) (Sub.consE rfl (by first | rfl | (congr 1; omega) | (simp; done)) (Sub.consE rfl (by first | rfl | (congr 1; omega) | (simp; done)) (Sub.consE rfl (by first | rfl | (congr 1; omega) | (simp; done)) (Sub.consE rfl (by first | rfl | (congr 1; omega) | (simp; done)) (Sub.consE rfl (by first | rfl | (congr 1; omega) | (simp; done)) (Sub.consE rfl (by first | rfl | (congr 1; omega) | (simp; done)) (Sub.consE rfl (by first | rfl | (congr 1; omega) | (simp; done)) (Sub.consE rfl (by first | rfl | (congr 1; omega) | (simp; done)) .nil))))))))))
      · exact (SubM.obj rfl (SubM.row rfl rfl (by first | rfl | (simp [iv, bv, yv, tv, sv]; done)) (SubM.cells rfl (by first | rfl | (simp; done)) (SubM.row rfl rfl (by first | rfl | (simp [iv, bv, yv, tv, sv]; done)) (SubM.row rfl rfl (by first | rfl | (simp [iv, bv, yv, tv, sv]; done)) (SubM.row rfl rfl (by first | rfl | (simp [iv, bv, yv, tv, sv]; done)) (SubM.ro rfl (by first | rfl | (simp [iv, bv, yv, tv, sv]; done)) .nil)))))))
     ·
      refine J.skip ?_
      refine JE.seqN ?_
      refine J.seq ?_
      have htv := Decidable.not_not.1 hc52
      have hU : (othB (xs.getD (pl.getD j default).toNat default) (s2.q.getD i default)) = othB (brP xs pl j) (t.getD j default) := by rw [htv]; rfl
      have hru := oth_rng hp (j := j) (show j < pl.length by omega)
      simp only at hru
      rw [← hU] at hru
      have hob := hp.pv.ok j (show j < pl.length by omega)
      have hoe : s2.q.getD i default = (xs.getD (pl.getD j default).toNat default).1 ∨ s2.q.getD i default = (xs.getD (pl.getD j default).toNat default).2 := by rw [← htv]; exact hob.2.2.2
      have has := hp.asc j (show j < pl.length by omega)
      simp only at has
      refine J.anyAll [] ?_
      refine WA.takeP 0 rfl (RDP.of fun _ => RD.move rfl) rfl (by kernel_rfl) rfl ?_
      refine WA.takeP 1 rfl (RDP.of fun _ => RD.move rfl) rfl (by kernel_rfl) rfl ?_
      refine WA.takeP 2 rfl (RDP.idx (j := (pl.getD j default).toNat) (hj := ⟨by omega⟩) rfl rfl (by omega) rfl) rfl (by kernel_rfl) rfl ?_
      refine WA.take 3 rfl (RD.loadEA rfl (by omega) rfl) rfl (by kernel_rfl) rfl ?_
      refine WA.takeP 4 rfl (RDP.of fun _ => RD.move rfl) rfl (by kernel_rfl) rfl ?_
      refine WA.takeP 5 rfl (RDP.of fun _ => RD.move rfl) rfl (by kernel_rfl) rfl ?_
      refine WA.takeP 6 rfl (RDP.idx rfl rfl (by omega) rfl) rfl (by kernel_rfl) rfl ?_
      refine WA.take 7 rfl (RD.loadE rfl (by omega) rfl) rfl (by kernel_rfl) rfl ?_
      refine WA.one (i := 8) (by kernel_rfl) ?_
      refine WAi.efS rfl (EF.callS (.cons rfl (.cons rfl .nil)) (fun w hS => other_c _ _ _ (by first | assumption | omega))) rfl rfl (fun _ => SubI.sub) ?_
      rintro ⟨⟩ -
      refine WA.takeP 9 rfl (RDP.of fun _ => RD.assign rfl) rfl (by kernel_rfl) rfl ?_
      refine WA.done (by kernel_rfl) ?_
      refine JE.seqN ?_
      refine J.seq ?_
      refine J.seq ?_
      refine J.reg ?_
      refine WL.rd (RD.move rfl) rfl rfl ?_
      refine WL.rd (RD.move rfl) rfl rfl ?_
      refine WL.rd (RD.mapHas rfl rfl hJ.2.2.2.2.1 (by omega) (by omega)) rfl rfl ?_
      refine WL.rd (RD.move rfl) rfl rfl ?_
      refine WL.rd (RD.extract rfl rfl) rfl rfl ?_
      refine WL.rd (RD.extract rfl rfl) rfl rfl ?_
      refine WL.rd (RD.assign rfl) rfl rfl ?_
      refine WL.rd (RD.assign rfl) rfl rfl ?_
      refine WL.nil ?_
      refine JE.seqN ?_
      refine J.seq ?_
      refine J.reg ?_
      refine WL.rd (RD.move rfl) rfl rfl ?_
      refine WL.nil ?_
      refine JE.seqN ?_
      refine J.cond rfl (fun hc68 => ?_) (fun hc68 => ?_)
      ·
       have hsU : gB s2.sn (othB (brP xs pl j) (s2.q.getD i default)) = true := by show gB s2.sn (othB (xs.getD (pl.getD j default).toNat default) (s2.q.getD i default)) = true; rw [← mapf_isSome (n := n) hru.1 hru.2]; exact hc68
       have hsk := scan_skip2 (xs := xs) (f := f) (pl := pl) (b := b) htv hsU (show 0 < pl.length - j by omega)
       refine J.exit ?_
       refine JE.seqX ?_
       refine JE.blockHit ?_
       refine JE.seqN ?_
       refine J.reg ?_
       refine WL.rd (RD.add rfl rfl (by omega) (by omega)) rfl rfl ?_
       refine WL.rd (RD.move rfl) rfl rfl ?_
       refine WL.nil ?_
       refine JE.cutN ⟨_, ?_, j + 1, u2, s2, es2, cl2, rfl, ?_, rfl, rfl⟩ ?_ ?_
       · omega
       · exact ⟨hJ.1, hJ.2.1, hJ.2.2.1, by rw [← hJ.2.2.2.1, ← hJ.2.2.1, hsk, Nat.sub_sub], hJ.2.2.2.2.1, by omega⟩
       · exact (Sub.consE rfl (by first | rfl | (congr 1; omega) | (simp; done)) (Sub.consE rfl (by first | rfl | (congr 1; omega) | (simp; done)) (Sub.consE rfl (by first | rfl | (congr 1; omega) | (simp; done)) (Sub.consE rfl (by first | rfl | (congr 1; omega) | (simp; done)) (Sub.consE rfl (by first | rfl | (congr 1; omega) | (simp; done)) (Sub.consE rfl (by first | rfl | (congr 1; omega) | (simp; done)) (Sub.consE rfl (by first | rfl | (congr 1; omega) | (simp; done)) (Sub.consE rfl (by first | rfl | (congr 1; omega) | (simp; done)) (Sub.consE rfl (by first | rfl | (congr 1; omega) | (simp; done)) (Sub.consE rfl (by first | rfl | (congr 1; omega) | (simp; done)) .nil))))))))))
       · exact (SubM.obj rfl (SubM.row rfl rfl (by first | rfl | (simp [iv, bv, yv, tv, sv]; done)) (SubM.cells rfl (by first | rfl | (simp; done)) (SubM.row rfl rfl (by first | rfl | (simp [iv, bv, yv, tv, sv]; done)) (SubM.row rfl rfl (by first | rfl | (simp [iv, bv, yv, tv, sv]; done)) (SubM.row rfl rfl (by first | rfl | (simp [iv, bv, yv, tv, sv]; done)) (SubM.ro rfl (by first | rfl | (simp [iv, bv, yv, tv, sv]; done)) .nil)))))))
      ·
       refine J.skip ?_
       refine JE.seqN ?_
       refine J.seq ?_
       have hnU : ¬ gB s2.sn (othB (brP xs pl j) (s2.q.getD i default)) = true := by show ¬ gB s2.sn (othB (xs.getD (pl.getD j default).toNat default) (s2.q.getD i default)) = true; rw [← mapf_isSome (n := n) hru.1 hru.2]; simpa using hc68
       have hmv : t.getD j default ∈ s2.q := by rw [htv]; exact getD_mem' default hJ.2.1
       have hWF2 : WF n xs t pl a (addF s2 (othB (xs.getD (pl.getD j default).toNat default) (s2.q.getD i default)) j) := by have h := add_facts hp hJ.1 (show j < pl.length by omega) hmv (by simp only; rw [htv]; exact hnU); simp only at h; rw [← hU] at h; exact h
       refine J.reg ?_
       refine WL.rd (RD.move rfl) rfl rfl ?_
       refine WL.rd (RD.move rfl) rfl rfl ?_
       refine WL.rd (RD.move rfl) rfl rfl ?_
       refine WL.efN (EF.mapPut rfl rfl rfl hJ.2.2.2.2.1 (by omega) (by omega) (by omega) (by omega) (by omega)) rfl ?_
       rintro ⟨es3, cl3⟩ hM3
       refine WL.nil ?_
       refine JE.seqN ?_
       refine J.seq ?_
       refine J.seq ?_
       have hM4 : MapI Try.prog 3 3 es3 cl3 (s2.q.length + 1) (mapf n (addF s2 (othB (xs.getD (pl.getD j default).toNat default) (s2.q.getD i default)) j)) := by rw [← mapf_add hru.1 hru.2 hJ.1.sl hJ.1.fl]; exact hM3
       have hfU := fv_rng hp hru.1 hru.2
       simp only [gI] at hfU
       have hfa := fv_rng hp ha.1 ha.2
       simp only [gI] at hfa
       refine J.reg ?_
       refine WL.rd (RD.move rfl) rfl rfl ?_
       refine WL.rd (RD.move rfl) rfl rfl ?_
       refine WL.rd (RD.eql rfl rfl) rfl rfl ?_
       refine WL.rd (RD.move rfl) rfl rfl ?_
       refine WL.caseP 75 rfl (fun hg75 => ?_) (fun hg75 => ?_)
       ·
        refine WL.noS rfl rfl ?_
        refine WL.noS rfl rfl ?_
        refine WL.noS rfl rfl ?_
        refine WL.noS rfl rfl ?_
        refine WL.noS rfl rfl ?_
        refine WL.noS rfl rfl ?_
        refine WL.noS rfl rfl ?_
        refine WL.noS rfl rfl ?_
        refine WL.rd (RD.pickT rfl rfl) rfl rfl ?_
        refine WL.nil ?_
        refine JE.seqN ?_
        refine J.condT rfl ?_
        refine J.seq ?_
        refine J.reg ?_
        refine WL.rd (RD.move rfl) rfl rfl ?_
        refine WL.rd (RD.move rfl) rfl rfl ?_
        refine WL.efS (EF.build1 rfl) rfl rfl ?_
        intro v87 _
        refine WL.efS (EF.append rfl rfl (by omega) rfl rfl rfl) rfl rfl ?_
        intro v88 _
        refine WL.rd (RD.assign rfl) rfl rfl ?_
        refine WL.nil ?_
        refine JE.seqN ?_
        refine J.exit ?_
        refine JE.seqX ?_
        refine JE.blockHit ?_
        refine JE.seqN ?_
        refine J.reg ?_
        refine WL.rd (RD.add rfl rfl (by omega) (by omega)) rfl rfl ?_
        refine WL.rd (RD.move rfl) rfl rfl ?_
        refine WL.nil ?_
        refine JE.cutN ⟨_, ?_, j + 1, v88, (addF s2 (othB (xs.getD (pl.getD j default).toNat default) (s2.q.getD i default)) j), es3, cl3, rfl, ?_, rfl, rfl⟩ ?_ ?_
        · omega
        · have hsp := scan_push (xs := xs) (f := f) (pl := pl) (b := b) htv hnU (.inl hg75) (show 0 < pl.length - j by omega); exact ⟨hWF2, (by have := hJ.2.1; unfold addF; rw [List.length_append]; omega), (by unfold addF; rw [getD_app_left _ _ _ _ hJ.2.1]; exact hJ.2.2.1), (by rw [← hJ.2.2.2.1, ← hJ.2.2.1, hsp, Nat.sub_sub]; rfl), (by unfold addF; rw [List.length_append]; exact hM4), by omega⟩
        · exact (Sub.consE rfl (by first | rfl | (congr 1; omega) | (simp; done)) (Sub.consE rfl (by first | rfl | (congr 1; omega) | (simp; done)) (Sub.consE rfl (by first | rfl | (congr 1; omega) | (simp; done)) (Sub.consE rfl (by first | rfl | (congr 1; omega) | (simp; done)) (Sub.consE rfl (by first | rfl | (congr 1; omega) | (simp; done)) (Sub.consE rfl (by first | rfl | (congr 1; omega) | (simp; done)) (Sub.consE rfl (by first | rfl | (congr 1; omega) | (simp; done)) (Sub.consE rfl (by first | rfl | (congr 1; omega) | (simp; done)) (Sub.consE rfl (by first | rfl | (congr 1; omega) | (simp; done)) (Sub.consE rfl (by first | rfl | (congr 1; omega) | (simp; done)) .nil))))))))))
        · exact (SubM.obj rfl (SubM.row rfl rfl (by first | rfl | (simp [iv, bv, yv, tv, sv]; done)) (SubM.cells rfl (by first | rfl | (simp; done)) (SubM.row rfl rfl (by first | rfl | (simp [iv, bv, yv, tv, sv]; done)) (SubM.row rfl rfl (by first | rfl | (simp [iv, bv, yv, tv, sv]; done)) (SubM.row rfl rfl (by first | rfl | (simp [iv, bv, yv, tv, sv]; done)) (SubM.ro rfl (by first | rfl | (simp [iv, bv, yv, tv, sv]; done)) .nil)))))))
       ·
        refine WL.rd (RD.move rfl) rfl rfl ?_
        refine WL.rd (RD.nilP rfl) rfl rfl ?_
        refine WL.rd (RD.fieldC rfl rfl) rfl rfl ?_
        refine WL.rd (RD.loadC rfl rfl) rfl rfl ?_
        refine WL.rd (RD.move rfl) rfl rfl ?_
        refine WL.rd (RD.idx (j := (othB (xs.getD (pl.getD j default).toNat default) (s2.q.getD i default)).toNat) (hj := ⟨by omega⟩) rfl rfl (by omega) rfl) rfl rfl ?_
        refine WL.rd (RD.loadE rfl (by omega) rfl) rfl rfl ?_
        refine WL.rd (RD.eql rfl rfl) rfl rfl ?_
        refine WL.rd (RD.pickF rfl rfl) rfl rfl ?_
        refine WL.nil ?_
        refine JE.seqN ?_
        refine J.condP rfl (fun hc84 => ?_) (fun hc84 => ?_)
        ·
         refine J.seq ?_
         refine J.reg ?_
         refine WL.rd (RD.move rfl) rfl rfl ?_
         refine WL.rd (RD.move rfl) rfl rfl ?_
         refine WL.efS (EF.build1 rfl) rfl rfl ?_
         intro v87 _
         refine WL.efS (EF.append rfl rfl (by omega) rfl rfl rfl) rfl rfl ?_
         intro v88 _
         refine WL.rd (RD.assign rfl) rfl rfl ?_
         refine WL.nil ?_
         refine JE.seqN ?_
         refine J.exit ?_
         refine JE.seqX ?_
         refine JE.blockHit ?_
         refine JE.seqN ?_
         refine J.reg ?_
         refine WL.rd (RD.add rfl rfl (by omega) (by omega)) rfl rfl ?_
         refine WL.rd (RD.move rfl) rfl rfl ?_
         refine WL.nil ?_
         refine JE.cutN ⟨_, ?_, j + 1, v88, (addF s2 (othB (xs.getD (pl.getD j default).toNat default) (s2.q.getD i default)) j), es3, cl3, rfl, ?_, rfl, rfl⟩ ?_ ?_
         · omega
         · have hsp := scan_push (xs := xs) (f := f) (pl := pl) (b := b) htv hnU (.inr (by show f.getD _ default ≤ 0; exact Int.le_of_eq hc84)) (show 0 < pl.length - j by omega); exact ⟨hWF2, (by have := hJ.2.1; unfold addF; rw [List.length_append]; omega), (by unfold addF; rw [getD_app_left _ _ _ _ hJ.2.1]; exact hJ.2.2.1), (by rw [← hJ.2.2.2.1, ← hJ.2.2.1, hsp, Nat.sub_sub]; rfl), (by unfold addF; rw [List.length_append]; exact hM4), by omega⟩
         · exact (Sub.consE rfl (by first | rfl | (congr 1; omega) | (simp; done)) (Sub.consE rfl (by first | rfl | (congr 1; omega) | (simp; done)) (Sub.consE rfl (by first | rfl | (congr 1; omega) | (simp; done)) (Sub.consE rfl (by first | rfl | (congr 1; omega) | (simp; done)) (Sub.consE rfl (by first | rfl | (congr 1; omega) | (simp; done)) (Sub.consE rfl (by first | rfl | (congr 1; omega) | (simp; done)) (Sub.consE rfl (by first | rfl | (congr 1; omega) | (simp; done)) (Sub.consE rfl (by first | rfl | (congr 1; omega) | (simp; done)) (Sub.consE rfl (by first | rfl | (congr 1; omega) | (simp; done)) (Sub.consE rfl (by first | rfl | (congr 1; omega) | (simp; done)) .nil))))))))))
         · exact (SubM.obj rfl (SubM.row rfl rfl (by first | rfl | (simp [iv, bv, yv, tv, sv]; done)) (SubM.cells rfl (by first | rfl | (simp; done)) (SubM.row rfl rfl (by first | rfl | (simp [iv, bv, yv, tv, sv]; done)) (SubM.row rfl rfl (by first | rfl | (simp [iv, bv, yv, tv, sv]; done)) (SubM.row rfl rfl (by first | rfl | (simp [iv, bv, yv, tv, sv]; done)) (SubM.ro rfl (by first | rfl | (simp [iv, bv, yv, tv, sv]; done)) .nil)))))))
        ·
         refine J.skip ?_
         refine JE.seqN ?_
         refine J.seq ?_
         have hsf := scan_found (xs := xs) (f := f) (pl := pl) (b := b) htv hnU hg75 (show 0 < gI f (othB (xs.getD (pl.getD j default).toNat default) (s2.q.getD i default)) by unfold gI; omega) (show 0 < pl.length - j by omega)
         have hfp := found_path hp hWF2
         rw [lastQ_add] at hfp
         have hfr : (f.set (othB (xs.getD (pl.getD j default).toNat default) (s2.q.getD i default)).toNat (f.getD (othB (xs.getD (pl.getD j default).toNat default) (s2.q.getD i default)).toNat default - 1)).getD a.toNat default ≤ 1000 ∧ -1000 ≤ (f.set (othB (xs.getD (pl.getD j default).toNat default) (s2.q.getD i default)).toNat (f.getD (othB (xs.getD (pl.getD j default).toNat default) (s2.q.getD i default)).toNat default - 1)).getD a.toNat default := by rcases Classical.em ((othB (xs.getD (pl.getD j default).toNat default) (s2.q.getD i default)).toNat = a.toNat) with he | he; (rw [← he, getD_set_eq _ _ _ _ (by omega)]; omega); (rw [getD_set_ne _ _ _ _ _ he]; omega)
         refine J.reg ?_
         refine WL.rd (RD.move rfl) rfl rfl ?_
         refine WL.rd (RD.nilP rfl) rfl rfl ?_
         refine WL.rd (RD.fieldC rfl rfl) rfl rfl ?_
         refine WL.rd (RD.loadC rfl rfl) rfl rfl ?_
         refine WL.rd (RD.move rfl) rfl rfl ?_
         refine WL.rd (RD.idx (j := (othB (xs.getD (pl.getD j default).toNat default) (s2.q.getD i default)).toNat) (hj := ⟨by omega⟩) rfl rfl (by omega) rfl) rfl rfl ?_
         refine WL.rd (RD.loadE rfl (by omega) rfl) rfl rfl ?_
         refine WL.rd (RD.sub rfl rfl (by omega) (by omega)) rfl rfl ?_
         refine WL.rd (RD.idx (j := (othB (xs.getD (pl.getD j default).toNat default) (s2.q.getD i default)).toNat) (hj := ⟨by omega⟩) rfl rfl (by omega) rfl) rfl rfl ?_
         refine WL.efN (EF.storeI rfl rfl (by omega) rfl rfl) rfl ?_
         rintro ⟨⟩ -
         refine WL.nil ?_
         refine JE.seqN ?_
         refine J.seq ?_
         refine J.reg ?_
         refine WL.rd (RD.move rfl) rfl rfl ?_
         refine WL.rd (RD.nilP rfl) rfl rfl ?_
         refine WL.rd (RD.fieldC rfl rfl) rfl rfl ?_
         refine WL.rd (RD.loadC rfl rfl) rfl rfl ?_
         refine WL.rd (RD.move rfl) rfl rfl ?_
         refine WL.rd (RD.idx (j := a.toNat) (hj := ⟨by omega⟩) rfl rfl (by omega) rfl) rfl rfl ?_
         refine WL.rd (RD.loadE rfl (by omega) rfl) rfl rfl ?_
         refine WL.rd (RD.add rfl rfl (by omega) (by omega)) rfl rfl ?_
         refine WL.rd (RD.idx (j := a.toNat) (hj := ⟨by omega⟩) rfl rfl (by omega) rfl) rfl rfl ?_
         refine WL.efN (EF.storeI rfl rfl (by omega) rfl rfl) rfl ?_
         rintro ⟨⟩ -
         refine WL.nil ?_
         refine JE.seqN ?_
         refine J.seq ?_
         refine J.seq ?_
         refine J.reg ?_
         refine WL.rd (RD.move rfl) rfl rfl ?_
         refine WL.rd (RD.assign rfl) rfl rfl ?_
         refine WL.nil ?_
         refine JE.seqN ?_
         refine J.block ?_
         refine J.loop (fun gg ee mm => ∃ (av : Int), ∃ (tc : List Int), ∃ (ps : List (Nat × Int)), gg = ps.length ∧ ((isPath n xs pl a (addF s2 (othB (xs.getD (pl.getD j default).toNat default) (s2.q.getD i default)) j).fr tc av ps) ∧ (tc.length = pl.length) ∧ (flipP tc av ps = flipP t (othB (xs.getD (pl.getD j default).toNat default) (s2.q.getD i default)) (pathF a (addF s2 (othB (xs.getD (pl.getD j default).toNat default) (s2.q.getD i default)) j).fr t n (othB (xs.getD (pl.getD j default).toNat default) (s2.q.getD i default)))) ∧ (av ∈ (addF s2 (othB (xs.getD (pl.getD j default).toNat default) (s2.q.getD i default)) j).q) ∧ (∀ e ∈ ps, e.2 ∈ (addF s2 (othB (xs.getD (pl.getD j default).toNat default) (s2.q.getD i default)) j).q)) ∧ ee = [(9, .map (some b20)), (17, .int .i64 av), (1, .pointer (some ⟨bp, 0, none⟩)), (2, .int .i64 a)] ∧ mm = [.obj b20 (.map es3 cl3), .row vf 3 1 ((moveF f (othB (xs.getD (pl.getD j default).toNat default) (s2.q.getD i default)) a).map iv), .row vt 3 1 ((tc).map iv), .cells bp 31 [vf, vt, vp], .row vp 3 1 ((pl).map iv), .ro v 2 (xs.map bv)]) _ ⟨(othB (xs.getD (pl.getD j default).toNat default) (s2.q.getD i default)), t, (pathF a (addF s2 (othB (xs.getD (pl.getD j default).toNat default) (s2.q.getD i default)) j).fr t n (othB (xs.getD (pl.getD j default).toNat default) (s2.q.getD i default))), rfl, ?_, rfl, rfl⟩ ?_ ?_ ?_
         · exact ⟨hfp.1, by omega, rfl, hfp.2.2, hfp.2.1⟩
         · exact (Sub.consE rfl (by first | rfl | (congr 1; omega) | (simp; done)) (Sub.consE rfl (by first | rfl | (congr 1; omega) | (simp; done)) (Sub.consE rfl (by first | rfl | (congr 1; omega) | (simp; done)) (Sub.consE rfl (by first | rfl | (congr 1; omega) | (simp; done)) .nil))))
         · exact (SubM.obj rfl (SubM.row rfl rfl (by first | rfl | (simp [iv, bv, yv, tv, sv]; done)) (SubM.row rfl rfl (by first | rfl | (simp [iv, bv, yv, tv, sv]; done)) (SubM.cells rfl (by first | rfl | (simp; done)) (SubM.row rfl rfl (by first | rfl | (simp [iv, bv, yv, tv, sv]; done)) (SubM.ro rfl (by first | rfl | (simp [iv, bv, yv, tv, sv]; done)) .nil))))))
         ·
          rintro g _ _ ⟨av, tc, ps, rfl, hP, rfl, rfl⟩
          refine J.seq ?_
          refine J.seq ?_
          refine J.reg ?_
          refine WL.rd (RD.move rfl) rfl rfl ?_
          refine WL.rd (RD.move rfl) rfl rfl ?_
          refine WL.rd (RD.neq rfl rfl) rfl rfl ?_
          refine WL.nil ?_
          refine JE.seqN ?_
          refine J.condP rfl (fun hc110 => ?_) (fun hc110 => ?_)
          ·
           refine J.skip ?_
           refine JE.seqN ?_
           refine J.block ?_
           refine J.seq ?_
           obtain ⟨kk, w', ps', hps, q0, q1, q2, q3, q4, q5, q6, q7, q8⟩ := isPath_step hP.1 (by exact hc110)
           subst hps
           have hget : (mapf n (addF s2 (othB (xs.getD (pl.getD j default).toNat default) (s2.q.getD i default)) j) av).getD 0 = (kk : Int) := by rw [mapf_some q0 q1 ((hWF2.qs av).1 hP.2.2.2.1).2.2]; exact q2
           refine J.reg ?_
           refine WL.rd (RD.move rfl) rfl rfl ?_
           refine WL.rd (RD.move rfl) rfl rfl ?_
           refine WL.rd (RD.mapGet rfl rfl hM4 (by omega) (by omega)) rfl rfl ?_
           refine WL.say 113 (.int .i64 (kk : Int)) rfl (by rw [hget]) ?_
           refine WL.rd (RD.assign rfl) rfl rfl ?_
           refine WL.nil ?_
           refine JE.seqN ?_
           refine J.seq ?_
           have htc := hP.2.1
           refine J.reg ?_
           refine WL.rd (RD.move rfl) rfl rfl ?_
           refine WL.rd (RD.nilP rfl) rfl rfl ?_
           refine WL.rd (RD.fieldC rfl rfl) rfl rfl ?_
           refine WL.rd (RD.loadC rfl rfl) rfl rfl ?_
           refine WL.rd (RD.move rfl) rfl rfl ?_
           refine WL.rd (RD.idx rfl rfl (by omega) rfl) rfl rfl ?_
           refine WL.rd (RD.loadE rfl (by omega) rfl) rfl rfl ?_
           refine WL.rd (RD.assign rfl) rfl rfl ?_
           refine WL.nil ?_
           refine JE.seqN ?_
           refine J.seq ?_
           refine J.reg ?_
           refine WL.rd (RD.move rfl) rfl rfl ?_
           refine WL.rd (RD.nilP rfl) rfl rfl ?_
           refine WL.rd (RD.fieldC rfl rfl) rfl rfl ?_
           refine WL.rd (RD.loadC rfl rfl) rfl rfl ?_
           refine WL.rd (RD.move rfl) rfl rfl ?_
           refine WL.rd (RD.move rfl) rfl rfl ?_
           refine WL.rd (RD.idx rfl rfl (by omega) rfl) rfl rfl ?_
           refine WL.efN (EF.storeI rfl rfl (by omega) rfl rfl) rfl ?_
           rintro ⟨⟩ -
           refine WL.nil ?_
           refine JE.seqN ?_
           refine J.reg ?_
           refine WL.rd (RD.move rfl) rfl rfl ?_
           refine WL.rd (RD.assign rfl) rfl rfl ?_
           refine WL.nil ?_
           refine JE.blockN ?_
           refine JE.cutN ⟨_, ?_, (tc.getD kk default), (tc.set kk av), ps', rfl, ?_, rfl, rfl⟩ ?_ ?_
           · simp
           · exact ⟨by rw [q4]; exact q7, by rw [List.length_set]; exact htc, by rw [← hP.2.2.1, q8, q4], by rw [q4]; exact hP.2.2.2.2 (kk, w') (by simp), fun e he => hP.2.2.2.2 e (by simp [he])⟩
           · exact (Sub.consE rfl (by first | rfl | (congr 1; omega) | (simp; done)) (Sub.consE rfl (by first | rfl | (congr 1; omega) | (simp; done)) (Sub.consE rfl (by first | rfl | (congr 1; omega) | (simp; done)) (Sub.consE rfl (by first | rfl | (congr 1; omega) | (simp; done)) .nil))))
           · exact (SubM.obj rfl (SubM.row rfl rfl (by first | rfl | (simp [iv, bv, yv, tv, sv]; done)) (SubM.row rfl rfl (by first | rfl | (simp [iv, bv, yv, tv, sv]; done)) (SubM.cells rfl (by first | rfl | (simp; done)) (SubM.row rfl rfl (by first | rfl | (simp [iv, bv, yv, tv, sv]; done)) (SubM.ro rfl (by first | rfl | (simp [iv, bv, yv, tv, sv]; done)) .nil))))))
          ·
           refine J.exit ?_
           refine JE.seqX ?_
           refine JE.cutX ?_
           refine JE.blockHit ?_
           refine JE.seqN ?_
           refine J.seq ?_
           refine J.reg ?_
           refine WL.rd (RD.assign rfl) rfl rfl ?_
           refine WL.nil ?_
           refine JE.seqN ?_
           refine J.ret ?_
           refine JE.ret rfl (.tmp rfl .nil) (fun w hS => ?_)
           have hav : av = a := by exact Decidable.not_not.1 hc110
           have hps := isPath_end (hav ▸ hP.1)
           have hT := hP.2.2.1
           rw [hps] at hT
           have hfd : findP n xs (⟨f, t, pl⟩ : PS) a b = some (shiftP n (⟨f, t, pl⟩ : PS) (addF s2 (othB (xs.getD (pl.getD j default).toNat default) (s2.q.getD i default)) j) a) := find_hit (by rw [← hI.2.2.1]; exact bfs_found (by omega) (by rw [← hJ.2.2.2.1, ← hJ.2.2.1]; exact hsf) (by omega))
           have ho : (outP n xs (⟨f, t, pl⟩ : PS) a b) = shiftP n (⟨f, t, pl⟩ : PS) (addF s2 (othB (xs.getD (pl.getD j default).toNat default) (s2.q.getD i default)) j) a := by unfold outP; rw [hfd]; rfl
           exact CM.fin hS () (by rw [hfd]; rfl) trivial (SubM.cells rfl rfl (SubM.row rfl rfl (by rw [ho]; unfold shiftP; rw [lastQ_add]) (SubM.row rfl rfl (by rw [ho]; unfold shiftP; rw [lastQ_add, ← hT]; rfl) (SubM.row rfl rfl rfl .nil)))) (by simp [En.rdb])
    ·
     refine J.exit ?_
     refine JE.seqX ?_
     refine JE.cutX ?_
     refine JE.blockHit ?_
     refine JE.blockN ?_
     refine JE.seqN ?_
     refine J.reg ?_
     refine WL.rd (RD.move rfl) rfl rfl ?_
     refine WL.rd (RD.add rfl rfl (by omega) (by omega)) rfl rfl ?_
     refine WL.rd (RD.assign rfl) rfl rfl ?_
     refine WL.nil ?_
     refine JE.cutN ⟨_, ?_, i + 1, u2, s2, es2, cl2, rfl, ?_, rfl, rfl⟩ ?_ ?_
     · omega
     · have hse : scanF xs f t pl b (s.q.getD i default) pl.length 0 s = (s2, false) := (by rw [← hJ.2.2.2.1, show pl.length - j = 0 by omega]; rfl); exact ⟨hJ.1, by have := hJ.2.1; omega, by rw [← hI.2.2.1, bfs_next (by omega) hse (by omega), Nat.sub_sub], hJ.2.2.2.2.1⟩
     · exact (Sub.consE rfl (by first | rfl | (congr 1; omega) | (simp; done)) (Sub.consE rfl (by first | rfl | (congr 1; omega) | (simp; done)) (Sub.consE rfl (by first | rfl | (congr 1; omega) | (simp; done)) (Sub.consE rfl (by first | rfl | (congr 1; omega) | (simp; done)) (Sub.consE rfl (by first | rfl | (congr 1; omega) | (simp; done)) (Sub.consE rfl (by first | rfl | (congr 1; omega) | (simp; done)) (Sub.consE rfl (by first | rfl | (congr 1; omega) | (simp; done)) .nil)))))))
     · exact (SubM.obj rfl (SubM.row rfl rfl (by first | rfl | (simp [iv, bv, yv, tv, sv]; done)) (SubM.cells rfl (by first | rfl | (simp; done)) (SubM.row rfl rfl (by first | rfl | (simp [iv, bv, yv, tv, sv]; done)) (SubM.row rfl rfl (by first | rfl | (simp [iv, bv, yv, tv, sv]; done)) (SubM.row rfl rfl (by first | rfl | (simp [iv, bv, yv, tv, sv]; done)) (SubM.ro rfl (by first | rfl | (simp [iv, bv, yv, tv, sv]; done)) .nil)))))))
  ·
   refine J.exit ?_
   refine JE.seqX ?_
   refine JE.cutX ?_
   refine JE.blockHit ?_
   refine JE.seqN ?_
   refine J.seq ?_
   refine J.reg ?_
   refine WL.rd (RD.assign rfl) rfl rfl ?_
   refine WL.nil ?_
   refine JE.seqN ?_
   refine J.ret ?_
   refine JE.ret rfl (.tmp rfl .nil) (fun w hS => ?_)
   have hfd : findP n xs (⟨f, t, pl⟩ : PS) a b = none := find_miss (s := s) (by rw [← hI.2.2.1]; exact bfs_end (by omega) (by omega))
   have ho := out_none hfd
   exact CM.fin hS () (by rw [hfd]; rfl) trivial (SubM.cells rfl rfl (SubM.row rfl rfl (by rw [ho]) (SubM.row rfl rfl (by rw [ho]) (SubM.row rfl rfl rfl .nil)))) (by simp [En.rdb])

end Go.Proofs.Ytpojkjabngkfgaa
