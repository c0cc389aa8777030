/- Contracts of functions of the program, each walked once; written by a program of our own. -/
import Derived.Test.YtoanccfpnbmmcaaFa
namespace Go.Proofs.Ytoanccfpnbmmcaa
open Go Go.RowKit
set_option maxRecDepth 4000

theorem law_c (v : Value) (us : List Value) (w : World) (hr : Rd w v 1 (us.map uv)) (hb : ∀ u ∈ us, ∃ xs : List Int, Rd w u 1 (xs.map iv) ∧ ∀ a ∈ xs, InI64 a) :
    CS Try.prog 3 [v] w (.bool true) := by
 obtain ⟨xss, hR, hi⟩ := rows_of hr hb
 have hul := hR.len
 have hl_us : us.length ≤ 9223372036854775807 := (by obtain ⟨_, _, _, hh, _⟩ := hR.rd.shape; simpa using hh)
 refine calls_of_J (mu := (fun _ => False)) (m := [.ro v 1 (us.map uv)]) (e := [(0, v)]) Try.func3 rfl rfl (.cons rfl .nil) (((St.init _ _).ro0 hR.rd (by decide))) ?_
 refine J.seq ?_
 refine J.reg ?_
 refine WL.rd (RD.assign rfl) rfl rfl ?_
 refine WL.nil ?_
 refine JE.seqN ?_
 refine J.seq ?_
 refine J.reg ?_
 refine WL.rd (RD.assign rfl) rfl rfl ?_
 refine WL.nil ?_
 refine JE.seqN ?_
 refine J.seq ?_
 refine J.reg ?_
 refine WL.rd (RD.move rfl) rfl rfl ?_
 refine WL.rd (RD.move rfl) rfl rfl ?_
 refine WL.efS (EF.callS (.cons rfl (.cons rfl .nil)) (fun w hS => szIntSS_c _ _ _ _ (hR.keep hS (fun _ => id)) _ (by omega))) rfl rfl ?_
 rintro ⟨⟩ -
 refine WL.rd (RD.assign rfl) rfl rfl ?_
 refine WL.nil ?_
 refine JE.seqN ?_
 refine J.seq ?_
 refine J.seq ?_
 refine J.reg ?_
 refine WL.rd (RD.move rfl) rfl rfl ?_
 refine WL.rd (RD.lss rfl rfl) rfl rfl ?_
 refine WL.nil ?_
 refine JE.seqN ?_
 refine J.condP rfl (fun hc11 => ?_) (fun hc11 => ?_)
 ·
  refine J.seq ?_
  refine J.reg ?_
  refine WL.rd (RD.assign rfl) rfl rfl ?_
  refine WL.nil ?_
  refine JE.seqN ?_
  refine J.ret ?_
  refine JE.ret rfl (.tmp rfl .nil) (fun w hS => ?_)
  exact CS.fin hS (by simp_all [mkRes])
 ·
  obtain ⟨hz, hy⟩ := szss_nn hc11
  refine J.skip ?_
  refine JE.seqN ?_
  refine J.seq ?_
  refine J.reg ?_
  refine WL.rd (RD.move rfl) rfl rfl ?_
  refine WL.efS (EF.callN (.cons rfl .nil) (fun w hS => toIntSS_c _ _ _ _ (hR.keep hS (fun _ => id)) (by omega) (by omega))) rfl rfl ?_
  rintro ⟨vs13, v13⟩ hv13
  refine WL.efS (EF.callS (.cons rfl .nil) (fun w hS => sFormatSets_c _ vs13 xss _ (rdss_own (TI := 3) hS (by assumption)) hi (by omega) (by omega))) rfl rfl ?_
  rintro ⟨⟩ -
  refine WL.rd (RD.assign rfl) rfl rfl ?_
  refine WL.nil ?_
  refine JE.seqN ?_
  refine J.seq ?_
  refine J.reg ?_
  refine WL.rd (RD.move rfl) rfl rfl ?_
  refine WL.efS (EF.callN (.cons rfl .nil) (fun w hS => toIntSS_c _ _ _ _ (hR.keep hS (fun _ => id)) (by omega) (by omega))) rfl rfl ?_
  rintro ⟨vs16, v16⟩ hv16
  refine WL.rd (RD.assign rfl) rfl rfl ?_
  refine WL.nil ?_
  refine JE.seqN ?_
  refine J.seq ?_
  refine J.reg ?_
  refine WL.rd (RD.move rfl) rfl rfl ?_
  refine WL.efS (EF.callS (.cons rfl .nil) (fun w hS => iFormatSets_c _ vs16 xss _ (rdss_own (TI := 3) hS (by assumption)) hi (by omega) (by omega))) rfl rfl ?_
  rintro ⟨⟩ -
  refine WL.rd (RD.assign rfl) rfl rfl ?_
  refine WL.nil ?_
  refine JE.seqN ?_
  refine J.seq ?_
  refine J.seq ?_
  refine J.reg ?_
  refine WL.rd (RD.move rfl) rfl rfl ?_
  refine WL.rd (RD.move rfl) rfl rfl ?_
  refine WL.rd (RD.neqS rfl rfl) rfl rfl ?_
  refine WL.nil ?_
  refine JE.seqN ?_
  refine J.condP rfl (fun hc21 => ?_) (fun hc21 => ?_)
  ·
   refine J.seq ?_
   refine J.reg ?_
   refine WL.rd (RD.assign rfl) rfl rfl ?_
   refine WL.nil ?_
   refine JE.seqN ?_
   refine J.ret ?_
   refine JE.ret rfl (.tmp rfl .nil) (fun w hS => ?_)
   exact CS.fin hS (by simp_all)
  ·
   refine J.skip ?_
   refine JE.seqN ?_
   refine J.seq ?_
   refine J.seq ?_
   refine J.reg ?_
   refine WL.rd (RD.move rfl) rfl rfl ?_
   refine WL.rd (RD.move rfl) rfl rfl ?_
   refine WL.efS (EF.callN (.cons rfl .nil) (fun w hS => toIntSS_c _ _ _ _ (hR.keep hS (fun _ => id)) (by omega) (by omega))) rfl rfl ?_
   rintro ⟨vs24, v24⟩ hv24
   refine WL.efS (EF.callS (.cons rfl (.cons rfl .nil)) (fun w hS => eqIntSS_c _ _ vs16 vs24 xss xss _ (rdss_own (TI := 3) hS (by assumption)) (rdss_own (TI := 3) hS (by assumption)))) rfl rfl ?_
   rintro ⟨⟩ -
   refine WL.rd (RD.notP rfl) rfl rfl ?_
   refine WL.nil ?_
   refine JE.seqN ?_
   refine J.condP rfl (fun hc26 => ?_) (fun hc26 => ?_)
   ·
    refine J.seq ?_
    refine J.reg ?_
    refine WL.rd (RD.assign rfl) rfl rfl ?_
    refine WL.nil ?_
    refine JE.seqN ?_
    refine J.ret ?_
    refine JE.ret rfl (.tmp rfl .nil) (fun w hS => ?_)
    exact CS.fin hS (by simp_all)
   ·
    refine J.skip ?_
    refine JE.seqN ?_
    refine J.seq ?_
    refine J.reg ?_
    refine WL.rd (RD.assign rfl) rfl rfl ?_
    refine WL.nil ?_
    refine JE.seqN ?_
    refine J.ret ?_
    refine JE.ret rfl (.tmp rfl .nil) (fun w hS => ?_)
    exact CS.fin hS (by simp_all [mkRes])

end Go.Proofs.Ytoanccfpnbmmcaa
