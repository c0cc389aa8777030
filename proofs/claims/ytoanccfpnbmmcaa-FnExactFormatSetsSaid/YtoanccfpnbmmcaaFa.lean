/- Contracts of functions of the program, each walked once; written by a program of our own. -/
import Derived.Test.YtoanccfpnbmmcaaCg
import Derived.Test.YtoanccfpnbmmcaaGa
import Derived.Test.YtoanccfpnbmmcaaMn
import Derived.Test.YtoanccfpnbmmcaaSq
import Derived.Test.YtoanccfpnbmmcaaMs
namespace Go.Proofs.Ytoanccfpnbmmcaa
open Go Go.RowKit
set_option maxRecDepth 4000

theorem szIntSS_c (v : Value) (us : List Value) (xss : List (List Int)) (w : World) (hR : RdSS w v us xss) (b : Int) (hb : 0 ≤ b ∧ b ≤ 1048576) :
    CS Try.prog 5 [v, .int .i64 b] w (.int .i64 (szss b xss)) := by
 have hul := hR.len
 have hl_us : us.length ≤ 9223372036854775807 := (by obtain ⟨_, _, _, hh, _⟩ := hR.rd.shape; simpa using hh)
 refine calls_of_J (mu := (fun _ => False)) (m := [.ro v 1 (us.map uv)]) (e := [(0, v), (1, .int .i64 b)]) Try.func5 rfl rfl (.cons rfl (.cons rfl .nil)) (((St.init _ _).ro0 hR.rd (by decide))) ?_
 refine J.seq ?_
 refine J.reg ?_
 refine WL.rd (RD.assign rfl) rfl rfl ?_
 refine WL.nil ?_
 refine JE.seqN ?_
 refine J.seq ?_
 refine J.reg ?_
 refine WL.rd (RD.move rfl) rfl rfl ?_
 refine WL.rd (RD.move rfl) rfl rfl ?_
 refine WL.rd (RD.lenR rfl) rfl rfl ?_
 refine WL.rd (RD.sub rfl rfl (by omega) (by omega)) rfl rfl ?_
 refine WL.rd (RD.assign rfl) rfl rfl ?_
 refine WL.nil ?_
 refine JE.seqN ?_
 refine J.seq ?_
 refine J.seq ?_
 refine J.reg ?_
 refine WL.rd (RD.move rfl) rfl rfl ?_
 refine WL.rd (RD.lss rfl rfl) rfl rfl ?_
 refine WL.nil ?_
 refine JE.seqN ?_
 refine J.condP rfl (fun hc11 => ?_) (fun hc11 => ?_)
 ·
  refine J.seq ?_
  refine J.reg ?_
  refine WL.rd (RD.assign rfl) rfl rfl ?_
  refine WL.nil ?_
  refine JE.seqN ?_
  refine J.ret ?_
  refine JE.ret rfl (.tmp rfl .nil) (fun w hS => ?_)
  exact CS.fin hS (by unfold szss; rw [if_pos (by omega)]; rfl)
 ·
  refine J.skip ?_
  refine JE.seqN ?_
  refine J.seq ?_
  refine J.seq ?_
  refine J.reg ?_
  refine WL.rd (RD.assign rfl) rfl rfl ?_
  refine WL.nil ?_
  refine JE.seqN ?_
  refine J.block ?_
  refine J.loop (fun gg ee mm => ∃ (k : Nat), gg = xss.length - k ∧ ((k ≤ xss.length) ∧ (0 ≤ b - xss.length - tot (xss.take k))) ∧ ee = [(0, v), (1, .int .i64 (b - xss.length - tot (xss.take k))), (5, .int .i64 (k : Int))] ∧ mm = [.ro v 1 (us.map uv)]) _ ⟨0, rfl, ?_, rfl, rfl⟩ ?_ ?_ ?_
  · exact ⟨by omega, by simp [tot]; omega⟩
  · exact (Sub.consE rfl (by first | rfl | (congr 1; omega) | (simp; done)) (Sub.consE rfl (by first | rfl | (congr 1; simp [tot]; omega)) (Sub.consE rfl (by first | rfl | (congr 1; omega) | (simp; done)) .nil)))
  · exact (SubM.ro rfl (by first | rfl | (simp [iv, bv, yv, tv, sv]; done)) .nil)
  ·
   rintro g _ _ ⟨k, rfl, hI, rfl, rfl⟩
   refine J.seq ?_
   refine J.seq ?_
   refine J.reg ?_
   refine WL.rd (RD.move rfl) rfl rfl ?_
   refine WL.rd (RD.move rfl) rfl rfl ?_
   refine WL.rd (RD.lenR rfl) rfl rfl ?_
   refine WL.rd (RD.lss rfl rfl) rfl rfl ?_
   refine WL.nil ?_
   refine JE.seqN ?_
   refine J.condP rfl (fun hc15 => ?_) (fun hc15 => ?_)
   ·
    refine J.skip ?_
    refine JE.seqN ?_
    refine J.seq ?_
    refine J.block ?_
    refine J.seq ?_
    refine J.addOld (hR.row k (by omega)) (by decide) (fun _ => id) ?_
    have htt := tot_succ xss k (by omega)
    refine J.reg ?_
    refine WL.rd (RD.move rfl) rfl rfl ?_
    refine WL.rd (RD.move rfl) rfl rfl ?_
    refine WL.rd (RD.idx rfl rfl (by omega) rfl) rfl rfl ?_
    refine WL.rd (RD.loadE rfl (by omega) rfl) rfl rfl ?_
    refine WL.rd (RD.move rfl) rfl rfl ?_
    refine WL.efS (EF.callS (.cons rfl (.cons rfl .nil)) (fun w hS => szIntS_c _ _ _ _ (by exact RdI.rd hS) (by omega))) rfl rfl ?_
    rintro ⟨⟩ -
    refine WL.rd (RD.assign rfl) rfl rfl ?_
    refine WL.nil ?_
    refine JE.seqN ?_
    refine J.seq ?_
    refine J.reg ?_
    refine WL.rd (RD.move rfl) rfl rfl ?_
    refine WL.rd (RD.lss rfl rfl) rfl rfl ?_
    refine WL.nil ?_
    refine JE.seqN ?_
    refine J.condP rfl (fun hc25 => ?_) (fun hc25 => ?_)
    ·
     refine J.seq ?_
     refine J.reg ?_
     refine WL.rd (RD.assign rfl) rfl rfl ?_
     refine WL.nil ?_
     refine JE.seqN ?_
     refine J.ret ?_
     refine JE.ret rfl (.tmp rfl .nil) (fun w hS => ?_)
     have h1 : b - xss.length - tot (xss.take k) - ((xss.getD k default).length : Int) < 0 := by unfold szf at hc25; split at hc25 <;> omega
     have h2 := tot_le xss (k + 1)
     exact CS.fin hS (by unfold szss; rw [if_pos (by omega)]; rfl)
    ·
     obtain ⟨hz, hy⟩ := szf_nn hc25
     refine J.skip ?_
     refine JE.blockN ?_
     refine JE.seqN ?_
     refine J.reg ?_
     refine WL.rd (RD.move rfl) rfl rfl ?_
     refine WL.rd (RD.add rfl rfl (by omega) (by omega)) rfl rfl ?_
     refine WL.rd (RD.assign rfl) rfl rfl ?_
     refine WL.nil ?_
     refine JE.cutN ⟨_, ?_, k + 1, rfl, ?_, rfl, rfl⟩ ?_ ?_
     · omega
     · exact ⟨by omega, by omega⟩
     · exact (Sub.consE rfl (by first | rfl | (congr 1; omega) | (simp; done)) (Sub.consE rfl (by rw [hz]; congr 1; omega) (Sub.consE rfl (by first | rfl | (congr 1; omega) | (simp; done)) .nil)))
     · exact (SubM.ro rfl (by first | rfl | (simp [iv, bv, yv, tv, sv]; done)) .nil)
   ·
    refine J.exit ?_
    refine JE.seqX ?_
    refine JE.cutX ?_
    refine JE.blockHit ?_
    refine JE.seqN ?_
    refine J.seq ?_
    refine J.reg ?_
    refine WL.rd (RD.move rfl) rfl rfl ?_
    refine WL.rd (RD.assign rfl) rfl rfl ?_
    refine WL.nil ?_
    refine JE.seqN ?_
    refine J.ret ?_
    refine JE.ret rfl (.tmp rfl .nil) (fun w hS => ?_)
    have hk : k = xss.length := by omega
    subst hk
    rw [List.take_length] at hI ⊢
    exact CS.fin hS (by unfold szss; rw [if_neg (by omega)]; rfl)
theorem toIntSS_c (v : Value) (us : List Value) (xss : List (List Int)) (w : World) (hR : RdSS w v us xss) (hl : xss.length ≤ 1048576) (ht : tot xss ≤ 1048576) :
    CN Try.prog 7 [v] w (List Value × Value) (fun x => x.1.length = xss.length) (fun x => x.2) (fun x => .row x.2 44 1 (x.1.map uv) :: rowsL 3 x.1 xss) := by
 have hul := hR.len
 have hl_us : us.length ≤ 9223372036854775807 := (by obtain ⟨_, _, _, hh, _⟩ := hR.rd.shape; simpa using hh)
 refine calls_of_J (mu := (fun _ => False)) (m := [.ro v 1 (us.map uv)]) (e := [(0, v)]) Try.func7 rfl rfl (.cons rfl .nil) (((St.init _ _).ro0 hR.rd (by decide))) ?_
 refine J.seq ?_
 refine J.reg ?_
 refine WL.rd (RD.assign rfl) rfl rfl ?_
 refine WL.nil ?_
 refine JE.seqN ?_
 refine J.seq ?_
 refine J.reg ?_
 refine WL.rd (RD.move rfl) rfl rfl ?_
 refine WL.rd (RD.lenR rfl) rfl rfl ?_
 refine WL.efS (EF.makeN rfl rfl rfl rfl (by omega)) rfl rfl ?_
 intro v7 _
 refine WL.rd (RD.assign rfl) rfl rfl ?_
 refine WL.nil ?_
 refine JE.seqN ?_
 refine J.seq ?_
 refine J.seq ?_
 refine J.reg ?_
 refine WL.rd (RD.assign rfl) rfl rfl ?_
 refine WL.nil ?_
 refine JE.seqN ?_
 refine J.block ?_
 refine J.loop (fun gg ee mm => ∃ (vs : List Value), gg = xss.length - vs.length ∧ ((vs.length ≤ xss.length)) ∧ ee = [(0, v), (3, v7), (4, .int .i64 (vs.length : Int))] ∧ mm = (.row v7 44 1 ((vs ++ List.replicate (xss.length - vs.length) (Value.slice none 0 0)).map uv) :: .ro v 1 (us.map uv) :: rowsL 3 vs (xss.take vs.length))) _ ⟨[], rfl, ?_, rfl, rfl⟩ ?_ ?_ ?_
 · simp
 · exact (Sub.consE rfl (by first | rfl | (congr 1; omega) | (simp; done)) (Sub.consE rfl (by first | rfl | (congr 1; omega) | (simp; done)) (Sub.consE rfl (by first | rfl | (congr 1; omega) | (simp; done)) .nil)))
 · exact (SubM.row rfl rfl (by rw [hul]; simp [uv]) (SubM.ro rfl (by first | rfl | (simp [iv, bv, yv, tv, sv]; done)) (show SubM [] _ from .nil)))
 ·
  rintro g _ _ ⟨vs, rfl, hI, rfl, rfl⟩
  refine J.seq ?_
  refine J.seq ?_
  refine J.reg ?_
  refine WL.rd (RD.move rfl) rfl rfl ?_
  refine WL.rd (RD.move rfl) rfl rfl ?_
  refine WL.rd (RD.lenR rfl) rfl rfl ?_
  refine WL.rd (RD.lss rfl rfl) rfl rfl ?_
  refine WL.nil ?_
  refine JE.seqN ?_
  refine J.condP rfl (fun hc11 => ?_) (fun hc11 => ?_)
  ·
   refine J.skip ?_
   refine JE.seqN ?_
   refine J.seq ?_
   refine J.block ?_
   refine J.addOld (hR.row vs.length (by omega)) (by decide) (fun _ => id) ?_
   have hlt := len_tot xss vs.length (by omega)
   refine J.reg ?_
   refine WL.rd (RD.move rfl) rfl rfl ?_
   refine WL.rd (RD.move rfl) rfl rfl ?_
   refine WL.rd (RD.move rfl) rfl rfl ?_
   refine WL.rd (RD.move rfl) rfl rfl ?_
   refine WL.rd (RD.idx rfl rfl (by omega) rfl) rfl rfl ?_
   refine WL.rd (RD.loadE rfl (by omega) rfl) rfl rfl ?_
   refine WL.efS (EF.callN (.cons rfl .nil) (fun w hS => toIntS_c _ _ _ (by exact RdI.rd hS) (by omega))) rfl rfl ?_
   rintro v20 -
   refine WL.rd (RD.idx rfl rfl (by omega) rfl) rfl rfl ?_
   refine WL.efN (EF.storeE rfl rfl (by omega) rfl) rfl ?_
   rintro ⟨⟩ -
   refine WL.nil ?_
   refine JE.blockN ?_
   refine JE.seqN ?_
   refine J.reg ?_
   refine WL.rd (RD.move rfl) rfl rfl ?_
   refine WL.rd (RD.add rfl rfl (by omega) (by omega)) rfl rfl ?_
   refine WL.rd (RD.assign rfl) rfl rfl ?_
   refine WL.nil ?_
   refine JE.cutN ⟨_, ?_, vs ++ [v20], rfl, ?_, rfl, rfl⟩ ?_ ?_
   · (simp only [List.length_append, List.length_singleton]; omega)
   · (simp only [List.length_append, List.length_singleton]; omega)
   · exact (Sub.consE rfl (by first | rfl | (congr 1; omega) | (simp; done)) (Sub.consE rfl (by first | rfl | (congr 1; omega) | (simp; done)) (Sub.consE rfl (by congr 1; simp) .nil)))
   · exact (SubM.row rfl rfl (by exact fill_app vs _ _ _ (by omega)) (SubM.ro rfl (by first | rfl | (simp [iv, bv, yv, tv, sv]; done)) (by rw [rowsL_step _ _ _ _ (by omega)]; exact SubM.list (SubM.row rfl rfl rfl .nil))))
  ·
   refine J.exit ?_
   refine JE.seqX ?_
   refine JE.cutX ?_
   refine JE.blockHit ?_
   refine JE.seqN ?_
   refine J.seq ?_
   refine J.reg ?_
   refine WL.rd (RD.move rfl) rfl rfl ?_
   refine WL.rd (RD.assign rfl) rfl rfl ?_
   refine WL.nil ?_
   refine JE.seqN ?_
   refine J.ret ?_
   refine JE.ret rfl (.tmp rfl .nil) (fun w hS => ?_)
   have hvl : vs.length = xss.length := by omega
   have e : xss.take vs.length = xss := by rw [hvl]; exact List.take_length
   rw [e, hvl, Nat.sub_self, List.replicate_zero, List.append_nil] at hS
   exact CN.fin hS (vs, v7) rfl hvl (SubM.row rfl rfl rfl SubM.list0) (fun y hy => (List.mem_cons.1 hy).elim (fun h => by rw [h]; rfl) rowsL_rdb)
theorem eqIntSS_c (v u : Value) (us us2 : List Value) (xss yss : List (List Int)) (w : World) (hR : RdSS w v us xss) (hR2 : RdSS w u us2 yss) :
    CS Try.prog 9 [v, u] w (.bool (decide (xss = yss))) := by
 have hul := hR.len
 have hl_us : us.length ≤ 9223372036854775807 := (by obtain ⟨_, _, _, hh, _⟩ := hR.rd.shape; simpa using hh)
 have hul2 := hR2.len
 have hl_us2 : us2.length ≤ 9223372036854775807 := (by obtain ⟨_, _, _, hh, _⟩ := hR2.rd.shape; simpa using hh)
 refine calls_of_J (mu := (fun _ => False)) (m := [.ro v 1 (us.map uv), .ro u 1 (us2.map uv)]) (e := [(0, v), (1, u)]) Try.func9 rfl rfl (.cons rfl (.cons rfl .nil)) ((((St.init _ _).ro0 hR2.rd (by decide)).ro0 hR.rd (by decide))) ?_
 refine J.seq ?_
 refine J.reg ?_
 refine WL.rd (RD.assign rfl) rfl rfl ?_
 refine WL.nil ?_
 refine JE.seqN ?_
 refine J.seq ?_
 refine J.seq ?_
 refine J.reg ?_
 refine WL.rd (RD.move rfl) rfl rfl ?_
 refine WL.rd (RD.lenR rfl) rfl rfl ?_
 refine WL.rd (RD.move rfl) rfl rfl ?_
 refine WL.rd (RD.lenR rfl) rfl rfl ?_
 refine WL.rd (RD.neq rfl rfl) rfl rfl ?_
 refine WL.nil ?_
 refine JE.seqN ?_
 refine J.condP rfl (fun hc10 => ?_) (fun hc10 => ?_)
 ·
  refine J.seq ?_
  refine J.reg ?_
  refine WL.rd (RD.assign rfl) rfl rfl ?_
  refine WL.nil ?_
  refine JE.seqN ?_
  refine J.ret ?_
  refine JE.ret rfl (.tmp rfl .nil) (fun w hS => ?_)
  exact CS.fin hS (mk_false (fun h => hc10 (by rw [hul, hul2, h])))
 ·
  refine J.skip ?_
  refine JE.seqN ?_
  refine J.seq ?_
  refine J.seq ?_
  refine J.reg ?_
  refine WL.rd (RD.assign rfl) rfl rfl ?_
  refine WL.nil ?_
  refine JE.seqN ?_
  refine J.block ?_
  refine J.loop (fun gg ee mm => ∃ (k : Nat), gg = xss.length - k ∧ ((xss.length = yss.length) ∧ (∀ j, j < k → xss.getD j default = yss.getD j default)) ∧ ee = [(0, v), (1, u), (5, .int .i64 (k : Int))] ∧ mm = [.ro v 1 (us.map uv), .ro u 1 (us2.map uv)]) _ ⟨0, rfl, ?_, rfl, rfl⟩ ?_ ?_ ?_
  · exact ⟨by omega, fun j hj => by omega⟩
  · exact (Sub.consE rfl (by first | rfl | (congr 1; omega) | (simp; done)) (Sub.consE rfl (by first | rfl | (congr 1; omega) | (simp; done)) (Sub.consE rfl (by first | rfl | (congr 1; omega) | (simp; done)) .nil)))
  · exact (SubM.ro rfl (by first | rfl | (simp [iv, bv, yv, tv, sv]; done)) (SubM.ro rfl (by first | rfl | (simp [iv, bv, yv, tv, sv]; done)) .nil))
  ·
   rintro g _ _ ⟨k, rfl, hI, rfl, rfl⟩
   refine J.seq ?_
   refine J.seq ?_
   refine J.reg ?_
   refine WL.rd (RD.move rfl) rfl rfl ?_
   refine WL.rd (RD.move rfl) rfl rfl ?_
   refine WL.rd (RD.lenR rfl) rfl rfl ?_
   refine WL.rd (RD.lss rfl rfl) rfl rfl ?_
   refine WL.nil ?_
   refine JE.seqN ?_
   refine J.condP rfl (fun hc14 => ?_) (fun hc14 => ?_)
   ·
    refine J.skip ?_
    refine JE.seqN ?_
    refine J.seq ?_
    refine J.block ?_
    refine J.seq ?_
    refine J.addOld (hR.row k (by omega)) (by decide) (fun _ => id) ?_
    refine J.addOld (hR2.row k (by omega)) (by decide) (fun _ => id) ?_
    refine J.anyAll [] ?_
    refine WA.takeP 0 rfl (RDP.of fun _ => RD.move rfl) rfl (by kernel_rfl) rfl ?_
    refine WA.takeP 1 rfl (RDP.of fun _ => RD.move rfl) rfl (by kernel_rfl) rfl ?_
    refine WA.takeP 2 rfl (RDP.idx rfl rfl (by omega) rfl) rfl (by kernel_rfl) rfl ?_
    refine WA.take 3 rfl (RD.loadE rfl (by omega) rfl) rfl (by kernel_rfl) rfl ?_
    refine WA.takeP 4 rfl (RDP.of fun _ => RD.move rfl) rfl (by kernel_rfl) rfl ?_
    refine WA.takeP 5 rfl (RDP.of fun _ => RD.move rfl) rfl (by kernel_rfl) rfl ?_
    refine WA.takeP 6 rfl (RDP.idx rfl rfl (by omega) rfl) rfl (by kernel_rfl) rfl ?_
    refine WA.take 7 rfl (RD.loadE rfl (by omega) rfl) rfl (by kernel_rfl) rfl ?_
    refine WA.one (i := 8) (by kernel_rfl) ?_
    refine WAi.efS rfl (EF.callS (.cons rfl (.cons rfl .nil)) (fun w hS => eqIntS_c _ _ _ _ _ (by exact RdI.rd hS) (by exact RdI.rd hS))) rfl rfl (fun _ => SubI.sub) ?_
    rintro ⟨⟩ -
    refine WA.takeP 9 rfl (RDP.of fun _ => RD.notP rfl) rfl (by kernel_rfl) rfl ?_
    refine WA.done (by kernel_rfl) ?_
    refine JE.seqN ?_
    refine J.condP rfl (fun hc26 => ?_) (fun hc26 => ?_)
    ·
     refine J.seq ?_
     refine J.reg ?_
     refine WL.rd (RD.assign rfl) rfl rfl ?_
     refine WL.nil ?_
     refine JE.seqN ?_
     refine J.ret ?_
     refine JE.ret rfl (.tmp rfl .nil) (fun w hS => ?_)
     exact CS.fin hS (mk_false (fun h => by subst h; simp at hc26))
    ·
     refine J.skip ?_
     refine JE.blockN ?_
     refine JE.seqN ?_
     refine J.reg ?_
     refine WL.rd (RD.move rfl) rfl rfl ?_
     refine WL.rd (RD.add rfl rfl (by omega) (by omega)) rfl rfl ?_
     refine WL.rd (RD.assign rfl) rfl rfl ?_
     refine WL.nil ?_
     refine JE.cutN ⟨_, ?_, k + 1, rfl, ?_, rfl, rfl⟩ ?_ ?_
     · omega
     · exact ⟨hI.1, fun j hj => (Nat.lt_succ_iff_lt_or_eq.1 hj).elim (hI.2 j) (fun hh => by subst hh; simpa using hc26)⟩
     · exact (Sub.consE rfl (by first | rfl | (congr 1; omega) | (simp; done)) (Sub.consE rfl (by first | rfl | (congr 1; omega) | (simp; done)) (Sub.consE rfl (by first | rfl | (congr 1; omega) | (simp; done)) .nil)))
     · exact (SubM.ro rfl (by first | rfl | (simp [iv, bv, yv, tv, sv]; done)) (SubM.ro rfl (by first | rfl | (simp [iv, bv, yv, tv, sv]; done)) .nil))
   ·
    refine J.exit ?_
    refine JE.seqX ?_
    refine JE.cutX ?_
    refine JE.blockHit ?_
    refine JE.seqN ?_
    refine J.seq ?_
    refine J.reg ?_
    refine WL.rd (RD.assign rfl) rfl rfl ?_
    refine WL.nil ?_
    refine JE.seqN ?_
    refine J.ret ?_
    refine JE.ret rfl (.tmp rfl .nil) (fun w hS => ?_)
    exact CS.fin hS (mk_true (ext_getD default _ _ hI.1 (fun j hj => hI.2 j (by omega))))
theorem glued_c (v : Value) (ts : List (List UInt8)) (b : List UInt8) (w : World) (hr : Rd w v 1 (ts.map sv)) (hg : ∀ k, k ≤ ts.length → (glK b ts k).length ≤ 1000000000) (ht : ∀ k, k < ts.length → (ts.getD k default).length ≤ 1000000000) (hb : b.length ≤ 10) :
    CS Try.prog 27 [v, .string (bs b)] w (.string (bs (glK b ts ts.length))) := by
 have hl_ts : ts.length ≤ 9223372036854775807 := (by obtain ⟨_, _, _, hh, _⟩ := hr.shape; simpa using hh)
 refine calls_of_J (mu := (fun _ => False)) (m := [.ro v 1 (ts.map sv)]) (e := [(0, v), (1, .string (bs b))]) Try.func27 rfl rfl (.cons rfl (.cons rfl .nil)) (((St.init _ _).ro0 hr (by decide))) ?_
 refine J.seq ?_
 refine J.reg ?_
 refine WL.rd (RD.assign rfl) rfl rfl ?_
 refine WL.nil ?_
 refine JE.seqN ?_
 refine J.seq ?_
 refine J.reg ?_
 refine WL.rd (RD.assign rfl) rfl rfl ?_
 refine WL.nil ?_
 refine JE.seqN ?_
 refine J.seq ?_
 refine J.seq ?_
 refine J.reg ?_
 refine WL.rd (RD.move rfl) rfl rfl ?_
 refine WL.rd (RD.lenR rfl) rfl rfl ?_
 refine WL.rd (RD.move rfl) rfl rfl ?_
 refine WL.nil ?_
 refine JE.seqN ?_
 refine J.block ?_
 refine J.loop (fun gg ee mm => ∃ (k : Nat), gg = ts.length - k ∧ ((k ≤ ts.length)) ∧ ee = [(1, .string (bs b)), (5, .string (bs (glK b ts k))), (8, v), (9, .int .i64 (ts.length : Int)), (10, .int .i64 (k : Int))] ∧ mm = [.ro v 1 (ts.map sv)]) _ ⟨0, rfl, ?_, rfl, rfl⟩ ?_ ?_ ?_
 · omega
 · exact (Sub.consE rfl (by first | rfl | (congr 1; omega) | (simp; done)) (Sub.consE rfl (by first | rfl | (congr 1; omega) | (simp; done)) (Sub.consE rfl (by first | rfl | (congr 1; omega) | (simp; done)) (Sub.consE rfl (by first | rfl | (congr 1; omega) | (simp; done)) (Sub.consE rfl (by first | rfl | (congr 1; omega) | (simp; done)) .nil)))))
 · exact (SubM.ro rfl (by first | rfl | (simp [iv, bv, yv, tv, sv]; done)) .nil)
 ·
  rintro g _ _ ⟨k, rfl, hI, rfl, rfl⟩
  have hgk := hg k hI
  refine J.seq ?_
  refine J.reg ?_
  refine WL.rd (RD.lss rfl rfl) rfl rfl ?_
  refine WL.nil ?_
  refine JE.seqN ?_
  refine J.seq ?_
  refine J.condP rfl (fun hc11 => ?_) (fun hc11 => ?_)
  ·
   refine J.skip ?_
   refine JE.seqN ?_
   refine J.seq ?_
   refine J.block ?_
   refine J.seq ?_
   refine J.reg ?_
   refine WL.rd (RD.move rfl) rfl rfl ?_
   refine WL.rd (RD.idx rfl rfl (by omega) rfl) rfl rfl ?_
   refine WL.rd (RD.loadE rfl (by omega) rfl) rfl rfl ?_
   refine WL.rd (RD.assign rfl) rfl rfl ?_
   refine WL.rd (RD.assign rfl) rfl rfl ?_
   refine WL.nil ?_
   refine JE.seqN ?_
   refine J.seq ?_
   refine J.seq ?_
   have htk := ht k (by omega)
   refine J.reg ?_
   refine WL.rd (RD.move rfl) rfl rfl ?_
   refine WL.rd (RD.gtr rfl rfl) rfl rfl ?_
   refine WL.nil ?_
   refine JE.seqN ?_
   refine J.condP rfl (fun hc16 => ?_) (fun hc16 => ?_)
   ·
    refine J.reg ?_
    refine WL.rd (RD.move rfl) rfl rfl ?_
    refine WL.rd (RD.move rfl) rfl rfl ?_
    refine WL.rd (RD.addS rfl rfl (by omega)) rfl rfl ?_
    refine WL.rd (RD.assign rfl) rfl rfl ?_
    refine WL.nil ?_
    refine JE.seqN ?_
    have hga : (glK b ts k ++ b).length = (glK b ts k).length + b.length := List.length_append
    refine J.reg ?_
    refine WL.rd (RD.move rfl) rfl rfl ?_
    refine WL.rd (RD.move rfl) rfl rfl ?_
    refine WL.rd (RD.addS rfl rfl (by omega)) rfl rfl ?_
    refine WL.rd (RD.assign rfl) rfl rfl ?_
    refine WL.nil ?_
    refine JE.blockN ?_
    refine JE.seqN ?_
    refine J.reg ?_
    refine WL.rd (RD.add rfl rfl (by omega) (by omega)) rfl rfl ?_
    refine WL.rd (RD.move rfl) rfl rfl ?_
    refine WL.nil ?_
    refine JE.cutN ⟨_, ?_, k + 1, rfl, ?_, rfl, rfl⟩ ?_ ?_
    · omega
    · omega
    · exact (Sub.consE rfl (by first | rfl | (congr 1; omega) | (simp; done)) (Sub.consE rfl (by rw [glK_succ b ts k (by omega)]) (Sub.consE rfl (by first | rfl | (congr 1; omega) | (simp; done)) (Sub.consE rfl (by first | rfl | (congr 1; omega) | (simp; done)) (Sub.consE rfl (by first | rfl | (congr 1; omega) | (simp; done)) .nil)))))
    · exact (SubM.ro rfl (by first | rfl | (simp [iv, bv, yv, tv, sv]; done)) .nil)
   ·
    refine J.skip ?_
    refine JE.seqN ?_
    have hga : (glK b ts k ++ b).length = (glK b ts k).length + b.length := List.length_append
    refine J.reg ?_
    refine WL.rd (RD.move rfl) rfl rfl ?_
    refine WL.rd (RD.move rfl) rfl rfl ?_
    refine WL.rd (RD.addS rfl rfl (by omega)) rfl rfl ?_
    refine WL.rd (RD.assign rfl) rfl rfl ?_
    refine WL.nil ?_
    refine JE.blockN ?_
    refine JE.seqN ?_
    refine J.reg ?_
    refine WL.rd (RD.add rfl rfl (by omega) (by omega)) rfl rfl ?_
    refine WL.rd (RD.move rfl) rfl rfl ?_
    refine WL.nil ?_
    refine JE.cutN ⟨_, ?_, k + 1, rfl, ?_, rfl, rfl⟩ ?_ ?_
    · omega
    · omega
    · exact (Sub.consE rfl (by first | rfl | (congr 1; omega) | (simp; done)) (Sub.consE rfl (by rw [glK_one b ts k (by omega)]) (Sub.consE rfl (by first | rfl | (congr 1; omega) | (simp; done)) (Sub.consE rfl (by first | rfl | (congr 1; omega) | (simp; done)) (Sub.consE rfl (by first | rfl | (congr 1; omega) | (simp; done)) .nil)))))
    · exact (SubM.ro rfl (by first | rfl | (simp [iv, bv, yv, tv, sv]; done)) .nil)
  ·
   refine J.exit ?_
   refine JE.seqX ?_
   refine JE.cutX ?_
   refine JE.blockHit ?_
   refine JE.seqN ?_
   refine J.seq ?_
   refine J.reg ?_
   refine WL.rd (RD.move rfl) rfl rfl ?_
   refine WL.rd (RD.assign rfl) rfl rfl ?_
   refine WL.nil ?_
   refine JE.seqN ?_
   refine J.ret ?_
   refine JE.ret rfl (.tmp rfl .nil) (fun w hS => ?_)
   have hk : k = ts.length := by omega
   subst hk
   exact CS.fin hS rfl
theorem numbers_c (v : Value) (xs : List Int) (w : World) (hr : Rd w v 1 (xs.map iv)) (hb : ∀ a ∈ xs, -9223372036854775808 ≤ a ∧ a ≤ 9223372036854775807) (hl : xs.length ≤ 1048576) :
    CS Try.prog 26 [v] w (.string (bs (numT xs xs.length))) := by
 have hl_xs : xs.length ≤ 9223372036854775807 := (by obtain ⟨_, _, _, hh, _⟩ := hr.shape; simpa using hh)
 refine calls_of_J (mu := (fun _ => False)) (m := [.ro v 1 (xs.map iv)]) (e := [(0, v)]) Try.func26 rfl rfl (.cons rfl .nil) (((St.init _ _).ro0 hr (by decide))) ?_
 refine J.seq ?_
 refine J.reg ?_
 refine WL.rd (RD.assign rfl) rfl rfl ?_
 refine WL.nil ?_
 refine JE.seqN ?_
 refine J.seq ?_
 refine J.reg ?_
 refine WL.efS (EF.build0) rfl rfl ?_
 intro v6 _
 refine WL.rd (RD.assign rfl) rfl rfl ?_
 refine WL.nil ?_
 refine JE.seqN ?_
 refine J.seq ?_
 refine J.seq ?_
 refine J.reg ?_
 refine WL.rd (RD.move rfl) rfl rfl ?_
 refine WL.rd (RD.lenR rfl) rfl rfl ?_
 refine WL.rd (RD.move rfl) rfl rfl ?_
 refine WL.nil ?_
 refine JE.seqN ?_
 refine J.block ?_
 refine J.loop (fun gg ee mm => ∃ (k : Nat), ∃ (u : Value), gg = xs.length - k ∧ ((k ≤ xs.length)) ∧ ee = [(3, u), (7, v), (8, .int .i64 (xs.length : Int)), (9, .int .i64 (k : Int))] ∧ mm = [.row u 9 1 (((xs.take k).map fmtInt).map sv), .ro v 1 (xs.map iv)]) _ ⟨0, v6, rfl, ?_, rfl, rfl⟩ ?_ ?_ ?_
 · omega
 · exact (Sub.consE rfl (by first | rfl | (congr 1; omega) | (simp; done)) (Sub.consE rfl (by first | rfl | (congr 1; omega) | (simp; done)) (Sub.consE rfl (by first | rfl | (congr 1; omega) | (simp; done)) (Sub.consE rfl (by first | rfl | (congr 1; omega) | (simp; done)) .nil))))
 · exact (SubM.row rfl rfl (by first | rfl | (simp [iv, bv, yv, tv, sv]; done)) (SubM.ro rfl (by first | rfl | (simp [iv, bv, yv, tv, sv]; done)) .nil))
 ·
  rintro g _ _ ⟨k, u, rfl, hI, rfl, rfl⟩
  have htl : (xs.take k).length = k := List.length_take_of_le (by omega)
  refine J.seq ?_
  refine J.reg ?_
  refine WL.rd (RD.lss rfl rfl) rfl rfl ?_
  refine WL.nil ?_
  refine JE.seqN ?_
  refine J.seq ?_
  refine J.condP rfl (fun hc10 => ?_) (fun hc10 => ?_)
  ·
   refine J.skip ?_
   refine JE.seqN ?_
   refine J.seq ?_
   refine J.block ?_
   refine J.seq ?_
   refine J.reg ?_
   refine WL.rd (RD.idx rfl rfl (by omega) rfl) rfl rfl ?_
   refine WL.rd (RD.loadE rfl (by omega) rfl) rfl rfl ?_
   refine WL.rd (RD.assign rfl) rfl rfl ?_
   refine WL.nil ?_
   refine JE.seqN ?_
   have hbk := hb (xs.getD k default) (by rw [List.getD_eq_getElem?_getD, List.getElem?_eq_getElem (show k < xs.length by omega)]; exact List.getElem_mem _)
   refine J.reg ?_
   refine WL.rd (RD.move rfl) rfl rfl ?_
   refine WL.rd (RD.move rfl) rfl rfl ?_
   refine WL.efS (EF.callS (.cons rfl .nil) (fun w hS => iFormatInt_c _ _ (by omega))) rfl rfl ?_
   rintro ⟨⟩ -
   refine WL.efS (EF.build1 rfl) rfl rfl ?_
   intro v16 _
   refine WL.efS (EF.append rfl rfl (by omega) rfl rfl rfl) rfl rfl ?_
   intro v17 _
   refine WL.rd (RD.assign rfl) rfl rfl ?_
   refine WL.nil ?_
   refine JE.blockN ?_
   refine JE.seqN ?_
   refine J.reg ?_
   refine WL.rd (RD.add rfl rfl (by omega) (by omega)) rfl rfl ?_
   refine WL.rd (RD.move rfl) rfl rfl ?_
   refine WL.nil ?_
   refine JE.cutN ⟨_, ?_, k + 1, v17, rfl, ?_, rfl, rfl⟩ ?_ ?_
   · omega
   · omega
   · exact (Sub.consE rfl (by first | rfl | (congr 1; omega) | (simp; done)) (Sub.consE rfl (by first | rfl | (congr 1; omega) | (simp; done)) (Sub.consE rfl (by first | rfl | (congr 1; omega) | (simp; done)) (Sub.consE rfl (by first | rfl | (congr 1; omega) | (simp; done)) .nil))))
   · exact (SubM.row rfl rfl (by rw [take_succ_getD xs default k (by omega), List.map_append, List.map_append, List.map_append]; rfl) (SubM.ro rfl (by first | rfl | (simp [iv, bv, yv, tv, sv]; done)) .nil))
  ·
   refine J.exit ?_
   refine JE.seqX ?_
   refine JE.cutX ?_
   refine JE.blockHit ?_
   refine JE.seqN ?_
   refine J.seq ?_
   have hkl : xs.take k = xs := List.take_of_length_le (by omega)
   rw [hkl]
   have hnl := numT_len xs hb
   have hml : (xs.map fmtInt).length = xs.length := List.length_map _
   refine J.reg ?_
   refine WL.rd (RD.move rfl) rfl rfl ?_
   refine WL.efS (EF.callS (.cons rfl (.cons rfl .nil)) (fun w hS => glued_c _ (xs.map fmtInt) [44] _ (by exact RdI.rd hS) (fun k hk => by have := hnl k (by omega); unfold numT at this; omega) (fun k hk => by rw [mapD fmtInt xs k (by omega)]; have := fmtInt_len _ (hb (xs.getD k default) (by rw [List.getD_eq_getElem?_getD, List.getElem?_eq_getElem (show k < xs.length by omega)]; exact List.getElem_mem _)); omega) (by decide))) rfl rfl ?_
   rintro ⟨⟩ -
   refine WL.rd (RD.assign rfl) rfl rfl ?_
   refine WL.nil ?_
   refine JE.seqN ?_
   refine J.ret ?_
   refine JE.ret rfl (.tmp rfl .nil) (fun w hS => ?_)
   exact CS.fin hS (by unfold numT; rw [hml]; rfl)
theorem iFormatSets_c (v : Value) (us : List Value) (xss : List (List Int)) (w : World) (hR : RdSS w v us xss) (hi : In64 xss) (hl : xss.length ≤ 1048576) (ht : tot xss ≤ 1048576) :
    CS Try.prog 8 [v] w (.string (bs (setsT xss))) := by
 have hul := hR.len
 have hl_us : us.length ≤ 9223372036854775807 := (by obtain ⟨_, _, _, hh, _⟩ := hR.rd.shape; simpa using hh)
 refine calls_of_J (mu := (fun _ => False)) (m := [.ro v 1 (us.map uv)]) (e := [(0, v)]) Try.func8 rfl rfl (.cons rfl .nil) (((St.init _ _).ro0 hR.rd (by decide))) ?_
 refine J.seq ?_
 refine J.reg ?_
 refine WL.rd (RD.assign rfl) rfl rfl ?_
 refine WL.nil ?_
 refine JE.seqN ?_
 refine J.seq ?_
 refine J.seq ?_
 refine J.reg ?_
 refine WL.rd (RD.move rfl) rfl rfl ?_
 refine WL.rd (RD.lenR rfl) rfl rfl ?_
 refine WL.rd (RD.eql rfl rfl) rfl rfl ?_
 refine WL.nil ?_
 refine JE.seqN ?_
 refine J.condP rfl (fun hc8 => ?_) (fun hc8 => ?_)
 ·
  refine J.seq ?_
  refine J.reg ?_
  refine WL.rd (RD.assign rfl) rfl rfl ?_
  refine WL.nil ?_
  refine JE.seqN ?_
  refine J.ret ?_
  refine JE.ret rfl (.tmp rfl .nil) (fun w hS => ?_)
  exact CS.fin hS (by unfold setsT; rw [if_pos (by omega)]; rfl)
 ·
  refine J.skip ?_
  refine JE.seqN ?_
  refine J.seq ?_
  refine J.reg ?_
  refine WL.efS (EF.build0) rfl rfl ?_
  intro v9 _
  refine WL.rd (RD.assign rfl) rfl rfl ?_
  refine WL.nil ?_
  refine JE.seqN ?_
  refine J.seq ?_
  refine J.seq ?_
  refine J.reg ?_
  refine WL.rd (RD.move rfl) rfl rfl ?_
  refine WL.rd (RD.lenR rfl) rfl rfl ?_
  refine WL.rd (RD.move rfl) rfl rfl ?_
  refine WL.nil ?_
  refine JE.seqN ?_
  refine J.block ?_
  refine J.loop (fun gg ee mm => ∃ (k : Nat), ∃ (u : Value), gg = xss.length - k ∧ ((k ≤ xss.length)) ∧ ee = [(3, u), (10, v), (11, .int .i64 (us.length : Int)), (12, .int .i64 (k : Int))] ∧ mm = [.row u 9 1 (((xss.take k).map rowT).map sv), .ro v 1 (us.map uv)]) _ ⟨0, v9, rfl, ?_, rfl, rfl⟩ ?_ ?_ ?_
  · omega
  · exact (Sub.consE rfl (by first | rfl | (congr 1; omega) | (simp; done)) (Sub.consE rfl (by first | rfl | (congr 1; omega) | (simp; done)) (Sub.consE rfl (by first | rfl | (congr 1; omega) | (simp; done)) (Sub.consE rfl (by first | rfl | (congr 1; omega) | (simp; done)) .nil))))
  · exact (SubM.row rfl rfl (by first | rfl | (simp [iv, bv, yv, tv, sv]; done)) (SubM.ro rfl (by first | rfl | (simp [iv, bv, yv, tv, sv]; done)) .nil))
  ·
   rintro g _ _ ⟨k, u, rfl, hI, rfl, rfl⟩
   have htl : (xss.take k).length = k := List.length_take_of_le (by omega)
   refine J.seq ?_
   refine J.reg ?_
   refine WL.rd (RD.lss rfl rfl) rfl rfl ?_
   refine WL.nil ?_
   refine JE.seqN ?_
   refine J.seq ?_
   refine J.condP rfl (fun hc13 => ?_) (fun hc13 => ?_)
   ·
    refine J.skip ?_
    refine JE.seqN ?_
    refine J.seq ?_
    refine J.block ?_
    refine J.seq ?_
    refine J.reg ?_
    refine WL.rd (RD.idx rfl rfl (by omega) rfl) rfl rfl ?_
    refine WL.rd (RD.loadE rfl (by omega) rfl) rfl rfl ?_
    refine WL.rd (RD.assign rfl) rfl rfl ?_
    refine WL.nil ?_
    refine JE.seqN ?_
    refine J.addOld (hR.row k (by omega)) (by decide) (fun _ => id) ?_
    have hlk := len_tot xss k (by omega)
    have hbk := hi.at k (by omega)
    have hnl := numT_len _ hbk _ (Nat.le_refl _)
    refine J.reg ?_
    refine WL.rd (RD.move rfl) rfl rfl ?_
    refine WL.rd (RD.move rfl) rfl rfl ?_
    refine WL.efS (EF.callS (.cons rfl .nil) (fun w hS => numbers_c _ _ _ (by exact RdI.rd hS) (by assumption) (by omega))) rfl rfl ?_
    rintro ⟨⟩ -
    refine WL.rd (RD.addS (a := [123]) rfl rfl (by rw [List.length_singleton]; omega)) rfl rfl ?_
    refine WL.rd (RD.addS (b := [125]) rfl rfl (by rw [List.length_append, List.length_singleton, List.length_singleton]; omega)) rfl rfl ?_
    refine WL.efS (EF.build1 rfl) rfl rfl ?_
    intro v21 _
    refine WL.efS (EF.append rfl rfl (by omega) rfl rfl rfl) rfl rfl ?_
    intro v22 _
    refine WL.rd (RD.assign rfl) rfl rfl ?_
    refine WL.nil ?_
    refine JE.blockN ?_
    refine JE.seqN ?_
    refine J.reg ?_
    refine WL.rd (RD.add rfl rfl (by omega) (by omega)) rfl rfl ?_
    refine WL.rd (RD.move rfl) rfl rfl ?_
    refine WL.nil ?_
    refine JE.cutN ⟨_, ?_, k + 1, v22, rfl, ?_, rfl, rfl⟩ ?_ ?_
    · omega
    · omega
    · exact (Sub.consE rfl (by first | rfl | (congr 1; omega) | (simp; done)) (Sub.consE rfl (by first | rfl | (congr 1; omega) | (simp; done)) (Sub.consE rfl (by first | rfl | (congr 1; omega) | (simp; done)) (Sub.consE rfl (by first | rfl | (congr 1; omega) | (simp; done)) .nil))))
    · exact (SubM.row rfl rfl (by rw [take_succ_getD xss default k (by omega), List.map_append, List.map_append, List.map_append]; rfl) (SubM.ro rfl (by first | rfl | (simp [iv, bv, yv, tv, sv]; done)) .nil))
   ·
    refine J.exit ?_
    refine JE.seqX ?_
    refine JE.cutX ?_
    refine JE.blockHit ?_
    refine JE.seqN ?_
    refine J.seq ?_
    have hkl : xss.take k = xss := List.take_of_length_le (by omega)
    rw [hkl]
    have hsl := setT_le hi
    have hml : (xss.map rowT).length = xss.length := List.length_map _
    refine J.reg ?_
    refine WL.rd (RD.move rfl) rfl rfl ?_
    refine WL.efS (EF.callS (.cons rfl (.cons rfl .nil)) (fun w hS => glued_c _ (xss.map rowT) [32] _ (by exact RdI.rd hS) (fun k hk => by have := hsl k (by omega); unfold setT at this; omega) (fun k hk => by rw [mapD rowT xss k (by omega)]; have := rowT_len (hi.at k (by omega)); have := len_tot xss k (by omega); omega) (by decide))) rfl rfl ?_
    rintro ⟨⟩ -
    refine WL.rd (RD.assign rfl) rfl rfl ?_
    refine WL.nil ?_
    refine JE.seqN ?_
    refine J.ret ?_
    refine JE.ret rfl (.tmp rfl .nil) (fun w hS => ?_)
    exact CS.fin hS (by unfold setsT setT; rw [if_neg (by omega), hml]; rfl)
theorem sFormatSets_c (v : Value) (us : List Value) (xss : List (List Int)) (w : World) (hR : RdSS w v us xss) (hi : In64 xss) (hl : xss.length ≤ 1048576) (ht : tot xss ≤ 1048576) :
    CS Try.prog 6 [v] w (.string (bs (setsT xss))) := by
 have hul := hR.len
 have hl_us : us.length ≤ 9223372036854775807 := (by obtain ⟨_, _, _, hh, _⟩ := hR.rd.shape; simpa using hh)
 refine calls_of_J (mu := (fun _ => False)) (m := [.ro v 1 (us.map uv)]) (e := [(0, v)]) Try.func6 rfl rfl (.cons rfl .nil) (((St.init _ _).ro0 hR.rd (by decide))) ?_
 refine J.seq ?_
 refine J.reg ?_
 refine WL.rd (RD.assign rfl) rfl rfl ?_
 refine WL.nil ?_
 refine JE.seqN ?_
 refine J.seq ?_
 refine J.reg ?_
 refine WL.rd (RD.assign rfl) rfl rfl ?_
 refine WL.nil ?_
 refine JE.seqN ?_
 refine J.seq ?_
 refine J.seq ?_
 refine J.reg ?_
 refine WL.rd (RD.assign rfl) rfl rfl ?_
 refine WL.nil ?_
 refine JE.seqN ?_
 refine J.block ?_
 refine J.loop (fun gg ee mm => ∃ (k : Nat), gg = xss.length - k ∧ ((k ≤ xss.length)) ∧ ee = [(0, v), (3, .string (bs (setT xss k))), (4, .int .i64 (k : Int))] ∧ mm = [.ro v 1 (us.map uv)]) _ ⟨0, rfl, ?_, rfl, rfl⟩ ?_ ?_ ?_
 · omega
 · exact (Sub.consE rfl (by first | rfl | (congr 1; omega) | (simp; done)) (Sub.consE rfl (by first | rfl | (congr 1; omega) | (simp; done)) (Sub.consE rfl (by first | rfl | (congr 1; omega) | (simp; done)) .nil)))
 · exact (SubM.ro rfl (by first | rfl | (simp [iv, bv, yv, tv, sv]; done)) .nil)
 ·
  rintro g _ _ ⟨k, rfl, hI, rfl, rfl⟩
  have hsl := setT_le hi k hI
  have hpl := preT_len xss k
  refine J.seq ?_
  refine J.seq ?_
  refine J.reg ?_
  refine WL.rd (RD.move rfl) rfl rfl ?_
  refine WL.rd (RD.move rfl) rfl rfl ?_
  refine WL.rd (RD.lenR rfl) rfl rfl ?_
  refine WL.rd (RD.lss rfl rfl) rfl rfl ?_
  refine WL.nil ?_
  refine JE.seqN ?_
  refine J.condP rfl (fun hc9 => ?_) (fun hc9 => ?_)
  ·
   refine J.skip ?_
   refine JE.seqN ?_
   refine J.seq ?_
   refine J.block ?_
   refine J.cut (fun ee mm => ((True)) ∧ ee = [(0, v), (3, .string (bs (preT xss k))), (4, .int .i64 (k : Int))] ∧ mm = [.ro v 1 (us.map uv)]) ?_ ?_
   ·
    refine J.seq ?_
    refine J.reg ?_
    refine WL.rd (RD.move rfl) rfl rfl ?_
    refine WL.rd (RD.gtr rfl rfl) rfl rfl ?_
    refine WL.nil ?_
    refine JE.seqN ?_
    refine J.condP rfl (fun hc13 => ?_) (fun hc13 => ?_)
    ·
     refine J.reg ?_
     refine WL.rd (RD.move rfl) rfl rfl ?_
     refine WL.rd (RD.addS (b := [32]) rfl rfl (by rw [List.length_singleton]; omega)) rfl rfl ?_
     refine WL.rd (RD.assign rfl) rfl rfl ?_
     refine WL.nil ?_
     refine JE.cutN ⟨?_, rfl, rfl⟩ ?_ ?_
     · trivial
     · exact (Sub.consE rfl (by first | rfl | (congr 1; omega) | (simp; done)) (Sub.consE rfl (by rw [preT_pos xss k (by omega)]) (Sub.consE rfl (by first | rfl | (congr 1; omega) | (simp; done)) .nil)))
     · exact (SubM.ro rfl (by first | rfl | (simp [iv, bv, yv, tv, sv]; done)) .nil)
    ·
     refine J.skip ?_
     refine JE.cutN ⟨?_, rfl, rfl⟩ ?_ ?_
     · trivial
     · exact (Sub.consE rfl (by first | rfl | (congr 1; omega) | (simp; done)) (Sub.consE rfl (by rw [preT_zero xss k (by omega)]) (Sub.consE rfl (by first | rfl | (congr 1; omega) | (simp; done)) .nil)))
     · exact (SubM.ro rfl (by first | rfl | (simp [iv, bv, yv, tv, sv]; done)) .nil)
   ·
    rintro _ _ ⟨_, rfl, rfl⟩
    refine J.seq ?_
    refine J.addOld (hR.row k (by omega)) (by decide) (fun _ => id) ?_
    have hlk := len_tot xss k (by omega)
    have hbk := hi.at k (by omega)
    refine J.reg ?_
    refine WL.rd (RD.move rfl) rfl rfl ?_
    refine WL.rd (RD.addS (b := [123]) rfl rfl (by rw [List.length_singleton]; omega)) rfl rfl ?_
    refine WL.rd (RD.assign rfl) rfl rfl ?_
    refine WL.nil ?_
    refine JE.seqN ?_
    refine J.seq ?_
    refine J.seq ?_
    refine J.reg ?_
    refine WL.rd (RD.assign rfl) rfl rfl ?_
    refine WL.nil ?_
    refine JE.seqN ?_
    refine J.block ?_
    refine J.loop (fun gg ee mm => ∃ (j : Nat), gg = (xss.getD k default).length - j ∧ ((j ≤ (xss.getD k default).length)) ∧ ee = [(0, v), (3, .string (bs (preT xss k ++ [123] ++ numT (xss.getD k default) j))), (4, .int .i64 (k : Int)), (5, .int .i64 (j : Int))] ∧ mm = [.ro v 1 (us.map uv), .ro (us.getD k default) 1 ((xss.getD k default).map iv)]) _ ⟨0, rfl, ?_, rfl, rfl⟩ ?_ ?_ ?_
    · omega
    · exact (Sub.consE rfl (by first | rfl | (congr 1; omega) | (simp; done)) (Sub.consE rfl (by rw [numT_zero, List.append_nil]) (Sub.consE rfl (by first | rfl | (congr 1; omega) | (simp; done)) (Sub.consE rfl (by first | rfl | (congr 1; omega) | (simp; done)) .nil))))
    · exact (SubM.ro rfl (by first | rfl | (simp [iv, bv, yv, tv, sv]; done)) (SubM.ro rfl (by first | rfl | (simp [iv, bv, yv, tv, sv]; done)) .nil))
    ·
     rintro g _ _ ⟨j, rfl, hJ, rfl, rfl⟩
     have hnl := numT_len _ hbk j hJ
     refine J.seq ?_
     refine J.seq ?_
     refine J.reg ?_
     refine WL.rd (RD.move rfl) rfl rfl ?_
     refine WL.rd (RD.move rfl) rfl rfl ?_
     refine WL.rd (RD.move rfl) rfl rfl ?_
     refine WL.rd (RD.idx rfl rfl (by omega) rfl) rfl rfl ?_
     refine WL.rd (RD.loadE rfl (by omega) rfl) rfl rfl ?_
     refine WL.rd (RD.lenR rfl) rfl rfl ?_
     refine WL.rd (RD.lss rfl rfl) rfl rfl ?_
     refine WL.nil ?_
     refine JE.seqN ?_
     refine J.condP rfl (fun hc24 => ?_) (fun hc24 => ?_)
     ·
      refine J.skip ?_
      refine JE.seqN ?_
      refine J.seq ?_
      refine J.block ?_
      refine J.seq ?_
      refine J.seq ?_
      refine J.reg ?_
      refine WL.rd (RD.move rfl) rfl rfl ?_
      refine WL.rd (RD.gtr rfl rfl) rfl rfl ?_
      refine WL.nil ?_
      refine JE.seqN ?_
      refine J.condP rfl (fun hc28 => ?_) (fun hc28 => ?_)
      ·
       have hqa : (preT xss k ++ [123] ++ numT (xss.getD k default) j).length = (preT xss k).length + 1 + (numT (xss.getD k default) j).length := by simp only [List.length_append, List.length_singleton]
       refine J.reg ?_
       refine WL.rd (RD.move rfl) rfl rfl ?_
       refine WL.rd (RD.addS (b := [44]) rfl rfl (by rw [hqa, List.length_singleton]; omega)) rfl rfl ?_
       refine WL.rd (RD.assign rfl) rfl rfl ?_
       refine WL.nil ?_
       refine JE.seqN ?_
       have hbj := hbk ((xss.getD k default).getD j default) (getD_mem' default (by omega))
       have hfl := fmtInt_len _ hbj
       refine J.reg ?_
       refine WL.rd (RD.move rfl) rfl rfl ?_
       refine WL.rd (RD.move rfl) rfl rfl ?_
       refine WL.rd (RD.move rfl) rfl rfl ?_
       refine WL.rd (RD.idx rfl rfl (by omega) rfl) rfl rfl ?_
       refine WL.rd (RD.loadE rfl (by omega) rfl) rfl rfl ?_
       refine WL.rd (RD.move rfl) rfl rfl ?_
       refine WL.rd (RD.idx rfl rfl (by omega) rfl) rfl rfl ?_
       refine WL.rd (RD.loadE rfl (by omega) rfl) rfl rfl ?_
       refine WL.efS (EF.callS (.cons rfl .nil) (fun w hS => sFormatInt_c _ _ (by omega))) rfl rfl ?_
       rintro ⟨⟩ -
       refine WL.rd (RD.addS rfl rfl (by simp only [List.length_append, List.length_singleton]; omega)) rfl rfl ?_
       refine WL.rd (RD.assign rfl) rfl rfl ?_
       refine WL.nil ?_
       refine JE.blockN ?_
       refine JE.seqN ?_
       refine J.reg ?_
       refine WL.rd (RD.move rfl) rfl rfl ?_
       refine WL.rd (RD.add rfl rfl (by omega) (by omega)) rfl rfl ?_
       refine WL.rd (RD.assign rfl) rfl rfl ?_
       refine WL.nil ?_
       refine JE.cutN ⟨_, ?_, j + 1, rfl, ?_, rfl, rfl⟩ ?_ ?_
       · omega
       · omega
       · exact (Sub.consE rfl (by first | rfl | (congr 1; omega) | (simp; done)) (Sub.consE rfl (by rw [numT_succ _ j (by omega) (by omega)]; simp only [List.append_assoc]) (Sub.consE rfl (by first | rfl | (congr 1; omega) | (simp; done)) (Sub.consE rfl (by first | rfl | (congr 1; omega) | (simp; done)) .nil))))
       · exact (SubM.ro rfl (by first | rfl | (simp [iv, bv, yv, tv, sv]; done)) (SubM.ro rfl (by first | rfl | (simp [iv, bv, yv, tv, sv]; done)) .nil))
      ·
       refine J.skip ?_
       refine JE.seqN ?_
       have hbj := hbk ((xss.getD k default).getD j default) (getD_mem' default (by omega))
       have hfl := fmtInt_len _ hbj
       refine J.reg ?_
       refine WL.rd (RD.move rfl) rfl rfl ?_
       refine WL.rd (RD.move rfl) rfl rfl ?_
       refine WL.rd (RD.move rfl) rfl rfl ?_
       refine WL.rd (RD.idx rfl rfl (by omega) rfl) rfl rfl ?_
       refine WL.rd (RD.loadE rfl (by omega) rfl) rfl rfl ?_
       refine WL.rd (RD.move rfl) rfl rfl ?_
       refine WL.rd (RD.idx rfl rfl (by omega) rfl) rfl rfl ?_
       refine WL.rd (RD.loadE rfl (by omega) rfl) rfl rfl ?_
       refine WL.efS (EF.callS (.cons rfl .nil) (fun w hS => sFormatInt_c _ _ (by omega))) rfl rfl ?_
       rintro ⟨⟩ -
       refine WL.rd (RD.addS rfl rfl (by simp only [List.length_append, List.length_singleton]; omega)) rfl rfl ?_
       refine WL.rd (RD.assign rfl) rfl rfl ?_
       refine WL.nil ?_
       refine JE.blockN ?_
       refine JE.seqN ?_
       refine J.reg ?_
       refine WL.rd (RD.move rfl) rfl rfl ?_
       refine WL.rd (RD.add rfl rfl (by omega) (by omega)) rfl rfl ?_
       refine WL.rd (RD.assign rfl) rfl rfl ?_
       refine WL.nil ?_
       refine JE.cutN ⟨_, ?_, j + 1, rfl, ?_, rfl, rfl⟩ ?_ ?_
       · omega
       · omega
       · exact (Sub.consE rfl (by first | rfl | (congr 1; omega) | (simp; done)) (Sub.consE rfl (by rw [numT_one _ j (by omega) (by omega)]; simp only [List.append_assoc]) (Sub.consE rfl (by first | rfl | (congr 1; omega) | (simp; done)) (Sub.consE rfl (by first | rfl | (congr 1; omega) | (simp; done)) .nil))))
       · exact (SubM.ro rfl (by first | rfl | (simp [iv, bv, yv, tv, sv]; done)) (SubM.ro rfl (by first | rfl | (simp [iv, bv, yv, tv, sv]; done)) .nil))
     ·
      refine J.exit ?_
      refine JE.seqX ?_
      refine JE.cutX ?_
      refine JE.blockHit ?_
      refine JE.seqN ?_
      have hjl : j = (xss.getD k default).length := by omega
      refine J.reg ?_
      refine WL.rd (RD.move rfl) rfl rfl ?_
      refine WL.rd (RD.addS (b := [125]) rfl rfl (by simp only [List.length_append, List.length_singleton]; omega)) rfl rfl ?_
      refine WL.rd (RD.assign rfl) rfl rfl ?_
      refine WL.nil ?_
      refine JE.blockN ?_
      refine JE.seqN ?_
      refine J.reg ?_
      refine WL.rd (RD.move rfl) rfl rfl ?_
      refine WL.rd (RD.add rfl rfl (by omega) (by omega)) rfl rfl ?_
      refine WL.rd (RD.assign rfl) rfl rfl ?_
      refine WL.nil ?_
      refine JE.cutN ⟨_, ?_, k + 1, rfl, ?_, rfl, rfl⟩ ?_ ?_
      · omega
      · omega
      · exact (Sub.consE rfl (by first | rfl | (congr 1; omega) | (simp; done)) (Sub.consE rfl (by rw [← preT_row xss k (by omega), ← hjl]) (Sub.consE rfl (by first | rfl | (congr 1; omega) | (simp; done)) .nil)))
      · exact (SubM.ro rfl (by first | rfl | (simp [iv, bv, yv, tv, sv]; done)) .nil)
  ·
   refine J.exit ?_
   refine JE.seqX ?_
   refine JE.cutX ?_
   refine JE.blockHit ?_
   refine JE.seqN ?_
   refine J.seq ?_
   refine J.seq ?_
   refine J.reg ?_
   refine WL.rd (RD.move rfl) rfl rfl ?_
   refine WL.rd (RD.eqlS rfl rfl) rfl rfl ?_
   refine WL.nil ?_
   refine JE.seqN ?_
   refine J.condP rfl (fun hc44 => ?_) (fun hc44 => ?_)
   ·
    refine J.seq ?_
    refine J.reg ?_
    refine WL.rd (RD.assign rfl) rfl rfl ?_
    refine WL.nil ?_
    refine JE.seqN ?_
    refine J.ret ?_
    refine JE.ret rfl (.tmp rfl .nil) (fun w hS => ?_)
    have hk : k = xss.length := by omega
    subst hk
    exact CS.fin hS (by unfold setsT; rw [if_pos (Decidable.byContradiction fun hh => setT_ne xss _ (by omega) (Nat.le_refl _) hc44)]; rfl)
   ·
    refine J.skip ?_
    refine JE.seqN ?_
    refine J.seq ?_
    refine J.reg ?_
    refine WL.rd (RD.move rfl) rfl rfl ?_
    refine WL.rd (RD.assign rfl) rfl rfl ?_
    refine WL.nil ?_
    refine JE.seqN ?_
    refine J.ret ?_
    refine JE.ret rfl (.tmp rfl .nil) (fun w hS => ?_)
    have hk : k = xss.length := by omega
    subst hk
    exact CS.fin hS (by unfold setsT; rw [if_neg (fun hh => hc44 (by rw [hh]; rfl))]; rfl)

end Go.Proofs.Ytoanccfpnbmmcaa
