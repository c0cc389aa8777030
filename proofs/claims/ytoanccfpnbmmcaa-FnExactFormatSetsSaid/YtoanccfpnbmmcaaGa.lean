/- Contracts of functions of the program, each walked once; written by a program of our own. -/
import Derived.Test.YtoanccfpnbmmcaaTy
import Derived.Test.YtoanccfpnbmmcaaSb
import Derived.Test.YtoanccfpnbmmcaaMg
namespace Go.Proofs.Ytoanccfpnbmmcaa
open Go Go.RowKit
set_option maxRecDepth 4000

theorem szIntS_c (v : Value) (xs : List (Int)) (b : Int) (w : World) (hr : Rd w v 1 (xs.map iv)) (hb : 0 ≤ b ∧ b ≤ 1048576) :
    CS Try.prog 24 [v, .int .i64 b] w (.int .i64 (szf b xs.length)) := by
 have hl_xs : xs.length ≤ 9223372036854775807 := (by obtain ⟨_, _, _, hh, _⟩ := hr.shape; simpa using hh)
 refine calls_of_J (mu := (fun _ => False)) (m := [.ro v 1 (xs.map iv)]) (e := [(0, v), (1, .int .i64 b)]) Try.func24 rfl rfl (.cons rfl (.cons rfl .nil)) (((St.init _ _).ro0 hr (by decide))) ?_
 refine J.seq ?_
 refine J.reg ?_
 refine WL.rd (RD.assign rfl) rfl rfl ?_
 refine WL.nil ?_
 refine JE.seqN ?_
 refine J.seq ?_
 refine J.reg ?_
 refine WL.rd (RD.move rfl) rfl rfl ?_
 refine WL.rd (RD.move rfl) rfl rfl ?_
 refine WL.rd (RD.lenR rfl) rfl rfl ?_
 refine WL.rd (RD.sub rfl rfl (by omega) (by omega)) rfl rfl ?_
 refine WL.rd (RD.assign rfl) rfl rfl ?_
 refine WL.nil ?_
 refine JE.seqN ?_
 refine J.seq ?_
 refine J.seq ?_
 refine J.reg ?_
 refine WL.rd (RD.move rfl) rfl rfl ?_
 refine WL.rd (RD.lss rfl rfl) rfl rfl ?_
 refine WL.nil ?_
 refine JE.seqN ?_
 refine J.condP rfl (fun hc10 => ?_) (fun hc10 => ?_)
 ·
  refine J.seq ?_
  refine J.reg ?_
  refine WL.rd (RD.assign rfl) rfl rfl ?_
  refine WL.nil ?_
  refine JE.seqN ?_
  refine J.ret ?_
  refine JE.ret rfl (.tmp rfl .nil) (fun w hS => ?_)
  exact CS.fin hS (by unfold szf; rw [if_pos (by omega)]; rfl)
 ·
  refine J.skip ?_
  refine JE.seqN ?_
  refine J.seq ?_
  refine J.reg ?_
  refine WL.rd (RD.move rfl) rfl rfl ?_
  refine WL.rd (RD.assign rfl) rfl rfl ?_
  refine WL.nil ?_
  refine JE.seqN ?_
  refine J.ret ?_
  refine JE.ret rfl (.tmp rfl .nil) (fun w hS => ?_)
  exact CS.fin hS (by unfold szf; rw [if_neg (by omega)]; rfl)
theorem toIntS_c (v : Value) (xs : List (Int)) (w : World) (hr : Rd w v 1 (xs.map iv)) (hl : xs.length ≤ 1048576) :
    CN Try.prog 25 [v] w Value (fun _ => True) (fun u => u) (fun u => [.row u 3 1 (xs.map iv)]) := by
 refine calls_of_J (mu := (fun _ => False)) (m := [.ro v 1 (xs.map iv)]) (e := [(0, v)]) Try.func25 rfl rfl (.cons rfl .nil) (((St.init _ _).ro0 hr (by decide))) ?_
 refine J.seq ?_
 refine J.reg ?_
 refine WL.rd (RD.assign rfl) rfl rfl ?_
 refine WL.nil ?_
 refine JE.seqN ?_
 refine J.seq ?_
 refine J.reg ?_
 refine WL.rd (RD.move rfl) rfl rfl ?_
 refine WL.rd (RD.lenR rfl) rfl rfl ?_
 refine WL.efS (EF.makeN rfl rfl rfl rfl (by omega)) rfl rfl ?_
 intro v7 _
 refine WL.rd (RD.assign rfl) rfl rfl ?_
 refine WL.nil ?_
 refine JE.seqN ?_
 refine J.seq ?_
 refine J.seq ?_
 refine J.reg ?_
 refine WL.rd (RD.assign rfl) rfl rfl ?_
 refine WL.nil ?_
 refine JE.seqN ?_
 refine J.block ?_
 refine J.loop (fun gg ee mm => ∃ (k : Nat), gg = xs.length - k ∧ ((k ≤ xs.length)) ∧ ee = [(0, v), (3, v7), (4, .int .i64 (k : Int))] ∧ mm = [.row v7 3 1 ((xs.take k ++ List.replicate (xs.length - k) 0).map iv), .ro v 1 (xs.map iv)]) _ ⟨0, rfl, ?_, rfl, rfl⟩ ?_ ?_ ?_
 · first | omega | trivial | (refine ⟨?_, ?_⟩ <;> first | omega | rfl | simp)
 · exact (Sub.consE rfl (by first | rfl | (congr 1; omega) | (simp; done)) (Sub.consE rfl (by first | rfl | (congr 1; omega) | (simp; done)) (Sub.consE rfl (by first | rfl | (congr 1; omega) | (simp; done)) .nil)))
 · exact (SubM.row rfl rfl (by simp [iv]) (SubM.ro rfl (by first | rfl | (simp [iv, bv, yv, tv, sv]; done)) .nil))
 ·
  rintro g _ _ ⟨k, rfl, hI, rfl, rfl⟩
  have htl : (xs.take k).length = k := List.length_take_of_le (by omega)
  refine J.seq ?_
  refine J.seq ?_
  refine J.reg ?_
  refine WL.rd (RD.move rfl) rfl rfl ?_
  refine WL.rd (RD.move rfl) rfl rfl ?_
  refine WL.rd (RD.lenR rfl) rfl rfl ?_
  refine WL.rd (RD.lss rfl rfl) rfl rfl ?_
  refine WL.nil ?_
  refine JE.seqN ?_
  refine J.condP rfl (fun hc11 => ?_) (fun hc11 => ?_)
  ·
   refine J.skip ?_
   refine JE.seqN ?_
   refine J.seq ?_
   refine J.block ?_
   refine J.reg ?_
   refine WL.rd (RD.move rfl) rfl rfl ?_
   refine WL.rd (RD.move rfl) rfl rfl ?_
   refine WL.rd (RD.move rfl) rfl rfl ?_
   refine WL.rd (RD.move rfl) rfl rfl ?_
   refine WL.rd (RD.idx rfl rfl (by omega) rfl) rfl rfl ?_
   refine WL.rd (RD.loadE rfl (by omega) rfl) rfl rfl ?_
   refine WL.rd (RD.idx rfl rfl (by omega) rfl) rfl rfl ?_
   refine WL.efN (EF.storeE rfl rfl (by omega) rfl) rfl ?_
   rintro ⟨⟩ -
   refine WL.nil ?_
   refine JE.blockN ?_
   refine JE.seqN ?_
   refine J.reg ?_
   refine WL.rd (RD.move rfl) rfl rfl ?_
   refine WL.rd (RD.add rfl rfl (by omega) (by omega)) rfl rfl ?_
   refine WL.rd (RD.assign rfl) rfl rfl ?_
   refine WL.nil ?_
   refine JE.cutN ⟨_, ?_, k + 1, rfl, ?_, rfl, rfl⟩ ?_ ?_
   · omega
   · first | omega | trivial | (refine ⟨?_, ?_⟩ <;> first | omega | rfl | simp)
   · exact (Sub.consE rfl (by first | rfl | (congr 1; omega) | (simp; done)) (Sub.consE rfl (by first | rfl | (congr 1; omega) | (simp; done)) (Sub.consE rfl (by first | rfl | (congr 1; omega) | (simp; done)) .nil)))
   · exact (SubM.row rfl rfl (by exact fill_step iv xs _ _ k (by omega) rfl) (SubM.ro rfl (by first | rfl | (simp [iv, bv, yv, tv, sv]; done)) .nil))
  ·
   refine J.exit ?_
   refine JE.seqX ?_
   refine JE.cutX ?_
   refine JE.blockHit ?_
   refine JE.seqN ?_
   refine J.seq ?_
   refine J.reg ?_
   refine WL.rd (RD.move rfl) rfl rfl ?_
   refine WL.rd (RD.assign rfl) rfl rfl ?_
   refine WL.nil ?_
   refine JE.seqN ?_
   refine J.ret ?_
   refine JE.ret rfl (.tmp rfl .nil) (fun w hS => ?_)
   rw [fill_end xs 0 k (by omega)] at hS
   exact CN.fin hS v7 rfl trivial (SubM.row rfl rfl rfl .nil) (by simp [En.rdb])
theorem eqIntS_c (v u : Value) (xs ys : List (Int)) (w : World) (hr : Rd w v 1 (xs.map iv)) (hr2 : Rd w u 1 (ys.map iv)) :
    CS Try.prog 28 [v, u] w (.bool (decide (xs = ys))) := by
 have hl_xs : xs.length ≤ 9223372036854775807 := (by obtain ⟨_, _, _, hh, _⟩ := hr.shape; simpa using hh)
 have hl_ys : ys.length ≤ 9223372036854775807 := (by obtain ⟨_, _, _, hh, _⟩ := hr2.shape; simpa using hh)
 refine calls_of_J (mu := (fun _ => False)) (m := [.ro v 1 (xs.map iv), .ro u 1 (ys.map iv)]) (e := [(0, v), (1, u)]) Try.func28 rfl rfl (.cons rfl (.cons rfl .nil)) ((((St.init _ _).ro0 hr2 (by decide)).ro0 hr (by decide))) ?_
 refine J.seq ?_
 refine J.reg ?_
 refine WL.rd (RD.assign rfl) rfl rfl ?_
 refine WL.nil ?_
 refine JE.seqN ?_
 refine J.seq ?_
 refine J.seq ?_
 refine J.reg ?_
 refine WL.rd (RD.move rfl) rfl rfl ?_
 refine WL.rd (RD.lenR rfl) rfl rfl ?_
 refine WL.rd (RD.move rfl) rfl rfl ?_
 refine WL.rd (RD.lenR rfl) rfl rfl ?_
 refine WL.rd (RD.neq rfl rfl) rfl rfl ?_
 refine WL.nil ?_
 refine JE.seqN ?_
 refine J.condP rfl (fun hc10 => ?_) (fun hc10 => ?_)
 ·
  refine J.seq ?_
  refine J.reg ?_
  refine WL.rd (RD.assign rfl) rfl rfl ?_
  refine WL.nil ?_
  refine JE.seqN ?_
  refine J.ret ?_
  refine JE.ret rfl (.tmp rfl .nil) (fun w hS => ?_)
  exact CS.fin hS (mk_false (fun h => hc10 (by rw [h])))
 ·
  refine J.skip ?_
  refine JE.seqN ?_
  refine J.seq ?_
  refine J.seq ?_
  refine J.reg ?_
  refine WL.rd (RD.assign rfl) rfl rfl ?_
  refine WL.nil ?_
  refine JE.seqN ?_
  refine J.block ?_
  refine J.loop (fun gg ee mm => ∃ (k : Nat), gg = xs.length - k ∧ ((xs.length = ys.length) ∧ (∀ j, j < k → xs.getD j default = ys.getD j default)) ∧ ee = [(0, v), (1, u), (5, .int .i64 (k : Int))] ∧ mm = [.ro v 1 (xs.map iv), .ro u 1 (ys.map iv)]) _ ⟨0, rfl, ?_, rfl, rfl⟩ ?_ ?_ ?_
  · exact ⟨by omega, fun j hj => by omega⟩
  · exact (Sub.consE rfl (by first | rfl | (congr 1; omega) | (simp; done)) (Sub.consE rfl (by first | rfl | (congr 1; omega) | (simp; done)) (Sub.consE rfl (by first | rfl | (congr 1; omega) | (simp; done)) .nil)))
  · exact (SubM.ro rfl (by first | rfl | (simp [iv, bv, yv, tv, sv]; done)) (SubM.ro rfl (by first | rfl | (simp [iv, bv, yv, tv, sv]; done)) .nil))
  ·
   rintro g _ _ ⟨k, rfl, hI, rfl, rfl⟩
   refine J.seq ?_
   refine J.seq ?_
   refine J.reg ?_
   refine WL.rd (RD.move rfl) rfl rfl ?_
   refine WL.rd (RD.move rfl) rfl rfl ?_
   refine WL.rd (RD.lenR rfl) rfl rfl ?_
   refine WL.rd (RD.lss rfl rfl) rfl rfl ?_
   refine WL.nil ?_
   refine JE.seqN ?_
   refine J.condP rfl (fun hc14 => ?_) (fun hc14 => ?_)
   ·
    refine J.skip ?_
    refine JE.seqN ?_
    refine J.seq ?_
    refine J.block ?_
    refine J.seq ?_
    refine J.anyAll [] ?_
    refine WA.takeP 0 rfl (RDP.of fun _ => RD.move rfl) rfl (by kernel_rfl) rfl ?_
    refine WA.takeP 1 rfl (RDP.of fun _ => RD.move rfl) rfl (by kernel_rfl) rfl ?_
    refine WA.takeP 2 rfl (RDP.idx rfl rfl (by omega) rfl) rfl (by kernel_rfl) rfl ?_
    refine WA.take 3 rfl (RD.loadE rfl (by omega) rfl) rfl (by kernel_rfl) rfl ?_
    refine WA.takeP 4 rfl (RDP.of fun _ => RD.move rfl) rfl (by kernel_rfl) rfl ?_
    refine WA.takeP 5 rfl (RDP.of fun _ => RD.move rfl) rfl (by kernel_rfl) rfl ?_
    refine WA.takeP 6 rfl (RDP.idx rfl rfl (by omega) rfl) rfl (by kernel_rfl) rfl ?_
    refine WA.take 7 rfl (RD.loadE rfl (by omega) rfl) rfl (by kernel_rfl) rfl ?_
    refine WA.takeP 8 rfl (RDP.of fun _ => RD.neq rfl rfl) rfl (by kernel_rfl) rfl ?_
    refine WA.done (by kernel_rfl) ?_
    refine JE.seqN ?_
    refine J.condP rfl (fun hc25 => ?_) (fun hc25 => ?_)
    ·
     refine J.seq ?_
     refine J.reg ?_
     refine WL.rd (RD.assign rfl) rfl rfl ?_
     refine WL.nil ?_
     refine JE.seqN ?_
     refine J.ret ?_
     refine JE.ret rfl (.tmp rfl .nil) (fun w hS => ?_)
     exact CS.fin hS (mk_false (fun h => by subst h; simp at hc25))
    ·
     refine J.skip ?_
     refine JE.blockN ?_
     refine JE.seqN ?_
     refine J.reg ?_
     refine WL.rd (RD.move rfl) rfl rfl ?_
     refine WL.rd (RD.add rfl rfl (by omega) (by omega)) rfl rfl ?_
     refine WL.rd (RD.assign rfl) rfl rfl ?_
     refine WL.nil ?_
     refine JE.cutN ⟨_, ?_, k + 1, rfl, ?_, rfl, rfl⟩ ?_ ?_
     · omega
     · exact ⟨hI.1, fun j hj => (Nat.lt_succ_iff_lt_or_eq.1 hj).elim (hI.2 j) (fun hh => by subst hh; simpa using hc25)⟩
     · exact (Sub.consE rfl (by first | rfl | (congr 1; omega) | (simp; done)) (Sub.consE rfl (by first | rfl | (congr 1; omega) | (simp; done)) (Sub.consE rfl (by first | rfl | (congr 1; omega) | (simp; done)) .nil)))
     · exact (SubM.ro rfl (by first | rfl | (simp [iv, bv, yv, tv, sv]; done)) (SubM.ro rfl (by first | rfl | (simp [iv, bv, yv, tv, sv]; done)) .nil))
   ·
    refine J.exit ?_
    refine JE.seqX ?_
    refine JE.cutX ?_
    refine JE.blockHit ?_
    refine JE.seqN ?_
    refine J.seq ?_
    refine J.reg ?_
    refine WL.rd (RD.assign rfl) rfl rfl ?_
    refine WL.nil ?_
    refine JE.seqN ?_
    refine J.ret ?_
    refine JE.ret rfl (.tmp rfl .nil) (fun w hS => ?_)
    exact CS.fin hS (mk_true (ext_getD default _ _ hI.1 (fun j hj => hI.2 j (by omega))))

end Go.Proofs.Ytoanccfpnbmmcaa
