/- Contracts of functions of the program, each walked once; written by a program of our own. -/
import Derived.Test.YtlcijjkbgcllfaaGdG
import Derived.Test.YtlcijjkbgcllfaaMk
import Derived.Test.YtlcijjkbgcllfaaSc
import Derived.Test.YtlcijjkbgcllfaaMs
import Derived.Test.YtlcijjkbgcllfaaMv
namespace Go.Proofs.Ytlcijjkbgcllfaa
open Go Go.RowKit
set_option maxRecDepth 4000

theorem l2Cut_c (l : List UInt8) (b : UInt8) (i : Int) (w : World) (hb : i = (b.toNat : Int)) (hl : l.length ≤ 1048576) :
    CN Try.prog 121 [.string (bs l), .int .u8 i] w Value (fun _ => True) (fun u => u) (fun u => [.row u 9 1 ((cutL b l).map sv)]) := by
 refine calls_of_J (mu := (fun _ => False)) (m := []) (e := [(0, .string (bs l)), (1, .int .u8 i)]) Try.func121 rfl rfl (.cons rfl (.cons rfl .nil)) (St.init _ _) ?_
 refine J.seq ?_
 refine J.reg ?_
 refine WL.rd (RD.assign rfl) rfl rfl ?_
 refine WL.nil ?_
 refine JE.seqN ?_
 refine J.seq ?_
 refine J.reg ?_
 refine WL.efS (EF.build0) rfl rfl ?_
 intro v8 _
 refine WL.rd (RD.assign rfl) rfl rfl ?_
 refine WL.nil ?_
 refine JE.seqN ?_
 refine J.seq ?_
 refine J.reg ?_
 refine WL.rd (RD.assign rfl) rfl rfl ?_
 refine WL.nil ?_
 refine JE.seqN ?_
 refine J.seq ?_
 refine J.seq ?_
 refine J.reg ?_
 refine WL.rd (RD.assign rfl) rfl rfl ?_
 refine WL.nil ?_
 refine JE.seqN ?_
 refine J.block ?_
 refine J.loop (fun gg ee mm => ∃ (k : Nat), ∃ (u : Value), ∃ (o : List (List UInt8)), ∃ (p : List UInt8), gg = l.length - k ∧ ((k ≤ l.length) ∧ (o ++ [p] = cutL b (l.take k)) ∧ (p.length ≤ k) ∧ (o.length ≤ k)) ∧ ee = [(5, u), (6, .string (bs p)), (7, .int .i64 (k : Int)), (0, .string (bs l)), (1, .int .u8 i)] ∧ mm = [.row u 9 1 ((o).map sv)]) _ ⟨0, v8, [], [], rfl, ?_, rfl, rfl⟩ ?_ ?_ ?_
 · exact ⟨by omega, by simp [cutL], by simp, by simp⟩
 · exact (Sub.consE rfl (by first | rfl | (congr 1; omega) | (simp; done)) (Sub.consE rfl (by first | rfl | (congr 1; omega) | (simp; done)) (Sub.consE rfl (by first | rfl | (congr 1; omega) | (simp; done)) (Sub.consE rfl (by first | rfl | (congr 1; omega) | (simp; done)) (Sub.consE rfl (by first | rfl | (congr 1; omega) | (simp; done)) .nil)))))
 · exact (SubM.row rfl rfl (by first | rfl | (simp [iv, bv, yv, tv, sv]; done)) .nil)
 ·
  rintro g _ _ ⟨k, u, o, p, rfl, hI, rfl, rfl⟩
  refine J.seq ?_
  refine J.seq ?_
  refine J.reg ?_
  refine WL.rd (RD.move rfl) rfl rfl ?_
  refine WL.rd (RD.move rfl) rfl rfl ?_
  refine WL.rd (RD.lenS rfl) rfl rfl ?_
  refine WL.rd (RD.lss rfl rfl) rfl rfl ?_
  refine WL.nil ?_
  refine JE.seqN ?_
  refine J.condP rfl (fun hc12 => ?_) (fun hc12 => ?_)
  ·
   refine J.skip ?_
   refine JE.seqN ?_
   refine J.seq ?_
   refine J.block ?_
   refine J.seq ?_
   refine J.reg ?_
   refine WL.rd (RD.move rfl) rfl rfl ?_
   refine WL.rd (RD.move rfl) rfl rfl ?_
   refine WL.rd (RD.indexS rfl rfl (by omega)) rfl rfl ?_
   refine WL.rd (RD.move rfl) rfl rfl ?_
   refine WL.rd (RD.eql rfl rfl) rfl rfl ?_
   refine WL.nil ?_
   refine JE.seqN ?_
   refine J.condP rfl (fun hc19 => ?_) (fun hc19 => ?_)
   ·
    refine J.seq ?_
    refine J.reg ?_
    refine WL.rd (RD.move rfl) rfl rfl ?_
    refine WL.rd (RD.move rfl) rfl rfl ?_
    refine WL.efS (EF.build1 rfl) rfl rfl ?_
    intro v22 _
    refine WL.efS (EF.append rfl rfl (by omega) rfl rfl rfl) rfl rfl ?_
    intro v23 _
    refine WL.rd (RD.assign rfl) rfl rfl ?_
    refine WL.nil ?_
    refine JE.seqN ?_
    refine J.reg ?_
    refine WL.rd (RD.assign rfl) rfl rfl ?_
    refine WL.nil ?_
    refine JE.blockN ?_
    refine JE.seqN ?_
    refine J.reg ?_
    refine WL.rd (RD.move rfl) rfl rfl ?_
    refine WL.rd (RD.add rfl rfl (by omega) (by omega)) rfl rfl ?_
    refine WL.rd (RD.assign rfl) rfl rfl ?_
    refine WL.nil ?_
    refine JE.cutN ⟨_, ?_, k + 1, v23, o ++ [p], [], rfl, ?_, rfl, rfl⟩ ?_ ?_
    · omega
    · exact ⟨by omega, by rw [take_succ_getD l 0 k (by omega), u8_eq hb hc19, cutL_snoc_eq, ← hI.2.1], by simp, by rw [List.length_append, List.length_singleton]; omega⟩
    · exact (Sub.consE rfl (by first | rfl | (congr 1; omega) | (simp; done)) (Sub.consE rfl (by first | rfl | (congr 1; omega) | (simp; done)) (Sub.consE rfl (by first | rfl | (congr 1; omega) | (simp; done)) (Sub.consE rfl (by first | rfl | (congr 1; omega) | (simp; done)) (Sub.consE rfl (by first | rfl | (congr 1; omega) | (simp; done)) .nil)))))
    · exact (SubM.row rfl rfl (by first | rfl | (simp [iv, bv, yv, tv, sv]; done)) .nil)
   ·
    refine J.reg ?_
    refine WL.rd (RD.move rfl) rfl rfl ?_
    refine WL.rd (RD.move rfl) rfl rfl ?_
    refine WL.rd (RD.move rfl) rfl rfl ?_
    refine WL.rd (RD.move rfl) rfl rfl ?_
    refine WL.rd (RD.add rfl rfl (by omega) (by omega)) rfl rfl ?_
    refine WL.rd (RD.sliceS (l := k) (u := k + 1) rfl ⟨_, _, rfl, (by first | rfl | (simp; done) | omega)⟩ ⟨_, _, rfl, (by first | rfl | (simp; done) | omega)⟩ (by omega) (by omega)) rfl rfl ?_
    refine WL.rd (RD.addS rfl rfl (by rw [take_drop_one l k (by omega), List.length_singleton]; omega)) rfl rfl ?_
    refine WL.rd (RD.assign rfl) rfl rfl ?_
    refine WL.nil ?_
    refine JE.blockN ?_
    refine JE.seqN ?_
    refine J.reg ?_
    refine WL.rd (RD.move rfl) rfl rfl ?_
    refine WL.rd (RD.add rfl rfl (by omega) (by omega)) rfl rfl ?_
    refine WL.rd (RD.assign rfl) rfl rfl ?_
    refine WL.nil ?_
    refine JE.cutN ⟨_, ?_, k + 1, u, o, p ++ [l.getD k 0], rfl, ?_, rfl, rfl⟩ ?_ ?_
    · omega
    · exact ⟨by omega, by rw [take_succ_getD l 0 k (by omega), cutL_snoc_ne b _ (u8_ne hb hc19) _ o p hI.2.1], by rw [List.length_append, List.length_singleton]; omega, by omega⟩
    · exact (Sub.consE rfl (by first | rfl | (congr 1; omega) | (simp; done)) (Sub.consE rfl (by rw [take_drop_one l k (by omega)]) (Sub.consE rfl (by first | rfl | (congr 1; omega) | (simp; done)) (Sub.consE rfl (by first | rfl | (congr 1; omega) | (simp; done)) (Sub.consE rfl (by first | rfl | (congr 1; omega) | (simp; done)) .nil)))))
    · exact (SubM.row rfl rfl (by first | rfl | (simp [iv, bv, yv, tv, sv]; done)) .nil)
  ·
   refine J.exit ?_
   refine JE.seqX ?_
   refine JE.cutX ?_
   refine JE.blockHit ?_
   refine JE.seqN ?_
   refine J.seq ?_
   refine J.reg ?_
   refine WL.rd (RD.move rfl) rfl rfl ?_
   refine WL.rd (RD.move rfl) rfl rfl ?_
   refine WL.efS (EF.build1 rfl) rfl rfl ?_
   intro v33 _
   refine WL.efS (EF.append rfl rfl (by omega) rfl rfl rfl) rfl rfl ?_
   intro v34 _
   refine WL.rd (RD.assign rfl) rfl rfl ?_
   refine WL.nil ?_
   refine JE.seqN ?_
   refine J.ret ?_
   refine JE.ret rfl (.tmp rfl .nil) (fun w hS => ?_)
   exact CN.fin hS v34 rfl trivial (SubM.row rfl rfl (by have hkl : k = l.length := (by omega); subst hkl; rw [← (show o ++ [p] = cutL b l from (by have h1 := hI.2.1; simpa only [List.take_length] using h1))]) .nil) (by simp [En.rdb])
theorem cut_c (l : List UInt8) (b : UInt8) (i : Int) (w : World) (hb : i = (b.toNat : Int)) (hl : l.length ≤ 1048576) :
    CN Try.prog 117 [.string (bs l), .int .u8 i] w Value (fun _ => True) (fun u => u) (fun u => [.row u 9 1 ((cutL b l).map sv)]) := by
 refine calls_of_J (mu := (fun _ => False)) (m := []) (e := [(0, .string (bs l)), (1, .int .u8 i)]) Try.func117 rfl rfl (.cons rfl (.cons rfl .nil)) (St.init _ _) ?_
 refine J.seq ?_
 refine J.reg ?_
 refine WL.rd (RD.assign rfl) rfl rfl ?_
 refine WL.nil ?_
 refine JE.seqN ?_
 refine J.seq ?_
 refine J.reg ?_
 refine WL.efS (EF.build0) rfl rfl ?_
 intro v8 _
 refine WL.rd (RD.assign rfl) rfl rfl ?_
 refine WL.nil ?_
 refine JE.seqN ?_
 refine J.seq ?_
 refine J.reg ?_
 refine WL.rd (RD.assign rfl) rfl rfl ?_
 refine WL.nil ?_
 refine JE.seqN ?_
 refine J.seq ?_
 refine J.seq ?_
 refine J.reg ?_
 refine WL.rd (RD.assign rfl) rfl rfl ?_
 refine WL.nil ?_
 refine JE.seqN ?_
 refine J.block ?_
 refine J.loop (fun gg ee mm => ∃ (k : Nat), ∃ (u : Value), ∃ (o : List (List UInt8)), ∃ (f : Nat), gg = l.length - k ∧ ((k ≤ l.length) ∧ (o ++ [(l.take k).drop f] = cutL b (l.take k)) ∧ (f ≤ k) ∧ (o.length ≤ k)) ∧ ee = [(5, u), (6, .int .i64 (f : Int)), (7, .int .i64 (k : Int)), (0, .string (bs l)), (1, .int .u8 i)] ∧ mm = [.row u 9 1 ((o).map sv)]) _ ⟨0, v8, [], 0, rfl, ?_, rfl, rfl⟩ ?_ ?_ ?_
 · exact ⟨by omega, by simp [cutL], by simp, by simp⟩
 · exact (Sub.consE rfl (by first | rfl | (congr 1; omega) | (simp; done)) (Sub.consE rfl (by first | rfl | (congr 1; omega) | (simp; done)) (Sub.consE rfl (by first | rfl | (congr 1; omega) | (simp; done)) (Sub.consE rfl (by first | rfl | (congr 1; omega) | (simp; done)) (Sub.consE rfl (by first | rfl | (congr 1; omega) | (simp; done)) .nil)))))
 · exact (SubM.row rfl rfl (by first | rfl | (simp [iv, bv, yv, tv, sv]; done)) .nil)
 ·
  rintro g _ _ ⟨k, u, o, f, rfl, hI, rfl, rfl⟩
  refine J.seq ?_
  refine J.seq ?_
  refine J.reg ?_
  refine WL.rd (RD.move rfl) rfl rfl ?_
  refine WL.rd (RD.move rfl) rfl rfl ?_
  refine WL.rd (RD.lenS rfl) rfl rfl ?_
  refine WL.rd (RD.lss rfl rfl) rfl rfl ?_
  refine WL.nil ?_
  refine JE.seqN ?_
  refine J.condP rfl (fun hc12 => ?_) (fun hc12 => ?_)
  ·
   refine J.skip ?_
   refine JE.seqN ?_
   refine J.seq ?_
   refine J.block ?_
   refine J.seq ?_
   refine J.reg ?_
   refine WL.rd (RD.move rfl) rfl rfl ?_
   refine WL.rd (RD.move rfl) rfl rfl ?_
   refine WL.rd (RD.indexS rfl rfl (by omega)) rfl rfl ?_
   refine WL.rd (RD.move rfl) rfl rfl ?_
   refine WL.rd (RD.eql rfl rfl) rfl rfl ?_
   refine WL.nil ?_
   refine JE.seqN ?_
   refine J.condP rfl (fun hc19 => ?_) (fun hc19 => ?_)
   ·
    refine J.seq ?_
    refine J.reg ?_
    refine WL.rd (RD.move rfl) rfl rfl ?_
    refine WL.rd (RD.move rfl) rfl rfl ?_
    refine WL.rd (RD.move rfl) rfl rfl ?_
    refine WL.rd (RD.move rfl) rfl rfl ?_
    refine WL.rd (RD.sliceS (l := f) (u := k) rfl ⟨_, _, rfl, (by first | rfl | (simp; done) | omega)⟩ ⟨_, _, rfl, (by first | rfl | (simp; done) | omega)⟩ (by omega) (by omega)) rfl rfl ?_
    refine WL.efS (EF.build1 rfl) rfl rfl ?_
    intro v25 _
    refine WL.efS (EF.append rfl rfl (by omega) rfl rfl rfl) rfl rfl ?_
    intro v26 _
    refine WL.rd (RD.assign rfl) rfl rfl ?_
    refine WL.nil ?_
    refine JE.seqN ?_
    refine J.reg ?_
    refine WL.rd (RD.move rfl) rfl rfl ?_
    refine WL.rd (RD.add rfl rfl (by omega) (by omega)) rfl rfl ?_
    refine WL.rd (RD.assign rfl) rfl rfl ?_
    refine WL.nil ?_
    refine JE.blockN ?_
    refine JE.seqN ?_
    refine J.reg ?_
    refine WL.rd (RD.move rfl) rfl rfl ?_
    refine WL.rd (RD.add rfl rfl (by omega) (by omega)) rfl rfl ?_
    refine WL.rd (RD.assign rfl) rfl rfl ?_
    refine WL.nil ?_
    refine JE.cutN ⟨_, ?_, k + 1, v26, o ++ [(l.take k).drop f], k + 1, rfl, ?_, rfl, rfl⟩ ?_ ?_
    · omega
    · exact ⟨by omega, by rw [List.drop_eq_nil_of_le (show (l.take (k + 1)).length ≤ k + 1 from List.length_take_le _ _), take_succ_getD l 0 k (by omega), u8_eq hb hc19, cutL_snoc_eq, ← hI.2.1], by omega, by rw [List.length_append, List.length_singleton]; omega⟩
    · exact (Sub.consE rfl (by first | rfl | (congr 1; omega) | (simp; done)) (Sub.consE rfl (by first | rfl | (congr 1; omega) | (simp; done)) (Sub.consE rfl (by first | rfl | (congr 1; omega) | (simp; done)) (Sub.consE rfl (by first | rfl | (congr 1; omega) | (simp; done)) (Sub.consE rfl (by first | rfl | (congr 1; omega) | (simp; done)) .nil)))))
    · exact (SubM.row rfl rfl (by first | rfl | (simp [iv, bv, yv, tv, sv]; done)) .nil)
   ·
    refine J.skip ?_
    refine JE.blockN ?_
    refine JE.seqN ?_
    refine J.reg ?_
    refine WL.rd (RD.move rfl) rfl rfl ?_
    refine WL.rd (RD.add rfl rfl (by omega) (by omega)) rfl rfl ?_
    refine WL.rd (RD.assign rfl) rfl rfl ?_
    refine WL.nil ?_
    refine JE.cutN ⟨_, ?_, k + 1, u, o, f, rfl, ?_, rfl, rfl⟩ ?_ ?_
    · omega
    · exact ⟨by omega, by rw [take_drop_snoc l k f (by omega) (by omega), take_succ_getD l 0 k (by omega), cutL_snoc_ne b _ (u8_ne hb hc19) _ o _ hI.2.1], by omega, by omega⟩
    · exact (Sub.consE rfl (by first | rfl | (congr 1; omega) | (simp; done)) (Sub.consE rfl (by first | rfl | (congr 1; omega) | (simp; done)) (Sub.consE rfl (by first | rfl | (congr 1; omega) | (simp; done)) (Sub.consE rfl (by first | rfl | (congr 1; omega) | (simp; done)) (Sub.consE rfl (by first | rfl | (congr 1; omega) | (simp; done)) .nil)))))
    · exact (SubM.row rfl rfl (by first | rfl | (simp [iv, bv, yv, tv, sv]; done)) .nil)
  ·
   refine J.exit ?_
   refine JE.seqX ?_
   refine JE.cutX ?_
   refine JE.blockHit ?_
   refine JE.seqN ?_
   refine J.seq ?_
   refine J.reg ?_
   refine WL.rd (RD.move rfl) rfl rfl ?_
   refine WL.rd (RD.move rfl) rfl rfl ?_
   refine WL.rd (RD.move rfl) rfl rfl ?_
   refine WL.rd (RD.sliceS (l := f) (u := l.length) rfl ⟨_, _, rfl, (by first | rfl | (simp; done) | omega)⟩ rfl (by omega) (by omega)) rfl rfl ?_
   refine WL.efS (EF.build1 rfl) rfl rfl ?_
   intro v33 _
   refine WL.efS (EF.append rfl rfl (by omega) rfl rfl rfl) rfl rfl ?_
   intro v34 _
   refine WL.rd (RD.assign rfl) rfl rfl ?_
   refine WL.nil ?_
   refine JE.seqN ?_
   refine J.ret ?_
   refine JE.ret rfl (.tmp rfl .nil) (fun w hS => ?_)
   exact CN.fin hS v34 rfl trivial (SubM.row rfl rfl (by have hkl : k = l.length := (by omega); subst hkl; rw [← (show o ++ [(l.take l.length).drop f] = cutL b l from (by have h1 := hI.2.1; simpa only [List.take_length] using h1))]) .nil) (by simp [En.rdb])
theorem l2Number_c (l : List UInt8) (w : World) (hl : l.length ≤ 1048576) :
    CS Try.prog 122 [.string (bs l)] w (.int .i64 (numS l)) := by
 refine calls_of_J (mu := (fun _ => False)) (m := []) (e := [(0, .string (bs l))]) Try.func122 rfl rfl (.cons rfl .nil) (St.init _ _) ?_
 refine J.seq ?_
 refine J.reg ?_
 refine WL.rd (RD.assign rfl) rfl rfl ?_
 refine WL.nil ?_
 refine JE.seqN ?_
 refine J.seq ?_
 refine J.reg ?_
 refine WL.rd (RD.move rfl) rfl rfl ?_
 refine WL.efS (EF.callS (.cons rfl .nil) (fun w hS => sParseInt_c _ _ (by omega))) rfl rfl ?_
 rintro ⟨⟩ -
 refine WL.rd (RD.move rfl) rfl rfl ?_
 refine WL.rd (RD.extract rfl rfl) rfl rfl ?_
 refine WL.rd (RD.extract rfl rfl) rfl rfl ?_
 refine WL.rd (RD.assign rfl) rfl rfl ?_
 refine WL.rd (RD.assign rfl) rfl rfl ?_
 refine WL.nil ?_
 refine JE.seqN ?_
 refine J.seq ?_
 refine J.seq ?_
 refine J.reg ?_
 refine WL.rd (RD.move rfl) rfl rfl ?_
 refine WL.rd (RD.not rfl) rfl rfl ?_
 refine WL.nil ?_
 refine JE.seqN ?_
 refine J.cond rfl (fun hc11 => ?_) (fun hc11 => ?_)
 ·
  refine J.seq ?_
  refine J.reg ?_
  refine WL.rd (RD.assign rfl) rfl rfl ?_
  refine WL.nil ?_
  refine JE.seqN ?_
  refine J.ret ?_
  refine JE.ret rfl (.tmp rfl .nil) (fun w hS => ?_)
  exact CS.fin hS (by unfold numS; simp_all [mkRes])
 ·
  refine J.skip ?_
  refine JE.seqN ?_
  refine J.seq ?_
  refine J.reg ?_
  refine WL.rd (RD.move rfl) rfl rfl ?_
  refine WL.rd (RD.assign rfl) rfl rfl ?_
  refine WL.nil ?_
  refine JE.seqN ?_
  refine J.ret ?_
  refine JE.ret rfl (.tmp rfl .nil) (fun w hS => ?_)
  exact CS.fin hS (by unfold numS; simp_all [mkRes])
theorem sParseGraph_c (l : List UInt8) (w : World) (hl : l.length ≤ 1048576) :
    CN Try.prog 37 [.string (bs l)] w Value (fun _ => True) (fun u => .tuple #[.agg #[.int .i64 (gN l), u], .bool (parseG l).isSome]) (fun u => [.row u 50 2 ((gX l).map bv)]) := by
 have hwl : 1 ≤ (cutL 32 l).length := List.length_pos_iff.2 (cutL_ne 32 l)
 have hw0 := cutL_getD 32 l 0
 have hwx := cutL_len 32 l
 refine calls_of_J (mu := (fun _ => False)) (m := []) (e := [(0, .string (bs l))]) Try.func37 rfl rfl (.cons rfl .nil) (St.init _ _) ?_
 refine J.seq ?_
 refine J.reg ?_
 refine WL.efS (EF.allocA) rfl rfl ?_
 intro b2 _
 refine WL.rd (RD.assign rfl) rfl rfl ?_
 refine WL.nil ?_
 refine JE.seqN ?_
 refine J.seq ?_
 refine J.nilRow 50 2 ?_
 refine J.reg ?_
 refine WL.rd (RD.move rfl) rfl rfl ?_
 refine WL.efS (EF.callN (.cons rfl (.cons rfl .nil)) (fun w hS => l2Cut_c _ 32 _ _ rfl (by omega))) rfl rfl ?_
 rintro v9 -
 refine WL.rd (RD.assign rfl) rfl rfl ?_
 refine WL.nil ?_
 refine JE.seqN ?_
 refine J.seq ?_
 refine J.reg ?_
 refine WL.efS (EF.build0) rfl rfl ?_
 intro v10 _
 refine WL.rd (RD.build (n := 2) (.cons rfl .nil) rfl) rfl rfl ?_
 refine WL.efS (EF.allocA) rfl rfl ?_
 intro b5 _
 refine WL.efN (EF.storeA rfl rfl rfl rfl) rfl ?_
 rintro ⟨⟩ -
 refine WL.nil ?_
 refine JE.seqN ?_
 refine J.seq ?_
 refine J.seq ?_
 refine J.reg ?_
 refine WL.rd (RD.move rfl) rfl rfl ?_
 refine WL.rd (RD.idx rfl rfl (by omega) rfl) rfl rfl ?_
 refine WL.rd (RD.loadE rfl (by omega) rfl) rfl rfl ?_
 refine WL.rd (RD.lenS rfl) rfl rfl ?_
 refine WL.rd (RD.lss rfl rfl) rfl rfl ?_
 refine WL.nil ?_
 refine JE.seqN ?_
 refine J.condP rfl (fun hc16 => ?_) (fun hc16 => ?_)
 ·
  refine J.seq ?_
  refine J.reg ?_
  refine WL.rd (RD.build (n := 2) .nil rfl) rfl rfl ?_
  refine WL.efN (EF.storeA rfl rfl rfl rfl) rfl ?_
  rintro ⟨⟩ -
  refine WL.rd (RD.assign rfl) rfl rfl ?_
  refine WL.nil ?_
  refine JE.seqN ?_
  refine J.ret ?_
  refine JE.ret rfl (ResL.flat rfl rfl (.tmp rfl .nil)) (fun w hS => ?_)
  have hp : parseG l = none := parseG_bad reads_numS (.inr (.inl (by omega)))
  exact CN.fin hS (.slice none 0 0) (by unfold gN; rw [hp]; rfl) trivial (SubM.row rfl rfl (by unfold gX; rw [hp]; rfl) .nil) (by simp [En.rdb])
 ·
  refine J.skip ?_
  refine JE.seqN ?_
  refine J.seq ?_
  have htk : ((((cutL 32 l).getD 0 default).take (((cutL 32 l).getD 0 default).length - 1)).drop 0).length ≤ 1048576 := by rw [List.drop_zero, List.length_take]; omega
  refine J.anyAll [11] ?_
  refine WA.takeP 0 rfl (RDP.of fun _ => RD.move rfl) rfl (by kernel_rfl) rfl ?_
  refine WA.takeP 1 rfl (RDP.idx rfl rfl (by omega) rfl) rfl (by kernel_rfl) rfl ?_
  refine WA.take 2 rfl (RD.loadE rfl (by omega) rfl) rfl (by kernel_rfl) rfl ?_
  refine WA.takeP 3 rfl (RDP.of fun _ => RD.move rfl) rfl (by kernel_rfl) rfl ?_
  refine WA.takeP 4 rfl (RDP.idx rfl rfl (by omega) rfl) rfl (by kernel_rfl) rfl ?_
  refine WA.take 5 rfl (RD.loadE rfl (by omega) rfl) rfl (by kernel_rfl) rfl ?_
  refine WA.takeP 6 rfl (RDP.of fun _ => RD.lenS rfl) rfl (by kernel_rfl) rfl ?_
  refine WA.takeP 7 rfl (RDP.of fun _ => RD.sub rfl rfl (by omega) (by omega)) rfl (by kernel_rfl) rfl ?_
  refine WA.takeP 8 rfl (RDP.of fun _ => RD.sliceS (l := 0) (u := ((cutL 32 l).getD 0 default).length - 1) rfl rfl ⟨_, _, rfl, (by first | rfl | (simp; done) | omega)⟩ (by omega) (by omega)) rfl (by kernel_rfl) rfl ?_
  refine WA.one (i := 9) (by kernel_rfl) ?_
  refine WAi.efS rfl (EF.callS (.cons rfl .nil) (fun w hS => l2Number_c _ _ (by omega))) rfl rfl (fun _ => SubI.sub) ?_
  rintro ⟨⟩ -
  refine WA.takeP 10 rfl (RDP.of fun _ => RD.fieldC rfl rfl) rfl (by kernel_rfl) rfl ?_
  refine WA.one (i := 11) (by kernel_rfl) ?_
  refine WAi.efNL rfl (EF.storeC rfl rfl rfl) rfl rfl ?_
  rintro ⟨⟩ -
  refine WB.done (by kernel_rfl) ?_
  refine JE.seqN ?_
  refine J.seq ?_
  refine J.seq ?_
  refine J.reg ?_
  refine WL.rd (RD.assign rfl) rfl rfl ?_
  refine WL.nil ?_
  refine JE.seqN ?_
  refine J.block ?_
  refine J.loop (fun gg ee mm => ∃ (i : Nat), ∃ (u : Value), gg = (cutL 32 l).length - i ∧ ((1 ≤ i) ∧ (i ≤ (cutL 32 l).length) ∧ (∀ q, 1 ≤ q → q < i → (cutL 45 ((cutL 32 l).getD q default)).length = 2)) ∧ ee = [(4, v9), (6, .int .i64 (i : Int)), (0, .string (bs l)), (2, .pointer (some ⟨b2, 0, none⟩)), (5, .pointer (some ⟨b5, 0, none⟩))] ∧ mm = [.cells b5 26 [.int .i64 (numS ((((cutL 32 l).getD 0 default).take (((cutL 32 l).getD 0 default).length - 1)).drop 0)), u], .row u 50 2 ((barsW numS (cutL 32 l) i).map bv), .row v9 9 1 (((cutL 32 l)).map sv), .row (.slice none 0 0) 50 2 [], .cells b2 26 [.int .i64 0, .slice none 0 0]]) _ ⟨1, v10, rfl, ?_, rfl, rfl⟩ ?_ ?_ ?_
  · exact ⟨by omega, by omega, fun j h1 h2 => by omega⟩
  · exact (Sub.consE rfl (by first | rfl | (congr 1; omega) | (simp; done)) (Sub.consE rfl (by first | rfl | (congr 1; omega) | (simp; done)) (Sub.consE rfl (by first | rfl | (congr 1; omega) | (simp; done)) (Sub.consE rfl (by first | rfl | (congr 1; omega) | (simp; done)) (Sub.consE rfl (by first | rfl | (congr 1; omega) | (simp; done)) .nil)))))
  · exact (SubM.cells rfl (by first | rfl | (simp; done)) (SubM.row rfl rfl (by rw [barsW_one]; rfl) (SubM.row rfl rfl (by first | rfl | (simp [iv, bv, yv, tv, sv]; done)) (SubM.row rfl rfl (by first | rfl | (simp [iv, bv, yv, tv, sv]; done)) (SubM.cells rfl (by first | rfl | (simp; done)) .nil)))))
  ·
   rintro g _ _ ⟨i, u, rfl, hI, rfl, rfl⟩
   have hbl := barsW_len numS (cutL 32 l) i (by omega)
   refine J.seq ?_
   refine J.seq ?_
   refine J.reg ?_
   refine WL.rd (RD.move rfl) rfl rfl ?_
   refine WL.rd (RD.move rfl) rfl rfl ?_
   refine WL.rd (RD.lenR rfl) rfl rfl ?_
   refine WL.rd (RD.lss rfl rfl) rfl rfl ?_
   refine WL.nil ?_
   refine JE.seqN ?_
   refine J.condP rfl (fun hc32 => ?_) (fun hc32 => ?_)
   ·
    refine J.skip ?_
    refine JE.seqN ?_
    refine J.seq ?_
    refine J.block ?_
    refine J.seq ?_
    have hwi := cutL_getD 32 l (i)
    have hq0 := cutL_getD 45 ((cutL 32 l).getD (i) default) 0
    have hq1 := cutL_getD 45 ((cutL 32 l).getD (i) default) 1
    refine J.reg ?_
    refine WL.rd (RD.move rfl) rfl rfl ?_
    refine WL.rd (RD.move rfl) rfl rfl ?_
    refine WL.rd (RD.idx rfl rfl (by omega) rfl) rfl rfl ?_
    refine WL.rd (RD.loadE rfl (by omega) rfl) rfl rfl ?_
    refine WL.efS (EF.callN (.cons rfl (.cons rfl .nil)) (fun w hS => l2Cut_c _ 45 _ _ rfl (by omega))) rfl rfl ?_
    rintro v39 -
    refine WL.rd (RD.assign rfl) rfl rfl ?_
    refine WL.nil ?_
    refine JE.seqN ?_
    refine J.seq ?_
    refine J.seq ?_
    refine J.reg ?_
    refine WL.rd (RD.move rfl) rfl rfl ?_
    refine WL.rd (RD.lenR rfl) rfl rfl ?_
    refine WL.rd (RD.neq rfl rfl) rfl rfl ?_
    refine WL.nil ?_
    refine JE.seqN ?_
    refine J.condP rfl (fun hc42 => ?_) (fun hc42 => ?_)
    ·
     refine J.seq ?_
     refine J.reg ?_
     refine WL.rd (RD.build (n := 2) .nil rfl) rfl rfl ?_
     refine WL.efN (EF.storeA rfl rfl rfl rfl) rfl ?_
     rintro ⟨⟩ -
     refine WL.rd (RD.assign rfl) rfl rfl ?_
     refine WL.nil ?_
     refine JE.seqN ?_
     refine J.ret ?_
     refine JE.ret rfl (ResL.flat rfl rfl (.tmp rfl .nil)) (fun w hS => ?_)
     have hp : parseG l = none := parseG_bad reads_numS (.inl ⟨i, by omega, by omega, .inl (by omega)⟩)
     exact CN.fin hS (.slice none 0 0) (by unfold gN; rw [hp]; rfl) trivial (SubM.row rfl rfl (by unfold gX; rw [hp]; rfl) .nil) (by simp [En.rdb])
    ·
     refine J.skip ?_
     refine JE.seqN ?_
     refine J.anyDrop [14] (u) ?_
     refine WA.takeP 0 rfl (RDP.of fun _ => RD.fieldC rfl rfl) rfl (by kernel_rfl) rfl ?_
     refine WA.take 1 rfl (RD.loadC rfl rfl) rfl (by kernel_rfl) rfl ?_
     refine WA.takeP 2 rfl (RDP.of fun _ => RD.move rfl) rfl (by kernel_rfl) rfl ?_
     refine WA.takeP 3 rfl (RDP.idx rfl rfl (by omega) rfl) rfl (by kernel_rfl) rfl ?_
     refine WA.take 4 rfl (RD.loadE rfl (by omega) rfl) rfl (by kernel_rfl) rfl ?_
     refine WA.takeP 6 rfl (RDP.of fun _ => RD.move rfl) rfl (by kernel_rfl) rfl ?_
     refine WA.takeP 7 rfl (RDP.idx rfl rfl (by omega) rfl) rfl (by kernel_rfl) rfl ?_
     refine WA.take 8 rfl (RD.loadE rfl (by omega) rfl) rfl (by kernel_rfl) rfl ?_
     refine WA.one (i := 5) (by kernel_rfl) ?_
     refine WAi.efS rfl (EF.callS (.cons rfl .nil) (fun w hS => l2Number_c _ _ (by omega))) rfl rfl (fun _ => SubI.sub) ?_
     rintro ⟨⟩ -
     refine WA.one (i := 9) (by kernel_rfl) ?_
     refine WAi.efS rfl (EF.callS (.cons rfl .nil) (fun w hS => l2Number_c _ _ (by omega))) rfl rfl (fun _ => SubI.sub) ?_
     rintro ⟨⟩ -
     refine WA.takeP 10 rfl (RDP.build (n := 2) (.cons rfl (.cons rfl .nil)) rfl) rfl (by kernel_rfl) rfl ?_
     refine WA.one (i := 11) (by kernel_rfl) ?_
     refine WAi.efS rfl (EF.build1P rfl) rfl rfl (fun _ => SubI.sub) ?_
     intro v55 _
     refine WA.one (i := 12) (by kernel_rfl) ?_
     refine WAi.efS rfl (EF.append rfl rfl (by omega) rfl rfl rfl) rfl rfl (fun _ => SubI.sub) ?_
     intro v56 _
     refine WA.takeP 13 rfl (RDP.of fun _ => RD.fieldC rfl rfl) rfl (by kernel_rfl) rfl ?_
     refine WA.one (i := 14) (by kernel_rfl) ?_
     refine WAi.efNL rfl (EF.storeC rfl rfl rfl) rfl rfl ?_
     rintro ⟨⟩ -
     refine WB.done (by kernel_rfl) ?_
     refine JE.blockN ?_
     refine JE.seqN ?_
     refine J.reg ?_
     refine WL.rd (RD.move rfl) rfl rfl ?_
     refine WL.rd (RD.add rfl rfl (by omega) (by omega)) rfl rfl ?_
     refine WL.rd (RD.assign rfl) rfl rfl ?_
     refine WL.nil ?_
     refine JE.cutN ⟨_, ?_, i + 1, v56, rfl, ?_, rfl, rfl⟩ ?_ ?_
     · omega
     · exact ⟨by omega, by omega, fun j h1 h2 => (Nat.lt_succ_iff_lt_or_eq.1 h2).elim (hI.2.2 j h1) (fun hh => by subst hh; have hcc := Decidable.not_not.1 hc42; omega)⟩
     · exact (Sub.consE rfl (by first | rfl | (congr 1; omega) | (simp; done)) (Sub.consE rfl (by first | rfl | (congr 1; omega) | (simp; done)) (Sub.consE rfl (by first | rfl | (congr 1; omega) | (simp; done)) (Sub.consE rfl (by first | rfl | (congr 1; omega) | (simp; done)) (Sub.consE rfl (by first | rfl | (congr 1; omega) | (simp; done)) .nil)))))
     · exact (SubM.cells rfl (by first | rfl | (simp; done)) (SubM.row rfl rfl (by rw [barsW_succ numS (cutL 32 l) i (by omega) (by omega)]; rfl) (SubM.row rfl rfl (by first | rfl | (simp [iv, bv, yv, tv, sv]; done)) (SubM.row rfl rfl (by first | rfl | (simp [iv, bv, yv, tv, sv]; done)) (SubM.cells rfl (by first | rfl | (simp; done)) .nil)))))
   ·
    refine J.exit ?_
    refine JE.seqX ?_
    refine JE.cutX ?_
    refine JE.blockHit ?_
    refine JE.seqN ?_
    refine J.seq ?_
    refine J.seq ?_
    refine J.reg ?_
    refine WL.rd (RD.loadA rfl rfl) rfl rfl ?_
    refine WL.efS (EF.callS (.cons rfl .nil) (fun w hS => sFormatGraph_c _ _ _ _ (by exact RdI.rd hS))) rfl rfl ?_
    rintro ⟨⟩ -
    refine WL.rd (RD.move rfl) rfl rfl ?_
    refine WL.rd (RD.neqS rfl rfl) rfl rfl ?_
    refine WL.nil ?_
    refine JE.seqN ?_
    refine J.condP rfl (fun hc61 => ?_) (fun hc61 => ?_)
    ·
     refine J.seq ?_
     refine J.reg ?_
     refine WL.rd (RD.build (n := 2) .nil rfl) rfl rfl ?_
     refine WL.efN (EF.storeA rfl rfl rfl rfl) rfl ?_
     rintro ⟨⟩ -
     refine WL.rd (RD.assign rfl) rfl rfl ?_
     refine WL.nil ?_
     refine JE.seqN ?_
     refine J.ret ?_
     refine JE.ret rfl (ResL.flat rfl rfl (.tmp rfl .nil)) (fun w hS => ?_)
     have hil : i = (cutL 32 l).length := by omega
     have hp : parseG l = none := parseG_bad reads_numS (.inr (.inr (.inr (by rw [← hil]; exact hc61))))
     exact CN.fin hS (.slice none 0 0) (by unfold gN; rw [hp]; rfl) trivial (SubM.row rfl rfl (by unfold gX; rw [hp]; rfl) .nil) (by simp [En.rdb])
    ·
     refine J.skip ?_
     refine JE.seqN ?_
     refine J.seq ?_
     refine J.reg ?_
     refine WL.rd (RD.loadA rfl rfl) rfl rfl ?_
     refine WL.efN (EF.storeA rfl rfl rfl rfl) rfl ?_
     rintro ⟨⟩ -
     refine WL.rd (RD.assign rfl) rfl rfl ?_
     refine WL.nil ?_
     refine JE.seqN ?_
     refine J.ret ?_
     refine JE.ret rfl (ResL.flat rfl rfl (.tmp rfl .nil)) (fun w hS => ?_)
     have hil : i = (cutL 32 l).length := by omega
     have hf : fmtG (numS ((((cutL 32 l).getD 0 default).take (((cutL 32 l).getD 0 default).length - 1)).drop 0)) (barsW numS (cutL 32 l) (cutL 32 l).length) = l := by rw [← hil]; exact Decidable.not_not.1 hc61
     have hne : l ≠ [] := fun hh => by subst hh; exact hc16 (by decide)
     have hp := (parseG_some hf hne).1
     exact CN.fin hS u (by unfold gN; rw [hp]; rfl) trivial (SubM.row rfl rfl (by unfold gX; rw [hp, hil]) .nil) (by simp [En.rdb])
theorem iParseGraph_c (l : List UInt8) (w : World) (hl : l.length ≤ 1048576) :
    CN Try.prog 35 [.string (bs l)] w Value (fun _ => True) (fun u => .tuple #[.agg #[.int .i64 (gN l), u], .bool (parseG l).isSome]) (fun u => [.row u 50 2 ((gX l).map bv)]) := by
 have hwl : 1 ≤ (cutL 32 l).length := List.length_pos_iff.2 (cutL_ne 32 l)
 have hw0 := cutL_getD 32 l 0
 have hwx := cutL_len 32 l
 refine calls_of_J (mu := (fun _ => False)) (m := []) (e := [(0, .string (bs l))]) Try.func35 rfl rfl (.cons rfl .nil) (St.init _ _) ?_
 refine J.seq ?_
 refine J.reg ?_
 refine WL.efS (EF.allocA) rfl rfl ?_
 intro b2 _
 refine WL.rd (RD.assign rfl) rfl rfl ?_
 refine WL.nil ?_
 refine JE.seqN ?_
 refine J.seq ?_
 refine J.nilRow 50 2 ?_
 refine J.nilRow 50 2 ?_
 refine J.reg ?_
 refine WL.rd (RD.move rfl) rfl rfl ?_
 refine WL.efS (EF.callN (.cons rfl (.cons rfl .nil)) (fun w hS => cut_c _ 32 _ _ rfl (by omega))) rfl rfl ?_
 rintro v11 -
 refine WL.rd (RD.assign rfl) rfl rfl ?_
 refine WL.nil ?_
 refine JE.seqN ?_
 refine J.seq ?_
 refine J.reg ?_
 refine WL.rd (RD.build (n := 2) .nil rfl) rfl rfl ?_
 refine WL.efS (EF.allocA) rfl rfl ?_
 intro b5 _
 refine WL.efN (EF.storeA rfl rfl rfl rfl) rfl ?_
 rintro ⟨⟩ -
 refine WL.nil ?_
 refine JE.seqN ?_
 refine J.seq ?_
 have htk : ((((cutL 32 l).getD 0 default).take (((cutL 32 l).getD 0 default).length - 1)).drop 0).length ≤ 1048576 := by rw [List.drop_zero, List.length_take]; omega
 refine J.anyAll [15] ?_
 refine WA.takeP 0 rfl (RDP.of fun _ => RD.move rfl) rfl (by kernel_rfl) rfl ?_
 refine WA.takeP 1 rfl (RDP.idx rfl rfl (by omega) rfl) rfl (by kernel_rfl) rfl ?_
 refine WA.take 2 rfl (RD.loadE rfl (by omega) rfl) rfl (by kernel_rfl) rfl ?_
 refine WA.takeP 3 rfl (RDP.of fun _ => RD.move rfl) rfl (by kernel_rfl) rfl ?_
 refine WA.takeP 4 rfl (RDP.idx rfl rfl (by omega) rfl) rfl (by kernel_rfl) rfl ?_
 refine WA.take 5 rfl (RD.loadE rfl (by omega) rfl) rfl (by kernel_rfl) rfl ?_
 refine WA.takeP 6 rfl (RDP.of fun _ => RD.lenS rfl) rfl (by kernel_rfl) rfl ?_
 refine WA.takeP 7 rfl (RDP.of fun _ => RD.sub rfl rfl (by omega) (by omega)) rfl (by kernel_rfl) rfl ?_
 refine WA.takeP 8 rfl (RDP.of fun _ => RD.max rfl rfl) rfl (by kernel_rfl) rfl ?_
 refine WA.takeP 9 rfl (RDP.of fun _ => RD.sliceS (l := 0) (u := ((cutL 32 l).getD 0 default).length - 1) rfl rfl ⟨_, _, rfl, (by first | rfl | (simp; done) | omega)⟩ (by omega) (by omega)) rfl (by kernel_rfl) rfl ?_
 refine WA.one (i := 10) (by kernel_rfl) ?_
 refine WAi.efS rfl (EF.callS (.cons rfl .nil) (fun w hS => iParseInt_c _ _ (by omega))) rfl rfl (fun _ => SubI.sub) ?_
 rintro ⟨⟩ -
 refine WA.takeP 11 rfl (RDP.of fun _ => RD.move rfl) rfl (by kernel_rfl) rfl ?_
 refine WA.takeP 12 rfl (RDP.of fun _ => RD.extract rfl rfl) rfl (by kernel_rfl) rfl ?_
 refine WA.takeP 13 rfl (RDP.of fun _ => RD.extract rfl rfl) rfl (by kernel_rfl) rfl ?_
 refine WA.takeP 14 rfl (RDP.of fun _ => RD.fieldC rfl rfl) rfl (by kernel_rfl) rfl ?_
 refine WA.one (i := 15) (by kernel_rfl) ?_
 refine WAi.efNL rfl (EF.storeC rfl rfl rfl) rfl rfl ?_
 rintro ⟨⟩ -
 refine WB.done (by kernel_rfl) ?_
 refine JE.seqN ?_
 refine J.seq ?_
 refine J.seq ?_
 refine J.reg ?_
 refine WL.rd (RD.move rfl) rfl rfl ?_
 refine WL.rd (RD.sliceR (l := 1) (u := (cutL 32 l).length) rfl ⟨_, _, rfl, (by first | rfl | (simp; done) | omega)⟩ rfl (by omega) (by omega) rfl) rfl rfl ?_
 refine WL.rd (RD.lenR rfl) rfl rfl ?_
 refine WL.rd (RD.move rfl) rfl rfl ?_
 refine WL.nil ?_
 refine JE.seqN ?_
 refine J.block ?_
 refine J.loop (fun gg ee mm => ∃ (j : Nat), ∃ (u : Value), gg = (cutL 32 l).length - j ∧ ((j + 1 ≤ (cutL 32 l).length) ∧ (∀ q, 1 ≤ q → q < j + 1 → (cutL 45 ((cutL 32 l).getD q default)).length = 2) ∧ (j ≤ 24)) ∧ ee = [(29, slF v11 1 (cutL 32 l).length 1), (30, .int .i64 (((cutL 32 l).length - 1 : Nat) : Int)), (31, .int .i64 (j : Int)), (0, .string (bs l)), (2, .pointer (some ⟨b2, 0, none⟩)), (5, .pointer (some ⟨b5, 0, none⟩))] ∧ mm = [.cells b5 26 [.int .i64 (numI ((((cutL 32 l).getD 0 default).take (((cutL 32 l).getD 0 default).length - 1)).drop 0)), u], .row u 50 2 ((barsW numI (cutL 32 l) (j + 1)).map bv), .row v11 9 1 (((cutL 32 l)).map sv), .row (.slice none 0 0) 50 2 [], .cells b2 26 [.int .i64 0, .slice none 0 0]]) _ ⟨0, .slice none 0 0, rfl, ?_, rfl, rfl⟩ ?_ ?_ ?_
 · exact ⟨by omega, fun j h1 h2 => by omega, by omega⟩
 · exact (Sub.consE rfl (by first | rfl | (congr 1; omega) | (simp; done)) (Sub.consE rfl (by rw [Nat.min_self]) (Sub.consE rfl (by first | rfl | (congr 1; omega) | (simp; done)) (Sub.consE rfl (by first | rfl | (congr 1; omega) | (simp; done)) (Sub.consE rfl (by first | rfl | (congr 1; omega) | (simp; done)) (Sub.consE rfl (by first | rfl | (congr 1; omega) | (simp; done)) .nil))))))
 · exact (SubM.cells rfl (by first | rfl | (simp; done)) (SubM.row rfl rfl (by rw [barsW_one]; rfl) (SubM.row rfl rfl (by first | rfl | (simp [iv, bv, yv, tv, sv]; done)) (SubM.row rfl rfl (by first | rfl | (simp [iv, bv, yv, tv, sv]; done)) (SubM.cells rfl (by first | rfl | (simp; done)) .nil)))))
 ·
  rintro g _ _ ⟨j, u, rfl, hI, rfl, rfl⟩
  have hbl := barsW_len numI (cutL 32 l) (j + 1) (by omega)
  refine J.seq ?_
  refine J.reg ?_
  refine WL.rd (RD.lss rfl rfl) rfl rfl ?_
  refine WL.nil ?_
  refine JE.seqN ?_
  refine J.seq ?_
  refine J.condP rfl (fun hc32 => ?_) (fun hc32 => ?_)
  ·
   refine J.skip ?_
   refine JE.seqN ?_
   refine J.seq ?_
   refine J.block ?_
   refine J.seq ?_
   refine J.reg ?_
   refine WL.rd (RD.idx rfl rfl (by omega) rfl) rfl rfl ?_
   refine WL.rd (RD.loadE rfl (by omega) rfl) rfl rfl ?_
   refine WL.rd (RD.assign rfl) rfl rfl ?_
   refine WL.say 7 (.string (bs ((cutL 32 l).getD (j + 1) default))) rfl (by rw [tail_getD]; rfl) ?_
   refine WL.nil ?_
   refine JE.seqN ?_
   refine J.seq ?_
   have hwi := cutL_getD 32 l (j + 1)
   have hq0 := cutL_getD 45 ((cutL 32 l).getD (j + 1) default) 0
   have hq1 := cutL_getD 45 ((cutL 32 l).getD (j + 1) default) 1
   refine J.reg ?_
   refine WL.rd (RD.move rfl) rfl rfl ?_
   refine WL.efS (EF.callN (.cons rfl (.cons rfl .nil)) (fun w hS => cut_c _ 45 _ _ rfl (by omega))) rfl rfl ?_
   rintro v36 -
   refine WL.rd (RD.assign rfl) rfl rfl ?_
   refine WL.nil ?_
   refine JE.seqN ?_
   refine J.seq ?_
   refine J.seq ?_
   refine J.reg ?_
   refine WL.rd (RD.move rfl) rfl rfl ?_
   refine WL.rd (RD.lenR rfl) rfl rfl ?_
   refine WL.rd (RD.neq rfl rfl) rfl rfl ?_
   refine WL.rd (RD.move rfl) rfl rfl ?_
   refine WL.caseP 40 rfl (fun hg40 => ?_) (fun hg40 => ?_)
   ·
    refine WL.noS rfl rfl ?_
    refine WL.noS rfl rfl ?_
    refine WL.noS rfl rfl ?_
    refine WL.noS rfl rfl ?_
    refine WL.rd (RD.pickT rfl rfl) rfl rfl ?_
    refine WL.nil ?_
    refine JE.seqN ?_
    refine J.condT rfl ?_
    refine J.seq ?_
    refine J.reg ?_
    refine WL.rd (RD.build (n := 2) .nil rfl) rfl rfl ?_
    refine WL.efN (EF.storeA rfl rfl rfl rfl) rfl ?_
    rintro ⟨⟩ -
    refine WL.rd (RD.assign rfl) rfl rfl ?_
    refine WL.nil ?_
    refine JE.seqN ?_
    refine J.ret ?_
    refine JE.ret rfl (ResL.flat rfl rfl (.tmp rfl .nil)) (fun w hS => ?_)
    have hp : parseG l = none := parseG_bad reads_numI (.inl ⟨j + 1, by omega, by omega, .inl (by omega)⟩)
    exact CN.fin hS (.slice none 0 0) (by unfold gN; rw [hp]; rfl) trivial (SubM.row rfl rfl (by unfold gX; rw [hp]; rfl) .nil) (by simp [En.rdb])
   ·
    refine WL.rd (RD.fieldC rfl rfl) rfl rfl ?_
    refine WL.rd (RD.loadC rfl rfl) rfl rfl ?_
    refine WL.rd (RD.lenR rfl) rfl rfl ?_
    refine WL.rd (RD.eql rfl rfl) rfl rfl ?_
    refine WL.rd (RD.pickF rfl rfl) rfl rfl ?_
    refine WL.nil ?_
    refine JE.seqN ?_
    refine J.condP rfl (fun hc45 => ?_) (fun hc45 => ?_)
    ·
     refine J.seq ?_
     refine J.reg ?_
     refine WL.rd (RD.build (n := 2) .nil rfl) rfl rfl ?_
     refine WL.efN (EF.storeA rfl rfl rfl rfl) rfl ?_
     rintro ⟨⟩ -
     refine WL.rd (RD.assign rfl) rfl rfl ?_
     refine WL.nil ?_
     refine JE.seqN ?_
     refine J.ret ?_
     refine JE.ret rfl (ResL.flat rfl rfl (.tmp rfl .nil)) (fun w hS => ?_)
     have hp : parseG l = none := parseG_bad reads_numI (.inl ⟨j + 1, by omega, by omega, .inr (by omega)⟩)
     exact CN.fin hS (.slice none 0 0) (by unfold gN; rw [hp]; rfl) trivial (SubM.row rfl rfl (by unfold gX; rw [hp]; rfl) .nil) (by simp [En.rdb])
    ·
     refine J.skip ?_
     refine JE.seqN ?_
     refine J.seq ?_
     refine J.reg ?_
     refine WL.rd (RD.build (n := 2) .nil rfl) rfl rfl ?_
     refine WL.efS (EF.allocA) rfl rfl ?_
     intro b9 _
     refine WL.efN (EF.storeA rfl rfl rfl rfl) rfl ?_
     rintro ⟨⟩ -
     refine WL.nil ?_
     refine JE.seqN ?_
     refine J.seq ?_
     refine J.reg ?_
     refine WL.rd (RD.move rfl) rfl rfl ?_
     refine WL.rd (RD.idx rfl rfl (by omega) rfl) rfl rfl ?_
     refine WL.rd (RD.loadE rfl (by omega) rfl) rfl rfl ?_
     refine WL.efS (EF.callS (.cons rfl .nil) (fun w hS => iParseInt_c _ _ (by omega))) rfl rfl ?_
     rintro ⟨⟩ -
     refine WL.rd (RD.move rfl) rfl rfl ?_
     refine WL.rd (RD.extract rfl rfl) rfl rfl ?_
     refine WL.rd (RD.extract rfl rfl) rfl rfl ?_
     refine WL.rd (RD.fieldC rfl rfl) rfl rfl ?_
     refine WL.efN (EF.storeC rfl rfl rfl) rfl ?_
     rintro ⟨⟩ -
     refine WL.nil ?_
     refine JE.seqN ?_
     refine J.seq ?_
     refine J.reg ?_
     refine WL.rd (RD.move rfl) rfl rfl ?_
     refine WL.rd (RD.idx rfl rfl (by omega) rfl) rfl rfl ?_
     refine WL.rd (RD.loadE rfl (by omega) rfl) rfl rfl ?_
     refine WL.efS (EF.callS (.cons rfl .nil) (fun w hS => iParseInt_c _ _ (by omega))) rfl rfl ?_
     rintro ⟨⟩ -
     refine WL.rd (RD.move rfl) rfl rfl ?_
     refine WL.rd (RD.extract rfl rfl) rfl rfl ?_
     refine WL.rd (RD.extract rfl rfl) rfl rfl ?_
     refine WL.rd (RD.fieldC rfl rfl) rfl rfl ?_
     refine WL.efN (EF.storeC rfl rfl rfl) rfl ?_
     rintro ⟨⟩ -
     refine WL.nil ?_
     refine JE.seqN ?_
     refine J.reg ?_
     refine WL.rd (RD.fieldC rfl rfl) rfl rfl ?_
     refine WL.rd (RD.loadC rfl rfl) rfl rfl ?_
     refine WL.rd (RD.loadA rfl rfl) rfl rfl ?_
     refine WL.efS (EF.build1P rfl) rfl rfl ?_
     intro v67 _
     refine WL.efS (EF.append rfl rfl (by omega) rfl rfl rfl) rfl rfl ?_
     intro v68 _
     refine WL.rd (RD.fieldC rfl rfl) rfl rfl ?_
     refine WL.efN (EF.storeC rfl rfl rfl) rfl ?_
     rintro ⟨⟩ -
     refine WL.nil ?_
     refine JE.blockN ?_
     refine JE.seqN ?_
     refine J.reg ?_
     refine WL.rd (RD.add rfl rfl (by omega) (by omega)) rfl rfl ?_
     refine WL.rd (RD.move rfl) rfl rfl ?_
     refine WL.nil ?_
     refine JE.cutN ⟨_, ?_, j + 1, v68, rfl, ?_, rfl, rfl⟩ ?_ ?_
     · omega
     · exact ⟨by omega, fun q h1 h2 => (Nat.lt_succ_iff_lt_or_eq.1 h2).elim (hI.2.1 q h1) (fun hh => by subst hh; have hcc := Decidable.not_not.1 hg40; omega), by omega⟩
     · exact (Sub.consE rfl (by first | rfl | (congr 1; omega) | (simp; done)) (Sub.consE rfl (by first | rfl | (congr 1; omega) | (simp; done)) (Sub.consE rfl (by first | rfl | (congr 1; omega) | (simp; done)) (Sub.consE rfl (by first | rfl | (congr 1; omega) | (simp; done)) (Sub.consE rfl (by first | rfl | (congr 1; omega) | (simp; done)) (Sub.consE rfl (by first | rfl | (congr 1; omega) | (simp; done)) .nil))))))
     · exact (SubM.cells rfl (by first | rfl | (simp; done)) (SubM.row rfl rfl (by rw [barsW_succ numI (cutL 32 l) (j + 1) (by omega) (by omega)]; rfl) (SubM.row rfl rfl (by first | rfl | (simp [iv, bv, yv, tv, sv]; done)) (SubM.row rfl rfl (by first | rfl | (simp [iv, bv, yv, tv, sv]; done)) (SubM.cells rfl (by first | rfl | (simp; done)) .nil)))))
  ·
   refine J.exit ?_
   refine JE.seqX ?_
   refine JE.cutX ?_
   refine JE.blockHit ?_
   refine JE.seqN ?_
   refine J.seq ?_
   refine J.seq ?_
   refine J.reg ?_
   refine WL.rd (RD.move rfl) rfl rfl ?_
   refine WL.rd (RD.eqlS rfl rfl) rfl rfl ?_
   refine WL.rd (RD.move rfl) rfl rfl ?_
   refine WL.caseP 73 rfl (fun hg73 => ?_) (fun hg73 => ?_)
   ·
    refine WL.noS rfl rfl ?_
    refine WL.noS rfl rfl ?_
    refine WL.noS rfl rfl ?_
    refine WL.noS rfl rfl ?_
    refine WL.rd (RD.pickT rfl rfl) rfl rfl ?_
    refine WL.nil ?_
    refine JE.seqN ?_
    refine J.condT rfl ?_
    refine J.seq ?_
    refine J.reg ?_
    refine WL.rd (RD.build (n := 2) .nil rfl) rfl rfl ?_
    refine WL.efN (EF.storeA rfl rfl rfl rfl) rfl ?_
    rintro ⟨⟩ -
    refine WL.rd (RD.assign rfl) rfl rfl ?_
    refine WL.nil ?_
    refine JE.seqN ?_
    refine J.ret ?_
    refine JE.ret rfl (ResL.flat rfl rfl (.tmp rfl .nil)) (fun w hS => ?_)
    have hp : parseG l = none := parseG_bad reads_numI (.inr (.inr (.inl (by assumption))))
    exact CN.fin hS (.slice none 0 0) (by unfold gN; rw [hp]; rfl) trivial (SubM.row rfl rfl (by unfold gX; rw [hp]; rfl) .nil) (by simp [En.rdb])
   ·
    refine WL.rd (RD.loadA rfl rfl) rfl rfl ?_
    refine WL.efS (EF.callS (.cons rfl .nil) (fun w hS => iFormatGraph_c _ _ _ _ (by exact RdI.rd hS))) rfl rfl ?_
    rintro ⟨⟩ -
    refine WL.rd (RD.move rfl) rfl rfl ?_
    refine WL.rd (RD.neqS rfl rfl) rfl rfl ?_
    refine WL.rd (RD.pickF rfl rfl) rfl rfl ?_
    refine WL.nil ?_
    refine JE.seqN ?_
    refine J.condP rfl (fun hc78 => ?_) (fun hc78 => ?_)
    ·
     refine J.seq ?_
     refine J.reg ?_
     refine WL.rd (RD.build (n := 2) .nil rfl) rfl rfl ?_
     refine WL.efN (EF.storeA rfl rfl rfl rfl) rfl ?_
     rintro ⟨⟩ -
     refine WL.rd (RD.assign rfl) rfl rfl ?_
     refine WL.nil ?_
     refine JE.seqN ?_
     refine J.ret ?_
     refine JE.ret rfl (ResL.flat rfl rfl (.tmp rfl .nil)) (fun w hS => ?_)
     have hil : j + 1 = (cutL 32 l).length := by omega
     have hp : parseG l = none := parseG_bad reads_numI (.inr (.inr (.inr (by rw [← hil]; exact hc78))))
     exact CN.fin hS (.slice none 0 0) (by unfold gN; rw [hp]; rfl) trivial (SubM.row rfl rfl (by unfold gX; rw [hp]; rfl) .nil) (by simp [En.rdb])
    ·
     refine J.skip ?_
     refine JE.seqN ?_
     refine J.seq ?_
     refine J.reg ?_
     refine WL.rd (RD.loadA rfl rfl) rfl rfl ?_
     refine WL.efN (EF.storeA rfl rfl rfl rfl) rfl ?_
     rintro ⟨⟩ -
     refine WL.rd (RD.assign rfl) rfl rfl ?_
     refine WL.nil ?_
     refine JE.seqN ?_
     refine J.ret ?_
     refine JE.ret rfl (ResL.flat rfl rfl (.tmp rfl .nil)) (fun w hS => ?_)
     have hil : j + 1 = (cutL 32 l).length := by omega
     have hf : fmtG (numI ((((cutL 32 l).getD 0 default).take (((cutL 32 l).getD 0 default).length - 1)).drop 0)) (barsW numI (cutL 32 l) (cutL 32 l).length) = l := by rw [← hil]; exact Decidable.not_not.1 hc78
     have hne : l ≠ [] := (by assumption)
     have hp := (parseG_some hf hne).1
     exact CN.fin hS u (by unfold gN; rw [hp]; rfl) trivial (SubM.row rfl rfl (by unfold gX; rw [hp, hil]) .nil) (by simp [En.rdb])

end Go.Proofs.Ytlcijjkbgcllfaa
