/- Contracts of functions of the program, each walked once; written by a program of our own. -/
import Derived.Test.YtljllahlnbkimaaCg
import Derived.Test.YtljllahlnbkimaaMf
namespace Go.Proofs.Ytljllahlnbkimaa
open Go Go.RowKit

theorem fromHex_c (b : Nat) (w : World) (_hb : b < 256) :
    CS Try.prog 36 [.int .u8 (b : Int)] w (.int .i64 (hxv b)) := by
  refine calls_of_J (mu := (fun _ => False)) (m := []) (e := [(0, .int .u8 (b : Int))]) Try.func36 rfl rfl (.cons rfl .nil) (St.init _ _) ?_
  refine J.seq ?_
  refine J.reg ?_
  refine WL.rd (RD.assign rfl) rfl rfl ?_
  refine WL.nil ?_
  refine JE.seqN ?_
  refine J.seq ?_
  refine J.seq ?_
  refine J.reg ?_
  refine WL.rd (RD.assign rfl) rfl rfl ?_
  refine WL.nil ?_
  refine JE.seqN ?_
  refine J.block ?_
  refine J.loop (fun g e m => ∃ (k : Nat), g = 16 - k ∧ ((k ≤ 16) ∧ (∀ j, j < k → ¬ (((hexDs.getD j 0).toNat : Int) = (b : Int)))) ∧ e = [(0, .int .u8 (b : Int)), (3, .int .i64 (k : Int))] ∧ m = []) _ ⟨0, rfl, ?_, rfl, rfl⟩ ?_ ?_ ?_
  · exact ⟨by omega, fun j hj => by omega⟩
  · exact (Sub.consE rfl (by first | rfl | (congr 1; omega) | (simp; done)) (Sub.consE rfl (by first | rfl | (congr 1; omega) | (simp; done)) .nil))
  · exact .nil
  · rintro g _ _ ⟨k, rfl, hI, rfl, rfl⟩
    refine J.seq ?_
    refine J.seq ?_
    refine J.reg ?_
    refine WL.rd (RD.move rfl) rfl rfl ?_
    refine WL.rd (RD.lss rfl rfl) rfl rfl ?_
    refine WL.nil ?_
    refine JE.seqN ?_
    refine J.condP rfl (fun hc5 => ?_) (fun hc5 => ?_)
    ·
      refine J.skip ?_
      refine JE.seqN ?_
      refine J.seq ?_
      refine J.block ?_
      refine J.seq ?_
      refine J.reg ?_
      refine WL.rd (RD.move rfl) rfl rfl ?_
      refine WL.efS (EF.callS (.cons rfl .nil) (fun w hS => l1Digit_c _ _ (by omega) (by omega))) rfl rfl ?_
      rintro ⟨⟩ -
      refine WL.rd (RD.move rfl) rfl rfl ?_
      refine WL.rd (RD.eql rfl rfl) rfl rfl ?_
      refine WL.nil ?_
      refine JE.seqN ?_
      refine J.condP rfl (fun hc11 => ?_) (fun hc11 => ?_)
      ·
        refine J.seq ?_
        refine J.reg ?_
        refine WL.rd (RD.move rfl) rfl rfl ?_
        refine WL.rd (RD.assign rfl) rfl rfl ?_
        refine WL.nil ?_
        refine JE.seqN ?_
        refine J.ret ?_
        refine JE.ret rfl (.tmp rfl .nil) (fun w hS => ?_)
        have h : hxv b = (k : Int) := by
          have hh := hxv_dig k (by omega)
          simp only [Int.toNat_natCast] at hc11
          rw [Int.ofNat_inj.1 hc11] at hh
          exact hh
        exact CS.fin hS (by rw [h]; rfl)
      ·
        refine J.skip ?_
        refine JE.blockN ?_
        refine JE.seqN ?_
        refine J.reg ?_
        refine WL.rd (RD.move rfl) rfl rfl ?_
        refine WL.rd (RD.add rfl rfl (by omega) (by omega)) rfl rfl ?_
        refine WL.rd (RD.assign rfl) rfl rfl ?_
        refine WL.nil ?_
        refine JE.cutN ⟨_, ?_, k + 1, rfl, ?_, rfl, rfl⟩ ?_ ?_
        · omega
        · exact ⟨by omega, fun j hj => (Nat.lt_succ_iff_lt_or_eq.1 hj).elim (hI.2 j) (fun hh => by subst hh; simpa using hc11)⟩
        · exact (Sub.consE rfl (by first | rfl | (congr 1; omega) | (simp; done)) (Sub.consE rfl (by first | rfl | (congr 1; omega) | (simp; done)) .nil))
        · exact .nil
    ·
      refine J.exit ?_
      refine JE.seqX ?_
      refine JE.cutX ?_
      refine JE.blockHit ?_
      refine JE.seqN ?_
      refine J.seq ?_
      refine J.reg ?_
      refine WL.rd (RD.assign rfl) rfl rfl ?_
      refine WL.nil ?_
      refine JE.seqN ?_
      refine J.ret ?_
      refine JE.ret rfl (.tmp rfl .nil) (fun w hS => ?_)
      have h := hxv_none b (fun j hj => hI.2 j (by omega))
      exact CS.fin hS (by rw [h]; rfl)
theorem hexValue_c (b : Nat) (w : World) (hb : b < 256) :
    CS Try.prog 37 [.int .u8 (b : Int)] w (.int .i64 (hxv b)) := by
  refine calls_of_J (mu := (fun _ => False)) (m := []) (e := [(0, .int .u8 (b : Int))]) Try.func37 rfl rfl (.cons rfl .nil) (St.init _ _) ?_
  refine J.seq ?_
  refine J.reg ?_
  refine WL.rd (RD.assign rfl) rfl rfl ?_
  refine WL.nil ?_
  refine JE.seqN ?_
  refine J.seq ?_
  refine J.block ?_
  refine J.seq ?_
  refine J.reg ?_
  refine WL.rd (RD.move rfl) rfl rfl ?_
  refine WL.rd (RD.geq rfl rfl) rfl rfl ?_
  refine WL.rd (RD.move rfl) rfl rfl ?_
  refine WL.caseP 6 rfl (fun hg6 => ?_) (fun hg6 => ?_)
  ·
    refine WL.rd (RD.move rfl) rfl rfl ?_
    refine WL.rd (RD.leq rfl rfl) rfl rfl ?_
    refine WL.rd (RD.pickT rfl rfl) rfl rfl ?_
    refine WL.rd (RD.assign rfl) rfl rfl ?_
    refine WL.nil ?_
    refine JE.seqN ?_
    refine J.condP rfl (fun hc3 => ?_) (fun hc3 => ?_)
    ·
      refine J.seq ?_
      refine J.reg ?_
      refine WL.rd (RD.move rfl) rfl rfl ?_
      refine WL.rd (RD.subB rfl rfl (by omega) (by omega)) rfl rfl ?_
      refine WL.rd (RD.convI rfl (by omega) (by omega)) rfl rfl ?_
      refine WL.rd (RD.assign rfl) rfl rfl ?_
      refine WL.nil ?_
      refine JE.seqN ?_
      refine J.ret ?_
      refine JE.ret rfl (.tmp rfl .nil) (fun w hS => ?_)
      exact CS.fin hS (by unfold hxv; simp only [mkRes]; congr 2; repeat split; all_goals omega)
    ·
      refine J.seq ?_
      refine J.reg ?_
      refine WL.rd (RD.move rfl) rfl rfl ?_
      refine WL.rd (RD.geq rfl rfl) rfl rfl ?_
      refine WL.rd (RD.move rfl) rfl rfl ?_
      refine WL.caseP 16 rfl (fun hg16 => ?_) (fun hg16 => ?_)
      ·
        refine WL.rd (RD.move rfl) rfl rfl ?_
        refine WL.rd (RD.leq rfl rfl) rfl rfl ?_
        refine WL.rd (RD.pickT rfl rfl) rfl rfl ?_
        refine WL.rd (RD.assign rfl) rfl rfl ?_
        refine WL.nil ?_
        refine JE.seqN ?_
        refine J.condP rfl (fun hc13 => ?_) (fun hc13 => ?_)
        ·
          refine J.seq ?_
          refine J.reg ?_
          refine WL.rd (RD.move rfl) rfl rfl ?_
          refine WL.rd (RD.subB rfl rfl (by omega) (by omega)) rfl rfl ?_
          refine WL.rd (RD.convI rfl (by omega) (by omega)) rfl rfl ?_
          refine WL.rd (RD.add rfl rfl (by omega) (by omega)) rfl rfl ?_
          refine WL.rd (RD.assign rfl) rfl rfl ?_
          refine WL.nil ?_
          refine JE.seqN ?_
          refine J.ret ?_
          refine JE.ret rfl (.tmp rfl .nil) (fun w hS => ?_)
          exact CS.fin hS (by unfold hxv; simp only [mkRes]; congr 2; repeat split; all_goals omega)
        ·
          refine J.skip ?_
          refine JE.blockN ?_
          refine JE.seqN ?_
          refine J.seq ?_
          refine J.reg ?_
          refine WL.rd (RD.assign rfl) rfl rfl ?_
          refine WL.nil ?_
          refine JE.seqN ?_
          refine J.ret ?_
          refine JE.ret rfl (.tmp rfl .nil) (fun w hS => ?_)
          exact CS.fin hS (by unfold hxv; simp only [mkRes]; congr 2; repeat split; all_goals omega)
      ·
        refine WL.noS rfl rfl ?_
        refine WL.noS rfl rfl ?_
        refine WL.rd (RD.pickF rfl rfl) rfl rfl ?_
        refine WL.rd (RD.assign rfl) rfl rfl ?_
        refine WL.nil ?_
        refine JE.seqN ?_
        refine J.condF rfl ?_
        refine J.skip ?_
        refine JE.blockN ?_
        refine JE.seqN ?_
        refine J.seq ?_
        refine J.reg ?_
        refine WL.rd (RD.assign rfl) rfl rfl ?_
        refine WL.nil ?_
        refine JE.seqN ?_
        refine J.ret ?_
        refine JE.ret rfl (.tmp rfl .nil) (fun w hS => ?_)
        exact CS.fin hS (by unfold hxv; simp only [mkRes]; congr 2; repeat split; all_goals omega)
  ·
    refine WL.noS rfl rfl ?_
    refine WL.noS rfl rfl ?_
    refine WL.rd (RD.pickF rfl rfl) rfl rfl ?_
    refine WL.rd (RD.assign rfl) rfl rfl ?_
    refine WL.nil ?_
    refine JE.seqN ?_
    refine J.condF rfl ?_
    refine J.seq ?_
    refine J.reg ?_
    refine WL.rd (RD.move rfl) rfl rfl ?_
    refine WL.rd (RD.geq rfl rfl) rfl rfl ?_
    refine WL.rd (RD.move rfl) rfl rfl ?_
    refine WL.caseP 16 rfl (fun hg16 => ?_) (fun hg16 => ?_)
    ·
      refine WL.rd (RD.move rfl) rfl rfl ?_
      refine WL.rd (RD.leq rfl rfl) rfl rfl ?_
      refine WL.rd (RD.pickT rfl rfl) rfl rfl ?_
      refine WL.rd (RD.assign rfl) rfl rfl ?_
      refine WL.nil ?_
      refine JE.seqN ?_
      refine J.condP rfl (fun hc13 => ?_) (fun hc13 => ?_)
      ·
        refine J.seq ?_
        refine J.reg ?_
        refine WL.rd (RD.move rfl) rfl rfl ?_
        refine WL.rd (RD.subB rfl rfl (by omega) (by omega)) rfl rfl ?_
        refine WL.rd (RD.convI rfl (by omega) (by omega)) rfl rfl ?_
        refine WL.rd (RD.add rfl rfl (by omega) (by omega)) rfl rfl ?_
        refine WL.rd (RD.assign rfl) rfl rfl ?_
        refine WL.nil ?_
        refine JE.seqN ?_
        refine J.ret ?_
        refine JE.ret rfl (.tmp rfl .nil) (fun w hS => ?_)
        exact CS.fin hS (by unfold hxv; simp only [mkRes]; congr 2; repeat split; all_goals omega)
      ·
        refine J.skip ?_
        refine JE.blockN ?_
        refine JE.seqN ?_
        refine J.seq ?_
        refine J.reg ?_
        refine WL.rd (RD.assign rfl) rfl rfl ?_
        refine WL.nil ?_
        refine JE.seqN ?_
        refine J.ret ?_
        refine JE.ret rfl (.tmp rfl .nil) (fun w hS => ?_)
        exact CS.fin hS (by unfold hxv; simp only [mkRes]; congr 2; repeat split; all_goals omega)
    ·
      refine WL.noS rfl rfl ?_
      refine WL.noS rfl rfl ?_
      refine WL.rd (RD.pickF rfl rfl) rfl rfl ?_
      refine WL.rd (RD.assign rfl) rfl rfl ?_
      refine WL.nil ?_
      refine JE.seqN ?_
      refine J.condF rfl ?_
      refine J.skip ?_
      refine JE.blockN ?_
      refine JE.seqN ?_
      refine J.seq ?_
      refine J.reg ?_
      refine WL.rd (RD.assign rfl) rfl rfl ?_
      refine WL.nil ?_
      refine JE.seqN ?_
      refine J.ret ?_
      refine JE.ret rfl (.tmp rfl .nil) (fun w hS => ?_)
      exact CS.fin hS (by unfold hxv; simp only [mkRes]; congr 2; repeat split; all_goals omega)
theorem sDecodeHex_c (l : List UInt8) (w : World) (hl : l.length ≤ 1048576) :
    CS Try.prog 23 [.string (bs l)] w (.tuple #[.string (bs ((decH l).getD [])), .bool (decH l).isSome]) := by
  refine calls_of_J (mu := (fun _ => False)) (m := []) (e := [(0, .string (bs l))]) Try.func23 rfl rfl (.cons rfl .nil) (St.init _ _) ?_
  refine J.seq ?_
  refine J.reg ?_
  refine WL.rd (RD.assign rfl) rfl rfl ?_
  refine WL.rd (RD.assign rfl) rfl rfl ?_
  refine WL.nil ?_
  refine JE.seqN ?_
  refine J.seq ?_
  refine J.reg ?_
  refine WL.efS (EF.build0) rfl rfl ?_
  intro v8 _
  refine WL.rd (RD.assign rfl) rfl rfl ?_
  refine WL.nil ?_
  refine JE.seqN ?_
  refine J.seq ?_
  refine J.seq ?_
  refine J.reg ?_
  refine WL.rd (RD.move rfl) rfl rfl ?_
  refine WL.rd (RD.lenS rfl) rfl rfl ?_
  refine WL.rd (RD.rem rfl rfl (by omega) (by omega)) rfl rfl ?_
  refine WL.rd (RD.eql rfl rfl) rfl rfl ?_
  refine WL.nil ?_
  refine JE.seqN ?_
  refine J.condP rfl (fun hc12 => ?_) (fun hc12 => ?_)
  ·
    refine J.seq ?_
    refine J.reg ?_
    refine WL.rd (RD.assign rfl) rfl rfl ?_
    refine WL.rd (RD.assign rfl) rfl rfl ?_
    refine WL.nil ?_
    refine JE.seqN ?_
    refine J.ret ?_
    refine JE.ret rfl (.tmp rfl (.tmp rfl .nil)) (fun w hS => ?_)
    have h := decH_odd _ l (Nat.le_refl _) (by omega)
    exact CS.fin hS (by rw [h]; rfl)
  ·
    refine J.skip ?_
    refine JE.seqN ?_
    refine J.seq ?_
    refine J.seq ?_
    refine J.reg ?_
    refine WL.rd (RD.assign rfl) rfl rfl ?_
    refine WL.nil ?_
    refine JE.seqN ?_
    refine J.block ?_
    refine J.loop (fun g e m => ∃ (k : Nat), ∃ (v : Value), ∃ (o : List UInt8), g = l.length - 2 * k ∧ ((2 * k ≤ l.length) ∧ (l.length % 2 = 0) ∧ (dhInv l k o) ∧ (o.length = k)) ∧ e = [(0, .string (bs l)), (4, v), (5, .int .i64 ((2 * k : Nat) : Int))] ∧ m = [.row v 5 1 (o.map yv)]) _ ⟨0, v8, [], rfl, ?_, rfl, rfl⟩ ?_ ?_ ?_
    · exact ⟨by omega, by omega, dhInv_zero l, rfl⟩
    · exact (Sub.consE rfl (by first | rfl | (congr 1; omega) | (simp; done)) (Sub.consE rfl (by first | rfl | (congr 1; omega) | (simp; done)) (Sub.consE rfl (by rfl) .nil)))
    · exact (SubM.row rfl rfl (by first | rfl | (simp [iv, bv, yv, tv, sv]; done)) .nil)
    · rintro g _ _ ⟨k, v, o, rfl, hI, rfl, rfl⟩
      have hb1 : (l.getD (2 * k) 0).toNat < 256 := (l.getD (2 * k) 0).toNat_lt
      have hb2 : (l.getD (2 * k + 1) 0).toNat < 256 := (l.getD (2 * k + 1) 0).toNat_lt
      have hx1 := hxv_lt (l.getD (2 * k) 0).toNat
      have hx2 := hxv_lt (l.getD (2 * k + 1) 0).toNat
      refine J.seq ?_
      refine J.seq ?_
      refine J.reg ?_
      refine WL.rd (RD.move rfl) rfl rfl ?_
      refine WL.rd (RD.move rfl) rfl rfl ?_
      refine WL.rd (RD.lenS rfl) rfl rfl ?_
      refine WL.rd (RD.lss rfl rfl) rfl rfl ?_
      refine WL.nil ?_
      refine JE.seqN ?_
      refine J.condP rfl (fun hc16 => ?_) (fun hc16 => ?_)
      ·
        refine J.skip ?_
        refine JE.seqN ?_
        refine J.seq ?_
        refine J.block ?_
        refine J.seq ?_
        refine J.reg ?_
        refine WL.rd (RD.move rfl) rfl rfl ?_
        refine WL.rd (RD.move rfl) rfl rfl ?_
        refine WL.rd (RD.indexS (j := 2 * k) (hj := ⟨by omega⟩) rfl rfl (by omega)) rfl rfl ?_
        refine WL.efS (EF.callS (.cons rfl .nil) (fun w hS => fromHex_c _ _ (by omega))) rfl rfl ?_
        rintro ⟨⟩ -
        refine WL.rd (RD.assign rfl) rfl rfl ?_
        refine WL.nil ?_
        refine JE.seqN ?_
        refine J.seq ?_
        refine J.reg ?_
        refine WL.rd (RD.move rfl) rfl rfl ?_
        refine WL.rd (RD.move rfl) rfl rfl ?_
        refine WL.rd (RD.add rfl rfl (by omega) (by omega)) rfl rfl ?_
        refine WL.rd (RD.indexS (j := 2 * k + 1) (hj := ⟨by omega⟩) rfl rfl (by omega)) rfl rfl ?_
        refine WL.efS (EF.callS (.cons rfl .nil) (fun w hS => fromHex_c _ _ (by omega))) rfl rfl ?_
        rintro ⟨⟩ -
        refine WL.rd (RD.assign rfl) rfl rfl ?_
        refine WL.nil ?_
        refine JE.seqN ?_
        refine J.seq ?_
        refine J.seq ?_
        refine J.reg ?_
        refine WL.rd (RD.move rfl) rfl rfl ?_
        refine WL.rd (RD.lss rfl rfl) rfl rfl ?_
        refine WL.rd (RD.move rfl) rfl rfl ?_
        refine WL.caseP 30 rfl (fun hg30 => ?_) (fun hg30 => ?_)
        ·
          refine WL.noS rfl rfl ?_
          refine WL.noS rfl rfl ?_
          refine WL.rd (RD.pickT rfl rfl) rfl rfl ?_
          refine WL.nil ?_
          refine JE.seqN ?_
          refine J.condT rfl ?_
          refine J.seq ?_
          refine J.reg ?_
          refine WL.rd (RD.assign rfl) rfl rfl ?_
          refine WL.rd (RD.assign rfl) rfl rfl ?_
          refine WL.nil ?_
          refine JE.seqN ?_
          refine J.ret ?_
          refine JE.ret rfl (.tmp rfl (.tmp rfl .nil)) (fun w hS => ?_)
          have h := dhInv_bad l k o (by omega) hI.2.2.1 (by omega)
          exact CS.fin hS (by rw [h]; rfl)
        ·
          refine WL.rd (RD.move rfl) rfl rfl ?_
          refine WL.rd (RD.lss rfl rfl) rfl rfl ?_
          refine WL.rd (RD.pickF rfl rfl) rfl rfl ?_
          refine WL.nil ?_
          refine JE.seqN ?_
          refine J.condP rfl (fun hc33 => ?_) (fun hc33 => ?_)
          ·
            refine J.seq ?_
            refine J.reg ?_
            refine WL.rd (RD.assign rfl) rfl rfl ?_
            refine WL.rd (RD.assign rfl) rfl rfl ?_
            refine WL.nil ?_
            refine JE.seqN ?_
            refine J.ret ?_
            refine JE.ret rfl (.tmp rfl (.tmp rfl .nil)) (fun w hS => ?_)
            have h := dhInv_bad l k o (by omega) hI.2.2.1 (by omega)
            exact CS.fin hS (by rw [h]; rfl)
          ·
            refine J.skip ?_
            refine JE.seqN ?_
            refine J.reg ?_
            refine WL.rd (RD.move rfl) rfl rfl ?_
            refine WL.rd (RD.move rfl) rfl rfl ?_
            refine WL.rd (RD.mul rfl rfl (by omega) (by omega)) rfl rfl ?_
            refine WL.rd (RD.move rfl) rfl rfl ?_
            refine WL.rd (RD.add rfl rfl (by omega) (by omega)) rfl rfl ?_
            refine WL.rd (RD.convB rfl) rfl rfl ?_
            refine WL.efS (EF.build1 rfl) rfl rfl ?_
            intro v40 _
            refine WL.efS (EF.append rfl rfl (by omega) rfl rfl rfl) rfl rfl ?_
            intro v41 _
            refine WL.rd (RD.assign rfl) rfl rfl ?_
            refine WL.nil ?_
            refine JE.blockN ?_
            refine JE.seqN ?_
            refine J.reg ?_
            refine WL.rd (RD.move rfl) rfl rfl ?_
            refine WL.rd (RD.add rfl rfl (by omega) (by omega)) rfl rfl ?_
            refine WL.rd (RD.assign rfl) rfl rfl ?_
            refine WL.nil ?_
            refine JE.cutN ⟨_, ?_, k + 1, v41, o ++ [UInt8.ofNat (16 * hxv (l.getD (2 * k) 0).toNat + hxv (l.getD (2 * k + 1) 0).toNat).toNat], rfl, ?_, rfl, rfl⟩ ?_ ?_
            · omega
            · exact ⟨by omega, hI.2.1, dhInv_next l k o (by omega) hI.2.2.1 (by omega), by rw [List.length_append, List.length_singleton, hI.2.2.2]⟩
            · exact (Sub.consE rfl (by first | rfl | (congr 1; omega) | (simp; done)) (Sub.consE rfl (by first | rfl | (congr 1; omega) | (simp; done)) (Sub.consE rfl (by first | rfl | (congr 1; done) | (congr 1; omega)) .nil)))
            · exact (SubM.row rfl rfl (by rw [List.map_append]; congr 1; simp only [List.map_cons, List.map_nil, yv]; repeat (first | omega | congr 1)) .nil)
      ·
        refine J.exit ?_
        refine JE.seqX ?_
        refine JE.cutX ?_
        refine JE.blockHit ?_
        refine JE.seqN ?_
        refine J.seq ?_
        refine J.reg ?_
        refine WL.rd (RD.move rfl) rfl rfl ?_
        refine WL.rd (RD.toStr (l := o) rfl rfl rfl) rfl rfl ?_
        refine WL.rd (RD.assign rfl) rfl rfl ?_
        refine WL.rd (RD.assign rfl) rfl rfl ?_
        refine WL.nil ?_
        refine JE.seqN ?_
        refine J.ret ?_
        refine JE.ret rfl (.tmp rfl (.tmp rfl .nil)) (fun w hS => ?_)
        have h := dhInv_end l k o (by omega) hI.2.2.1
        exact CS.fin hS (by rw [h]; rfl)
theorem iDecodeHex_c (l : List UInt8) (w : World) (hl : l.length ≤ 1048576) :
    CS Try.prog 24 [.string (bs l)] w (.tuple #[.string (bs ((decH l).getD [])), .bool (decH l).isSome]) := by
  refine calls_of_J (mu := (fun _ => False)) (m := []) (e := [(0, .string (bs l))]) Try.func24 rfl rfl (.cons rfl .nil) (St.init _ _) ?_
  refine J.seq ?_
  refine J.reg ?_
  refine WL.rd (RD.assign rfl) rfl rfl ?_
  refine WL.rd (RD.assign rfl) rfl rfl ?_
  refine WL.nil ?_
  refine JE.seqN ?_
  refine J.seq ?_
  refine J.seq ?_
  refine J.reg ?_
  refine WL.rd (RD.move rfl) rfl rfl ?_
  refine WL.rd (RD.lenS rfl) rfl rfl ?_
  refine WL.rd (RD.rem rfl rfl (by omega) (by omega)) rfl rfl ?_
  refine WL.rd (RD.neq rfl rfl) rfl rfl ?_
  refine WL.nil ?_
  refine JE.seqN ?_
  refine J.condP rfl (fun hc11 => ?_) (fun hc11 => ?_)
  ·
    refine J.seq ?_
    refine J.reg ?_
    refine WL.rd (RD.assign rfl) rfl rfl ?_
    refine WL.rd (RD.assign rfl) rfl rfl ?_
    refine WL.nil ?_
    refine JE.seqN ?_
    refine J.ret ?_
    refine JE.ret rfl (.tmp rfl (.tmp rfl .nil)) (fun w hS => ?_)
    have h := decH_odd _ l (Nat.le_refl _) (by omega)
    exact CS.fin hS (by rw [h]; rfl)
  ·
    refine J.skip ?_
    refine JE.seqN ?_
    refine J.seq ?_
    refine J.reg ?_
    refine WL.rd (RD.move rfl) rfl rfl ?_
    refine WL.rd (RD.lenS rfl) rfl rfl ?_
    refine WL.rd (RD.quo rfl rfl (by omega) (by omega) (by omega)) rfl rfl ?_
    refine WL.efS (EF.make0 (c := l.length / 2) (hn := ⟨by omega⟩) rfl rfl (by omega)) rfl rfl ?_
    intro v15 _
    refine WL.rd (RD.assign rfl) rfl rfl ?_
    refine WL.nil ?_
    refine JE.seqN ?_
    refine J.seq ?_
    refine J.seq ?_
    refine J.reg ?_
    refine WL.rd (RD.assign rfl) rfl rfl ?_
    refine WL.nil ?_
    refine JE.seqN ?_
    refine J.block ?_
    refine J.loop (fun g e m => ∃ (k : Nat), ∃ (v : Value), ∃ (o : List UInt8), g = l.length - 2 * k ∧ ((2 * k ≤ l.length) ∧ (l.length % 2 = 0) ∧ (dhInv l k o) ∧ (o.length = k)) ∧ e = [(0, .string (bs l)), (4, v), (5, .int .i64 ((2 * k : Nat) : Int))] ∧ m = [.row v 5 1 (o.map yv)]) _ ⟨0, v15, [], rfl, ?_, rfl, rfl⟩ ?_ ?_ ?_
    · exact ⟨by omega, by omega, dhInv_zero l, rfl⟩
    · exact (Sub.consE rfl (by first | rfl | (congr 1; omega) | (simp; done)) (Sub.consE rfl (by first | rfl | (congr 1; omega) | (simp; done)) (Sub.consE rfl (by rfl) .nil)))
    · exact (SubM.row rfl rfl (by first | rfl | (simp [iv, bv, yv, tv, sv]; done)) .nil)
    · rintro g _ _ ⟨k, v, o, rfl, hI, rfl, rfl⟩
      have hb1 : (l.getD (2 * k) 0).toNat < 256 := (l.getD (2 * k) 0).toNat_lt
      have hb2 : (l.getD (2 * k + 1) 0).toNat < 256 := (l.getD (2 * k + 1) 0).toNat_lt
      have hx1 := hxv_lt (l.getD (2 * k) 0).toNat
      have hx2 := hxv_lt (l.getD (2 * k + 1) 0).toNat
      refine J.seq ?_
      refine J.seq ?_
      refine J.reg ?_
      refine WL.rd (RD.move rfl) rfl rfl ?_
      refine WL.rd (RD.move rfl) rfl rfl ?_
      refine WL.rd (RD.lenS rfl) rfl rfl ?_
      refine WL.rd (RD.lss rfl rfl) rfl rfl ?_
      refine WL.nil ?_
      refine JE.seqN ?_
      refine J.condP rfl (fun hc19 => ?_) (fun hc19 => ?_)
      ·
        refine J.skip ?_
        refine JE.seqN ?_
        refine J.seq ?_
        refine J.block ?_
        refine J.seq ?_
        refine J.anyDrop [] (v) ?_
        refine WA.takeP 0 rfl (RDP.of fun _ => RD.move rfl) rfl (by kernel_rfl) rfl ?_
        refine WA.takeP 1 rfl (RDP.of fun _ => RD.move rfl) rfl (by kernel_rfl) rfl ?_
        refine WA.takeP 2 rfl (RDP.of fun _ => RD.indexS (j := 2 * k) (hj := ⟨by omega⟩) rfl rfl (by omega)) rfl (by kernel_rfl) rfl ?_
        refine WA.takeP 4 rfl (RDP.of fun _ => RD.move rfl) rfl (by kernel_rfl) rfl ?_
        refine WA.takeP 5 rfl (RDP.of fun _ => RD.move rfl) rfl (by kernel_rfl) rfl ?_
        refine WA.takeP 6 rfl (RDP.of fun _ => RD.add rfl rfl (by omega) (by omega)) rfl (by kernel_rfl) rfl ?_
        refine WA.takeP 7 rfl (RDP.of fun _ => RD.indexS (j := 2 * k + 1) (hj := ⟨by omega⟩) rfl rfl (by omega)) rfl (by kernel_rfl) rfl ?_
        refine WA.one (i := 3) (by kernel_rfl) ?_
        refine WAi.efS rfl (EF.callS (.cons rfl .nil) (fun w hS => hexValue_c _ _ (by omega))) rfl rfl (fun _ => SubI.sub) ?_
        rintro ⟨⟩ -
        refine WA.one (i := 8) (by kernel_rfl) ?_
        refine WAi.efS rfl (EF.callS (.cons rfl .nil) (fun w hS => hexValue_c _ _ (by omega))) rfl rfl (fun _ => SubI.sub) ?_
        rintro ⟨⟩ -
        refine WA.takeP 9 rfl (RDP.of fun _ => RD.assign rfl) rfl (by kernel_rfl) rfl ?_
        refine WA.takeP 10 rfl (RDP.of fun _ => RD.assign rfl) rfl (by kernel_rfl) rfl ?_
        refine WA.done (by kernel_rfl) ?_
        refine JE.seqN ?_
        refine J.seq ?_
        refine J.seq ?_
        refine J.reg ?_
        refine WL.rd (RD.move rfl) rfl rfl ?_
        refine WL.rd (RD.lss rfl rfl) rfl rfl ?_
        refine WL.rd (RD.move rfl) rfl rfl ?_
        refine WL.caseP 33 rfl (fun hg33 => ?_) (fun hg33 => ?_)
        ·
          refine WL.noS rfl rfl ?_
          refine WL.noS rfl rfl ?_
          refine WL.rd (RD.pickT rfl rfl) rfl rfl ?_
          refine WL.nil ?_
          refine JE.seqN ?_
          refine J.condT rfl ?_
          refine J.seq ?_
          refine J.reg ?_
          refine WL.rd (RD.assign rfl) rfl rfl ?_
          refine WL.rd (RD.assign rfl) rfl rfl ?_
          refine WL.nil ?_
          refine JE.seqN ?_
          refine J.ret ?_
          refine JE.ret rfl (.tmp rfl (.tmp rfl .nil)) (fun w hS => ?_)
          have h := dhInv_bad l k o (by omega) hI.2.2.1 (by omega)
          exact CS.fin hS (by rw [h]; rfl)
        ·
          refine WL.rd (RD.move rfl) rfl rfl ?_
          refine WL.rd (RD.lss rfl rfl) rfl rfl ?_
          refine WL.rd (RD.pickF rfl rfl) rfl rfl ?_
          refine WL.nil ?_
          refine JE.seqN ?_
          refine J.condP rfl (fun hc36 => ?_) (fun hc36 => ?_)
          ·
            refine J.seq ?_
            refine J.reg ?_
            refine WL.rd (RD.assign rfl) rfl rfl ?_
            refine WL.rd (RD.assign rfl) rfl rfl ?_
            refine WL.nil ?_
            refine JE.seqN ?_
            refine J.ret ?_
            refine JE.ret rfl (.tmp rfl (.tmp rfl .nil)) (fun w hS => ?_)
            have h := dhInv_bad l k o (by omega) hI.2.2.1 (by omega)
            exact CS.fin hS (by rw [h]; rfl)
          ·
            refine J.skip ?_
            refine JE.seqN ?_
            refine J.reg ?_
            refine WL.rd (RD.move rfl) rfl rfl ?_
            refine WL.rd (RD.move rfl) rfl rfl ?_
            refine WL.rd (RD.shlI 4 rfl rfl rfl (by decide) (by omega) (by omega)) rfl rfl ?_
            refine WL.rd (RD.move rfl) rfl rfl ?_
            refine WL.rd (RD.orHi 4 (hxv (l.getD (2 * k + 1) 0).toNat).toNat (hxv (l.getD (2 * k) 0).toNat).toNat rfl rfl (by omega) (by omega) (by omega) (show _ ≤ (9223372036854775807 : Int) by omega)) rfl rfl ?_
            refine WL.rd (RD.convB rfl) rfl rfl ?_
            refine WL.efS (EF.build1 rfl) rfl rfl ?_
            intro v43 _
            refine WL.efS (EF.append rfl rfl (by omega) rfl rfl rfl) rfl rfl ?_
            intro v44 _
            refine WL.rd (RD.assign rfl) rfl rfl ?_
            refine WL.nil ?_
            refine JE.blockN ?_
            refine JE.seqN ?_
            refine J.reg ?_
            refine WL.rd (RD.move rfl) rfl rfl ?_
            refine WL.rd (RD.add rfl rfl (by omega) (by omega)) rfl rfl ?_
            refine WL.rd (RD.assign rfl) rfl rfl ?_
            refine WL.nil ?_
            refine JE.cutN ⟨_, ?_, k + 1, v44, o ++ [UInt8.ofNat (16 * hxv (l.getD (2 * k) 0).toNat + hxv (l.getD (2 * k + 1) 0).toNat).toNat], rfl, ?_, rfl, rfl⟩ ?_ ?_
            · omega
            · exact ⟨by omega, hI.2.1, dhInv_next l k o (by omega) hI.2.2.1 (by omega), by rw [List.length_append, List.length_singleton, hI.2.2.2]⟩
            · exact (Sub.consE rfl (by first | rfl | (congr 1; omega) | (simp; done)) (Sub.consE rfl (by first | rfl | (congr 1; omega) | (simp; done)) (Sub.consE rfl (by first | rfl | (congr 1; done) | (congr 1; omega)) .nil)))
            · exact (SubM.row rfl rfl (by rw [List.map_append]; congr 1; simp only [List.map_cons, List.map_nil, yv]; repeat (first | omega | congr 1)) .nil)
      ·
        refine J.exit ?_
        refine JE.seqX ?_
        refine JE.cutX ?_
        refine JE.blockHit ?_
        refine JE.seqN ?_
        refine J.seq ?_
        refine J.reg ?_
        refine WL.rd (RD.move rfl) rfl rfl ?_
        refine WL.rd (RD.toStr (l := o) rfl rfl rfl) rfl rfl ?_
        refine WL.rd (RD.assign rfl) rfl rfl ?_
        refine WL.rd (RD.assign rfl) rfl rfl ?_
        refine WL.nil ?_
        refine JE.seqN ?_
        refine J.ret ?_
        refine JE.ret rfl (.tmp rfl (.tmp rfl .nil)) (fun w hS => ?_)
        have h := dhInv_end l k o (by omega) hI.2.2.1
        exact CS.fin hS (by rw [h]; rfl)
theorem sDecodeVarint_c (l : List UInt8) (w : World) (_hl : l.length ≤ 9223372036854775807) :
    CS Try.prog 25 [.string (bs l)] w (.tuple #[.int .i64 ((decV l).1 : Int), .int .i64 ((decV l).2 : Int)]) := by
  refine calls_of_J (mu := (fun _ => False)) (m := []) (e := [(0, .string (bs l))]) Try.func25 rfl rfl (.cons rfl .nil) (St.init _ _) ?_
  refine J.seq ?_
  refine J.reg ?_
  refine WL.rd (RD.assign rfl) rfl rfl ?_
  refine WL.rd (RD.assign rfl) rfl rfl ?_
  refine WL.nil ?_
  refine JE.seqN ?_
  refine J.seq ?_
  refine J.seq ?_
  refine J.reg ?_
  refine WL.rd (RD.assign rfl) rfl rfl ?_
  refine WL.nil ?_
  refine JE.seqN ?_
  refine J.block ?_
  refine J.loop (fun g e m => ∃ (k : Nat), g = 8 - k ∧ ((1 ≤ k) ∧ (∀ j, j < k → ¬ okV l j)) ∧ e = [(0, .string (bs l)), (4, .int .i64 (k : Int))] ∧ m = []) _ ⟨1, rfl, ?_, rfl, rfl⟩ ?_ ?_ ?_
  · exact ⟨by omega, fun j hj ho => by have := ho.1; omega⟩
  · exact (Sub.consE rfl (by first | rfl | (congr 1; omega) | (simp; done)) (Sub.consE rfl (by first | rfl | (congr 1; omega) | (simp; done)) .nil))
  · exact .nil
  · rintro g _ _ ⟨k, rfl, hI, rfl, rfl⟩
    refine J.seq ?_
    refine J.seq ?_
    refine J.reg ?_
    refine WL.rd (RD.move rfl) rfl rfl ?_
    refine WL.rd (RD.leq rfl rfl) rfl rfl ?_
    refine WL.rd (RD.move rfl) rfl rfl ?_
    refine WL.caseP 9 rfl (fun hg9 => ?_) (fun hg9 => ?_)
    ·
      refine WL.rd (RD.move rfl) rfl rfl ?_
      refine WL.rd (RD.move rfl) rfl rfl ?_
      refine WL.rd (RD.lenS rfl) rfl rfl ?_
      refine WL.rd (RD.leq rfl rfl) rfl rfl ?_
      refine WL.rd (RD.pickT rfl rfl) rfl rfl ?_
      refine WL.nil ?_
      refine JE.seqN ?_
      refine J.condP rfl (fun hc14 => ?_) (fun hc14 => ?_)
      ·
        refine J.skip ?_
        refine JE.seqN ?_
        refine J.seq ?_
        refine J.block ?_
        refine J.seq ?_
        refine J.reg ?_
        refine WL.rd (RD.assign rfl) rfl rfl ?_
        refine WL.nil ?_
        refine JE.seqN ?_
        refine J.seq ?_
        refine J.seq ?_
        refine J.reg ?_
        refine WL.rd (RD.move rfl) rfl rfl ?_
        refine WL.rd (RD.sub rfl rfl (by omega) (by omega)) rfl rfl ?_
        refine WL.rd (RD.assign rfl) rfl rfl ?_
        refine WL.nil ?_
        refine JE.seqN ?_
        refine J.block ?_
        refine J.loop (fun g e m => ∃ (i : Nat), g = 1 + i ∧ ((i ≤ k) ∧ (k ≤ 7) ∧ (k ≤ l.length)) ∧ e = [(0, .string (bs l)), (4, .int .i64 (k : Int)), (5, .int .i64 (lv ((l.take k).drop i) : Int)), (6, .int .i64 ((i : Int) - 1))] ∧ m = []) _ ⟨k, rfl, ?_, rfl, rfl⟩ ?_ ?_ ?_
        · exact ⟨by omega, by omega, by omega⟩
        · exact (Sub.consE rfl (by first | rfl | (congr 1; omega) | (simp; done)) (Sub.consE rfl (by first | rfl | (congr 1; omega) | (simp; done)) (Sub.consE rfl (by rw [List.drop_eq_nil_of_le (List.length_take_le _ _)]; rfl) (Sub.consE rfl (by first | rfl | (congr 1; omega) | (simp; done)) .nil))))
        · exact .nil
        · rintro g _ _ ⟨i, rfl, hJ, rfl, rfl⟩
          have htl : (l.take k).length = k := List.length_take_of_le (by omega)
          have hbb : (l.getD (i - 1) 0).toNat < 256 := (l.getD (i - 1) 0).toNat_lt
          have hlv := lv_le7 ((l.take k).drop i) (by rw [List.length_drop]; omega)
          refine J.seq ?_
          refine J.seq ?_
          refine J.reg ?_
          refine WL.rd (RD.move rfl) rfl rfl ?_
          refine WL.rd (RD.geq rfl rfl) rfl rfl ?_
          refine WL.nil ?_
          refine JE.seqN ?_
          refine J.condP rfl (fun hc20 => ?_) (fun hc20 => ?_)
          ·
            refine J.skip ?_
            refine JE.seqN ?_
            refine J.seq ?_
            refine J.block ?_
            refine J.reg ?_
            refine WL.rd (RD.move rfl) rfl rfl ?_
            refine WL.rd (RD.mul rfl rfl (by omega) (by omega)) rfl rfl ?_
            refine WL.rd (RD.move rfl) rfl rfl ?_
            refine WL.rd (RD.move rfl) rfl rfl ?_
            refine WL.rd (RD.indexS (j := i - 1) (hj := ⟨by omega⟩) rfl rfl (by omega)) rfl rfl ?_
            refine WL.rd (RD.convI rfl (by omega) (by omega)) rfl rfl ?_
            refine WL.rd (RD.rem rfl rfl (by omega) (by omega)) rfl rfl ?_
            refine WL.rd (RD.add rfl rfl (by omega) (by omega)) rfl rfl ?_
            refine WL.rd (RD.assign rfl) rfl rfl ?_
            refine WL.nil ?_
            refine JE.blockN ?_
            refine JE.seqN ?_
            refine J.reg ?_
            refine WL.rd (RD.move rfl) rfl rfl ?_
            refine WL.rd (RD.sub rfl rfl (by omega) (by omega)) rfl rfl ?_
            refine WL.rd (RD.assign rfl) rfl rfl ?_
            refine WL.nil ?_
            refine JE.cutN ⟨_, ?_, i - 1, rfl, ?_, rfl, rfl⟩ ?_ ?_
            · omega
            · exact ⟨by omega, by omega, by omega⟩
            · exact (Sub.consE rfl (by first | rfl | (congr 1; omega) | (simp; done)) (Sub.consE rfl (by first | rfl | (congr 1; omega) | (simp; done)) (Sub.consE rfl (by (have hi : i - 1 + 1 = i := (by omega)); rw [lv_drop l k (i - 1) (by omega) (by omega), hi]; congr 1) (Sub.consE rfl (by congr 1; omega) .nil))))
            · exact .nil
          ·
            refine J.exit ?_
            refine JE.seqX ?_
            refine JE.cutX ?_
            refine JE.blockHit ?_
            refine JE.seqN ?_
            refine J.seq ?_
            have hi0 : i = 0 := by omega
            subst hi0
            have hle : lv (l.take k) ≤ 562949953421311 := lv_le7 _ (by omega)
            rw [List.drop_zero]
            refine J.anyAll [] ?_
            refine WA.takeP 0 rfl (RDP.of fun _ => RD.move rfl) rfl (by kernel_rfl) rfl ?_
            refine WA.takeP 2 rfl (RDP.of fun _ => RD.move rfl) rfl (by kernel_rfl) rfl ?_
            refine WA.takeP 3 rfl (RDP.of fun _ => RD.move rfl) rfl (by kernel_rfl) rfl ?_
            refine WA.takeP 4 rfl (RDP.of fun _ => RD.sliceS (l := 0) (u := k) rfl rfl ⟨_, _, rfl, (by first | rfl | (simp; done) | omega)⟩ (by omega) (by omega)) rfl (by kernel_rfl) rfl ?_
            refine WA.one (i := 1) (by kernel_rfl) ?_
            refine WAi.efS rfl (EF.callS (.cons rfl .nil) (fun w hS => sEncodeVarint_c _ _ (by omega))) rfl rfl (fun _ => SubI.sub) ?_
            rintro ⟨⟩ -
            refine WA.takeP 5 rfl (RDP.of fun _ => RD.eqlS rfl rfl) rfl (by kernel_rfl) rfl ?_
            refine WA.done (by kernel_rfl) ?_
            refine JE.seqN ?_
            refine J.condP rfl (fun hc36 => ?_) (fun hc36 => ?_)
            ·
              refine J.seq ?_
              refine J.reg ?_
              refine WL.rd (RD.move rfl) rfl rfl ?_
              refine WL.rd (RD.move rfl) rfl rfl ?_
              refine WL.rd (RD.assign rfl) rfl rfl ?_
              refine WL.rd (RD.assign rfl) rfl rfl ?_
              refine WL.nil ?_
              refine JE.seqN ?_
              refine J.ret ?_
              refine JE.ret rfl (.tmp rfl (.tmp rfl .nil)) (fun w hS => ?_)
              rw [if_pos ⟨by omega, by omega⟩] at hc36
              have ho : okV l k := ⟨hI.1, hJ.2.1, hJ.2.2, by simpa using hc36⟩
              exact CS.fin hS (by rw [decV_eq ho]; rfl)
            ·
              refine J.skip ?_
              refine JE.blockN ?_
              refine JE.seqN ?_
              refine J.reg ?_
              refine WL.rd (RD.move rfl) rfl rfl ?_
              refine WL.rd (RD.add rfl rfl (by omega) (by omega)) rfl rfl ?_
              refine WL.rd (RD.assign rfl) rfl rfl ?_
              refine WL.nil ?_
              refine JE.cutN ⟨_, ?_, k + 1, rfl, ?_, rfl, rfl⟩ ?_ ?_
              · omega
              · exact ⟨by omega, fun j hj ho => (Nat.lt_succ_iff_lt_or_eq.1 hj).elim (fun hh => hI.2 j hh ho) (fun hh => by subst hh; rw [if_pos ⟨by omega, by omega⟩] at hc36; exact hc36 (by simpa using ho.2.2.2))⟩
              · exact (Sub.consE rfl (by first | rfl | (congr 1; omega) | (simp; done)) (Sub.consE rfl (by first | rfl | (congr 1; omega) | (simp; done)) .nil))
              · exact .nil
      ·
        refine J.exit ?_
        refine JE.seqX ?_
        refine JE.cutX ?_
        refine JE.blockHit ?_
        refine JE.seqN ?_
        refine J.seq ?_
        refine J.reg ?_
        refine WL.rd (RD.assign rfl) rfl rfl ?_
        refine WL.rd (RD.assign rfl) rfl rfl ?_
        refine WL.nil ?_
        refine JE.seqN ?_
        refine J.ret ?_
        refine JE.ret rfl (.tmp rfl (.tmp rfl .nil)) (fun w hS => ?_)
        exact CS.fin hS (by rw [decV_none (fun j hj => hI.2 j (by have h1 := hj.2.1; have h2 := hj.2.2.1; omega) hj)]; rfl)
    ·
      refine WL.noS rfl rfl ?_
      refine WL.noS rfl rfl ?_
      refine WL.noS rfl rfl ?_
      refine WL.noS rfl rfl ?_
      refine WL.rd (RD.pickF rfl rfl) rfl rfl ?_
      refine WL.nil ?_
      refine JE.seqN ?_
      refine J.condF rfl ?_
      refine J.exit ?_
      refine JE.seqX ?_
      refine JE.cutX ?_
      refine JE.blockHit ?_
      refine JE.seqN ?_
      refine J.seq ?_
      refine J.reg ?_
      refine WL.rd (RD.assign rfl) rfl rfl ?_
      refine WL.rd (RD.assign rfl) rfl rfl ?_
      refine WL.nil ?_
      refine JE.seqN ?_
      refine J.ret ?_
      refine JE.ret rfl (.tmp rfl (.tmp rfl .nil)) (fun w hS => ?_)
      exact CS.fin hS (by rw [decV_none (fun j hj => hI.2 j (by have h1 := hj.2.1; have h2 := hj.2.2.1; omega) hj)]; rfl)
theorem iDecodeVarint_c (l : List UInt8) (w : World) (hl : l.length ≤ 9223372036854775807) :
    CS Try.prog 26 [.string (bs l)] w (.tuple #[.int .i64 ((decV l).1 : Int), .int .i64 ((decV l).2 : Int)]) := by
  refine calls_of_J (mu := (fun _ => False)) (m := []) (e := [(0, .string (bs l))]) Try.func26 rfl rfl (.cons rfl .nil) (St.init _ _) ?_
  refine J.seq ?_
  refine J.reg ?_
  refine WL.rd (RD.assign rfl) rfl rfl ?_
  refine WL.rd (RD.assign rfl) rfl rfl ?_
  refine WL.nil ?_
  refine JE.seqN ?_
  refine J.seq ?_
  refine J.reg ?_
  refine WL.rd (RD.assign rfl) rfl rfl ?_
  refine WL.nil ?_
  refine JE.seqN ?_
  refine J.seq ?_
  refine J.seq ?_
  refine J.reg ?_
  refine WL.rd (RD.assign rfl) rfl rfl ?_
  refine WL.nil ?_
  refine JE.seqN ?_
  refine J.block ?_
  refine J.loop (fun g e m => ∃ (k : Nat), g = 7 - k ∧ ((k ≤ 7) ∧ (k ≤ l.length) ∧ (∀ j, j < k → 128 ≤ (l.getD j 0).toNat)) ∧ e = [(0, .string (bs l)), (4, .int .i64 (lv (l.take k) : Int)), (5, .int .i64 (k : Int))] ∧ m = []) _ ⟨0, rfl, ?_, rfl, rfl⟩ ?_ ?_ ?_
  · exact ⟨by omega, by omega, fun j hj => by omega⟩
  · exact (Sub.consE rfl (by first | rfl | (congr 1; omega) | (simp; done)) (Sub.consE rfl (by first | rfl | (congr 1; omega) | (simp; done)) (Sub.consE rfl (by first | rfl | (congr 1; omega) | (simp; done)) .nil)))
  · exact .nil
  · rintro g _ _ ⟨k, rfl, hI, rfl, rfl⟩
    refine J.seq ?_
    refine J.seq ?_
    refine J.reg ?_
    refine WL.rd (RD.move rfl) rfl rfl ?_
    refine WL.rd (RD.move rfl) rfl rfl ?_
    refine WL.rd (RD.lenS rfl) rfl rfl ?_
    refine WL.rd (RD.lss rfl rfl) rfl rfl ?_
    refine WL.rd (RD.move rfl) rfl rfl ?_
    refine WL.caseP 10 rfl (fun hg10 => ?_) (fun hg10 => ?_)
    ·
      refine WL.rd (RD.move rfl) rfl rfl ?_
      refine WL.rd (RD.lss rfl rfl) rfl rfl ?_
      refine WL.rd (RD.pickT rfl rfl) rfl rfl ?_
      refine WL.nil ?_
      refine JE.seqN ?_
      refine J.condP rfl (fun hc13 => ?_) (fun hc13 => ?_)
      ·
        refine J.skip ?_
        refine JE.seqN ?_
        refine J.seq ?_
        refine J.block ?_
        refine J.seq ?_
        have hb : (l.getD k 0).toNat < 256 := (l.getD k 0).toNat_lt
        have hts := lv_take_succ l k (by omega)
        have htl : (l.take k).length = k := List.length_take_of_le (by omega)
        have hlk := lv_lt (l.take k)
        rw [htl] at hlk
        have hlk' : (128 : Nat) ^ k = 2 ^ (7 * k) := (Nat.pow_mul 2 7 k).symm
        have htl1 : (l.take (k + 1)).length = k + 1 := List.length_take_of_le (by omega)
        have hl7 := lv_le7 (l.take (k + 1)) (by omega)
        have hpos : 0 < 2 ^ (7 * k) := Nat.pow_pos (by decide)
        refine J.reg ?_
        refine WL.rd (RD.move rfl) rfl rfl ?_
        refine WL.rd (RD.move rfl) rfl rfl ?_
        refine WL.rd (RD.move rfl) rfl rfl ?_
        refine WL.rd (RD.indexS rfl rfl (by omega)) rfl rfl ?_
        refine WL.rd (RD.mask 7 rfl rfl rfl (by decide) (by omega) (show _ ≤ (255 : Int) by omega)) rfl rfl ?_
        refine WL.rd (RD.convI rfl (by omega) (by omega)) rfl rfl ?_
        refine WL.rd (RD.move rfl) rfl rfl ?_
        refine WL.rd (RD.mul rfl rfl (by omega) (by omega)) rfl rfl ?_
        refine WL.rd (RD.shlN (7 * k) ((l.getD k 0).toNat % 128) rfl rfl (by omega) (by omega) (by omega) (by omega)) rfl rfl ?_
        refine WL.rd (RD.orLo (7 * k) (lv (l.take k)) ((l.getD k 0).toNat % 128) rfl rfl rfl rfl (by omega) (show _ ≤ (9223372036854775807 : Int) by omega)) rfl rfl ?_
        refine WL.rd (RD.assign rfl) rfl rfl ?_
        refine WL.nil ?_
        refine JE.seqN ?_
        refine J.seq ?_
        refine J.reg ?_
        refine WL.rd (RD.move rfl) rfl rfl ?_
        refine WL.rd (RD.move rfl) rfl rfl ?_
        refine WL.rd (RD.indexS rfl rfl (by omega)) rfl rfl ?_
        refine WL.rd (RD.lss rfl rfl) rfl rfl ?_
        refine WL.nil ?_
        refine JE.seqN ?_
        refine J.condP rfl (fun hc29 => ?_) (fun hc29 => ?_)
        ·
          refine J.seq ?_
          refine J.seq ?_
          refine J.anyAll [] ?_
          refine WA.takeP 0 rfl (RDP.of fun _ => RD.move rfl) rfl (by kernel_rfl) rfl ?_
          refine WA.takeP 2 rfl (RDP.of fun _ => RD.move rfl) rfl (by kernel_rfl) rfl ?_
          refine WA.takeP 3 rfl (RDP.of fun _ => RD.move rfl) rfl (by kernel_rfl) rfl ?_
          refine WA.takeP 4 rfl (RDP.of fun _ => RD.add rfl rfl (by omega) (by omega)) rfl (by kernel_rfl) rfl ?_
          refine WA.takeP 5 rfl (RDP.of fun _ => RD.sliceS (l := 0) (u := k + 1) rfl rfl ⟨_, _, rfl, (by first | rfl | (simp; done) | omega)⟩ (by omega) (by omega)) rfl (by kernel_rfl) rfl ?_
          refine WA.one (i := 1) (by kernel_rfl) ?_
          refine WAi.efS rfl (EF.callS (.cons rfl .nil) (fun w hS => iEncodeVarint_c _ _ (by omega))) rfl rfl (fun _ => SubI.sub) ?_
          rintro ⟨⟩ -
          refine WA.takeP 6 rfl (RDP.of fun _ => RD.neqS rfl rfl) rfl (by kernel_rfl) rfl ?_
          refine WA.done (by kernel_rfl) ?_
          refine JE.seqN ?_
          refine J.condP rfl (fun hc36 => ?_) (fun hc36 => ?_)
          ·
            refine J.seq ?_
            refine J.reg ?_
            refine WL.rd (RD.assign rfl) rfl rfl ?_
            refine WL.rd (RD.assign rfl) rfl rfl ?_
            refine WL.nil ?_
            refine JE.seqN ?_
            refine J.ret ?_
            refine JE.ret rfl (.tmp rfl (.tmp rfl .nil)) (fun w hS => ?_)
            simp only [← hts] at hc36
            rw [if_pos ⟨by omega, by omega⟩] at hc36
            have ho := dv_none hI.2.2 (by omega) (by simpa using hc36)
            exact CS.fin hS (by rw [ho]; rfl)
          ·
            refine J.skip ?_
            refine JE.seqN ?_
            refine J.seq ?_
            refine J.reg ?_
            refine WL.rd (RD.move rfl) rfl rfl ?_
            refine WL.rd (RD.move rfl) rfl rfl ?_
            refine WL.rd (RD.add rfl rfl (by omega) (by omega)) rfl rfl ?_
            refine WL.rd (RD.assign rfl) rfl rfl ?_
            refine WL.rd (RD.assign rfl) rfl rfl ?_
            refine WL.nil ?_
            refine JE.seqN ?_
            refine J.ret ?_
            refine JE.ret rfl (.tmp rfl (.tmp rfl .nil)) (fun w hS => ?_)
            simp only [← hts] at hc36
            rw [if_pos ⟨by omega, by omega⟩] at hc36
            have ho : okV l (k + 1) := ⟨by omega, by omega, by omega, by simpa using hc36⟩
            exact CS.fin hS (by rw [decV_eq ho, ← hts]; rfl)
        ·
          refine J.skip ?_
          refine JE.blockN ?_
          refine JE.seqN ?_
          refine J.reg ?_
          refine WL.rd (RD.move rfl) rfl rfl ?_
          refine WL.rd (RD.add rfl rfl (by omega) (by omega)) rfl rfl ?_
          refine WL.rd (RD.assign rfl) rfl rfl ?_
          refine WL.nil ?_
          refine JE.cutN ⟨_, ?_, k + 1, rfl, ?_, rfl, rfl⟩ ?_ ?_
          · omega
          · exact ⟨by omega, by omega, fun j hj => (Nat.lt_succ_iff_lt_or_eq.1 hj).elim (hI.2.2 j) (fun hh => by subst hh; omega)⟩
          · exact (Sub.consE rfl (by first | rfl | (congr 1; omega) | (simp; done)) (Sub.consE rfl (by rw [lv_take_succ l k (by omega)]) (Sub.consE rfl (by first | rfl | (congr 1; omega) | (simp; done)) .nil)))
          · exact .nil
      ·
        refine J.exit ?_
        refine JE.seqX ?_
        refine JE.cutX ?_
        refine JE.blockHit ?_
        refine JE.seqN ?_
        refine J.seq ?_
        refine J.reg ?_
        refine WL.rd (RD.assign rfl) rfl rfl ?_
        refine WL.rd (RD.assign rfl) rfl rfl ?_
        refine WL.nil ?_
        refine JE.seqN ?_
        refine J.ret ?_
        refine JE.ret rfl (.tmp rfl (.tmp rfl .nil)) (fun w hS => ?_)
        exact CS.fin hS (by rw [dv_out hI.2.2 (by omega)]; rfl)
    ·
      refine WL.noS rfl rfl ?_
      refine WL.noS rfl rfl ?_
      refine WL.rd (RD.pickF rfl rfl) rfl rfl ?_
      refine WL.nil ?_
      refine JE.seqN ?_
      refine J.condF rfl ?_
      refine J.exit ?_
      refine JE.seqX ?_
      refine JE.cutX ?_
      refine JE.blockHit ?_
      refine JE.seqN ?_
      refine J.seq ?_
      refine J.reg ?_
      refine WL.rd (RD.assign rfl) rfl rfl ?_
      refine WL.rd (RD.assign rfl) rfl rfl ?_
      refine WL.nil ?_
      refine JE.seqN ?_
      refine J.ret ?_
      refine JE.ret rfl (.tmp rfl (.tmp rfl .nil)) (fun w hS => ?_)
      exact CS.fin hS (by rw [dv_out hI.2.2 (by omega)]; rfl)
theorem sParseInt_c (l : List UInt8) (w : World) (hl : l.length ≤ 9223372036854775807) :
    CS Try.prog 27 [.string (bs l)] w (.tuple #[.int .i64 (parseI l).1, .bool (parseI l).2]) := by
  refine calls_of_J (mu := (fun _ => False)) (m := []) (e := [(0, .string (bs l))]) Try.func27 rfl rfl (.cons rfl .nil) (St.init _ _) ?_
  refine J.seq ?_
  refine J.reg ?_
  refine WL.rd (RD.assign rfl) rfl rfl ?_
  refine WL.rd (RD.assign rfl) rfl rfl ?_
  refine WL.nil ?_
  refine JE.seqN ?_
  refine J.seq ?_
  refine J.reg ?_
  refine WL.rd (RD.assign rfl) rfl rfl ?_
  refine WL.nil ?_
  refine JE.seqN ?_
  refine J.seq ?_
  refine J.reg ?_
  refine WL.rd (RD.assign rfl) rfl rfl ?_
  refine WL.nil ?_
  refine JE.seqN ?_
  refine J.cut (fun e m => ((True)) ∧ e = [(0, .string (bs l)), (4, .int .i64 ((pf (l.take 11)).1 : Int)), (5, .int .i64 ((pf (l.take 11)).2 : Int))] ∧ m = []) ?_ ?_
  ·
    refine J.seq ?_
    refine J.reg ?_
    refine WL.rd (RD.assign rfl) rfl rfl ?_
    refine WL.nil ?_
    refine JE.seqN ?_
    refine J.block ?_
    refine J.loop (fun g e m => ∃ (k : Nat), g = 11 - k ∧ ((k ≤ 11) ∧ (k ≤ l.length)) ∧ e = [(0, .string (bs l)), (4, .int .i64 ((pf (l.take k)).1 : Int)), (5, .int .i64 ((pf (l.take k)).2 : Int)), (6, .int .i64 (k : Int))] ∧ m = []) _ ⟨0, rfl, ?_, rfl, rfl⟩ ?_ ?_ ?_
    · exact ⟨by omega, by omega⟩
    · exact (Sub.consE rfl (by first | rfl | (congr 1; omega) | (simp; done)) (Sub.consE rfl (by first | rfl | (congr 1; omega) | (simp; done)) (Sub.consE rfl (by first | rfl | (congr 1; omega) | (simp; done)) (Sub.consE rfl (by first | rfl | (congr 1; omega) | (simp; done)) .nil))))
    · exact .nil
    · rintro g _ _ ⟨k, rfl, hI, rfl, rfl⟩
      have hb := pf_bound (l.take k)
      have hlt : (l.take k).length = k := List.length_take_of_le (by omega)
      have hq := pow10_11 (pf (l.take k)).2 (by omega)
      have hbb : (l.getD k 0).toNat < 256 := (l.getD k 0).toNat_lt
      refine J.seq ?_
      refine J.seq ?_
      refine J.reg ?_
      refine WL.rd (RD.move rfl) rfl rfl ?_
      refine WL.rd (RD.move rfl) rfl rfl ?_
      refine WL.rd (RD.lenS rfl) rfl rfl ?_
      refine WL.rd (RD.lss rfl rfl) rfl rfl ?_
      refine WL.rd (RD.move rfl) rfl rfl ?_
      refine WL.caseP 11 rfl (fun hg11 => ?_) (fun hg11 => ?_)
      ·
        refine WL.rd (RD.move rfl) rfl rfl ?_
        refine WL.rd (RD.lss rfl rfl) rfl rfl ?_
        refine WL.rd (RD.pickT rfl rfl) rfl rfl ?_
        refine WL.nil ?_
        refine JE.seqN ?_
        refine J.condP rfl (fun hc14 => ?_) (fun hc14 => ?_)
        ·
          refine J.skip ?_
          refine JE.seqN ?_
          refine J.seq ?_
          refine J.block ?_
          refine J.seq ?_
          refine J.reg ?_
          refine WL.rd (RD.move rfl) rfl rfl ?_
          refine WL.rd (RD.move rfl) rfl rfl ?_
          refine WL.rd (RD.indexS rfl rfl (by omega)) rfl rfl ?_
          refine WL.rd (RD.geq rfl rfl) rfl rfl ?_
          refine WL.rd (RD.move rfl) rfl rfl ?_
          refine WL.caseP 21 rfl (fun hg21 => ?_) (fun hg21 => ?_)
          ·
            refine WL.rd (RD.move rfl) rfl rfl ?_
            refine WL.rd (RD.move rfl) rfl rfl ?_
            refine WL.rd (RD.indexS rfl rfl (by omega)) rfl rfl ?_
            refine WL.rd (RD.leq rfl rfl) rfl rfl ?_
            refine WL.rd (RD.pickT rfl rfl) rfl rfl ?_
            refine WL.nil ?_
            refine JE.seqN ?_
            refine J.condP rfl (fun hc26 => ?_) (fun hc26 => ?_)
            ·
              refine J.seq ?_
              refine J.reg ?_
              refine WL.rd (RD.move rfl) rfl rfl ?_
              refine WL.rd (RD.mul rfl rfl (by omega) (by omega)) rfl rfl ?_
              refine WL.rd (RD.move rfl) rfl rfl ?_
              refine WL.rd (RD.move rfl) rfl rfl ?_
              refine WL.rd (RD.indexS rfl rfl (by omega)) rfl rfl ?_
              refine WL.rd (RD.subB rfl rfl (by omega) (by omega)) rfl rfl ?_
              refine WL.rd (RD.convI rfl (by omega) (by omega)) rfl rfl ?_
              refine WL.rd (RD.add rfl rfl (by omega) (by omega)) rfl rfl ?_
              refine WL.rd (RD.assign rfl) rfl rfl ?_
              refine WL.nil ?_
              refine JE.seqN ?_
              refine J.reg ?_
              refine WL.rd (RD.move rfl) rfl rfl ?_
              refine WL.rd (RD.add rfl rfl (by omega) (by omega)) rfl rfl ?_
              refine WL.rd (RD.assign rfl) rfl rfl ?_
              refine WL.nil ?_
              refine JE.blockN ?_
              refine JE.seqN ?_
              refine J.reg ?_
              refine WL.rd (RD.move rfl) rfl rfl ?_
              refine WL.rd (RD.add rfl rfl (by omega) (by omega)) rfl rfl ?_
              refine WL.rd (RD.assign rfl) rfl rfl ?_
              refine WL.nil ?_
              refine JE.cutN ⟨_, ?_, k + 1, rfl, ?_, rfl, rfl⟩ ?_ ?_
              · omega
              · exact ⟨by omega, by omega⟩
              · exact (Sub.consE rfl (by first | rfl | (congr 1; omega) | (simp; done)) (Sub.consE rfl (by rw [pf_yes l k (by omega) (by omega) (by omega)]; first | rfl | (congr 1; done) | (congr 1; dsimp only; omega)) (Sub.consE rfl (by rw [pf_yes l k (by omega) (by omega) (by omega)]; first | rfl | (congr 1; done) | (congr 1; dsimp only; omega)) (Sub.consE rfl (by first | rfl | (congr 1; omega) | (simp; done)) .nil))))
              · exact .nil
            ·
              refine J.skip ?_
              refine JE.blockN ?_
              refine JE.seqN ?_
              refine J.reg ?_
              refine WL.rd (RD.move rfl) rfl rfl ?_
              refine WL.rd (RD.add rfl rfl (by omega) (by omega)) rfl rfl ?_
              refine WL.rd (RD.assign rfl) rfl rfl ?_
              refine WL.nil ?_
              refine JE.cutN ⟨_, ?_, k + 1, rfl, ?_, rfl, rfl⟩ ?_ ?_
              · omega
              · exact ⟨by omega, by omega⟩
              · exact (Sub.consE rfl (by first | rfl | (congr 1; omega) | (simp; done)) (Sub.consE rfl (by rw [pf_no l k (by omega) (by omega)]) (Sub.consE rfl (by rw [pf_no l k (by omega) (by omega)]) (Sub.consE rfl (by first | rfl | (congr 1; omega) | (simp; done)) .nil))))
              · exact .nil
          ·
            refine WL.noS rfl rfl ?_
            refine WL.noS rfl rfl ?_
            refine WL.noS rfl rfl ?_
            refine WL.noS rfl rfl ?_
            refine WL.rd (RD.pickF rfl rfl) rfl rfl ?_
            refine WL.nil ?_
            refine JE.seqN ?_
            refine J.condF rfl ?_
            refine J.skip ?_
            refine JE.blockN ?_
            refine JE.seqN ?_
            refine J.reg ?_
            refine WL.rd (RD.move rfl) rfl rfl ?_
            refine WL.rd (RD.add rfl rfl (by omega) (by omega)) rfl rfl ?_
            refine WL.rd (RD.assign rfl) rfl rfl ?_
            refine WL.nil ?_
            refine JE.cutN ⟨_, ?_, k + 1, rfl, ?_, rfl, rfl⟩ ?_ ?_
            · omega
            · exact ⟨by omega, by omega⟩
            · exact (Sub.consE rfl (by first | rfl | (congr 1; omega) | (simp; done)) (Sub.consE rfl (by rw [pf_no l k (by omega) (by omega)]) (Sub.consE rfl (by rw [pf_no l k (by omega) (by omega)]) (Sub.consE rfl (by first | rfl | (congr 1; omega) | (simp; done)) .nil))))
            · exact .nil
        ·
          refine J.exit ?_
          refine JE.seqX ?_
          refine JE.cutX ?_
          refine JE.blockHit ?_
          refine JE.cutN ⟨?_, rfl, rfl⟩ ?_ ?_
          · trivial
          · exact (Sub.consE rfl (by first | rfl | (congr 1; omega) | (simp; done)) (Sub.consE rfl (by rw [take_end l k (by omega) (by omega)]) (Sub.consE rfl (by rw [take_end l k (by omega) (by omega)]) .nil)))
          · exact .nil
      ·
        refine WL.noS rfl rfl ?_
        refine WL.noS rfl rfl ?_
        refine WL.rd (RD.pickF rfl rfl) rfl rfl ?_
        refine WL.nil ?_
        refine JE.seqN ?_
        refine J.condF rfl ?_
        refine J.exit ?_
        refine JE.seqX ?_
        refine JE.cutX ?_
        refine JE.blockHit ?_
        refine JE.cutN ⟨?_, rfl, rfl⟩ ?_ ?_
        · trivial
        · exact (Sub.consE rfl (by first | rfl | (congr 1; omega) | (simp; done)) (Sub.consE rfl (by rw [take_end l k (by omega) (by omega)]) (Sub.consE rfl (by rw [take_end l k (by omega) (by omega)]) .nil)))
        · exact .nil
  · rintro _ _ ⟨_, rfl, rfl⟩
    have hb := pf_bound (l.take 11)
    have hlt : (l.take 11).length ≤ 11 := List.length_take_le _ _
    have hq := pow10_11 (pf (l.take 11)).2 (by omega)
    have hsg := sg_abs l (pf (l.take 11)).1
    refine J.cut (fun e m => ((True)) ∧ e = [(0, .string (bs l)), (4, .int .i64 (sg l (pf (l.take 11)).1)), (5, .int .i64 ((pf (l.take 11)).2 : Int))] ∧ m = []) ?_ ?_
    ·
      refine J.seq ?_
      refine J.reg ?_
      refine WL.rd (RD.move rfl) rfl rfl ?_
      refine WL.rd (RD.lenS rfl) rfl rfl ?_
      refine WL.rd (RD.gtr rfl rfl) rfl rfl ?_
      refine WL.rd (RD.move rfl) rfl rfl ?_
      refine WL.caseP 40 rfl (fun hg40 => ?_) (fun hg40 => ?_)
      ·
        refine WL.rd (RD.move rfl) rfl rfl ?_
        refine WL.rd (RD.indexS rfl rfl (by omega)) rfl rfl ?_
        refine WL.rd (RD.eql rfl rfl) rfl rfl ?_
        refine WL.rd (RD.pickT rfl rfl) rfl rfl ?_
        refine WL.nil ?_
        refine JE.seqN ?_
        refine J.condP rfl (fun hc44 => ?_) (fun hc44 => ?_)
        ·
          refine J.reg ?_
          refine WL.rd (RD.move rfl) rfl rfl ?_
          refine WL.rd (RD.neg rfl (by omega) (by omega)) rfl rfl ?_
          refine WL.rd (RD.assign rfl) rfl rfl ?_
          refine WL.nil ?_
          refine JE.cutN ⟨?_, rfl, rfl⟩ ?_ ?_
          · trivial
          · exact (Sub.consE rfl (by first | rfl | (congr 1; omega) | (simp; done)) (Sub.consE rfl (by first | rw [sg_pos l _ (by omega) (by omega)] | rw [sg_zero l _ (by omega)]) (Sub.consE rfl (by first | rfl | (congr 1; omega) | (simp; done)) .nil)))
          · exact .nil
        ·
          refine J.skip ?_
          refine JE.cutN ⟨?_, rfl, rfl⟩ ?_ ?_
          · trivial
          · exact (Sub.consE rfl (by first | rfl | (congr 1; omega) | (simp; done)) (Sub.consE rfl (by first | rw [sg_pos l _ (by omega) (by omega)] | rw [sg_zero l _ (by omega)]) (Sub.consE rfl (by first | rfl | (congr 1; omega) | (simp; done)) .nil)))
          · exact .nil
      ·
        refine WL.noS rfl rfl ?_
        refine WL.noS rfl rfl ?_
        refine WL.noS rfl rfl ?_
        refine WL.rd (RD.pickF rfl rfl) rfl rfl ?_
        refine WL.nil ?_
        refine JE.seqN ?_
        refine J.condF rfl ?_
        refine J.skip ?_
        refine JE.cutN ⟨?_, rfl, rfl⟩ ?_ ?_
        · trivial
        · exact (Sub.consE rfl (by first | rfl | (congr 1; omega) | (simp; done)) (Sub.consE rfl (by first | rw [sg_pos l _ (by omega) (by omega)] | rw [sg_zero l _ (by omega)]) (Sub.consE rfl (by first | rfl | (congr 1; omega) | (simp; done)) .nil)))
        · exact .nil
    · rintro _ _ ⟨_, rfl, rfl⟩
      have hb := pf_bound (l.take 11)
      have hlt : (l.take 11).length ≤ 11 := List.length_take_le _ _
      have hq := pow10_11 (pf (l.take 11)).2 (by omega)
      have hsg := sg_abs l (pf (l.take 11)).1
      refine J.seq ?_
      refine J.seq ?_
      refine J.reg ?_
      refine WL.rd (RD.move rfl) rfl rfl ?_
      refine WL.rd (RD.gtr rfl rfl) rfl rfl ?_
      refine WL.rd (RD.move rfl) rfl rfl ?_
      refine WL.caseP 49 rfl (fun hg49 => ?_) (fun hg49 => ?_)
      ·
        refine WL.noS rfl rfl ?_
        refine WL.noS rfl rfl ?_
        refine WL.noS rfl rfl ?_
        refine WL.rd (RD.pickT rfl rfl) rfl rfl ?_
        refine WL.rd (RD.move rfl) rfl rfl ?_
        refine WL.noS rfl rfl ?_
        refine WL.noS rfl rfl ?_
        refine WL.noS rfl rfl ?_
        refine WL.noS rfl rfl ?_
        refine WL.rd (RD.pickT rfl rfl) rfl rfl ?_
        refine WL.nil ?_
        refine JE.seqN ?_
        refine J.condT rfl ?_
        refine J.seq ?_
        refine J.reg ?_
        refine WL.rd (RD.assign rfl) rfl rfl ?_
        refine WL.rd (RD.assign rfl) rfl rfl ?_
        refine WL.nil ?_
        refine JE.seqN ?_
        refine J.ret ?_
        refine JE.ret rfl (.tmp rfl (.tmp rfl .nil)) (fun w hS => ?_)
        exact CS.fin hS (by rw [parse_bad l (.inl (by omega))]; rfl)
      ·
        refine WL.rd (RD.move rfl) rfl rfl ?_
        refine WL.rd (RD.lenS rfl) rfl rfl ?_
        refine WL.rd (RD.gtr rfl rfl) rfl rfl ?_
        refine WL.rd (RD.pickF rfl rfl) rfl rfl ?_
        refine WL.rd (RD.move rfl) rfl rfl ?_
        refine WL.caseP 54 rfl (fun hg54 => ?_) (fun hg54 => ?_)
        ·
          refine WL.noS rfl rfl ?_
          refine WL.noS rfl rfl ?_
          refine WL.noS rfl rfl ?_
          refine WL.noS rfl rfl ?_
          refine WL.rd (RD.pickT rfl rfl) rfl rfl ?_
          refine WL.nil ?_
          refine JE.seqN ?_
          refine J.condT rfl ?_
          refine J.seq ?_
          refine J.reg ?_
          refine WL.rd (RD.assign rfl) rfl rfl ?_
          refine WL.rd (RD.assign rfl) rfl rfl ?_
          refine WL.nil ?_
          refine JE.seqN ?_
          refine J.ret ?_
          refine JE.ret rfl (.tmp rfl (.tmp rfl .nil)) (fun w hS => ?_)
          exact CS.fin hS (by rw [parse_bad l (.inr (.inl (by omega)))]; rfl)
        ·
          refine WL.rd (RD.move rfl) rfl rfl ?_
          refine WL.efS (EF.callS (.cons rfl .nil) (fun w hS => sFormatInt_c _ _ (by omega))) rfl rfl ?_
          rintro ⟨⟩ -
          refine WL.rd (RD.move rfl) rfl rfl ?_
          refine WL.rd (RD.neqS rfl rfl) rfl rfl ?_
          refine WL.rd (RD.pickF rfl rfl) rfl rfl ?_
          refine WL.nil ?_
          refine JE.seqN ?_
          refine J.condP rfl (fun hc59 => ?_) (fun hc59 => ?_)
          ·
            refine J.seq ?_
            refine J.reg ?_
            refine WL.rd (RD.assign rfl) rfl rfl ?_
            refine WL.rd (RD.assign rfl) rfl rfl ?_
            refine WL.nil ?_
            refine JE.seqN ?_
            refine J.ret ?_
            refine JE.ret rfl (.tmp rfl (.tmp rfl .nil)) (fun w hS => ?_)
            exact CS.fin hS (by rw [parse_bad l (.inr (.inr hc59))]; rfl)
          ·
            refine J.skip ?_
            refine JE.seqN ?_
            refine J.seq ?_
            refine J.reg ?_
            refine WL.rd (RD.move rfl) rfl rfl ?_
            refine WL.rd (RD.assign rfl) rfl rfl ?_
            refine WL.rd (RD.assign rfl) rfl rfl ?_
            refine WL.nil ?_
            refine JE.seqN ?_
            refine J.ret ?_
            refine JE.ret rfl (.tmp rfl (.tmp rfl .nil)) (fun w hS => ?_)
            exact CS.fin hS (by rw [parse_end l _ rfl (by omega) (by omega) (by simpa using hc59)]; rfl)
theorem iParseInt_c (l : List UInt8) (w : World) (hl : l.length ≤ 9223372036854775807) :
    CS Try.prog 28 [.string (bs l)] w (.tuple #[.int .i64 (parseI l).1, .bool (parseI l).2]) := by
  refine calls_of_J (mu := (fun _ => False)) (m := []) (e := [(0, .string (bs l))]) Try.func28 rfl rfl (.cons rfl .nil) (St.init _ _) ?_
  refine J.seq ?_
  refine J.reg ?_
  refine WL.rd (RD.assign rfl) rfl rfl ?_
  refine WL.rd (RD.assign rfl) rfl rfl ?_
  refine WL.nil ?_
  refine JE.seqN ?_
  refine J.seq ?_
  refine J.reg ?_
  refine WL.rd (RD.assign rfl) rfl rfl ?_
  refine WL.nil ?_
  refine JE.seqN ?_
  refine J.cut (fun e m => ((True)) ∧ e = [(0, .string (bs l)), (4, .int .i64 (nsg l : Int))] ∧ m = []) ?_ ?_
  ·
    refine J.seq ?_
    refine J.reg ?_
    refine WL.rd (RD.move rfl) rfl rfl ?_
    refine WL.rd (RD.lenS rfl) rfl rfl ?_
    refine WL.rd (RD.gtr rfl rfl) rfl rfl ?_
    refine WL.rd (RD.move rfl) rfl rfl ?_
    refine WL.caseP 10 rfl (fun hg10 => ?_) (fun hg10 => ?_)
    ·
      refine WL.rd (RD.move rfl) rfl rfl ?_
      refine WL.rd (RD.indexS rfl rfl (by omega)) rfl rfl ?_
      refine WL.rd (RD.eql rfl rfl) rfl rfl ?_
      refine WL.rd (RD.pickT rfl rfl) rfl rfl ?_
      refine WL.nil ?_
      refine JE.seqN ?_
      refine J.condP rfl (fun hc14 => ?_) (fun hc14 => ?_)
      ·
        refine J.reg ?_
        refine WL.rd (RD.assign rfl) rfl rfl ?_
        refine WL.nil ?_
        refine JE.cutN ⟨?_, rfl, rfl⟩ ?_ ?_
        · trivial
        · exact (Sub.consE rfl (by first | rfl | (congr 1; omega) | (simp; done)) (Sub.consE rfl (by first | (rw [nsg_pos l (by omega) (by omega)]; rfl) | (rw [nsg_zero l (by omega)]; rfl)) .nil))
        · exact .nil
      ·
        refine J.skip ?_
        refine JE.cutN ⟨?_, rfl, rfl⟩ ?_ ?_
        · trivial
        · exact (Sub.consE rfl (by first | rfl | (congr 1; omega) | (simp; done)) (Sub.consE rfl (by first | (rw [nsg_pos l (by omega) (by omega)]; rfl) | (rw [nsg_zero l (by omega)]; rfl)) .nil))
        · exact .nil
    ·
      refine WL.noS rfl rfl ?_
      refine WL.noS rfl rfl ?_
      refine WL.noS rfl rfl ?_
      refine WL.rd (RD.pickF rfl rfl) rfl rfl ?_
      refine WL.nil ?_
      refine JE.seqN ?_
      refine J.condF rfl ?_
      refine J.skip ?_
      refine JE.cutN ⟨?_, rfl, rfl⟩ ?_ ?_
      · trivial
      · exact (Sub.consE rfl (by first | rfl | (congr 1; omega) | (simp; done)) (Sub.consE rfl (by first | (rw [nsg_pos l (by omega) (by omega)]; rfl) | (rw [nsg_zero l (by omega)]; rfl)) .nil))
      · exact .nil
  · rintro _ _ ⟨_, rfl, rfl⟩
    have hns := nsg_le l
    refine J.seq ?_
    refine J.seq ?_
    refine J.reg ?_
    refine WL.rd (RD.move rfl) rfl rfl ?_
    refine WL.rd (RD.lenS rfl) rfl rfl ?_
    refine WL.rd (RD.move rfl) rfl rfl ?_
    refine WL.rd (RD.sub rfl rfl (by omega) (by omega)) rfl rfl ?_
    refine WL.efS (EF.callS (.cons rfl (.cons rfl (.cons rfl .nil))) (fun w hS => within_c _ _ _ _)) rfl rfl ?_
    rintro ⟨⟩ -
    refine WL.rd (RD.notP rfl) rfl rfl ?_
    refine WL.nil ?_
    refine JE.seqN ?_
    refine J.condP rfl (fun hc20 => ?_) (fun hc20 => ?_)
    ·
      refine J.seq ?_
      refine J.reg ?_
      refine WL.rd (RD.assign rfl) rfl rfl ?_
      refine WL.rd (RD.assign rfl) rfl rfl ?_
      refine WL.nil ?_
      refine JE.seqN ?_
      refine J.ret ?_
      refine JE.ret rfl (.tmp rfl (.tmp rfl .nil)) (fun w hS => ?_)
      exact CS.fin hS (by rw [parse_bad1 l (by omega)]; rfl)
    ·
      refine J.skip ?_
      refine JE.seqN ?_
      refine J.seq ?_
      refine J.reg ?_
      refine WL.rd (RD.assign rfl) rfl rfl ?_
      refine WL.nil ?_
      refine JE.seqN ?_
      refine J.seq ?_
      refine J.seq ?_
      refine J.reg ?_
      refine WL.rd (RD.move rfl) rfl rfl ?_
      refine WL.rd (RD.assign rfl) rfl rfl ?_
      refine WL.nil ?_
      refine JE.seqN ?_
      refine J.block ?_
      refine J.loop (fun g e m => ∃ (k : Nat), g = l.length - k ∧ ((nsg l ≤ k) ∧ (k ≤ l.length) ∧ ((pf (l.take k)).2 + nsg l ≤ k)) ∧ e = [(0, .string (bs l)), (4, .int .i64 (nsg l : Int)), (5, .int .i64 ((pf (l.take k)).1 : Int)), (6, .int .i64 (k : Int))] ∧ m = []) _ ⟨nsg l, rfl, ?_, rfl, rfl⟩ ?_ ?_ ?_
      · exact ⟨by omega, by omega, by rw [hns.2.2]; omega⟩
      · exact (Sub.consE rfl (by first | rfl | (congr 1; omega) | (simp; done)) (Sub.consE rfl (by first | rfl | (congr 1; omega) | (simp; done)) (Sub.consE rfl (by rw [hns.2.2]; rfl) (Sub.consE rfl (by first | rfl | (congr 1; omega) | (simp; done)) .nil))))
      · exact .nil
      · rintro g _ _ ⟨k, rfl, hI, rfl, rfl⟩
        have hb := pf_bound (l.take k)
        have hlt : (l.take k).length = k := List.length_take_of_le (by omega)
        have hq := pow10_11 (pf (l.take k)).2 (by omega)
        have hbb : (l.getD k 0).toNat < 256 := (l.getD k 0).toNat_lt
        refine J.seq ?_
        refine J.seq ?_
        refine J.reg ?_
        refine WL.rd (RD.move rfl) rfl rfl ?_
        refine WL.rd (RD.move rfl) rfl rfl ?_
        refine WL.rd (RD.lenS rfl) rfl rfl ?_
        refine WL.rd (RD.lss rfl rfl) rfl rfl ?_
        refine WL.nil ?_
        refine JE.seqN ?_
        refine J.condP rfl (fun hc25 => ?_) (fun hc25 => ?_)
        ·
          refine J.skip ?_
          refine JE.seqN ?_
          refine J.seq ?_
          refine J.block ?_
          refine J.seq ?_
          refine J.seq ?_
          refine J.reg ?_
          refine WL.rd (RD.move rfl) rfl rfl ?_
          refine WL.rd (RD.move rfl) rfl rfl ?_
          refine WL.rd (RD.indexS rfl rfl (by omega)) rfl rfl ?_
          refine WL.rd (RD.lss rfl rfl) rfl rfl ?_
          refine WL.rd (RD.move rfl) rfl rfl ?_
          refine WL.caseP 32 rfl (fun hg32 => ?_) (fun hg32 => ?_)
          ·
            refine WL.noS rfl rfl ?_
            refine WL.noS rfl rfl ?_
            refine WL.noS rfl rfl ?_
            refine WL.noS rfl rfl ?_
            refine WL.rd (RD.pickT rfl rfl) rfl rfl ?_
            refine WL.nil ?_
            refine JE.seqN ?_
            refine J.condT rfl ?_
            refine J.seq ?_
            refine J.reg ?_
            refine WL.rd (RD.assign rfl) rfl rfl ?_
            refine WL.rd (RD.assign rfl) rfl rfl ?_
            refine WL.nil ?_
            refine JE.seqN ?_
            refine J.ret ?_
            refine JE.ret rfl (.tmp rfl (.tmp rfl .nil)) (fun w hS => ?_)
            exact CS.fin hS (by rw [parse_bad2 l k (by omega) (by omega) (by omega)]; rfl)
          ·
            refine WL.rd (RD.move rfl) rfl rfl ?_
            refine WL.rd (RD.move rfl) rfl rfl ?_
            refine WL.rd (RD.indexS rfl rfl (by omega)) rfl rfl ?_
            refine WL.rd (RD.gtr rfl rfl) rfl rfl ?_
            refine WL.rd (RD.pickF rfl rfl) rfl rfl ?_
            refine WL.nil ?_
            refine JE.seqN ?_
            refine J.condP rfl (fun hc37 => ?_) (fun hc37 => ?_)
            ·
              refine J.seq ?_
              refine J.reg ?_
              refine WL.rd (RD.assign rfl) rfl rfl ?_
              refine WL.rd (RD.assign rfl) rfl rfl ?_
              refine WL.nil ?_
              refine JE.seqN ?_
              refine J.ret ?_
              refine JE.ret rfl (.tmp rfl (.tmp rfl .nil)) (fun w hS => ?_)
              exact CS.fin hS (by rw [parse_bad2 l k (by omega) (by omega) (by omega)]; rfl)
            ·
              refine J.skip ?_
              refine JE.seqN ?_
              refine J.reg ?_
              refine WL.rd (RD.move rfl) rfl rfl ?_
              refine WL.rd (RD.mul rfl rfl (by omega) (by omega)) rfl rfl ?_
              refine WL.rd (RD.move rfl) rfl rfl ?_
              refine WL.rd (RD.move rfl) rfl rfl ?_
              refine WL.rd (RD.indexS rfl rfl (by omega)) rfl rfl ?_
              refine WL.rd (RD.subB rfl rfl (by omega) (by omega)) rfl rfl ?_
              refine WL.rd (RD.convI rfl (by omega) (by omega)) rfl rfl ?_
              refine WL.rd (RD.add rfl rfl (by omega) (by omega)) rfl rfl ?_
              refine WL.rd (RD.assign rfl) rfl rfl ?_
              refine WL.nil ?_
              refine JE.blockN ?_
              refine JE.seqN ?_
              refine J.reg ?_
              refine WL.rd (RD.move rfl) rfl rfl ?_
              refine WL.rd (RD.add rfl rfl (by omega) (by omega)) rfl rfl ?_
              refine WL.rd (RD.assign rfl) rfl rfl ?_
              refine WL.nil ?_
              refine JE.cutN ⟨_, ?_, k + 1, rfl, ?_, rfl, rfl⟩ ?_ ?_
              · omega
              · exact ⟨by omega, by omega, by rw [pf_yes l k (by omega) (by omega) (by omega)]; dsimp only; omega⟩
              · exact (Sub.consE rfl (by first | rfl | (congr 1; omega) | (simp; done)) (Sub.consE rfl (by first | rfl | (congr 1; omega) | (simp; done)) (Sub.consE rfl (by rw [pf_yes l k (by omega) (by omega) (by omega)]; first | rfl | (congr 1; done) | (congr 1; dsimp only; omega)) (Sub.consE rfl (by first | rfl | (congr 1; omega) | (simp; done)) .nil))))
              · exact .nil
        ·
          refine J.exit ?_
          refine JE.seqX ?_
          refine JE.cutX ?_
          refine JE.blockHit ?_
          refine JE.seqN ?_
          refine J.seq ?_
          refine J.seq ?_
          have hkl : l.take k = l := List.take_of_length_le (by omega)
          rw [hkl] at hb hq hI
          rw [hkl]
          refine J.reg ?_
          refine WL.rd (RD.move rfl) rfl rfl ?_
          refine WL.rd (RD.eql rfl rfl) rfl rfl ?_
          refine WL.nil ?_
          refine JE.seqN ?_
          refine J.condP rfl (fun hc47 => ?_) (fun hc47 => ?_)
          ·
            refine J.reg ?_
            refine WL.rd (RD.move rfl) rfl rfl ?_
            refine WL.rd (RD.neg rfl (by omega) (by omega)) rfl rfl ?_
            refine WL.rd (RD.assign rfl) rfl rfl ?_
            refine WL.nil ?_
            refine JE.seqN ?_
            refine J.seq ?_
            refine J.seq ?_
            refine J.reg ?_
            refine WL.rd (RD.move rfl) rfl rfl ?_
            refine WL.efS (EF.callS (.cons rfl .nil) (fun w hS => iFormatInt_c _ _ (by omega))) rfl rfl ?_
            rintro ⟨⟩ -
            refine WL.rd (RD.move rfl) rfl rfl ?_
            refine WL.rd (RD.neqS rfl rfl) rfl rfl ?_
            refine WL.nil ?_
            refine JE.seqN ?_
            refine J.condP rfl (fun hc53 => ?_) (fun hc53 => ?_)
            ·
              refine J.seq ?_
              refine J.reg ?_
              refine WL.rd (RD.assign rfl) rfl rfl ?_
              refine WL.rd (RD.assign rfl) rfl rfl ?_
              refine WL.nil ?_
              refine JE.seqN ?_
              refine J.ret ?_
              refine JE.ret rfl (.tmp rfl (.tmp rfl .nil)) (fun w hS => ?_)
              have hs : sg l (pf l).1 = -((pf l).1 : Int) := by rw [sg_nsg, if_pos (by omega)]
              exact CS.fin hS (by rw [parse_bad3 l (by rw [hs]; exact hc53)]; rfl)
            ·
              refine J.skip ?_
              refine JE.seqN ?_
              refine J.seq ?_
              refine J.reg ?_
              refine WL.rd (RD.move rfl) rfl rfl ?_
              refine WL.rd (RD.assign rfl) rfl rfl ?_
              refine WL.rd (RD.assign rfl) rfl rfl ?_
              refine WL.nil ?_
              refine JE.seqN ?_
              refine J.ret ?_
              refine JE.ret rfl (.tmp rfl (.tmp rfl .nil)) (fun w hS => ?_)
              have hs : sg l (pf l).1 = -((pf l).1 : Int) := by rw [sg_nsg, if_pos (by omega)]
              exact CS.fin hS (by rw [parse_ok l _ hs.symm (by omega) (by simpa using hc53)]; rfl)
          ·
            refine J.skip ?_
            refine JE.seqN ?_
            refine J.seq ?_
            refine J.seq ?_
            refine J.reg ?_
            refine WL.rd (RD.move rfl) rfl rfl ?_
            refine WL.efS (EF.callS (.cons rfl .nil) (fun w hS => iFormatInt_c _ _ (by omega))) rfl rfl ?_
            rintro ⟨⟩ -
            refine WL.rd (RD.move rfl) rfl rfl ?_
            refine WL.rd (RD.neqS rfl rfl) rfl rfl ?_
            refine WL.nil ?_
            refine JE.seqN ?_
            refine J.condP rfl (fun hc53 => ?_) (fun hc53 => ?_)
            ·
              refine J.seq ?_
              refine J.reg ?_
              refine WL.rd (RD.assign rfl) rfl rfl ?_
              refine WL.rd (RD.assign rfl) rfl rfl ?_
              refine WL.nil ?_
              refine JE.seqN ?_
              refine J.ret ?_
              refine JE.ret rfl (.tmp rfl (.tmp rfl .nil)) (fun w hS => ?_)
              have hs : sg l (pf l).1 = ((pf l).1 : Int) := by rw [sg_nsg, if_neg (by omega)]
              exact CS.fin hS (by rw [parse_bad3 l (by rw [hs]; exact hc53)]; rfl)
            ·
              refine J.skip ?_
              refine JE.seqN ?_
              refine J.seq ?_
              refine J.reg ?_
              refine WL.rd (RD.move rfl) rfl rfl ?_
              refine WL.rd (RD.assign rfl) rfl rfl ?_
              refine WL.rd (RD.assign rfl) rfl rfl ?_
              refine WL.nil ?_
              refine JE.seqN ?_
              refine J.ret ?_
              refine JE.ret rfl (.tmp rfl (.tmp rfl .nil)) (fun w hS => ?_)
              have hs : sg l (pf l).1 = ((pf l).1 : Int) := by rw [sg_nsg, if_neg (by omega)]
              exact CS.fin hS (by rw [parse_ok l _ hs.symm (by omega) (by simpa using hc53)]; rfl)

end Go.Proofs.Ytljllahlnbkimaa
