/- Contracts of functions of the program, each walked once; written by a program of our own. -/
import Derived.Test.YtmnaohimnladnaaGj
namespace Go.Proofs.Ytmnaohimnladnaa
open Go Go.RowKit
set_option maxRecDepth 4000

theorem play_c (n k l : Int) (v : Value) (xs : List (Int × Int)) (w : World) (hr : Rd w v 2 (xs.map bv)) (hn : 1 ≤ n ∧ n ≤ 8) (hk : 1 ≤ k ∧ k ≤ 3) (hl : 0 ≤ l ∧ l < 2 * k) (hG : GoodL n.toNat xs) (hxl : xs.length ≤ 1048576) :
    CN Try.prog 97 [.int .i64 n, v, .int .i64 k, .int .i64 l] w (Value × Value × Value) (fun _ => True) (fun x => .agg #[x.1, x.2.1, x.2.2]) (fun x => [.row x.1 3 1 (((playP n.toNat xs k l xs.length).f).map iv), .row x.2.1 3 1 (((playP n.toNat xs k l xs.length).t).map iv), .row x.2.2 3 1 (((playP n.toNat xs k l xs.length).pl).map iv)]) := by
  have hl_xs : xs.length ≤ 9223372036854775807 := (by obtain ⟨_, _, _, hh, _⟩ := hr.shape; simpa using hh)
  refine calls_of_J (mu := (fun _ => False)) (m := [.ro v 2 (xs.map bv)]) (e := [(0, .int .i64 n), (1, v), (2, .int .i64 k), (3, .int .i64 l)]) Try.func97 rfl rfl (.cons rfl (.cons rfl (.cons rfl (.cons rfl .nil)))) (((St.init _ _).ro0 hr (by decide))) ?_
  refine J.seq ?_
  refine J.reg ?_
  refine WL.efS (EF.allocA) rfl rfl ?_
  intro b8 _
  refine WL.nil ?_
  refine JE.seqN ?_
  refine J.seq ?_
  refine J.nilRow 3 1 ?_
  refine J.nilRow 3 1 ?_
  refine J.nilRow 3 1 ?_
  refine J.reg ?_
  refine WL.rd (RD.build (n := 3) .nil rfl) rfl rfl ?_
  refine WL.efS (EF.allocA) rfl rfl ?_
  intro b9 _
  refine WL.efN (EF.storeA rfl rfl rfl rfl) rfl ?_
  rintro ⟨⟩ -
  refine WL.nil ?_
  refine JE.seqN ?_
  refine J.seq ?_
  refine J.seq ?_
  refine J.reg ?_
  refine WL.rd (RD.move rfl) rfl rfl ?_
  refine WL.rd (RD.move rfl) rfl rfl ?_
  refine WL.nil ?_
  refine JE.seqN ?_
  refine J.block ?_
  refine J.loop (fun gg ee mm => ∃ (c : Nat), ∃ (u : Value), gg = n.toNat - c ∧ (((c : Int) ≤ n)) ∧ ee = [(13, .int .i64 n), (14, .int .i64 (c : Int)), (1, v), (2, .int .i64 k), (3, .int .i64 l), (8, .pointer (some ⟨b8, 0, none⟩)), (9, .pointer (some ⟨b9, 0, none⟩))] ∧ mm = [.cells b9 39 [u, .slice none 0 0, .slice none 0 0], .row u 3 1 ((List.replicate c k).map iv), .row (.slice none 0 0) 3 1 [], .row (.slice none 0 0) 3 1 [], .cells b8 39 [.slice none 0 0, .slice none 0 0, .slice none 0 0], .ro v 2 (xs.map bv)]) _ ⟨0, .slice none 0 0, rfl, ?_, rfl, rfl⟩ ?_ ?_ ?_
  · omega
  · exact (Sub.consE rfl (by first | rfl | (congr 1; omega) | (simp; done)) (Sub.consE rfl (by first | rfl | (congr 1; omega) | (simp; done)) (Sub.consE rfl (by first | rfl | (congr 1; omega) | (simp; done)) (Sub.consE rfl (by first | rfl | (congr 1; omega) | (simp; done)) (Sub.consE rfl (by first | rfl | (congr 1; omega) | (simp; done)) (Sub.consE rfl (by first | rfl | (congr 1; omega) | (simp; done)) (Sub.consE rfl (by first | rfl | (congr 1; omega) | (simp; done)) .nil)))))))
  · exact (SubM.cells rfl (by first | rfl | (simp; done)) (SubM.row rfl rfl (by first | rfl | (simp [iv, bv, yv, tv, sv]; done)) (SubM.row rfl rfl (by first | rfl | (simp [iv, bv, yv, tv, sv]; done)) (SubM.row rfl rfl (by first | rfl | (simp [iv, bv, yv, tv, sv]; done)) (SubM.cells rfl (by first | rfl | (simp; done)) (SubM.ro rfl (by first | rfl | (simp [iv, bv, yv, tv, sv]; done)) .nil))))))
  · rintro g _ _ ⟨c, u, rfl, hI, rfl, rfl⟩
    refine J.seq ?_
    refine J.reg ?_
    refine WL.rd (RD.lss rfl rfl) rfl rfl ?_
    refine WL.nil ?_
    refine JE.seqN ?_
    refine J.seq ?_
    refine J.condP rfl (fun hc15 => ?_) (fun hc15 => ?_)
    ·
      refine J.skip ?_
      refine JE.seqN ?_
      refine J.seq ?_
      refine J.block ?_
      refine J.reg ?_
      refine WL.rd (RD.fieldC rfl rfl) rfl rfl ?_
      refine WL.rd (RD.loadC rfl rfl) rfl rfl ?_
      refine WL.rd (RD.move rfl) rfl rfl ?_
      refine WL.efS (EF.build1 rfl) rfl rfl ?_
      intro v19 _
      refine WL.efS (EF.append rfl rfl (by omega) rfl rfl rfl) rfl rfl ?_
      intro v20 _
      refine WL.rd (RD.fieldC rfl rfl) rfl rfl ?_
      refine WL.efN (EF.storeC rfl rfl rfl) rfl ?_
      rintro ⟨⟩ -
      refine WL.nil ?_
      refine JE.blockN ?_
      refine JE.seqN ?_
      refine J.reg ?_
      refine WL.rd (RD.add rfl rfl (by omega) (by omega)) rfl rfl ?_
      refine WL.rd (RD.move rfl) rfl rfl ?_
      refine WL.nil ?_
      refine JE.cutN ⟨_, ?_, c + 1, v20, rfl, ?_, rfl, rfl⟩ ?_ ?_
      · omega
      · omega
      · exact (Sub.consE rfl (by first | rfl | (congr 1; omega) | (simp; done)) (Sub.consE rfl (by first | rfl | (congr 1; omega) | (simp; done)) (Sub.consE rfl (by first | rfl | (congr 1; omega) | (simp; done)) (Sub.consE rfl (by first | rfl | (congr 1; omega) | (simp; done)) (Sub.consE rfl (by first | rfl | (congr 1; omega) | (simp; done)) (Sub.consE rfl (by first | rfl | (congr 1; omega) | (simp; done)) (Sub.consE rfl (by first | rfl | (congr 1; omega) | (simp; done)) .nil)))))))
      · exact (SubM.cells rfl (by first | rfl | (simp; done)) (SubM.row rfl rfl (by rw [List.replicate_succ']) (SubM.row rfl rfl (by first | rfl | (simp [iv, bv, yv, tv, sv]; done)) (SubM.row rfl rfl (by first | rfl | (simp [iv, bv, yv, tv, sv]; done)) (SubM.cells rfl (by first | rfl | (simp; done)) (SubM.ro rfl (by first | rfl | (simp [iv, bv, yv, tv, sv]; done)) .nil))))))
    ·
      refine J.exit ?_
      refine JE.seqX ?_
      refine JE.cutX ?_
      refine JE.blockHit ?_
      refine JE.seqN ?_
      refine J.seq ?_
      refine J.seq ?_
      refine J.reg ?_
      refine WL.rd (RD.move rfl) rfl rfl ?_
      refine WL.rd (RD.lenR rfl) rfl rfl ?_
      refine WL.rd (RD.move rfl) rfl rfl ?_
      refine WL.nil ?_
      refine JE.seqN ?_
      refine J.block ?_
      refine J.loop (fun gg ee mm => ∃ (e : Nat), ∃ (uf : Value), ∃ (ut : Value), ∃ (up : Value), gg = xs.length - e ∧ ((e ≤ xs.length)) ∧ ee = [(23, v), (24, .int .i64 (xs.length : Int)), (25, .int .i64 (e : Int)), (1, v), (3, .int .i64 l), (8, .pointer (some ⟨b8, 0, none⟩)), (9, .pointer (some ⟨b9, 0, none⟩))] ∧ mm = [.cells b9 39 [uf, ut, up], .row uf 3 1 (((playP n.toNat xs k l e).f).map iv), .row ut 3 1 (((playP n.toNat xs k l e).t).map iv), .row up 3 1 (((playP n.toNat xs k l e).pl).map iv), .cells b8 39 [.slice none 0 0, .slice none 0 0, .slice none 0 0], .ro v 2 (xs.map bv)]) _ ⟨0, u, .slice none 0 0, .slice none 0 0, rfl, ?_, rfl, rfl⟩ ?_ ?_ ?_
      · first | omega | trivial | (refine ⟨?_, ?_⟩ <;> first | omega | rfl | simp)
      · exact (Sub.consE rfl (by first | rfl | (congr 1; omega) | (simp; done)) (Sub.consE rfl (by first | rfl | (congr 1; omega) | (simp; done)) (Sub.consE rfl (by first | rfl | (congr 1; omega) | (simp; done)) (Sub.consE rfl (by first | rfl | (congr 1; omega) | (simp; done)) (Sub.consE rfl (by first | rfl | (congr 1; omega) | (simp; done)) (Sub.consE rfl (by first | rfl | (congr 1; omega) | (simp; done)) (Sub.consE rfl (by first | rfl | (congr 1; omega) | (simp; done)) .nil)))))))
      · exact (SubM.cells rfl (by first | rfl | (simp; done)) (SubM.row rfl rfl (by rw [show c = n.toNat by omega]; rfl) (SubM.row rfl rfl (by rfl) (SubM.row rfl rfl (by rfl) (SubM.cells rfl (by first | rfl | (simp; done)) (SubM.ro rfl (by first | rfl | (simp [iv, bv, yv, tv, sv]; done)) .nil))))))
      · rintro g _ _ ⟨e, uf, ut, up, rfl, hI, rfl, rfl⟩
        have hok := (play_ok hk hl hG e (by omega)).1
        have q1 := hok.fl
        have q2 := hok.pv.tl
        have q3 := asc_len hok
        refine J.seq ?_
        refine J.reg ?_
        refine WL.rd (RD.lss rfl rfl) rfl rfl ?_
        refine WL.nil ?_
        refine JE.seqN ?_
        refine J.seq ?_
        refine J.condP rfl (fun hc26 => ?_) (fun hc26 => ?_)
        ·
          refine J.skip ?_
          refine JE.seqN ?_
          refine J.seq ?_
          refine J.block ?_
          refine J.seq ?_
          refine J.reg ?_
          refine WL.rd (RD.move rfl) rfl rfl ?_
          refine WL.rd (RD.assign rfl) rfl rfl ?_
          refine WL.nil ?_
          refine JE.seqN ?_
          refine J.seq ?_
          refine J.reg ?_
          refine WL.rd (RD.loadA rfl rfl) rfl rfl ?_
          refine WL.efS (EF.callN (.cons rfl .nil) (fun w hS => copyPebbles_c _ _ _ _ _ _ _ (by exact RdI.rd hS) (by exact RdI.rd hS) (by exact RdI.rd hS) (by omega) (by omega) (by omega))) rfl rfl ?_
          rintro ⟨f29, t29, p29⟩ -
          refine WL.efS (EF.allocA) rfl rfl ?_
          intro b11 _
          refine WL.efN (EF.storeA rfl rfl rfl rfl) rfl ?_
          rintro ⟨⟩ -
          refine WL.nil ?_
          refine JE.seqN ?_
          refine J.seq ?_
          refine J.reg ?_
          refine WL.rd (RD.move rfl) rfl rfl ?_
          refine WL.rd (RD.move rfl) rfl rfl ?_
          refine WL.rd (RD.move rfl) rfl rfl ?_
          refine WL.efS (EF.callM (.cons rfl (.cons rfl (.cons rfl (.cons rfl .nil)))) (.cells (.row (.row (.row .nil)))) (.ro .nil) (fun w hS => place_c n.toNat k _ xs _ _ _ _ _ _ _ l e _ (by omega) (by omega) hxl (play_ok hk hl hG e (by omega)).1 (by omega) (by omega) hG.e) (by simp [En.rdb])) rfl rfl ?_
          rintro ⟨x33, y33⟩ -
          refine WL.nil ?_
          refine JE.seqN ?_
          refine J.cond rfl (fun hc33 => ?_) (fun hc33 => ?_)
          ·
            refine J.reg ?_
            refine WL.rd (RD.loadA rfl rfl) rfl rfl ?_
            refine WL.efN (EF.storeA rfl rfl rfl rfl) rfl ?_
            rintro ⟨⟩ -
            refine WL.nil ?_
            refine JE.blockN ?_
            refine JE.seqN ?_
            refine J.reg ?_
            refine WL.rd (RD.add rfl rfl (by omega) (by omega)) rfl rfl ?_
            refine WL.rd (RD.move rfl) rfl rfl ?_
            refine WL.nil ?_
            refine JE.cutN ⟨_, ?_, e + 1, f29, x33, y33, rfl, ?_, rfl, rfl⟩ ?_ ?_
            · omega
            · first | omega | trivial | (refine ⟨?_, ?_⟩ <;> first | omega | rfl | simp)
            · exact (Sub.consE rfl (by first | rfl | (congr 1; omega) | (simp; done)) (Sub.consE rfl (by first | rfl | (congr 1; omega) | (simp; done)) (Sub.consE rfl (by first | rfl | (congr 1; omega) | (simp; done)) (Sub.consE rfl (by first | rfl | (congr 1; omega) | (simp; done)) (Sub.consE rfl (by first | rfl | (congr 1; omega) | (simp; done)) (Sub.consE rfl (by first | rfl | (congr 1; omega) | (simp; done)) (Sub.consE rfl (by first | rfl | (congr 1; omega) | (simp; done)) .nil)))))))
            · exact (SubM.cells rfl (by first | rfl | (simp; done)) (SubM.row rfl rfl (by rw [play_yes hc33]) (SubM.row rfl rfl (by rw [play_yes hc33]) (SubM.row rfl rfl (by rw [play_yes hc33]) (SubM.cells rfl (by first | rfl | (simp; done)) (SubM.ro rfl (by first | rfl | (simp [iv, bv, yv, tv, sv]; done)) .nil))))))
          ·
            refine J.skip ?_
            refine JE.blockN ?_
            refine JE.seqN ?_
            refine J.reg ?_
            refine WL.rd (RD.add rfl rfl (by omega) (by omega)) rfl rfl ?_
            refine WL.rd (RD.move rfl) rfl rfl ?_
            refine WL.nil ?_
            refine JE.cutN ⟨_, ?_, e + 1, uf, ut, up, rfl, ?_, rfl, rfl⟩ ?_ ?_
            · omega
            · first | omega | trivial | (refine ⟨?_, ?_⟩ <;> first | omega | rfl | simp)
            · exact (Sub.consE rfl (by first | rfl | (congr 1; omega) | (simp; done)) (Sub.consE rfl (by first | rfl | (congr 1; omega) | (simp; done)) (Sub.consE rfl (by first | rfl | (congr 1; omega) | (simp; done)) (Sub.consE rfl (by first | rfl | (congr 1; omega) | (simp; done)) (Sub.consE rfl (by first | rfl | (congr 1; omega) | (simp; done)) (Sub.consE rfl (by first | rfl | (congr 1; omega) | (simp; done)) (Sub.consE rfl (by first | rfl | (congr 1; omega) | (simp; done)) .nil)))))))
            · exact (SubM.cells rfl (by first | rfl | (simp; done)) (SubM.row rfl rfl (by rw [play_no hc33]) (SubM.row rfl rfl (by rw [play_no hc33]) (SubM.row rfl rfl (by rw [play_no hc33]) (SubM.cells rfl (by first | rfl | (simp; done)) (SubM.ro rfl (by first | rfl | (simp [iv, bv, yv, tv, sv]; done)) .nil))))))
        ·
          refine J.exit ?_
          refine JE.seqX ?_
          refine JE.cutX ?_
          refine JE.blockHit ?_
          refine JE.seqN ?_
          refine J.seq ?_
          refine J.reg ?_
          refine WL.rd (RD.loadA rfl rfl) rfl rfl ?_
          refine WL.efN (EF.storeA rfl rfl rfl rfl) rfl ?_
          rintro ⟨⟩ -
          refine WL.nil ?_
          refine JE.seqN ?_
          refine J.ret ?_
          refine JE.ret rfl (ResL.flat rfl rfl .nil) (fun w hS => ?_)
          have hex : e = xs.length := by omega
          subst hex
          exact CN.fin hS (uf, ut, up) rfl trivial (SubM.row rfl rfl rfl (SubM.row rfl rfl rfl (SubM.row rfl rfl rfl .nil))) (by simp [En.rdb])
theorem iRunPebbles_c (n : Int) (v : Value) (xs : List (Int × Int)) (k l : Int) (w : World) (hr : Rd w v 2 (xs.map bv)) (hk : -9223372036854775808 ≤ k ∧ k ≤ 9223372036854775807) (hl : -9223372036854775808 ≤ l ∧ l ≤ 9223372036854775807) :
    CN Try.prog 86 [.agg #[.int .i64 n, v], .int .i64 k, .int .i64 l] w (Value × Value × Value) (fun _ => True) (fun x => .tuple #[.agg #[x.1, x.2.1, x.2.2], .bool (decide (isG n xs ∧ (1 ≤ k ∧ k ≤ 3 ∧ 0 ≤ l ∧ l < 2 * k)))]) (fun x => [.row x.1 3 1 (((runP n k l xs).f).map iv), .row x.2.1 3 1 (((runP n k l xs).t).map iv), .row x.2.2 3 1 (((runP n k l xs).pl).map iv)]) := by
  refine calls_of_J (mu := (fun _ => False)) (m := [.ro v 2 (xs.map bv)]) (e := [(0, .agg #[.int .i64 n, v]), (1, .int .i64 k), (2, .int .i64 l)]) Try.func86 rfl rfl (.cons rfl (.cons rfl (.cons rfl .nil))) (((St.init _ _).ro0 hr (by decide))) ?_
  refine J.seq ?_
  refine J.reg ?_
  refine WL.efS (EF.boxA rfl) rfl rfl ?_
  intro b3 _
  refine WL.efS (EF.allocA) rfl rfl ?_
  intro b6 _
  refine WL.rd (RD.assign rfl) rfl rfl ?_
  refine WL.nil ?_
  refine JE.seqN ?_
  refine J.seq ?_
  refine J.seq ?_
  refine J.reg ?_
  refine WL.rd (RD.loadA rfl rfl) rfl rfl ?_
  refine WL.efS (EF.callS (.cons rfl .nil) (fun w hS => iIsGraph_c _ _ _ _ (by exact RdI.rd hS))) rfl rfl ?_
  rintro ⟨⟩ -
  refine WL.rd (RD.notP rfl) rfl rfl ?_
  refine WL.rd (RD.move rfl) rfl rfl ?_
  refine WL.caseP 11 rfl (fun hg11 => ?_) (fun hg11 => ?_)
  ·
    refine WL.noS rfl rfl ?_
    refine WL.noS rfl rfl ?_
    refine WL.noS rfl rfl ?_
    refine WL.noS rfl rfl ?_
    refine WL.rd (RD.pickT rfl rfl) rfl rfl ?_
    refine WL.nil ?_
    refine JE.seqN ?_
    refine J.condT rfl ?_
    refine J.seq ?_
    refine J.nilRow 3 1 ?_
    refine J.nilRow 3 1 ?_
    refine J.nilRow 3 1 ?_
    refine J.reg ?_
    refine WL.rd (RD.build (n := 3) .nil rfl) rfl rfl ?_
    refine WL.efN (EF.storeA rfl rfl rfl rfl) rfl ?_
    rintro ⟨⟩ -
    refine WL.rd (RD.assign rfl) rfl rfl ?_
    refine WL.nil ?_
    refine JE.seqN ?_
    refine J.ret ?_
    refine JE.ret rfl (ResL.flat rfl rfl (.tmp rfl .nil)) (fun w hS => ?_)
    have hno : ¬ (isG n xs ∧ (1 ≤ k ∧ k ≤ 3 ∧ 0 ≤ l ∧ l < 2 * k)) := fun hh => by first | exact absurd hh.1 (by assumption) | exact absurd hh.2 (by assumption)
    have hru : runP n k l xs = ⟨[], [], []⟩ := by unfold runP; rw [if_neg hno]
    exact CN.fin hS (.slice none 0 0, .slice none 0 0, .slice none 0 0) (by rw [decide_eq_false hno]; rfl) trivial (SubM.row rfl rfl (by rw [hru]; rfl) (SubM.row rfl rfl (by rw [hru]; rfl) (SubM.row rfl rfl (by rw [hru]; rfl) .nil))) (by simp [En.rdb])
  ·
    refine WL.rd (RD.move rfl) rfl rfl ?_
    refine WL.rd (RD.move rfl) rfl rfl ?_
    refine WL.efS (EF.callS (.cons rfl (.cons rfl .nil)) (fun w hS => iIsRange_c _ _ _ (by assumption))) rfl rfl ?_
    rintro ⟨⟩ -
    refine WL.rd (RD.notP rfl) rfl rfl ?_
    refine WL.rd (RD.pickF rfl rfl) rfl rfl ?_
    refine WL.nil ?_
    refine JE.seqN ?_
    refine J.condP rfl (fun hc16 => ?_) (fun hc16 => ?_)
    ·
      refine J.seq ?_
      refine J.nilRow 3 1 ?_
      refine J.nilRow 3 1 ?_
      refine J.nilRow 3 1 ?_
      refine J.reg ?_
      refine WL.rd (RD.build (n := 3) .nil rfl) rfl rfl ?_
      refine WL.efN (EF.storeA rfl rfl rfl rfl) rfl ?_
      rintro ⟨⟩ -
      refine WL.rd (RD.assign rfl) rfl rfl ?_
      refine WL.nil ?_
      refine JE.seqN ?_
      refine J.ret ?_
      refine JE.ret rfl (ResL.flat rfl rfl (.tmp rfl .nil)) (fun w hS => ?_)
      have hno : ¬ (isG n xs ∧ (1 ≤ k ∧ k ≤ 3 ∧ 0 ≤ l ∧ l < 2 * k)) := fun hh => by first | exact absurd hh.1 (by assumption) | exact absurd hh.2 (by assumption)
      have hru : runP n k l xs = ⟨[], [], []⟩ := by unfold runP; rw [if_neg hno]
      exact CN.fin hS (.slice none 0 0, .slice none 0 0, .slice none 0 0) (by rw [decide_eq_false hno]; rfl) trivial (SubM.row rfl rfl (by rw [hru]; rfl) (SubM.row rfl rfl (by rw [hru]; rfl) (SubM.row rfl rfl (by rw [hru]; rfl) .nil))) (by simp [En.rdb])
    ·
      refine J.skip ?_
      refine JE.seqN ?_
      refine J.seq ?_
      have hg : isG n xs := Decidable.not_not.1 hg11
      have hrg := Decidable.not_not.1 hc16
      have h12 := hg.1
      have h13 := hg.2.1
      have h14 := hg.2.2.1
      have hGL := gGood hg
      refine J.reg ?_
      refine WL.rd (RD.fieldC rfl rfl) rfl rfl ?_
      refine WL.rd (RD.loadC rfl rfl) rfl rfl ?_
      refine WL.rd (RD.fieldC rfl rfl) rfl rfl ?_
      refine WL.rd (RD.loadC rfl rfl) rfl rfl ?_
      refine WL.rd (RD.move rfl) rfl rfl ?_
      refine WL.rd (RD.move rfl) rfl rfl ?_
      refine WL.efS (EF.callN (.cons rfl (.cons rfl (.cons rfl (.cons rfl .nil)))) (fun w hS => play_c _ _ _ _ _ _ (by exact RdI.rd hS) (by omega) (by omega) (by omega) (by assumption) (by omega))) rfl rfl ?_
      rintro ⟨f24, t24, p24⟩ -
      refine WL.efN (EF.storeA rfl rfl rfl rfl) rfl ?_
      rintro ⟨⟩ -
      refine WL.rd (RD.assign rfl) rfl rfl ?_
      refine WL.nil ?_
      refine JE.seqN ?_
      refine J.ret ?_
      refine JE.ret rfl (ResL.flat rfl rfl (.tmp rfl .nil)) (fun w hS => ?_)
      have hyes : isG n xs ∧ (1 ≤ k ∧ k ≤ 3 ∧ 0 ≤ l ∧ l < 2 * k) := ⟨hg, hrg⟩
      have hru : runP n k l xs = playP n.toNat xs k l xs.length := by unfold runP; rw [if_pos hyes]
      exact CN.fin hS (f24, t24, p24) (by rw [decide_eq_true hyes]; rfl) trivial (SubM.row rfl rfl (by rw [hru]) (SubM.row rfl rfl (by rw [hru]) (SubM.row rfl rfl (by rw [hru]) .nil))) (by simp [En.rdb])
theorem iAcceptedBars_c (n : Int) (v : Value) (xs : List (Int × Int)) (k l : Int) (w : World) (hr : Rd w v 2 (xs.map bv)) (hk : -9223372036854775808 ≤ k ∧ k ≤ 9223372036854775807) (hl : -9223372036854775808 ≤ l ∧ l ≤ 9223372036854775807) :
    CN Try.prog 81 [.agg #[.int .i64 n, v], .int .i64 k, .int .i64 l] w Value (fun _ => True) (fun u => u) (fun u => [.row u 3 1 (((runP n k l xs).pl).map iv)]) := by
  have hrl := runP_len n k l xs
  refine calls_of_J (mu := (fun _ => False)) (m := [.ro v 2 (xs.map bv)]) (e := [(0, .agg #[.int .i64 n, v]), (1, .int .i64 k), (2, .int .i64 l)]) Try.func81 rfl rfl (.cons rfl (.cons rfl (.cons rfl .nil))) (((St.init _ _).ro0 hr (by decide))) ?_
  refine J.seq ?_
  refine J.reg ?_
  refine WL.efS (EF.boxA rfl) rfl rfl ?_
  intro b3 _
  refine WL.rd (RD.assign rfl) rfl rfl ?_
  refine WL.nil ?_
  refine JE.seqN ?_
  refine J.seq ?_
  refine J.reg ?_
  refine WL.rd (RD.loadA rfl rfl) rfl rfl ?_
  refine WL.rd (RD.move rfl) rfl rfl ?_
  refine WL.rd (RD.move rfl) rfl rfl ?_
  refine WL.efS (EF.callN (.cons rfl (.cons rfl (.cons rfl .nil))) (fun w hS => iRunPebbles_c _ _ _ _ _ _ (by exact RdI.rd hS) (by first | assumption | (constructor <;> decide) | omega) (by first | assumption | (constructor <;> decide) | omega))) rfl rfl ?_
  rintro ⟨f13, t13, p13⟩ -
  refine WL.rd (RD.move rfl) rfl rfl ?_
  refine WL.rd (RD.extract rfl rfl) rfl rfl ?_
  refine WL.rd (RD.extract rfl rfl) rfl rfl ?_
  refine WL.efS (EF.allocA) rfl rfl ?_
  intro b7 _
  refine WL.efN (EF.storeA rfl rfl rfl rfl) rfl ?_
  rintro ⟨⟩ -
  refine WL.rd (RD.assign rfl) rfl rfl ?_
  refine WL.nil ?_
  refine JE.seqN ?_
  refine J.seq ?_
  refine J.reg ?_
  refine WL.rd (RD.fieldC rfl rfl) rfl rfl ?_
  refine WL.rd (RD.loadC rfl rfl) rfl rfl ?_
  refine WL.efS (EF.callN (.cons rfl .nil) (fun w hS => copyInts_c _ _ _ (by exact RdI.rd hS) (by omega))) rfl rfl ?_
  rintro v18 -
  refine WL.rd (RD.assign rfl) rfl rfl ?_
  refine WL.nil ?_
  refine JE.seqN ?_
  refine J.ret ?_
  refine JE.ret rfl (.tmp rfl .nil) (fun w hS => ?_)
  exact CN.fin hS v18 rfl trivial (SubM.row rfl rfl rfl .nil) (by simp [En.rdb])
theorem iRejectedBars_c (n : Int) (v : Value) (xs : List (Int × Int)) (k l : Int) (w : World) (hr : Rd w v 2 (xs.map bv)) (hk : -9223372036854775808 ≤ k ∧ k ≤ 9223372036854775807) (hl : -9223372036854775808 ≤ l ∧ l ≤ 9223372036854775807) (hlx : xs.length ≤ 1048576) :
    CN Try.prog 80 [.agg #[.int .i64 n, v], .int .i64 k, .int .i64 l] w Value (fun _ => True) (fun u => u) (fun u => [.row u 3 1 ((pickIx (rejF n k l xs) xs.length).map iv)]) := by
  have hrl := runP_len n k l xs
  have hl_xs : xs.length ≤ 9223372036854775807 := (by obtain ⟨_, _, _, hh, _⟩ := hr.shape; simpa using hh)
  refine calls_of_J (mu := (fun _ => False)) (m := [.ro v 2 (xs.map bv)]) (e := [(0, .agg #[.int .i64 n, v]), (1, .int .i64 k), (2, .int .i64 l)]) Try.func80 rfl rfl (.cons rfl (.cons rfl (.cons rfl .nil))) (((St.init _ _).ro0 hr (by decide))) ?_
  refine J.seq ?_
  refine J.reg ?_
  refine WL.efS (EF.boxA rfl) rfl rfl ?_
  intro b3 _
  refine WL.rd (RD.assign rfl) rfl rfl ?_
  refine WL.nil ?_
  refine JE.seqN ?_
  refine J.seq ?_
  refine J.reg ?_
  refine WL.efS (EF.build0) rfl rfl ?_
  intro v11 _
  refine WL.rd (RD.assign rfl) rfl rfl ?_
  refine WL.nil ?_
  refine JE.seqN ?_
  refine J.seq ?_
  refine J.reg ?_
  refine WL.rd (RD.loadA rfl rfl) rfl rfl ?_
  refine WL.rd (RD.move rfl) rfl rfl ?_
  refine WL.rd (RD.move rfl) rfl rfl ?_
  refine WL.efS (EF.callN (.cons rfl (.cons rfl (.cons rfl .nil))) (fun w hS => iRunPebbles_c _ _ _ _ _ _ (by exact RdI.rd hS) (by first | assumption | (constructor <;> decide) | omega) (by first | assumption | (constructor <;> decide) | omega))) rfl rfl ?_
  rintro ⟨f16, t16, p16⟩ -
  refine WL.rd (RD.move rfl) rfl rfl ?_
  refine WL.rd (RD.extract rfl rfl) rfl rfl ?_
  refine WL.rd (RD.extract rfl rfl) rfl rfl ?_
  refine WL.efS (EF.allocA) rfl rfl ?_
  intro b8 _
  refine WL.efN (EF.storeA rfl rfl rfl rfl) rfl ?_
  rintro ⟨⟩ -
  refine WL.rd (RD.assign rfl) rfl rfl ?_
  refine WL.nil ?_
  refine JE.seqN ?_
  refine J.seq ?_
  refine J.seq ?_
  refine J.reg ?_
  refine WL.rd (RD.fieldC rfl rfl) rfl rfl ?_
  refine WL.rd (RD.loadC rfl rfl) rfl rfl ?_
  refine WL.rd (RD.lenR rfl) rfl rfl ?_
  refine WL.rd (RD.move rfl) rfl rfl ?_
  refine WL.nil ?_
  refine JE.seqN ?_
  refine J.block ?_
  refine J.loop (fun gg ee mm => ∃ (j : Nat), ∃ (u : Value), gg = xs.length - j ∧ ((j ≤ xs.length)) ∧ ee = [(7, u), (9, .bool (decide (isG n xs ∧ (1 ≤ k ∧ k ≤ 3 ∧ 0 ≤ l ∧ l < 2 * k)))), (20, v), (21, .int .i64 (xs.length : Int)), (22, .int .i64 (j : Int)), (8, .pointer (some ⟨b8, 0, none⟩))] ∧ mm = [.row u 3 1 ((pickIx (rejF n k l xs) j).map iv), .cells b8 39 [f16, t16, p16], .row f16 3 1 (((runP n k l xs).f).map iv), .row t16 3 1 (((runP n k l xs).t).map iv), .row p16 3 1 (((runP n k l xs).pl).map iv), .cells b3 30 [.int .i64 n, v], .ro v 2 (xs.map bv)]) _ ⟨0, v11, rfl, ?_, rfl, rfl⟩ ?_ ?_ ?_
  · first | omega | trivial | (refine ⟨?_, ?_⟩ <;> first | omega | rfl | simp)
  · exact (Sub.consE rfl (by first | rfl | (congr 1; omega) | (simp; done)) (Sub.consE rfl (by first | rfl | (congr 1; omega) | (simp; done)) (Sub.consE rfl (by first | rfl | (congr 1; omega) | (simp; done)) (Sub.consE rfl (by first | rfl | (congr 1; omega) | (simp; done)) (Sub.consE rfl (by first | rfl | (congr 1; omega) | (simp; done)) (Sub.consE rfl (by first | rfl | (congr 1; omega) | (simp; done)) .nil))))))
  · exact (SubM.row rfl rfl (by rfl) (SubM.cells rfl (by first | rfl | (simp; done)) (SubM.row rfl rfl (by first | rfl | (simp [iv, bv, yv, tv, sv]; done)) (SubM.row rfl rfl (by first | rfl | (simp [iv, bv, yv, tv, sv]; done)) (SubM.row rfl rfl (by first | rfl | (simp [iv, bv, yv, tv, sv]; done)) (SubM.cells rfl (by first | rfl | (simp; done)) (SubM.ro rfl (by first | rfl | (simp [iv, bv, yv, tv, sv]; done)) .nil)))))))
  · rintro g _ _ ⟨j, u, rfl, hI, rfl, rfl⟩
    have hpk := pickIx_le (rejF n k l xs) j
    refine J.seq ?_
    refine J.reg ?_
    refine WL.rd (RD.lss rfl rfl) rfl rfl ?_
    refine WL.nil ?_
    refine JE.seqN ?_
    refine J.seq ?_
    refine J.condP rfl (fun hc23 => ?_) (fun hc23 => ?_)
    ·
      refine J.skip ?_
      refine JE.seqN ?_
      refine J.seq ?_
      refine J.block ?_
      refine J.seq ?_
      refine J.reg ?_
      refine WL.rd (RD.move rfl) rfl rfl ?_
      refine WL.rd (RD.assign rfl) rfl rfl ?_
      refine WL.nil ?_
      refine JE.seqN ?_
      refine J.seq ?_
      refine J.reg ?_
      refine WL.rd (RD.move rfl) rfl rfl ?_
      refine WL.rd (RD.move rfl) rfl rfl ?_
      refine WL.caseP 26 rfl (fun hg26 => ?_) (fun hg26 => ?_)
      ·
        refine WL.rd (RD.fieldC rfl rfl) rfl rfl ?_
        refine WL.rd (RD.loadC rfl rfl) rfl rfl ?_
        refine WL.rd (RD.move rfl) rfl rfl ?_
        refine WL.efS (EF.callS (.cons rfl (.cons rfl .nil)) (fun w hS => slContains_c _ _ _ _ (by exact RdI.rd hS))) rfl rfl ?_
        rintro ⟨⟩ -
        refine WL.rd (RD.notP rfl) rfl rfl ?_
        refine WL.rd (RD.pickT rfl rfl) rfl rfl ?_
        refine WL.nil ?_
        refine JE.seqN ?_
        refine J.condP rfl (fun hc32 => ?_) (fun hc32 => ?_)
        ·
          refine J.reg ?_
          refine WL.rd (RD.move rfl) rfl rfl ?_
          refine WL.rd (RD.move rfl) rfl rfl ?_
          refine WL.efS (EF.build1 rfl) rfl rfl ?_
          intro v35 _
          refine WL.efS (EF.append rfl rfl (by omega) rfl rfl rfl) rfl rfl ?_
          intro v36 _
          refine WL.rd (RD.assign rfl) rfl rfl ?_
          refine WL.nil ?_
          refine JE.blockN ?_
          refine JE.seqN ?_
          refine J.reg ?_
          refine WL.rd (RD.add rfl rfl (by omega) (by omega)) rfl rfl ?_
          refine WL.rd (RD.move rfl) rfl rfl ?_
          refine WL.nil ?_
          refine JE.cutN ⟨_, ?_, j + 1, v36, rfl, ?_, rfl, rfl⟩ ?_ ?_
          · omega
          · first | omega | trivial | (refine ⟨?_, ?_⟩ <;> first | omega | rfl | simp)
          · exact (Sub.consE rfl (by first | rfl | (congr 1; omega) | (simp; done)) (Sub.consE rfl (by first | rfl | (congr 1; omega) | (simp; done)) (Sub.consE rfl (by first | rfl | (congr 1; omega) | (simp; done)) (Sub.consE rfl (by first | rfl | (congr 1; omega) | (simp; done)) (Sub.consE rfl (by first | rfl | (congr 1; omega) | (simp; done)) (Sub.consE rfl (by first | rfl | (congr 1; omega) | (simp; done)) .nil))))))
          · exact (SubM.row rfl rfl (by rw [pickIx_yes _ j (rejF_yes (by assumption) (by assumption))]) (SubM.cells rfl (by first | rfl | (simp; done)) (SubM.row rfl rfl (by first | rfl | (simp [iv, bv, yv, tv, sv]; done)) (SubM.row rfl rfl (by first | rfl | (simp [iv, bv, yv, tv, sv]; done)) (SubM.row rfl rfl (by first | rfl | (simp [iv, bv, yv, tv, sv]; done)) (SubM.cells rfl (by first | rfl | (simp; done)) (SubM.ro rfl (by first | rfl | (simp [iv, bv, yv, tv, sv]; done)) .nil)))))))
        ·
          refine J.skip ?_
          refine JE.blockN ?_
          refine JE.seqN ?_
          refine J.reg ?_
          refine WL.rd (RD.add rfl rfl (by omega) (by omega)) rfl rfl ?_
          refine WL.rd (RD.move rfl) rfl rfl ?_
          refine WL.nil ?_
          refine JE.cutN ⟨_, ?_, j + 1, u, rfl, ?_, rfl, rfl⟩ ?_ ?_
          · omega
          · first | omega | trivial | (refine ⟨?_, ?_⟩ <;> first | omega | rfl | simp)
          · exact (Sub.consE rfl (by first | rfl | (congr 1; omega) | (simp; done)) (Sub.consE rfl (by first | rfl | (congr 1; omega) | (simp; done)) (Sub.consE rfl (by first | rfl | (congr 1; omega) | (simp; done)) (Sub.consE rfl (by first | rfl | (congr 1; omega) | (simp; done)) (Sub.consE rfl (by first | rfl | (congr 1; omega) | (simp; done)) (Sub.consE rfl (by first | rfl | (congr 1; omega) | (simp; done)) .nil))))))
          · exact (SubM.row rfl rfl (by rw [pickIx_no _ j (rejF_no2 (by assumption))]) (SubM.cells rfl (by first | rfl | (simp; done)) (SubM.row rfl rfl (by first | rfl | (simp [iv, bv, yv, tv, sv]; done)) (SubM.row rfl rfl (by first | rfl | (simp [iv, bv, yv, tv, sv]; done)) (SubM.row rfl rfl (by first | rfl | (simp [iv, bv, yv, tv, sv]; done)) (SubM.cells rfl (by first | rfl | (simp; done)) (SubM.ro rfl (by first | rfl | (simp [iv, bv, yv, tv, sv]; done)) .nil)))))))
      ·
        refine WL.noS rfl rfl ?_
        refine WL.noS rfl rfl ?_
        refine WL.noS rfl rfl ?_
        refine WL.noS rfl rfl ?_
        refine WL.noS rfl rfl ?_
        refine WL.rd (RD.pickF rfl rfl) rfl rfl ?_
        refine WL.nil ?_
        refine JE.seqN ?_
        refine J.condF rfl ?_
        refine J.skip ?_
        refine JE.blockN ?_
        refine JE.seqN ?_
        refine J.reg ?_
        refine WL.rd (RD.add rfl rfl (by omega) (by omega)) rfl rfl ?_
        refine WL.rd (RD.move rfl) rfl rfl ?_
        refine WL.nil ?_
        refine JE.cutN ⟨_, ?_, j + 1, u, rfl, ?_, rfl, rfl⟩ ?_ ?_
        · omega
        · first | omega | trivial | (refine ⟨?_, ?_⟩ <;> first | omega | rfl | simp)
        · exact (Sub.consE rfl (by first | rfl | (congr 1; omega) | (simp; done)) (Sub.consE rfl (by first | rfl | (congr 1; omega) | (simp; done)) (Sub.consE rfl (by first | rfl | (congr 1; omega) | (simp; done)) (Sub.consE rfl (by first | rfl | (congr 1; omega) | (simp; done)) (Sub.consE rfl (by first | rfl | (congr 1; omega) | (simp; done)) (Sub.consE rfl (by first | rfl | (congr 1; omega) | (simp; done)) .nil))))))
        · exact (SubM.row rfl rfl (by rw [pickIx_no _ j (rejF_no1 (by assumption))]) (SubM.cells rfl (by first | rfl | (simp; done)) (SubM.row rfl rfl (by first | rfl | (simp [iv, bv, yv, tv, sv]; done)) (SubM.row rfl rfl (by first | rfl | (simp [iv, bv, yv, tv, sv]; done)) (SubM.row rfl rfl (by first | rfl | (simp [iv, bv, yv, tv, sv]; done)) (SubM.cells rfl (by first | rfl | (simp; done)) (SubM.ro rfl (by first | rfl | (simp [iv, bv, yv, tv, sv]; done)) .nil)))))))
    ·
      refine J.exit ?_
      refine JE.seqX ?_
      refine JE.cutX ?_
      refine JE.blockHit ?_
      refine JE.seqN ?_
      refine J.seq ?_
      refine J.reg ?_
      refine WL.rd (RD.move rfl) rfl rfl ?_
      refine WL.rd (RD.assign rfl) rfl rfl ?_
      refine WL.nil ?_
      refine JE.seqN ?_
      refine J.ret ?_
      refine JE.ret rfl (.tmp rfl .nil) (fun w hS => ?_)
      exact CN.fin hS u rfl trivial (SubM.row rfl rfl (by rw [show j = xs.length by omega]) .nil) (by simp [En.rdb])
theorem iRankOf_c (n : Int) (v : Value) (xs : List (Int × Int)) (k l : Int) (w : World) (hr : Rd w v 2 (xs.map bv)) (hk : -9223372036854775808 ≤ k ∧ k ≤ 9223372036854775807) (hl : -9223372036854775808 ≤ l ∧ l ≤ 9223372036854775807) :
    CS Try.prog 48 [.agg #[.int .i64 n, v], .int .i64 k, .int .i64 l] w (.int .i64 (rankI n k l xs)) := by
  have hrl := runP_len n k l xs
  refine calls_of_J (mu := (fun _ => False)) (m := [.ro v 2 (xs.map bv)]) (e := [(0, .agg #[.int .i64 n, v]), (1, .int .i64 k), (2, .int .i64 l)]) Try.func48 rfl rfl (.cons rfl (.cons rfl (.cons rfl .nil))) (((St.init _ _).ro0 hr (by decide))) ?_
  refine J.seq ?_
  refine J.reg ?_
  refine WL.efS (EF.boxA rfl) rfl rfl ?_
  intro b3 _
  refine WL.rd (RD.assign rfl) rfl rfl ?_
  refine WL.nil ?_
  refine JE.seqN ?_
  refine J.seq ?_
  refine J.reg ?_
  refine WL.rd (RD.loadA rfl rfl) rfl rfl ?_
  refine WL.rd (RD.move rfl) rfl rfl ?_
  refine WL.rd (RD.move rfl) rfl rfl ?_
  refine WL.efS (EF.callN (.cons rfl (.cons rfl (.cons rfl .nil))) (fun w hS => iRunPebbles_c _ _ _ _ _ _ (by exact RdI.rd hS) (by first | assumption | (constructor <;> decide) | omega) (by first | assumption | (constructor <;> decide) | omega))) rfl rfl ?_
  rintro ⟨f13, t13, p13⟩ -
  refine WL.rd (RD.move rfl) rfl rfl ?_
  refine WL.rd (RD.extract rfl rfl) rfl rfl ?_
  refine WL.rd (RD.extract rfl rfl) rfl rfl ?_
  refine WL.efS (EF.allocA) rfl rfl ?_
  intro b7 _
  refine WL.efN (EF.storeA rfl rfl rfl rfl) rfl ?_
  rintro ⟨⟩ -
  refine WL.rd (RD.assign rfl) rfl rfl ?_
  refine WL.nil ?_
  refine JE.seqN ?_
  refine J.seq ?_
  refine J.seq ?_
  refine J.reg ?_
  refine WL.rd (RD.move rfl) rfl rfl ?_
  refine WL.rd (RD.notP rfl) rfl rfl ?_
  refine WL.nil ?_
  refine JE.seqN ?_
  refine J.condP rfl (fun hc17 => ?_) (fun hc17 => ?_)
  ·
    refine J.seq ?_
    refine J.reg ?_
    refine WL.rd (RD.assign rfl) rfl rfl ?_
    refine WL.nil ?_
    refine JE.seqN ?_
    refine J.ret ?_
    refine JE.ret rfl (.tmp rfl .nil) (fun w hS => ?_)
    exact CS.fin hS (by unfold rankI; rw [if_neg (by assumption)]; rfl)
  ·
    refine J.skip ?_
    refine JE.seqN ?_
    refine J.seq ?_
    refine J.reg ?_
    refine WL.rd (RD.fieldC rfl rfl) rfl rfl ?_
    refine WL.rd (RD.loadC rfl rfl) rfl rfl ?_
    refine WL.rd (RD.lenR rfl) rfl rfl ?_
    refine WL.rd (RD.assign rfl) rfl rfl ?_
    refine WL.nil ?_
    refine JE.seqN ?_
    refine J.ret ?_
    refine JE.ret rfl (.tmp rfl .nil) (fun w hS => ?_)
    exact CS.fin hS (by unfold rankI; rw [if_pos (by first | assumption | exact Decidable.not_not.1 (by assumption))]; rfl)
theorem bar_c (a b : Int) (w : World) :
    CS Try.prog 72 [.int .i64 a, .int .i64 b] w (.agg (bv (min a b, max a b)).toArray) := by
  refine calls_of_J (mu := (fun _ => False)) (m := []) (e := [(0, .int .i64 a), (1, .int .i64 b)]) Try.func72 rfl rfl (.cons rfl (.cons rfl .nil)) (St.init _ _) ?_
  refine J.seq ?_
  refine J.reg ?_
  refine WL.efS (EF.allocA) rfl rfl ?_
  intro b4 _
  refine WL.nil ?_
  refine JE.seqN ?_
  refine J.seq ?_
  refine J.reg ?_
  refine WL.rd (RD.move rfl) rfl rfl ?_
  refine WL.rd (RD.move rfl) rfl rfl ?_
  refine WL.rd (RD.min rfl rfl) rfl rfl ?_
  refine WL.rd (RD.move rfl) rfl rfl ?_
  refine WL.rd (RD.move rfl) rfl rfl ?_
  refine WL.rd (RD.max rfl rfl) rfl rfl ?_
  refine WL.rd (RD.build (n := 2) (.cons rfl (.cons rfl .nil)) rfl) rfl rfl ?_
  refine WL.efN (EF.storeA rfl rfl rfl rfl) rfl ?_
  rintro ⟨⟩ -
  refine WL.nil ?_
  refine JE.seqN ?_
  refine J.ret ?_
  refine JE.ret rfl (ResL.flat rfl rfl .nil) (fun w hS => ?_)
  exact CS.fin hS rfl

end Go.Proofs.Ytmnaohimnladnaa
