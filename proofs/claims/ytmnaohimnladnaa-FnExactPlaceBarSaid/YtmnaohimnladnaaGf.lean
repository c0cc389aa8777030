/- Contracts of functions of the program, each walked once; written by a program of our own. -/
import Derived.Test.YtmnaohimnladnaaGe
import Derived.Test.YtmnaohimnladnaaMs
namespace Go.Proofs.Ytmnaohimnladnaa
open Go Go.RowKit
set_option maxRecDepth 4000

theorem szPebbles_c (vf vt vp : Value) (f t pl : List Int) (b : Int) (w : World) (hrf : Rd w vf 1 (f.map iv)) (hrt : Rd w vt 1 (t.map iv)) (hrp : Rd w vp 1 (pl.map iv)) (hb : 0 ≤ b ∧ b ≤ 1048576) :
    CS Try.prog 18 [.agg #[vf, vt, vp], .int .i64 b] w (.int .i64 (szf b (f.length + t.length + pl.length))) := by
  have hl_f : f.length ≤ 9223372036854775807 := (by obtain ⟨_, _, _, hh, _⟩ := hrf.shape; simpa using hh)
  have hl_t : t.length ≤ 9223372036854775807 := (by obtain ⟨_, _, _, hh, _⟩ := hrt.shape; simpa using hh)
  have hl_pl : pl.length ≤ 9223372036854775807 := (by obtain ⟨_, _, _, hh, _⟩ := hrp.shape; simpa using hh)
  refine calls_of_J (mu := (fun _ => False)) (m := [.ro vf 1 (f.map iv), .ro vt 1 (t.map iv), .ro vp 1 (pl.map iv)]) (e := [(0, .agg #[vf, vt, vp]), (1, .int .i64 b)]) Try.func18 rfl rfl (.cons rfl (.cons rfl .nil)) (((((St.init _ _).ro0 hrp (by decide)).ro0 hrt (by decide)).ro0 hrf (by decide))) ?_
  refine J.seq ?_
  refine J.reg ?_
  refine WL.efS (EF.boxA rfl) rfl rfl ?_
  intro b2 _
  refine WL.rd (RD.assign rfl) rfl rfl ?_
  refine WL.nil ?_
  refine JE.seqN ?_
  refine J.seq ?_
  refine J.reg ?_
  refine WL.rd (RD.fieldC rfl rfl) rfl rfl ?_
  refine WL.rd (RD.loadC rfl rfl) rfl rfl ?_
  refine WL.rd (RD.move rfl) rfl rfl ?_
  refine WL.efS (EF.callS (.cons rfl (.cons rfl .nil)) (fun w hS => szIntS_c _ _ _ _ (by exact RdI.rd hS) (by omega))) rfl rfl ?_
  rintro ⟨⟩ -
  refine WL.rd (RD.assign rfl) rfl rfl ?_
  refine WL.nil ?_
  refine JE.seqN ?_
  refine J.seq ?_
  refine J.seq ?_
  refine J.reg ?_
  refine WL.rd (RD.move rfl) rfl rfl ?_
  refine WL.rd (RD.lss rfl rfl) rfl rfl ?_
  refine WL.nil ?_
  refine JE.seqN ?_
  refine J.condP rfl (fun hc10 => ?_) (fun hc10 => ?_)
  ·
    refine J.seq ?_
    refine J.reg ?_
    refine WL.rd (RD.assign rfl) rfl rfl ?_
    refine WL.nil ?_
    refine JE.seqN ?_
    refine J.ret ?_
    refine JE.ret rfl (.tmp rfl .nil) (fun w hS => ?_)
    exact CS.fin hS (by unfold szf at *; repeat (first | omega | split at * | rfl | (simp only [mkRes]; congr 1; omega)))
  ·
    refine J.skip ?_
    refine JE.seqN ?_
    refine J.seq ?_
    refine J.reg ?_
    refine WL.rd (RD.fieldC rfl rfl) rfl rfl ?_
    refine WL.rd (RD.loadC rfl rfl) rfl rfl ?_
    refine WL.rd (RD.move rfl) rfl rfl ?_
    obtain ⟨e1, q1⟩ := szf_nn hc10
    refine WL.efS (EF.callS (.cons rfl (.cons rfl .nil)) (fun w hS => szIntS_c _ _ _ _ (by exact RdI.rd hS) (by omega))) rfl rfl ?_
    rintro ⟨⟩ -
    refine WL.rd (RD.assign rfl) rfl rfl ?_
    refine WL.nil ?_
    refine JE.seqN ?_
    refine J.seq ?_
    refine J.seq ?_
    refine J.reg ?_
    refine WL.rd (RD.move rfl) rfl rfl ?_
    refine WL.rd (RD.lss rfl rfl) rfl rfl ?_
    refine WL.nil ?_
    refine JE.seqN ?_
    refine J.condP rfl (fun hc16 => ?_) (fun hc16 => ?_)
    ·
      refine J.seq ?_
      refine J.reg ?_
      refine WL.rd (RD.assign rfl) rfl rfl ?_
      refine WL.nil ?_
      refine JE.seqN ?_
      refine J.ret ?_
      refine JE.ret rfl (.tmp rfl .nil) (fun w hS => ?_)
      exact CS.fin hS (by unfold szf at *; repeat (first | omega | split at * | rfl | (simp only [mkRes]; congr 1; omega)))
    ·
      refine J.skip ?_
      refine JE.seqN ?_
      refine J.seq ?_
      refine J.reg ?_
      refine WL.rd (RD.fieldC rfl rfl) rfl rfl ?_
      refine WL.rd (RD.loadC rfl rfl) rfl rfl ?_
      refine WL.rd (RD.move rfl) rfl rfl ?_
      obtain ⟨e2, q2⟩ := szf_nn hc16
      refine WL.efS (EF.callS (.cons rfl (.cons rfl .nil)) (fun w hS => szIntS_c _ _ _ _ (by exact RdI.rd hS) (by omega))) rfl rfl ?_
      rintro ⟨⟩ -
      refine WL.rd (RD.assign rfl) rfl rfl ?_
      refine WL.nil ?_
      refine JE.seqN ?_
      refine J.seq ?_
      refine J.seq ?_
      refine J.reg ?_
      refine WL.rd (RD.move rfl) rfl rfl ?_
      refine WL.rd (RD.lss rfl rfl) rfl rfl ?_
      refine WL.nil ?_
      refine JE.seqN ?_
      refine J.condP rfl (fun hc22 => ?_) (fun hc22 => ?_)
      ·
        refine J.seq ?_
        refine J.reg ?_
        refine WL.rd (RD.assign rfl) rfl rfl ?_
        refine WL.nil ?_
        refine JE.seqN ?_
        refine J.ret ?_
        refine JE.ret rfl (.tmp rfl .nil) (fun w hS => ?_)
        exact CS.fin hS (by unfold szf at *; repeat (first | omega | split at * | rfl | (simp only [mkRes]; congr 1; omega)))
      ·
        refine J.skip ?_
        refine JE.seqN ?_
        refine J.seq ?_
        refine J.reg ?_
        refine WL.rd (RD.move rfl) rfl rfl ?_
        refine WL.rd (RD.assign rfl) rfl rfl ?_
        refine WL.nil ?_
        refine JE.seqN ?_
        refine J.ret ?_
        refine JE.ret rfl (.tmp rfl .nil) (fun w hS => ?_)
        exact CS.fin hS (by unfold szf at *; repeat (first | omega | split at * | rfl | (simp only [mkRes]; congr 1; omega)))
theorem toPebbles_c (vf vt vp : Value) (f t pl : List Int) (w : World) (hrf : Rd w vf 1 (f.map iv)) (hrt : Rd w vt 1 (t.map iv)) (hrp : Rd w vp 1 (pl.map iv)) (h1 : f.length ≤ 1048576) (h2 : t.length ≤ 1048576) (h3 : pl.length ≤ 1048576) :
    CN Try.prog 20 [.agg #[vf, vt, vp]] w (Value × Value × Value) (fun _ => True) (fun x => .agg #[x.1, x.2.1, x.2.2]) (fun x => [.row x.1 3 1 (f.map iv), .row x.2.1 3 1 (t.map iv), .row x.2.2 3 1 (pl.map iv)]) := by
  have hl_f : f.length ≤ 9223372036854775807 := (by obtain ⟨_, _, _, hh, _⟩ := hrf.shape; simpa using hh)
  have hl_t : t.length ≤ 9223372036854775807 := (by obtain ⟨_, _, _, hh, _⟩ := hrt.shape; simpa using hh)
  have hl_pl : pl.length ≤ 9223372036854775807 := (by obtain ⟨_, _, _, hh, _⟩ := hrp.shape; simpa using hh)
  refine calls_of_J (mu := (fun _ => False)) (m := [.ro vf 1 (f.map iv), .ro vt 1 (t.map iv), .ro vp 1 (pl.map iv)]) (e := [(0, .agg #[vf, vt, vp])]) Try.func20 rfl rfl (.cons rfl .nil) (((((St.init _ _).ro0 hrp (by decide)).ro0 hrt (by decide)).ro0 hrf (by decide))) ?_
  refine J.seq ?_
  refine J.reg ?_
  refine WL.efS (EF.boxA rfl) rfl rfl ?_
  intro b1 _
  refine WL.efS (EF.allocA) rfl rfl ?_
  intro b2 _
  refine WL.nil ?_
  refine JE.seqN ?_
  refine J.seq ?_
  refine J.reg ?_
  refine WL.efS (EF.allocA) rfl rfl ?_
  intro b3 _
  refine WL.nil ?_
  refine JE.seqN ?_
  refine J.seq ?_
  refine J.reg ?_
  refine WL.rd (RD.fieldC rfl rfl) rfl rfl ?_
  refine WL.rd (RD.loadC rfl rfl) rfl rfl ?_
  refine WL.efS (EF.callN (.cons rfl .nil) (fun w hS => toIntS_c _ _ _ (by exact RdI.rd hS) (by omega))) rfl rfl ?_
  rintro v6 -
  refine WL.rd (RD.fieldC rfl rfl) rfl rfl ?_
  refine WL.efN (EF.storeC rfl rfl rfl) rfl ?_
  rintro ⟨⟩ -
  refine WL.nil ?_
  refine JE.seqN ?_
  refine J.seq ?_
  refine J.reg ?_
  refine WL.rd (RD.fieldC rfl rfl) rfl rfl ?_
  refine WL.rd (RD.loadC rfl rfl) rfl rfl ?_
  refine WL.efS (EF.callN (.cons rfl .nil) (fun w hS => toIntS_c _ _ _ (by exact RdI.rd hS) (by omega))) rfl rfl ?_
  rintro v10 -
  refine WL.rd (RD.fieldC rfl rfl) rfl rfl ?_
  refine WL.efN (EF.storeC rfl rfl rfl) rfl ?_
  rintro ⟨⟩ -
  refine WL.nil ?_
  refine JE.seqN ?_
  refine J.seq ?_
  refine J.reg ?_
  refine WL.rd (RD.fieldC rfl rfl) rfl rfl ?_
  refine WL.rd (RD.loadC rfl rfl) rfl rfl ?_
  refine WL.efS (EF.callN (.cons rfl .nil) (fun w hS => toIntS_c _ _ _ (by exact RdI.rd hS) (by omega))) rfl rfl ?_
  rintro v14 -
  refine WL.rd (RD.fieldC rfl rfl) rfl rfl ?_
  refine WL.efN (EF.storeC rfl rfl rfl) rfl ?_
  rintro ⟨⟩ -
  refine WL.nil ?_
  refine JE.seqN ?_
  refine J.seq ?_
  refine J.reg ?_
  refine WL.rd (RD.loadA rfl rfl) rfl rfl ?_
  refine WL.efN (EF.storeA rfl rfl rfl rfl) rfl ?_
  rintro ⟨⟩ -
  refine WL.nil ?_
  refine JE.seqN ?_
  refine J.ret ?_
  refine JE.ret rfl (ResL.flat rfl rfl .nil) (fun w hS => ?_)
  exact CN.fin hS (v6, v10, v14) rfl trivial (SubM.row rfl rfl rfl (SubM.row rfl rfl rfl (SubM.row rfl rfl rfl .nil))) (by simp [En.rdb])
theorem eqPebbles_c (vf vt vp : Value) (f t pl : List Int) (uf ut up : Value) (f2 t2 pl2 : List Int) (w : World) (hrf : Rd w vf 1 (f.map iv)) (hrt : Rd w vt 1 (t.map iv)) (hrp : Rd w vp 1 (pl.map iv)) (hsf : Rd w uf 1 (f2.map iv)) (hst : Rd w ut 1 (t2.map iv)) (hsp : Rd w up 1 (pl2.map iv)) :
    CS Try.prog 22 [.agg #[vf, vt, vp], .agg #[uf, ut, up]] w (.bool (decide (f = f2 ∧ t = t2 ∧ pl = pl2))) := by
  refine calls_of_J (mu := (fun _ => False)) (m := [.ro vf 1 (f.map iv), .ro vt 1 (t.map iv), .ro vp 1 (pl.map iv), .ro uf 1 (f2.map iv), .ro ut 1 (t2.map iv), .ro up 1 (pl2.map iv)]) (e := [(0, .agg #[vf, vt, vp]), (1, .agg #[uf, ut, up])]) Try.func22 rfl rfl (.cons rfl (.cons rfl .nil)) ((((((((St.init _ _).ro0 hsp (by decide)).ro0 hst (by decide)).ro0 hsf (by decide)).ro0 hrp (by decide)).ro0 hrt (by decide)).ro0 hrf (by decide))) ?_
  refine J.seq ?_
  refine J.reg ?_
  refine WL.efS (EF.boxA rfl) rfl rfl ?_
  intro b2 _
  refine WL.efS (EF.boxA rfl) rfl rfl ?_
  intro b3 _
  refine WL.rd (RD.assign rfl) rfl rfl ?_
  refine WL.nil ?_
  refine JE.seqN ?_
  refine J.seq ?_
  refine J.seq ?_
  refine J.reg ?_
  refine WL.rd (RD.fieldC rfl rfl) rfl rfl ?_
  refine WL.rd (RD.loadC rfl rfl) rfl rfl ?_
  refine WL.rd (RD.fieldC rfl rfl) rfl rfl ?_
  refine WL.rd (RD.loadC rfl rfl) rfl rfl ?_
  refine WL.efS (EF.callS (.cons rfl (.cons rfl .nil)) (fun w hS => eqIntS_c _ _ _ _ _ (by exact RdI.rd hS) (by exact RdI.rd hS))) rfl rfl ?_
  rintro ⟨⟩ -
  refine WL.rd (RD.notP rfl) rfl rfl ?_
  refine WL.nil ?_
  refine JE.seqN ?_
  refine J.condP rfl (fun hc10 => ?_) (fun hc10 => ?_)
  ·
    refine J.seq ?_
    refine J.reg ?_
    refine WL.rd (RD.assign rfl) rfl rfl ?_
    refine WL.nil ?_
    refine JE.seqN ?_
    refine J.ret ?_
    refine JE.ret rfl (.tmp rfl .nil) (fun w hS => ?_)
    first | exact CS.fin hS (mk_false (fun h => absurd h.1 (by assumption))) | exact CS.fin hS (mk_false (fun h => absurd h.2.1 (by assumption))) | exact CS.fin hS (mk_false (fun h => absurd h.2.2 (by assumption))) | exact CS.fin hS (mk_true ⟨by simpa using hc10, by simpa using hc16, by simpa using hc22⟩)
  ·
    refine J.skip ?_
    refine JE.seqN ?_
    refine J.seq ?_
    refine J.seq ?_
    refine J.reg ?_
    refine WL.rd (RD.fieldC rfl rfl) rfl rfl ?_
    refine WL.rd (RD.loadC rfl rfl) rfl rfl ?_
    refine WL.rd (RD.fieldC rfl rfl) rfl rfl ?_
    refine WL.rd (RD.loadC rfl rfl) rfl rfl ?_
    refine WL.efS (EF.callS (.cons rfl (.cons rfl .nil)) (fun w hS => eqIntS_c _ _ _ _ _ (by exact RdI.rd hS) (by exact RdI.rd hS))) rfl rfl ?_
    rintro ⟨⟩ -
    refine WL.rd (RD.notP rfl) rfl rfl ?_
    refine WL.nil ?_
    refine JE.seqN ?_
    refine J.condP rfl (fun hc16 => ?_) (fun hc16 => ?_)
    ·
      refine J.seq ?_
      refine J.reg ?_
      refine WL.rd (RD.assign rfl) rfl rfl ?_
      refine WL.nil ?_
      refine JE.seqN ?_
      refine J.ret ?_
      refine JE.ret rfl (.tmp rfl .nil) (fun w hS => ?_)
      first | exact CS.fin hS (mk_false (fun h => absurd h.1 (by assumption))) | exact CS.fin hS (mk_false (fun h => absurd h.2.1 (by assumption))) | exact CS.fin hS (mk_false (fun h => absurd h.2.2 (by assumption))) | exact CS.fin hS (mk_true ⟨by simpa using hc10, by simpa using hc16, by simpa using hc22⟩)
    ·
      refine J.skip ?_
      refine JE.seqN ?_
      refine J.seq ?_
      refine J.seq ?_
      refine J.reg ?_
      refine WL.rd (RD.fieldC rfl rfl) rfl rfl ?_
      refine WL.rd (RD.loadC rfl rfl) rfl rfl ?_
      refine WL.rd (RD.fieldC rfl rfl) rfl rfl ?_
      refine WL.rd (RD.loadC rfl rfl) rfl rfl ?_
      refine WL.efS (EF.callS (.cons rfl (.cons rfl .nil)) (fun w hS => eqIntS_c _ _ _ _ _ (by exact RdI.rd hS) (by exact RdI.rd hS))) rfl rfl ?_
      rintro ⟨⟩ -
      refine WL.rd (RD.notP rfl) rfl rfl ?_
      refine WL.nil ?_
      refine JE.seqN ?_
      refine J.condP rfl (fun hc22 => ?_) (fun hc22 => ?_)
      ·
        refine J.seq ?_
        refine J.reg ?_
        refine WL.rd (RD.assign rfl) rfl rfl ?_
        refine WL.nil ?_
        refine JE.seqN ?_
        refine J.ret ?_
        refine JE.ret rfl (.tmp rfl .nil) (fun w hS => ?_)
        first | exact CS.fin hS (mk_false (fun h => absurd h.1 (by assumption))) | exact CS.fin hS (mk_false (fun h => absurd h.2.1 (by assumption))) | exact CS.fin hS (mk_false (fun h => absurd h.2.2 (by assumption))) | exact CS.fin hS (mk_true ⟨by simpa using hc10, by simpa using hc16, by simpa using hc22⟩)
      ·
        refine J.skip ?_
        refine JE.seqN ?_
        refine J.seq ?_
        refine J.reg ?_
        refine WL.rd (RD.assign rfl) rfl rfl ?_
        refine WL.nil ?_
        refine JE.seqN ?_
        refine J.ret ?_
        refine JE.ret rfl (.tmp rfl .nil) (fun w hS => ?_)
        first | exact CS.fin hS (mk_false (fun h => absurd h.1 (by assumption))) | exact CS.fin hS (mk_false (fun h => absurd h.2.1 (by assumption))) | exact CS.fin hS (mk_false (fun h => absurd h.2.2 (by assumption))) | exact CS.fin hS (mk_true ⟨by simpa using hc10, by simpa using hc16, by simpa using hc22⟩)
theorem markPebbles_c (vf vt vp : Value) (f t pl : List Int) (s : Int) (w : World) (h1 : f.length ≤ 1048576) (h2 : t.length ≤ 1048576) (h3 : pl.length ≤ 1048576) (hs : 0 ≤ s ∧ s ≤ 900000000) :
    CM Try.prog 24 [.agg #[vf, vt, vp], .int .i64 s] w [.row vf 3 1 (f.map iv), .row vt 3 1 (t.map iv), .row vp 3 1 (pl.map iv)] [] Unit (fun _ => True) (fun _ => .int .i64 (s + f.length + t.length + pl.length)) (fun _ => [.row vf 3 1 ((mk1 s f.length).map iv), .row vt 3 1 ((mk1 (s + f.length) t.length).map iv), .row vp 3 1 ((mk1 (s + f.length + t.length) pl.length).map iv)]) := by
  intro hSt
  refine calls_of_J (mu := (muOf [.row vf 3 1 (f.map iv), .row vt 3 1 (t.map iv), .row vp 3 1 (pl.map iv)])) (m := [.row vf 3 1 (f.map iv), .row vt 3 1 (t.map iv), .row vp 3 1 (pl.map iv)]) (e := [(0, .agg #[vf, vt, vp]), (1, .int .i64 s)]) Try.func24 rfl rfl (.cons rfl (.cons rfl .nil)) (hSt) ?_
  refine J.seq ?_
  refine J.reg ?_
  refine WL.efS (EF.boxA rfl) rfl rfl ?_
  intro b2 _
  refine WL.rd (RD.assign rfl) rfl rfl ?_
  refine WL.nil ?_
  refine JE.seqN ?_
  refine J.seq ?_
  refine J.reg ?_
  refine WL.rd (RD.fieldC rfl rfl) rfl rfl ?_
  refine WL.rd (RD.loadC rfl rfl) rfl rfl ?_
  refine WL.rd (RD.move rfl) rfl rfl ?_
  refine WL.efS (EF.callM (.cons rfl (.cons rfl .nil)) (.row .nil) .nil (fun w hS => markIntS_c _ _ _ _ (by omega) (by omega)) (by simp [En.rdb])) rfl rfl ?_
  rintro ⟨⟩ -
  refine WL.rd (RD.assign rfl) rfl rfl ?_
  refine WL.nil ?_
  refine JE.seqN ?_
  refine J.seq ?_
  refine J.reg ?_
  refine WL.rd (RD.fieldC rfl rfl) rfl rfl ?_
  refine WL.rd (RD.loadC rfl rfl) rfl rfl ?_
  refine WL.rd (RD.move rfl) rfl rfl ?_
  refine WL.efS (EF.callM (.cons rfl (.cons rfl .nil)) (.row .nil) .nil (fun w hS => markIntS_c _ _ _ _ (by omega) (by omega)) (by simp [En.rdb])) rfl rfl ?_
  rintro ⟨⟩ -
  refine WL.rd (RD.assign rfl) rfl rfl ?_
  refine WL.nil ?_
  refine JE.seqN ?_
  refine J.seq ?_
  refine J.reg ?_
  refine WL.rd (RD.fieldC rfl rfl) rfl rfl ?_
  refine WL.rd (RD.loadC rfl rfl) rfl rfl ?_
  refine WL.rd (RD.move rfl) rfl rfl ?_
  refine WL.efS (EF.callM (.cons rfl (.cons rfl .nil)) (.row .nil) .nil (fun w hS => markIntS_c _ _ _ _ (by omega) (by omega)) (by simp [En.rdb])) rfl rfl ?_
  rintro ⟨⟩ -
  refine WL.rd (RD.assign rfl) rfl rfl ?_
  refine WL.nil ?_
  refine JE.seqN ?_
  refine J.seq ?_
  refine J.reg ?_
  refine WL.rd (RD.move rfl) rfl rfl ?_
  refine WL.rd (RD.assign rfl) rfl rfl ?_
  refine WL.nil ?_
  refine JE.seqN ?_
  refine J.ret ?_
  refine JE.ret rfl (.tmp rfl .nil) (fun w hS => ?_)
  exact CM.fin hS () rfl trivial (SubM.row rfl rfl rfl (SubM.row rfl rfl rfl (SubM.row rfl rfl rfl .nil))) (by simp [En.rdb])
theorem heldPebbles_c (vf vt vp : Value) (s : Int) (a b c : Nat) (w : World) (hrf : Rd w vf 1 ((mk1 s a).map iv)) (hrt : Rd w vt 1 ((mk1 (s + a) b).map iv)) (hrp : Rd w vp 1 ((mk1 (s + a + b) c).map iv)) (h1 : a ≤ 1048576) (h2 : b ≤ 1048576) (h3 : c ≤ 1048576) (hs : 0 ≤ s ∧ s ≤ 900000000) :
    CS Try.prog 25 [.agg #[vf, vt, vp], .int .i64 s] w (.int .i64 (s + a + b + c)) := by
  refine calls_of_J (mu := (fun _ => False)) (m := [.ro vf 1 ((mk1 s a).map iv), .ro vt 1 ((mk1 (s + a) b).map iv), .ro vp 1 ((mk1 (s + a + b) c).map iv)]) (e := [(0, .agg #[vf, vt, vp]), (1, .int .i64 s)]) Try.func25 rfl rfl (.cons rfl (.cons rfl .nil)) (((((St.init _ _).ro0 hrp (by decide)).ro0 hrt (by decide)).ro0 hrf (by decide))) ?_
  refine J.seq ?_
  refine J.reg ?_
  refine WL.efS (EF.boxA rfl) rfl rfl ?_
  intro b2 _
  refine WL.rd (RD.assign rfl) rfl rfl ?_
  refine WL.nil ?_
  refine JE.seqN ?_
  refine J.seq ?_
  refine J.reg ?_
  refine WL.rd (RD.fieldC rfl rfl) rfl rfl ?_
  refine WL.rd (RD.loadC rfl rfl) rfl rfl ?_
  refine WL.rd (RD.move rfl) rfl rfl ?_
  refine WL.efS (EF.callS (.cons rfl (.cons rfl .nil)) (fun w hS => heldIntS_c _ _ _ _ (by exact RdI.rd hS) (by omega) (by omega))) rfl rfl ?_
  rintro ⟨⟩ -
  refine WL.rd (RD.assign rfl) rfl rfl ?_
  refine WL.nil ?_
  refine JE.seqN ?_
  refine J.seq ?_
  refine J.seq ?_
  refine J.reg ?_
  refine WL.rd (RD.move rfl) rfl rfl ?_
  refine WL.rd (RD.lss rfl rfl) rfl rfl ?_
  refine WL.nil ?_
  refine JE.seqN ?_
  refine J.condP rfl (fun hc10 => ?_) (fun hc10 => ?_)
  ·
    exfalso
    omega
  ·
    refine J.skip ?_
    refine JE.seqN ?_
    refine J.seq ?_
    refine J.reg ?_
    refine WL.rd (RD.fieldC rfl rfl) rfl rfl ?_
    refine WL.rd (RD.loadC rfl rfl) rfl rfl ?_
    refine WL.rd (RD.move rfl) rfl rfl ?_
    refine WL.efS (EF.callS (.cons rfl (.cons rfl .nil)) (fun w hS => heldIntS_c _ _ _ _ (by exact RdI.rd hS) (by omega) (by omega))) rfl rfl ?_
    rintro ⟨⟩ -
    refine WL.rd (RD.assign rfl) rfl rfl ?_
    refine WL.nil ?_
    refine JE.seqN ?_
    refine J.seq ?_
    refine J.seq ?_
    refine J.reg ?_
    refine WL.rd (RD.move rfl) rfl rfl ?_
    refine WL.rd (RD.lss rfl rfl) rfl rfl ?_
    refine WL.nil ?_
    refine JE.seqN ?_
    refine J.condP rfl (fun hc16 => ?_) (fun hc16 => ?_)
    ·
      exfalso
      omega
    ·
      refine J.skip ?_
      refine JE.seqN ?_
      refine J.seq ?_
      refine J.reg ?_
      refine WL.rd (RD.fieldC rfl rfl) rfl rfl ?_
      refine WL.rd (RD.loadC rfl rfl) rfl rfl ?_
      refine WL.rd (RD.move rfl) rfl rfl ?_
      refine WL.efS (EF.callS (.cons rfl (.cons rfl .nil)) (fun w hS => heldIntS_c _ _ _ _ (by exact RdI.rd hS) (by omega) (by omega))) rfl rfl ?_
      rintro ⟨⟩ -
      refine WL.rd (RD.assign rfl) rfl rfl ?_
      refine WL.nil ?_
      refine JE.seqN ?_
      refine J.seq ?_
      refine J.seq ?_
      refine J.reg ?_
      refine WL.rd (RD.move rfl) rfl rfl ?_
      refine WL.rd (RD.lss rfl rfl) rfl rfl ?_
      refine WL.nil ?_
      refine JE.seqN ?_
      refine J.condP rfl (fun hc22 => ?_) (fun hc22 => ?_)
      ·
        exfalso
        omega
      ·
        refine J.skip ?_
        refine JE.seqN ?_
        refine J.seq ?_
        refine J.reg ?_
        refine WL.rd (RD.move rfl) rfl rfl ?_
        refine WL.rd (RD.assign rfl) rfl rfl ?_
        refine WL.nil ?_
        refine JE.seqN ?_
        refine J.ret ?_
        refine JE.ret rfl (.tmp rfl .nil) (fun w hS => ?_)
        exact CS.fin hS rfl
theorem sNewPebbles_c (n : Int) (v : Value) (xs : List (Int × Int)) (k : Int) (w : World) (hr : Rd w v 2 (xs.map bv)) :
    CN Try.prog 96 [.agg #[.int .i64 n, v], .int .i64 k] w (Value × Value × Value) (fun _ => True) (fun x => .tuple #[.agg #[x.1, x.2.1, x.2.2], .bool (decide (isG n xs ∧ 1 ≤ k ∧ k ≤ 3))]) (fun x => [.row x.1 3 1 ((if (isG n xs ∧ 1 ≤ k ∧ k ≤ 3) then List.replicate n.toNat k else []).map iv), .row x.2.1 3 1 (([] : List Int).map iv), .row x.2.2 3 1 (([] : List Int).map iv)]) := by
  have hl_xs : xs.length ≤ 9223372036854775807 := (by obtain ⟨_, _, _, hh, _⟩ := hr.shape; simpa using hh)
  refine calls_of_J (mu := (fun _ => False)) (m := [.ro v 2 (xs.map bv)]) (e := [(0, .agg #[.int .i64 n, v]), (1, .int .i64 k)]) Try.func96 rfl rfl (.cons rfl (.cons rfl .nil)) (((St.init _ _).ro0 hr (by decide))) ?_
  refine J.seq ?_
  refine J.reg ?_
  refine WL.efS (EF.boxA rfl) rfl rfl ?_
  intro b2 _
  refine WL.efS (EF.allocA) rfl rfl ?_
  intro b4 _
  refine WL.rd (RD.assign rfl) rfl rfl ?_
  refine WL.nil ?_
  refine JE.seqN ?_
  refine J.seq ?_
  refine J.nilRow 3 1 ?_
  refine J.nilRow 3 1 ?_
  refine J.nilRow 3 1 ?_
  refine J.reg ?_
  refine WL.efS (EF.build0) rfl rfl ?_
  intro v8 _
  refine WL.efS (EF.build0) rfl rfl ?_
  intro v9 _
  refine WL.efS (EF.build0) rfl rfl ?_
  intro v10 _
  refine WL.rd (RD.build (n := 3) (.cons rfl (.cons rfl (.cons rfl .nil))) rfl) rfl rfl ?_
  refine WL.efS (EF.allocA) rfl rfl ?_
  intro b6 _
  refine WL.efN (EF.storeA rfl rfl rfl rfl) rfl ?_
  rintro ⟨⟩ -
  refine WL.nil ?_
  refine JE.seqN ?_
  refine J.seq ?_
  refine J.seq ?_
  refine J.reg ?_
  refine WL.rd (RD.loadA rfl rfl) rfl rfl ?_
  refine WL.efS (EF.callS (.cons rfl .nil) (fun w hS => sIsGraph_c _ _ _ _ (by exact RdI.rd hS))) rfl rfl ?_
  rintro ⟨⟩ -
  refine WL.rd (RD.notP rfl) rfl rfl ?_
  refine WL.rd (RD.move rfl) rfl rfl ?_
  refine WL.caseP 15 rfl (fun hg15 => ?_) (fun hg15 => ?_)
  ·
    refine WL.noS rfl rfl ?_
    refine WL.noS rfl rfl ?_
    refine WL.noS rfl rfl ?_
    refine WL.rd (RD.pickT rfl rfl) rfl rfl ?_
    refine WL.nil ?_
    refine JE.seqN ?_
    refine J.condT rfl ?_
    refine J.seq ?_
    refine J.reg ?_
    refine WL.rd (RD.build (n := 3) .nil rfl) rfl rfl ?_
    refine WL.efN (EF.storeA rfl rfl rfl rfl) rfl ?_
    rintro ⟨⟩ -
    refine WL.rd (RD.assign rfl) rfl rfl ?_
    refine WL.nil ?_
    refine JE.seqN ?_
    refine J.ret ?_
    refine JE.ret rfl (ResL.flat rfl rfl (.tmp rfl .nil)) (fun w hS => ?_)
    have hno : ¬ (isG n xs ∧ 1 ≤ k ∧ k ≤ 3) := by rintro ⟨h1, h2⟩; first | exact absurd h1 (by assumption) | omega
    exact CN.fin hS (.slice none 0 0, .slice none 0 0, .slice none 0 0) (by rw [decide_eq_false hno]; rfl) trivial (SubM.row rfl rfl (by rw [if_neg hno]; rfl) (SubM.row rfl rfl rfl (SubM.row rfl rfl rfl .nil))) (by simp [En.rdb])
  ·
    refine WL.rd (RD.move rfl) rfl rfl ?_
    refine WL.efS (EF.callS (.cons rfl (.cons rfl (.cons rfl .nil))) (fun w hS => l1In_c _ _ _ _)) rfl rfl ?_
    rintro ⟨⟩ -
    refine WL.rd (RD.notP rfl) rfl rfl ?_
    refine WL.rd (RD.pickF rfl rfl) rfl rfl ?_
    refine WL.nil ?_
    refine JE.seqN ?_
    refine J.condP rfl (fun hc19 => ?_) (fun hc19 => ?_)
    ·
      refine J.seq ?_
      refine J.reg ?_
      refine WL.rd (RD.build (n := 3) .nil rfl) rfl rfl ?_
      refine WL.efN (EF.storeA rfl rfl rfl rfl) rfl ?_
      rintro ⟨⟩ -
      refine WL.rd (RD.assign rfl) rfl rfl ?_
      refine WL.nil ?_
      refine JE.seqN ?_
      refine J.ret ?_
      refine JE.ret rfl (ResL.flat rfl rfl (.tmp rfl .nil)) (fun w hS => ?_)
      have hno : ¬ (isG n xs ∧ 1 ≤ k ∧ k ≤ 3) := by rintro ⟨h1, h2⟩; first | exact absurd h1 (by assumption) | omega
      exact CN.fin hS (.slice none 0 0, .slice none 0 0, .slice none 0 0) (by rw [decide_eq_false hno]; rfl) trivial (SubM.row rfl rfl (by rw [if_neg hno]; rfl) (SubM.row rfl rfl rfl (SubM.row rfl rfl rfl .nil))) (by simp [En.rdb])
    ·
      refine J.skip ?_
      refine JE.seqN ?_
      refine J.seq ?_
      refine J.seq ?_
      have hg := Decidable.not_not.1 hg15
      have h12 := hg.1
      have h13 := hg.2.1
      refine J.reg ?_
      refine WL.rd (RD.assign rfl) rfl rfl ?_
      refine WL.nil ?_
      refine JE.seqN ?_
      refine J.block ?_
      refine J.loop (fun gg ee mm => ∃ (c : Nat), ∃ (u : Value), gg = n.toNat - c ∧ (((c : Int) ≤ n)) ∧ ee = [(7, .int .i64 (c : Int)), (1, .int .i64 k), (2, .pointer (some ⟨b2, 0, none⟩)), (4, .pointer (some ⟨b4, 0, none⟩)), (6, .pointer (some ⟨b6, 0, none⟩))] ∧ mm = [.cells b6 39 [u, v9, v10], .row u 3 1 ((List.replicate c k).map iv), .row v9 3 1 [], .row v10 3 1 [], .cells b2 30 [.int .i64 n, v], .cells b4 39 [.slice none 0 0, .slice none 0 0, .slice none 0 0]]) _ ⟨0, v8, rfl, ?_, rfl, rfl⟩ ?_ ?_ ?_
      · omega
      · exact (Sub.consE rfl (by first | rfl | (congr 1; omega) | (simp; done)) (Sub.consE rfl (by first | rfl | (congr 1; omega) | (simp; done)) (Sub.consE rfl (by first | rfl | (congr 1; omega) | (simp; done)) (Sub.consE rfl (by first | rfl | (congr 1; omega) | (simp; done)) (Sub.consE rfl (by first | rfl | (congr 1; omega) | (simp; done)) .nil)))))
      · exact (SubM.cells rfl (by first | rfl | (simp; done)) (SubM.row rfl rfl (by first | rfl | (simp [iv, bv, yv, tv, sv]; done)) (SubM.row rfl rfl (by first | rfl | (simp [iv, bv, yv, tv, sv]; done)) (SubM.row rfl rfl (by first | rfl | (simp [iv, bv, yv, tv, sv]; done)) (SubM.cells rfl (by first | rfl | (simp; done)) (SubM.cells rfl (by first | rfl | (simp; done)) .nil))))))
      · rintro g _ _ ⟨c, u, rfl, hI, rfl, rfl⟩
        refine J.seq ?_
        refine J.seq ?_
        refine J.reg ?_
        refine WL.rd (RD.move rfl) rfl rfl ?_
        refine WL.rd (RD.fieldC rfl rfl) rfl rfl ?_
        refine WL.rd (RD.loadC rfl rfl) rfl rfl ?_
        refine WL.rd (RD.lss rfl rfl) rfl rfl ?_
        refine WL.nil ?_
        refine JE.seqN ?_
        refine J.condP rfl (fun hc24 => ?_) (fun hc24 => ?_)
        ·
          refine J.skip ?_
          refine JE.seqN ?_
          refine J.seq ?_
          refine J.block ?_
          refine J.reg ?_
          refine WL.rd (RD.fieldC rfl rfl) rfl rfl ?_
          refine WL.rd (RD.loadC rfl rfl) rfl rfl ?_
          refine WL.rd (RD.move rfl) rfl rfl ?_
          refine WL.efS (EF.build1 rfl) rfl rfl ?_
          intro v30 _
          refine WL.efS (EF.append rfl rfl (by omega) rfl rfl rfl) rfl rfl ?_
          intro v31 _
          refine WL.rd (RD.fieldC rfl rfl) rfl rfl ?_
          refine WL.efN (EF.storeC rfl rfl rfl) rfl ?_
          rintro ⟨⟩ -
          refine WL.nil ?_
          refine JE.blockN ?_
          refine JE.seqN ?_
          refine J.reg ?_
          refine WL.rd (RD.move rfl) rfl rfl ?_
          refine WL.rd (RD.add rfl rfl (by omega) (by omega)) rfl rfl ?_
          refine WL.rd (RD.assign rfl) rfl rfl ?_
          refine WL.nil ?_
          refine JE.cutN ⟨_, ?_, c + 1, v31, rfl, ?_, rfl, rfl⟩ ?_ ?_
          · omega
          · omega
          · exact (Sub.consE rfl (by first | rfl | (congr 1; omega) | (simp; done)) (Sub.consE rfl (by first | rfl | (congr 1; omega) | (simp; done)) (Sub.consE rfl (by first | rfl | (congr 1; omega) | (simp; done)) (Sub.consE rfl (by first | rfl | (congr 1; omega) | (simp; done)) (Sub.consE rfl (by first | rfl | (congr 1; omega) | (simp; done)) .nil)))))
          · exact (SubM.cells rfl (by first | rfl | (simp; done)) (SubM.row rfl rfl (by rw [List.replicate_succ']) (SubM.row rfl rfl (by first | rfl | (simp [iv, bv, yv, tv, sv]; done)) (SubM.row rfl rfl (by first | rfl | (simp [iv, bv, yv, tv, sv]; done)) (SubM.cells rfl (by first | rfl | (simp; done)) (SubM.cells rfl (by first | rfl | (simp; done)) .nil))))))
        ·
          refine J.exit ?_
          refine JE.seqX ?_
          refine JE.cutX ?_
          refine JE.blockHit ?_
          refine JE.seqN ?_
          refine J.seq ?_
          refine J.reg ?_
          refine WL.rd (RD.loadA rfl rfl) rfl rfl ?_
          refine WL.efN (EF.storeA rfl rfl rfl rfl) rfl ?_
          rintro ⟨⟩ -
          refine WL.rd (RD.assign rfl) rfl rfl ?_
          refine WL.nil ?_
          refine JE.seqN ?_
          refine J.ret ?_
          refine JE.ret rfl (ResL.flat rfl rfl (.tmp rfl .nil)) (fun w hS => ?_)
          have hyes : isG n xs ∧ 1 ≤ k ∧ k ≤ 3 := ⟨Decidable.not_not.1 hg15, by omega⟩
          exact CN.fin hS (u, v9, v10) (by rw [decide_eq_true hyes]; rfl) trivial (SubM.row rfl rfl (by rw [if_pos hyes, show n.toNat = c by omega]) (SubM.row rfl rfl rfl (SubM.row rfl rfl rfl .nil))) (by simp [En.rdb])

end Go.Proofs.Ytmnaohimnladnaa
