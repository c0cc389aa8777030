/- Contracts of functions of the program, each walked once; written by a program of our own. -/
import Derived.Test.YtpojkjabngkfgaaTy
import Derived.Test.YtpojkjabngkfgaaSu
import Derived.Test.YtpojkjabngkfgaaSk
import Derived.Test.YtpojkjabngkfgaaMf
namespace Go.Proofs.Ytpojkjabngkfgaa
open Go Go.RowKit
set_option maxRecDepth 4000

theorem getDm {α : Type} [Inhabited α] {l : List α} {p : Nat} (h : p < l.length) : l.getD p default ∈ l := by simp [h]
theorem l1New_c (vb : Value) (xb : List UInt8) (w : World) (hr : Rd w vb 1 (xb.map yv)) (hlb : xb.length ≤ 1048576) :
    CN Try.prog 42 [vb] w (Nat × Int) (fun _ => True) (fun x => .pointer (some ⟨x.1, 0, none⟩)) (fun x => [.cells x.1 83 [vb, .int .i64 ((0 : Nat) : Int), .int .i64 x.2]]) := by
 refine calls_of_J (mu := (fun _ => False)) (m := [.ro vb 1 (xb.map yv)]) (e := [(0, vb)]) Try.func42 rfl rfl (.cons rfl .nil) (((St.init _ _).ro0 hr (by decide))) ?_
 refine J.seq ?_
 refine J.reg ?_
 refine WL.rd (RD.assign rfl) rfl rfl ?_
 refine WL.nil ?_
 refine JE.seqN ?_
 refine J.seq ?_
 refine J.reg ?_
 refine WL.rd (RD.move rfl) rfl rfl ?_
 refine WL.rd (RD.lenR rfl) rfl rfl ?_
 refine WL.rd (RD.add rfl rfl (by omega) (by omega)) rfl rfl ?_
 refine WL.rd (RD.assign rfl) rfl rfl ?_
 refine WL.nil ?_
 refine JE.seqN ?_
 refine J.seq ?_
 refine J.seq ?_
 refine J.reg ?_
 refine WL.rd (RD.assign rfl) rfl rfl ?_
 refine WL.nil ?_
 refine JE.seqN ?_
 refine J.block ?_
 refine J.loop (fun gg ee mm => ∃ (k : Nat), ∃ (h : Int), gg = xb.length - k ∧ ((0 ≤ h ∧ h ≤ 1073741823) ∧ (k ≤ xb.length)) ∧ ee = [(0, vb), (3, .int .i64 h), (4, .int .i64 (k : Int))] ∧ mm = [.ro vb 1 (xb.map yv)]) _ ⟨0, 10101 + (xb.length : Int), rfl, ?_, rfl, rfl⟩ ?_ ?_ ?_
 · exact ⟨by omega, by omega⟩
 · exact (Sub.consE rfl (by first | rfl | (congr 1; omega) | (simp; done)) (Sub.consE rfl (by first | rfl | (congr 1; omega) | (simp; done)) (Sub.consE rfl (by first | rfl | (congr 1; omega) | (simp; done)) .nil)))
 · exact (SubM.ro rfl (by first | rfl | (simp [iv, bv, yv, tv, sv]; done)) .nil)
 ·
  rintro g _ _ ⟨k, h, rfl, hI, rfl, rfl⟩
  refine J.seq ?_
  refine J.seq ?_
  refine J.reg ?_
  refine WL.rd (RD.move rfl) rfl rfl ?_
  refine WL.rd (RD.move rfl) rfl rfl ?_
  refine WL.rd (RD.lenR rfl) rfl rfl ?_
  refine WL.rd (RD.lss rfl rfl) rfl rfl ?_
  refine WL.rd (RD.move rfl) rfl rfl ?_
  refine WL.caseP 12 rfl (fun hg12 => ?_) (fun hg12 => ?_)
  ·
   refine WL.rd (RD.move rfl) rfl rfl ?_
   refine WL.rd (RD.lss rfl rfl) rfl rfl ?_
   refine WL.rd (RD.pickT rfl rfl) rfl rfl ?_
   refine WL.nil ?_
   refine JE.seqN ?_
   refine J.condP rfl (fun hc15 => ?_) (fun hc15 => ?_)
   ·
    refine J.skip ?_
    refine JE.seqN ?_
    refine J.seq ?_
    refine J.block ?_
    have hbk : (xb.getD k default).toNat < 256 := (xb.getD k default).toNat_lt
    refine J.reg ?_
    refine WL.rd (RD.move rfl) rfl rfl ?_
    refine WL.rd (RD.mul rfl rfl (by omega) (by omega)) rfl rfl ?_
    refine WL.rd (RD.move rfl) rfl rfl ?_
    refine WL.rd (RD.move rfl) rfl rfl ?_
    refine WL.rd (RD.idx rfl rfl (by omega) rfl) rfl rfl ?_
    refine WL.rd (RD.loadE rfl (by omega) rfl) rfl rfl ?_
    refine WL.rd (RD.convI rfl (by omega) (by omega)) rfl rfl ?_
    refine WL.rd (RD.add rfl rfl (by omega) (by omega)) rfl rfl ?_
    refine WL.rd (RD.add rfl rfl (by omega) (by omega)) rfl rfl ?_
    refine WL.rd (RD.mask 30 rfl rfl rfl (by decide) (by omega) (show _ ≤ (9223372036854775807 : Int) by omega)) rfl rfl ?_
    refine WL.rd (RD.assign rfl) rfl rfl ?_
    refine WL.nil ?_
    refine JE.blockN ?_
    refine JE.seqN ?_
    refine J.reg ?_
    refine WL.rd (RD.move rfl) rfl rfl ?_
    refine WL.rd (RD.add rfl rfl (by omega) (by omega)) rfl rfl ?_
    refine WL.rd (RD.assign rfl) rfl rfl ?_
    refine WL.nil ?_
    refine JE.cutN ⟨_, ?_, k + 1, (h * 131 + ((xb.getD k default).toNat : Int) + 7) % 2 ^ 30, rfl, ?_, rfl, rfl⟩ ?_ ?_
    · omega
    · exact ⟨by omega, by omega⟩
    · exact (Sub.consE rfl (by first | rfl | (congr 1; omega) | (simp; done)) (Sub.consE rfl (by first | rfl | (congr 1; omega) | (simp; done)) (Sub.consE rfl (by first | rfl | (congr 1; omega) | (simp; done)) .nil)))
    · exact (SubM.ro rfl (by first | rfl | (simp [iv, bv, yv, tv, sv]; done)) .nil)
   ·
    refine J.exit ?_
    refine JE.seqX ?_
    refine JE.cutX ?_
    refine JE.blockHit ?_
    refine JE.seqN ?_
    refine J.seq ?_
    refine J.reg ?_
    refine WL.rd (RD.move rfl) rfl rfl ?_
    refine WL.rd (RD.move rfl) rfl rfl ?_
    refine WL.rd (RD.build (n := 3) (.cons rfl (.cons rfl .nil)) rfl) rfl rfl ?_
    refine WL.efS (EF.boxA rfl) rfl rfl ?_
    intro b31 _
    refine WL.rd (RD.assign rfl) rfl rfl ?_
    refine WL.nil ?_
    refine JE.seqN ?_
    refine J.ret ?_
    refine JE.ret rfl (.tmp rfl .nil) (fun w hS => ?_)
    exact CN.fin hS (b31, h) rfl trivial (SubM.cells rfl rfl .nil) (by simp [En.rdb])
  ·
   refine WL.noS rfl rfl ?_
   refine WL.noS rfl rfl ?_
   refine WL.rd (RD.pickF rfl rfl) rfl rfl ?_
   refine WL.nil ?_
   refine JE.seqN ?_
   refine J.condF rfl ?_
   refine J.exit ?_
   refine JE.seqX ?_
   refine JE.cutX ?_
   refine JE.blockHit ?_
   refine JE.seqN ?_
   refine J.seq ?_
   refine J.reg ?_
   refine WL.rd (RD.move rfl) rfl rfl ?_
   refine WL.rd (RD.move rfl) rfl rfl ?_
   refine WL.rd (RD.build (n := 3) (.cons rfl (.cons rfl .nil)) rfl) rfl rfl ?_
   refine WL.efS (EF.boxA rfl) rfl rfl ?_
   intro b31 _
   refine WL.rd (RD.assign rfl) rfl rfl ?_
   refine WL.nil ?_
   refine JE.seqN ?_
   refine J.ret ?_
   refine JE.ret rfl (.tmp rfl .nil) (fun w hS => ?_)
   exact CN.fin hS (b31, h) rfl trivial (SubM.cells rfl rfl .nil) (by simp [En.rdb])
theorem l1Byte_c (cb i0 : Nat) (h0 : Int) (vb : Value) (xb : List UInt8) (w : World) (hi0 : i0 ≤ xb.length) (hlb : xb.length ≤ 1048576) :
    CM Try.prog 61 [.pointer (some ⟨cb, 0, none⟩)] w [.cells cb 83 [vb, .int .i64 (i0 : Int), .int .i64 h0]] [.ro vb 1 (xb.map yv)] (Int × Nat × Int) (fun x => (0 ≤ x.1 ∧ x.1 ≤ 255) ∧ x.2.1 ≤ xb.length) (fun x => .int .i64 x.1) (fun x => [.cells cb 83 [vb, .int .i64 (x.2.1 : Int), .int .i64 x.2.2]]) := by
 intro hSt
 refine calls_of_J (mu := (muOf [.cells cb 83 [vb, .int .i64 (i0 : Int), .int .i64 h0]])) (m := [.cells cb 83 [vb, .int .i64 (i0 : Int), .int .i64 h0], .ro vb 1 (xb.map yv)]) (e := [(0, .pointer (some ⟨cb, 0, none⟩))]) Try.func61 rfl rfl (.cons rfl .nil) (hSt) ?_
 refine J.seq ?_
 refine J.reg ?_
 refine WL.rd (RD.assign rfl) rfl rfl ?_
 refine WL.nil ?_
 refine JE.seqN ?_
 refine J.seq ?_
 refine J.reg ?_
 refine WL.rd (RD.move rfl) rfl rfl ?_
 refine WL.rd (RD.move rfl) rfl rfl ?_
 refine WL.rd (RD.nilP rfl) rfl rfl ?_
 refine WL.rd (RD.fieldC rfl rfl) rfl rfl ?_
 refine WL.rd (RD.loadC rfl rfl) rfl rfl ?_
 refine WL.rd (RD.mulW rfl rfl) rfl rfl ?_
 refine WL.rd (RD.addW rfl rfl) rfl rfl ?_
 refine WL.rd (RD.nilP rfl) rfl rfl ?_
 refine WL.rd (RD.fieldC rfl rfl) rfl rfl ?_
 refine WL.efN (EF.storeC rfl rfl rfl) rfl ?_
 rintro ⟨⟩ -
 refine WL.nil ?_
 refine JE.seqN ?_
 refine J.seq ?_
 refine J.anyAll [12] ?_
 refine WA.takeP 0 rfl (RDP.of fun _ => RD.move rfl) rfl (by kernel_rfl) rfl ?_
 refine WA.takeP 1 rfl (RDP.of fun _ => RD.nilP rfl) rfl (by kernel_rfl) rfl ?_
 refine WA.takeP 2 rfl (RDP.of fun _ => RD.fieldC rfl rfl) rfl (by kernel_rfl) rfl ?_
 refine WA.take 3 rfl (RD.loadC rfl rfl) rfl (by kernel_rfl) rfl ?_
 refine WA.takeP 4 rfl (RDP.of fun _ => RD.shrI 33 rfl rfl rfl (by decide)) rfl (by kernel_rfl) rfl ?_
 refine WA.takeP 5 rfl (RDP.of fun _ => RD.move rfl) rfl (by kernel_rfl) rfl ?_
 refine WA.takeP 6 rfl (RDP.of fun _ => RD.nilP rfl) rfl (by kernel_rfl) rfl ?_
 refine WA.takeP 7 rfl (RDP.of fun _ => RD.fieldC rfl rfl) rfl (by kernel_rfl) rfl ?_
 refine WA.take 8 rfl (RD.loadC rfl rfl) rfl (by kernel_rfl) rfl ?_
 refine WA.takeP 9 rfl (RDP.of fun _ => RD.shrI 45 rfl rfl rfl (by decide)) rfl (by kernel_rfl) rfl ?_
 refine WA.takeP 10 rfl (RDP.of fun _ => RD.bxor rfl rfl) rfl (by kernel_rfl) rfl ?_
 refine WA.one (i := 11) (by kernel_rfl) ?_
 refine WAi.efS rfl (EF.band8 rfl rfl) rfl rfl (fun _ => SubI.sub) ?_
 rintro q24 hq24
 refine WA.takeP 12 rfl (RDP.of fun _ => RD.assign rfl) rfl (by kernel_rfl) rfl ?_
 refine WA.done (by kernel_rfl) ?_
 refine JE.seqN ?_
 refine J.seq ?_
 refine J.seq ?_
 refine J.anyAll [] ?_
 refine WA.takeP 0 rfl (RDP.of fun _ => RD.move rfl) rfl (by kernel_rfl) rfl ?_
 refine WA.takeP 1 rfl (RDP.of fun _ => RD.nilP rfl) rfl (by kernel_rfl) rfl ?_
 refine WA.takeP 2 rfl (RDP.of fun _ => RD.fieldC rfl rfl) rfl (by kernel_rfl) rfl ?_
 refine WA.take 3 rfl (RD.loadC rfl rfl) rfl (by kernel_rfl) rfl ?_
 refine WA.takeP 4 rfl (RDP.of fun _ => RD.move rfl) rfl (by kernel_rfl) rfl ?_
 refine WA.takeP 5 rfl (RDP.of fun _ => RD.nilP rfl) rfl (by kernel_rfl) rfl ?_
 refine WA.takeP 6 rfl (RDP.of fun _ => RD.fieldC rfl rfl) rfl (by kernel_rfl) rfl ?_
 refine WA.take 7 rfl (RD.loadC rfl rfl) rfl (by kernel_rfl) rfl ?_
 refine WA.takeP 8 rfl (RDP.lenR rfl) rfl (by kernel_rfl) rfl ?_
 refine WA.takeP 9 rfl (RDP.of fun _ => RD.lss rfl rfl) rfl (by kernel_rfl) rfl ?_
 refine WA.done (by kernel_rfl) ?_
 refine JE.seqN ?_
 refine J.condP rfl (fun hc34 => ?_) (fun hc34 => ?_)
 ·
  refine J.seq ?_
  have hbk : (xb.getD i0 default).toNat < 256 := (xb.getD i0 default).toNat_lt
  refine J.anyAll [] ?_
  refine WA.takeP 0 rfl (RDP.of fun _ => RD.move rfl) rfl (by kernel_rfl) rfl ?_
  refine WA.takeP 1 rfl (RDP.of fun _ => RD.move rfl) rfl (by kernel_rfl) rfl ?_
  refine WA.takeP 2 rfl (RDP.of fun _ => RD.nilP rfl) rfl (by kernel_rfl) rfl ?_
  refine WA.takeP 3 rfl (RDP.of fun _ => RD.fieldC rfl rfl) rfl (by kernel_rfl) rfl ?_
  refine WA.take 4 rfl (RD.loadC rfl rfl) rfl (by kernel_rfl) rfl ?_
  refine WA.takeP 5 rfl (RDP.of fun _ => RD.move rfl) rfl (by kernel_rfl) rfl ?_
  refine WA.takeP 6 rfl (RDP.of fun _ => RD.nilP rfl) rfl (by kernel_rfl) rfl ?_
  refine WA.takeP 7 rfl (RDP.of fun _ => RD.fieldC rfl rfl) rfl (by kernel_rfl) rfl ?_
  refine WA.take 8 rfl (RD.loadC rfl rfl) rfl (by kernel_rfl) rfl ?_
  refine WA.takeP 9 rfl (RDP.idx rfl rfl (by omega) rfl) rfl (by kernel_rfl) rfl ?_
  refine WA.take 10 rfl (RD.loadE rfl (by omega) rfl) rfl (by kernel_rfl) rfl ?_
  refine WA.takeP 11 rfl (RDP.of fun _ => RD.convI rfl (by omega) (by omega)) rfl (by kernel_rfl) rfl ?_
  refine WA.takeP 12 rfl (RDP.of fun _ => RD.add rfl rfl (by omega) (by omega)) rfl (by kernel_rfl) rfl ?_
  refine WA.takeP 13 rfl (RDP.of fun _ => RD.mask 8 rfl rfl rfl (by decide) (by omega) (show _ ≤ (9223372036854775807 : Int) by omega)) rfl (by kernel_rfl) rfl ?_
  refine WA.takeP 14 rfl (RDP.of fun _ => RD.assign rfl) rfl (by kernel_rfl) rfl ?_
  refine WA.done (by kernel_rfl) ?_
  refine JE.seqN ?_
  refine J.reg ?_
  refine WL.rd (RD.move rfl) rfl rfl ?_
  refine WL.rd (RD.move rfl) rfl rfl ?_
  refine WL.rd (RD.nilP rfl) rfl rfl ?_
  refine WL.rd (RD.fieldC rfl rfl) rfl rfl ?_
  refine WL.rd (RD.loadC rfl rfl) rfl rfl ?_
  refine WL.rd (RD.add rfl rfl (by omega) (by omega)) rfl rfl ?_
  refine WL.rd (RD.nilP rfl) rfl rfl ?_
  refine WL.rd (RD.fieldC rfl rfl) rfl rfl ?_
  refine WL.efN (EF.storeC rfl rfl rfl) rfl ?_
  rintro ⟨⟩ -
  refine WL.nil ?_
  refine JE.seqN ?_
  refine J.seq ?_
  refine J.reg ?_
  refine WL.rd (RD.move rfl) rfl rfl ?_
  refine WL.rd (RD.assign rfl) rfl rfl ?_
  refine WL.nil ?_
  refine JE.seqN ?_
  refine J.ret ?_
  refine JE.ret rfl (.tmp rfl .nil) (fun w hS => ?_)
  exact CM.fin hS (_, i0 + 1, _) rfl (by dsimp only; rw [show (2 : Int) ^ 8 = 256 from rfl]; omega) (SubM.cells rfl rfl .nil) (by simp [En.rdb])
 ·
  refine J.skip ?_
  refine JE.seqN ?_
  refine J.seq ?_
  refine J.reg ?_
  refine WL.rd (RD.move rfl) rfl rfl ?_
  refine WL.rd (RD.assign rfl) rfl rfl ?_
  refine WL.nil ?_
  refine JE.seqN ?_
  refine J.ret ?_
  refine JE.ret rfl (.tmp rfl .nil) (fun w hS => ?_)
  exact CM.fin hS ((q24 : Int), i0, _) rfl (by dsimp only; omega) (SubM.cells rfl rfl .nil) (by simp [En.rdb])
theorem l1Below_c (cb i0 : Nat) (h0 : Int) (vb : Value) (xb : List UInt8) (n : Int) (w : World) (hi0 : i0 ≤ xb.length) (hlb : xb.length ≤ 1048576) :
    CM Try.prog 44 [.pointer (some ⟨cb, 0, none⟩), .int .i64 n] w [.cells cb 83 [vb, .int .i64 (i0 : Int), .int .i64 h0]] [.ro vb 1 (xb.map yv)] (Int × Nat × Int) (fun x => (0 ≤ x.1 ∧ (0 < n → x.1 < n) ∧ (n ≤ 0 → x.1 = 0)) ∧ x.2.1 ≤ xb.length) (fun x => .int .i64 x.1) (fun x => [.cells cb 83 [vb, .int .i64 (x.2.1 : Int), .int .i64 x.2.2]]) := by
 intro hSt
 have hmod : 0 < n → ∀ a : Int, 0 ≤ a % n ∧ a % n < n := fun hn a => ⟨Int.emod_nonneg a (by omega), Int.emod_lt_of_pos a hn⟩
 refine calls_of_J (mu := (muOf [.cells cb 83 [vb, .int .i64 (i0 : Int), .int .i64 h0]])) (m := [.cells cb 83 [vb, .int .i64 (i0 : Int), .int .i64 h0], .ro vb 1 (xb.map yv)]) (e := [(0, .pointer (some ⟨cb, 0, none⟩)), (1, .int .i64 n)]) Try.func44 rfl rfl (.cons rfl (.cons rfl .nil)) (hSt) ?_
 refine J.seq ?_
 refine J.reg ?_
 refine WL.rd (RD.assign rfl) rfl rfl ?_
 refine WL.nil ?_
 refine JE.seqN ?_
 refine J.seq ?_
 refine J.seq ?_
 refine J.reg ?_
 refine WL.rd (RD.move rfl) rfl rfl ?_
 refine WL.rd (RD.leq rfl rfl) rfl rfl ?_
 refine WL.nil ?_
 refine JE.seqN ?_
 refine J.condP rfl (fun hc10 => ?_) (fun hc10 => ?_)
 ·
  refine J.seq ?_
  refine J.reg ?_
  refine WL.rd (RD.assign rfl) rfl rfl ?_
  refine WL.nil ?_
  refine JE.seqN ?_
  refine J.ret ?_
  refine JE.ret rfl (.tmp rfl .nil) (fun w hS => ?_)
  exact CM.fin hS (0, i0, h0) rfl (by dsimp only; omega) (SubM.cells rfl rfl .nil) (by simp [En.rdb])
 ·
  refine J.skip ?_
  refine JE.seqN ?_
  refine J.seq ?_
  refine J.seq ?_
  refine J.reg ?_
  refine WL.rd (RD.move rfl) rfl rfl ?_
  refine WL.rd (RD.leq rfl rfl) rfl rfl ?_
  refine WL.nil ?_
  refine JE.seqN ?_
  refine J.condP rfl (fun hc12 => ?_) (fun hc12 => ?_)
  ·
   refine J.seq ?_
   refine J.reg ?_
   refine WL.rd (RD.move rfl) rfl rfl ?_
   refine WL.efS (EF.callM (.cons rfl .nil) (.cells .nil) (.ro .nil) (fun w hS => l1Byte_c _ _ _ vb xb _ (by first | omega | exact Nat.zero_le _) (by omega)) (by simp [En.rdb])) rfl rfl ?_
   rintro x14 ⟨hx14, hi14⟩
   refine WL.rd (RD.move rfl) rfl rfl ?_
   refine WL.rd (RD.rem rfl rfl (by omega) (by omega)) rfl rfl ?_
   refine WL.rd (RD.assign rfl) rfl rfl ?_
   refine WL.nil ?_
   refine JE.seqN ?_
   refine J.ret ?_
   refine JE.ret rfl (.tmp rfl .nil) (fun w hS => ?_)
   exact CM.fin hS (x14.1 % n, x14.2.1, x14.2.2) rfl (by have := hmod (by omega) (x14.1); dsimp only; omega) (SubM.cells rfl rfl .nil) (by simp [En.rdb])
  ·
   refine J.skip ?_
   refine JE.seqN ?_
   refine J.seq ?_
   refine J.reg ?_
   refine WL.rd (RD.move rfl) rfl rfl ?_
   refine WL.efS (EF.callM (.cons rfl .nil) (.cells .nil) (.ro .nil) (fun w hS => l1Byte_c _ _ _ vb xb _ (by first | omega | exact Nat.zero_le _) (by omega)) (by simp [En.rdb])) rfl rfl ?_
   rintro x18 ⟨hx18, hi18⟩
   refine WL.rd (RD.assign rfl) rfl rfl ?_
   refine WL.nil ?_
   refine JE.seqN ?_
   refine J.seq ?_
   refine J.reg ?_
   refine WL.rd (RD.move rfl) rfl rfl ?_
   refine WL.efS (EF.callM (.cons rfl .nil) (.cells .nil) (.ro .nil) (fun w hS => l1Byte_c _ _ _ vb xb _ (by first | omega | exact Nat.zero_le _) (by omega)) (by simp [En.rdb])) rfl rfl ?_
   rintro x20 ⟨hx20, hi20⟩
   refine WL.rd (RD.assign rfl) rfl rfl ?_
   refine WL.nil ?_
   refine JE.seqN ?_
   refine J.seq ?_
   refine J.reg ?_
   refine WL.rd (RD.move rfl) rfl rfl ?_
   refine WL.efS (EF.callM (.cons rfl .nil) (.cells .nil) (.ro .nil) (fun w hS => l1Byte_c _ _ _ vb xb _ (by first | omega | exact Nat.zero_le _) (by omega)) (by simp [En.rdb])) rfl rfl ?_
   rintro x22 ⟨hx22, hi22⟩
   refine WL.rd (RD.assign rfl) rfl rfl ?_
   refine WL.nil ?_
   refine JE.seqN ?_
   refine J.seq ?_
   refine J.reg ?_
   refine WL.rd (RD.move rfl) rfl rfl ?_
   refine WL.efS (EF.callM (.cons rfl .nil) (.cells .nil) (.ro .nil) (fun w hS => l1Byte_c _ _ _ vb xb _ (by first | omega | exact Nat.zero_le _) (by omega)) (by simp [En.rdb])) rfl rfl ?_
   rintro x24 ⟨hx24, hi24⟩
   refine WL.rd (RD.assign rfl) rfl rfl ?_
   refine WL.nil ?_
   refine JE.seqN ?_
   refine J.seq ?_
   refine J.reg ?_
   refine WL.rd (RD.move rfl) rfl rfl ?_
   refine WL.rd (RD.mul rfl rfl (by omega) (by omega)) rfl rfl ?_
   refine WL.rd (RD.move rfl) rfl rfl ?_
   refine WL.rd (RD.mul rfl rfl (by omega) (by omega)) rfl rfl ?_
   refine WL.rd (RD.add rfl rfl (by omega) (by omega)) rfl rfl ?_
   refine WL.rd (RD.move rfl) rfl rfl ?_
   refine WL.rd (RD.mul rfl rfl (by omega) (by omega)) rfl rfl ?_
   refine WL.rd (RD.add rfl rfl (by omega) (by omega)) rfl rfl ?_
   refine WL.rd (RD.move rfl) rfl rfl ?_
   refine WL.rd (RD.add rfl rfl (by omega) (by omega)) rfl rfl ?_
   refine WL.rd (RD.move rfl) rfl rfl ?_
   refine WL.rd (RD.rem rfl rfl (by omega) (by omega)) rfl rfl ?_
   refine WL.rd (RD.assign rfl) rfl rfl ?_
   refine WL.nil ?_
   refine JE.seqN ?_
   refine J.ret ?_
   refine JE.ret rfl (.tmp rfl .nil) (fun w hS => ?_)
   exact CM.fin hS ((x18.1 * 16777216 + x20.1 * 65536 + x22.1 * 256 + x24.1) % n, x24.2.1, x24.2.2) rfl (by have := hmod (by omega) (x18.1 * 16777216 + x20.1 * 65536 + x22.1 * 256 + x24.1); dsimp only; omega) (SubM.cells rfl rfl .nil) (by simp [En.rdb])
theorem l1Once_c (cb i0 : Nat) (h0 : Int) (vb : Value) (xb : List UInt8) (n : Int) (w : World) (hi0 : i0 ≤ xb.length) (hlb : xb.length ≤ 1048576) :
    CM Try.prog 51 [.pointer (some ⟨cb, 0, none⟩), .int .i64 n] w [.cells cb 83 [vb, .int .i64 (i0 : Int), .int .i64 h0]] [.ro vb 1 (xb.map yv)] (Bool × Nat × Int) (fun x => x.2.1 ≤ xb.length) (fun x => .bool x.1) (fun x => [.cells cb 83 [vb, .int .i64 (x.2.1 : Int), .int .i64 x.2.2]]) := by
 intro hSt
 refine calls_of_J (mu := (muOf [.cells cb 83 [vb, .int .i64 (i0 : Int), .int .i64 h0]])) (m := [.cells cb 83 [vb, .int .i64 (i0 : Int), .int .i64 h0], .ro vb 1 (xb.map yv)]) (e := [(0, .pointer (some ⟨cb, 0, none⟩)), (1, .int .i64 n)]) Try.func51 rfl rfl (.cons rfl (.cons rfl .nil)) (hSt) ?_
 refine J.seq ?_
 refine J.reg ?_
 refine WL.rd (RD.assign rfl) rfl rfl ?_
 refine WL.nil ?_
 refine JE.seqN ?_
 refine J.seq ?_
 refine J.reg ?_
 refine WL.rd (RD.move rfl) rfl rfl ?_
 refine WL.rd (RD.move rfl) rfl rfl ?_
 refine WL.efS (EF.callM (.cons rfl (.cons rfl .nil)) (.cells .nil) (.ro .nil) (fun w hS => l1Below_c _ _ _ vb xb _ _ (by first | omega | exact Nat.zero_le _) (by omega)) (by simp [En.rdb])) rfl rfl ?_
 rintro x7 ⟨hx7, hi7⟩
 refine WL.rd (RD.eql rfl rfl) rfl rfl ?_
 refine WL.rd (RD.assign rfl) rfl rfl ?_
 refine WL.nil ?_
 refine JE.seqN ?_
 refine J.ret ?_
 refine JE.ret rfl (.tmp rfl .nil) (fun w hS => ?_)
 exact CM.fin hS (_, x7.2.1, x7.2.2) rfl (by dsimp only; omega) (SubM.cells rfl rfl .nil) (by simp [En.rdb])
theorem l1PickInt_c (cb i0 : Nat) (h0 : Int) (vb : Value) (xb : List UInt8) (v : Value) (xs : List (Int)) (w : World) (hi0 : i0 ≤ xb.length) (hlb : xb.length ≤ 1048576) (hpos : 0 < xs.length) (hls : xs.length ≤ 1048576) :
    CM Try.prog 65 [.pointer (some ⟨cb, 0, none⟩), v] w [.cells cb 83 [vb, .int .i64 (i0 : Int), .int .i64 h0]] [.ro vb 1 (xb.map yv), .ro v 1 (xs.map iv)] ((Int) × Nat × Int) (fun x => x.1 ∈ xs ∧ x.2.1 ≤ xb.length) (fun x => .int .i64 x.1) (fun x => [.cells cb 83 [vb, .int .i64 (x.2.1 : Int), .int .i64 x.2.2]]) := by
 intro hSt
 refine calls_of_J (mu := (muOf [.cells cb 83 [vb, .int .i64 (i0 : Int), .int .i64 h0]])) (m := [.cells cb 83 [vb, .int .i64 (i0 : Int), .int .i64 h0], .ro vb 1 (xb.map yv), .ro v 1 (xs.map iv)]) (e := [(0, .pointer (some ⟨cb, 0, none⟩)), (1, v)]) Try.func65 rfl rfl (.cons rfl (.cons rfl .nil)) (hSt) ?_
 refine J.seq ?_
 refine J.reg ?_
 refine WL.rd (RD.assign rfl) rfl rfl ?_
 refine WL.nil ?_
 refine JE.seqN ?_
 refine J.seq ?_
 refine J.reg ?_
 refine WL.rd (RD.move rfl) rfl rfl ?_
 refine WL.rd (RD.move rfl) rfl rfl ?_
 refine WL.rd (RD.move rfl) rfl rfl ?_
 refine WL.rd (RD.lenR rfl) rfl rfl ?_
 refine WL.efS (EF.callM (.cons rfl (.cons rfl .nil)) (.cells .nil) (.ro .nil) (fun w hS => l1Below_c _ _ _ vb xb _ _ (by first | omega | exact Nat.zero_le _) (by omega)) (by simp [En.rdb])) rfl rfl ?_
 rintro x9 ⟨hx9, hi9⟩
 refine WL.rd (RD.idx (j := x9.1.toNat) (hj := ⟨by omega⟩) rfl rfl (by omega) rfl) rfl rfl ?_
 refine WL.rd (RD.loadE rfl (by omega) rfl) rfl rfl ?_
 refine WL.rd (RD.assign rfl) rfl rfl ?_
 refine WL.nil ?_
 refine JE.seqN ?_
 refine J.ret ?_
 refine JE.ret rfl (.tmp rfl .nil) (fun w hS => ?_)
 exact CM.fin hS (xs.getD x9.1.toNat default, x9.2.1, x9.2.2) rfl ⟨getDm (by omega), by dsimp only; omega⟩ (SubM.cells rfl rfl .nil) (by simp [En.rdb])

end Go.Proofs.Ytpojkjabngkfgaa
