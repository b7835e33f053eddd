/- For all desks and all whole numbers the program's StartAgain and the reference's StartAgain tell the same, and no desk told shares a row with another or with what was handed in. -/
import Derived.Test.YtkoeeajciciphaaGreatDoorQFnExactStartAgainx9
import Derived.Test.YtkoeeajciciphaaGreatDoorBase
import Derived.Lib.ItoaLen
namespace Go.Proofs.YtkoeeajciciphaaGreatDoor.Pure
open Go.RowKit Go.Proofs.YtkoeeajciciphaaGreatDoor.QFnExactStartAgain Go.Proofs.YtkoeeajciciphaaGreatDoorW.PrintWords Go.Proofs.YtkoeeajciciphaaGreatDoorW.PrintLast Go.Proofs.YtkoeeajciciphaaGreatDoor.Base
set_option linter.unusedVariables false
set_option linter.unusedSimpArgs false
def G119 (z : S119) : Prop := z.f0.size ≤ maxLen ∧ z.f1.size ≤ maxLen ∧ (Lit.int .i64 z.f2).wf = true
def G121 (z : S121) : Prop := z.f0.size ≤ maxLen ∧ z.f1.size ≤ maxLen ∧ (Lit.int .i64 z.f2).wf = true
def G88 (z : S88) : Prop := z.f0.size ≤ maxLen ∧ (Lit.int .i64 z.f1).wf = true
namespace FnExactStartAgain_
theorem rdlawsRail (xs : List S119) (i : Nat) (h : i < xs.length) : rd_T119 xs (i : Int) = xs[i] := by
 unfold rd_T119; rw [Int.toNat_natCast, List.getD_eq_getElem?_getD, List.getElem?_eq_getElem h]; rfl
theorem rdlawsBelay (xs : List S121) (i : Nat) (h : i < xs.length) : rd_T121 xs (i : Int) = xs[i] := by
 unfold rd_T121; rw [Int.toNat_natCast, List.getD_eq_getElem?_getD, List.getElem?_eq_getElem h]; rfl
theorem rdlawsCoil (xs : List S88) (i : Nat) (h : i < xs.length) : rd_T88 xs (i : Int) = xs[i] := by
 unfold rd_T88; rw [Int.toNat_natCast, List.getD_eq_getElem?_getD, List.getElem?_eq_getElem h]; rfl
theorem rdO (l : List ByteArray) (i : Nat) (h : i < l.length) : rdOf ByteArray.empty l (i : Int) = l[i] := by
 unfold rdOf
 rw [Int.toNat_natCast, List.getD_eq_getElem?_getD, List.getElem?_eq_getElem h]
 rfl
theorem sz_Rail1 (x : S119) (hx : G119 x) (left : Int) (h0 : 0 ≤ left) (h1 : left ≤ 1048576) : ∃ t, laws_szRail.f x.f0 x.f1 x.f2 left = some t ∧ t ≤ 1048576 := by
 unfold G119 at hx
 unfold maxLen at hx
 unfold laws_szRail.f wrap64
 repeat' split
 all_goals exact ⟨_, rfl, by omega⟩
theorem sz_Belay1 (x : S121) (hx : G121 x) (left : Int) (h0 : 0 ≤ left) (h1 : left ≤ 1048576) : ∃ t, laws_szBelay.f x.f0 x.f1 x.f2 left = some t ∧ t ≤ 1048576 := by
 unfold G121 at hx
 unfold maxLen at hx
 unfold laws_szBelay.f wrap64
 repeat' split
 all_goals exact ⟨_, rfl, by omega⟩
theorem sz_Coil1 (x : S88) (hx : G88 x) (left : Int) (h0 : 0 ≤ left) (h1 : left ≤ 1048576) : ∃ t, laws_szCoil.f x.f0 x.f1 left = some t ∧ t ≤ 1048576 := by
 unfold G88 at hx
 unfold maxLen at hx
 unfold laws_szCoil.f wrap64
 repeat' split
 all_goals exact ⟨_, rfl, by omega⟩
theorem sz_RailS (l : List S119) (left : Int) (h0 : 0 ≤ left) (h1 : left ≤ 1048576) (h : l.length ≤ maxLen) (hg : ∀ x ∈ l, G119 x) : ∃ r, (r < 0 ∨ l.length ≤ 1048576 ∧ r ≤ 1048576) ∧ Ev (fun k => laws_szRailS.f k l left) r := by
 unfold maxLen at h
 by_cases c : left < l.length
 ·refine ⟨-1, .inl (by omega), Ev.all fun k => ?_⟩
  unfold laws_szRailS.f
  rw [w64 (by omega) (by omega), if_pos (by omega)]
 ·have h3 := for_ev l.length (fun k (s : Int) i => laws_szRailS.l0 k l s i) (fun _ s => 0 ≤ s ∧ s ≤ 1048576) (fun r => r < 0 ∨ r ≤ 1048576) (fun i s hi hs => ?_) (fun s hs => ⟨s, .inr hs.2, Ev.const fun k => by simp only [laws_szRailS.l0]; rw [if_neg (by omega)]⟩) l.length 0 (left - (l.length : Int)) (by omega) (by omega)
  ·obtain ⟨r, hr, hev⟩ := h3
   refine ⟨r, hr.elim .inl fun hr => .inr ⟨by omega, hr⟩, Ev.congr (fun k => ?_) hev⟩
   unfold laws_szRailS.f
   rw [w64 (by omega) (by omega), if_neg (by omega)]
   rfl
  ·obtain ⟨t, ht, htm⟩ := sz_Rail1 l[i] (hg _ (List.getElem_mem hi)) s hs.1 hs.2
   by_cases c2 : t < 0
   ·refine .inr ⟨-1, .inl (by omega), Ev.const fun k => ?_⟩
    simp only [laws_szRailS.l0]
    rw [if_pos (by omega), if_pos (by omega), rdlawsRail l i hi, ht]
    simp only [Option.bind_some]
    rw [if_pos c2]
   ·refine .inl ⟨t, ⟨by omega, htm⟩, 0, fun k _ => ?_⟩
    simp only [laws_szRailS.l0]
    rw [if_pos (by omega), if_pos (by omega), rdlawsRail l i hi, ht]
    simp only [Option.bind_some]
    rw [if_neg c2, w64 (by omega) (by omega)]
theorem sz_BelayS (l : List S121) (left : Int) (h0 : 0 ≤ left) (h1 : left ≤ 1048576) (h : l.length ≤ maxLen) (hg : ∀ x ∈ l, G121 x) : ∃ r, (r < 0 ∨ l.length ≤ 1048576 ∧ r ≤ 1048576) ∧ Ev (fun k => laws_szBelayS.f k l left) r := by
 unfold maxLen at h
 by_cases c : left < l.length
 ·refine ⟨-1, .inl (by omega), Ev.all fun k => ?_⟩
  unfold laws_szBelayS.f
  rw [w64 (by omega) (by omega), if_pos (by omega)]
 ·have h3 := for_ev l.length (fun k (s : Int) i => laws_szBelayS.l0 k l s i) (fun _ s => 0 ≤ s ∧ s ≤ 1048576) (fun r => r < 0 ∨ r ≤ 1048576) (fun i s hi hs => ?_) (fun s hs => ⟨s, .inr hs.2, Ev.const fun k => by simp only [laws_szBelayS.l0]; rw [if_neg (by omega)]⟩) l.length 0 (left - (l.length : Int)) (by omega) (by omega)
  ·obtain ⟨r, hr, hev⟩ := h3
   refine ⟨r, hr.elim .inl fun hr => .inr ⟨by omega, hr⟩, Ev.congr (fun k => ?_) hev⟩
   unfold laws_szBelayS.f
   rw [w64 (by omega) (by omega), if_neg (by omega)]
   rfl
  ·obtain ⟨t, ht, htm⟩ := sz_Belay1 l[i] (hg _ (List.getElem_mem hi)) s hs.1 hs.2
   by_cases c2 : t < 0
   ·refine .inr ⟨-1, .inl (by omega), Ev.const fun k => ?_⟩
    simp only [laws_szBelayS.l0]
    rw [if_pos (by omega), if_pos (by omega), rdlawsBelay l i hi, ht]
    simp only [Option.bind_some]
    rw [if_pos c2]
   ·refine .inl ⟨t, ⟨by omega, htm⟩, 0, fun k _ => ?_⟩
    simp only [laws_szBelayS.l0]
    rw [if_pos (by omega), if_pos (by omega), rdlawsBelay l i hi, ht]
    simp only [Option.bind_some]
    rw [if_neg c2, w64 (by omega) (by omega)]
theorem sz_CoilS (l : List S88) (left : Int) (h0 : 0 ≤ left) (h1 : left ≤ 1048576) (h : l.length ≤ maxLen) (hg : ∀ x ∈ l, G88 x) : ∃ r, (r < 0 ∨ l.length ≤ 1048576 ∧ r ≤ 1048576) ∧ Ev (fun k => laws_szCoilS.f k l left) r := by
 unfold maxLen at h
 by_cases c : left < l.length
 ·refine ⟨-1, .inl (by omega), Ev.all fun k => ?_⟩
  unfold laws_szCoilS.f
  rw [w64 (by omega) (by omega), if_pos (by omega)]
 ·have h3 := for_ev l.length (fun k (s : Int) i => laws_szCoilS.l0 k l s i) (fun _ s => 0 ≤ s ∧ s ≤ 1048576) (fun r => r < 0 ∨ r ≤ 1048576) (fun i s hi hs => ?_) (fun s hs => ⟨s, .inr hs.2, Ev.const fun k => by simp only [laws_szCoilS.l0]; rw [if_neg (by omega)]⟩) l.length 0 (left - (l.length : Int)) (by omega) (by omega)
  ·obtain ⟨r, hr, hev⟩ := h3
   refine ⟨r, hr.elim .inl fun hr => .inr ⟨by omega, hr⟩, Ev.congr (fun k => ?_) hev⟩
   unfold laws_szCoilS.f
   rw [w64 (by omega) (by omega), if_neg (by omega)]
   rfl
  ·obtain ⟨t, ht, htm⟩ := sz_Coil1 l[i] (hg _ (List.getElem_mem hi)) s hs.1 hs.2
   by_cases c2 : t < 0
   ·refine .inr ⟨-1, .inl (by omega), Ev.const fun k => ?_⟩
    simp only [laws_szCoilS.l0]
    rw [if_pos (by omega), if_pos (by omega), rdlawsCoil l i hi, ht]
    simp only [Option.bind_some]
    rw [if_pos c2]
   ·refine .inl ⟨t, ⟨by omega, htm⟩, 0, fun k _ => ?_⟩
    simp only [laws_szCoilS.l0]
    rw [if_pos (by omega), if_pos (by omega), rdlawsCoil l i hi, ht]
    simp only [Option.bind_some]
    rw [if_neg c2, w64 (by omega) (by omega)]
theorem sz_StringS (l : List ByteArray) (left : Int) (h0 : 0 ≤ left) (h1 : left ≤ 1048576) (h : l.length ≤ maxLen) (hg : ∀ x ∈ l, x.size ≤ maxLen) : ∃ r, (r < 0 ∨ l.length ≤ 1048576 ∧ r ≤ 1048576) ∧ Ev (fun k => laws_szStringS.f k l left) r := by
 unfold maxLen at h
 by_cases c : left < l.length
 ·refine ⟨-1, .inl (by omega), Ev.all fun k => ?_⟩
  unfold laws_szStringS.f
  rw [w64 (by omega) (by omega), if_pos (by omega)]
 ·have h3 := for_ev l.length (fun k (s : Int) i => laws_szStringS.l0 k l s i) (fun _ s => 0 ≤ s ∧ s ≤ 1048576) (fun r => r < 0 ∨ r ≤ 1048576) (fun i s hi hs => ?_) (fun s hs => ⟨s, .inr hs.2, Ev.const fun k => by simp only [laws_szStringS.l0]; rw [if_neg (by omega)]⟩) l.length 0 (left - (l.length : Int)) (by omega) (by omega)
  ·obtain ⟨r, hr, hev⟩ := h3
   refine ⟨r, hr.elim .inl fun hr => .inr ⟨by omega, hr⟩, Ev.congr (fun k => ?_) hev⟩
   unfold laws_szStringS.f
   rw [w64 (by omega) (by omega), if_neg (by omega)]
   rfl
  ·have hz : l[i].size ≤ maxLen := hg _ (List.getElem_mem hi)
   unfold maxLen at hz
   have hw : wrap64 (s - (l[i].size : Int)) = s - (l[i].size : Int) := w64 (by omega) (by omega)
   by_cases c2 : s - (l[i].size : Int) < 0
   ·refine .inr ⟨-1, .inl (by omega), Ev.const fun k => ?_⟩
    simp only [laws_szStringS.l0]
    rw [if_pos (by omega), if_pos (by omega), rdO l i hi, hw, if_pos c2]
   ·refine .inl ⟨s - (l[i].size : Int), ⟨by omega, by omega⟩, 0, fun k _ => ?_⟩
    simp only [laws_szStringS.l0]
    rw [if_pos (by omega), if_pos (by omega), rdO l i hi, hw, if_neg c2, w64 (by omega) (by omega)]
theorem sz_log3 (a b : ByteArray) (t : Int) (h0 : 0 ≤ t) (h1 : t ≤ 1048576) (ha : a.size ≤ maxLen) (hb : b.size ≤ maxLen) : ∃ u, laws_szLog.f a b t = some u ∧ (u < 0 ∨ a.size ≤ 1048576 ∧ b.size ≤ 1048576 ∧ u ≤ 1048576) := by
 unfold maxLen at ha hb
 unfold laws_szLog.f
 rw [w64 (x := t - (a.size : Int)) (by omega) (by omega)]
 split
 ·exact ⟨-1, rfl, .inl (by omega)⟩
 ·rw [w64 (by omega) (by omega)]
  split
  ·exact ⟨-1, rfl, .inl (by omega)⟩
  ·exact ⟨_, rfl, .inr (by omega)⟩
structure DeskIn where
 d : Int
 rl : List S119
 ln : List ByteArray
 bl : List S121
 cl : List S88
 kp : ByteArray
 wt : ByteArray
def DeskIn.good (x : DeskIn) : Prop := (x.rl.length ≤ maxLen ∧ ∀ y ∈ x.rl, G119 y) ∧ (x.ln.length ≤ maxLen ∧ ∀ y ∈ x.ln, y.size ≤ maxLen) ∧ (x.bl.length ≤ maxLen ∧ ∀ y ∈ x.bl, G121 y) ∧ (x.cl.length ≤ maxLen ∧ ∀ y ∈ x.cl, G88 y) ∧ x.kp.size ≤ maxLen ∧ x.wt.size ≤ maxLen
def DeskIn.small (x : DeskIn) : Prop := x.rl.length ≤ 1048576 ∧ x.ln.length ≤ 1048576 ∧ x.bl.length ≤ 1048576 ∧ x.cl.length ≤ 1048576 ∧ x.kp.size ≤ 1048576 ∧ x.wt.size ≤ 1048576
theorem sz_desk (x : DeskIn) (hx : x.good) (left : Int) (h0 : 0 ≤ left) (h1 : left ≤ 1048576) : ∃ r, (r < 0 ∨ x.small ∧ r ≤ 1048576) ∧ Ev (fun k => laws_szDesk.f k x.d x.rl x.ln x.bl x.cl x.kp x.wt left) r := by
 obtain ⟨⟨a1, a2⟩, ⟨b1, b2⟩, ⟨c1, c2⟩, ⟨d1, d2⟩, e1, e2⟩ := hx
 obtain ⟨r1, p1, ev1⟩ := sz_RailS x.rl left h0 h1 a1 a2
 obtain ⟨K1, g1⟩ := Ev.pick ev1
 by_cases n1 : r1 < 0
 ·refine ⟨-1, .inl (by omega), Ev.intro K1 fun k hk => ?_⟩
  unfold laws_szDesk.f laws_szRig.f
  rw [g1 k hk]
  simp only [Option.bind_some]
  rw [if_pos n1]
  rfl
 obtain ⟨p1a, p1b⟩ := p1.resolve_left n1
 obtain ⟨r2, p2, ev2⟩ := sz_StringS x.ln r1 (by omega) p1b b1 b2
 obtain ⟨K2, g2⟩ := Ev.pick ev2
 by_cases n2 : r2 < 0
 ·refine ⟨-1, .inl (by omega), Ev.intro (K1 + K2) fun k hk => ?_⟩
  unfold laws_szDesk.f laws_szRig.f
  rw [g1 k (by omega)]
  simp only [Option.bind_some]
  rw [if_neg n1, g2 k (by omega)]
  simp only [Option.bind_some]
  rw [if_pos n2]
  rfl
 obtain ⟨p2a, p2b⟩ := p2.resolve_left n2
 obtain ⟨r3, p3, ev3⟩ := sz_BelayS x.bl r2 (by omega) p2b c1 c2
 obtain ⟨K3, g3⟩ := Ev.pick ev3
 by_cases n3 : r3 < 0
 ·refine ⟨-1, .inl (by omega), Ev.intro (K1 + K2 + K3) fun k hk => ?_⟩
  unfold laws_szDesk.f laws_szRig.f
  rw [g1 k (by omega)]
  simp only [Option.bind_some]
  rw [if_neg n1, g2 k (by omega)]
  simp only [Option.bind_some]
  rw [if_neg n2, g3 k (by omega)]
  simp only [Option.bind_some]
  rw [if_pos n3]
  rfl
 obtain ⟨p3a, p3b⟩ := p3.resolve_left n3
 obtain ⟨r4, p4, ev4⟩ := sz_CoilS x.cl r3 (by omega) p3b d1 d2
 obtain ⟨K4, g4⟩ := Ev.pick ev4
 have rig : ∀ k, K1 + K2 + K3 ≤ k → laws_szRig.f k x.rl x.ln x.bl left = some r3 := fun k hk => by
  unfold laws_szRig.f
  rw [g1 k (by omega)]
  simp only [Option.bind_some]
  rw [if_neg n1, g2 k (by omega)]
  simp only [Option.bind_some]
  rw [if_neg n2, g3 k (by omega)]
  simp only [Option.bind_some]
  rw [if_neg n3]
 by_cases n4 : r4 < 0
 ·refine ⟨-1, .inl (by omega), Ev.intro (K1 + K2 + K3 + K4) fun k hk => ?_⟩
  unfold laws_szDesk.f
  rw [rig k (by omega)]
  simp only [Option.bind_some]
  rw [if_neg n3, g4 k (by omega)]
  simp only [Option.bind_some]
  rw [if_pos n4]
 obtain ⟨p4a, p4b⟩ := p4.resolve_left n4
 obtain ⟨r5, h5, p5⟩ := sz_log3 x.kp x.wt r4 (by omega) p4b e1 e2
 refine ⟨if r5 < 0 then -1 else r5, ?_, Ev.intro (K1 + K2 + K3 + K4) fun k hk => ?_⟩
 ·by_cases n5 : r5 < 0
  ·rw [if_pos n5]; exact .inl (by omega)
  ·rw [if_neg n5]
   obtain ⟨q1, q2, q3⟩ := p5.resolve_left n5
   exact .inr ⟨⟨p1a, p2a, p3a, p4a, q1, q2⟩, q3⟩
 ·unfold laws_szDesk.f
  rw [rig k (by omega)]
  simp only [Option.bind_some]
  rw [if_neg n3, g4 k (by omega)]
  simp only [Option.bind_some]
  rw [if_neg n4, h5]
  simp only [Option.bind_some]
  split <;> rfl
def cvRail (x : S119) : S97 := ⟨x.f0, x.f1, x.f2⟩
theorem to_RailS (l : List S119) (h : l.length ≤ 1048576) : Ev (fun k => laws_toRailS.f k l) (l.map cvRail) := by
 have round : ∀ k acc (i : Nat) (h : i < l.length), acc.length = l.length → laws_toRailS.l0 (k + 1) l acc (i : Int) = laws_toRailS.l0 k l (acc.set i (cvRail l[i])) ((i : Int) + 1) := by
  intro k acc i hi hl
  simp only [laws_toRailS.l0, laws_toRail.f, Option.bind_some]
  rw [if_pos (by omega), if_pos (by omega), if_pos (by omega), w64 (by omega) (by omega), rdlawsRail l i hi, Int.toNat_natCast]
  rfl
 have fin : ∀ k acc, laws_toRailS.l0 (k + 1) l acc (l.length : Int) = some acc := by
  intro k acc
  simp only [laws_toRailS.l0]
  rw [if_neg (by omega)]
 have := fill_to l cvRail (fun k acc i => laws_toRailS.l0 k l acc i) round fin (List.replicate l.length z97) (by simp)
 refine Ev.congr (fun k => ?_) this
 unfold laws_toRailS.f
 rw [if_pos (by omega), if_pos (by rw [Int.toNat_natCast]; omega), Int.toNat_natCast]
def cvBelay (x : S121) : S101 := ⟨x.f0, x.f1, x.f2⟩
theorem to_BelayS (l : List S121) (h : l.length ≤ 1048576) : Ev (fun k => laws_toBelayS.f k l) (l.map cvBelay) := by
 have round : ∀ k acc (i : Nat) (h : i < l.length), acc.length = l.length → laws_toBelayS.l0 (k + 1) l acc (i : Int) = laws_toBelayS.l0 k l (acc.set i (cvBelay l[i])) ((i : Int) + 1) := by
  intro k acc i hi hl
  simp only [laws_toBelayS.l0, laws_toBelay.f, Option.bind_some]
  rw [if_pos (by omega), if_pos (by omega), if_pos (by omega), w64 (by omega) (by omega), rdlawsBelay l i hi, Int.toNat_natCast]
  rfl
 have fin : ∀ k acc, laws_toBelayS.l0 (k + 1) l acc (l.length : Int) = some acc := by
  intro k acc
  simp only [laws_toBelayS.l0]
  rw [if_neg (by omega)]
 have := fill_to l cvBelay (fun k acc i => laws_toBelayS.l0 k l acc i) round fin (List.replicate l.length z101) (by simp)
 refine Ev.congr (fun k => ?_) this
 unfold laws_toBelayS.f
 rw [if_pos (by omega), if_pos (by rw [Int.toNat_natCast]; omega), Int.toNat_natCast]
def cvCoil (x : S88) : S69 := ⟨x.f0, x.f1⟩
theorem to_CoilS (l : List S88) (h : l.length ≤ 1048576) : Ev (fun k => laws_toCoilS.f k l) (l.map cvCoil) := by
 have round : ∀ k acc (i : Nat) (h : i < l.length), acc.length = l.length → laws_toCoilS.l0 (k + 1) l acc (i : Int) = laws_toCoilS.l0 k l (acc.set i (cvCoil l[i])) ((i : Int) + 1) := by
  intro k acc i hi hl
  simp only [laws_toCoilS.l0, laws_toCoil.f, Option.bind_some]
  rw [if_pos (by omega), if_pos (by omega), if_pos (by omega), w64 (by omega) (by omega), rdlawsCoil l i hi, Int.toNat_natCast]
  rfl
 have fin : ∀ k acc, laws_toCoilS.l0 (k + 1) l acc (l.length : Int) = some acc := by
  intro k acc
  simp only [laws_toCoilS.l0]
  rw [if_neg (by omega)]
 have := fill_to l cvCoil (fun k acc i => laws_toCoilS.l0 k l acc i) round fin (List.replicate l.length z69) (by simp)
 refine Ev.congr (fun k => ?_) this
 unfold laws_toCoilS.f
 rw [if_pos (by omega), if_pos (by rw [Int.toNat_natCast]; omega), Int.toNat_natCast]
theorem to_StringS (l : List ByteArray) (h : l.length ≤ 1048576) : Ev (fun k => laws_toStringS.f k l) l := by
 have round : ∀ k acc (i : Nat) (h : i < l.length), acc.length = l.length → laws_toStringS.l0 (k + 1) l acc (i : Int) = laws_toStringS.l0 k l (acc.set i (id l[i])) ((i : Int) + 1) := by
  intro k acc i hi hl
  simp only [laws_toStringS.l0]
  rw [if_pos (by omega), if_pos (by omega), if_pos (by omega), w64 (by omega) (by omega), rdO l i hi, Int.toNat_natCast]
  rfl
 have fin : ∀ k acc, laws_toStringS.l0 (k + 1) l acc (l.length : Int) = some acc := by
  intro k acc
  simp only [laws_toStringS.l0]
  rw [if_neg (by omega)]
 have := fill_to l id (fun k acc i => laws_toStringS.l0 k l acc i) round fin (List.replicate l.length (⟨#[]⟩ : ByteArray)) (by simp)
 rw [List.map_id] at this
 refine Ev.congr (fun k => ?_) this
 unfold laws_toStringS.f
 rw [if_pos (by omega), if_pos (by rw [Int.toNat_natCast]; omega), Int.toNat_natCast]
theorem to_desk (x : DeskIn) (hx : x.small) : Ev (fun k => laws_toDesk.f k x.d x.rl x.ln x.bl x.cl x.kp x.wt) (x.d, x.rl.map cvRail, x.ln, x.bl.map cvBelay, x.cl.map cvCoil, x.kp, x.wt) := by
 obtain ⟨K1, g1⟩ := Ev.pick (to_RailS x.rl hx.1)
 obtain ⟨K2, g2⟩ := Ev.pick (to_StringS x.ln hx.2.1)
 obtain ⟨K3, g3⟩ := Ev.pick (to_BelayS x.bl hx.2.2.1)
 obtain ⟨K4, g4⟩ := Ev.pick (to_CoilS x.cl hx.2.2.2.1)
 refine Ev.intro (K1 + K2 + K3 + K4) fun k hk => ?_
 unfold laws_toDesk.f laws_toRig.f laws_toLog.f
 simp (disch := omega) only [g1, g2, g3, g4, Option.bind_some]
theorem eq_RailS (l : List S97) (h : l.length ≤ 1048576) : Ev (fun k => laws_eqRailS.f k l l) true := by
 refine Ev.congr (f := fun k => laws_eqRailS.l0 k l l 0) (fun k => by unfold laws_eqRailS.f; rw [if_pos rfl]) ?_
 refine go_to l.length (fun k i => laws_eqRailS.l0 k l l i) true (fun i hi => ⟨0, fun k _ => ?_⟩) (Ev.const fun k => ?_)
 ·simp only [laws_eqRailS.l0, laws_eqRail.f, if_true, Option.bind_some]
  rw [if_pos (by omega), if_pos (by omega), if_pos (by omega), w64 (by omega) (by omega)]
 ·simp only [laws_eqRailS.l0]
  rw [if_neg (by omega)]
theorem eq_BelayS (l : List S101) (h : l.length ≤ 1048576) : Ev (fun k => laws_eqBelayS.f k l l) true := by
 refine Ev.congr (f := fun k => laws_eqBelayS.l0 k l l 0) (fun k => by unfold laws_eqBelayS.f; rw [if_pos rfl]) ?_
 refine go_to l.length (fun k i => laws_eqBelayS.l0 k l l i) true (fun i hi => ⟨0, fun k _ => ?_⟩) (Ev.const fun k => ?_)
 ·simp only [laws_eqBelayS.l0, laws_eqBelay.f, if_true, Option.bind_some]
  rw [if_pos (by omega), if_pos (by omega), if_pos (by omega), w64 (by omega) (by omega)]
 ·simp only [laws_eqBelayS.l0]
  rw [if_neg (by omega)]
theorem eq_CoilS (l : List S69) (h : l.length ≤ 1048576) : Ev (fun k => laws_eqCoilS.f k l l) true := by
 refine Ev.congr (f := fun k => laws_eqCoilS.l0 k l l 0) (fun k => by unfold laws_eqCoilS.f; rw [if_pos rfl]) ?_
 refine go_to l.length (fun k i => laws_eqCoilS.l0 k l l i) true (fun i hi => ⟨0, fun k _ => ?_⟩) (Ev.const fun k => ?_)
 ·simp only [laws_eqCoilS.l0, laws_eqCoil.f, if_true, Option.bind_some]
  rw [if_pos (by omega), if_pos (by omega), if_pos (by omega), w64 (by omega) (by omega)]
 ·simp only [laws_eqCoilS.l0]
  rw [if_neg (by omega)]
theorem eq_StringS (l : List ByteArray) (h : l.length ≤ 1048576) : Ev (fun k => laws_eqStringS.f k l l) true := by
 refine Ev.congr (f := fun k => laws_eqStringS.l0 k l l 0) (fun k => by unfold laws_eqStringS.f; rw [if_pos rfl]) ?_
 refine go_to l.length (fun k i => laws_eqStringS.l0 k l l i) true (fun i hi => ⟨0, fun k _ => ?_⟩) (Ev.const fun k => ?_)
 ·simp only [laws_eqStringS.l0, if_true]
  rw [if_pos (by omega), if_pos (by omega), if_pos (by omega), w64 (by omega) (by omega)]
 ·simp only [laws_eqStringS.l0]
  rw [if_neg (by omega)]
theorem eq_desk (d : Int) (rl : List S97) (ln : List ByteArray) (bl : List S101) (cl : List S69) (kp wt : ByteArray) (h1 : rl.length ≤ 1048576) (h2 : ln.length ≤ 1048576) (h3 : bl.length ≤ 1048576) (h4 : cl.length ≤ 1048576) : Ev (fun k => laws_eqDesk.f k d rl ln bl cl kp wt d rl ln bl cl kp wt) true := by
 obtain ⟨K1, g1⟩ := Ev.pick (eq_RailS rl h1)
 obtain ⟨K2, g2⟩ := Ev.pick (eq_StringS ln h2)
 obtain ⟨K3, g3⟩ := Ev.pick (eq_BelayS bl h3)
 obtain ⟨K4, g4⟩ := Ev.pick (eq_CoilS cl h4)
 refine Ev.intro (K1 + K2 + K3 + K4) fun k hk => ?_
 unfold laws_eqDesk.f laws_eqRig.f laws_eqLog.f
 simp (disch := omega) only [g1, g2, g3, g4, Option.bind_some, if_true]
theorem within_q (a b c : Int) : impl_within.f a b c = some (decide (b ≤ a ∧ a ≤ c)) := by
 unfold impl_within.f
 by_cases hh : a ≥ b
 ·rw [if_pos hh]; congr 1; apply Bool.eq_iff_iff.mpr; simp; omega
 ·rw [if_neg hh]; congr 1; symm; simp; omega
theorem coil_q (x : S69) : Ev (fun k => impl_validCoil.f k x.f0 x.f1) (coilOkP x) := by
 obtain ⟨K, h⟩ := Ev.pick (name_impl x.f0)
 refine Ev.intro K fun k hk => ?_
 unfold impl_validCoil.f coilOkP
 rw [h k hk, Option.bind_some, within_q]
 cases isNameB x.f0 <;> rfl
theorem coils_q (l : List S69) (h : l.length ≤ 1048576) : Ev (fun k => impl_ValidStockCoils.f k l) (coilsOkP l) := by
 by_cases h40 : (l.length : Int) > 40
 ·refine Ev.intro 0 fun k _ => ?_
  unfold impl_ValidStockCoils.f coilsOkP
  rw [if_pos h40, decide_eq_false (by omega), Bool.and_false]
 ·have key : ∀ d i : Nat, i + d = l.length → Ev (fun k => impl_ValidStockCoils.l0 k l (l.length : Int) (i : Int)) ((l.drop i).all coilOkP) := by
   intro d
   induction d with
   | zero =>
    intro i hi
    refine Ev.const fun k => ?_
    simp only [impl_ValidStockCoils.l0]
    rw [if_neg (by omega), List.drop_of_length_le (by omega)]
    rfl
   | succ d ih =>
    intro i hi
    have hlt : i < l.length := by omega
    have hrest := ih (i + 1) (by omega)
    rw [List.drop_eq_getElem_cons hlt, List.all_cons]
    obtain ⟨K1, g1⟩ := Ev.pick (coil_q l[i])
    obtain ⟨K2, g2⟩ := Ev.pick hrest
    have hrd := rdCoil l i hlt
    refine Ev.intro (K1 + K2 + 1) fun k hk => ?_
    obtain ⟨q, rfl⟩ : ∃ q, k = q + 1 := ⟨k - 1, by omega⟩
    simp only [impl_ValidStockCoils.l0]
    rw [if_pos (by omega), if_pos (by omega), if_pos (by omega), hrd, g1 q (by omega), Option.bind_some, w64 (by omega) (by omega)]
    cases coilOkP l[i] with
    | false => rfl
    | true =>
     rw [if_pos rfl, Bool.true_and]
     exact g2 q (by omega)
  obtain ⟨K, g⟩ := Ev.pick (key l.length 0 (by omega))
  refine Ev.intro K fun k hk => ?_
  unfold impl_ValidStockCoils.f coilsOkP
  rw [if_neg h40, decide_eq_true (by omega), Bool.and_true]
  exact g k hk
theorem in_eq (a b c : Int) : spec_l00In.f a b c = some (decide (b ≤ a ∧ a ≤ c)) := by
 unfold spec_l00In.f
 by_cases h : a ≥ b
 ·rw [if_pos h]; congr 1; apply Bool.eq_iff_iff.mpr; simp; omega
 ·rw [if_neg h]; congr 1; apply Bool.eq_iff_iff.mpr; simp; omega
theorem name_loop_spec (s : ByteArray) (h : s.size ≤ 12) : Ev (fun k => spec_IsName.l0 k s 0) ((List.range s.size).all fun i => nameByte (bt s i)) := by
 have := all_lt s.size (fun i => nameByte (bt s i)) (fun k i => spec_IsName.l0 k s i) true false (fun i hi hp => ⟨0, fun k _ => ?_⟩) (fun i hi hp => Ev.const fun k => ?_) (fun _ => Ev.const fun k => ?_)
 ·rw [ite_bool] at this
  exact this
 ·have hp := of_decide_eq_true hp
  simp only [spec_IsName.l0, spec_l01Small.f, spec_l01Digit.f]
  rw [if_pos (by omega), if_pos (by omega), w64 (by omega) (by omega)]
  by_cases h1 : bt s i ≥ 97
  ·rw [if_pos h1]
   simp only [Option.bind_some, decide_eq_true_eq]
   by_cases h2 : bt s i ≤ 122
   ·rw [if_pos h2]
   ·exfalso; omega
  ·rw [if_neg h1]
   simp only [Option.bind_some, Bool.false_eq_true, if_false]
   by_cases h3 : bt s i ≥ 48
   ·rw [if_pos h3]
    simp only [Option.bind_some, decide_eq_true_eq]
    rw [if_pos (by omega)]
   ·rw [if_neg h3]
    simp only [Option.bind_some, Bool.false_eq_true, if_false]
    rw [if_pos (by omega)]
 ·have hp := of_decide_eq_false hp
  simp only [spec_IsName.l0, spec_l01Small.f, spec_l01Digit.f]
  rw [if_pos (by omega), if_pos (by omega)]
  by_cases h1 : bt s i ≥ 97
  ·rw [if_pos h1, if_pos (by omega)]
   simp only [Option.bind_some, decide_eq_true_eq]
   rw [if_neg (by omega), if_neg (by omega), if_neg (by omega)]
  ·rw [if_neg h1]
   simp only [Option.bind_some, Bool.false_eq_true, if_false]
   by_cases h3 : bt s i ≥ 48
   ·rw [if_pos h3]
    simp only [Option.bind_some, decide_eq_true_eq]
    rw [if_neg (by omega), if_neg (by omega)]
   ·rw [if_neg h3]
    simp only [Option.bind_some, Bool.false_eq_true, if_false]
    rw [if_neg (by omega)]
 ·simp only [spec_IsName.l0]
  rw [if_neg (by omega)]
theorem name_j0 (s : ByteArray) (k : Nat) : spec_IsName.j0 (k + 1) s true = some false := by simp only [spec_IsName.j0, if_true]
theorem name_spec (s : ByteArray) : Ev (fun k => spec_IsName.f k s) (isNameB s) := by
 unfold isNameB
 by_cases h0 : s.size = 0
 ·rw [decide_eq_false (by omega), Bool.false_and]
  refine Ev.const fun k => ?_
  unfold spec_IsName.f
  rw [if_pos (List.eq_nil_of_length_eq_zero (by rw [size_toList, h0]))]
  exact name_j0 s k
 ·have hne : ¬ s.toList = ([] : List UInt8) := fun h => h0 (by rw [← size_toList, h]; rfl)
  by_cases h12 : s.size ≤ 12
  ·by_cases hs : 97 ≤ bt s 0 ∧ bt s 0 ≤ 122
   ·rw [decide_eq_true ⟨by omega, h12, hs⟩, Bool.true_and]
    refine Ev.step (f := fun k => spec_IsName.l0 k s 0) (fun k => ?_) (name_loop_spec s h12)
    simp only [spec_IsName.f, spec_l01Small.f]
    rw [if_neg hne, if_neg (by omega), if_pos (by omega), if_pos (by omega)]
    simp only [Option.bind_some]
    rw [decide_eq_true hs.2]
    simp only [Bool.not_true, spec_IsName.j0, Bool.false_eq_true, if_false]
   ·rw [decide_eq_false (fun h => hs h.2.2), Bool.false_and]
    refine Ev.const fun k => ?_
    simp only [spec_IsName.f, spec_l01Small.f]
    rw [if_neg hne, if_neg (by omega), if_pos (by omega)]
    by_cases h1 : bt s 0 ≥ 97
    ·rw [if_pos h1]
     simp only [Option.bind_some]
     rw [decide_eq_false (by omega)]
     exact name_j0 s k
    ·rw [if_neg h1]
     exact name_j0 s k
  ·rw [decide_eq_false (by omega), Bool.false_and]
   refine Ev.const fun k => ?_
   unfold spec_IsName.f
   rw [if_neg hne, if_pos (by omega)]
   exact name_j0 s k
theorem text_spec (s : ByteArray) (m : Int) (h : s.size ≤ 140737488351232) : Ev (fun k => spec_l00Text.f k s m) (plainB s && decide ((s.size : Int) ≤ m)) := by
 unfold spec_l00Text.f plainB
 have := all_lt s.size (fun i => decide (32 ≤ bt s i ∧ bt s i ≤ 126)) (fun k i => spec_l00Text.l0 k s m i) (decide ((s.size : Int) ≤ m)) false (fun i hi hp => ⟨0, fun k _ => ?_⟩) (fun i hi hp => Ev.const fun k => ?_) (fun _ => Ev.const fun k => ?_)
 ·have e : (if ((List.range s.size).all fun i => decide (32 ≤ bt s i ∧ bt s i ≤ 126)) = true then decide ((s.size : Int) ≤ m) else false) = (((List.range s.size).all fun i => decide (32 ≤ bt s i ∧ bt s i ≤ 126)) && decide ((s.size : Int) ≤ m)) := by
   cases ((List.range s.size).all fun i => decide (32 ≤ bt s i ∧ bt s i ≤ 126)) <;> rfl
  rw [e] at this
  exact this
 ·have hp := of_decide_eq_true hp
  simp only [spec_l00Text.l0]
  rw [if_pos (by omega), if_pos (by omega), if_neg (by omega), if_neg (by omega), w64 (by omega) (by omega)]
 ·have hp := of_decide_eq_false hp
  simp only [spec_l00Text.l0]
  rw [if_pos (by omega), if_pos (by omega)]
  by_cases c : bt s i < 32
  ·rw [if_pos c]
  ·rw [if_neg c, if_pos (by omega)]
 ·simp only [spec_l00Text.l0]
  rw [if_neg (by omega)]
theorem one_spec (f0 : Int) (f1 f2 : ByteArray) (h : f2.size ≤ 140737488351232) : Ev (fun k => spec_l27One.f k f0 f1 f2) (entryV f0 f1 f2, f0, f1, f2) := by
 obtain ⟨K, hK⟩ := Ev.pick (name_spec f1)
 obtain ⟨J, hJ⟩ := Ev.pick (text_spec f2 60 h)
 refine Ev.intro (K + J) fun k hk => ?_
 unfold spec_l27One.f entryV
 rw [in_eq, hK k (by omega), hJ k (by omega)]
 have e : decide ((f2.size : Int) ≤ 60) = decide (f2.size ≤ 60) := by
  by_cases c : f2.size ≤ 60
  ·rw [decide_eq_true c, decide_eq_true (by omega)]
  ·rw [decide_eq_false c, decide_eq_false (by omega)]
 rw [e]
 cases decide (0 ≤ f0 ∧ f0 ≤ 20000) <;> cases isNameB f1 <;> simp
theorem within_eq (a b c : Int) : impl_within.f a b c = some (decide (b ≤ a ∧ a ≤ c)) := by
 unfold impl_within.f
 by_cases h : a ≥ b
 ·rw [if_pos h]; congr 1; apply Bool.eq_iff_iff.mpr; simp; omega
 ·rw [if_neg h]; congr 1; apply Bool.eq_iff_iff.mpr; simp; omega
theorem name_loop_impl (s : ByteArray) (h : s.size ≤ 12) : Ev (fun k => impl_IsName.l0 k s 0) ((List.range s.size).all fun i => nameByte (bt s i)) := by
 have := all_lt s.size (fun i => nameByte (bt s i)) (fun k i => impl_IsName.l0 k s i) true false (fun i hi hp => ⟨0, fun k _ => ?_⟩) (fun i hi hp => Ev.const fun k => ?_) (fun _ => Ev.const fun k => ?_)
 ·rw [ite_bool] at this
  exact this
 ·have hp := of_decide_eq_true hp
  simp only [impl_IsName.l0]
  rw [if_pos (by omega), if_pos (by omega), w64 (by omega) (by omega)]
  repeat' split
  all_goals first | rfl | (exfalso; omega)
 ·have hp := of_decide_eq_false hp
  simp only [impl_IsName.l0]
  rw [if_pos (by omega), if_pos (by omega)]
  repeat' split
  all_goals first | rfl | (exfalso; omega)
 ·simp only [impl_IsName.l0]
  rw [if_neg (by omega)]
theorem name_impl (s : ByteArray) : Ev (fun k => impl_IsName.f k s) (isNameB s) := by
 unfold isNameB
 by_cases h0 : s.size < 1
 ·rw [decide_eq_false (by omega), Bool.false_and]
  refine Ev.const fun k => ?_
  unfold impl_IsName.f
  rw [if_pos (by omega)]
  simp only [impl_IsName.j0, if_true]
 ·by_cases h12 : s.size ≤ 12
  ·by_cases hs : 97 ≤ bt s 0 ∧ bt s 0 ≤ 122
   ·rw [decide_eq_true ⟨by omega, h12, hs⟩, Bool.true_and]
    refine Ev.step (f := fun k => impl_IsName.l0 k s 0) (fun k => ?_) (name_loop_impl s h12)
    simp only [impl_IsName.f]
    rw [if_neg (by omega), if_neg (by omega), if_pos (by omega), if_neg (by omega), decide_eq_false (by omega)]
    simp only [impl_IsName.j0, Bool.false_eq_true, if_false]
   ·rw [decide_eq_false (fun h => hs h.2.2), Bool.false_and]
    refine Ev.const fun k => ?_
    simp only [impl_IsName.f]
    rw [if_neg (by omega), if_neg (by omega), if_pos (by omega)]
    by_cases h1 : bt s 0 < 97
    ·rw [if_pos h1]
     simp only [impl_IsName.j0, if_true]
    ·rw [if_neg h1, decide_eq_true (by omega)]
     simp only [impl_IsName.j0, if_true]
  ·rw [decide_eq_false (by omega), Bool.false_and]
   refine Ev.const fun k => ?_
   unfold impl_IsName.f
   rw [if_neg (by omega), if_pos (by omega)]
   simp only [impl_IsName.j0, if_true]
theorem entry_loop (f0 : Int) (f1 f2 : ByteArray) (h : f2.size ≤ 140737488351232) : Ev (fun k => impl_ValidEntry.l0 k 0 f0 f1 f2) (plainB f2) := by
 unfold plainB
 have := all_lt f2.size (fun i => decide (32 ≤ bt f2 i ∧ bt f2 i ≤ 126)) (fun k i => impl_ValidEntry.l0 k i f0 f1 f2) true false (fun i hi hp => ⟨0, fun k _ => ?_⟩) (fun i hi hp => Ev.const fun k => ?_) (fun _ => Ev.const fun k => ?_)
 ·rw [ite_bool] at this
  exact this
 ·have hp := of_decide_eq_true hp
  simp only [impl_ValidEntry.l0]
  rw [if_pos (by omega), if_pos (by omega), if_neg (by omega), if_neg (by omega), w64 (by omega) (by omega)]
 ·have hp := of_decide_eq_false hp
  simp only [impl_ValidEntry.l0]
  rw [if_pos (by omega), if_pos (by omega)]
  by_cases c : bt f2 i < 32
  ·rw [if_pos c]
  ·rw [if_neg c, if_pos (by omega)]
 ·simp only [impl_ValidEntry.l0]
  rw [if_neg (by omega)]
theorem entry_impl (f0 : Int) (f1 f2 : ByteArray) (h : f2.size ≤ 140737488351232) : Ev (fun k => impl_ValidEntry.f k f0 f1 f2) (entryV f0 f1 f2) := by
 obtain ⟨K, hK⟩ := Ev.pick (name_impl f1)
 obtain ⟨J, hJ⟩ := Ev.pick (entry_loop f0 f1 f2 h)
 refine Ev.intro (K + J + 1) fun k hk => ?_
 obtain ⟨m, rfl⟩ : ∃ m, k = m + 1 := ⟨k - 1, by omega⟩
 unfold impl_ValidEntry.f entryV
 rw [within_eq, hK _ (by omega)]
 simp only [Option.bind_some, impl_ValidEntry.j0]
 by_cases c : f2.size ≤ 60
 ·have c2 : ¬ (f2.size : Int) > 60 := by omega
  rw [decide_eq_false c2, decide_eq_true c, hJ m (by omega)]
  cases decide (0 ≤ f0 ∧ f0 ≤ 20000) <;> cases isNameB f1 <;> simp
 ·have c2 : (f2.size : Int) > 60 := by omega
  rw [decide_eq_true c2, decide_eq_false c]
  cases decide (0 ≤ f0 ∧ f0 ≤ 20000) <;> cases isNameB f1 <;> simp
def decL (u : Nat) : List Int := if h : u = 0 then [] else decL (u / 10) ++ [(48 + (u % 10 : Nat) : Int)]
termination_by u
decreasing_by omega
theorem decL_zero : decL 0 = [] := by unfold decL; rfl
theorem decL_pos {u : Nat} (h : ¬ u = 0) : decL u = decL (u / 10) ++ [(48 + (u % 10 : Nat) : Int)] := by rw [decL, dif_neg h]
theorem decL_bytes (u : Nat) (h : 0 < u) : (decL u).map (fun n : Int => UInt8.ofNat n.toNat) = Lib.decDigits u := by
 induction u using Nat.strongRecOn with
 | _ u ih =>
  rw [decL_pos (by omega), Lib.decDigits]
  have e : (48 + ((u % 10 : Nat) : Int)).toNat = 48 + u % 10 := by omega
  by_cases h10 : u < 10
  ·rw [dif_pos h10, Nat.div_eq_of_lt h10, decL_zero]
   simp only [List.nil_append, List.map_cons, List.map_nil, e]
   rw [Nat.mod_eq_of_lt h10]
  ·rw [dif_neg h10, List.map_append, ih (u / 10) (by omega) (by omega)]
   simp only [List.map_cons, List.map_nil, e]
theorem strOfNums_size (xs : List Int) : (strOfNums xs).size = xs.length := by unfold strOfNums; show (Array.size _) = _; simp
def finD (n : Int) (xs : List Int) : ByteArray := if (xs.length : Int) = 0 then (⟨#[48]⟩ : ByteArray) else if n < 0 then (⟨#[45]⟩ : ByteArray) ++ strOfNums xs else strOfNums xs
theorem mod256 {x : Int} (h0 : 0 ≤ x) (h1 : x < 256) : x % 256 = x := Int.emod_eq_of_lt h0 h1
theorem dec_end (n : Int) (acc : List Int) (h : acc.length ≤ 200) : Ev (fun k => spec_l01Dec.l0 k n acc 0) (finD n acc) := by
 refine Ev.const fun k => ?_
 simp only [spec_l01Dec.l0, if_true]
 unfold finD
 split
 ·rfl
 ·split
  ·rw [if_pos (by rw [strOfNums_size]; omega)]
  ·rfl
theorem dec_loop (n : Int) : ∀ (m u : Nat) (acc : List Int) (x : Int), (x = u ∨ x = -(u : Int)) → u < 10 ^ m → acc.length + m ≤ 100 → u ≤ 9223372036854775808 → Ev (fun k => spec_l01Dec.l0 k n acc x) (finD n (decL u ++ acc))
 | 0, u, acc, x, hx, hu, ha, _ => by
  have h0 : u = 0 := by simpa using hu
  subst h0
  obtain rfl : x = 0 := by omega
  rw [decL_zero, List.nil_append]
  exact dec_end n acc (by omega)
 | m + 1, u, acc, x, hx, hu, ha, hb => by
  by_cases h0 : u = 0
  ·subst h0
   obtain rfl : x = 0 := by omega
   rw [decL_zero, List.nil_append]
   exact dec_end n acc (by omega)
  ·have hlt : u / 10 < 10 ^ m := by rw [Nat.pow_succ] at hu; omega
   have ih := dec_loop n m (u / 10) ((48 + (u % 10 : Nat) : Int) :: acc) (Int.tdiv x 10) ?_ hlt (by simp only [List.length_cons]; omega) (by omega)
   ·rw [decL_pos h0, List.append_assoc, List.singleton_append]
    refine Ev.step (fun k => ?_) ih
    have hxn : ¬ x = 0 := by omega
    simp only [spec_l01Dec.l0]
    rw [if_neg hxn]
    have hw : wrap64 (Int.tdiv x 10) = Int.tdiv x 10 := by
     rcases hx with rfl | rfl
     ·rw [tdiv_nn (by omega)]; exact w64 (by omega) (by omega)
     ·rw [Int.neg_tdiv, tdiv_nn (by omega)]; exact w64 (by omega) (by omega)
    have hm : (Int.tmod x 10 = (u % 10 : Nat) ∨ Int.tmod x 10 = -((u % 10 : Nat) : Int)) := by
     rcases hx with rfl | rfl
     ·left; rw [tmod_nn (by omega)]; omega
     ·right; rw [Int.neg_tmod, tmod_nn (by omega)]; omega
    have hd : u % 10 < 10 := Nat.mod_lt _ (by omega)
    generalize u % 10 = d at hm hd ⊢
    rw [hw]
    by_cases hneg : Int.tmod x 10 < 0
    ·have hm2 : Int.tmod x 10 = -(d : Int) := by omega
     rw [if_pos hneg, hm2]
     simp only [Option.bind_some, List.length_cons, List.length_nil]
     rw [if_pos (by omega), w64 (x := - -(d : Int)) (by omega) (by omega), w64 (x := 48 + - -(d : Int)) (by omega) (by omega), mod256 (by omega) (by omega), Int.neg_neg]
     rfl
    ·have hm2 : Int.tmod x 10 = (d : Int) := by omega
     rw [if_neg hneg, hm2]
     simp only [Option.bind_some, List.length_cons, List.length_nil]
     rw [if_pos (by omega), w64 (x := 48 + (d : Int)) (by omega) (by omega), mod256 (by omega) (by omega)]
     rfl
   ·rcases hx with rfl | rfl
    ·left; rw [tdiv_nn (by omega)]; omega
    ·right; rw [Int.neg_tdiv, tdiv_nn (by omega)]; omega
theorem finD_itoa (n : Int) : finD n (decL n.natAbs) = ⟨(Lib.itoa n).toArray⟩ := by
 unfold finD Lib.itoa
 by_cases h0 : n = 0
 ·subst h0
  rw [show (0 : Int).natAbs = 0 from rfl, decL_zero]
  rw [if_pos (show (([] : List Int).length : Int) = 0 from rfl), if_neg (by omega)]
  rw [show (0 : Int).toNat = 0 from rfl, Lib.decDigits]
  rfl
 ·have hpos : 0 < n.natAbs := by omega
  have hlen : ¬ ((decL n.natAbs).length : Int) = 0 := by
   rw [decL_pos (by omega), List.length_append]
   simp only [List.length_cons, List.length_nil]
   omega
  rw [if_neg hlen]
  have hs : strOfNums (decL n.natAbs) = ⟨(Lib.decDigits n.natAbs).toArray⟩ := by
   unfold strOfNums
   rw [decL_bytes _ hpos]
  rw [hs]
  by_cases hn : n < 0
  ·rw [if_pos hn, if_pos hn]
   apply ByteArray.ext
   rw [ByteArray.data_append]
   simp
  ·rw [if_neg hn, if_neg hn]
   have : n.toNat = n.natAbs := by omega
   rw [this]
def dec (n : Int) : ByteArray := ⟨(Lib.itoa n).toArray⟩
theorem dec_spec (n : Int) (h0 : -9223372036854775808 ≤ n) (h1 : n ≤ 9223372036854775807) : Ev (fun k => spec_l01Dec.f k n) (dec n) := by
 have := dec_loop n 20 n.natAbs [] n (by omega) (by omega) (by simp) (by omega)
 rw [List.append_nil, finD_itoa] at this
 exact this
theorem dec_size (n : Int) (h0 : -9223372036854775808 ≤ n) (h1 : n ≤ 9223372036854775807) : (dec n).size ≤ 21 := by
 have := Lib.itoa_length_le n h0 h1
 show (Lib.itoa n).toArray.size ≤ 21
 rw [List.size_toArray]
 exact this
theorem dec_impl (n : Int) (h0 : -9223372036854775808 ≤ n) (h1 : n ≤ 9223372036854775807) : impl_Decimal.f n = some (dec n) := by
 unfold impl_Decimal.f strconv_FormatInt.f
 rw [if_pos ⟨rfl, h0, h1⟩]
 rfl
theorem bt_bd (s : ByteArray) (i : Int) : 0 ≤ bt s i ∧ bt s i ≤ 255 := by
 unfold bt
 split
 ·have := (s[i.toNat]).toNat_lt
  omega
 ·omega
theorem sum_same (s : ByteArray) : ∀ (k : Nat) (a i : Int), impl_SumOf.l0 k s a i = spec_SumOf.l0 k s a i
 | 0, _, _ => rfl
 | k + 1, a, i => by
  simp only [impl_SumOf.l0, spec_SumOf.l0]
  rw [Int.mul_comm 131 a]
  split
  ·split
   ·exact sum_same s k _ _
   ·rfl
  ·rfl
theorem sum_ev (s : ByteArray) (h : s.size ≤ 140737488351232) : ∃ v, (0 ≤ v ∧ v < 9973) ∧ Ev (fun k => spec_SumOf.f k s) v := by
 refine for_ev s.size (fun k (a : Int) i => spec_SumOf.l0 k s a i) (fun _ a => 0 ≤ a ∧ a < 9973) (fun v => 0 ≤ v ∧ v < 9973) (fun i a hi ha => .inl ⟨Int.tmod (a * 131 + bt s i + 1) 9973, ?_, 0, fun k _ => ?_⟩) (fun a ha => ⟨a, ha, Ev.const fun k => ?_⟩) s.size 0 7 (by omega) (by omega)
 ·have hb := bt_bd s i
  rw [tmod_nn (by omega)]
  omega
 ·have hb := bt_bd s i
  simp only [spec_SumOf.l0]
  rw [if_pos (by omega), if_pos (by omega), w64 (x := a * 131) (by omega) (by omega), w64 (x := bt s i) (by omega) (by omega), w64 (x := a * 131 + bt s i) (by omega) (by omega), w64 (x := a * 131 + bt s i + 1) (by omega) (by omega), w64 (x := (i : Int) + 1) (by omega) (by omega)]
 ·simp only [spec_SumOf.l0]
  rw [if_neg (by omega)]
theorem frame_both (f0 : Int) (f1 f2 : ByteArray) (h0 : 0 ≤ f0 ∧ f0 ≤ 20000) (h1 : f1.size ≤ 12) (h2 : f2.size ≤ 60) :
  ∃ v, (0 ≤ v ∧ v < 9973) ∧ Ev (fun k => spec_l27Frame.g k f0 f1 f2) (frameText (dec (frameBody (dec f0) f1 f2).size) (frameBody (dec f0) f1 f2) (dec v)) ∧ Ev (fun k => impl_SumOf.f k (frameBody (dec f0) f1 f2)) v := by
 have hz : (frameBody (dec f0) f1 f2).size = (dec f0).size + 1 + f1.size + 1 + f2.size := by unfold frameBody; simp only [ByteArray.size_append]; rfl
 have s1 := dec_size f0 (by omega) (by omega)
 obtain ⟨v, hv, hs⟩ := sum_ev (frameBody (dec f0) f1 f2) (by omega)
 refine ⟨v, hv, ?_, ?_⟩
 ·obtain ⟨K1, g1⟩ := Ev.pick (dec_spec f0 (by omega) (by omega))
  obtain ⟨K2, g2⟩ := Ev.pick (dec_spec ((frameBody (dec f0) f1 f2).size : Int) (by omega) (by omega))
  obtain ⟨K3, g3⟩ := Ev.pick hs
  obtain ⟨K4, g4⟩ := Ev.pick (dec_spec v (by omega) (by omega))
  have s2 := dec_size ((frameBody (dec f0) f1 f2).size : Int) (by omega) (by omega)
  have s3 := dec_size v (by omega) (by omega)
  refine Ev.intro (K1 + K2 + K3 + K4) fun k hk => ?_
  unfold spec_l27Frame.g
  rw [if_pos ⟨by omega, by omega⟩, g1 k (by omega)]
  simp only [Option.bind_some]
  rw [if_pos (by omega), g2 k (by omega)]
  simp only [Option.bind_some]
  rw [if_pos (by omega), g3 k (by omega)]
  simp only [Option.bind_some]
  rw [g4 k (by omega)]
  simp only [Option.bind_some]
  rw [if_pos (by omega)]
 ·refine Ev.congr (fun k => ?_) hs
  exact sum_same _ k 7 0
theorem frame_impl (f0 : Int) (f1 f2 : ByteArray) (h0 : 0 ≤ f0 ∧ f0 ≤ 20000) (h1 : f1.size ≤ 12) (h2 : f2.size ≤ 60) (hv : entryV f0 f1 f2 = true) (v : Int) (hv0 : 0 ≤ v ∧ v < 9973) (hs : Ev (fun k => impl_SumOf.f k (frameBody (dec f0) f1 f2)) v) :
  Ev (fun k => impl_FrameOf.f k f0 f1 f2) (frameText (dec (frameBody (dec f0) f1 f2).size) (frameBody (dec f0) f1 f2) (dec v)) := by
 obtain ⟨K1, g1⟩ := Ev.pick (entry_impl f0 f1 f2 (by omega))
 obtain ⟨K2, g2⟩ := Ev.pick hs
 have s1 : (dec f0).size ≤ 21 := dec_size f0 (by omega) (by omega)
 have hz : (frameBody (dec f0) f1 f2).size = (dec f0).size + 1 + f1.size + 1 + f2.size := by unfold frameBody; simp only [ByteArray.size_append]; rfl
 have d1 : impl_Decimal.f f0 = some (dec f0) := dec_impl f0 (by omega) (by omega)
 have d2 : impl_Decimal.f ((frameBody (dec f0) f1 f2).size : Int) = some (dec (frameBody (dec f0) f1 f2).size) := dec_impl _ (by omega) (by omega)
 have d3 : impl_Decimal.f v = some (dec v) := dec_impl v (by omega) (by omega)
 have s2 : (dec (frameBody (dec f0) f1 f2).size).size ≤ 21 := dec_size _ (by omega) (by omega)
 have s3 : (dec v).size ≤ 21 := dec_size v (by omega) (by omega)
 generalize hu : dec (frameBody (dec f0) f1 f2).size = u at *
 generalize dec v = x at *
 refine Ev.intro (K1 + K2) fun k hk => ?_
 have e2 := g2 k (by omega)
 generalize dec f0 = t at *
 unfold frameBody at *
 unfold impl_FrameOf.f
 rw [g1 k (by omega), hv]
 simp only [Option.bind_some, if_true]
 rw [d1]
 simp only [Option.bind_some]
 have z : ∀ b : UInt8, (⟨#[b]⟩ : ByteArray).size = 1 := fun _ => rfl
 rw [if_pos (by omega), if_pos (by simp only [ByteArray.size_append, z]; omega), if_pos (by simp only [ByteArray.size_append, z]; omega), if_pos (by simp only [ByteArray.size_append, z]; omega), d2]
 simp only [Option.bind_some]
 rw [if_pos (by omega), if_pos (by simp only [ByteArray.size_append, z]; omega), if_pos (by simp only [ByteArray.size_append, z]; omega), e2]
 simp only [Option.bind_some]
 rw [d3]
 simp only [Option.bind_some]
 rw [if_pos (by simp only [ByteArray.size_append, z]; omega), if_pos (by simp only [ByteArray.size_append, z]; omega)]
 rfl
theorem entry_bd {f0 : Int} {f1 f2 : ByteArray} (h : entryV f0 f1 f2 = true) : (0 ≤ f0 ∧ f0 ≤ 20000) ∧ f1.size ≤ 12 ∧ f2.size ≤ 60 := by
 unfold entryV isNameB at h
 simp only [Bool.and_eq_true, decide_eq_true_eq] at h
 exact ⟨h.1, h.2.1.1.2.1, h.2.2.2⟩
theorem bt_list (s : ByteArray) (i : Nat) (h : i < s.data.toList.length) : bt s (i : Int) = ((s.data.toList[i]).toNat : Int) := by
 unfold bt
 have h2 : i < s.size := by simpa using h
 rw [dif_pos (by simpa using h2)]
 rfl
theorem size_list (s : ByteArray) : s.size = s.data.toList.length := by rw [Array.length_toList]; rfl
theorem bytes_ext {a b : ByteArray} (h : a.data.toList = b.data.toList) : a = b := by
 have h3 : a.data = b.data := Array.toList_inj.mp h
 cases a; cases b; exact congrArg ByteArray.mk h3
theorem toList_iff {a b : ByteArray} : a.toList = b.toList ↔ a = b := by
 constructor
 ·intro h
  rw [ByteArray.toList_eq, ByteArray.toList_eq] at h
  exact bytes_ext h
 ·intro h; rw [h]
def valL (l : List UInt8) : Int := l.foldl (fun a b => 10 * a + ((b.toNat : Int) - 48)) 0
theorem valL_snoc (l : List UInt8) (b : UInt8) : valL (l ++ [b]) = 10 * valL l + ((b.toNat : Int) - 48) := by unfold valL; rw [List.foldl_append]; rfl
def valD (t : ByteArray) (i : Nat) : Int := valL (t.data.toList.take i)
theorem valD_succ (t : ByteArray) (i : Nat) (h : i < t.size) : valD t (i + 1) = 10 * valD t i + (bt t (i : Int) - 48) := by
 have h2 : i < t.data.toList.length := by rw [← size_list]; exact h
 unfold valD
 rw [List.take_succ_eq_append_getElem h2, valL_snoc, bt_list t i h2]
def digitB (b : Int) : Bool := decide (48 ≤ b ∧ b ≤ 57)
def allD (t : ByteArray) : Bool := (List.range t.size).all fun i => digitB (bt t (i : Int))
theorem valD_bd (t : ByteArray) : ∀ (i : Nat), i ≤ t.size → (∀ j, j < i → digitB (bt t (j : Int)) = true) → 0 ≤ valD t i ∧ valD t i < (10 ^ i : Nat)
 | 0, _, _ => by simp [valD, valL]
 | i + 1, hi, hd => by
  have ih := valD_bd t i (by omega) (fun j hj => hd j (by omega))
  have h := of_decide_eq_true (hd i (by omega))
  rw [valD_succ t i (by omega), Nat.pow_succ]
  omega
theorem pow_le18 {i : Nat} (h : i ≤ 18) : 10 ^ i ≤ 1000000000000000000 := by
 have := Nat.pow_le_pow_right (n := 10) (by omega) h
 simpa using this
def bare (s : ByteArray) : ByteArray := if 0 < s.size ∧ bt s 0 = 45 then s.extract 1 s.size else s
theorem bare_size (s : ByteArray) : (bare s).size ≤ s.size := by
 unfold bare
 split
 ·rw [ByteArray.size_extract]; omega
 ·exact Nat.le_refl _
def numAt (s : ByteArray) (n : Int) : Int × Bool := if dec n = s then (n, true) else (0, false)
def numEnd (s t : ByteArray) : Int × Bool := numAt s (if t.size < s.size then -valD t t.size else valD t t.size)
def numV (s : ByteArray) : Int × Bool := if (bare s).size < 1 ∨ 18 < (bare s).size then (0, false) else if allD (bare s) = true then numEnd s (bare s) else (0, false)
theorem numAt_bd {s : ByteArray} {n : Int} (h0 : -1000000000000000000 ≤ n) (h1 : n ≤ 1000000000000000000) : -1000000000000000000 ≤ (numAt s n).1 ∧ (numAt s n).1 ≤ 1000000000000000000 := by
 unfold numAt
 by_cases c : dec n = s
 ·rw [if_pos c]; exact ⟨h0, h1⟩
 ·rw [if_neg c]; simp
theorem numV_bd (s : ByteArray) : -1000000000000000000 ≤ (numV s).1 ∧ (numV s).1 ≤ 1000000000000000000 := by
 unfold numV
 by_cases c : (bare s).size < 1 ∨ 18 < (bare s).size
 ·rw [if_pos c]; simp
 ·rw [if_neg c]
  by_cases c2 : allD (bare s) = true
  ·rw [if_pos c2]
   have h := valD_bd (bare s) (bare s).size (Nat.le_refl _) (fun j hj => List.all_eq_true.1 c2 j (List.mem_range.2 hj))
   have hp := pow_le18 (i := (bare s).size) (by omega)
   unfold numEnd
   split
   ·exact numAt_bd (by omega) (by omega)
   ·exact numAt_bd (by omega) (by omega)
  ·rw [if_neg c2]; simp
theorem dec_digits {u : Nat} : ∀ b ∈ Lib.decDigits u, 48 ≤ b.toNat ∧ b.toNat ≤ 57 := by
 induction u using Nat.strongRecOn with
 | _ u ih =>
  intro b hb
  rw [Lib.decDigits] at hb
  split at hb
  ·rename_i h10
   rw [List.mem_singleton] at hb
   subst hb
   rw [UInt8.toNat_ofNat']
   omega
  ·rename_i h10
   rw [List.mem_append] at hb
   rcases hb with hb | hb
   ·exact ih (u / 10) (by omega) b hb
   ·rw [List.mem_singleton] at hb
    subst hb
    rw [UInt8.toNat_ofNat']
    omega
theorem dec_val (u : Nat) : valL (Lib.decDigits u) = u := by
 induction u using Nat.strongRecOn with
 | _ u ih =>
  rw [Lib.decDigits]
  split
  ·rename_i h10
   show 10 * 0 + (((UInt8.ofNat (48 + u)).toNat : Int) - 48) = u
   rw [UInt8.toNat_ofNat']
   omega
  ·rename_i h10
   rw [valL_snoc, ih (u / 10) (by omega), UInt8.toNat_ofNat']
   omega
theorem nDigits_le : ∀ (m u : Nat), u < 10 ^ (m + 1) → Lib.nDigits u ≤ m + 1
 | 0, u, h => by rw [Lib.nDigits_small (by simpa using h)]; omega
 | m + 1, u, h => by
  by_cases h10 : u < 10
  ·rw [Lib.nDigits_small h10]; omega
  ·rw [Lib.nDigits_big h10]
   rw [Nat.pow_succ] at h
   have := nDigits_le m (u / 10) (by omega)
   omega
theorem numV_dec (n : Nat) (h : n < 1000000000000000000) : numV (dec (n : Int)) = ((n : Int), true) := by
 have hl : (dec (n : Int)).data.toList = Lib.decDigits n := by
  show (Lib.itoa (n : Int)).toArray.toList = _
  rw [Lib.itoa_nonneg]
 have hsz : (dec (n : Int)).size = Lib.nDigits n := by rw [size_list, hl, Lib.decDigits_length]
 have hn18 := nDigits_le 17 n (by omega)
 have hn1 := Lib.nDigits_pos n
 have hd : ∀ j, j < (dec (n : Int)).size → digitB (bt (dec (n : Int)) (j : Int)) = true := by
  intro j hj
  have hj2 : j < (dec (n : Int)).data.toList.length := by rw [← size_list]; exact hj
  rw [bt_list _ j hj2]
  have := dec_digits (u := n) ((dec (n : Int)).data.toList[j]) (by rw [← hl]; exact List.getElem_mem hj2)
  exact decide_eq_true (by omega)
 have hb : bare (dec (n : Int)) = dec (n : Int) := by
  unfold bare
  rw [if_neg]
  rintro ⟨g0, g1⟩
  have := of_decide_eq_true (hd 0 g0)
  rw [show ((0 : Nat) : Int) = 0 from rfl] at this
  omega
 have hv : valD (dec (n : Int)) (dec (n : Int)).size = n := by
  unfold valD
  rw [size_list, List.take_length, hl, dec_val]
 unfold numV
 rw [hb, if_neg (by omega), if_pos (show allD (dec (n : Int)) = true from List.all_eq_true.2 fun j hj => hd j (List.mem_range.1 hj))]
 unfold numEnd numAt
 rw [if_neg (Nat.lt_irrefl _), hv, if_pos rfl]
theorem digit_spec (b : Int) : spec_l01Digit.f b = some (digitB b) := by
 unfold spec_l01Digit.f digitB
 by_cases h : b ≥ 48
 ·rw [if_pos h]; congr 1; apply Bool.eq_iff_iff.mpr; simp; omega
 ·rw [if_neg h]; congr 1; symm; simp; omega
theorem num_loop_spec (s t : ByteArray) (h18 : t.size ≤ 18) (hts : t.size ≤ s.size) : Ev (fun k => spec_l01Number.l0 k s t 0 0) (if allD t = true then numEnd s t else (0, false)) := by
 have key : ∀ (d i : Nat), i + d = t.size → (∀ j, j < i → digitB (bt t (j : Int)) = true) → Ev (fun k => spec_l01Number.l0 k s t (valD t i) i) (if allD t = true then numEnd s t else (0, false)) := by
  intro d
  induction d with
  | zero =>
   intro i hi hd
   obtain rfl : i = t.size := by omega
   have ha : allD t = true := List.all_eq_true.2 fun j hj => hd j (List.mem_range.1 hj)
   have hb := valD_bd t t.size (Nat.le_refl _) hd
   have hp := pow_le18 h18
   rw [if_pos ha]
   unfold numEnd numAt
   by_cases c : t.size < s.size
   ·rw [if_pos c]
    obtain ⟨K, hK⟩ := Ev.pick (dec_spec (-valD t t.size) (by omega) (by omega))
    refine Ev.step (f := fun k => (spec_l01Dec.f k (-valD t t.size)).bind fun t117 => if t117.toList = s.toList then some (-valD t t.size, true) else some (0, false)) (fun k => ?_) (Ev.intro K fun k hk => ?_)
    ·simp only [spec_l01Number.l0]
     rw [if_neg (by omega), if_pos (by omega), w64 (x := -valD t t.size) (by omega) (by omega)]
    ·rw [hK k hk]
     simp only [Option.bind_some, toList_iff]
     split <;> rfl
   ·rw [if_neg c]
    obtain ⟨K, hK⟩ := Ev.pick (dec_spec (valD t t.size) (by omega) (by omega))
    refine Ev.step (f := fun k => (spec_l01Dec.f k (valD t t.size)).bind fun t117 => if t117.toList = s.toList then some (valD t t.size, true) else some (0, false)) (fun k => ?_) (Ev.intro K fun k hk => ?_)
    ·simp only [spec_l01Number.l0]
     rw [if_neg (by omega), if_neg (by omega)]
    ·rw [hK k hk]
     simp only [Option.bind_some, toList_iff]
     split <;> rfl
  | succ d ih =>
   intro i hi hd
   have hb := valD_bd t i (by omega) hd
   have hp := pow_le18 (i := i) (by omega)
   have hr := bt_range t (i : Int)
   cases hdi : digitB (bt t (i : Int)) with
   | true =>
    have hdig := of_decide_eq_true hdi
    have ih2 := ih (i + 1) (by omega) (fun j hj => by
     by_cases e : j = i
     ·subst e; exact hdi
     ·exact hd j (by omega))
    refine Ev.step (fun k => ?_) ih2
    simp only [spec_l01Number.l0]
    rw [if_pos (by omega), if_pos (by omega), digit_spec, hdi]
    simp only [Option.bind_some, if_true]
    have hps : (10 ^ i : Nat) ≤ 100000000000000000 := by
     have := Nat.pow_le_pow_right (n := 10) (by omega) (show i ≤ 17 by omega)
     simpa using this
    rw [valD_succ t i (by omega), mod256 (by omega) (by omega), w64 (x := 10 * valD t i) (by omega) (by omega), w64 (x := 10 * valD t i + _) (by omega) (by omega), w64 (x := (i : Int) + 1) (by omega) (by omega)]
    rfl
   | false =>
    have ha : ¬ allD t = true := fun g => by
     have := List.all_eq_true.1 g i (List.mem_range.2 (by omega))
     rw [hdi] at this
     cases this
    rw [if_neg ha]
    refine Ev.const fun k => ?_
    simp only [spec_l01Number.l0]
    rw [if_pos (by omega), if_pos (by omega), digit_spec, hdi]
    rfl
 exact key t.size 0 (by omega) (fun j hj => absurd hj (Nat.not_lt_zero _))
theorem num_spec (s : ByteArray) (hs : s.size ≤ 140737488351232) : Ev (fun k => spec_l01Number.f k s) (numV s) := by
 have tail : ∀ t : ByteArray, t.size ≤ s.size → Ev (fun k => spec_l01Number.j1 k s t) (if t.size < 1 ∨ 18 < t.size then (0, false) else if allD t = true then numEnd s t else (0, false)) := by
  intro t ht
  by_cases c1 : t.size < 1
  ·rw [if_pos (.inl c1)]
   refine Ev.intro 2 fun k hk => ?_
   obtain ⟨m, rfl⟩ : ∃ m, k = m + 2 := ⟨k - 2, by omega⟩
   simp only [spec_l01Number.j1]
   rw [if_pos (by omega)]
   simp only [spec_l01Number.j2, if_true]
  ·by_cases c2 : 18 < t.size
   ·rw [if_pos (.inr c2)]
    refine Ev.intro 2 fun k hk => ?_
    obtain ⟨m, rfl⟩ : ∃ m, k = m + 2 := ⟨k - 2, by omega⟩
    simp only [spec_l01Number.j1]
    rw [if_neg (by omega), decide_eq_true (by omega)]
    simp only [spec_l01Number.j2, if_true]
   ·rw [if_neg (by omega)]
    refine Ev.step (f := fun k => spec_l01Number.j2 k s t false) (fun k => ?_) (Ev.step (fun k => ?_) (num_loop_spec s t (by omega) ht))
    ·simp only [spec_l01Number.j1]
     rw [if_neg (by omega), decide_eq_false (by omega)]
    ·simp only [spec_l01Number.j2, Bool.false_eq_true, if_false]
 unfold numV
 by_cases h0 : s.size = 0
 ·have hb : bare s = s := by unfold bare; rw [if_neg (by omega)]
  have hn : s.toList = ([] : List UInt8) := List.eq_nil_of_length_eq_zero (by rw [size_toList, h0])
  rw [hb]
  refine Ev.congr (f := fun k => spec_l01Number.j0 k s s false) (fun k => ?_) (Ev.step (fun k => ?_) (tail s (Nat.le_refl _)))
  ·unfold spec_l01Number.f
   rw [if_pos hn]
  ·simp only [spec_l01Number.j0, Bool.false_eq_true, if_false]
 ·have hn : ¬ s.toList = ([] : List UInt8) := fun g => h0 (by rw [← size_toList, g]; rfl)
  refine Ev.congr (f := fun k => spec_l01Number.j0 k s s (bt s 0 == 45)) (fun k => ?_) ?_
  ·unfold spec_l01Number.f
   rw [if_neg hn, if_pos (by omega)]
  ·by_cases h45 : bt s 0 = 45
   ·have hb : bare s = s.extract 1 s.size := by unfold bare; rw [if_pos ⟨by omega, h45⟩]
    have he : (bt s 0 == 45) = true := by simpa using h45
    rw [he]
    refine Ev.step (fun k => ?_) (tail (bare s) (bare_size s))
    rw [hb]
    simp only [spec_l01Number.j0, if_true]
    rw [if_pos (by omega)]
   ·have hb : bare s = s := by unfold bare; rw [if_neg (fun g => h45 g.2)]
    have he : (bt s 0 == 45) = false := by simpa using h45
    rw [hb, he]
    refine Ev.step (fun k => ?_) (tail s (Nat.le_refl _))
    simp only [spec_l01Number.j0, Bool.false_eq_true, if_false]
theorem num_loop_impl (s t : ByteArray) (h18 : t.size ≤ 18) (hts : t.size ≤ s.size) : Ev (fun k => impl_ReadDecimal.l0 k s t 0 0) (if allD t = true then numEnd s t else (0, false)) := by
 have key : ∀ (d i : Nat), i + d = t.size → (∀ j, j < i → digitB (bt t (j : Int)) = true) → Ev (fun k => impl_ReadDecimal.l0 k s t (valD t i) i) (if allD t = true then numEnd s t else (0, false)) := by
  intro d
  induction d with
  | zero =>
   intro i hi hd
   obtain rfl : i = t.size := by omega
   have ha : allD t = true := List.all_eq_true.2 fun j hj => hd j (List.mem_range.1 hj)
   have hb := valD_bd t t.size (Nat.le_refl _) hd
   have hp := pow_le18 h18
   rw [if_pos ha]
   unfold numEnd numAt
   by_cases c : t.size < s.size
   ·rw [if_pos c]
    refine Ev.const fun k => ?_
    simp only [impl_ReadDecimal.l0]
    rw [if_neg (by omega), if_pos (by omega), w64 (x := -valD t t.size) (by omega) (by omega), dec_impl (-valD t t.size) (by omega) (by omega)]
    simp only [Option.bind_some, toList_iff]
    split <;> rfl
   ·rw [if_neg c]
    refine Ev.const fun k => ?_
    simp only [impl_ReadDecimal.l0]
    rw [if_neg (by omega), if_neg (by omega), dec_impl (valD t t.size) (by omega) (by omega)]
    simp only [Option.bind_some, toList_iff]
    split <;> rfl
  | succ d ih =>
   intro i hi hd
   have hb := valD_bd t i (by omega) hd
   have hp := pow_le18 (i := i) (by omega)
   have hr := bt_range t (i : Int)
   cases hdi : digitB (bt t (i : Int)) with
   | true =>
    have hdig := of_decide_eq_true hdi
    have ih2 := ih (i + 1) (by omega) (fun j hj => by
     by_cases e : j = i
     ·subst e; exact hdi
     ·exact hd j (by omega))
    refine Ev.step (fun k => ?_) ih2
    simp only [impl_ReadDecimal.l0]
    rw [if_pos (by omega), if_pos (by omega), if_neg (by omega), if_neg (by omega)]
    have hps : (10 ^ i : Nat) ≤ 100000000000000000 := by
     have := Nat.pow_le_pow_right (n := 10) (by omega) (show i ≤ 17 by omega)
     simpa using this
    rw [valD_succ t i (by omega), mod256 (by omega) (by omega), w64 (x := 10 * valD t i) (by omega) (by omega), w64 (x := 10 * valD t i + _) (by omega) (by omega), w64 (x := (i : Int) + 1) (by omega) (by omega)]
    rfl
   | false =>
    have ha : ¬ allD t = true := fun g => by
     have := List.all_eq_true.1 g i (List.mem_range.2 (by omega))
     rw [hdi] at this
     cases this
    rw [if_neg ha]
    have hdig := of_decide_eq_false hdi
    refine Ev.const fun k => ?_
    simp only [impl_ReadDecimal.l0]
    rw [if_pos (by omega), if_pos (by omega)]
    by_cases c : bt t (i : Int) < 48
    ·rw [if_pos c]
    ·rw [if_neg c, if_pos (by omega)]
 exact key t.size 0 (by omega) (fun j hj => absurd hj (Nat.not_lt_zero _))
theorem prefix_one (s : ByteArray) : strings_TrimPrefix.f s (⟨#[45]⟩ : ByteArray) = some (bare s) := by
 unfold strings_TrimPrefix.f stringslite_TrimPrefix.f stringslite_HasPrefix.f
 have z : (⟨#[45]⟩ : ByteArray).size = 1 := rfl
 rw [z]
 by_cases h0 : s.size = 0
 ·rw [if_neg (by omega)]
  simp only [Option.bind_some, Bool.false_eq_true, if_false]
  unfold bare
  rw [if_neg (by omega)]
 ·rw [if_pos (by omega), if_pos (by omega), if_pos (by omega)]
  simp only [Option.bind_some]
  have e1 : ((1 : Nat) : Int).toNat = 1 := rfl
  rw [e1]
  have hl : 0 < s.data.toList.length := by rw [← size_list]; omega
  have hb0 := bt_list s 0 hl
  have key : (((s.extract 0 1).toList == (⟨#[45]⟩ : ByteArray).toList) = true) ↔ bt s 0 = 45 := by
   rw [beq_iff_eq, toList_iff]
   have hx : (s.extract 0 1).data.toList = [s.data.toList[0]] := by
    rw [Lib.extract_data]
    rw [List.drop_zero, Nat.sub_zero, List.take_succ_eq_append_getElem hl, List.take_zero]
    rfl
   rw [show (0 : Int) = ((0 : Nat) : Int) from rfl, hb0]
   constructor
   ·intro g
    rw [g] at hx
    have h2 : [(45 : UInt8)] = [s.data.toList[0]] := hx
    have h3 : (45 : UInt8) = s.data.toList[0] := by simpa using h2
    rw [← h3]; rfl
   ·intro g
    apply bytes_ext
    rw [hx]
    show [s.data.toList[0]] = [(45 : UInt8)]
    have h3 : s.data.toList[0] = 45 := UInt8.toNat_inj.mp (by
     have : (s.data.toList[0]).toNat = 45 := by omega
     rw [this]; rfl)
    rw [h3]
  unfold bare
  by_cases h45 : bt s 0 = 45
  ·have hb := key.mpr h45
   rw [hb]
   simp only [if_true]
   rw [if_pos (by omega), if_pos (by omega), if_pos ⟨by omega, h45⟩]
   rfl
  ·have hb : ((s.extract 0 1).toList == (⟨#[45]⟩ : ByteArray).toList) = false := Bool.eq_false_iff.mpr fun g => h45 (key.mp g)
   rw [hb]
   simp only [Bool.false_eq_true, if_false]
   rw [if_neg (fun g => h45 g.2)]
   rfl
theorem num_impl (s : ByteArray) (hs : s.size ≤ 140737488351232) : Ev (fun k => impl_ReadDecimal.f k s) (numV s) := by
 have ht := bare_size s
 unfold numV
 have h1 : ∀ k, impl_ReadDecimal.f k s = if ((bare s).size : Int) < 1 then impl_ReadDecimal.j0 k s (bare s) true else impl_ReadDecimal.j0 k s (bare s) (decide (((bare s).size : Int) > 18)) := by
  intro k
  unfold impl_ReadDecimal.f
  rw [prefix_one]
  rfl
 generalize bare s = t at *
 by_cases c1 : t.size < 1
 ·rw [if_pos (.inl c1)]
  refine Ev.const fun k => ?_
  rw [h1, if_pos (by omega)]
  simp only [impl_ReadDecimal.j0, if_true]
 ·by_cases c2 : 18 < t.size
  ·rw [if_pos (.inr c2)]
   refine Ev.const fun k => ?_
   rw [h1, if_neg (by omega), decide_eq_true (by omega)]
   simp only [impl_ReadDecimal.j0, if_true]
  ·rw [if_neg (by omega)]
   refine Ev.step (fun k => ?_) (num_loop_impl s t (by omega) ht)
   rw [h1, if_neg (by omega), decide_eq_false (by omega)]
   simp only [impl_ReadDecimal.j0, Bool.false_eq_true, if_false]
def sumS (s : ByteArray) : Int := s.data.toList.foldl (fun a b => Int.tmod (a * 131 + (b.toNat : Int) + 1) 9973) 7
theorem sumS_bd (s : ByteArray) : 0 ≤ sumS s ∧ sumS s < 9973 := by
 unfold sumS
 have : ∀ (l : List UInt8) (a : Int), 0 ≤ a ∧ a < 9973 → 0 ≤ l.foldl (fun a b => Int.tmod (a * 131 + (b.toNat : Int) + 1) 9973) a ∧ l.foldl (fun a b => Int.tmod (a * 131 + (b.toNat : Int) + 1) 9973) a < 9973 := by
  intro l
  induction l with
  | nil => exact fun a h => h
  | cons b l ih =>
   intro a h
   rw [List.foldl_cons]
   refine ih _ ?_
   rw [tmod_nn (by omega)]
   omega
 exact this _ 7 (by omega)
theorem sum_spec (s : ByteArray) (h : s.size ≤ 140737488351232) : Ev (fun k => spec_SumOf.f k s) (sumS s) := by
 have hb := fun (i : Nat) => bt_range s (i : Int)
 have hbd : ∀ (l : List UInt8) (a : Int), 0 ≤ a ∧ a < 9973 → 0 ≤ l.foldl (fun a b => Int.tmod (a * 131 + (b.toNat : Int) + 1) 9973) a ∧ l.foldl (fun a b => Int.tmod (a * 131 + (b.toNat : Int) + 1) 9973) a < 9973 := by
  intro l
  induction l with
  | nil => exact fun a h => h
  | cons b l ih =>
   intro a h
   rw [List.foldl_cons]
   refine ih _ ?_
   rw [tmod_nn (by omega)]
   omega
 have := for_to s.size (fun k (a : Int) i => spec_SumOf.l0 k s a i) (fun i => (s.data.toList.take i).foldl (fun a b => Int.tmod (a * 131 + (b.toNat : Int) + 1) 9973) 7) (sumS s) (fun i hi => ⟨0, fun k _ => ?_⟩) (Ev.const fun k => ?_) s.size 0 (by omega)
 ·exact this
 ·have hb1 := hb i
  have ha := hbd (s.data.toList.take i) 7 (by omega)
  have h2 : i < s.data.toList.length := by rw [← size_list]; exact hi
  simp only [spec_SumOf.l0]
  rw [if_pos (by omega), if_pos (by omega), List.take_succ_eq_append_getElem h2, List.foldl_append, bt_list s i h2]
  rw [bt_list s i h2] at hb1
  generalize (s.data.toList.take i).foldl (fun a b => Int.tmod (a * 131 + (b.toNat : Int) + 1) 9973) 7 = a at ha ⊢
  rw [w64 (x := a * 131) (by omega) (by omega), w64 (x := ((s.data.toList[i]).toNat : Int)) (by omega) (by omega), w64 (x := a * 131 + _) (by omega) (by omega), w64 (x := a * 131 + _ + 1) (by omega) (by omega), w64 (x := (i : Int) + 1) (by omega) (by omega)]
  rfl
 ·simp only [spec_SumOf.l0]
  rw [if_neg (by omega), size_list, List.take_length]
  rfl
theorem sum_impl (s : ByteArray) (h : s.size ≤ 140737488351232) : Ev (fun k => impl_SumOf.f k s) (sumS s) := Ev.congr (fun k => sum_same s k 7 0) (sum_spec s h)
def bodyV (f0 : Int) (f1 f2 : ByteArray) : ByteArray := frameBody (dec f0) f1 f2
def frV (f0 : Int) (f1 f2 : ByteArray) : ByteArray := frameText (dec (bodyV f0 f1 f2).size) (bodyV f0 f1 f2) (dec (sumS (bodyV f0 f1 f2)))
theorem body_size (f0 : Int) (f1 f2 : ByteArray) : (bodyV f0 f1 f2).size = (dec f0).size + 1 + f1.size + 1 + f2.size := by unfold bodyV frameBody; simp only [ByteArray.size_append]; rfl
theorem frV_spec {f0 : Int} {f1 f2 : ByteArray} (hv : entryV f0 f1 f2 = true) : Ev (fun k => spec_l27Frame.g k f0 f1 f2) (frV f0 f1 f2) := by
 obtain ⟨a0, a1, a2⟩ := entry_bd hv
 obtain ⟨v, hv0, hg, hs⟩ := frame_both f0 f1 f2 a0 a1 a2
 have s1 := dec_size f0 (by omega) (by omega)
 have hz := body_size f0 f1 f2
 have e : v = sumS (bodyV f0 f1 f2) := Ev.one hs (sum_impl (bodyV f0 f1 f2) (by omega))
 subst e
 exact hg
theorem frV_impl {f0 : Int} {f1 f2 : ByteArray} (hv : entryV f0 f1 f2 = true) : Ev (fun k => impl_FrameOf.f k f0 f1 f2) (frV f0 f1 f2) := by
 obtain ⟨a0, a1, a2⟩ := entry_bd hv
 have s1 := dec_size f0 (by omega) (by omega)
 have hz := body_size f0 f1 f2
 exact frame_impl f0 f1 f2 a0 a1 a2 hv _ (sumS_bd _) (sum_impl (bodyV f0 f1 f2) (by omega))
theorem frV_none {f0 : Int} {f1 f2 : ByteArray} (hv : entryV f0 f1 f2 = false) (h2 : f2.size ≤ 140737488351232) : Ev (fun k => impl_FrameOf.f k f0 f1 f2) (⟨#[]⟩ : ByteArray) := by
 obtain ⟨K2, g2⟩ := Ev.pick (entry_impl f0 f1 f2 h2)
 refine Ev.intro K2 fun k hk => ?_
 unfold impl_FrameOf.f
 rw [g2 k hk, hv]
 rfl
theorem app_list (a b : ByteArray) : (a ++ b).data.toList = a.data.toList ++ b.data.toList := by rw [ByteArray.data_append, Array.toList_append]
theorem ext_list (s : ByteArray) (i j : Nat) : (s.extract i j).data.toList = (s.data.toList.drop i).take (j - i) := Lib.extract_data s i j
theorem dec_list (n : Nat) : (dec (n : Int)).data.toList = Lib.decDigits n := by
 show (Lib.itoa (n : Int)).toArray.toList = _
 rw [Lib.itoa_nonneg]
theorem body_list (d : Nat) (f1 f2 : ByteArray) : (bodyV (d : Int) f1 f2).data.toList = Lib.decDigits d ++ 32 :: (f1.data.toList ++ 32 :: f2.data.toList) := by
 unfold bodyV frameBody
 rw [app_list, app_list, app_list, app_list, dec_list]
 simp
def Pre (r s : ByteArray) : Prop := ∃ l, s.data.toList = r.data.toList ++ l
theorem pre_size {r s : ByteArray} (h : Pre r s) : r.size ≤ s.size := by
 obtain ⟨l, h⟩ := h
 rw [size_list, size_list, h, List.length_append]
 omega
theorem pre_iff (r s : ByteArray) : (r.size ≤ s.size ∧ ((s.extract 0 r.size).toList == r.toList) = true) ↔ Pre r s := by
 rw [beq_iff_eq, toList_iff]
 constructor
 ·rintro ⟨h1, h2⟩
  have := congrArg (fun x : ByteArray => x.data.toList) h2
  simp only [ext_list, List.drop_zero, Nat.sub_zero] at this
  exact ⟨s.data.toList.drop r.size, by rw [← this, List.take_append_drop]⟩
 ·intro h
  refine ⟨pre_size h, bytes_ext ?_⟩
  obtain ⟨l, h⟩ := h
  rw [ext_list, List.drop_zero, Nat.sub_zero, h, size_list, List.take_left]
theorem frame_list (f0 : Int) (f1 f2 : ByteArray) : ∃ e, (frV f0 f1 f2).data.toList = Lib.decDigits (bodyV f0 f1 f2).size ++ 58 :: ((bodyV f0 f1 f2).data.toList ++ e) := by
 refine ⟨35 :: ((dec (sumS (bodyV f0 f1 f2))).data.toList ++ [10]), ?_⟩
 unfold frV frameText
 rw [app_list, app_list, app_list, app_list, app_list, dec_list]
 simp
theorem digit_ne {u : Nat} {b c : UInt8} (hb : b ∈ Lib.decDigits u) (hc : c.toNat < 48 ∨ 57 < c.toNat) : ¬ b = c := by
 intro e
 have := dec_digits b hb
 subst e
 omega
theorem name_bytes {s : ByteArray} (h : isNameB s = true) : ∀ b ∈ s.data.toList, ¬ b = 32 := by
 unfold isNameB at h
 rw [Bool.and_eq_true, List.all_eq_true] at h
 intro b hb e
 obtain ⟨i, hi, rfl⟩ := List.getElem_of_mem hb
 have := h.2 i (List.mem_range.2 (by rw [size_list]; exact hi))
 rw [bt_list s i hi, e] at this
 exact absurd this (by decide)
theorem blank_at (s : ByteArray) (c : Nat) (hc : c < s.size) (hb : bt s (c : Int) = 32) : ∀ (d i : Nat), i + d = c → (∀ j, i ≤ j → j < c → ¬ bt s (j : Int) = 32) → blankFrom s i = c
 | 0, i, h, _ => by
  obtain rfl : i = c := by omega
  exact blank_here hb
 | d + 1, i, h, hn => by
  rw [blank_go (by omega) (hn i (Nat.le_refl _) (by omega))]
  exact blank_at s c hc hb d (i + 1) (by omega) (fun j h1 h2 => hn j (by omega) h2)
theorem colon_at (s : ByteArray) (c : Nat) (hb : bt s (c : Int) = 58) (hc : c < s.size) (h4 : c ≤ 4) : ∀ (d i : Nat), i + d = c → (∀ j, i ≤ j → j < c → ¬ bt s (j : Int) = 58) → colonFrom s i = c
 | 0, i, h, _ => by
  obtain rfl : i = c := by omega
  exact colon_stop fun g => g.2.2 hb
 | d + 1, i, h, hn => by
  rw [colon_go (by omega) (by omega) (hn i (Nat.le_refl _) (by omega))]
  exact colon_at s c hb hc h4 d (i + 1) (by omega) (fun j h1 h2 => hn j (by omega) h2)
theorem bt_byte {s : ByteArray} {l : List UInt8} (h : s.data.toList = l) (j : Nat) (hj : j < l.length) : bt s (j : Int) = ((l[j]).toNat : Int) := by
 subst h
 exact bt_list s j hj
theorem cut_at {s : ByteArray} {D R : List UInt8} {c : UInt8} (h : s.data.toList = D ++ c :: R) :
  D.length < s.size ∧ bt s (D.length : Int) = (c.toNat : Int) ∧ (∀ j (hj : j < D.length), bt s (j : Int) = ((D[j]).toNat : Int)) ∧ (s.extract 0 D.length).data.toList = D ∧ (∀ m, (s.extract (D.length + 1) (D.length + 1 + m)).data.toList = R.take m) ∧ s.size = D.length + 1 + R.length := by
 have hsz : s.size = D.length + 1 + R.length := by rw [size_list, h, List.length_append, List.length_cons]; omega
 refine ⟨by omega, ?_, fun j hj => ?_, ?_, fun m => ?_, hsz⟩
 ·rw [bt_byte h D.length (by rw [List.length_append, List.length_cons]; omega), List.getElem_append_right (Nat.le_refl _)]
  simp
 ·rw [bt_byte h j (by rw [List.length_append]; omega), List.getElem_append_left hj]
 ·rw [ext_list, h, List.drop_zero, Nat.sub_zero, List.take_left]
 ·rw [ext_list, h, show D.length + 1 + m - (D.length + 1) = m by omega]
  congr 1
  rw [show D ++ c :: R = (D ++ [c]) ++ R by simp, show D.length + 1 = (D ++ [c]).length by simp, List.drop_left]
theorem frame_cut {f0 : Int} {f1 f2 s : ByteArray} (hp : Pre (frV f0 f1 f2) s) : ∃ R, s.data.toList = Lib.decDigits (bodyV f0 f1 f2).size ++ 58 :: R ∧ R.take (bodyV f0 f1 f2).size = (bodyV f0 f1 f2).data.toList := by
 obtain ⟨e, he⟩ := frame_list f0 f1 f2
 obtain ⟨l, hl⟩ := hp
 refine ⟨((bodyV f0 f1 f2).data.toList ++ e) ++ l, ?_, ?_⟩
 ·rw [hl, he]; simp
 ·rw [size_list, List.append_assoc, List.take_left]
theorem body_hit {f0 : Int} {f1 f2 : ByteArray} (hv : entryV f0 f1 f2 = true) : Ev (fun k => spec_l27Body.f k (bodyV f0 f1 f2)) (f0, f1, f2, true) := by
 obtain ⟨a0, a1, a2⟩ := entry_bd hv
 obtain ⟨d, rfl⟩ : ∃ d : Nat, f0 = (d : Int) := ⟨f0.toNat, by omega⟩
 have s1 := dec_size (d : Int) (by omega) (by omega)
 have hz := body_size (d : Int) f1 f2
 have hB := body_list d f1 f2
 have hname : isNameB f1 = true := by unfold entryV at hv; simp only [Bool.and_eq_true] at hv; exact hv.2.1
 obtain ⟨c1, c2, c3, c4, c5, c6⟩ := cut_at hB
 have hB2 : (bodyV (d : Int) f1 f2).data.toList = (Lib.decDigits d ++ 32 :: f1.data.toList) ++ 32 :: f2.data.toList := by rw [hB]; simp
 obtain ⟨e1, e2, e3, e4, e5, e6⟩ := cut_at hB2
 have hlen : (Lib.decDigits d ++ 32 :: f1.data.toList).length = (Lib.decDigits d).length + 1 + f1.size := by rw [List.length_append, List.length_cons, size_list]; omega
 have hb0 : blankFrom (bodyV (d : Int) f1 f2) 0 = (Lib.decDigits d).length := blank_at _ _ c1 c2 (Lib.decDigits d).length 0 (by omega) (fun j _ hj => by
  rw [c3 j hj]
  have := dec_digits _ (List.getElem_mem hj)
  omega)
 have hb1 : blankFrom (bodyV (d : Int) f1 f2) ((Lib.decDigits d).length + 1) = (Lib.decDigits d).length + 1 + f1.size := by
  rw [← hlen]
  refine blank_at _ _ e1 e2 f1.size _ (by omega) (fun j h1 h2 => ?_)
  rw [e3 j h2]
  have hj : j - (Lib.decDigits d).length - 1 < f1.data.toList.length := by rw [← size_list]; omega
  have hx : (Lib.decDigits d ++ 32 :: f1.data.toList)[j] = f1.data.toList[j - (Lib.decDigits d).length - 1] := by
   rw [List.getElem_append_right (by omega), List.getElem_cons]
   rw [dif_neg (by omega)]
  rw [hx]
  have hne := name_bytes hname _ (List.getElem_mem hj)
  intro g
  exact hne (UInt8.toNat_inj.mp (by
   have : (f1.data.toList[j - (Lib.decDigits d).length - 1]).toNat = 32 := by omega
   rw [this]; rfl))
 have x1 : (bodyV (d : Int) f1 f2).extract 0 (Lib.decDigits d).length = dec (d : Int) := bytes_ext (by rw [c4, dec_list])
 have x2 : (bodyV (d : Int) f1 f2).extract ((Lib.decDigits d).length + 1) ((Lib.decDigits d).length + 1 + f1.size) = f1 := bytes_ext (by rw [c5, size_list, List.take_left])
 have x3 : (bodyV (d : Int) f1 f2).extract ((Lib.decDigits d).length + 1 + f1.size + 1) (bodyV (d : Int) f1 f2).size = f2 := by
  apply bytes_ext
  rw [← hlen, show (bodyV (d : Int) f1 f2).size = (Lib.decDigits d ++ 32 :: f1.data.toList).length + 1 + f2.data.toList.length from e6, e5, List.take_length]
 obtain ⟨K1, g1⟩ := Ev.pick (num_spec (dec (d : Int)) (by omega))
 obtain ⟨K2, g2⟩ := Ev.pick (one_spec (d : Int) f1 f2 (by omega))
 refine Ev.intro (K1 + K2) fun k hk => ?_
 unfold spec_l27Body.f
 rw [if_pos (by omega), hb0, hb1, if_neg (by rw [e6, hlen]; omega), x1, x2, x3, g1 k (by omega), numV_dec d (by omega)]
 simp only [Option.bind_some, if_true]
 rw [g2 k (by omega), hv]
 simp only [Option.bind_some, if_true]
theorem next_hit {f0 : Int} {f1 f2 s : ByteArray} (hv : entryV f0 f1 f2 = true) (hp : Pre (frV f0 f1 f2) s) (hs : s.size ≤ 140737488351232) : Ev (fun k => spec_l27Next.f k s) (f0, f1, f2, ((frV f0 f1 f2).size : Int), true) := by
 obtain ⟨a0, a1, a2⟩ := entry_bd hv
 have s1 := dec_size f0 (by omega) (by omega)
 have hz := body_size f0 f1 f2
 obtain ⟨R, hR, hRt⟩ := frame_cut hp
 obtain ⟨c1, c2, c3, c4, c5, c6⟩ := cut_at hR
 have hn : (Lib.decDigits (bodyV f0 f1 f2).size).length ≤ 3 := by rw [Lib.decDigits_length]; exact nDigits_le 2 _ (by omega)
 have hc : colonFrom s 0 = (Lib.decDigits (bodyV f0 f1 f2).size).length := colon_at s _ c2 c1 (by omega) (Lib.decDigits (bodyV f0 f1 f2).size).length 0 (by omega) (fun j _ hj => by
  rw [c3 j hj]
  have := dec_digits _ (List.getElem_mem hj)
  omega)
 have x1 : s.extract 0 (Lib.decDigits (bodyV f0 f1 f2).size).length = dec ((bodyV f0 f1 f2).size : Int) := bytes_ext (by rw [c4, dec_list])
 have x2 : s.extract ((Lib.decDigits (bodyV f0 f1 f2).size).length + 1) ((Lib.decDigits (bodyV f0 f1 f2).size).length + 1 + (bodyV f0 f1 f2).size) = bodyV f0 f1 f2 := bytes_ext (by rw [c5, hRt])
 have hRl : (bodyV f0 f1 f2).size ≤ R.length := by
  have := congrArg List.length hRt
  rw [List.length_take, ← size_list] at this
  omega
 obtain ⟨K1, g1⟩ := Ev.pick (num_spec (dec ((bodyV f0 f1 f2).size : Int)) (by have := dec_size ((bodyV f0 f1 f2).size : Int) (by omega) (by omega); omega))
 obtain ⟨K2, g2⟩ := Ev.pick (body_hit hv)
 obtain ⟨K3, g3⟩ := Ev.pick (frV_spec hv)
 refine Ev.intro (K1 + K2 + K3) fun k hk => ?_
 unfold spec_l27Next.f
 rw [if_pos hs, hc, x1, g1 k (by omega), numV_dec _ (by omega)]
 simp only [Option.bind_some, Int.toNat_natCast]
 rw [if_pos (by omega), if_pos ⟨trivial, by omega, by omega⟩, x2, g2 k (by omega)]
 simp only [Option.bind_some, if_true]
 rw [g3 k (by omega)]
 simp only [Option.bind_some]
 rw [if_pos ((pre_iff _ _).mpr hp)]
theorem next_any (s : ByteArray) (hs : s.size ≤ 140737488351232) : (∃ f0 f1 f2, entryV f0 f1 f2 = true ∧ Pre (frV f0 f1 f2) s) ∨ Ev (fun k => spec_l27Next.f k s) noEntry := by
 have hb := numV_bd (s.extract 0 (colonFrom s 0))
 have hx : ∀ i j, (s.extract i j).size ≤ 140737488351232 := fun i j => by rw [ByteArray.size_extract]; omega
 obtain ⟨K1, g1⟩ := Ev.pick (num_spec (s.extract 0 (colonFrom s 0)) (hx _ _))
 by_cases c : (numV (s.extract 0 (colonFrom s 0))).2 = true ∧ 1 ≤ (numV (s.extract 0 (colonFrom s 0))).1 ∧ ((colonFrom s 0 : Nat) : Int) + 1 + (numV (s.extract 0 (colonFrom s 0))).1 ≤ (s.size : Int)
 ·
  generalize hbd : s.extract (colonFrom s 0 + 1) (colonFrom s 0 + 1 + (numV (s.extract 0 (colonFrom s 0))).1.toNat) = b
  have hbs : b.size ≤ 140737488351232 := by rw [← hbd]; exact hx _ _
  have hbx : ∀ i j, (b.extract i j).size ≤ 140737488351232 := fun i j => by rw [ByteArray.size_extract]; omega
  have hbody : (∃ d kd tx, entryV d kd tx = true ∧ Ev (fun k => spec_l27Body.f k b) (d, kd, tx, true)) ∨ Ev (fun k => spec_l27Body.f k b) (0, ⟨#[]⟩, ⟨#[]⟩, false) := by
   by_cases c1 : b.size ≤ blankFrom b (blankFrom b 0 + 1)
   ·right
    refine Ev.all fun k => ?_
    unfold spec_l27Body.f
    rw [if_pos hbs, if_pos c1]
   ·obtain ⟨J1, j1⟩ := Ev.pick (num_spec (b.extract 0 (blankFrom b 0)) (hbx _ _))
    cases hok : (numV (b.extract 0 (blankFrom b 0))).2 with
    | false =>
     right
     refine Ev.intro J1 fun k hk => ?_
     unfold spec_l27Body.f
     rw [if_pos hbs, if_neg c1, j1 k hk]
     simp only [Option.bind_some]
     rw [hok]
     rfl
    | true =>
     obtain ⟨J2, j2⟩ := Ev.pick (one_spec (numV (b.extract 0 (blankFrom b 0))).1 (b.extract (blankFrom b 0 + 1) (blankFrom b (blankFrom b 0 + 1))) (b.extract (blankFrom b (blankFrom b 0 + 1) + 1) b.size) (hbx _ _))
     cases hv : entryV (numV (b.extract 0 (blankFrom b 0))).1 (b.extract (blankFrom b 0 + 1) (blankFrom b (blankFrom b 0 + 1))) (b.extract (blankFrom b (blankFrom b 0 + 1) + 1) b.size) with
     | false =>
      right
      refine Ev.intro (J1 + J2) fun k hk => ?_
      unfold spec_l27Body.f
      rw [if_pos hbs, if_neg c1, j1 k (by omega)]
      simp only [Option.bind_some]
      rw [hok, if_pos rfl, j2 k (by omega), hv]
      rfl
     | true =>
      left
      refine ⟨_, _, _, hv, Ev.intro (J1 + J2) fun k hk => ?_⟩
      unfold spec_l27Body.f
      rw [if_pos hbs, if_neg c1, j1 k (by omega)]
      simp only [Option.bind_some]
      rw [hok, if_pos rfl, j2 k (by omega), hv]
      rfl
  rcases hbody with ⟨d, kd, tx, hv, hev⟩ | hev
  ·by_cases hp : Pre (frV d kd tx) s
   ·exact .inl ⟨d, kd, tx, hv, hp⟩
   ·right
    obtain ⟨K2, g2⟩ := Ev.pick hev
    obtain ⟨K3, g3⟩ := Ev.pick (frV_spec hv)
    refine Ev.intro (K1 + K2 + K3) fun k hk => ?_
    unfold spec_l27Next.f
    rw [if_pos hs, g1 k (by omega)]
    simp only [Option.bind_some]
    rw [if_pos (by omega), if_pos c, hbd, g2 k (by omega)]
    simp only [Option.bind_some, if_true]
    rw [g3 k (by omega)]
    simp only [Option.bind_some]
    rw [if_neg (fun g => hp ((pre_iff _ _).mp g))]
  ·right
   obtain ⟨K2, g2⟩ := Ev.pick hev
   refine Ev.intro (K1 + K2) fun k hk => ?_
   unfold spec_l27Next.f
   rw [if_pos hs, g1 k (by omega)]
   simp only [Option.bind_some]
   rw [if_pos (by omega), if_pos c, hbd, g2 k (by omega)]
   rfl
 ·right
  refine Ev.intro K1 fun k hk => ?_
  unfold spec_l27Next.f
  rw [if_pos hs, g1 k hk]
  simp only [Option.bind_some]
  rw [if_pos (by omega), if_neg c]
theorem index_at (D R : List UInt8) (c : UInt8) (h : ∀ b ∈ D, ¬ b = c) : Lib.index (D ++ c :: R) [c] = (D.length : Int) := by
 induction D with
 | nil => simp [Lib.index]
 | cons b D ih =>
  have hb : ¬ b = c := h b List.mem_cons_self
  have ih := ih (fun x hx => h x (List.mem_cons_of_mem _ hx))
  rw [List.cons_append, Lib.index]
  have hp : [c].isPrefixOf (b :: (D ++ c :: R)) = false := by
   simp only [List.isPrefixOf, Bool.and_true]
   exact beq_eq_false_iff_ne.mpr fun e => hb e.symm
  rw [hp, ih]
  have h1 : (((D.length : Int)) == -1) = false := by
   apply beq_eq_false_iff_ne.mpr
   omega
  rw [h1]
  simp
theorem cut_hit (D R : List UInt8) (c : UInt8) (h : ∀ b ∈ D, ¬ b = c) : Lib.cut (D ++ c :: R) [c] = (D, R, true) := by
 unfold Lib.cut
 rw [index_at D R c h, if_pos (by omega)]
 rw [Int.toNat_natCast, List.take_left]
 rw [show D ++ c :: R = (D ++ [c]) ++ R by simp, show D.length + [c].length = (D ++ [c]).length by simp, List.drop_left]
theorem cut_len (l : List UInt8) (c : List UInt8) : (Lib.cut l c).1.length ≤ l.length ∧ (Lib.cut l c).2.1.length ≤ l.length := by
 unfold Lib.cut
 split
 ·exact ⟨by simp only [List.length_take]; omega, by simp only [List.length_drop]; omega⟩
 ·simp
theorem mk_size (l : List UInt8) : (⟨l.toArray⟩ : ByteArray).size = l.length := by show l.toArray.size = _; rw [List.size_toArray]
theorem splitK_three (D K T : List UInt8) (c : UInt8) (hD : ∀ b ∈ D, ¬ b = c) (hK : ∀ b ∈ K, ¬ b = c) : Lib.splitK [c] 0 2 (D ++ c :: (K ++ c :: T)) = [D, K, T] := by
 have step : ∀ (k : Nat) (A B : List UInt8), (∀ b ∈ A, ¬ b = c) → Lib.splitK [c] 0 (k + 1) (A ++ c :: B) = A :: Lib.splitK [c] 0 k B := by
  intro k A B hA
  rw [Lib.splitK, index_at A B c hA]
  have h1 : (((A.length : Int)) == -1) = false := by
   apply beq_eq_false_iff_ne.mpr
   omega
  rw [h1]
  simp only [Bool.false_eq_true, if_false, Int.toNat_natCast, Nat.add_zero, List.take_left]
  rw [show A ++ c :: B = (A ++ [c]) ++ B by simp, show A.length + [c].length = (A ++ [c]).length by simp, List.drop_left]
 rw [step 1 D _ hD, step 0 K T hK]
 rfl
theorem splitB_size (sep : ByteArray) : ∀ (k : Nat) (s : ByteArray), ∀ x ∈ Lib.splitB sep 0 k s, x.size ≤ s.size
 | 0, s, x, hx => by
  rw [Lib.splitB_zero, List.mem_singleton] at hx
  rw [hx]; exact Nat.le_refl _
 | k + 1, s, x, hx => by
  unfold Lib.splitB at hx
  split at hx
  ·rw [List.mem_singleton] at hx
   rw [hx]; exact Nat.le_refl _
  ·rcases List.mem_cons.1 hx with rfl | hx
   ·rw [ByteArray.size_extract]; omega
   ·have := splitB_size sep k _ x hx
    rw [ByteArray.size_extract] at this
    omega
theorem has_yes {s r : ByteArray} (h : Pre r s) : strings_HasPrefix.f s r = some true := by
 have hs := pre_size h
 have hb := ((pre_iff r s).mpr h).2
 unfold strings_HasPrefix.f stringslite_HasPrefix.f
 rw [if_pos (by omega), if_pos (by omega), if_pos (by omega), Int.toNat_natCast, hb]
 rfl
theorem has_no {s r : ByteArray} (h : ¬ Pre r s) : strings_HasPrefix.f s r = some false := by
 unfold strings_HasPrefix.f stringslite_HasPrefix.f
 by_cases c : r.size ≤ s.size
 ·rw [if_pos (by omega), if_pos (by omega), if_pos (by omega), Int.toNat_natCast]
  have hb : ((s.extract 0 r.size).toList == r.toList) = false := Bool.eq_false_iff.mpr fun g => h ((pre_iff r s).mp ⟨c, g⟩)
  rw [hb]
  rfl
 ·rw [if_neg (by omega)]
  rfl
theorem fr_pos {f0 : Int} {f1 f2 : ByteArray} : 0 < (frV f0 f1 f2).size := by
 obtain ⟨e, he⟩ := frame_list f0 f1 f2
 rw [size_list, he, List.length_append, List.length_cons]
 omega
theorem fr_some {f0 : Int} {f1 f2 : ByteArray} : ¬ (frV f0 f1 f2).toList = ([] : List UInt8) := by
 intro g
 have := fr_pos (f0 := f0) (f1 := f1) (f2 := f2)
 rw [← size_toList, g] at this
 simp at this
def noFrame : Int × ByteArray × ByteArray × Int := (0, ⟨#[]⟩, ⟨#[]⟩, 0)
theorem read_hit {f0 : Int} {f1 f2 s : ByteArray} (hv : entryV f0 f1 f2 = true) (hp : Pre (frV f0 f1 f2) s) (hs : s.size ≤ 1048576) : Ev (fun k => impl_readFrame.f k s) (f0, f1, f2, ((frV f0 f1 f2).size : Int)) := by
 obtain ⟨a0, a1, a2⟩ := entry_bd hv
 have s1 := dec_size f0 (by omega) (by omega)
 have hz := body_size f0 f1 f2
 obtain ⟨R, hR, hRt⟩ := frame_cut hp
 have hRl : (bodyV f0 f1 f2).size ≤ R.length := by
  have := congrArg List.length hRt
  rw [List.length_take, ← size_list] at this
  omega
 have hcut : strings_Cut.f s (⟨#[58]⟩ : ByteArray) = some (dec ((bodyV f0 f1 f2).size : Int), (⟨R.toArray⟩ : ByteArray), true) := by
  unfold strings_Cut.f
  rw [if_pos (by omega), hR]
  rw [show (⟨#[58]⟩ : ByteArray).data.toList = [58] from rfl, cut_hit _ _ _ (fun b hb => digit_ne hb (.inr (by decide)))]
  first | done | (congr 1; done) | (congr 1; exact Prod.ext (bytes_ext (by rw [dec_list])) rfl)
 have hbd : (⟨R.toArray⟩ : ByteArray).extract 0 (bodyV f0 f1 f2).size = bodyV f0 f1 f2 := bytes_ext (by rw [ext_list, List.drop_zero, Nat.sub_zero]; exact hRt)
 obtain ⟨d, rfl⟩ : ∃ d : Nat, f0 = (d : Int) := ⟨f0.toNat, by omega⟩
 have hname : isNameB f1 = true := by unfold entryV at hv; simp only [Bool.and_eq_true] at hv; exact hv.2.1
 have hspl : strings_SplitN.f (bodyV (d : Int) f1 f2) (⟨#[32]⟩ : ByteArray) 3 = some [dec (d : Int), f1, f2] := by
  unfold strings_SplitN.f
  rw [if_pos ⟨by omega, by decide, by omega, by omega⟩]
  congr 1
  have hm : min (3 : Int).toNat ((bodyV (d : Int) f1 f2).size + 1) - 1 = 2 := by
   rw [show (3 : Int).toNat = 3 from rfl]
   have h1 : 1 ≤ (dec (d : Int)).size := by rw [size_list, dec_list, Lib.decDigits_length]; exact Lib.nDigits_pos d
   omega
  rw [hm]
  have hd := Lib.splitB_data (⟨#[32]⟩ : ByteArray) 0 2 (bodyV (d : Int) f1 f2)
  rw [body_list, show (⟨#[32]⟩ : ByteArray).data.toList = [32] from rfl, splitK_three _ _ _ _ (fun b hb => digit_ne hb (.inl (by decide))) (name_bytes hname)] at hd
  generalize Lib.splitB (⟨#[32]⟩ : ByteArray) 0 2 (bodyV (d : Int) f1 f2) = ws at hd
  have hl : ws.length = 3 := by
   have := congrArg List.length hd
   simpa using this
  match ws, hl, hd with
  | [x, y, z], _, hd =>
   simp only [List.map_cons, List.map_nil, List.cons.injEq, and_true] at hd
   rw [bytes_ext (hd.1.trans (dec_list d).symm), bytes_ext hd.2.1, bytes_ext hd.2.2]
 have hns := dec_size ((bodyV (d : Int) f1 f2).size : Int) (by omega) (by omega)
 obtain ⟨K1, g1⟩ := Ev.pick (num_impl (dec ((bodyV (d : Int) f1 f2).size : Int)) (by omega))
 obtain ⟨K2, g2⟩ := Ev.pick (num_impl (dec (d : Int)) (by omega))
 obtain ⟨K3, g3⟩ := Ev.pick (frV_impl hv)
 refine Ev.intro (K1 + K2 + K3 + 1) fun k hk => ?_
 obtain ⟨m, rfl⟩ : ∃ m, k = m + 1 := ⟨k - 1, by omega⟩
 unfold impl_readFrame.f
 rw [hcut]
 simp only [Option.bind_some]
 rw [g1 _ (by omega), numV_dec _ (by omega)]
 simp only [Option.bind_some, if_true]
 rw [within_eq, mk_size R, decide_eq_true (by omega)]
 simp only [Option.bind_some, Bool.not_true, impl_readFrame.j0, Bool.false_eq_true, if_false]
 rw [if_pos (by omega), if_pos (by rw [mk_size R]; omega), Int.toNat_natCast, hbd, hspl]
 simp only [Option.bind_some, List.length_cons, List.length_nil]
 have r0 : rdOf ByteArray.empty [dec (d : Int), f1, f2] 0 = dec (d : Int) := rfl
 have r1 : rdOf ByteArray.empty [dec (d : Int), f1, f2] 1 = f1 := rfl
 have r2 : rdOf ByteArray.empty [dec (d : Int), f1, f2] 2 = f2 := rfl
 rw [if_pos (by omega), if_pos (by omega), r0, r1, r2, g2 _ (by omega), numV_dec d (by omega)]
 simp only [Option.bind_some]
 rw [if_pos (by omega), if_pos (by omega), g3 _ (by omega)]
 simp only [Option.bind_some, if_true]
 rw [if_neg fr_some, has_yes hp]
 simp only [Option.bind_some, if_true]
theorem read_any (s : ByteArray) (hs : s.size ≤ 1048576) : (∃ f0 f1 f2, entryV f0 f1 f2 = true ∧ Pre (frV f0 f1 f2) s) ∨ Ev (fun k => impl_readFrame.f k s) noFrame := by
 obtain ⟨a, b, ok, hcut, ha, hb⟩ : ∃ a b ok, strings_Cut.f s (⟨#[58]⟩ : ByteArray) = some (a, b, ok) ∧ a.size ≤ 1048576 ∧ b.size ≤ 1048576 := by
  have hl := cut_len s.data.toList (⟨#[58]⟩ : ByteArray).data.toList
  rw [← size_list] at hl
  refine ⟨_, _, _, by unfold strings_Cut.f; rw [if_pos (by omega)], by rw [mk_size]; omega, by rw [mk_size]; omega⟩
 obtain ⟨K1, g1⟩ := Ev.pick (num_impl a (by omega))
 have stop : (¬ (ok = true ∧ (numV a).2 = true ∧ 0 ≤ (numV a).1 ∧ (numV a).1 ≤ (b.size : Int))) → Ev (fun k => impl_readFrame.f k s) noFrame := by
  intro hn
  refine Ev.intro (K1 + 1) fun k hk => ?_
  obtain ⟨m, rfl⟩ : ∃ m, k = m + 1 := ⟨k - 1, by omega⟩
  unfold impl_readFrame.f
  rw [hcut]
  simp only [Option.bind_some]
  rw [g1 _ (by omega)]
  simp only [Option.bind_some]
  cases ok with
  | false => simp only [Bool.false_eq_true, if_false, impl_readFrame.j0, if_true]; rfl
  | true =>
   simp only [if_true]
   cases hf : (numV a).2 with
   | false => simp only [Bool.false_eq_true, if_false, impl_readFrame.j0, if_true]; rfl
   | true =>
    simp only [if_true]
    rw [within_eq, decide_eq_false (fun g => hn ⟨rfl, hf, g.1, g.2⟩)]
    simp only [Option.bind_some, Bool.not_false, impl_readFrame.j0, if_true]
    rfl
 by_cases c : ok = true ∧ (numV a).2 = true ∧ 0 ≤ (numV a).1 ∧ (numV a).1 ≤ (b.size : Int)
 ·obtain ⟨c1, c2, c3, c4⟩ := c
  subst c1
  generalize ht : b.extract 0 (numV a).1.toNat = t
  have hts : t.size ≤ 1048576 := by rw [← ht, ByteArray.size_extract]; omega
  have hspl : strings_SplitN.f t (⟨#[32]⟩ : ByteArray) 3 = some (Lib.splitB (⟨#[32]⟩ : ByteArray) 0 (min (3 : Int).toNat (t.size + 1) - 1) t) := by
   unfold strings_SplitN.f
   rw [if_pos ⟨by omega, by decide, by omega, by omega⟩]
  have hsz := splitB_size (⟨#[32]⟩ : ByteArray) (min (3 : Int).toNat (t.size + 1) - 1) t
  generalize Lib.splitB (⟨#[32]⟩ : ByteArray) 0 (min (3 : Int).toNat (t.size + 1) - 1) t = ws at hspl hsz
  have head : ∀ m, K1 ≤ m + 1 → impl_readFrame.f (m + 1) s = impl_readFrame.j0 (m + 1) s b (numV a).1 false := by
   intro m hm
   unfold impl_readFrame.f
   rw [hcut]
   simp only [Option.bind_some]
   rw [g1 _ hm]
   simp only [Option.bind_some, if_true]
   rw [c2, if_pos rfl, within_eq, decide_eq_true ⟨c3, c4⟩]
   rfl
  by_cases hlen : ws.length = 3
  ·match ws, hlen, hspl, hsz with
   | [x, y, z], _, hspl, hsz =>
    have hx := hsz x (by simp)
    have hz := hsz z (by simp)
    have r0 : rdOf ByteArray.empty [x, y, z] 0 = x := rfl
    have r1 : rdOf ByteArray.empty [x, y, z] 1 = y := rfl
    have r2 : rdOf ByteArray.empty [x, y, z] 2 = z := rfl
    obtain ⟨K2, g2⟩ := Ev.pick (num_impl x (by omega))
    cases hv : entryV (numV x).1 y z with
    | false =>
     right
     obtain ⟨K3, g3⟩ := Ev.pick (frV_none hv (by omega))
     refine Ev.intro (K1 + K2 + K3 + 1) fun k hk => ?_
     obtain ⟨m, rfl⟩ : ∃ m, k = m + 1 := ⟨k - 1, by omega⟩
     rw [head m (by omega)]
     simp only [impl_readFrame.j0, Bool.false_eq_true, if_false]
     rw [if_pos c3, if_pos c4, ht, hspl]
     simp only [Option.bind_some, List.length_cons, List.length_nil]
     rw [if_pos (by omega), if_pos (by omega), r0, r1, r2, g2 _ (by omega)]
     simp only [Option.bind_some]
     rw [if_pos (by omega), if_pos (by omega), g3 _ (by omega)]
     simp only [Option.bind_some]
     split
     ·rw [if_pos (List.eq_nil_of_length_eq_zero (by rw [size_toList]; rfl))]
      rfl
     ·rfl
    | true =>
     by_cases hok : (numV x).2 = true
     ·by_cases hp : Pre (frV (numV x).1 y z) s
      ·exact .inl ⟨_, _, _, hv, hp⟩
      ·right
       obtain ⟨K3, g3⟩ := Ev.pick (frV_impl hv)
       refine Ev.intro (K1 + K2 + K3 + 1) fun k hk => ?_
       obtain ⟨m, rfl⟩ : ∃ m, k = m + 1 := ⟨k - 1, by omega⟩
       rw [head m (by omega)]
       simp only [impl_readFrame.j0, Bool.false_eq_true, if_false]
       rw [if_pos c3, if_pos c4, ht, hspl]
       simp only [Option.bind_some, List.length_cons, List.length_nil]
       rw [if_pos (by omega), if_pos (by omega), r0, r1, r2, g2 _ (by omega)]
       simp only [Option.bind_some]
       rw [if_pos (by omega), if_pos (by omega), g3 _ (by omega)]
       simp only [Option.bind_some]
       rw [if_pos hok, if_neg fr_some, has_no hp]
       simp only [Option.bind_some, Bool.false_eq_true, if_false]
       rfl
     ·right
      obtain ⟨K3, g3⟩ := Ev.pick (frV_impl hv)
      refine Ev.intro (K1 + K2 + K3 + 1) fun k hk => ?_
      obtain ⟨m, rfl⟩ : ∃ m, k = m + 1 := ⟨k - 1, by omega⟩
      rw [head m (by omega)]
      simp only [impl_readFrame.j0, Bool.false_eq_true, if_false]
      rw [if_pos c3, if_pos c4, ht, hspl]
      simp only [Option.bind_some, List.length_cons, List.length_nil]
      rw [if_pos (by omega), if_pos (by omega), r0, r1, r2, g2 _ (by omega)]
      simp only [Option.bind_some]
      rw [if_pos (by omega), if_pos (by omega), g3 _ (by omega)]
      simp only [Option.bind_some]
      rw [if_neg hok]
      rfl
  ·right
   refine Ev.intro (K1 + 1) fun k hk => ?_
   obtain ⟨m, rfl⟩ : ∃ m, k = m + 1 := ⟨k - 1, by omega⟩
   rw [head m (by omega)]
   simp only [impl_readFrame.j0, Bool.false_eq_true, if_false]
   rw [if_pos c3, if_pos c4, ht, hspl]
   simp only [Option.bind_some]
   rw [if_neg (by omega)]
   rfl
 ·exact .inr (stop c)
theorem frame_step (s : ByteArray) (hs : s.size ≤ 1048576) : (∃ (f0 : Int) (f1 f2 : ByteArray) (n : Nat), 0 < n ∧ n ≤ s.size ∧ Ev (fun k => spec_l27Next.f k s) (f0, f1, f2, (n : Int), true) ∧ Ev (fun k => impl_readFrame.f k s) (f0, f1, f2, (n : Int))) ∨
  (Ev (fun k => spec_l27Next.f k s) noEntry ∧ Ev (fun k => impl_readFrame.f k s) noFrame) := by
 by_cases c : ∃ f0 f1 f2, entryV f0 f1 f2 = true ∧ Pre (frV f0 f1 f2) s
 ·obtain ⟨f0, f1, f2, hv, hp⟩ := c
  exact .inl ⟨f0, f1, f2, _, fr_pos, pre_size hp, next_hit hv hp (by omega), read_hit hv hp hs⟩
 ·exact .inr ⟨(next_any s (by omega)).resolve_left c, (read_any s hs).resolve_left c⟩
theorem read_loop (s : ByteArray) (hs : s.size ≤ 1048576) : ∀ (d at_ : Nat) (acc : List S132), at_ + d = s.size → acc.length ≤ at_ →
  ∃ (l : List S132) (n : Nat), n ≤ s.size ∧ l.length ≤ s.size ∧ Ev (fun k => spec_l27Read.l0 k s acc (at_ : Int)) (l, (n : Int)) ∧ Ev (fun k => impl_ReadFrames.l0 k s acc (at_ : Int)) (l, (n : Int)) := by
 intro d
 induction d using Nat.strongRecOn with
 | _ d ih =>
  intro at_ acc hat hacc
  have hsz : (s.extract at_ s.size).size = d := by rw [ByteArray.size_extract]; omega
  rcases frame_step (s.extract at_ s.size) (by omega) with ⟨f0, f1, f2, n, hn0, hn1, h1, h2⟩ | ⟨h1, h2⟩
  ·obtain ⟨l, m, hm, hl, i1, i2⟩ := ih (d - n) (by omega) (at_ + n) (acc ++ [⟨f0, f1, f2⟩]) (by omega) (by rw [List.length_append, List.length_cons, List.length_nil]; omega)
   refine ⟨l, m, hm, hl, ?_, ?_⟩
   ·obtain ⟨K1, g1⟩ := Ev.pick h1
    obtain ⟨K2, g2⟩ := Ev.pick i1
    refine Ev.intro (K1 + K2 + 1) fun k hk => ?_
    obtain ⟨q, rfl⟩ : ∃ q, k = q + 1 := ⟨k - 1, by omega⟩
    simp only [spec_l27Read.l0]
    rw [if_pos (by omega), if_pos (by omega), Int.toNat_natCast, g1 q (by omega)]
    simp only [Option.bind_some, if_true]
    rw [if_pos (by omega), w64 (by omega) (by omega)]
    exact g2 q (by omega)
   ·obtain ⟨K1, g1⟩ := Ev.pick h2
    obtain ⟨K2, g2⟩ := Ev.pick i2
    refine Ev.intro (K1 + K2 + 1) fun k hk => ?_
    obtain ⟨q, rfl⟩ : ∃ q, k = q + 1 := ⟨k - 1, by omega⟩
    simp only [impl_ReadFrames.l0]
    rw [if_pos (by omega), if_pos (by omega), Int.toNat_natCast, g1 q (by omega)]
    simp only [Option.bind_some]
    rw [if_neg (by omega), if_pos (by omega), w64 (by omega) (by omega)]
    exact g2 q (by omega)
  ·refine ⟨acc, at_, by omega, by omega, ?_, ?_⟩
   ·obtain ⟨K1, g1⟩ := Ev.pick h1
    refine Ev.intro (K1 + 1) fun k hk => ?_
    obtain ⟨q, rfl⟩ : ∃ q, k = q + 1 := ⟨k - 1, by omega⟩
    simp only [spec_l27Read.l0]
    rw [if_pos (by omega), if_pos (by omega), Int.toNat_natCast, g1 q (by omega)]
    rfl
   ·obtain ⟨K1, g1⟩ := Ev.pick h2
    refine Ev.intro (K1 + 1) fun k hk => ?_
    obtain ⟨q, rfl⟩ : ∃ q, k = q + 1 := ⟨k - 1, by omega⟩
    simp only [impl_ReadFrames.l0]
    rw [if_pos (by omega), if_pos (by omega), Int.toNat_natCast, g1 q (by omega)]
    rfl
theorem read_both (s : ByteArray) (hs : s.size ≤ 1048576) : ∃ (l : List S132) (n : Nat), n ≤ s.size ∧ l.length ≤ s.size ∧ Ev (fun k => spec_l27Read.f k s) (l, (n : Int)) ∧ Ev (fun k => impl_ReadFrames.f k s) (l, (n : Int)) := by
 obtain ⟨l, n, h1, h2, h3, h4⟩ := read_loop s hs s.size 0 [] (by omega) (by simp)
 exact ⟨l, n, h1, h2, h3, h4⟩
theorem whole_both (kp wt : ByteArray) (ha : kp.size ≤ 1048576) (hb : wt.size ≤ 1048576) : ∃ ok w : Bool, Ev (fun k => spec_l28Whole.f k kp wt) (ok && w, kp, wt) ∧ Ev (fun k => impl_validLog.f k kp wt) ok ∧ Ev (fun k => impl_isWhole.f k kp wt) w := by
 obtain ⟨la, na, hna, hla, ra1, ra2⟩ := read_both kp ha
 obtain ⟨lb, nb, hnb, hlb, rb1, rb2⟩ := read_both wt hb
 obtain ⟨K1, g1⟩ := Ev.pick ra1
 obtain ⟨K2, g2⟩ := Ev.pick ra2
 obtain ⟨K3, g3⟩ := Ev.pick rb1
 obtain ⟨K4, g4⟩ := Ev.pick rb2
 refine ⟨if (nb : Int) = (wt.size : Int) then decide (wrap64 ((kp.size : Int) + (wt.size : Int)) ≤ 4000) else false, ((na : Int) == (kp.size : Int)), Ev.intro (K1 + K3) fun k hk => ?_, Ev.intro K4 fun k hk => ?_, Ev.intro K2 fun k hk => ?_⟩
 ·unfold spec_l28Whole.f spec_l27All.f spec_l27Ok.f
  rw [g3 k (by omega), Option.bind_some]
  simp only
  by_cases cb : (nb : Int) = (wt.size : Int)
  ·rw [if_pos cb, if_pos cb, Option.bind_some]
   simp only
   generalize decide (wrap64 ((kp.size : Int) + (wt.size : Int)) ≤ 4000) = z
   cases z with
   | false => rfl
   | true =>
    rw [if_pos rfl, g1 k (by omega), Option.bind_some]
    simp only
    by_cases ca : (na : Int) = (kp.size : Int)
    ·rw [if_neg (by omega), g3 k (by omega), Option.bind_some]
     simp only
     rw [if_pos (by omega), Option.bind_some, ca]
     simp
    ·rw [if_pos (by omega), Option.bind_some, Bool.true_and]
     simp only
     rw [beq_eq_false_iff_ne.mpr ca]
     rfl
  ·rw [if_neg cb, if_neg cb, Option.bind_some]
   rfl
 ·unfold impl_validLog.f
  rw [g4 k (by omega), Option.bind_some]
  simp only
  split <;> rfl
 ·unfold impl_isWhole.f
  rw [g2 k (by omega), Option.bind_some]
theorem valid_both (d : Int) (rl : List S97) (ln : List ByteArray) (bl : List S101) (cl : List S69) (kp wt : ByteArray) (h3 : bl.length ≤ 1048576) (h4 : cl.length ≤ 1048576) (h5 : kp.size ≤ 1048576) (h6 : wt.size ≤ 1048576) : ∃ b : Bool, Ev (fun k => spec_ValidDesk.f k d rl ln bl cl kp wt) b ∧ Ev (fun k => impl_ValidDesk.f k d rl ln bl cl kp wt) b := by
 obtain ⟨ok, w, e1, e2, e3⟩ := whole_both kp wt h5 h6
 obtain ⟨K1, g1⟩ := Ev.pick e1
 obtain ⟨K2, g2⟩ := Ev.pick e2
 obtain ⟨K3, g3⟩ := Ev.pick e3
 obtain ⟨K4, g4⟩ := Ev.pick (coils_q cl h4)
 refine ⟨decide (0 ≤ d ∧ d ≤ 20000) && rigOkP (rl, ln, bl) && coilsOkP cl && (ok && w), Ev.intro K1 fun k hk => ?_, Ev.intro (K2 + K3 + K4) fun k hk => ?_⟩
 ·unfold spec_ValidDesk.f deskOkP
  rw [if_pos h3]
  generalize decide (0 ≤ d ∧ d ≤ 20000) = b1
  generalize rigOkP (rl, ln, bl) = b2
  generalize coilsOkP cl = b3
  cases b1 with
  | false => rfl
  | true =>
   cases b2 with
   | false => rfl
   | true =>
    cases b3 with
    | false => rfl
    | true =>
     rw [if_pos rfl, if_pos rfl, if_pos rfl, g1 k (by omega), Option.bind_some]
     rfl
 ·unfold impl_ValidDesk.f impl_ValidRig.f
  rw [within_q, Option.bind_some, if_pos h3]
  generalize decide (0 ≤ d ∧ d ≤ 20000) = b1
  cases b1 with
  | false => rfl
  | true =>
   rw [if_pos rfl, Option.bind_some]
   generalize rigOkP (rl, ln, bl) = b2
   cases b2 with
   | false => rfl
   | true =>
    rw [if_pos rfl, g4 k (by omega), Option.bind_some]
    generalize coilsOkP cl = b3
    cases b3 with
    | false => rfl
    | true =>
     rw [if_pos rfl, g2 k (by omega), Option.bind_some]
     cases ok with
     | false => rfl
     | true =>
      rw [if_pos rfl, g3 k (by omega), Option.bind_some]
      rfl
theorem log_ok (a b : ByteArray) (ha : a.size ≤ 1048576) (hb : b.size ≤ 1048576) : ∃ ok : Bool, (ok = true → a.size + b.size ≤ 4000) ∧ Ev (fun k => spec_l27Ok.f k a b) (ok, a, b) ∧ Ev (fun k => impl_validLog.f k a b) ok := by
 obtain ⟨l, n, _, _, h1, h2⟩ := read_both b hb
 obtain ⟨K1, g1⟩ := Ev.pick h1
 obtain ⟨K2, g2⟩ := Ev.pick h2
 by_cases c : (n : Int) = (b.size : Int)
 ·refine ⟨decide ((a.size : Int) + (b.size : Int) ≤ 4000), fun h => by have := of_decide_eq_true h; omega, Ev.intro K1 fun k hk => ?_, Ev.intro K2 fun k hk => ?_⟩
  ·unfold spec_l27Ok.f
   rw [g1 k hk, Option.bind_some, if_pos c, w64 (by omega) (by omega)]
  ·unfold impl_validLog.f
   rw [g2 k hk, Option.bind_some, if_pos c, w64 (by omega) (by omega)]
 ·refine ⟨false, fun h => by (cases h), Ev.intro K1 fun k hk => ?_, Ev.intro K2 fun k hk => ?_⟩
  ·unfold spec_l27Ok.f
   rw [g1 k hk, Option.bind_some, if_neg c]
  ·unfold impl_validLog.f
   rw [g2 k hk, Option.bind_some, if_neg c]
theorem ok_nil (a : ByteArray) (ha : a.size ≤ 4000) : Ev (fun k => spec_l27Ok.f k a ⟨#[]⟩) (true, a, ⟨#[]⟩) ∧ Ev (fun k => impl_validLog.f k a ⟨#[]⟩) true := by
 have e0 : (⟨#[]⟩ : ByteArray).size = 0 := rfl
 obtain ⟨l, n, hn, _, h1, h2⟩ := read_both ⟨#[]⟩ (by rw [e0]; omega)
 obtain ⟨K1, g1⟩ := Ev.pick h1
 obtain ⟨K2, g2⟩ := Ev.pick h2
 have c : (n : Int) = ((⟨#[]⟩ : ByteArray).size : Int) := by omega
 have d : decide (wrap64 ((a.size : Int) + ((⟨#[]⟩ : ByteArray).size : Int)) ≤ 4000) = true := decide_eq_true (by rw [w64 (by omega) (by omega)]; omega)
 refine ⟨Ev.intro K1 fun k hk => ?_, Ev.intro K2 fun k hk => ?_⟩
 ·unfold spec_l27Ok.f
  rw [g1 k hk, Option.bind_some, if_pos c, d]
 ·unfold impl_validLog.f
  rw [g2 k hk, Option.bind_some, if_pos c, d]
theorem lose_more (a b : ByteArray) (m : Int) (ha : a.size ≤ 1048576) (hb : b.size ≤ 1048576) : ∃ r : ByteArray × ByteArray × Int, (r.2.2 = 0 → r.2.1 = ⟨#[]⟩ ∧ r.1.size ≤ 4000) ∧ Ev (fun k => spec_LosePower.f k a b m) r ∧ Ev (fun k => impl_LosePower.f k a b m) r := by
 obtain ⟨ok, hok, h1, h2⟩ := log_ok a b ha hb
 obtain ⟨K1, g1⟩ := Ev.pick h1
 obtain ⟨K2, g2⟩ := Ev.pick h2
 cases ok with
 | true =>
  have hz := hok rfl
  by_cases c : 0 ≤ m ∧ m ≤ (b.size : Int)
  ·have hx : (b.extract 0 m.toNat).size ≤ b.size := by rw [ByteArray.size_extract]; omega
   refine ⟨(a ++ b.extract 0 m.toNat, ⟨#[]⟩, 0), fun _ => ⟨rfl, ?_⟩, Ev.intro K1 fun k hk => ?_, Ev.intro K2 fun k hk => ?_⟩
   ·show (a ++ b.extract 0 m.toNat).size ≤ 4000
    rw [ByteArray.size_append]; omega
   ·unfold spec_LosePower.f
    rw [g1 k hk]
    simp only [Option.bind_some, if_true]
    rw [if_pos (by omega), if_pos (decide_eq_true c)]
   ·unfold impl_LosePower.f impl_within.f
    rw [g2 k hk]
    simp only [Option.bind_some, if_true]
    rw [if_pos (show m ≥ 0 from c.1), Option.bind_some, if_pos (decide_eq_true c.2), if_pos c.1, if_pos c.2, if_pos (by omega)]
  ·refine ⟨(⟨#[]⟩, ⟨#[]⟩, 2), fun h => absurd h (by decide), Ev.intro K1 fun k hk => ?_, Ev.intro K2 fun k hk => ?_⟩
   ·unfold spec_LosePower.f
    rw [g1 k hk]
    simp only [Option.bind_some, if_true]
    rw [if_pos (by omega), if_neg (by rw [decide_eq_true_eq]; exact c)]
   ·unfold impl_LosePower.f impl_within.f
    rw [g2 k hk]
    simp only [Option.bind_some, if_true]
    by_cases c0 : m ≥ 0
    ·rw [if_pos c0, Option.bind_some, if_neg (by rw [decide_eq_true_eq]; omega)]
    ·rw [if_neg c0, Option.bind_some, if_neg (by simp)]
 | false =>
  refine ⟨(⟨#[]⟩, ⟨#[]⟩, 1), fun h => absurd h (by decide), Ev.intro K1 fun k hk => ?_, Ev.intro K2 fun k hk => ?_⟩
  ·unfold spec_LosePower.f
   rw [g1 k hk]
   simp only [Option.bind_some, Bool.false_eq_true, if_false]
  ·unfold impl_LosePower.f
   rw [g2 k hk]
   simp only [Option.bind_some, Bool.false_eq_true, if_false]
theorem recover_zero (a : ByteArray) (ha : a.size ≤ 4000) : ∃ (r : ByteArray) (z : Int), Ev (fun k => spec_RecoverLog.f k a ⟨#[]⟩) (r, ⟨#[]⟩, z, 0) ∧ Ev (fun k => impl_RecoverLog.f k a ⟨#[]⟩) (r, ⟨#[]⟩, z, 0) := by
 obtain ⟨h1, h2⟩ := ok_nil a ha
 obtain ⟨K1, g1⟩ := Ev.pick h1
 obtain ⟨K2, g2⟩ := Ev.pick h2
 obtain ⟨la, n, hna, hla, ra1, ra2⟩ := read_both a (by omega)
 obtain ⟨K3, g3⟩ := Ev.pick ra1
 obtain ⟨K4, g4⟩ := Ev.pick ra2
 have hw : wrap64 ((a.size : Int) - (n : Int)) = (a.size : Int) - (n : Int) := w64 (by omega) (by omega)
 have e : (⟨#[]⟩ : ByteArray).toList = ([] : List UInt8) := List.eq_nil_of_length_eq_zero (by rw [size_toList]; rfl)
 refine ⟨a.extract 0 n, (a.size : Int) - (n : Int), Ev.intro (K1 + K3) fun k hk => ?_, Ev.intro (K2 + K4) fun k hk => ?_⟩
 ·unfold spec_RecoverLog.f
  rw [g1 k (by omega)]
  simp only [Option.bind_some, if_true]
  rw [g3 k (by omega)]
  simp only [Option.bind_some, Int.toNat_natCast]
  by_cases c : (n : Int) < (a.size : Int)
  ·rw [if_pos c, if_pos e, if_pos (by omega), if_pos (by omega), hw]
  ·rw [if_neg c, if_pos (by omega), if_pos (by omega), hw]
 ·unfold impl_RecoverLog.f
  rw [g2 k (by omega)]
  simp only [Option.bind_some, if_true]
  rw [g4 k (by omega)]
  simp only [Option.bind_some, Int.toNat_natCast]
  by_cases c : (n : Int) < (a.size : Int)
  ·rw [hw, if_pos (by omega), if_pos e, if_pos (by omega), if_pos (by omega)]
  ·rw [hw, if_neg (by omega), if_pos (by omega), if_pos (by omega)]
theorem start_both (d : Int) (rl : List S97) (ln : List ByteArray) (bl : List S101) (cl : List S69) (kp wt : ByteArray) (m : Int) (h1 : rl.length ≤ 1048576) (h2 : ln.length ≤ 1048576) (h3 : bl.length ≤ 1048576) (h4 : cl.length ≤ 1048576) (h5 : kp.size ≤ 1048576) (h6 : wt.size ≤ 1048576) :
  ∃ (d' : Int) (rl' : List S97) (ln' : List ByteArray) (bl' : List S101) (cl' : List S69) (kp' wt' : ByteArray) (c : Int), Ev (fun k => spec_StartAgain.f k d rl ln bl cl kp wt m) (d', rl', ln', bl', cl', kp', wt', c) ∧ Ev (fun k => impl_StartAgain.f k d rl ln bl cl kp wt m) (d', rl', ln', bl', cl', kp', wt', c) ∧ rl'.length ≤ 1048576 ∧ ln'.length ≤ 1048576 ∧ bl'.length ≤ 1048576 ∧ cl'.length ≤ 1048576 := by
 obtain ⟨b, e1, e2⟩ := valid_both d rl ln bl cl kp wt h3 h4 h5 h6
 obtain ⟨K1, g1⟩ := Ev.pick e1
 obtain ⟨K2, g2⟩ := Ev.pick e2
 have g1' : ∀ k, K1 ≤ k → deskOkP k d (rl, ln, bl) cl kp wt = some b := fun k hk => by have := g1 k hk; unfold spec_ValidDesk.f at this; rwa [if_pos h3] at this
 have hs : ∀ k, spec_StartAgain.f k d rl ln bl cl kp wt m = (deskOkP k d (rl, ln, bl) cl kp wt).bind fun b => if b = true then (spec_LosePower.f k kp wt m).bind fun t => (if t.2.2 = 0 then (spec_RecoverLog.f k t.1 t.2.1).bind fun u => some (d, rl, ln, bl, cl, u.1, u.2.1, 0) else some (0, [], [], [], [], (⟨#[]⟩ : ByteArray), (⟨#[]⟩ : ByteArray), t.2.2)) else some (0, [], [], [], [], (⟨#[]⟩ : ByteArray), (⟨#[]⟩ : ByteArray), 1) := fun k => by unfold spec_StartAgain.f; rw [if_pos ⟨⟨h1, h2, h3⟩, h4⟩]
 clear g1 e1 e2
 cases b with
 | false =>
  refine ⟨0, [], [], [], [], ⟨#[]⟩, ⟨#[]⟩, 1, Ev.intro K1 fun k hk => ?_, Ev.intro K2 fun k hk => ?_, by simp, by simp, by simp, by simp⟩
  ·rw [hs, g1' k hk, Option.bind_some, if_neg (by decide)]
  ·unfold impl_StartAgain.f
   rw [g2 k hk, Option.bind_some, if_neg (by decide)]
 | true =>
  obtain ⟨r, hr, e3, e4⟩ := lose_more kp wt m h5 h6
  obtain ⟨K3, g3⟩ := Ev.pick e3
  obtain ⟨K4, g4⟩ := Ev.pick e4
  obtain ⟨ra, rb, rc⟩ := r
  simp only at hr
  by_cases c : rc = 0
  ·obtain ⟨hr1, hr2⟩ := hr c
   subst c hr1
   obtain ⟨ua, z, e5, e6⟩ := recover_zero ra hr2
   obtain ⟨K5, g5⟩ := Ev.pick e5
   obtain ⟨K6, g6⟩ := Ev.pick e6
   refine ⟨d, rl, ln, bl, cl, ua, ⟨#[]⟩, 0, Ev.intro (K1 + K3 + K5) fun k hk => ?_, Ev.intro (K2 + K4 + K6) fun k hk => ?_, h1, h2, h3, h4⟩
   ·rw [hs, g1' k (by omega), Option.bind_some, if_pos rfl, g3 k (by omega), Option.bind_some]
    simp only [if_true]
    rw [g5 k (by omega), Option.bind_some]
   ·have hcd : impl_copyDesk.f d rl ln bl cl kp wt = some (d, rl, ln, bl, cl, kp, wt) := by
     unfold impl_copyDesk.f impl_copyRig.f
     rw [if_pos ⟨h1, h2, h3⟩, Option.bind_some]
     simp only [Option.bind_some, List.length_nil, List.nil_append]
     rw [if_pos (by omega)]
    unfold impl_StartAgain.f
    rw [g2 k (by omega), Option.bind_some, if_pos rfl, g4 k (by omega), Option.bind_some]
    simp only [if_true]
    rw [g6 k (by omega), Option.bind_some]
    simp only [if_true]
    rw [hcd, Option.bind_some]
  ·refine ⟨0, [], [], [], [], ⟨#[]⟩, ⟨#[]⟩, rc, Ev.intro (K1 + K3) fun k hk => ?_, Ev.intro (K2 + K4) fun k hk => ?_, by simp, by simp, by simp, by simp⟩
   ·rw [hs, g1' k (by omega), Option.bind_some, if_pos rfl, g3 k (by omega), Option.bind_some]
    simp only
    rw [if_neg c]
   ·unfold impl_StartAgain.f
    rw [g2 k (by omega), Option.bind_some, if_pos rfl, g4 k (by omega), Option.bind_some]
    simp only
    rw [if_neg c]
theorem str_one (b : Int) : (strOfNums [b]).size = 1 := rfl
theorem mtxt_loop : ∀ (d : Nat) (n : Int) (s : ByteArray), n.toNat ≤ d → s.size + d ≤ 2000000000 → ∃ t, Ev (fun k => laws_markText.l0 k n s) t := by
 intro d
 induction d with
 | zero =>
  intro n s hn hs
  refine ⟨(⟨#[109]⟩ : ByteArray) ++ s, Ev.const fun k => ?_⟩
  simp only [laws_markText.l0]
  rw [if_neg (by omega), if_pos (by omega)]
 | succ d ih =>
  intro n s hn hs
  by_cases h : n > 0
  ·have e : wrap64 (Int.tdiv n 10) = n / 10 ∨ True := .inr trivial
   have hd : (wrap64 (Int.tdiv n 10)).toNat ≤ d := by
    rw [tdiv_nn (by omega)]
    unfold wrap64
    omega
   obtain ⟨t, ht⟩ := ih (wrap64 (Int.tdiv n 10)) (strOfNums [(wrap64 (48 + (Int.tmod n 10))) % 256] ++ s) hd (by
    rw [ByteArray.size_append, str_one]; omega)
   refine ⟨t, Ev.step (fun k => ?_) ht⟩
   simp only [laws_markText.l0]
   rw [if_pos h]
   simp only [Option.bind_some]
   rw [if_pos (by rw [str_one]; omega)]
  ·refine ⟨(⟨#[109]⟩ : ByteArray) ++ s, Ev.const fun k => ?_⟩
   simp only [laws_markText.l0]
   rw [if_neg h, if_pos (by omega)]
theorem mtxt_ends (n : Int) (h : n ≤ 1500000000) : ∃ t, Ev (fun k => laws_markText.f k n) t := by
 by_cases c : n ≤ 0
 ·exact ⟨_, Ev.all fun k => by unfold laws_markText.f; rw [if_pos c]⟩
 ·obtain ⟨t, ht⟩ := mtxt_loop n.toNat n (⟨#[]⟩ : ByteArray) (Nat.le_refl _) (by show 0 + n.toNat ≤ _; omega)
  exact ⟨t, Ev.congr (fun k => by unfold laws_markText.f; rw [if_neg c]) ht⟩
open Classical in
noncomputable def mtxt (n : Int) : ByteArray := if h : n ≤ 1500000000 then Classical.choose (mtxt_ends n h) else ⟨#[]⟩
theorem mtxt_ev (n : Int) (h0 : 0 < n) (h : n ≤ 1500000000) : Ev (fun k => laws_markText.f k n) (mtxt n) := by
 unfold mtxt
 rw [dif_pos h]
 exact Classical.choose_spec (mtxt_ends n h)
noncomputable def mkRail (m : Int) : S97 := ⟨mtxt m, mtxt (m + 1), m + 1 + 1⟩
theorem rdIRail (xs : List S97) (i : Nat) (h : i < xs.length) : rd_T97 xs (i : Int) = xs[i] := by
 unfold rd_T97; rw [Int.toNat_natCast, List.getD_eq_getElem?_getD, List.getElem?_eq_getElem h]; rfl
theorem rdSetRail (xs : List S97) (i : Nat) (h : i < xs.length) (v : S97) : rd_T97 (xs.set i v) (i : Int) = v := by
 rw [rdIRail _ i (by simpa using h), List.getElem_set_self]
theorem mark_roundRail (xs : List S97) (i : Nat) (hi : i < xs.length) (hl : xs.length ≤ 2000000) (m : Int) (h0 : 0 < m) (h1 : m ≤ 1000000000) : ∃ K, ∀ k, K ≤ k → laws_markRailS.l0 (k + 1) xs m i = laws_markRailS.l0 k (xs.set i (mkRail m)) (m + 1 + 1 + 1) ((i : Int) + 1) := by
 have e1 : wrap64 (m + 1) = m + 1 := w64 (by omega) (by omega)
 have e2 : wrap64 (m + 1 + 1) = m + 1 + 1 := w64 (by omega) (by omega)
 have e3 : wrap64 (m + 1 + 1 + 1) = m + 1 + 1 + 1 := w64 (by omega) (by omega)
 obtain ⟨K0, hK0⟩ := Ev.pick (mtxt_ev (m) (by omega) (by omega))
 obtain ⟨K1, hK1⟩ := Ev.pick (mtxt_ev (m + 1) (by omega) (by omega))
 refine ⟨K0 + K1, fun k hk => ?_⟩
 simp only [laws_markRailS.l0]
 rw [if_pos (by omega), hK0 k (by omega), Option.bind_some, if_pos (by omega), w64 (x := (i : Int) + 1) (by omega) (by omega)]
 simp only [Option.bind_some, Int.toNat_natCast, rdSetRail xs i hi, List.set_set, e1, e2, e3, hK0 k (by omega), hK1 k (by omega)]
 rfl
theorem markRail_ev (l : List S97) (m0 : Int) (h0 : 0 < m0) (h1 : m0 ≤ 100000000) (h : l.length ≤ 2000000) : Ev (fun k => laws_markRailS.f k l m0) (m0 + 3 * (l.length : Int), (List.range l.length).map fun i : Nat => mkRail (m0 + 3 * (i : Int))) := by
 refine mark_to l.length 3 m0 mkRail (fun k xs m i => laws_markRailS.l0 k xs m i) (fun xs i hi hl => ?_) (fun k xs hl => ?_) l rfl
 ·obtain ⟨K, hK⟩ := mark_roundRail xs i (by omega) (by omega) (m0 + 3 * (i : Int)) (by omega) (by omega)
  refine ⟨K, fun k hk => (hK k hk).trans ?_⟩
  rw [show m0 + 3 * (i : Int) + 1 + 1 + 1 = m0 + 3 * ((i + 1 : Nat) : Int) by omega]
 ·simp only [laws_markRailS.l0]
  rw [if_neg (by omega)]
theorem heldRail_ev (n : Nat) (m0 : Int) (h0 : 0 < m0) (h1 : m0 ≤ 100000000) (h : n ≤ 2000000) : Ev (fun k => laws_heldRailS.f k ((List.range n).map fun i : Nat => mkRail (m0 + 3 * (i : Int))) m0) (m0 + 3 * (n : Int)) := by
 refine held_to n 3 m0 (fun k m i => laws_heldRailS.l0 k ((List.range n).map fun i : Nat => mkRail (m0 + 3 * (i : Int))) m i) (fun i hi => ?_) (fun k => ?_)
 ·have hr : rd_T97 ((List.range n).map fun i : Nat => mkRail (m0 + 3 * (i : Int))) (i : Int) = mkRail (m0 + 3 * (i : Int)) := by
   rw [rdIRail _ i (by simpa using hi)]
   simp
  have hb : ((i : Nat) : Int) < (((List.range n).map fun i : Nat => mkRail (m0 + 3 * (i : Int))).length : Int) := by simp; omega
  revert hr hb
  generalize (List.range n).map (fun i : Nat => mkRail (m0 + 3 * (i : Int))) = xs
  intro hr hb
  have hm : (m0 + 3 * ((i + 1 : Nat) : Int)) = m0 + 3 * (i : Int) + 1 + 1 + 1 := by omega
  rw [hm]
  obtain ⟨m, hmm⟩ : ∃ m : Int, m0 + 3 * (i : Int) = m := ⟨_, rfl⟩
  rw [hmm] at hr ⊢
  have h0 : 0 < m := by omega
  have h1 : m ≤ 1000000000 := by omega
  have e1 : wrap64 (m + 1) = m + 1 := w64 (by omega) (by omega)
  have e2 : wrap64 (m + 1 + 1) = m + 1 + 1 := w64 (by omega) (by omega)
  have e3 : wrap64 (m + 1 + 1 + 1) = m + 1 + 1 + 1 := w64 (by omega) (by omega)
  obtain ⟨K0, hK0⟩ := Ev.pick (mtxt_ev (m) (by omega) (by omega))
  obtain ⟨K1, hK1⟩ := Ev.pick (mtxt_ev (m + 1) (by omega) (by omega))
  refine ⟨K0 + K1, fun k hk => ?_⟩
  simp only [laws_heldRailS.l0]
  rw [if_pos hb, if_pos (by omega), w64 (x := (i : Int) + 1) (by omega) (by omega)]
  simp only [hr, mkRail, Option.bind_some, e1, e2, e3, hK0 k (by omega), hK1 k (by omega), if_true]
 ·simp only [laws_heldRailS.l0]
  rw [if_neg (by simp)]
noncomputable def mkBelay (m : Int) : S101 := ⟨mtxt m, mtxt (m + 1), m + 1 + 1⟩
theorem rdIBelay (xs : List S101) (i : Nat) (h : i < xs.length) : rd_T101 xs (i : Int) = xs[i] := by
 unfold rd_T101; rw [Int.toNat_natCast, List.getD_eq_getElem?_getD, List.getElem?_eq_getElem h]; rfl
theorem rdSetBelay (xs : List S101) (i : Nat) (h : i < xs.length) (v : S101) : rd_T101 (xs.set i v) (i : Int) = v := by
 rw [rdIBelay _ i (by simpa using h), List.getElem_set_self]
theorem mark_roundBelay (xs : List S101) (i : Nat) (hi : i < xs.length) (hl : xs.length ≤ 2000000) (m : Int) (h0 : 0 < m) (h1 : m ≤ 1000000000) : ∃ K, ∀ k, K ≤ k → laws_markBelayS.l0 (k + 1) xs m i = laws_markBelayS.l0 k (xs.set i (mkBelay m)) (m + 1 + 1 + 1) ((i : Int) + 1) := by
 have e1 : wrap64 (m + 1) = m + 1 := w64 (by omega) (by omega)
 have e2 : wrap64 (m + 1 + 1) = m + 1 + 1 := w64 (by omega) (by omega)
 have e3 : wrap64 (m + 1 + 1 + 1) = m + 1 + 1 + 1 := w64 (by omega) (by omega)
 obtain ⟨K0, hK0⟩ := Ev.pick (mtxt_ev (m) (by omega) (by omega))
 obtain ⟨K1, hK1⟩ := Ev.pick (mtxt_ev (m + 1) (by omega) (by omega))
 refine ⟨K0 + K1, fun k hk => ?_⟩
 simp only [laws_markBelayS.l0]
 rw [if_pos (by omega), hK0 k (by omega), Option.bind_some, if_pos (by omega), w64 (x := (i : Int) + 1) (by omega) (by omega)]
 simp only [Option.bind_some, Int.toNat_natCast, rdSetBelay xs i hi, List.set_set, e1, e2, e3, hK0 k (by omega), hK1 k (by omega)]
 rfl
theorem markBelay_ev (l : List S101) (m0 : Int) (h0 : 0 < m0) (h1 : m0 ≤ 100000000) (h : l.length ≤ 2000000) : Ev (fun k => laws_markBelayS.f k l m0) (m0 + 3 * (l.length : Int), (List.range l.length).map fun i : Nat => mkBelay (m0 + 3 * (i : Int))) := by
 refine mark_to l.length 3 m0 mkBelay (fun k xs m i => laws_markBelayS.l0 k xs m i) (fun xs i hi hl => ?_) (fun k xs hl => ?_) l rfl
 ·obtain ⟨K, hK⟩ := mark_roundBelay xs i (by omega) (by omega) (m0 + 3 * (i : Int)) (by omega) (by omega)
  refine ⟨K, fun k hk => (hK k hk).trans ?_⟩
  rw [show m0 + 3 * (i : Int) + 1 + 1 + 1 = m0 + 3 * ((i + 1 : Nat) : Int) by omega]
 ·simp only [laws_markBelayS.l0]
  rw [if_neg (by omega)]
theorem heldBelay_ev (n : Nat) (m0 : Int) (h0 : 0 < m0) (h1 : m0 ≤ 100000000) (h : n ≤ 2000000) : Ev (fun k => laws_heldBelayS.f k ((List.range n).map fun i : Nat => mkBelay (m0 + 3 * (i : Int))) m0) (m0 + 3 * (n : Int)) := by
 refine held_to n 3 m0 (fun k m i => laws_heldBelayS.l0 k ((List.range n).map fun i : Nat => mkBelay (m0 + 3 * (i : Int))) m i) (fun i hi => ?_) (fun k => ?_)
 ·have hr : rd_T101 ((List.range n).map fun i : Nat => mkBelay (m0 + 3 * (i : Int))) (i : Int) = mkBelay (m0 + 3 * (i : Int)) := by
   rw [rdIBelay _ i (by simpa using hi)]
   simp
  have hb : ((i : Nat) : Int) < (((List.range n).map fun i : Nat => mkBelay (m0 + 3 * (i : Int))).length : Int) := by simp; omega
  revert hr hb
  generalize (List.range n).map (fun i : Nat => mkBelay (m0 + 3 * (i : Int))) = xs
  intro hr hb
  have hm : (m0 + 3 * ((i + 1 : Nat) : Int)) = m0 + 3 * (i : Int) + 1 + 1 + 1 := by omega
  rw [hm]
  obtain ⟨m, hmm⟩ : ∃ m : Int, m0 + 3 * (i : Int) = m := ⟨_, rfl⟩
  rw [hmm] at hr ⊢
  have h0 : 0 < m := by omega
  have h1 : m ≤ 1000000000 := by omega
  have e1 : wrap64 (m + 1) = m + 1 := w64 (by omega) (by omega)
  have e2 : wrap64 (m + 1 + 1) = m + 1 + 1 := w64 (by omega) (by omega)
  have e3 : wrap64 (m + 1 + 1 + 1) = m + 1 + 1 + 1 := w64 (by omega) (by omega)
  obtain ⟨K0, hK0⟩ := Ev.pick (mtxt_ev (m) (by omega) (by omega))
  obtain ⟨K1, hK1⟩ := Ev.pick (mtxt_ev (m + 1) (by omega) (by omega))
  refine ⟨K0 + K1, fun k hk => ?_⟩
  simp only [laws_heldBelayS.l0]
  rw [if_pos hb, if_pos (by omega), w64 (x := (i : Int) + 1) (by omega) (by omega)]
  simp only [hr, mkBelay, Option.bind_some, e1, e2, e3, hK0 k (by omega), hK1 k (by omega), if_true]
 ·simp only [laws_heldBelayS.l0]
  rw [if_neg (by simp)]
noncomputable def mkCoil (m : Int) : S69 := ⟨mtxt m, m + 1⟩
theorem rdICoil (xs : List S69) (i : Nat) (h : i < xs.length) : rd_T69 xs (i : Int) = xs[i] := by
 unfold rd_T69; rw [Int.toNat_natCast, List.getD_eq_getElem?_getD, List.getElem?_eq_getElem h]; rfl
theorem rdSetCoil (xs : List S69) (i : Nat) (h : i < xs.length) (v : S69) : rd_T69 (xs.set i v) (i : Int) = v := by
 rw [rdICoil _ i (by simpa using h), List.getElem_set_self]
theorem mark_roundCoil (xs : List S69) (i : Nat) (hi : i < xs.length) (hl : xs.length ≤ 2000000) (m : Int) (h0 : 0 < m) (h1 : m ≤ 1000000000) : ∃ K, ∀ k, K ≤ k → laws_markCoilS.l0 (k + 1) xs m i = laws_markCoilS.l0 k (xs.set i (mkCoil m)) (m + 1 + 1) ((i : Int) + 1) := by
 have e1 : wrap64 (m + 1) = m + 1 := w64 (by omega) (by omega)
 have e2 : wrap64 (m + 1 + 1) = m + 1 + 1 := w64 (by omega) (by omega)
 obtain ⟨K0, hK0⟩ := Ev.pick (mtxt_ev (m) (by omega) (by omega))
 refine ⟨K0, fun k hk => ?_⟩
 simp only [laws_markCoilS.l0]
 rw [if_pos (by omega), hK0 k (by omega), Option.bind_some, if_pos (by omega), w64 (x := (i : Int) + 1) (by omega) (by omega)]
 simp only [Option.bind_some, Int.toNat_natCast, rdSetCoil xs i hi, List.set_set, e1, e2, hK0 k (by omega)]
 rfl
theorem markCoil_ev (l : List S69) (m0 : Int) (h0 : 0 < m0) (h1 : m0 ≤ 100000000) (h : l.length ≤ 2000000) : Ev (fun k => laws_markCoilS.f k l m0) (m0 + 2 * (l.length : Int), (List.range l.length).map fun i : Nat => mkCoil (m0 + 2 * (i : Int))) := by
 refine mark_to l.length 2 m0 mkCoil (fun k xs m i => laws_markCoilS.l0 k xs m i) (fun xs i hi hl => ?_) (fun k xs hl => ?_) l rfl
 ·obtain ⟨K, hK⟩ := mark_roundCoil xs i (by omega) (by omega) (m0 + 2 * (i : Int)) (by omega) (by omega)
  refine ⟨K, fun k hk => (hK k hk).trans ?_⟩
  rw [show m0 + 2 * (i : Int) + 1 + 1 = m0 + 2 * ((i + 1 : Nat) : Int) by omega]
 ·simp only [laws_markCoilS.l0]
  rw [if_neg (by omega)]
theorem heldCoil_ev (n : Nat) (m0 : Int) (h0 : 0 < m0) (h1 : m0 ≤ 100000000) (h : n ≤ 2000000) : Ev (fun k => laws_heldCoilS.f k ((List.range n).map fun i : Nat => mkCoil (m0 + 2 * (i : Int))) m0) (m0 + 2 * (n : Int)) := by
 refine held_to n 2 m0 (fun k m i => laws_heldCoilS.l0 k ((List.range n).map fun i : Nat => mkCoil (m0 + 2 * (i : Int))) m i) (fun i hi => ?_) (fun k => ?_)
 ·have hr : rd_T69 ((List.range n).map fun i : Nat => mkCoil (m0 + 2 * (i : Int))) (i : Int) = mkCoil (m0 + 2 * (i : Int)) := by
   rw [rdICoil _ i (by simpa using hi)]
   simp
  have hb : ((i : Nat) : Int) < (((List.range n).map fun i : Nat => mkCoil (m0 + 2 * (i : Int))).length : Int) := by simp; omega
  revert hr hb
  generalize (List.range n).map (fun i : Nat => mkCoil (m0 + 2 * (i : Int))) = xs
  intro hr hb
  have hm : (m0 + 2 * ((i + 1 : Nat) : Int)) = m0 + 2 * (i : Int) + 1 + 1 := by omega
  rw [hm]
  obtain ⟨m, hmm⟩ : ∃ m : Int, m0 + 2 * (i : Int) = m := ⟨_, rfl⟩
  rw [hmm] at hr ⊢
  have h0 : 0 < m := by omega
  have h1 : m ≤ 1000000000 := by omega
  have e1 : wrap64 (m + 1) = m + 1 := w64 (by omega) (by omega)
  have e2 : wrap64 (m + 1 + 1) = m + 1 + 1 := w64 (by omega) (by omega)
  obtain ⟨K0, hK0⟩ := Ev.pick (mtxt_ev (m) (by omega) (by omega))
  refine ⟨K0, fun k hk => ?_⟩
  simp only [laws_heldCoilS.l0]
  rw [if_pos hb, if_pos (by omega), w64 (x := (i : Int) + 1) (by omega) (by omega)]
  simp only [hr, mkCoil, Option.bind_some, e1, e2, hK0 k (by omega), if_true]
 ·simp only [laws_heldCoilS.l0]
  rw [if_neg (by simp)]
noncomputable def mkString (m : Int) : ByteArray := mtxt m
theorem rdIString (xs : List ByteArray) (i : Nat) (h : i < xs.length) : rdOf ByteArray.empty xs (i : Int) = xs[i] := by
 unfold rdOf; rw [Int.toNat_natCast, List.getD_eq_getElem?_getD, List.getElem?_eq_getElem h]; rfl
theorem mark_roundString (xs : List ByteArray) (i : Nat) (hi : i < xs.length) (hl : xs.length ≤ 2000000) (m : Int) (h0 : 0 < m) (h1 : m ≤ 1000000000) : ∃ K, ∀ k, K ≤ k → laws_markStringS.l0 (k + 1) xs m i = laws_markStringS.l0 k (xs.set i (mkString m)) (m + 1) ((i : Int) + 1) := by
 have e1 : wrap64 (m + 1) = m + 1 := w64 (by omega) (by omega)
 obtain ⟨K0, hK0⟩ := Ev.pick (mtxt_ev (m) (by omega) (by omega))
 refine ⟨K0, fun k hk => ?_⟩
 simp only [laws_markStringS.l0]
 rw [if_pos (by omega), hK0 k (by omega), Option.bind_some, if_pos (by omega), w64 (x := (i : Int) + 1) (by omega) (by omega)]
 simp only [Int.toNat_natCast, e1]
 rfl
theorem markString_ev (l : List ByteArray) (m0 : Int) (h0 : 0 < m0) (h1 : m0 ≤ 100000000) (h : l.length ≤ 2000000) : Ev (fun k => laws_markStringS.f k l m0) (m0 + 1 * (l.length : Int), (List.range l.length).map fun i : Nat => mkString (m0 + 1 * (i : Int))) := by
 refine mark_to l.length 1 m0 mkString (fun k xs m i => laws_markStringS.l0 k xs m i) (fun xs i hi hl => ?_) (fun k xs hl => ?_) l rfl
 ·obtain ⟨K, hK⟩ := mark_roundString xs i (by omega) (by omega) (m0 + 1 * (i : Int)) (by omega) (by omega)
  refine ⟨K, fun k hk => (hK k hk).trans ?_⟩
  rw [show m0 + 1 * (i : Int) + 1 = m0 + 1 * ((i + 1 : Nat) : Int) by omega]
 ·simp only [laws_markStringS.l0]
  rw [if_neg (by omega)]
theorem heldString_ev (n : Nat) (m0 : Int) (h0 : 0 < m0) (h1 : m0 ≤ 100000000) (h : n ≤ 2000000) : Ev (fun k => laws_heldStringS.f k ((List.range n).map fun i : Nat => mkString (m0 + 1 * (i : Int))) m0) (m0 + 1 * (n : Int)) := by
 refine held_to n 1 m0 (fun k m i => laws_heldStringS.l0 k ((List.range n).map fun i : Nat => mkString (m0 + 1 * (i : Int))) m i) (fun i hi => ?_) (fun k => ?_)
 ·have hr : rdOf ByteArray.empty ((List.range n).map fun i : Nat => mkString (m0 + 1 * (i : Int))) (i : Int) = mkString (m0 + 1 * (i : Int)) := by
   rw [rdIString _ i (by simpa using hi)]
   simp
  have hb : ((i : Nat) : Int) < (((List.range n).map fun i : Nat => mkString (m0 + 1 * (i : Int))).length : Int) := by simp; omega
  revert hr hb
  generalize (List.range n).map (fun i : Nat => mkString (m0 + 1 * (i : Int))) = xs
  intro hr hb
  have hm : (m0 + 1 * ((i + 1 : Nat) : Int)) = m0 + 1 * (i : Int) + 1 := by omega
  rw [hm]
  obtain ⟨m, hmm⟩ : ∃ m : Int, m0 + 1 * (i : Int) = m := ⟨_, rfl⟩
  rw [hmm] at hr ⊢
  have h0 : 0 < m := by omega
  have h1 : m ≤ 1000000000 := by omega
  have e1 : wrap64 (m + 1) = m + 1 := w64 (by omega) (by omega)
  obtain ⟨K0, hK0⟩ := Ev.pick (mtxt_ev (m) (by omega) (by omega))
  refine ⟨K0, fun k hk => ?_⟩
  simp only [laws_heldStringS.l0]
  rw [if_pos hb, if_pos (by omega), w64 (x := (i : Int) + 1) (by omega) (by omega)]
  simp only [hr, mkString, Option.bind_some, e1, hK0 k (by omega), if_true]
 ·simp only [laws_heldStringS.l0]
  rw [if_neg (by simp)]
theorem desk_marks (d : Int) (rl : List S97) (ln : List ByteArray) (bl : List S101) (cl : List S69) (kp wt : ByteArray) (h1 : rl.length ≤ 1048576) (h2 : ln.length ≤ 1048576) (h3 : bl.length ≤ 1048576) (h4 : cl.length ≤ 1048576) : ∃ (m : Int) (rl' : List S97) (ln' : List ByteArray) (bl' : List S101) (cl' : List S69), 0 < m ∧ Ev (fun k => laws_markDesk.f k d rl ln bl cl kp wt 1) (m, rl', ln', bl', cl') ∧ Ev (fun k => laws_heldDesk.f k d rl' ln' bl' cl' kp wt 1) m := by
 obtain ⟨m1, e1⟩ : ∃ m1 : Int, 1 + 3 * (rl.length : Int) = m1 := ⟨_, rfl⟩
 obtain ⟨m2, e2⟩ : ∃ m2 : Int, m1 + 1 * (ln.length : Int) = m2 := ⟨_, rfl⟩
 obtain ⟨m3, e3⟩ : ∃ m3 : Int, m2 + 3 * (bl.length : Int) = m3 := ⟨_, rfl⟩
 obtain ⟨m4, e4⟩ : ∃ m4 : Int, m3 + 2 * (cl.length : Int) = m4 := ⟨_, rfl⟩
 have a1 := markRail_ev rl 1 (by omega) (by omega) (by omega)
 have b1 := heldRail_ev rl.length 1 (by omega) (by omega) (by omega)
 rw [e1] at a1 b1
 have a2 := markString_ev ln m1 (by omega) (by omega) (by omega)
 have b2 := heldString_ev ln.length m1 (by omega) (by omega) (by omega)
 rw [e2] at a2 b2
 have a3 := markBelay_ev bl m2 (by omega) (by omega) (by omega)
 have b3 := heldBelay_ev bl.length m2 (by omega) (by omega) (by omega)
 rw [e3] at a3 b3
 have a4 := markCoil_ev cl m3 (by omega) (by omega) (by omega)
 have b4 := heldCoil_ev cl.length m3 (by omega) (by omega) (by omega)
 rw [e4] at a4 b4
 have p1 : 0 < m1 := by omega
 have p2 : 0 < m2 := by omega
 have p3 : 0 < m3 := by omega
 have p4 : 0 < m4 := by omega
 clear e1 e2 e3 e4
 generalize (List.range rl.length).map (fun i : Nat => mkRail (1 + 3 * (i : Int))) = x1 at a1 b1
 generalize (List.range ln.length).map (fun i : Nat => mkString (m1 + 1 * (i : Int))) = x2 at a2 b2
 generalize (List.range bl.length).map (fun i : Nat => mkBelay (m2 + 3 * (i : Int))) = x3 at a3 b3
 generalize (List.range cl.length).map (fun i : Nat => mkCoil (m3 + 2 * (i : Int))) = x4 at a4 b4
 obtain ⟨A1, g1⟩ := Ev.pick a1
 obtain ⟨B1, f1⟩ := Ev.pick b1
 obtain ⟨A2, g2⟩ := Ev.pick a2
 obtain ⟨B2, f2⟩ := Ev.pick b2
 obtain ⟨A3, g3⟩ := Ev.pick a3
 obtain ⟨B3, f3⟩ := Ev.pick b3
 obtain ⟨A4, g4⟩ := Ev.pick a4
 obtain ⟨B4, f4⟩ := Ev.pick b4
 refine ⟨m4, x1, x2, x3, x4, p4, Ev.intro (A1 + A2 + A3 + A4) fun k hk => ?_, Ev.intro (B1 + B2 + B3 + B4) fun k hk => ?_⟩
 ·unfold laws_markDesk.f laws_markRig.f
  rw [g1 k (by omega)]
  simp only [Option.bind_some]
  rw [g2 k (by omega)]
  simp only [Option.bind_some]
  rw [g3 k (by omega)]
  simp only [Option.bind_some]
  rw [g4 k (by omega)]
  simp only [Option.bind_some]
 ·unfold laws_heldDesk.f laws_heldRig.f
  rw [f1 k (by omega), Option.bind_some, if_neg (by omega), f2 k (by omega), Option.bind_some, if_neg (by omega), f3 k (by omega), Option.bind_some, if_neg (by omega), Option.bind_some, if_neg (by omega), f4 k (by omega), Option.bind_some, if_neg (by omega)]
theorem law (x : DeskIn) (hx : x.good) (m : Int) : ∃ k, laws_FnExactStartAgain.f k x.d x.rl x.ln x.bl x.cl x.kp x.wt m = some true := by
 obtain ⟨t, pt, h1⟩ := sz_desk x hx 1048576 (by omega) (by omega)
 obtain ⟨K1, g1⟩ := Ev.pick h1
 by_cases ct : t < 0
 ·refine ⟨K1, ?_⟩
  unfold laws_FnExactStartAgain.f
  rw [g1 K1 (Nat.le_refl _), Option.bind_some, if_pos ct]
 obtain ⟨sx, -⟩ := pt.resolve_left ct
 obtain ⟨K2, g2⟩ := Ev.pick (to_desk x sx)
 obtain ⟨a1, a2, a3, a4, a5, a6⟩ := sx
 have a1' : (x.rl.map cvRail).length ≤ 1048576 := by rw [List.length_map]; exact a1
 have a3' : (x.bl.map cvBelay).length ≤ 1048576 := by rw [List.length_map]; exact a3
 have a4' : (x.cl.map cvCoil).length ≤ 1048576 := by rw [List.length_map]; exact a4
 obtain ⟨d', rl', ln', bl', cl', kp', wt', c, h3, h4, b1, b2, b3, b4⟩ := start_both x.d (x.rl.map cvRail) x.ln (x.bl.map cvBelay) (x.cl.map cvCoil) x.kp x.wt m a1' a2 a3' a4' a5 a6
 obtain ⟨K3, g3⟩ := Ev.pick h3
 obtain ⟨K4, g4⟩ := Ev.pick h4
 obtain ⟨K5, g5⟩ := Ev.pick (eq_desk x.d (x.rl.map cvRail) x.ln (x.bl.map cvBelay) (x.cl.map cvCoil) x.kp x.wt a1' a2 a3' a4')
 obtain ⟨K6, g6⟩ := Ev.pick (eq_desk d' rl' ln' bl' cl' kp' wt' b1 b2 b3 b4)
 obtain ⟨n, r1, r2, r3, r4, hn, hmk, hh⟩ := desk_marks d' rl' ln' bl' cl' kp' wt' b1 b2 b3 b4
 obtain ⟨K7, g7⟩ := Ev.pick hmk
 obtain ⟨K8, g8⟩ := Ev.pick hh
 obtain ⟨n', s1, s2, s3, s4, hn', hmk', -⟩ := desk_marks x.d (x.rl.map cvRail) x.ln (x.bl.map cvBelay) (x.cl.map cvCoil) x.kp x.wt a1' a2 a3' a4'
 obtain ⟨K9, g9⟩ := Ev.pick hmk'
 have cc : (c != c) = false := by simp
 obtain ⟨K, hK⟩ : ∃ K, K = K1 + K2 + K3 + K4 + K5 + K6 + K7 + K8 + K9 := ⟨_, rfl⟩
 refine ⟨K + 3, ?_⟩
 unfold laws_FnExactStartAgain.f
 rw [g1 _ (by omega), Option.bind_some, if_neg ct, g2 _ (by omega), Option.bind_some]
 simp only
 rw [g3 _ (by omega), Option.bind_some, Option.bind_some, g4 _ (by omega), Option.bind_some]
 simp only
 rw [g6 _ (by omega), Option.bind_some, if_pos rfl, cc]
 show laws_FnExactStartAgain.j0 ((K + 2) + 1) m c c false x.d x.rl x.ln x.bl x.cl x.kp x.wt d' rl' ln' bl' cl' kp' wt' x.d (x.rl.map cvRail) x.ln (x.bl.map cvBelay) (x.cl.map cvCoil) x.kp x.wt d' rl' ln' bl' cl' kp' wt' = _
 simp only [laws_FnExactStartAgain.j0]
 rw [if_neg (by simp), g2 _ (by omega), Option.bind_some]
 simp only
 rw [g5 _ (by omega), Option.bind_some, if_pos rfl, g9 _ (by omega), Option.bind_some]
 simp only
 rw [if_neg (by omega), g6 _ (by omega), Option.bind_some, if_pos rfl, cc]
 show laws_FnExactStartAgain.j1 ((K + 1) + 1) m c false x.d x.rl x.ln x.bl x.cl x.kp x.wt d' rl' ln' bl' cl' kp' wt' d' rl' ln' bl' cl' kp' wt' = _
 simp only [laws_FnExactStartAgain.j1]
 rw [if_neg (by simp), g7 _ (by omega), Option.bind_some]
 simp only
 rw [g8 _ (by omega), Option.bind_some, if_neg (by omega), if_pos rfl, g2 _ (by omega), Option.bind_some]
 simp only
 rw [g4 _ (by omega), Option.bind_some]
 simp only
 rw [g6 _ (by omega), Option.bind_some, if_pos rfl, cc]
 show laws_FnExactStartAgain.j2 (K + 1) n false d' r1 r2 r3 r4 kp' wt' = _
 simp only [laws_FnExactStartAgain.j2]
 rw [if_neg (by simp), g8 _ (by omega), Option.bind_some, if_neg (by omega), if_pos rfl]
end FnExactStartAgain_
open FnExactStartAgain_ in
theorem FnExactStartAgain : ∀ (a0_0 : Int) (l0_1 : List S119) (l0_2 : List ByteArray) (l0_3 : List S121) (l0_4 : List S88) (a0_5 : ByteArray) (a0_6 : ByteArray) (a1 : Int), (Lit.int .i64 a0_0).wf = true → (l0_1.length ≤ maxLen ∧ ∀ x ∈ l0_1, G119 x) → (l0_2.length ≤ maxLen ∧ ∀ x ∈ l0_2, x.size ≤ maxLen) → (l0_3.length ≤ maxLen ∧ ∀ x ∈ l0_3, G121 x) → (l0_4.length ≤ maxLen ∧ ∀ x ∈ l0_4, G88 x) → a0_5.size ≤ maxLen → a0_6.size ≤ maxLen → (Lit.int .i64 a1).wf = true → ∃ k, laws_FnExactStartAgain.f k a0_0 l0_1 l0_2 l0_3 l0_4 a0_5 a0_6 a1 = some true :=
 fun a b c d e f g m _ h1 h2 h3 h4 h5 h6 _ => law ⟨a, b, c, d, e, f, g⟩ ⟨h1, h2, h3, h4, h5, h6⟩ m
end Go.Proofs.YtkoeeajciciphaaGreatDoor.Pure
