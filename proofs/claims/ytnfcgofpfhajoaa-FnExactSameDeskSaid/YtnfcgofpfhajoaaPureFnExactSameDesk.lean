/- For all desks the program's SameDesk and the reference's SameDesk tell the same; what was handed in is as it was. -/
import Derived.Test.YtnfcgofpfhajoaaQFnExactSameDeskx11
import Derived.Test.YtnfcgofpfhajoaaBase
namespace Go.Proofs.Ytnfcgofpfhajoaa.Pure
open Go.RowKit Go.Proofs.Ytnfcgofpfhajoaa.QFnExactSameDesk Go.Proofs.YtnfcgofpfhajoaaW.PrintWords Go.Proofs.YtnfcgofpfhajoaaW.PrintLast Go.Proofs.Ytnfcgofpfhajoaa.Base
set_option linter.unusedVariables false
set_option linter.unusedSimpArgs false

def G174 (z : S174) : Prop := z.f0.size ≤ maxLen ∧ z.f1.size ≤ maxLen ∧ (Lit.int .i64 z.f2).wf = true
def G176 (z : S176) : Prop := z.f0.size ≤ maxLen ∧ z.f1.size ≤ maxLen ∧ (Lit.int .i64 z.f2).wf = true
def G144 (z : S144) : Prop := z.f0.size ≤ maxLen ∧ (Lit.int .i64 z.f1).wf = true

namespace FnExactSameDesk_
theorem rdlawsRail (xs : List S174) (i : Nat) (h : i < xs.length) : rd_T174 xs (i : Int) = xs[i] := by
  unfold rd_T174; rw [Int.toNat_natCast, List.getD_eq_getElem?_getD, List.getElem?_eq_getElem h]; rfl
theorem rdlawsBelay (xs : List S176) (i : Nat) (h : i < xs.length) : rd_T176 xs (i : Int) = xs[i] := by
  unfold rd_T176; rw [Int.toNat_natCast, List.getD_eq_getElem?_getD, List.getElem?_eq_getElem h]; rfl
theorem rdlawsCoil (xs : List S144) (i : Nat) (h : i < xs.length) : rd_T144 xs (i : Int) = xs[i] := by
  unfold rd_T144; rw [Int.toNat_natCast, List.getD_eq_getElem?_getD, List.getElem?_eq_getElem h]; rfl
theorem rdimplRail (xs : List S146) (i : Nat) (h : i < xs.length) : rd_T146 xs (i : Int) = xs[i] := by
  unfold rd_T146; rw [Int.toNat_natCast, List.getD_eq_getElem?_getD, List.getElem?_eq_getElem h]; rfl
theorem rdimplBelay (xs : List S148) (i : Nat) (h : i < xs.length) : rd_T148 xs (i : Int) = xs[i] := by
  unfold rd_T148; rw [Int.toNat_natCast, List.getD_eq_getElem?_getD, List.getElem?_eq_getElem h]; rfl
theorem rdimplCoil (xs : List S149) (i : Nat) (h : i < xs.length) : rd_T149 xs (i : Int) = xs[i] := by
  unfold rd_T149; rw [Int.toNat_natCast, List.getD_eq_getElem?_getD, List.getElem?_eq_getElem h]; rfl
theorem rdO (l : List ByteArray) (i : Nat) (h : i < l.length) : rdOf ByteArray.empty l (i : Int) = l[i] := by
  unfold rdOf
  rw [Int.toNat_natCast, List.getD_eq_getElem?_getD, List.getElem?_eq_getElem h]
  rfl

theorem sz_Rail1 (x : S174) (hx : G174 x) (left : Int) (h0 : 0 ≤ left) (h1 : left ≤ 1048576) : ∃ t, laws_szRail.f x.f0 x.f1 x.f2 left = some t ∧ t ≤ 1048576 := by
  unfold G174 at hx
  unfold maxLen at hx
  unfold laws_szRail.f wrap64
  repeat' split
  all_goals exact ⟨_, rfl, by omega⟩
theorem sz_Belay1 (x : S176) (hx : G176 x) (left : Int) (h0 : 0 ≤ left) (h1 : left ≤ 1048576) : ∃ t, laws_szBelay.f x.f0 x.f1 x.f2 left = some t ∧ t ≤ 1048576 := by
  unfold G176 at hx
  unfold maxLen at hx
  unfold laws_szBelay.f wrap64
  repeat' split
  all_goals exact ⟨_, rfl, by omega⟩
theorem sz_Coil1 (x : S144) (hx : G144 x) (left : Int) (h0 : 0 ≤ left) (h1 : left ≤ 1048576) : ∃ t, laws_szCoil.f x.f0 x.f1 left = some t ∧ t ≤ 1048576 := by
  unfold G144 at hx
  unfold maxLen at hx
  unfold laws_szCoil.f wrap64
  repeat' split
  all_goals exact ⟨_, rfl, by omega⟩
theorem sz_RailS (l : List S174) (left : Int) (h0 : 0 ≤ left) (h1 : left ≤ 1048576) (h : l.length ≤ maxLen) (hg : ∀ x ∈ l, G174 x) : ∃ r, (r < 0 ∨ l.length ≤ 1048576 ∧ r ≤ 1048576) ∧ Ev (fun k => laws_szRailS.f k l left) r := by
  unfold maxLen at h
  by_cases c : left < l.length
  · refine ⟨-1, .inl (by omega), Ev.all fun k => ?_⟩
    unfold laws_szRailS.f
    rw [w64 (by omega) (by omega), if_pos (by omega)]
  · have h3 := for_ev l.length (fun k (s : Int) i => laws_szRailS.l0 k l s i) (fun _ s => 0 ≤ s ∧ s ≤ 1048576) (fun r => r < 0 ∨ r ≤ 1048576) (fun i s hi hs => ?_) (fun s hs => ⟨s, .inr hs.2, Ev.const fun k => by simp only [laws_szRailS.l0]; rw [if_neg (by omega)]⟩) l.length 0 (left - (l.length : Int)) (by omega) (by omega)
    · obtain ⟨r, hr, hev⟩ := h3
      refine ⟨r, hr.elim .inl fun hr => .inr ⟨by omega, hr⟩, Ev.congr (fun k => ?_) hev⟩
      unfold laws_szRailS.f
      rw [w64 (by omega) (by omega), if_neg (by omega)]
      rfl
    · obtain ⟨t, ht, htm⟩ := sz_Rail1 l[i] (hg _ (List.getElem_mem hi)) s hs.1 hs.2
      by_cases c2 : t < 0
      · refine .inr ⟨-1, .inl (by omega), Ev.const fun k => ?_⟩
        simp only [laws_szRailS.l0]
        rw [if_pos (by omega), if_pos (by omega), rdlawsRail l i hi, ht]
        simp only [Option.bind_some]
        rw [if_pos c2]
      · refine .inl ⟨t, ⟨by omega, htm⟩, 0, fun k _ => ?_⟩
        simp only [laws_szRailS.l0]
        rw [if_pos (by omega), if_pos (by omega), rdlawsRail l i hi, ht]
        simp only [Option.bind_some]
        rw [if_neg c2, w64 (by omega) (by omega)]
theorem sz_BelayS (l : List S176) (left : Int) (h0 : 0 ≤ left) (h1 : left ≤ 1048576) (h : l.length ≤ maxLen) (hg : ∀ x ∈ l, G176 x) : ∃ r, (r < 0 ∨ l.length ≤ 1048576 ∧ r ≤ 1048576) ∧ Ev (fun k => laws_szBelayS.f k l left) r := by
  unfold maxLen at h
  by_cases c : left < l.length
  · refine ⟨-1, .inl (by omega), Ev.all fun k => ?_⟩
    unfold laws_szBelayS.f
    rw [w64 (by omega) (by omega), if_pos (by omega)]
  · have h3 := for_ev l.length (fun k (s : Int) i => laws_szBelayS.l0 k l s i) (fun _ s => 0 ≤ s ∧ s ≤ 1048576) (fun r => r < 0 ∨ r ≤ 1048576) (fun i s hi hs => ?_) (fun s hs => ⟨s, .inr hs.2, Ev.const fun k => by simp only [laws_szBelayS.l0]; rw [if_neg (by omega)]⟩) l.length 0 (left - (l.length : Int)) (by omega) (by omega)
    · obtain ⟨r, hr, hev⟩ := h3
      refine ⟨r, hr.elim .inl fun hr => .inr ⟨by omega, hr⟩, Ev.congr (fun k => ?_) hev⟩
      unfold laws_szBelayS.f
      rw [w64 (by omega) (by omega), if_neg (by omega)]
      rfl
    · obtain ⟨t, ht, htm⟩ := sz_Belay1 l[i] (hg _ (List.getElem_mem hi)) s hs.1 hs.2
      by_cases c2 : t < 0
      · refine .inr ⟨-1, .inl (by omega), Ev.const fun k => ?_⟩
        simp only [laws_szBelayS.l0]
        rw [if_pos (by omega), if_pos (by omega), rdlawsBelay l i hi, ht]
        simp only [Option.bind_some]
        rw [if_pos c2]
      · refine .inl ⟨t, ⟨by omega, htm⟩, 0, fun k _ => ?_⟩
        simp only [laws_szBelayS.l0]
        rw [if_pos (by omega), if_pos (by omega), rdlawsBelay l i hi, ht]
        simp only [Option.bind_some]
        rw [if_neg c2, w64 (by omega) (by omega)]
theorem sz_CoilS (l : List S144) (left : Int) (h0 : 0 ≤ left) (h1 : left ≤ 1048576) (h : l.length ≤ maxLen) (hg : ∀ x ∈ l, G144 x) : ∃ r, (r < 0 ∨ l.length ≤ 1048576 ∧ r ≤ 1048576) ∧ Ev (fun k => laws_szCoilS.f k l left) r := by
  unfold maxLen at h
  by_cases c : left < l.length
  · refine ⟨-1, .inl (by omega), Ev.all fun k => ?_⟩
    unfold laws_szCoilS.f
    rw [w64 (by omega) (by omega), if_pos (by omega)]
  · have h3 := for_ev l.length (fun k (s : Int) i => laws_szCoilS.l0 k l s i) (fun _ s => 0 ≤ s ∧ s ≤ 1048576) (fun r => r < 0 ∨ r ≤ 1048576) (fun i s hi hs => ?_) (fun s hs => ⟨s, .inr hs.2, Ev.const fun k => by simp only [laws_szCoilS.l0]; rw [if_neg (by omega)]⟩) l.length 0 (left - (l.length : Int)) (by omega) (by omega)
    · obtain ⟨r, hr, hev⟩ := h3
      refine ⟨r, hr.elim .inl fun hr => .inr ⟨by omega, hr⟩, Ev.congr (fun k => ?_) hev⟩
      unfold laws_szCoilS.f
      rw [w64 (by omega) (by omega), if_neg (by omega)]
      rfl
    · obtain ⟨t, ht, htm⟩ := sz_Coil1 l[i] (hg _ (List.getElem_mem hi)) s hs.1 hs.2
      by_cases c2 : t < 0
      · refine .inr ⟨-1, .inl (by omega), Ev.const fun k => ?_⟩
        simp only [laws_szCoilS.l0]
        rw [if_pos (by omega), if_pos (by omega), rdlawsCoil l i hi, ht]
        simp only [Option.bind_some]
        rw [if_pos c2]
      · refine .inl ⟨t, ⟨by omega, htm⟩, 0, fun k _ => ?_⟩
        simp only [laws_szCoilS.l0]
        rw [if_pos (by omega), if_pos (by omega), rdlawsCoil l i hi, ht]
        simp only [Option.bind_some]
        rw [if_neg c2, w64 (by omega) (by omega)]
theorem sz_StringS (l : List ByteArray) (left : Int) (h0 : 0 ≤ left) (h1 : left ≤ 1048576) (h : l.length ≤ maxLen) (hg : ∀ x ∈ l, x.size ≤ maxLen) : ∃ r, (r < 0 ∨ l.length ≤ 1048576 ∧ r ≤ 1048576) ∧ Ev (fun k => laws_szStringS.f k l left) r := by
  unfold maxLen at h
  by_cases c : left < l.length
  · refine ⟨-1, .inl (by omega), Ev.all fun k => ?_⟩
    unfold laws_szStringS.f
    rw [w64 (by omega) (by omega), if_pos (by omega)]
  · have h3 := for_ev l.length (fun k (s : Int) i => laws_szStringS.l0 k l s i) (fun _ s => 0 ≤ s ∧ s ≤ 1048576) (fun r => r < 0 ∨ r ≤ 1048576) (fun i s hi hs => ?_) (fun s hs => ⟨s, .inr hs.2, Ev.const fun k => by simp only [laws_szStringS.l0]; rw [if_neg (by omega)]⟩) l.length 0 (left - (l.length : Int)) (by omega) (by omega)
    · obtain ⟨r, hr, hev⟩ := h3
      refine ⟨r, hr.elim .inl fun hr => .inr ⟨by omega, hr⟩, Ev.congr (fun k => ?_) hev⟩
      unfold laws_szStringS.f
      rw [w64 (by omega) (by omega), if_neg (by omega)]
      rfl
    · have hz : l[i].size ≤ maxLen := hg _ (List.getElem_mem hi)
      unfold maxLen at hz
      have hw : wrap64 (s - (l[i].size : Int)) = s - (l[i].size : Int) := w64 (by omega) (by omega)
      by_cases c2 : s - (l[i].size : Int) < 0
      · refine .inr ⟨-1, .inl (by omega), Ev.const fun k => ?_⟩
        simp only [laws_szStringS.l0]
        rw [if_pos (by omega), if_pos (by omega), rdO l i hi, hw, if_pos c2]
      · refine .inl ⟨s - (l[i].size : Int), ⟨by omega, by omega⟩, 0, fun k _ => ?_⟩
        simp only [laws_szStringS.l0]
        rw [if_pos (by omega), if_pos (by omega), rdO l i hi, hw, if_neg c2, w64 (by omega) (by omega)]
theorem sz_log3 (a b : ByteArray) (t : Int) (h0 : 0 ≤ t) (h1 : t ≤ 1048576) (ha : a.size ≤ maxLen) (hb : b.size ≤ maxLen) : ∃ u, laws_szLog.f a b t = some u ∧ (u < 0 ∨ a.size ≤ 1048576 ∧ b.size ≤ 1048576 ∧ u ≤ 1048576) := by
  unfold maxLen at ha hb
  unfold laws_szLog.f
  rw [w64 (x := t - (a.size : Int)) (by omega) (by omega)]
  split
  · exact ⟨-1, rfl, .inl (by omega)⟩
  · rw [w64 (by omega) (by omega)]
    split
    · exact ⟨-1, rfl, .inl (by omega)⟩
    · exact ⟨_, rfl, .inr (by omega)⟩
/-- A desk as the law is handed it, within what the law's size bears. -/
structure DeskIn where
  d : Int
  rl : List S174
  ln : List ByteArray
  bl : List S176
  cl : List S144
  kp : ByteArray
  wt : ByteArray
def DeskIn.good (x : DeskIn) : Prop := (x.rl.length ≤ maxLen ∧ ∀ y ∈ x.rl, G174 y) ∧ (x.ln.length ≤ maxLen ∧ ∀ y ∈ x.ln, y.size ≤ maxLen) ∧ (x.bl.length ≤ maxLen ∧ ∀ y ∈ x.bl, G176 y) ∧ (x.cl.length ≤ maxLen ∧ ∀ y ∈ x.cl, G144 y) ∧ x.kp.size ≤ maxLen ∧ x.wt.size ≤ maxLen
def DeskIn.small (x : DeskIn) : Prop := x.rl.length ≤ 1048576 ∧ x.ln.length ≤ 1048576 ∧ x.bl.length ≤ 1048576 ∧ x.cl.length ≤ 1048576 ∧ x.kp.size ≤ 1048576 ∧ x.wt.size ≤ 1048576
theorem sz_desk (x : DeskIn) (hx : x.good) (left : Int) (h0 : 0 ≤ left) (h1 : left ≤ 1048576) : ∃ r, (r < 0 ∨ x.small ∧ r ≤ 1048576) ∧ Ev (fun k => laws_szDesk.f k x.d x.rl x.ln x.bl x.cl x.kp x.wt left) r := by
  obtain ⟨⟨a1, a2⟩, ⟨b1, b2⟩, ⟨c1, c2⟩, ⟨d1, d2⟩, e1, e2⟩ := hx
  obtain ⟨r1, p1, ev1⟩ := sz_RailS x.rl left h0 h1 a1 a2
  obtain ⟨K1, g1⟩ := Ev.pick ev1
  by_cases n1 : r1 < 0
  · refine ⟨-1, .inl (by omega), Ev.intro K1 fun k hk => ?_⟩
    unfold laws_szDesk.f laws_szRig.f
    rw [g1 k hk]
    simp only [Option.bind_some]
    rw [if_pos n1]
    rfl
  obtain ⟨p1a, p1b⟩ := p1.resolve_left n1
  obtain ⟨r2, p2, ev2⟩ := sz_StringS x.ln r1 (by omega) p1b b1 b2
  obtain ⟨K2, g2⟩ := Ev.pick ev2
  by_cases n2 : r2 < 0
  · refine ⟨-1, .inl (by omega), Ev.intro (K1 + K2) fun k hk => ?_⟩
    unfold laws_szDesk.f laws_szRig.f
    rw [g1 k (by omega)]
    simp only [Option.bind_some]
    rw [if_neg n1, g2 k (by omega)]
    simp only [Option.bind_some]
    rw [if_pos n2]
    rfl
  obtain ⟨p2a, p2b⟩ := p2.resolve_left n2
  obtain ⟨r3, p3, ev3⟩ := sz_BelayS x.bl r2 (by omega) p2b c1 c2
  obtain ⟨K3, g3⟩ := Ev.pick ev3
  by_cases n3 : r3 < 0
  · refine ⟨-1, .inl (by omega), Ev.intro (K1 + K2 + K3) fun k hk => ?_⟩
    unfold laws_szDesk.f laws_szRig.f
    rw [g1 k (by omega)]
    simp only [Option.bind_some]
    rw [if_neg n1, g2 k (by omega)]
    simp only [Option.bind_some]
    rw [if_neg n2, g3 k (by omega)]
    simp only [Option.bind_some]
    rw [if_pos n3]
    rfl
  obtain ⟨p3a, p3b⟩ := p3.resolve_left n3
  obtain ⟨r4, p4, ev4⟩ := sz_CoilS x.cl r3 (by omega) p3b d1 d2
  obtain ⟨K4, g4⟩ := Ev.pick ev4
  have rig : ∀ k, K1 + K2 + K3 ≤ k → laws_szRig.f k x.rl x.ln x.bl left = some r3 := fun k hk => by
    unfold laws_szRig.f
    rw [g1 k (by omega)]
    simp only [Option.bind_some]
    rw [if_neg n1, g2 k (by omega)]
    simp only [Option.bind_some]
    rw [if_neg n2, g3 k (by omega)]
    simp only [Option.bind_some]
    rw [if_neg n3]
  by_cases n4 : r4 < 0
  · refine ⟨-1, .inl (by omega), Ev.intro (K1 + K2 + K3 + K4) fun k hk => ?_⟩
    unfold laws_szDesk.f
    rw [rig k (by omega)]
    simp only [Option.bind_some]
    rw [if_neg n3, g4 k (by omega)]
    simp only [Option.bind_some]
    rw [if_pos n4]
  obtain ⟨p4a, p4b⟩ := p4.resolve_left n4
  obtain ⟨r5, h5, p5⟩ := sz_log3 x.kp x.wt r4 (by omega) p4b e1 e2
  refine ⟨if r5 < 0 then -1 else r5, ?_, Ev.intro (K1 + K2 + K3 + K4) fun k hk => ?_⟩
  · by_cases n5 : r5 < 0
    · rw [if_pos n5]; exact .inl (by omega)
    · rw [if_neg n5]
      obtain ⟨q1, q2, q3⟩ := p5.resolve_left n5
      exact .inr ⟨⟨p1a, p2a, p3a, p4a, q1, q2⟩, q3⟩
  · unfold laws_szDesk.f
    rw [rig k (by omega)]
    simp only [Option.bind_some]
    rw [if_neg n3, g4 k (by omega)]
    simp only [Option.bind_some]
    rw [if_neg n4, h5]
    simp only [Option.bind_some]
    split <;> rfl

def cvRail (x : S174) : S146 := ⟨x.f0, x.f1, x.f2⟩
theorem to_RailS (l : List S174) (h : l.length ≤ 1048576) : Ev (fun k => laws_toRailS.f k l) (l.map cvRail) := by
  have round : ∀ k acc (i : Nat) (h : i < l.length), acc.length = l.length → laws_toRailS.l0 (k + 1) l acc (i : Int) = laws_toRailS.l0 k l (acc.set i (cvRail l[i])) ((i : Int) + 1) := by
    intro k acc i hi hl
    simp only [laws_toRailS.l0, laws_toRail.f, Option.bind_some]
    rw [if_pos (by omega), if_pos (by omega), if_pos (by omega), w64 (by omega) (by omega), rdlawsRail l i hi, Int.toNat_natCast]
    rfl
  have fin : ∀ k acc, laws_toRailS.l0 (k + 1) l acc (l.length : Int) = some acc := by
    intro k acc
    simp only [laws_toRailS.l0]
    rw [if_neg (by omega)]
  have := fill_to l cvRail (fun k acc i => laws_toRailS.l0 k l acc i) round fin (List.replicate l.length z146) (by simp)
  refine Ev.congr (fun k => ?_) this
  unfold laws_toRailS.f
  rw [if_pos (by omega), if_pos (by rw [Int.toNat_natCast]; omega), Int.toNat_natCast]
def cvBelay (x : S176) : S148 := ⟨x.f0, x.f1, x.f2⟩
theorem to_BelayS (l : List S176) (h : l.length ≤ 1048576) : Ev (fun k => laws_toBelayS.f k l) (l.map cvBelay) := by
  have round : ∀ k acc (i : Nat) (h : i < l.length), acc.length = l.length → laws_toBelayS.l0 (k + 1) l acc (i : Int) = laws_toBelayS.l0 k l (acc.set i (cvBelay l[i])) ((i : Int) + 1) := by
    intro k acc i hi hl
    simp only [laws_toBelayS.l0, laws_toBelay.f, Option.bind_some]
    rw [if_pos (by omega), if_pos (by omega), if_pos (by omega), w64 (by omega) (by omega), rdlawsBelay l i hi, Int.toNat_natCast]
    rfl
  have fin : ∀ k acc, laws_toBelayS.l0 (k + 1) l acc (l.length : Int) = some acc := by
    intro k acc
    simp only [laws_toBelayS.l0]
    rw [if_neg (by omega)]
  have := fill_to l cvBelay (fun k acc i => laws_toBelayS.l0 k l acc i) round fin (List.replicate l.length z148) (by simp)
  refine Ev.congr (fun k => ?_) this
  unfold laws_toBelayS.f
  rw [if_pos (by omega), if_pos (by rw [Int.toNat_natCast]; omega), Int.toNat_natCast]
def cvCoil (x : S144) : S149 := ⟨x.f0, x.f1⟩
theorem to_CoilS (l : List S144) (h : l.length ≤ 1048576) : Ev (fun k => laws_toCoilS.f k l) (l.map cvCoil) := by
  have round : ∀ k acc (i : Nat) (h : i < l.length), acc.length = l.length → laws_toCoilS.l0 (k + 1) l acc (i : Int) = laws_toCoilS.l0 k l (acc.set i (cvCoil l[i])) ((i : Int) + 1) := by
    intro k acc i hi hl
    simp only [laws_toCoilS.l0, laws_toCoil.f, Option.bind_some]
    rw [if_pos (by omega), if_pos (by omega), if_pos (by omega), w64 (by omega) (by omega), rdlawsCoil l i hi, Int.toNat_natCast]
    rfl
  have fin : ∀ k acc, laws_toCoilS.l0 (k + 1) l acc (l.length : Int) = some acc := by
    intro k acc
    simp only [laws_toCoilS.l0]
    rw [if_neg (by omega)]
  have := fill_to l cvCoil (fun k acc i => laws_toCoilS.l0 k l acc i) round fin (List.replicate l.length z149) (by simp)
  refine Ev.congr (fun k => ?_) this
  unfold laws_toCoilS.f
  rw [if_pos (by omega), if_pos (by rw [Int.toNat_natCast]; omega), Int.toNat_natCast]
theorem to_StringS (l : List ByteArray) (h : l.length ≤ 1048576) : Ev (fun k => laws_toStringS.f k l) l := by
  have round : ∀ k acc (i : Nat) (h : i < l.length), acc.length = l.length → laws_toStringS.l0 (k + 1) l acc (i : Int) = laws_toStringS.l0 k l (acc.set i (id l[i])) ((i : Int) + 1) := by
    intro k acc i hi hl
    simp only [laws_toStringS.l0]
    rw [if_pos (by omega), if_pos (by omega), if_pos (by omega), w64 (by omega) (by omega), rdO l i hi, Int.toNat_natCast]
    rfl
  have fin : ∀ k acc, laws_toStringS.l0 (k + 1) l acc (l.length : Int) = some acc := by
    intro k acc
    simp only [laws_toStringS.l0]
    rw [if_neg (by omega)]
  have := fill_to l id (fun k acc i => laws_toStringS.l0 k l acc i) round fin (List.replicate l.length (⟨#[]⟩ : ByteArray)) (by simp)
  rw [List.map_id] at this
  refine Ev.congr (fun k => ?_) this
  unfold laws_toStringS.f
  rw [if_pos (by omega), if_pos (by rw [Int.toNat_natCast]; omega), Int.toNat_natCast]
theorem to_desk (x : DeskIn) (hx : x.small) : Ev (fun k => laws_toDesk.f k x.d x.rl x.ln x.bl x.cl x.kp x.wt) (x.d, x.rl.map cvRail, x.ln, x.bl.map cvBelay, x.cl.map cvCoil, x.kp, x.wt) := by
  obtain ⟨K1, g1⟩ := Ev.pick (to_RailS x.rl hx.1)
  obtain ⟨K2, g2⟩ := Ev.pick (to_StringS x.ln hx.2.1)
  obtain ⟨K3, g3⟩ := Ev.pick (to_BelayS x.bl hx.2.2.1)
  obtain ⟨K4, g4⟩ := Ev.pick (to_CoilS x.cl hx.2.2.2.1)
  refine Ev.intro (K1 + K2 + K3 + K4) fun k hk => ?_
  unfold laws_toDesk.f laws_toRig.f laws_toLog.f
  simp (disch := omega) only [g1, g2, g3, g4, Option.bind_some]

theorem eq_RailS (l : List S146) (h : l.length ≤ 1048576) : Ev (fun k => laws_eqRailS.f k l l) true := by
  refine Ev.congr (f := fun k => laws_eqRailS.l0 k l l 0) (fun k => by unfold laws_eqRailS.f; rw [if_pos rfl]) ?_
  refine go_to l.length (fun k i => laws_eqRailS.l0 k l l i) true (fun i hi => ⟨0, fun k _ => ?_⟩) (Ev.const fun k => ?_)
  · simp only [laws_eqRailS.l0, laws_eqRail.f, if_true, Option.bind_some]
    rw [if_pos (by omega), if_pos (by omega), if_pos (by omega), w64 (by omega) (by omega)]
  · simp only [laws_eqRailS.l0]
    rw [if_neg (by omega)]
theorem eq_BelayS (l : List S148) (h : l.length ≤ 1048576) : Ev (fun k => laws_eqBelayS.f k l l) true := by
  refine Ev.congr (f := fun k => laws_eqBelayS.l0 k l l 0) (fun k => by unfold laws_eqBelayS.f; rw [if_pos rfl]) ?_
  refine go_to l.length (fun k i => laws_eqBelayS.l0 k l l i) true (fun i hi => ⟨0, fun k _ => ?_⟩) (Ev.const fun k => ?_)
  · simp only [laws_eqBelayS.l0, laws_eqBelay.f, if_true, Option.bind_some]
    rw [if_pos (by omega), if_pos (by omega), if_pos (by omega), w64 (by omega) (by omega)]
  · simp only [laws_eqBelayS.l0]
    rw [if_neg (by omega)]
theorem eq_CoilS (l : List S149) (h : l.length ≤ 1048576) : Ev (fun k => laws_eqCoilS.f k l l) true := by
  refine Ev.congr (f := fun k => laws_eqCoilS.l0 k l l 0) (fun k => by unfold laws_eqCoilS.f; rw [if_pos rfl]) ?_
  refine go_to l.length (fun k i => laws_eqCoilS.l0 k l l i) true (fun i hi => ⟨0, fun k _ => ?_⟩) (Ev.const fun k => ?_)
  · simp only [laws_eqCoilS.l0, laws_eqCoil.f, if_true, Option.bind_some]
    rw [if_pos (by omega), if_pos (by omega), if_pos (by omega), w64 (by omega) (by omega)]
  · simp only [laws_eqCoilS.l0]
    rw [if_neg (by omega)]
theorem eq_StringS (l : List ByteArray) (h : l.length ≤ 1048576) : Ev (fun k => laws_eqStringS.f k l l) true := by
  refine Ev.congr (f := fun k => laws_eqStringS.l0 k l l 0) (fun k => by unfold laws_eqStringS.f; rw [if_pos rfl]) ?_
  refine go_to l.length (fun k i => laws_eqStringS.l0 k l l i) true (fun i hi => ⟨0, fun k _ => ?_⟩) (Ev.const fun k => ?_)
  · simp only [laws_eqStringS.l0, if_true]
    rw [if_pos (by omega), if_pos (by omega), if_pos (by omega), w64 (by omega) (by omega)]
  · simp only [laws_eqStringS.l0]
    rw [if_neg (by omega)]
theorem eq_desk (d : Int) (rl : List S146) (ln : List ByteArray) (bl : List S148) (cl : List S149) (kp wt : ByteArray) (h1 : rl.length ≤ 1048576) (h2 : ln.length ≤ 1048576) (h3 : bl.length ≤ 1048576) (h4 : cl.length ≤ 1048576) : Ev (fun k => laws_eqDesk.f k d rl ln bl cl kp wt d rl ln bl cl kp wt) true := by
  obtain ⟨K1, g1⟩ := Ev.pick (eq_RailS rl h1)
  obtain ⟨K2, g2⟩ := Ev.pick (eq_StringS ln h2)
  obtain ⟨K3, g3⟩ := Ev.pick (eq_BelayS bl h3)
  obtain ⟨K4, g4⟩ := Ev.pick (eq_CoilS cl h4)
  refine Ev.intro (K1 + K2 + K3 + K4) fun k hk => ?_
  unfold laws_eqDesk.f laws_eqRig.f laws_eqLog.f
  simp (disch := omega) only [g1, g2, g3, g4, Option.bind_some, if_true]

def dfRail (l m : List S146) (i : Nat) : Bool := (!((((rd_T146 l (i : Int)).f0).toList) == (((rd_T146 m (i : Int)).f0).toList)) || (!((((rd_T146 l (i : Int)).f1).toList) == (((rd_T146 m (i : Int)).f1).toList)) || (!(((rd_T146 l (i : Int)).f2) == ((rd_T146 m (i : Int)).f2)))))
def sameRail (l m : List S146) : Bool := (List.range l.length).all fun i => !dfRail l m i
def dfBelay (l m : List S148) (i : Nat) : Bool := (!((((rd_T148 l (i : Int)).f0).toList) == (((rd_T148 m (i : Int)).f0).toList)) || (!((((rd_T148 l (i : Int)).f1).toList) == (((rd_T148 m (i : Int)).f1).toList)) || (!(((rd_T148 l (i : Int)).f2) == ((rd_T148 m (i : Int)).f2)))))
def sameBelay (l m : List S148) : Bool := (List.range l.length).all fun i => !dfBelay l m i
def dfCoil (l m : List S149) (i : Nat) : Bool := (!((((rd_T149 l (i : Int)).f0).toList) == (((rd_T149 m (i : Int)).f0).toList)) || (!(((rd_T149 l (i : Int)).f1) == ((rd_T149 m (i : Int)).f1))))
def sameCoil (l m : List S149) : Bool := (List.range l.length).all fun i => !dfCoil l m i
def dfS (l m : List ByteArray) (i : Nat) : Bool := decide ((rdOf ByteArray.empty l (i : Int)).toList = (rdOf ByteArray.empty m (i : Int)).toList)
def sameS (l m : List ByteArray) : Bool := (List.range l.length).all (dfS l m)
theorem lpRail (l m : List S146) (hl : l.length ≤ 1048576) (he : l.length = m.length) : Ev (fun k => impl_Rail.l0 k l m (l.length : Int) 0) (sameRail l m) := by
  have := all_lt l.length (fun i => !dfRail l m i) (fun k i => impl_Rail.l0 k l m (l.length : Int) i) true false (fun i hi hp => ⟨0, fun k _ => ?_⟩) (fun i hi hp => Ev.const fun k => ?_) (fun _ => Ev.const fun k => ?_)
  · rw [show (if ((List.range l.length).all fun i => !dfRail l m i) = true then true else false) = sameRail l m by unfold sameRail; cases ((List.range l.length).all fun i => !dfRail l m i) <;> rfl] at this
    exact this
  · simp only [impl_Rail.l0]
    rw [if_pos (by omega), if_pos (by omega), if_pos (by omega), if_pos (by omega), if_neg (by intro g; have g2 : dfRail l m i = true := g; rw [g2] at hp; cases hp), w64 (by omega) (by omega)]
  · simp only [impl_Rail.l0]
    rw [if_pos (by omega), if_pos (by omega), if_pos (by omega), if_pos (by omega)]
    exact if_pos (show dfRail l m i = true by cases hd : dfRail l m i <;> simp_all)
  · simp only [impl_Rail.l0]
    rw [if_neg (by omega)]
theorem lpBelay (l m : List S148) (hl : l.length ≤ 1048576) (he : l.length = m.length) : Ev (fun k => impl_Belay.l0 k l m (l.length : Int) 0) (sameBelay l m) := by
  have := all_lt l.length (fun i => !dfBelay l m i) (fun k i => impl_Belay.l0 k l m (l.length : Int) i) true false (fun i hi hp => ⟨0, fun k _ => ?_⟩) (fun i hi hp => Ev.const fun k => ?_) (fun _ => Ev.const fun k => ?_)
  · rw [show (if ((List.range l.length).all fun i => !dfBelay l m i) = true then true else false) = sameBelay l m by unfold sameBelay; cases ((List.range l.length).all fun i => !dfBelay l m i) <;> rfl] at this
    exact this
  · simp only [impl_Belay.l0]
    rw [if_pos (by omega), if_pos (by omega), if_pos (by omega), if_pos (by omega), if_neg (by intro g; have g2 : dfBelay l m i = true := g; rw [g2] at hp; cases hp), w64 (by omega) (by omega)]
  · simp only [impl_Belay.l0]
    rw [if_pos (by omega), if_pos (by omega), if_pos (by omega), if_pos (by omega)]
    exact if_pos (show dfBelay l m i = true by cases hd : dfBelay l m i <;> simp_all)
  · simp only [impl_Belay.l0]
    rw [if_neg (by omega)]
theorem lpCoil (l m : List S149) (hl : l.length ≤ 1048576) (he : l.length = m.length) : Ev (fun k => impl_Coil.l0 k l m (l.length : Int) 0) (sameCoil l m) := by
  have := all_lt l.length (fun i => !dfCoil l m i) (fun k i => impl_Coil.l0 k l m (l.length : Int) i) true false (fun i hi hp => ⟨0, fun k _ => ?_⟩) (fun i hi hp => Ev.const fun k => ?_) (fun _ => Ev.const fun k => ?_)
  · rw [show (if ((List.range l.length).all fun i => !dfCoil l m i) = true then true else false) = sameCoil l m by unfold sameCoil; cases ((List.range l.length).all fun i => !dfCoil l m i) <;> rfl] at this
    exact this
  · simp only [impl_Coil.l0]
    rw [if_pos (by omega), if_pos (by omega), if_pos (by omega), if_pos (by omega), if_neg (by intro g; have g2 : dfCoil l m i = true := g; rw [g2] at hp; cases hp), w64 (by omega) (by omega)]
  · simp only [impl_Coil.l0]
    rw [if_pos (by omega), if_pos (by omega), if_pos (by omega), if_pos (by omega)]
    exact if_pos (show dfCoil l m i = true by cases hd : dfCoil l m i <;> simp_all)
  · simp only [impl_Coil.l0]
    rw [if_neg (by omega)]
theorem lpS (l m : List ByteArray) (hl : l.length ≤ 1048576) (he : l.length = m.length) : Ev (fun k => slices_Equal_string_string.l0 k l m (l.length : Int) 0) (sameS l m) := by
  have := all_lt l.length (fun i => dfS l m i) (fun k i => slices_Equal_string_string.l0 k l m (l.length : Int) i) true false (fun i hi hp => ⟨0, fun k _ => ?_⟩) (fun i hi hp => Ev.const fun k => ?_) (fun _ => Ev.const fun k => ?_)
  · rw [show (if ((List.range l.length).all fun i => dfS l m i) = true then true else false) = sameS l m by unfold sameS; cases ((List.range l.length).all fun i => dfS l m i) <;> rfl] at this
    exact this
  · simp only [slices_Equal_string_string.l0]
    rw [if_pos (by omega), if_pos (by omega), if_pos (by omega), if_pos (by omega), if_pos (of_decide_eq_true hp), w64 (by omega) (by omega)]
  · simp only [slices_Equal_string_string.l0]
    rw [if_pos (by omega), if_pos (by omega), if_pos (by omega), if_pos (by omega)]
    exact if_neg (of_decide_eq_false hp)
  · simp only [slices_Equal_string_string.l0]
    rw [if_neg (by omega)]
theorem lqCoil (l m : List S149) (hl : l.length ≤ 1048576) (he : l.length = m.length) : Ev (fun k => spec_SameCoils.l0 k l m 0) (sameCoil l m) := by
  have := all_lt l.length (fun i => !dfCoil l m i) (fun k i => spec_SameCoils.l0 k l m i) true false (fun i hi hp => ⟨0, fun k _ => ?_⟩) (fun i hi hp => Ev.const fun k => ?_) (fun _ => Ev.const fun k => ?_)
  · rw [show (if ((List.range l.length).all fun i => !dfCoil l m i) = true then true else false) = sameCoil l m by unfold sameCoil; cases ((List.range l.length).all fun i => !dfCoil l m i) <;> rfl] at this
    exact this
  · simp only [spec_SameCoils.l0]
    rw [if_pos (by omega), if_pos (by omega), if_pos (by omega), if_neg (by intro g; have g2 : dfCoil l m i = true := g; rw [g2] at hp; cases hp), w64 (by omega) (by omega)]
  · simp only [spec_SameCoils.l0]
    rw [if_pos (by omega), if_pos (by omega), if_pos (by omega)]
    exact if_pos (show dfCoil l m i = true by cases hd : dfCoil l m i <;> simp_all)
  · simp only [spec_SameCoils.l0]
    rw [if_neg (by omega)]

theorem lqBelay (l1 : List S146) (l2 : List ByteArray) (l3 : List S148) (m1 : List S146) (m2 : List ByteArray) (m3 : List S148) (hl : l3.length ≤ 1048576) (he : l3.length = m3.length) : Ev (fun k => spec_SameRig.l2 k 0 l1 l2 l3 m1 m2 m3) (sameBelay l3 m3) := by
  have := all_lt l3.length (fun i => !dfBelay l3 m3 i) (fun k i => spec_SameRig.l2 k i l1 l2 l3 m1 m2 m3) true false (fun i hi hp => ⟨0, fun k _ => ?_⟩) (fun i hi hp => Ev.const fun k => ?_) (fun _ => Ev.const fun k => ?_)
  · rw [show (if ((List.range l3.length).all fun i => !dfBelay l3 m3 i) = true then true else false) = sameBelay l3 m3 by unfold sameBelay; cases ((List.range l3.length).all fun i => !dfBelay l3 m3 i) <;> rfl] at this
    exact this
  · simp only [spec_SameRig.l2]
    rw [if_pos (by omega), if_pos (by omega), if_pos (by omega), if_neg (by intro g; have g2 : dfBelay l3 m3 i = true := g; rw [g2] at hp; cases hp), w64 (by omega) (by omega)]
  · simp only [spec_SameRig.l2]
    rw [if_pos (by omega), if_pos (by omega), if_pos (by omega)]
    exact if_pos (show dfBelay l3 m3 i = true by cases hd : dfBelay l3 m3 i <;> simp_all)
  · simp only [spec_SameRig.l2]
    rw [if_neg (by omega)]
theorem lqS (l1 : List S146) (l2 : List ByteArray) (l3 : List S148) (m1 : List S146) (m2 : List ByteArray) (m3 : List S148) (hl : l3.length ≤ 1048576) (he : l3.length = m3.length) (hl2 : l2.length ≤ 1048576) (he2 : l2.length = m2.length) : Ev (fun k => spec_SameRig.l1 k 0 l1 l2 l3 m1 m2 m3) (sameS l2 m2 && sameBelay l3 m3) := by
  have := all_lt l2.length (dfS l2 m2) (fun k i => spec_SameRig.l1 k i l1 l2 l3 m1 m2 m3) (sameBelay l3 m3) false (fun i hi hp => ⟨0, fun k _ => ?_⟩) (fun i hi hp => Ev.const fun k => ?_) (fun _ => Ev.step (fun k => ?_) (lqBelay l1 l2 l3 m1 m2 m3 hl he))
  · rw [show (if (List.range l2.length).all (dfS l2 m2) = true then sameBelay l3 m3 else false) = (sameS l2 m2 && sameBelay l3 m3) by unfold sameS; cases (List.range l2.length).all (dfS l2 m2) <;> rfl] at this
    exact this
  · simp only [spec_SameRig.l1]
    rw [if_pos (by omega), if_pos (by omega), if_pos (by omega), if_pos (of_decide_eq_true hp), w64 (by omega) (by omega)]
  · simp only [spec_SameRig.l1]
    rw [if_pos (by omega), if_pos (by omega), if_pos (by omega), if_neg (of_decide_eq_false hp)]
  · simp only [spec_SameRig.l1]
    rw [if_neg (by omega)]
theorem lqRig (l1 : List S146) (l2 : List ByteArray) (l3 : List S148) (m1 : List S146) (m2 : List ByteArray) (m3 : List S148) (hl : l3.length ≤ 1048576) (he : l3.length = m3.length) (hl2 : l2.length ≤ 1048576) (he2 : l2.length = m2.length) (hl1 : l1.length ≤ 1048576) (he1 : l1.length = m1.length) : Ev (fun k => spec_SameRig.l0 k 0 l1 l2 l3 m1 m2 m3) (sameRail l1 m1 && (sameS l2 m2 && sameBelay l3 m3)) := by
  have := all_lt l1.length (fun i => !dfRail l1 m1 i) (fun k i => spec_SameRig.l0 k i l1 l2 l3 m1 m2 m3) (sameS l2 m2 && sameBelay l3 m3) false (fun i hi hp => ⟨0, fun k _ => ?_⟩) (fun i hi hp => Ev.const fun k => ?_) (fun _ => Ev.step (fun k => ?_) (lqS l1 l2 l3 m1 m2 m3 hl he hl2 he2))
  · rw [show (if ((List.range l1.length).all fun i => !dfRail l1 m1 i) = true then (sameS l2 m2 && sameBelay l3 m3) else false) = (sameRail l1 m1 && (sameS l2 m2 && sameBelay l3 m3)) by unfold sameRail; cases ((List.range l1.length).all fun i => !dfRail l1 m1 i) <;> rfl] at this
    exact this
  · simp only [spec_SameRig.l0]
    rw [if_pos (by omega), if_pos (by omega), if_pos (by omega), if_neg (by intro g; have g2 : dfRail l1 m1 i = true := g; rw [g2] at hp; cases hp), w64 (by omega) (by omega)]
  · simp only [spec_SameRig.l0]
    rw [if_pos (by omega), if_pos (by omega), if_pos (by omega)]
    exact if_pos (show dfRail l1 m1 i = true by cases hd : dfRail l1 m1 i <;> simp_all)
  · simp only [spec_SameRig.l0]
    rw [if_neg (by omega)]
def lenE (a b : Nat) : Bool := decide (a = b)
/-- Whether two rigs are one. -/
def rigB (l1 : List S146) (l2 : List ByteArray) (l3 : List S148) (m1 : List S146) (m2 : List ByteArray) (m3 : List S148) : Bool := (lenE l1.length m1.length && sameRail l1 m1) && ((lenE l2.length m2.length && sameS l2 m2) && (lenE l3.length m3.length && sameBelay l3 m3))
theorem rig_spec (l1 : List S146) (l2 : List ByteArray) (l3 : List S148) (m1 : List S146) (m2 : List ByteArray) (m3 : List S148) (hl1 : l1.length ≤ 1048576) (hl2 : l2.length ≤ 1048576) (hl3 : l3.length ≤ 1048576) : Ev (fun k => spec_SameRig.f k l1 l2 l3 m1 m2 m3) (rigB l1 l2 l3 m1 m2 m3) := by
  have bad : Ev (fun k => spec_SameRig.j0 k true l1 l2 l3 m1 m2 m3) false := Ev.const fun k => by simp only [spec_SameRig.j0, if_true]
  unfold rigB lenE
  by_cases c1 : l1.length = m1.length
  · by_cases c2 : l2.length = m2.length
    · by_cases c3 : l3.length = m3.length
      · rw [decide_eq_true c1, decide_eq_true c2, decide_eq_true c3, Bool.true_and, Bool.true_and, Bool.true_and]
        have h0 : Ev (fun k => spec_SameRig.j0 k false l1 l2 l3 m1 m2 m3) (sameRail l1 m1 && (sameS l2 m2 && sameBelay l3 m3)) := Ev.step (fun k => by simp only [spec_SameRig.j0, Bool.false_eq_true, if_false]) (lqRig l1 l2 l3 m1 m2 m3 hl3 c3 hl2 c2 hl1 c1)
        refine Ev.congr (fun k => ?_) h0
        unfold spec_SameRig.f
        rw [if_pos (by omega), if_pos (by omega), show ((l3.length : Int) != (m3.length : Int)) = false by simp; omega]
      · rw [decide_eq_false c3, Bool.false_and, Bool.and_false, Bool.and_false]
        refine Ev.congr (fun k => ?_) bad
        unfold spec_SameRig.f
        rw [if_pos (by omega), if_pos (by omega), show ((l3.length : Int) != (m3.length : Int)) = true by simp; omega]
    · rw [decide_eq_false c2, Bool.false_and, Bool.false_and, Bool.and_false]
      refine Ev.congr (fun k => ?_) bad
      unfold spec_SameRig.f
      rw [if_pos (by omega), if_neg (by omega)]
  · rw [decide_eq_false c1, Bool.false_and, Bool.false_and]
    refine Ev.congr (fun k => ?_) bad
    unfold spec_SameRig.f
    rw [if_neg (by omega)]
theorem rail_f (l m : List S146) (hl : l.length ≤ 1048576) : Ev (fun k => impl_Rail.f k l m) (lenE l.length m.length && sameRail l m) := by
  unfold lenE
  by_cases c : l.length = m.length
  · rw [decide_eq_true c, Bool.true_and]
    exact Ev.congr (fun k => by unfold impl_Rail.f; rw [if_pos (by omega)]) (lpRail l m hl c)
  · rw [decide_eq_false c, Bool.false_and]
    exact Ev.all fun k => by unfold impl_Rail.f; rw [if_neg (by omega)]
theorem belay_f (l m : List S148) (hl : l.length ≤ 1048576) : Ev (fun k => impl_Belay.f k l m) (lenE l.length m.length && sameBelay l m) := by
  unfold lenE
  by_cases c : l.length = m.length
  · rw [decide_eq_true c, Bool.true_and]
    exact Ev.congr (fun k => by unfold impl_Belay.f; rw [if_pos (by omega)]) (lpBelay l m hl c)
  · rw [decide_eq_false c, Bool.false_and]
    exact Ev.all fun k => by unfold impl_Belay.f; rw [if_neg (by omega)]
theorem coil_f (l m : List S149) (hl : l.length ≤ 1048576) : Ev (fun k => impl_Coil.f k l m) (lenE l.length m.length && sameCoil l m) := by
  unfold lenE
  by_cases c : l.length = m.length
  · rw [decide_eq_true c, Bool.true_and]
    exact Ev.congr (fun k => by unfold impl_Coil.f; rw [if_pos (by omega)]) (lpCoil l m hl c)
  · rw [decide_eq_false c, Bool.false_and]
    exact Ev.all fun k => by unfold impl_Coil.f; rw [if_neg (by omega)]
theorem strs_f (l m : List ByteArray) (hl : l.length ≤ 1048576) : Ev (fun k => slices_Equal_string_string.f k l m) (lenE l.length m.length && sameS l m) := by
  unfold lenE
  by_cases c : l.length = m.length
  · rw [decide_eq_true c, Bool.true_and]
    exact Ev.congr (fun k => by unfold slices_Equal_string_string.f; rw [if_pos (by omega)]) (lpS l m hl c)
  · rw [decide_eq_false c, Bool.false_and]
    exact Ev.all fun k => by unfold slices_Equal_string_string.f; rw [if_neg (by omega)]
theorem coils_spec (l m : List S149) (hl : l.length ≤ 1048576) : Ev (fun k => spec_SameCoils.f k l m) (lenE l.length m.length && sameCoil l m) := by
  unfold lenE
  by_cases c : l.length = m.length
  · rw [decide_eq_true c, Bool.true_and]
    exact Ev.congr (fun k => by unfold spec_SameCoils.f; rw [if_pos (by omega)]) (lqCoil l m hl c)
  · rw [decide_eq_false c, Bool.false_and]
    exact Ev.all fun k => by unfold spec_SameCoils.f; rw [if_neg (by omega)]
theorem rig_impl (l1 : List S146) (l2 : List ByteArray) (l3 : List S148) (m1 : List S146) (m2 : List ByteArray) (m3 : List S148) (hl1 : l1.length ≤ 1048576) (hl2 : l2.length ≤ 1048576) (hl3 : l3.length ≤ 1048576) : Ev (fun k => impl_SameRig.f k l1 l2 l3 m1 m2 m3) (rigB l1 l2 l3 m1 m2 m3) := by
  obtain ⟨K1, g1⟩ := Ev.pick (rail_f l1 m1 hl1)
  obtain ⟨K2, g2⟩ := Ev.pick (strs_f l2 m2 hl2)
  obtain ⟨K3, g3⟩ := Ev.pick (belay_f l3 m3 hl3)
  refine Ev.intro (K1 + K2 + K3) fun k hk => ?_
  have e1 := g1 k (by omega)
  have e2 := g2 k (by omega)
  have e3 := g3 k (by omega)
  unfold rigB impl_SameRig.f
  rw [e1, e2, e3]
  generalize (lenE l1.length m1.length && sameRail l1 m1) = a
  generalize (lenE l2.length m2.length && sameS l2 m2) = b
  generalize (lenE l3.length m3.length && sameBelay l3 m3) = c
  cases a <;> cases b <;> rfl
theorem desk_both (d1 : Int) (l1 : List S146) (l2 : List ByteArray) (l3 : List S148) (l4 : List S149) (p1 q1 : ByteArray) (d2 : Int) (m1 : List S146) (m2 : List ByteArray) (m3 : List S148) (m4 : List S149) (p2 q2 : ByteArray) (h1 : l1.length ≤ 1048576) (h2 : l2.length ≤ 1048576) (h3 : l3.length ≤ 1048576) (h4 : l4.length ≤ 1048576) :
    ∃ b, Ev (fun k => spec_SameDesk.f k d1 l1 l2 l3 l4 p1 q1 d2 m1 m2 m3 m4 p2 q2) b ∧ Ev (fun k => impl_SameDesk.f k d1 l1 l2 l3 l4 p1 q1 d2 m1 m2 m3 m4 p2 q2) b := by
  obtain ⟨K1, g1⟩ := Ev.pick (rig_spec l1 l2 l3 m1 m2 m3 h1 h2 h3)
  obtain ⟨K2, g2⟩ := Ev.pick (rig_impl l1 l2 l3 m1 m2 m3 h1 h2 h3)
  obtain ⟨K3, g3⟩ := Ev.pick (coils_spec l4 m4 h4)
  obtain ⟨K4, g4⟩ := Ev.pick (coil_f l4 m4 h4)
  by_cases c : d1 = d2
  · refine ⟨rigB l1 l2 l3 m1 m2 m3 && ((lenE l4.length m4.length && sameCoil l4 m4) && (p1.toList == p2.toList && (q1.toList == q2.toList))), Ev.intro (K1 + K3) fun k hk => ?_, Ev.intro (K2 + K4) fun k hk => ?_⟩
    · have e1 := g1 k (by omega)
      have e3 := g3 k (by omega)
      unfold spec_SameDesk.f
      rw [if_pos c, e1, e3]
      generalize rigB l1 l2 l3 m1 m2 m3 = a
      generalize (lenE l4.length m4.length && sameCoil l4 m4) = b
      generalize (p1.toList == p2.toList && (q1.toList == q2.toList)) = e
      cases a <;> cases b <;> cases e <;> rfl
    · have e1 := g2 k (by omega)
      have e3 := g4 k (by omega)
      unfold impl_SameDesk.f impl_SameCoils.f
      rw [if_pos c, e1, e3]
      generalize rigB l1 l2 l3 m1 m2 m3 = a
      generalize (lenE l4.length m4.length && sameCoil l4 m4) = b
      generalize (p1.toList == p2.toList && (q1.toList == q2.toList)) = e
      cases a <;> cases b <;> cases e <;> rfl
  · refine ⟨false, Ev.all fun k => ?_, Ev.all fun k => ?_⟩
    · unfold spec_SameDesk.f
      rw [if_neg c]
    · unfold impl_SameDesk.f
      rw [if_neg c]

theorem law (x y : DeskIn) (hx : x.good) (hy : y.good) : ∃ k, laws_FnExactSameDesk.f k x.d x.rl x.ln x.bl x.cl x.kp x.wt y.d y.rl y.ln y.bl y.cl y.kp y.wt = some true := by
  obtain ⟨t, pt, h1⟩ := sz_desk x hx 1048576 (by omega) (by omega)
  obtain ⟨K1, g1⟩ := Ev.pick h1
  by_cases ct : t < 0
  · refine ⟨K1, ?_⟩
    unfold laws_FnExactSameDesk.f
    rw [g1 K1 (Nat.le_refl _)]
    simp only [Option.bind_some]
    rw [if_pos ct]
  obtain ⟨sx, tm⟩ := pt.resolve_left ct
  obtain ⟨u, pu, h2⟩ := sz_desk y hy t (by omega) tm
  obtain ⟨K2, g2⟩ := Ev.pick h2
  by_cases cu : u < 0
  · refine ⟨K1 + K2, ?_⟩
    unfold laws_FnExactSameDesk.f
    rw [g1 _ (by omega)]
    simp only [Option.bind_some]
    rw [if_neg ct, g2 _ (by omega)]
    simp only [Option.bind_some]
    rw [if_pos cu]
  obtain ⟨sy, -⟩ := pu.resolve_left cu
  obtain ⟨K3, g3⟩ := Ev.pick (to_desk x sx)
  obtain ⟨K4, g4⟩ := Ev.pick (to_desk y sy)
  obtain ⟨a1, a2, a3, a4, -, -⟩ := sx
  obtain ⟨b1, b2, b3, b4, -, -⟩ := sy
  have a1' : (x.rl.map cvRail).length ≤ 1048576 := by rw [List.length_map]; exact a1
  have a3' : (x.bl.map cvBelay).length ≤ 1048576 := by rw [List.length_map]; exact a3
  have a4' : (x.cl.map cvCoil).length ≤ 1048576 := by rw [List.length_map]; exact a4
  have b1' : (y.rl.map cvRail).length ≤ 1048576 := by rw [List.length_map]; exact b1
  have b3' : (y.bl.map cvBelay).length ≤ 1048576 := by rw [List.length_map]; exact b3
  have b4' : (y.cl.map cvCoil).length ≤ 1048576 := by rw [List.length_map]; exact b4
  obtain ⟨b, h5, h6⟩ := desk_both x.d (x.rl.map cvRail) x.ln (x.bl.map cvBelay) (x.cl.map cvCoil) x.kp x.wt y.d (y.rl.map cvRail) y.ln (y.bl.map cvBelay) (y.cl.map cvCoil) y.kp y.wt a1' a2 a3' a4'
  obtain ⟨K5, g5⟩ := Ev.pick h5
  obtain ⟨K6, g6⟩ := Ev.pick h6
  obtain ⟨K7, g7⟩ := Ev.pick (eq_desk x.d (x.rl.map cvRail) x.ln (x.bl.map cvBelay) (x.cl.map cvCoil) x.kp x.wt a1' a2 a3' a4')
  obtain ⟨K8, g8⟩ := Ev.pick (eq_desk y.d (y.rl.map cvRail) y.ln (y.bl.map cvBelay) (y.cl.map cvCoil) y.kp y.wt b1' b2 b3' b4')
  refine ⟨K1 + K2 + K3 + K4 + K5 + K6 + K7 + K8, ?_⟩
  have e1 := g1 (K1 + K2 + K3 + K4 + K5 + K6 + K7 + K8) (by omega)
  have e2 := g2 (K1 + K2 + K3 + K4 + K5 + K6 + K7 + K8) (by omega)
  have e3 := g3 (K1 + K2 + K3 + K4 + K5 + K6 + K7 + K8) (by omega)
  have e4 := g4 (K1 + K2 + K3 + K4 + K5 + K6 + K7 + K8) (by omega)
  have e5 := g5 (K1 + K2 + K3 + K4 + K5 + K6 + K7 + K8) (by omega)
  have e6 := g6 (K1 + K2 + K3 + K4 + K5 + K6 + K7 + K8) (by omega)
  have e7 := g7 (K1 + K2 + K3 + K4 + K5 + K6 + K7 + K8) (by omega)
  have e8 := g8 (K1 + K2 + K3 + K4 + K5 + K6 + K7 + K8) (by omega)
  clear g1 g2 g3 g4 g5 g6 g7 g8 h1 h2 h5 h6
  generalize K1 + K2 + K3 + K4 + K5 + K6 + K7 + K8 = K at e1 e2 e3 e4 e5 e6 e7 e8 ⊢
  unfold laws_FnExactSameDesk.f
  rw [e1]
  simp only [Option.bind_some]
  rw [if_neg ct, e2]
  simp only [Option.bind_some]
  rw [if_neg cu, e3]
  simp only [Option.bind_some]
  rw [e4]
  simp only [Option.bind_some]
  rw [e5]
  simp only [Option.bind_some]
  rw [e6]
  simp only [Option.bind_some]
  rw [if_neg (by simp), e7]
  simp only [Option.bind_some, if_true]
  rw [e8]
  simp only [Option.bind_some]
end FnExactSameDesk_
open FnExactSameDesk_ in
theorem FnExactSameDesk : ∀ (a0_0 : Int) (l0_1 : List S174) (l0_2 : List ByteArray) (l0_3 : List S176) (l0_4 : List S144) (a0_5 : ByteArray) (a0_6 : ByteArray) (a1_0 : Int) (l1_1 : List S174) (l1_2 : List ByteArray) (l1_3 : List S176) (l1_4 : List S144) (a1_5 : ByteArray) (a1_6 : ByteArray), (Lit.int .i64 a0_0).wf = true → (l0_1.length ≤ maxLen ∧ ∀ x ∈ l0_1, G174 x) → (l0_2.length ≤ maxLen ∧ ∀ x ∈ l0_2, x.size ≤ maxLen) → (l0_3.length ≤ maxLen ∧ ∀ x ∈ l0_3, G176 x) → (l0_4.length ≤ maxLen ∧ ∀ x ∈ l0_4, G144 x) → a0_5.size ≤ maxLen → a0_6.size ≤ maxLen → (Lit.int .i64 a1_0).wf = true → (l1_1.length ≤ maxLen ∧ ∀ x ∈ l1_1, G174 x) → (l1_2.length ≤ maxLen ∧ ∀ x ∈ l1_2, x.size ≤ maxLen) → (l1_3.length ≤ maxLen ∧ ∀ x ∈ l1_3, G176 x) → (l1_4.length ≤ maxLen ∧ ∀ x ∈ l1_4, G144 x) → a1_5.size ≤ maxLen → a1_6.size ≤ maxLen → ∃ k, laws_FnExactSameDesk.f k a0_0 l0_1 l0_2 l0_3 l0_4 a0_5 a0_6 a1_0 l1_1 l1_2 l1_3 l1_4 a1_5 a1_6 = some true :=
  fun a b c d e f g a' b' c' d' e' f' g' _ h1 h2 h3 h4 h5 h6 _ j1 j2 j3 j4 j5 j6 => law ⟨a, b, c, d, e, f, g⟩ ⟨a', b', c', d', e', f', g'⟩ ⟨h1, h2, h3, h4, h5, h6⟩ ⟨j1, j2, j3, j4, j5, j6⟩

end Go.Proofs.Ytnfcgofpfhajoaa.Pure
