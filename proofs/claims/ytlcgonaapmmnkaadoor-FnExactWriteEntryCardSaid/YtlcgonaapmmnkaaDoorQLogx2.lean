/- Functions and contracts of one law, printed by this session's own program (contracts by hand among them). -/
import Derived.Test.YtlcgonaapmmnkaaDoorQLogx0
import Derived.Test.YtlcgonaapmmnkaaDoorQLogx1
namespace Go.Proofs.YtlcgonaapmmnkaaDoor.QLog
open Go.RowKit Go.Proofs.YtlcgonaapmmnkaaDoorW.PrintWords Go.Proofs.YtlcgonaapmmnkaaDoorW.PrintLast Go.Proofs.YtlcgonaapmmnkaaDoorW.PrintMore
attribute [local go_sem] max2_int min2_int max_two min_two max_three min_three max_four min_four   -- for this text's walks alone
set_option linter.unusedVariables false
set_option linter.unusedSimpArgs false

/-! ### spec_l27One: function 57 -/
def spec_l27One.f (k : Nat) (s0_0 : Int) (s0_1 : ByteArray) (s0_2 : ByteArray) : Option (Bool × Int × ByteArray × ByteArray) := (spec_l00In.f s0_0 0 20000).bind fun t128 => (if t128 = true then ((spec_IsName.f k s0_1).bind fun t129 => (if t129 = true then ((spec_l00Text.f k s0_2 60).bind fun t130 => (some (t130, s0_0, s0_1, s0_2))) else (some (false, s0_0, s0_1, s0_2)))) else (some (false, s0_0, s0_1, s0_2)))
theorem spec_l27One.mono : ∀ a0 a1 a2 k, LeO (spec_l27One.f k a0 a1 a2) (spec_l27One.f (k + 1) a0 a1 a2) := by
 intro a0 a1 a2 k
 unfold spec_l27One.f
 repeat' first
   | (with_reducible exact spec_IsName.mono _ _)
   | (with_reducible exact spec_l00Text.mono _ _ _)
   | (with_reducible exact LeO.refl _)
   | (with_reducible exact LeO.none _)
   | (with_reducible refine LeO.ite ?_ ?_)
   | (with_reducible refine LeO.bind ?_ (fun _ => ?_))
   | exact spec_IsName.mono _ _
   | exact spec_l00Text.mono _ _ _
   | exact LeO.none _
   | refine LeO.ite ?_ ?_
   | refine LeO.bind ?_ (fun _ => ?_)
set_option maxHeartbeats 8000000 in
set_option maxRecDepth 100000 in
theorem spec_l27One.calls (k : Nat) (g : Nat) (s0_0 : Int) (s0_1 : ByteArray) (s0_2 : ByteArray) (r1 : Bool) (r2 : Int) (r3 : ByteArray) (r4 : ByteArray) (w0 w : World) (hI : IsS26 w0 w g s0_0 s0_1 s0_2) (hB : Below w0.heap.size w0 w) (h : spec_l27One.f k s0_0 s0_1 s0_2 = some (r1, r2, r3, r4)) :
  Calls Tryd.prog 57 #[.pointer (some ⟨g, 0, none⟩)] w fun e w' => e = .returned (.bool r1) ∧ IsS26 w0 w' g r2 r3 r4 ∧ Below w0.heap.size w0 w' ∧ KeepBut w w' g none := by
 have HI0 := Aside0.mk hI
 have HK := Aside0.mk (KeepBut.refl w g none)
 have HL := Aside0.mk hB.size
 clear hI
 have HW0 := Aside0.mk hB.size
 have HB := Aside0.mk hB
 clear hB
 have H : ((spec_l00In.f s0_0 0 20000).bind fun t128 => (if t128 = true then ((spec_IsName.f k s0_1).bind fun t129 => (if t129 = true then ((spec_l00Text.f k s0_2 60).bind fun t130 => (some (t130, s0_0, s0_1, s0_2))) else (some (false, s0_0, s0_1, s0_2)))) else (some (false, s0_0, s0_1, s0_2)))) = some (r1, r2, r3, r4) := h
 clear h
 replace H := Option.bind_eq_some_iff.mp H
 obtain ⟨t128, A20, H⟩ := H
 replace H : (if t128 = true then ((spec_IsName.f k s0_1).bind fun t129 => (if t129 = true then ((spec_l00Text.f k s0_2 60).bind fun t130 => (some (t130, s0_0, s0_1, s0_2))) else (some (false, s0_0, s0_1, s0_2)))) else (some (false, s0_0, s0_1, s0_2))) = some (r1, r2, r3, r4) := H
 have A2 := Aside0.mk A20
 clear A20
 by_cases c3 : t128 = true
 ·subst c3
  have H1 : ((spec_IsName.f k s0_1).bind fun t129 => (if t129 = true then ((spec_l00Text.f k s0_2 60).bind fun t130 => (some (t130, s0_0, s0_1, s0_2))) else (some (false, s0_0, s0_1, s0_2)))) = some (r1, r2, r3, r4) := by rw [if_pos rfl] at H; exact H
  clear H
  have H := H1
  clear H1
  replace H := Option.bind_eq_some_iff.mp H
  obtain ⟨t129, A40, H⟩ := H
  replace H : (if t129 = true then ((spec_l00Text.f k s0_2 60).bind fun t130 => (some (t130, s0_0, s0_1, s0_2))) else (some (false, s0_0, s0_1, s0_2))) = some (r1, r2, r3, r4) := H
  have A4 := Aside0.mk A40
  clear A40
  by_cases c5 : t129 = true
  ·subst c5
   have H1 : ((spec_l00Text.f k s0_2 60).bind fun t130 => (some (t130, s0_0, s0_1, s0_2))) = some (r1, r2, r3, r4) := by rw [if_pos rfl] at H; exact H
   clear H
   have H := H1
   clear H1
   replace H := Option.bind_eq_some_iff.mp H
   obtain ⟨t130, A60, H⟩ := H
   replace H : (some (t130, s0_0, s0_1, s0_2)) = some (r1, r2, r3, r4) := H
   have A6 := Aside0.mk A60
   clear A60
   simp only [Option.some.injEq, Prod.mk.injEq] at H
   obtain ⟨rfl, rfl, rfl, rfl⟩ := H
   obtain ⟨HGz7, hgz7⟩ := HI0.out
   have hcz7_0 := cellS26_0 HGz7
   have hcz7_1 := cellS26_1 HGz7
   have hcz7_2 := cellS26_2 HGz7
   have hfz7_0 := blk_frozen HGz7 0
   have hfz7_1 := blk_frozen HGz7 1
   have hfz7_2 := blk_frozen HGz7 2
   clear HGz7 hgz7
   go_enter Tryd.func57, Tryd.ntmps57
   go_wp2_with (first | ((with_reducible refine gate_callee (f := 62) rfl ?_); refine goesL_ (some 7) rfl rfl Tryd.func62 (by kernel_rfl) rfl #[.int .i64 s0_0, .int .i64 0, .int .i64 20000] rfl (by (try simp only [List.map_toArray, List.map_cons, List.map_nil]); first | done | rfl | (simp only [List.length_drop, List.length_take]; rfl) | (simp only [ByteArray.size_append, Int.natCast_add]; rfl)) ?_; (with_reducible refine (spec_l00In.calls s0_0 0 20000 true _ A2.out).mono ?_); rintro e w' ⟨rfl, ⟨nd, rfl⟩⟩; refine ⟨_, rfl, ?_⟩) | (go_at_call 69; (with_reducible refine (spec_IsName.calls k s0_1 true _ A4.out).mono ?_); rintro e w' ⟨rfl, ⟨nd, rfl⟩⟩) | (go_at_call 85; (with_reducible refine (spec_l00Text.calls k s0_2 60 t130 _ A6.out).mono ?_); rintro e w' ⟨rfl, ⟨nd, rfl⟩⟩))
   go_ret
   exact ⟨by first | rfl | (simp [errW_none, errW_some] <;> rfl) | (simp [*, errW_none, errW_some] <;> rfl), by repeat (first | (with_reducible first | exact HI0.out | apply IsS26.alloc | apply IsS26.drewN | apply IsS26.drew | apply IsS26.set_0 | apply IsS26.set_1 | apply IsS26.set_2) | exact HI0.out), by repeat (first | (with_reducible first | exact HB.out | apply below_alloc | apply pw_below_drewN | apply below_drew1 | refine below_set ?_ (IsS26.ge HI0.out)) | exact HB.out), by repeat (first | (with_reducible first | exact HK.out | apply KeepBut.set_ | apply keep_drewN | apply keep_drew | apply keep_alloc) | exact HK.out)⟩
  ·replace c5 := Bool.eq_false_iff.mpr c5
   subst c5
   have H1 : (some (false, s0_0, s0_1, s0_2)) = some (r1, r2, r3, r4) := by rw [if_neg (show ¬ (false = true) by decide)] at H; exact H
   clear H
   have H := H1
   clear H1
   simp only [Option.some.injEq, Prod.mk.injEq] at H
   obtain ⟨rfl, rfl, rfl, rfl⟩ := H
   obtain ⟨HGz8, hgz8⟩ := HI0.out
   have hcz8_0 := cellS26_0 HGz8
   have hcz8_1 := cellS26_1 HGz8
   have hcz8_2 := cellS26_2 HGz8
   have hfz8_0 := blk_frozen HGz8 0
   have hfz8_1 := blk_frozen HGz8 1
   have hfz8_2 := blk_frozen HGz8 2
   clear HGz8 hgz8
   go_enter Tryd.func57, Tryd.ntmps57
   go_wp2_with (first | ((with_reducible refine gate_callee (f := 62) rfl ?_); refine goesL_ (some 7) rfl rfl Tryd.func62 (by kernel_rfl) rfl #[.int .i64 s0_0, .int .i64 0, .int .i64 20000] rfl (by (try simp only [List.map_toArray, List.map_cons, List.map_nil]); first | done | rfl | (simp only [List.length_drop, List.length_take]; rfl) | (simp only [ByteArray.size_append, Int.natCast_add]; rfl)) ?_; (with_reducible refine (spec_l00In.calls s0_0 0 20000 true _ A2.out).mono ?_); rintro e w' ⟨rfl, ⟨nd, rfl⟩⟩; refine ⟨_, rfl, ?_⟩) | (go_at_call 69; (with_reducible refine (spec_IsName.calls k s0_1 false _ A4.out).mono ?_); rintro e w' ⟨rfl, ⟨nd, rfl⟩⟩))
   go_ret
   exact ⟨by first | rfl | (simp [errW_none, errW_some] <;> rfl) | (simp [*, errW_none, errW_some] <;> rfl), by repeat (first | (with_reducible first | exact HI0.out | apply IsS26.alloc | apply IsS26.drewN | apply IsS26.drew | apply IsS26.set_0 | apply IsS26.set_1 | apply IsS26.set_2) | exact HI0.out), by repeat (first | (with_reducible first | exact HB.out | apply below_alloc | apply pw_below_drewN | apply below_drew1 | refine below_set ?_ (IsS26.ge HI0.out)) | exact HB.out), by repeat (first | (with_reducible first | exact HK.out | apply KeepBut.set_ | apply keep_drewN | apply keep_drew | apply keep_alloc) | exact HK.out)⟩
 ·replace c3 := Bool.eq_false_iff.mpr c3
  subst c3
  have H1 : (some (false, s0_0, s0_1, s0_2)) = some (r1, r2, r3, r4) := by rw [if_neg (show ¬ (false = true) by decide)] at H; exact H
  clear H
  have H := H1
  clear H1
  simp only [Option.some.injEq, Prod.mk.injEq] at H
  obtain ⟨rfl, rfl, rfl, rfl⟩ := H
  obtain ⟨HGz9, hgz9⟩ := HI0.out
  have hcz9_0 := cellS26_0 HGz9
  have hcz9_1 := cellS26_1 HGz9
  have hcz9_2 := cellS26_2 HGz9
  have hfz9_0 := blk_frozen HGz9 0
  have hfz9_1 := blk_frozen HGz9 1
  have hfz9_2 := blk_frozen HGz9 2
  clear HGz9 hgz9
  go_enter Tryd.func57, Tryd.ntmps57
  go_wp2_with (first | ((with_reducible refine gate_callee (f := 62) rfl ?_); refine goesL_ (some 7) rfl rfl Tryd.func62 (by kernel_rfl) rfl #[.int .i64 s0_0, .int .i64 0, .int .i64 20000] rfl (by (try simp only [List.map_toArray, List.map_cons, List.map_nil]); first | done | rfl | (simp only [List.length_drop, List.length_take]; rfl) | (simp only [ByteArray.size_append, Int.natCast_add]; rfl)) ?_; (with_reducible refine (spec_l00In.calls s0_0 0 20000 false _ A2.out).mono ?_); rintro e w' ⟨rfl, ⟨nd, rfl⟩⟩; refine ⟨_, rfl, ?_⟩))
  go_ret
  exact ⟨by first | rfl | (simp [errW_none, errW_some] <;> rfl) | (simp [*, errW_none, errW_some] <;> rfl), by repeat (first | (with_reducible first | exact HI0.out | apply IsS26.alloc | apply IsS26.drewN | apply IsS26.drew | apply IsS26.set_0 | apply IsS26.set_1 | apply IsS26.set_2) | exact HI0.out), by repeat (first | (with_reducible first | exact HB.out | apply below_alloc | apply pw_below_drewN | apply below_drew1 | refine below_set ?_ (IsS26.ge HI0.out)) | exact HB.out), by repeat (first | (with_reducible first | exact HK.out | apply KeepBut.set_ | apply keep_drewN | apply keep_drew | apply keep_alloc) | exact HK.out)⟩

/-! ### spec_l27Body: function 98, by hand -/
section
open Go.Proofs.YtlcgonaapmmnkaaDoor.Base
/-- The place of the first blank from a place on; the end of the text where there is none. -/
def blankFrom (s : ByteArray) (i : Nat) : Nat := if h : i < s.size ∧ ¬ bt s (i : Int) = 32 then blankFrom s (i + 1) else i
termination_by s.size - i
decreasing_by omega
theorem blank_go {s : ByteArray} {i : Nat} (h : i < s.size) (hb : ¬ bt s (i : Int) = 32) : blankFrom s i = blankFrom s (i + 1) := by rw [blankFrom, dif_pos ⟨h, hb⟩]
theorem blank_end {s : ByteArray} {i : Nat} (h : ¬ i < s.size) : blankFrom s i = i := by rw [blankFrom, dif_neg (fun g => h g.1)]
theorem blank_here {s : ByteArray} {i : Nat} (hb : bt s (i : Int) = 32) : blankFrom s i = i := by rw [blankFrom, dif_neg (fun g => g.2 hb)]
theorem blank_le (s : ByteArray) : ∀ (d i : Nat), s.size - i = d → i ≤ blankFrom s i ∧ (i ≤ s.size → blankFrom s i ≤ s.size)
 | 0, i, h => by rw [blank_end (by omega)]; exact ⟨Nat.le_refl _, fun h => h⟩
 | d + 1, i, h => by
  by_cases hb : bt s (i : Int) = 32
  ·rw [blank_here hb]; exact ⟨Nat.le_refl _, fun h => h⟩
  ·rw [blank_go (by omega) hb]
   have := blank_le s d (i + 1) (by omega)
   exact ⟨by omega, fun _ => this.2 (by omega)⟩
def spec_l27Body.f (k : Nat) (a0 : ByteArray) : Option (Int × ByteArray × ByteArray × Bool) :=
 if a0.size ≤ 140737488351232 then
  if a0.size ≤ blankFrom a0 (blankFrom a0 0 + 1) then some (0, ⟨#[]⟩, ⟨#[]⟩, false) else
   (spec_l01Number.f k (a0.extract 0 (blankFrom a0 0))).bind fun t => if t.2 = true then
    (spec_l27One.f k t.1 (a0.extract (blankFrom a0 0 + 1) (blankFrom a0 (blankFrom a0 0 + 1))) (a0.extract (blankFrom a0 (blankFrom a0 0 + 1) + 1) a0.size)).bind fun u => if u.1 = true then some (u.2.1, u.2.2.1, u.2.2.2, true) else some (0, ⟨#[]⟩, ⟨#[]⟩, false)
   else some (0, ⟨#[]⟩, ⟨#[]⟩, false)
 else none
theorem spec_l27Body.mono : ∀ a0 k, LeO (spec_l27Body.f k a0) (spec_l27Body.f (k + 1) a0) := fun a0 k => by
 unfold spec_l27Body.f
 exact LeO.ite (LeO.ite (LeO.refl _) (LeO.bind (spec_l01Number.mono _ _) fun t => LeO.ite (LeO.bind (spec_l27One.mono _ _ _ _) fun u => LeO.refl _) (LeO.refl _))) (LeO.refl _)
set_option maxHeartbeats 8000000 in
set_option maxRecDepth 100000 in
theorem spec_l27Body.calls (k : Nat) (a0 : ByteArray) (r1 : Int) (r2 : ByteArray) (r3 : ByteArray) (r4 : Bool) (w : World) (h : spec_l27Body.f k a0 = some (r1, r2, r3, r4)) :
  Calls Tryd.prog 98 #[.string a0] w fun e w' => e = .returned (.tuple #[.agg #[.int .i64 r1, .string r2, .string r3], .bool r4]) ∧ Below w.heap.size w w' := by
 unfold spec_l27Body.f at h
 split at h
 case isFalse => cases h
 rename_i hsz
 have HA := Aside0.mk h
 clear h
 have B0 := Aside0.mk (blank_le a0 _ 0 rfl)
 have B1 := Aside0.mk (blank_le a0 _ (blankFrom a0 0 + 1) rfl)
 have hu26 := Tryd.underlying26
 go_enter Tryd.func98, Tryd.ntmps98
 go_wp2_with ((with_reducible refine gate_dst (N := 2) rfl ?_); refine box_event ?hg (N := 2) ?hd (cs := #[.int .i64 0, .string (⟨#[]⟩ : ByteArray), .string (⟨#[]⟩ : ByteArray)]) (t := 26) ?hr ?_; (case hd => rfl); (case hg => rfl); (case hr => first | (go_simp; done) | (go_simp; rfl)); intro gb hg w2 hbox hb; have BK := Aside0.mk hbox; have HB := Aside0.mk hb; have GE := Aside0.mk (Nat.le_of_eq hg.symm); clear hbox hb hg)
 go_loop [4] (fun v4 => ∃ i : Nat, v4 = .int .i64 i ∧ i ≤ a0.size ∧ Aside0 (blankFrom a0 0 = blankFrom a0 i)) (fun v4 => a0.size - (intOf v4).toNat)
 case atStart => exact ⟨0, rfl, Nat.zero_le _, ⟨rfl⟩⟩
 case round =>
  obtain ⟨i, rfl, hi, hb⟩ := hrel
  by_cases hgo : i < a0.size ∧ ¬ bt a0 (i : Int) = 32
  ·obtain ⟨hlt, h32⟩ := hgo
   have hx : ∀ h : i < a0.size, ((a0[i]'h).toNat : Int) = bt a0 (i : Int) := by simpa using bt_at a0 (i : Int)
   have HH := Aside0.mk (blank_go hlt h32)
   have p1 : (bt a0 (i : Int) == 32) = false := by simpa using h32
   have p2 : (bt a0 (i : Int) != 32) = true := by simpa using h32
   go_wp2
   go_round
   case rel => exact ⟨i + 1, by go_num, by omega, ⟨by rw [hb.out, HH.out]⟩⟩
   case measure => simp [intOf]; omega
  ·have hst : blankFrom a0 0 = i := by
    rw [hb.out]
    by_cases hlt : i < a0.size
    ·exact blank_here (Decidable.not_not.mp fun g => hgo ⟨hlt, g⟩)
    ·exact blank_end hlt
   have HA1 := HA.out
   have B1' := B1.out
   rw [hst] at HA1 B1'
   have HA2 := Aside0.mk HA1
   have HST := Aside0.mk hst
   obtain ⟨b1, b2⟩ := B1'
   clear HA1 hst
   have hdec : (i < a0.size ∧ bt a0 (i : Int) = 32) ∨ ¬ i < a0.size := by
    by_cases hlt : i < a0.size
    ·exact .inl ⟨hlt, Decidable.not_not.mp fun g => hgo ⟨hlt, g⟩⟩
    ·exact .inr hlt
   have hx : ∀ h : i < a0.size, ((a0[i]'h).toNat : Int) = bt a0 (i : Int) := by simpa using bt_at a0 (i : Int)
   clear hgo
   rcases hdec with ⟨hlt, h32⟩ | hlt
   all_goals
    (try rw [h32] at hx)
    (try clear h32)
    go_wp2
    go_loop [5] (fun v5 => ∃ j : Nat, v5 = .int .i64 j ∧ i + 1 ≤ j ∧ (j ≤ a0.size ∨ j = i + 1) ∧ Aside0 (blankFrom a0 (i + 1) = blankFrom a0 j)) (fun v5 => a0.size - (intOf v5).toNat)
    case atStart => exact ⟨i + 1, by go_num, Nat.le_refl _, .inr rfl, ⟨rfl⟩⟩
    case round =>
     obtain ⟨j, rfl, hj1, hj2, hbj⟩ := hrel
     by_cases hgo : j < a0.size ∧ ¬ bt a0 (j : Int) = 32
     ·obtain ⟨hlj, h32⟩ := hgo
      have hxj : ∀ h : j < a0.size, ((a0[j]'h).toNat : Int) = bt a0 (j : Int) := by simpa using bt_at a0 (j : Int)
      have HH := Aside0.mk (blank_go hlj h32)
      have p1 : (bt a0 (j : Int) == 32) = false := by simpa using h32
      have p2 : (bt a0 (j : Int) != 32) = true := by simpa using h32
      clear hx
      go_wp2
      go_round
      case rel => exact ⟨j + 1, by go_num, by omega, by omega, ⟨by rw [hbj.out, HH.out]⟩⟩
      case measure => simp [intOf]; omega
     ·have hst : blankFrom a0 (i + 1) = j := by
       rw [hbj.out]
       by_cases hlj : j < a0.size
       ·exact blank_here (Decidable.not_not.mp fun g => hgo ⟨hlj, g⟩)
       ·exact blank_end hlj
      have HA1 := HA2.out
      rw [hst] at HA1 b1 b2
      have hdec : (j < a0.size ∧ bt a0 (j : Int) = 32) ∨ ¬ j < a0.size := by
       by_cases hlj : j < a0.size
       ·exact .inl ⟨hlj, Decidable.not_not.mp fun g => hgo ⟨hlj, g⟩⟩
       ·exact .inr hlj
      have hxj : ∀ h : j < a0.size, ((a0[j]'h).toNat : Int) = bt a0 (j : Int) := by simpa using bt_at a0 (j : Int)
      clear hx hst hgo
      rcases hdec with ⟨hlj, h32⟩ | hlj
      ·try (exfalso; omega)
       all_goals
        rw [if_neg (by omega)] at HA1
        rw [h32] at hxj
        have p0 : (0 : Int) ≤ (i : Int) + 1 := by omega
        have p1 : (i : Int) + 1 ≤ (j : Int) := by omega
        have p2 : (j : Int) ≤ (a0.size : Int) := by omega
        have p3 : (j : Int) + 1 ≤ (a0.size : Int) := by omega
        have p4 : (i : Int) ≤ (a0.size : Int) := by omega
        have p5 : ¬ (a0.size : Int) ≤ (j : Int) := by omega
        obtain ⟨⟨t1, t2⟩, ht, HA3⟩ := Option.bind_eq_some_iff.mp HA1
        have HT := Aside0.mk ht
        try simp only [] at HA3
        have HA4 := Aside0.mk HA3
        clear ht HA1 HA3 h32
        go_wp2_with (go_at_call 97; (with_reducible refine (spec_l01Number.calls k _ t1 t2 _ HT.out).mono ?_); rintro e w3 ⟨rfl, hb3⟩; have HB3 := Aside0.mk hb3; clear hb3)
        clear hxj
        have HB4 : Aside0 (Below w.heap.size w (w3.alloc (.cells #[.int .i64 t1, .string (a0.extract (i + 1) j), .string (a0.extract (j + 1) a0.size)] 26)).drew) := ⟨below_drew1 (below_alloc (below_step HB.out HB3.out) _)⟩
        have BK4 : Aside0 ((w3.alloc (.cells #[.int .i64 t1, .string (a0.extract (i + 1) j), .string (a0.extract (j + 1) a0.size)] 26)).drew.heap[gb]? = some (.cells #[.int .i64 0, .string (⟨#[]⟩ : ByteArray), .string (⟨#[]⟩ : ByteArray)] 26 (0, 0))) := ⟨blk_drew (blk_alloc (blk_below BK.out HB3.out) _)⟩
        have HI4 : Aside0 (IsS26 w (w3.alloc (.cells #[.int .i64 t1, .string (a0.extract (i + 1) j), .string (a0.extract (j + 1) a0.size)] 26)).drew w3.heap.size t1 (a0.extract (i + 1) j) (a0.extract (j + 1) a0.size)) := ⟨⟨blk_drew (blk_new w3 _), (below_step HB.out HB3.out).size⟩⟩
        have GN : Aside0 (gb < w3.heap.size) := ⟨blk_lt (blk_below BK.out HB3.out)⟩
        cases t2 with
        | false =>
         have HA5 := HA4.out
         simp only [Bool.false_eq_true, if_false, Option.some.injEq, Prod.mk.injEq] at HA5
         obtain ⟨rfl, rfl, rfl, rfl⟩ := HA5
         go_region
         obtain ⟨w4, hw4⟩ : ∃ w4, w4 = (w3.alloc (.cells #[.int .i64 t1, .string (a0.extract (i + 1) j), .string (a0.extract (j + 1) a0.size)] 26)).drew := ⟨_, rfl⟩
         rw [← hw4] at HB4 BK4 HI4 ⊢
         clear hw4
         have hc0 := cellS26_0 BK4.out
         have hc1 := cellS26_1 BK4.out
         have hc2 := cellS26_2 BK4.out
         have hf : ∀ o, w4.frozen? ⟨gb, o, none⟩ = false := fun o => by simp [World.frozen?, BK4.out]
         go_wp2
         refine bodyPost_ret (results_ct rfl _ _ gb 26 #[.int .i64 0, .string (⟨#[]⟩ : ByteArray), .string (⟨#[]⟩ : ByteArray)] (0, 0) _ rfl (by refine blk_put (cs := #[.int .i64 0, .string (⟨#[]⟩ : ByteArray), .string (⟨#[]⟩ : ByteArray)]) ?_ 2 _ rfl; refine blk_put (cs := #[.int .i64 0, .string (⟨#[]⟩ : ByteArray), .string (⟨#[]⟩ : ByteArray)]) ?_ 1 _ rfl; refine blk_put (cs := #[.int .i64 0, .string (⟨#[]⟩ : ByteArray), .string (⟨#[]⟩ : ByteArray)]) ?_ 0 _ rfl; exact BK4.out) Tryd.underlying26 rfl (by kernel_rfl)) rfl ?_
         exact ⟨rfl, below_set (below_set (below_set HB4.out GE.out) GE.out) GE.out⟩
        | true =>
         have HA5 := HA4.out
         simp only [if_true] at HA5
         obtain ⟨⟨u0, u1, u2, u3⟩, hu, HA6⟩ := Option.bind_eq_some_iff.mp HA5
         try simp only [] at HA6
         have HU := Aside0.mk hu
         have HA7 := Aside0.mk HA6
         clear hu HA5 HA6
         go_region
         obtain ⟨w4, hw4⟩ : ∃ w4, w4 = (w3.alloc (.cells #[.int .i64 t1, .string (a0.extract (i + 1) j), .string (a0.extract (j + 1) a0.size)] 26)).drew := ⟨_, rfl⟩
         rw [← hw4] at HB4 BK4 HI4 ⊢
         clear hw4
         have I1 := Aside0.mk (spec_l27One.calls k w3.heap.size t1 (a0.extract (i + 1) j) (a0.extract (j + 1) a0.size) u0 u1 u2 u3 w w4 HI4.out HB4.out HU.out)
         have HL4 := Aside0.mk (blk_lt BK4.out)
         cases u0 with
         | false =>
          have HA8 := HA7.out
          simp only [Bool.false_eq_true, if_false, Option.some.injEq, Prod.mk.injEq] at HA8
          obtain ⟨rfl, rfl, rfl, rfl⟩ := HA8
          go_wp2_with (go_at_call 57; (with_reducible refine I1.out.mono ?_); rintro e w5 ⟨rfl, hI5, hB5, hK5⟩; have BK5 := Aside0.mk ((hK5.2 gb HL4.out (Nat.ne_of_lt GN.out) (by simp)).trans BK4.out); have HB5 := Aside0.mk hB5; have hc0 := cellS26_0 BK5.out; have hc1 := cellS26_1 BK5.out; have hc2 := cellS26_2 BK5.out; have hf : ∀ o, w5.frozen? ⟨gb, o, none⟩ = false := (fun o => by simp [World.frozen?, BK5.out]); clear hI5 hB5 hK5)
          refine bodyPost_ret (results_ct rfl _ _ gb 26 #[.int .i64 0, .string (⟨#[]⟩ : ByteArray), .string (⟨#[]⟩ : ByteArray)] (0, 0) _ rfl (by refine blk_put (cs := #[.int .i64 0, .string (⟨#[]⟩ : ByteArray), .string (⟨#[]⟩ : ByteArray)]) ?_ 2 _ rfl; refine blk_put (cs := #[.int .i64 0, .string (⟨#[]⟩ : ByteArray), .string (⟨#[]⟩ : ByteArray)]) ?_ 1 _ rfl; refine blk_put (cs := #[.int .i64 0, .string (⟨#[]⟩ : ByteArray), .string (⟨#[]⟩ : ByteArray)]) ?_ 0 _ rfl; exact BK5.out) Tryd.underlying26 rfl (by kernel_rfl)) rfl ?_
          exact ⟨rfl, below_set (below_set (below_set HB5.out GE.out) GE.out) GE.out⟩
         | true =>
          have HA8 := HA7.out
          simp only [if_true, Option.some.injEq, Prod.mk.injEq] at HA8
          obtain ⟨rfl, rfl, rfl, rfl⟩ := HA8
          go_wp2_with (go_at_call 57; (with_reducible refine I1.out.mono ?_); rintro e w5 ⟨rfl, hI5, hB5, hK5⟩; have BK5 := Aside0.mk ((hK5.2 gb HL4.out (Nat.ne_of_lt GN.out) (by simp)).trans BK4.out); have HB5 := Aside0.mk hB5; have hc0 := cellS26_0 BK5.out; have hc1 := cellS26_1 BK5.out; have hc2 := cellS26_2 BK5.out; have hf : ∀ o, w5.frozen? ⟨gb, o, none⟩ = false := (fun o => by simp [World.frozen?, BK5.out]); have hd0 := cellS26_0 hI5.1; have hd1 := cellS26_1 hI5.1; have hd2 := cellS26_2 hI5.1; clear hI5 hB5 hK5)
          refine bodyPost_ret (results_ct rfl _ _ gb 26 #[.int .i64 u1, .string u2, .string u3] (0, 0) _ rfl (by refine blk_put (cs := #[.int .i64 u1, .string u2, .string (⟨#[]⟩ : ByteArray)]) ?_ 2 _ rfl; refine blk_put (cs := #[.int .i64 u1, .string (⟨#[]⟩ : ByteArray), .string (⟨#[]⟩ : ByteArray)]) ?_ 1 _ rfl; refine blk_put (cs := #[.int .i64 0, .string (⟨#[]⟩ : ByteArray), .string (⟨#[]⟩ : ByteArray)]) ?_ 0 _ rfl; exact BK5.out) Tryd.underlying26 rfl (by kernel_rfl)) rfl ?_
          exact ⟨rfl, below_set (below_set (below_set HB5.out GE.out) GE.out) GE.out⟩
      ·have hle : a0.size ≤ j := by omega
       rw [if_pos hle] at HA1
       simp only [Option.some.injEq, Prod.mk.injEq] at HA1
       obtain ⟨rfl, rfl, rfl, rfl⟩ := HA1
       have p5 : (a0.size : Int) ≤ (j : Int) := by omega
       have hc0 := cellS26_0 BK.out
       have hc1 := cellS26_1 BK.out
       have hc2 := cellS26_2 BK.out
       have hf : ∀ o, w2.frozen? ⟨gb, o, none⟩ = false := fun o => by simp [World.frozen?, BK.out]
       go_wp2
       refine bodyPost_ret (results_ct rfl _ _ gb 26 #[.int .i64 0, .string (⟨#[]⟩ : ByteArray), .string (⟨#[]⟩ : ByteArray)] (0, 0) _ rfl (by refine blk_put (cs := #[.int .i64 0, .string (⟨#[]⟩ : ByteArray), .string (⟨#[]⟩ : ByteArray)]) ?_ 2 _ rfl; refine blk_put (cs := #[.int .i64 0, .string (⟨#[]⟩ : ByteArray), .string (⟨#[]⟩ : ByteArray)]) ?_ 1 _ rfl; refine blk_put (cs := #[.int .i64 0, .string (⟨#[]⟩ : ByteArray), .string (⟨#[]⟩ : ByteArray)]) ?_ 0 _ rfl; exact BK.out) Tryd.underlying26 rfl (by kernel_rfl)) rfl ?_
       exact ⟨rfl, below_set (below_set (below_set HB.out GE.out) GE.out) GE.out⟩
end

/-! ### spec_l27Next: function 88, by hand -/
section
open Go.Proofs.YtlcgonaapmmnkaaDoor.Base
/-- The place of the first colon among the first four bytes; else 4, or the end of the text. -/
def colonFrom (s : ByteArray) (i : Nat) : Nat := if h : i < s.size ∧ i < 4 ∧ ¬ bt s (i : Int) = 58 then colonFrom s (i + 1) else i
termination_by s.size - i
decreasing_by omega
theorem colon_go {s : ByteArray} {i : Nat} (h : i < s.size) (h4 : i < 4) (hb : ¬ bt s (i : Int) = 58) : colonFrom s i = colonFrom s (i + 1) := by rw [colonFrom, dif_pos ⟨h, h4, hb⟩]
theorem colon_stop {s : ByteArray} {i : Nat} (h : ¬ (i < s.size ∧ i < 4 ∧ ¬ bt s (i : Int) = 58)) : colonFrom s i = i := by rw [colonFrom, dif_neg h]
def noEntry : Int × ByteArray × ByteArray × Int × Bool := (0, ⟨#[]⟩, ⟨#[]⟩, 0, false)
def spec_l27Next.f (k : Nat) (a0 : ByteArray) : Option (Int × ByteArray × ByteArray × Int × Bool) :=
 if a0.size ≤ 140737488351232 then
  (spec_l01Number.f k (a0.extract 0 (colonFrom a0 0))).bind fun t =>
   if t.1 ≤ 4611686018427387904 then
    if t.2 = true ∧ 1 ≤ t.1 ∧ ((colonFrom a0 0 : Nat) : Int) + 1 + t.1 ≤ (a0.size : Int) then
     (spec_l27Body.f k (a0.extract (colonFrom a0 0 + 1) (colonFrom a0 0 + 1 + t.1.toNat))).bind fun u => if u.2.2.2 = true then
      (spec_l27Frame.g k u.1 u.2.1 u.2.2.1).bind fun r => if r.size ≤ a0.size ∧ ((a0.extract 0 r.size).toList == r.toList) = true then some (u.1, u.2.1, u.2.2.1, (r.size : Int), true) else some noEntry
     else some noEntry
    else some noEntry
   else none
 else none
theorem spec_l27Next.mono : ∀ a0 k, LeO (spec_l27Next.f k a0) (spec_l27Next.f (k + 1) a0) := fun a0 k => by
 unfold spec_l27Next.f
 exact LeO.ite (LeO.bind (spec_l01Number.mono _ _) fun t => LeO.ite (LeO.ite (LeO.bind (spec_l27Body.mono _ _) fun u => LeO.ite (LeO.bind (spec_l27Frame.g_mono _ _ _ _) fun r => LeO.refl _) (LeO.refl _)) (LeO.refl _)) (LeO.refl _)) (LeO.refl _)
set_option maxHeartbeats 8000000 in
set_option maxRecDepth 100000 in
theorem spec_l27Next.calls (k : Nat) (a0 : ByteArray) (r1 : Int) (r2 : ByteArray) (r3 : ByteArray) (r4 : Int) (r5 : Bool) (w : World) (h : spec_l27Next.f k a0 = some (r1, r2, r3, r4, r5)) :
  Calls Tryd.prog 88 #[.string a0] w fun e w' => e = .returned (.tuple #[.agg #[.int .i64 r1, .string r2, .string r3], .int .i64 r4, .bool r5]) ∧ Below w.heap.size w w' := by
 unfold spec_l27Next.f at h
 split at h
 case isFalse => cases h
 rename_i hsz
 replace h := Option.bind_eq_some_iff.mp h
 obtain ⟨⟨t1, t2⟩, ht, h⟩ := h
 split at h
 case isFalse => cases h
 rename_i hbig
 try simp only [] at h hbig
 have HT0 := Aside0.mk ht
 have HA := Aside0.mk h
 clear h ht
 have hu26 := Tryd.underlying26
 go_enter Tryd.func88, Tryd.ntmps88
 go_wp2_with ((with_reducible refine gate_dst (N := 2) rfl ?_); refine box_event ?hg (N := 2) ?hd (cs := #[.int .i64 0, .string (⟨#[]⟩ : ByteArray), .string (⟨#[]⟩ : ByteArray)]) (t := 26) ?hr ?_; (case hd => rfl); (case hg => rfl); (case hr => first | (go_simp; done) | (go_simp; rfl)); intro gb hg w2 hbox hb; have BK := Aside0.mk hbox; have HB := Aside0.mk hb; have GE := Aside0.mk (Nat.le_of_eq hg.symm); clear hbox hb hg)
 go_loop [5] (fun v5 => ∃ i : Nat, v5 = .int .i64 i ∧ i ≤ a0.size ∧ i ≤ 4 ∧ Aside0 (colonFrom a0 0 = colonFrom a0 i)) (fun v5 => a0.size - (intOf v5).toNat)
 case atStart => exact ⟨0, rfl, Nat.zero_le _, Nat.zero_le _, ⟨rfl⟩⟩
 case round =>
  obtain ⟨i, rfl, hi, hi4, hb⟩ := hrel
  have hx : ∀ h : i < a0.size, ((a0[i]'h).toNat : Int) = bt a0 (i : Int) := by simpa using bt_at a0 (i : Int)
  by_cases hgo : i < a0.size ∧ i < 4 ∧ ¬ bt a0 (i : Int) = 58
  ·obtain ⟨hlt, h4, h58⟩ := hgo
   have HH := Aside0.mk (colon_go hlt h4 h58)
   have p1 : (bt a0 (i : Int) == 58) = false := by simpa using h58
   have p2 : (bt a0 (i : Int) != 58) = true := by simpa using h58
   have p3 : (i : Int) < 4 := by omega
   go_wp2
   go_round
   case rel => exact ⟨i + 1, by go_num, by omega, by omega, ⟨by rw [hb.out, HH.out]⟩⟩
   case measure => simp [intOf]; omega
  ·have hst : colonFrom a0 0 = i := by rw [hb.out]; exact colon_stop hgo
   have HA1 := HA.out
   have HT1 := HT0.out
   rw [hst] at HA1 HT1
   have HT := Aside0.mk HT1
   have HA2 := Aside0.mk HA1
   clear HA1 HT1 hst hb
   have hdec : ¬ i < a0.size ∨ (i < a0.size ∧ ¬ (i : Int) < 4) ∨ (i < a0.size ∧ (i : Int) < 4 ∧ bt a0 (i : Int) = 58) := by
    by_cases hlt : i < a0.size
    ·by_cases h4 : i < 4
     ·exact .inr (.inr ⟨hlt, by omega, Decidable.not_not.mp fun g => hgo ⟨hlt, h4, g⟩⟩)
     ·exact .inr (.inl ⟨hlt, by omega⟩)
    ·exact .inl hlt
   have p4 : (i : Int) ≤ (a0.size : Int) := by omega
   clear hgo
   rcases hdec with hlt | ⟨hlt, h4⟩ | ⟨hlt, h4, h58⟩
   all_goals
    (try rw [h58] at hx)
    (try clear h58)
    by_cases hpass : t2 = true ∧ 1 ≤ t1 ∧ (i : Int) + 1 + t1 ≤ (a0.size : Int)
    ·have HA3 := HA2.out
     rw [if_pos hpass] at HA3
     obtain ⟨hp1, hp2, hp3⟩ := hpass
     try (exfalso; omega)
     all_goals
      subst hp1
      obtain ⟨m, rfl⟩ : ∃ m : Nat, t1 = (m : Int) := ⟨t1.toNat, by omega⟩
      obtain ⟨⟨u0, u1, u2, u3⟩, hu, HA4⟩ := Option.bind_eq_some_iff.mp HA3
      try simp only [Int.toNat_natCast] at HA4 hu
      have HU := Aside0.mk hu
      have HA5 := Aside0.mk HA4
      clear hu HA3 HA4 HA2
      have q1 : ¬ (m : Int) < 1 := by omega
      have q2 : ¬ (a0.size : Int) < (i : Int) + 1 + (m : Int) := by omega
      have q3 : (0 : Int) ≤ (i : Int) + 1 := by omega
      have q4 : (i : Int) + 1 ≤ (i : Int) + 1 + (m : Int) := by omega
      have q5 : ((i : Int) + 1 + (m : Int)).toNat = i + 1 + m := by omega
      go_upto_region 8 with (first | (go_at_call 97; (with_reducible refine (spec_l01Number.calls k _ _ _ _ HT.out).mono ?_); rintro e w3 ⟨rfl, hb3⟩; have HB3 := Aside0.mk (below_step HB.out hb3); have BK3 := Aside0.mk (blk_below BK.out hb3); clear hb3) | (go_at_call 98; (with_reducible refine (spec_l27Body.calls k _ u0 u1 u2 u3 _ HU.out).mono ?_); rintro e w4 ⟨rfl, hb4⟩; have HB4 := Aside0.mk (below_step HB3.out hb4); have BK4 := Aside0.mk (blk_below BK3.out hb4); clear hb4))
      have HB5 : Aside0 (Below w.heap.size w (w4.alloc (.cells #[.int .i64 u0, .string u1, .string u2] 26))) := ⟨below_alloc HB4.out _⟩
      have BK5 : Aside0 ((w4.alloc (.cells #[.int .i64 u0, .string u1, .string u2] 26)).heap[gb]? = some (.cells #[.int .i64 0, .string (⟨#[]⟩ : ByteArray), .string (⟨#[]⟩ : ByteArray)] 26 (0, 0))) := ⟨blk_alloc BK4.out _⟩
      have HI5 : Aside0 (IsS26 w (w4.alloc (.cells #[.int .i64 u0, .string u1, .string u2] 26)) w4.heap.size u0 u1 u2) := ⟨⟨blk_new w4 _, HB4.out.size⟩⟩
      obtain ⟨w5, hw5⟩ : ∃ w5, w5 = w4.alloc (.cells #[.int .i64 u0, .string u1, .string u2] 26) := ⟨_, rfl⟩
      rw [← hw5] at HB5 BK5 HI5 ⊢
      clear hw5 q1 q2 q3 q4 q5
      cases u3 with
      | false =>
       have HA6 := HA5.out
       simp only [Bool.false_eq_true, if_false, Option.some.injEq, noEntry, Prod.mk.injEq] at HA6
       obtain ⟨rfl, rfl, rfl, rfl, rfl⟩ := HA6
       (have hc0 := cellS26_0 BK5.out; have hc1 := cellS26_1 BK5.out; have hc2 := cellS26_2 BK5.out; have hf : ∀ o, w5.frozen? ⟨gb, o, none⟩ = false := (fun o => by simp [World.frozen?, BK5.out]))
       go_wp2
       refine bodyPost_ret (results_ctt rfl _ _ gb 26 #[.int .i64 0, .string (⟨#[]⟩ : ByteArray), .string (⟨#[]⟩ : ByteArray)] (0, 0) _ rfl (by refine blk_put (cs := #[.int .i64 0, .string (⟨#[]⟩ : ByteArray), .string (⟨#[]⟩ : ByteArray)]) ?_ 2 _ rfl; refine blk_put (cs := #[.int .i64 0, .string (⟨#[]⟩ : ByteArray), .string (⟨#[]⟩ : ByteArray)]) ?_ 1 _ rfl; refine blk_put (cs := #[.int .i64 0, .string (⟨#[]⟩ : ByteArray), .string (⟨#[]⟩ : ByteArray)]) ?_ 0 _ rfl; exact BK5.out) Tryd.underlying26 rfl (by kernel_rfl)) rfl ?_
       exact ⟨rfl, below_set (below_set (below_set HB5.out GE.out) GE.out) GE.out⟩
      | true =>
       have HA6 := HA5.out
       simp only [if_true] at HA6
       obtain ⟨fr, hfr, HA7⟩ := Option.bind_eq_some_iff.mp HA6
       have I6 := Aside0.mk (spec_l27Frame.at_ k ⟨w4.heap.size, 0, none⟩ u0 u1 u2 fr w5 (cellS26_0 HI5.out.1) (cellS26_1 HI5.out.1) (cellS26_2 HI5.out.1) hfr)
       have HA8 := Aside0.mk HA7
       clear hfr HA6 HA7
       by_cases hfs : fr.size ≤ a0.size
       ·cases hfe : (a0.extract 0 fr.size).toList == fr.toList with
        | false =>
         have HA9 := HA8.out
         rw [if_neg (fun g => by rw [hfe] at g; exact absurd g.2 (by simp))] at HA9
         simp only [noEntry, Option.some.injEq, Prod.mk.injEq] at HA9
         obtain ⟨rfl, rfl, rfl, rfl, rfl⟩ := HA9
         have s1 : ¬ (a0.size : Int) < (fr.size : Int) := by omega
         have s2 : (fr.size : Int) ≤ (a0.size : Int) := by omega
         go_wp2_with (go_at_call 58; (with_reducible refine I6.out.mono ?_); rintro e w6 ⟨rfl, hb6⟩; have HB6 := Aside0.mk (below_step HB5.out hb6); have BK6 := Aside0.mk (blk_below BK5.out hb6); have HI6 := Aside0.mk (HI5.out.below hb6); clear hb6; have hc0 := cellS26_0 BK6.out; have hc1 := cellS26_1 BK6.out; have hc2 := cellS26_2 BK6.out; have hf : ∀ o, w6.frozen? ⟨gb, o, none⟩ = false := (fun o => by simp [World.frozen?, BK6.out]))
         refine bodyPost_ret (results_ctt rfl _ _ gb 26 #[.int .i64 0, .string (⟨#[]⟩ : ByteArray), .string (⟨#[]⟩ : ByteArray)] (0, 0) _ rfl (by refine blk_put (cs := #[.int .i64 0, .string (⟨#[]⟩ : ByteArray), .string (⟨#[]⟩ : ByteArray)]) ?_ 2 _ rfl; refine blk_put (cs := #[.int .i64 0, .string (⟨#[]⟩ : ByteArray), .string (⟨#[]⟩ : ByteArray)]) ?_ 1 _ rfl; refine blk_put (cs := #[.int .i64 0, .string (⟨#[]⟩ : ByteArray), .string (⟨#[]⟩ : ByteArray)]) ?_ 0 _ rfl; exact BK6.out) Tryd.underlying26 rfl (by kernel_rfl)) rfl ?_
         exact ⟨rfl, below_set (below_set (below_set HB6.out GE.out) GE.out) GE.out⟩
        | true =>
         have HA9 := HA8.out
         rw [if_pos ⟨hfs, hfe⟩] at HA9
         simp only [Option.some.injEq, Prod.mk.injEq] at HA9
         obtain ⟨rfl, rfl, rfl, rfl, rfl⟩ := HA9
         have s1 : ¬ (a0.size : Int) < (fr.size : Int) := by omega
         have s2 : (fr.size : Int) ≤ (a0.size : Int) := by omega
         go_wp2_with (go_at_call 58; (with_reducible refine I6.out.mono ?_); rintro e w6 ⟨rfl, hb6⟩; have HB6 := Aside0.mk (below_step HB5.out hb6); have BK6 := Aside0.mk (blk_below BK5.out hb6); have HI6 := Aside0.mk (HI5.out.below hb6); clear hb6; have hc0 := cellS26_0 BK6.out; have hc1 := cellS26_1 BK6.out; have hc2 := cellS26_2 BK6.out; have hf : ∀ o, w6.frozen? ⟨gb, o, none⟩ = false := (fun o => by simp [World.frozen?, BK6.out]); have hd0 := cellS26_0 HI6.out.1; have hd1 := cellS26_1 HI6.out.1; have hd2 := cellS26_2 HI6.out.1)
         refine bodyPost_ret (results_ctt rfl _ _ gb 26 #[.int .i64 u0, .string u1, .string u2] (0, 0) _ rfl (by refine blk_put (cs := #[.int .i64 u0, .string u1, .string (⟨#[]⟩ : ByteArray)]) ?_ 2 _ rfl; refine blk_put (cs := #[.int .i64 u0, .string (⟨#[]⟩ : ByteArray), .string (⟨#[]⟩ : ByteArray)]) ?_ 1 _ rfl; refine blk_put (cs := #[.int .i64 0, .string (⟨#[]⟩ : ByteArray), .string (⟨#[]⟩ : ByteArray)]) ?_ 0 _ rfl; exact BK6.out) Tryd.underlying26 rfl (by kernel_rfl)) rfl ?_
         exact ⟨rfl, below_set (below_set (below_set HB6.out GE.out) GE.out) GE.out⟩
       ·have HA9 := HA8.out
        rw [if_neg (fun g => hfs g.1)] at HA9
        simp only [noEntry, Option.some.injEq, Prod.mk.injEq] at HA9
        obtain ⟨rfl, rfl, rfl, rfl, rfl⟩ := HA9
        have s1 : (a0.size : Int) < (fr.size : Int) := by omega
        go_wp2_with (go_at_call 58; (with_reducible refine I6.out.mono ?_); rintro e w6 ⟨rfl, hb6⟩; have HB6 := Aside0.mk (below_step HB5.out hb6); have BK6 := Aside0.mk (blk_below BK5.out hb6); have HI6 := Aside0.mk (HI5.out.below hb6); clear hb6; have hc0 := cellS26_0 BK6.out; have hc1 := cellS26_1 BK6.out; have hc2 := cellS26_2 BK6.out; have hf : ∀ o, w6.frozen? ⟨gb, o, none⟩ = false := (fun o => by simp [World.frozen?, BK6.out]))
        refine bodyPost_ret (results_ctt rfl _ _ gb 26 #[.int .i64 0, .string (⟨#[]⟩ : ByteArray), .string (⟨#[]⟩ : ByteArray)] (0, 0) _ rfl (by refine blk_put (cs := #[.int .i64 0, .string (⟨#[]⟩ : ByteArray), .string (⟨#[]⟩ : ByteArray)]) ?_ 2 _ rfl; refine blk_put (cs := #[.int .i64 0, .string (⟨#[]⟩ : ByteArray), .string (⟨#[]⟩ : ByteArray)]) ?_ 1 _ rfl; refine blk_put (cs := #[.int .i64 0, .string (⟨#[]⟩ : ByteArray), .string (⟨#[]⟩ : ByteArray)]) ?_ 0 _ rfl; exact BK6.out) Tryd.underlying26 rfl (by kernel_rfl)) rfl ?_
        exact ⟨rfl, below_set (below_set (below_set HB6.out GE.out) GE.out) GE.out⟩
    ·have HA3 := HA2.out
     rw [if_neg hpass] at HA3
     simp only [noEntry, Option.some.injEq, Prod.mk.injEq] at HA3
     obtain ⟨rfl, rfl, rfl, rfl, rfl⟩ := HA3
     cases t2 with
     | false =>
      go_wp2_with (go_at_call 97; (with_reducible refine (spec_l01Number.calls k _ _ _ _ HT.out).mono ?_); rintro e w3 ⟨rfl, hb3⟩; have HB3 := Aside0.mk (below_step HB.out hb3); have BK3 := Aside0.mk (blk_below BK.out hb3); clear hb3; have hc0 := cellS26_0 BK3.out; have hc1 := cellS26_1 BK3.out; have hc2 := cellS26_2 BK3.out; have hf : ∀ o, w3.frozen? ⟨gb, o, none⟩ = false := (fun o => by simp [World.frozen?, BK3.out]))
      refine bodyPost_ret (results_ctt rfl _ _ gb 26 #[.int .i64 0, .string (⟨#[]⟩ : ByteArray), .string (⟨#[]⟩ : ByteArray)] (0, 0) _ rfl (by refine blk_put (cs := #[.int .i64 0, .string (⟨#[]⟩ : ByteArray), .string (⟨#[]⟩ : ByteArray)]) ?_ 2 _ rfl; refine blk_put (cs := #[.int .i64 0, .string (⟨#[]⟩ : ByteArray), .string (⟨#[]⟩ : ByteArray)]) ?_ 1 _ rfl; refine blk_put (cs := #[.int .i64 0, .string (⟨#[]⟩ : ByteArray), .string (⟨#[]⟩ : ByteArray)]) ?_ 0 _ rfl; exact BK3.out) Tryd.underlying26 rfl (by kernel_rfl)) rfl ?_
      exact ⟨rfl, below_set (below_set (below_set HB3.out GE.out) GE.out) GE.out⟩
     | true =>
      by_cases hn1 : t1 < 1
      ·go_wp2_with (go_at_call 97; (with_reducible refine (spec_l01Number.calls k _ _ _ _ HT.out).mono ?_); rintro e w3 ⟨rfl, hb3⟩; have HB3 := Aside0.mk (below_step HB.out hb3); have BK3 := Aside0.mk (blk_below BK.out hb3); clear hb3; have hc0 := cellS26_0 BK3.out; have hc1 := cellS26_1 BK3.out; have hc2 := cellS26_2 BK3.out; have hf : ∀ o, w3.frozen? ⟨gb, o, none⟩ = false := (fun o => by simp [World.frozen?, BK3.out]))
       refine bodyPost_ret (results_ctt rfl _ _ gb 26 #[.int .i64 0, .string (⟨#[]⟩ : ByteArray), .string (⟨#[]⟩ : ByteArray)] (0, 0) _ rfl (by refine blk_put (cs := #[.int .i64 0, .string (⟨#[]⟩ : ByteArray), .string (⟨#[]⟩ : ByteArray)]) ?_ 2 _ rfl; refine blk_put (cs := #[.int .i64 0, .string (⟨#[]⟩ : ByteArray), .string (⟨#[]⟩ : ByteArray)]) ?_ 1 _ rfl; refine blk_put (cs := #[.int .i64 0, .string (⟨#[]⟩ : ByteArray), .string (⟨#[]⟩ : ByteArray)]) ?_ 0 _ rfl; exact BK3.out) Tryd.underlying26 rfl (by kernel_rfl)) rfl ?_
       exact ⟨rfl, below_set (below_set (below_set HB3.out GE.out) GE.out) GE.out⟩
      ·have q2 : (a0.size : Int) < (i : Int) + 1 + t1 := by
        rcases Int.lt_or_le (a0.size : Int) ((i : Int) + 1 + t1) with g | g
        ·exact g
        ·exact absurd ⟨rfl, by omega, g⟩ hpass
       go_wp2_with (go_at_call 97; (with_reducible refine (spec_l01Number.calls k _ _ _ _ HT.out).mono ?_); rintro e w3 ⟨rfl, hb3⟩; have HB3 := Aside0.mk (below_step HB.out hb3); have BK3 := Aside0.mk (blk_below BK.out hb3); clear hb3; have hc0 := cellS26_0 BK3.out; have hc1 := cellS26_1 BK3.out; have hc2 := cellS26_2 BK3.out; have hf : ∀ o, w3.frozen? ⟨gb, o, none⟩ = false := (fun o => by simp [World.frozen?, BK3.out]))
       refine bodyPost_ret (results_ctt rfl _ _ gb 26 #[.int .i64 0, .string (⟨#[]⟩ : ByteArray), .string (⟨#[]⟩ : ByteArray)] (0, 0) _ rfl (by refine blk_put (cs := #[.int .i64 0, .string (⟨#[]⟩ : ByteArray), .string (⟨#[]⟩ : ByteArray)]) ?_ 2 _ rfl; refine blk_put (cs := #[.int .i64 0, .string (⟨#[]⟩ : ByteArray), .string (⟨#[]⟩ : ByteArray)]) ?_ 1 _ rfl; refine blk_put (cs := #[.int .i64 0, .string (⟨#[]⟩ : ByteArray), .string (⟨#[]⟩ : ByteArray)]) ?_ 0 _ rfl; exact BK3.out) Tryd.underlying26 rfl (by kernel_rfl)) rfl ?_
       exact ⟨rfl, below_set (below_set (below_set HB3.out GE.out) GE.out) GE.out⟩
end

/-! ### spec_l27Read: function 64 -/
def spec_l27Read.l0 : Nat → ByteArray → List (S26) → Int → Option ((List (S26)) × Int)
 | 0, _, _, _ => none
 | k + 1, x0, x4, x5 => if 0 ≤ x5 then (if x5 ≤ (x0.size : Int) then ((spec_l27Next.f k (x0.extract (x5 : Int).toNat x0.size)).bind fun bt134 => (if bt134.2.2.2.2 = true then (if x4.length < 3518437208883 then (spec_l27Read.l0 k x0 (x4 ++ [(⟨bt134.1, bt134.2.1, bt134.2.2.1⟩ : S26)]) (wrap64 (x5 + bt134.2.2.2.1))) else (none)) else (some (x4, x5)))) else (none)) else (none)
def spec_l27Read.f (k : Nat) (a0 : ByteArray) : Option ((List (S26)) × Int) := spec_l27Read.l0 k a0 (([] : List (S26))) 0
theorem spec_l27Read.mono_l : ∀ k, (∀ y0 y1 y2, LeO (spec_l27Read.l0 k y0 y1 y2) (spec_l27Read.l0 (k + 1) y0 y1 y2))
 | 0 => fun _ _ _ r h => by simp [spec_l27Read.l0] at h
 | k + 1 => by
  have ih0 := spec_l27Read.mono_l k
  ·intro y0 y1 y2
   unfold spec_l27Read.l0
   repeat' first
   | (with_reducible exact ih0 _ _ _)
   | (with_reducible exact spec_l27Next.mono _ _)
   | (with_reducible exact LeO.refl _)
   | (with_reducible exact LeO.none _)
   | (with_reducible refine LeO.ite ?_ ?_)
   | (with_reducible refine LeO.bind ?_ (fun _ => ?_))
   | exact ih0 _ _ _
   | exact spec_l27Next.mono _ _
   | exact LeO.none _
   | refine LeO.ite ?_ ?_
   | refine LeO.bind ?_ (fun _ => ?_)
theorem spec_l27Read.mono : ∀ a0 k, LeO (spec_l27Read.f k a0) (spec_l27Read.f (k + 1) a0) := by
 intro a0 k
 have ih0 := spec_l27Read.mono_l k
 unfold spec_l27Read.f
 repeat' first
   | (with_reducible exact ih0 _ _ _)
   | (with_reducible exact spec_l27Next.mono _ _)
   | (with_reducible exact LeO.refl _)
   | (with_reducible exact LeO.none _)
   | (with_reducible refine LeO.ite ?_ ?_)
   | (with_reducible refine LeO.bind ?_ (fun _ => ?_))
   | exact ih0 _ _ _
   | exact spec_l27Next.mono _ _
   | exact LeO.none _
   | refine LeO.ite ?_ ?_
   | refine LeO.bind ?_ (fun _ => ?_)
set_option maxHeartbeats 8000000 in
set_option maxRecDepth 100000 in
theorem spec_l27Read.calls (k : Nat) (a0 : ByteArray) (r1 : List (S26)) (r2 : Int) (w : World) (h : spec_l27Read.f k a0 = some (r1, r2)) :
  Calls Tryd.prog 64 #[.string a0] w fun e w' => ∃ v0_ : Value, e = .returned (.tuple #[v0_, .int .i64 r2]) ∧ Kd.R k26 26 w' w.heap.size (fun _ => True) v0_ r1 ∧ Below w.heap.size w w' := by
 have hu26 := Tryd.underlying26
 have HB := Aside0.mk (Below.refl w.heap.size w)
 have H : (spec_l27Read.l0 k a0 (([] : List (S26))) 0) = some (r1, r2) := h
 clear h
 obtain ⟨y131, hy131⟩ : ∃ y_ : List (S26), y_ = (([] : List (S26))) := ⟨_, rfl⟩
 replace H : (spec_l27Read.l0 k a0 y131 0) = some (r1, r2) := by first | (rw [hy131]; with_reducible exact H) | (have H2_ := (Option.bind_some _ _).symm.trans H; rw [hy131]; with_reducible exact H2_) | (have H2_ := (Option.bind_some _ _).symm.trans H; with_reducible exact H2_) | with_reducible exact H | (rw [hy131]; exact H) | exact H
 have Ny131 := Aside0.mk hy131
 clear hy131
 have H' := Aside0.mk H
 clear H
 go_enter Tryd.func64, Tryd.ntmps64
 go_wp2_with (first | ((with_reducible refine gate_dst (N := 9) rfl ?_); refine Kd.R_lit k26 _ 26 ?hg (N := 9) ?hd (xs := ([] : List (S26))) (inner := []) (ok := fun _ => True) (okp := fun _ => True) ?hr ?hp (fun _ hk => hk) trivial (Below.refl _ _) (Nat.le_refl _) (by simp) ?_; (case hd => rfl); (case hg => rfl); (case hr => first | (go_simp; done) | (go_simp; rfl)); (case hp => exact (Reps.none _ _)); intro v132 w2 ho3 hb hg_ hnew_; clear hg_ hnew_; (first | rw [← Ny131.out] at ho3 | (simp only [Int.reduceToNat] at ho3; rw [← Ny131.out] at ho3)); have n0_ := Aside0.mk (Kd.R_lower ho3 (below_size (by repeat (first | (with_reducible first | exact HB.out | apply below_alloc | apply pw_below_drewN | apply below_drew1) | exact HB.out)))); have n1_ := Aside0.mk (below_step (by repeat (first | (with_reducible first | exact HB.out | apply below_alloc | apply pw_below_drewN | apply below_drew1) | exact HB.out)) hb); clear HB; have HO133 := n0_; have HB := n1_; clear n0_ n1_; clear hb ho3))
 go_loopg [4, 5] k (fun kq v4 v5 w' => ∃ (x4_1 : List (S26)) (x5_1 : Int), v5 = .int .i64 x5_1 ∧ Aside0 (spec_l27Read.l0 kq a0 x4_1 x5_1 = some (r1, r2)) ∧ Aside0 (kq ≤ k) ∧ Aside0 (Kd.R k26 26 w' w.heap.size (fun _ => True) v4 x4_1) ∧ Aside0 (Below w.heap.size w w'))
 case atStart => exact ⟨(y131), (0), (by first | rfl | (simp; done) | (simp [*]; done)), H', ⟨Nat.le_refl _⟩, ⟨by (with_reducible repeat (first | apply Kd.R_alloc | apply Kd.R_drewN | apply Kd.R_drew)); exact HO133.out⟩, ⟨by repeat (first | (with_reducible first | exact HB.out | apply below_alloc | apply pw_below_drewN | apply below_drew1) | exact HB.out)⟩⟩
 case round =>
  clear H'
  (try clear p2)
  obtain ⟨x4_1, x5_1, rfl, HA, HK1, HO_4, HB⟩ := hrel
  cases gk with
  | zero => exact absurd HA.out (by simp [spec_l27Read.l0])
  | succ k1 =>
   have H := HA.out
   clear HA
   simp only [spec_l27Read.l0] at H
   by_cases c4 : 0 ≤ x5_1
   ·rw [if_pos c4] at H
    have c4b0 := eq_true c4
    have c4b1 : decide (0 ≤ x5_1) = true := decide_eq_true c4
    clear c4
    by_cases c5 : x5_1 ≤ (a0.size : Int)
    ·rw [if_pos c5] at H
     have c5b0 := eq_true c5
     have c5b1 : decide (x5_1 ≤ (a0.size : Int)) = true := decide_eq_true c5
     clear c5
     replace H := Option.bind_eq_some_iff.mp H
     obtain ⟨⟨t134, t135, t136, t137, t138⟩, A60, H⟩ := H
     replace H : (if t138 = true then (if x4_1.length < 3518437208883 then (spec_l27Read.l0 k1 a0 (x4_1 ++ [(⟨t134, t135, t136⟩ : S26)]) (wrap64 (x5_1 + t137))) else (none)) else (some (x4_1, x5_1))) = some (r1, r2) := H
     have A6 := Aside0.mk A60
     clear A60
     by_cases c7 : t138 = true
     ·subst c7
      have H1 : (if x4_1.length < 3518437208883 then (spec_l27Read.l0 k1 a0 (x4_1 ++ [(⟨t134, t135, t136⟩ : S26)]) (wrap64 (x5_1 + t137))) else (none)) = some (r1, r2) := by rw [if_pos rfl] at H; exact H
      clear H
      have H := H1
      clear H1
      by_cases c8 : x4_1.length < 3518437208883
      ·rw [if_pos c8] at H
       have LMc8 := Aside0.mk c8
       clear c8
       obtain ⟨y140, hy140⟩ : ∃ y_ : List (S26), y_ = (x4_1 ++ [(⟨t134, t135, t136⟩ : S26)]) := ⟨_, rfl⟩
       replace H : (spec_l27Read.l0 k1 a0 y140 (wrap64 (x5_1 + t137))) = some (r1, r2) := by first | (rw [hy140]; with_reducible exact H) | (have H2_ := (Option.bind_some _ _).symm.trans H; rw [hy140]; with_reducible exact H2_) | (have H2_ := (Option.bind_some _ _).symm.trans H; with_reducible exact H2_) | with_reducible exact H | (rw [hy140]; exact H) | exact H
       have Ny140 := Aside0.mk hy140
       clear hy140
       have H' := Aside0.mk H
       clear H
       go_wp2_with (first | ((with_reducible refine gate_callee (f := 88) rfl ?_); refine goesL_ (some 14) rfl rfl Tryd.func88 (by kernel_rfl) rfl #[.string (a0.extract (x5_1 : Int).toNat a0.size)] rfl (by (try simp only [List.map_toArray, List.map_cons, List.map_nil]); first | done | rfl | (simp only [List.length_drop, List.length_take]; rfl) | (simp only [ByteArray.size_append, Int.natCast_add]; rfl)) ?_; (with_reducible refine (spec_l27Next.calls k1 (a0.extract (x5_1 : Int).toNat a0.size) t134 t135 t136 t137 true _ A6.out).mono ?_); rintro e w9 ⟨rfl, hb⟩; refine ⟨_, rfl, ?_⟩; have n0_ := Aside0.mk (Kd.R_below (by (with_reducible repeat (first | apply Kd.R_alloc | apply Kd.R_drewN | apply Kd.R_drew)); exact HO_4.out) hb); have n1_ := Aside0.mk (below_step (by repeat (first | (with_reducible first | exact HB.out | apply below_alloc | apply pw_below_drewN | apply below_drew1) | exact HB.out)) hb); clear HO_4; clear HB; have HO_4 := n0_; have HB := n1_; clear n0_ n1_; (try clear hb); (try clear hb2); (try clear hk); (try clear hi)) | ((with_reducible refine gate_dst (N := 6) rfl ?_); refine box_event ?hg (N := 6) ?hd (cs := #[.int .i64 0, .string (⟨#[]⟩ : ByteArray), .string (⟨#[]⟩ : ByteArray)]) (t := 26) ?hr ?_; (case hd => rfl); (case hg => rfl); (case hr => first | (go_simp; done) | (go_simp; rfl)); intro gb139 hg w10 hbox hb; have n0_ := Aside0.mk (Kd.R_below (Kd.R_elderB (by (with_reducible repeat (first | apply Kd.R_alloc | apply Kd.R_drewN | apply Kd.R_drew)); exact HO_4.out) gb139 (Nat.le_of_eq hg.symm)) hb); have n1_ := Aside0.mk (below_step (by repeat (first | (with_reducible first | exact HB.out | apply below_alloc | apply pw_below_drewN | apply below_drew1) | exact HB.out)) hb); have n2_ := Aside0.mk (hbox); have n3_ := Aside0.mk ((by rw [hg]; exact (below_size (by repeat (first | (with_reducible first | exact HB.out | apply below_alloc | apply pw_below_drewN | apply below_drew1) | exact HB.out))) : w.heap.size ≤ gb139)); have n4_ := Aside0.mk ((by rw [hg]; exact (below_size (by repeat (first | (with_reducible first | exact HB.out | apply below_alloc | apply pw_below_drewN | apply below_drew1) | exact HB.out))) : w.heap.size ≤ gb139)); clear HO_4; clear HB; have HO_4 := n0_; have HB := n1_; have BK139 := n2_; have GW139 := n3_; have GE139 := n4_; clear n0_ n1_ n2_ n3_ n4_; clear hb hbox hg; have hcz11_0 : w10.cell? ⟨gb139, 0, none⟩ = some (.int .i64 0) := (blk_cell BK139.out 0).trans rfl; have hcz11_1 : w10.cell? ⟨gb139, 1, none⟩ = some (.string (⟨#[]⟩ : ByteArray)) := (blk_cell BK139.out 1).trans rfl; have hcz11_2 : w10.cell? ⟨gb139, 2, none⟩ = some (.string (⟨#[]⟩ : ByteArray)) := (blk_cell BK139.out 2).trans rfl; have hfz11_0 := blk_frozen BK139.out 0; have hfz11_1 := blk_frozen BK139.out 1; have hfz11_2 := blk_frozen BK139.out 2) | ((with_reducible refine gate_builtin (b := .append) (xs := #[.tmp 22, .tmp 24]) rfl ?_); at_builtin; refine Kd.R_append k26 (w0 := w) w.heap.size rfl (.tmp 22) (.tmp 24) 42 26 (.agg #[(.int .i64 0), (.string ⟨#[]⟩), (.string ⟨#[]⟩)]) 40 rfl Tryd.underlying42 info26 rfl (by decide) (by omega) u4 x4_1 (⟨t134, t135, t136⟩ : S26) [.int .i64 t134, .string t135, .string t136] (fun k_ => k_ ≠ gb139) (fun _ => False) rfl (by first | (go_simp; done) | (go_simp; rfl)) ?aP (fun _ hk => hk.elim) ?aF ?aO ?aB ?aS ?aL ?_; (case aP => exact k26_mkM _ _ _ (⟨t134, t135, t136⟩ : S26)); (case aB => exact (by repeat (first | (with_reducible first | exact HB.out | apply below_alloc | apply pw_below_drewN | apply below_drew1 | refine below_set ?_ GE139.out) | exact HB.out))); (case aF => exact (fun k_ hk => Kd.freshB (g := gb139) (o := .cells #[.int .i64 t134, .string t135, .string t136] 26 (0, 0)) (by (with_reducible repeat (first | refine blk_drewN ?_ _ | refine blk_drew ?_ | refine blk_alloc ?_ _)); refine blk_put (cs := #[.int .i64 t134, .string t135, .string (⟨#[]⟩ : ByteArray)]) ?_ 2 _ rfl; (with_reducible repeat (first | refine blk_drewN ?_ _ | refine blk_drew ?_ | refine blk_alloc ?_ _)); refine blk_put (cs := #[.int .i64 t134, .string (⟨#[]⟩ : ByteArray), .string (⟨#[]⟩ : ByteArray)]) ?_ 1 _ rfl; (with_reducible repeat (first | refine blk_drewN ?_ _ | refine blk_drew ?_ | refine blk_alloc ?_ _)); refine blk_put (cs := #[.int .i64 0, .string (⟨#[]⟩ : ByteArray), .string (⟨#[]⟩ : ByteArray)]) ?_ 0 _ rfl; (with_reducible repeat (first | refine blk_drewN ?_ _ | refine blk_drew ?_ | refine blk_alloc ?_ _)); exact BK139.out) k_ hk)); (case aO => exact (by (with_reducible repeat (first | apply Kd.R_alloc | apply Kd.R_drewN | apply Kd.R_drew)); exact Kd.R_mono (Kd.R_far (p := ⟨gb139, 2, none⟩) (Kd.R_far (p := ⟨gb139, 1, none⟩) (Kd.R_far (p := ⟨gb139, 0, none⟩) (Kd.R_mono HO_4.out (fun k_ hk => (⟨hk, hk.2⟩ : _ ∧ k_ ≠ gb139))) (fun _ hk => hk.2) (.int .i64 t134)) (fun _ hk => hk.2) (.string t135)) (fun _ hk => hk.2) (.string t136)) (fun _ hk => hk.1.2))); (case aS => exact (below_size (by repeat (first | (with_reducible first | exact HB.out | apply below_alloc | apply pw_below_drewN | apply below_drew1 | refine below_set ?_ GE139.out) | exact HB.out)))); (case aL => have := LMc8.out; omega); intro v141 w12 ho hb hg hat; rw [← Ny140.out] at ho; have n0_ := Aside0.mk (blk_grown (g := gb139) (o := .cells #[.int .i64 t134, .string t135, .string t136] 26 (0, 0)) (by (with_reducible repeat (first | refine blk_drewN ?_ _ | refine blk_drew ?_ | refine blk_alloc ?_ _)); refine blk_put (cs := #[.int .i64 t134, .string t135, .string (⟨#[]⟩ : ByteArray)]) ?_ 2 _ rfl; (with_reducible repeat (first | refine blk_drewN ?_ _ | refine blk_drew ?_ | refine blk_alloc ?_ _)); refine blk_put (cs := #[.int .i64 t134, .string (⟨#[]⟩ : ByteArray), .string (⟨#[]⟩ : ByteArray)]) ?_ 1 _ rfl; (with_reducible repeat (first | refine blk_drewN ?_ _ | refine blk_drew ?_ | refine blk_alloc ?_ _)); refine blk_put (cs := #[.int .i64 0, .string (⟨#[]⟩ : ByteArray), .string (⟨#[]⟩ : ByteArray)]) ?_ 0 _ rfl; (with_reducible repeat (first | refine blk_drewN ?_ _ | refine blk_drew ?_ | refine blk_alloc ?_ _)); exact BK139.out) hg (Kd.R_away HO_4.out (fun _ hk => hk.2))); have n1_ := Aside0.mk (hb); have n2_ := Aside0.mk (ho); clear BK139; clear HB; clear HO_4; have BK139 := n0_; have HB := n1_; have HO142 := n2_; clear n0_ n1_ n2_; clear ho hb hg hat))
       go_roundg k1
       case measure => have := HK1.out; omega
       case rel => exact ⟨(y140), (wrap64 (x5_1 + t137)), (by first | rfl | (simp; done) | (simp [*]; done)), H', ⟨by have := HK1.out; omega⟩, ⟨by (with_reducible repeat (first | apply Kd.R_alloc | apply Kd.R_drewN | apply Kd.R_drew)); exact Kd.R_mono HO142.out (fun _ hk => trivial)⟩, ⟨by repeat (first | (with_reducible first | exact HB.out | apply below_alloc | apply pw_below_drewN | apply below_drew1 | refine below_set ?_ GE139.out) | exact HB.out)⟩⟩
      ·rw [if_neg c8] at H
       exact absurd H (by simp)
     ·replace c7 := Bool.eq_false_iff.mpr c7
      subst c7
      have H1 : (some (x4_1, x5_1)) = some (r1, r2) := by rw [if_neg (show ¬ (false = true) by decide)] at H; exact H
      clear H
      have H := H1
      clear H1
      simp only [Option.some.injEq, Prod.mk.injEq] at H
      obtain ⟨rfl, rfl⟩ := H
      go_wp2_with (first | ((with_reducible refine gate_callee (f := 88) rfl ?_); refine goesL_ (some 14) rfl rfl Tryd.func88 (by kernel_rfl) rfl #[.string (a0.extract (x5_1 : Int).toNat a0.size)] rfl (by (try simp only [List.map_toArray, List.map_cons, List.map_nil]); first | done | rfl | (simp only [List.length_drop, List.length_take]; rfl) | (simp only [ByteArray.size_append, Int.natCast_add]; rfl)) ?_; (with_reducible refine (spec_l27Next.calls k1 (a0.extract (x5_1 : Int).toNat a0.size) t134 t135 t136 t137 false _ A6.out).mono ?_); rintro e w13 ⟨rfl, hb⟩; refine ⟨_, rfl, ?_⟩; have n0_ := Aside0.mk (Kd.R_below (by (with_reducible repeat (first | apply Kd.R_alloc | apply Kd.R_drewN | apply Kd.R_drew)); exact HO_4.out) hb); have n1_ := Aside0.mk (below_step (by repeat (first | (with_reducible first | exact HB.out | apply below_alloc | apply pw_below_drewN | apply below_drew1) | exact HB.out)) hb); clear HO_4; clear HB; have HO_4 := n0_; have HB := n1_; clear n0_ n1_; (try clear hb); (try clear hb2); (try clear hk); (try clear hi)) | ((with_reducible refine gate_dst (N := 6) rfl ?_); refine box_event ?hg (N := 6) ?hd (cs := #[.int .i64 0, .string (⟨#[]⟩ : ByteArray), .string (⟨#[]⟩ : ByteArray)]) (t := 26) ?hr ?_; (case hd => rfl); (case hg => rfl); (case hr => first | (go_simp; done) | (go_simp; rfl)); intro gb139 hg w14 hbox hb; have n0_ := Aside0.mk (Kd.R_below (Kd.R_elderB (by (with_reducible repeat (first | apply Kd.R_alloc | apply Kd.R_drewN | apply Kd.R_drew)); exact HO_4.out) gb139 (Nat.le_of_eq hg.symm)) hb); have n1_ := Aside0.mk (below_step (by repeat (first | (with_reducible first | exact HB.out | apply below_alloc | apply pw_below_drewN | apply below_drew1) | exact HB.out)) hb); have n2_ := Aside0.mk (hbox); have n3_ := Aside0.mk ((by rw [hg]; exact (below_size (by repeat (first | (with_reducible first | exact HB.out | apply below_alloc | apply pw_below_drewN | apply below_drew1) | exact HB.out))) : w.heap.size ≤ gb139)); have n4_ := Aside0.mk ((by rw [hg]; exact (below_size (by repeat (first | (with_reducible first | exact HB.out | apply below_alloc | apply pw_below_drewN | apply below_drew1) | exact HB.out))) : w.heap.size ≤ gb139)); clear HO_4; clear HB; have HO_4 := n0_; have HB := n1_; have BK139 := n2_; have GW139 := n3_; have GE139 := n4_; clear n0_ n1_ n2_ n3_ n4_; clear hb hbox hg; have hcz15_0 : w14.cell? ⟨gb139, 0, none⟩ = some (.int .i64 0) := (blk_cell BK139.out 0).trans rfl; have hcz15_1 : w14.cell? ⟨gb139, 1, none⟩ = some (.string (⟨#[]⟩ : ByteArray)) := (blk_cell BK139.out 1).trans rfl; have hcz15_2 : w14.cell? ⟨gb139, 2, none⟩ = some (.string (⟨#[]⟩ : ByteArray)) := (blk_cell BK139.out 2).trans rfl; have hfz15_0 := blk_frozen BK139.out 0; have hfz15_1 := blk_frozen BK139.out 1; have hfz15_2 := blk_frozen BK139.out 2))
      go_ret2
      exact ⟨_, by first | rfl | (simp [errW_none, errW_some] <;> rfl) | (simp [*, errW_none, errW_some] <;> rfl), by (with_reducible repeat (first | apply Kd.R_alloc | apply Kd.R_drewN | apply Kd.R_drew)); exact Kd.R_mono (Kd.R_far (p := ⟨gb139, 2, none⟩) (Kd.R_far (p := ⟨gb139, 1, none⟩) (Kd.R_far (p := ⟨gb139, 0, none⟩) (Kd.R_mono HO_4.out (fun k_ hk => (⟨hk, hk.2⟩ : _ ∧ k_ ≠ gb139))) (fun _ hk => hk.2) (.int .i64 t134)) (fun _ hk => hk.2) (.string t135)) (fun _ hk => hk.2) (.string t136)) (fun _ hk => trivial), by repeat (first | (with_reducible first | exact HB.out | apply below_alloc | apply pw_below_drewN | apply below_drew1 | refine below_set ?_ GE139.out) | exact HB.out)⟩
    ·rw [if_neg c5] at H
     exact absurd H (by simp)
   ·rw [if_neg c4] at H
    exact absurd H (by simp)

/-- A state of type 32 at block g of W; what its slices lead to came in by w0. -/
def IsS32 (w0 W : World) (g : Nat) (f0 : ByteArray) (f1 : ByteArray) : Prop := W.heap[g]? = some (.cells #[.string f0, .string f1] 32 (0, 0)) ∧ w0.heap.size ≤ g
theorem IsS32.grown {w0 W : World} {g : Nat} {f0 : ByteArray} {f1 : ByteArray} {W1 : World} {row : Option Nat} (h : IsS32 w0 W g f0 f1) (hw : W.grownBy W1 row) (hne : some g ≠ row) : IsS32 w0 W1 g f0 f1 := by
 obtain ⟨hb, hg⟩ := h
 exact ⟨blk_grown hb hw hne, hg⟩
theorem IsS32.own_neN {w0 W : World} {g : Nat} {f0 : ByteArray} {f1 : ByteArray} {α : Type} {d : Kd α} {e : Nat} {base : Nat} {ok : Nat → Prop} {v : Value} {xs : List α} (h : IsS32 w0 W g f0 f1) (ho : Kd.N d e W base ok v xs) (ht : e ≠ 32) : some g ≠ v.ownBlock := by
 obtain ⟨hb, hg⟩ := h
 exact Kd.N_ne ho hb ht
theorem IsS32.fresh {w0 W : World} {g : Nat} {f0 : ByteArray} {f1 : ByteArray} (h : IsS32 w0 W g f0 f1) : ∀ k, W.heap.size ≤ k → k ≠ g := by
 obtain ⟨hb, hg⟩ := h
 exact Kd.freshB hb
theorem IsS32.kept {w0 W : World} {g : Nat} {f0 : ByteArray} {f1 : ByteArray} {W1 : World} {S : Nat → Prop} (h : IsS32 w0 W g f0 f1) (hk : Kept W W1 S) (hne : ¬ S g) : IsS32 w0 W1 g f0 f1 := by
 obtain ⟨hb, hg⟩ := h
 exact ⟨blk_kept hb hk hne, hg⟩
theorem IsS32.below {w0 W : World} {g : Nat} {f0 : ByteArray} {f1 : ByteArray} {W1 : World} (h : IsS32 w0 W g f0 f1) (hw : Below W.heap.size W W1) : IsS32 w0 W1 g f0 f1 := h.grown (grown_of_below hw none) (by simp)
theorem IsS32.alloc {w0 W : World} {g : Nat} {f0 : ByteArray} {f1 : ByteArray} (h : IsS32 w0 W g f0 f1) (o : Obj) : IsS32 w0 (W.alloc o) g f0 f1 := h.below (below_alloc (Below.refl _ _) o)
theorem IsS32.drewN {w0 W : World} {g : Nat} {f0 : ByteArray} {f1 : ByteArray} (h : IsS32 w0 W g f0 f1) (m : Nat) : IsS32 w0 (W.drewN m) g f0 f1 := h
theorem IsS32.drew {w0 W : World} {g : Nat} {f0 : ByteArray} {f1 : ByteArray} (h : IsS32 w0 W g f0 f1) : IsS32 w0 W.drew g f0 f1 := h
theorem IsS32.at_ {w0 W : World} {g : Nat} {f0 : ByteArray} {f1 : ByteArray} {w' : World} {m : Nat} (hq : W.drewN m = w') (h : IsS32 w0 W g f0 f1) : IsS32 w0 w' g f0 f1 := by subst hq; exact IsS32.drewN h m
theorem IsS32.apart {w0 W : World} {g : Nat} {f0 : ByteArray} {f1 : ByteArray} {α : Type} {d : Kd α} {e : Nat} {base : Nat} {ok : Nat → Prop} {v : Value} {xs : List α} (h : IsS32 w0 W g f0 f1) (ho : d.R e W base ok v xs) (ht : ∀ q, q ∈ e :: d.E → q ≠ 32) : d.R e W base (fun k => ok k ∧ k ≠ g) v xs := by
 obtain ⟨hb, hg⟩ := h
 exact Kd.R_types ho hb ht
theorem IsS32.own_ne {w0 W : World} {g : Nat} {f0 : ByteArray} {f1 : ByteArray} {α : Type} {d : Kd α} {e : Nat} {base : Nat} {ok : Nat → Prop} {v : Value} {xs : List α} (h : IsS32 w0 W g f0 f1) (ho : d.R e W base ok v xs) (ht : e ≠ 32) : some g ≠ v.ownBlock := by
 obtain ⟨hb, hg⟩ := h
 exact Kd.R_ne ho hb ht
theorem IsS32.apartQ {w0 W : World} {g : Nat} {f0 : ByteArray} {f1 : ByteArray} {α : Type} {d : Kd α} {e : Nat} {base : Nat} {ok : Nat → Prop} {v : Value} {xs : List α} (h : IsS32 w0 W g f0 f1) (ho : d.Q e W base ok v xs) (ht : ∀ q, q ∈ e :: d.E → q ≠ 32) : d.Q e W base (fun k => ok k ∧ k ≠ g) v xs := by
 obtain ⟨hb, hg⟩ := h
 exact Kd.Q_types ho hb ht
theorem IsS32.own_neQ {w0 W : World} {g : Nat} {f0 : ByteArray} {f1 : ByteArray} {α : Type} {d : Kd α} {e : Nat} {base : Nat} {ok : Nat → Prop} {v : Value} {xs : List α} (h : IsS32 w0 W g f0 f1) (ho : d.Q e W base ok v xs) (ht : e ≠ 32) : some g ≠ v.ownBlock := by
 obtain ⟨hb, hg⟩ := h
 exact Kd.Q_ne ho hb ht
theorem IsS32.apartS {w0 W : World} {g : Nat} {f0 : ByteArray} {f1 : ByteArray} {α : Type} {d : Kd α} {e : Nat} {base : Nat} {ok : Nat → Prop} {v : Value} {xs : List α} (h : IsS32 w0 W g f0 f1) (ho : d.S e W base ok v xs) (ht : ∀ q, q ∈ e :: d.E → q ≠ 32) : d.S e W base (fun k => ok k ∧ k ≠ g) v xs := by
 obtain ⟨hb, hg⟩ := h
 exact Kd.S_types ho hb ht
theorem IsS32.own_neS {w0 W : World} {g : Nat} {f0 : ByteArray} {f1 : ByteArray} {α : Type} {d : Kd α} {e : Nat} {base : Nat} {ok : Nat → Prop} {v : Value} {xs : List α} (h : IsS32 w0 W g f0 f1) (ho : d.S e W base ok v xs) (ht : e ≠ 32) : some g ≠ v.ownBlock := by
 obtain ⟨hb, hg⟩ := h
 exact Kd.S_ne ho hb ht
theorem IsS32.lt {w0 W : World} {g : Nat} {f0 : ByteArray} {f1 : ByteArray} (h : IsS32 w0 W g f0 f1) : g < W.heap.size := by
 obtain ⟨hb, hg⟩ := h
 exact blk_lt hb
theorem IsS32.ge {w0 W : World} {g : Nat} {f0 : ByteArray} {f1 : ByteArray} (h : IsS32 w0 W g f0 f1) : w0.heap.size ≤ g := by
 obtain ⟨hb, hg⟩ := h
 exact hg
theorem IsS32.ne_blk {w0 W : World} {g : Nat} {f0 : ByteArray} {f1 : ByteArray} {a : Nat} {cs : Array Value} {t : TypeId} {fr : Nat × Nat} (h : IsS32 w0 W g f0 f1) (hb2 : W.heap[a]? = some (.cells cs t fr)) (ht : t ≠ 32) : g ≠ a := by
 obtain ⟨hb, hg⟩ := h
 rintro rfl
 rw [hb] at hb2
 injection hb2 with hb2
 injection hb2 with _ ht2
 exact ht ht2.symm
theorem IsS32.far {w0 W : World} {g : Nat} {f0 : ByteArray} {f1 : ByteArray} {p : Addr} (h : IsS32 w0 W g f0 f1) (hne : g ≠ p.block) (u : Value) : IsS32 w0 (W.setCell p u) g f0 f1 := by
 obtain ⟨hb, hg⟩ := h
 exact ⟨blk_far hb hne u, hg⟩
theorem cellS32_0 {W : World} {g : Nat} {f0 : ByteArray} {f1 : ByteArray} (h : W.heap[g]? = some (.cells #[.string f0, .string f1] 32 (0, 0))) : W.cell? ⟨g, 0, none⟩ = some (.string f0) := (blk_cell h 0).trans rfl
theorem IsS32.set_0 {w0 W : World} {g : Nat} {f0 : ByteArray} {f1 : ByteArray} (h : IsS32 w0 W g f0 f1) (x : ByteArray) : IsS32 w0 (W.setCell ⟨g, 0, none⟩ (.string x)) g x f1 := by
 obtain ⟨hb, hg⟩ := h
 exact ⟨by simpa using blk_set hb 0 (.string x), hg⟩
theorem cellS32_1 {W : World} {g : Nat} {f0 : ByteArray} {f1 : ByteArray} (h : W.heap[g]? = some (.cells #[.string f0, .string f1] 32 (0, 0))) : W.cell? ⟨g, 1, none⟩ = some (.string f1) := (blk_cell h 1).trans rfl
theorem IsS32.set_1 {w0 W : World} {g : Nat} {f0 : ByteArray} {f1 : ByteArray} (h : IsS32 w0 W g f0 f1) (x : ByteArray) : IsS32 w0 (W.setCell ⟨g, 1, none⟩ (.string x)) g f0 x := by
 obtain ⟨hb, hg⟩ := h
 exact ⟨by simpa using blk_set hb 1 (.string x), hg⟩
theorem IsS32.new (w0 W : World) (f0 : ByteArray) (f1 : ByteArray) (hB : Below w0.heap.size w0 W) : IsS32 w0 (W.alloc (.cells #[.string f0, .string f1] 32)) W.heap.size f0 f1 := ⟨by simpa using heap_alloc_new W _, hB.size⟩

/-! ### spec_l27Ok: function 60 -/
def spec_l27Ok.f (k : Nat) (s0_0 : ByteArray) (s0_1 : ByteArray) : Option (Bool × ByteArray × ByteArray) := (spec_l27Read.f k s0_1).bind fun bt143 => (if bt143.2 = (s0_1.size : Int) then (some (decide ((wrap64 ((s0_0.size : Int) + (s0_1.size : Int))) ≤ 4000), s0_0, s0_1)) else (some (false, s0_0, s0_1)))
theorem spec_l27Ok.mono : ∀ a0 a1 k, LeO (spec_l27Ok.f k a0 a1) (spec_l27Ok.f (k + 1) a0 a1) := by
 intro a0 a1 k
 unfold spec_l27Ok.f
 repeat' first
   | (with_reducible exact spec_l27Read.mono _ _)
   | (with_reducible exact LeO.refl _)
   | (with_reducible exact LeO.none _)
   | (with_reducible refine LeO.ite ?_ ?_)
   | (with_reducible refine LeO.bind ?_ (fun _ => ?_))
   | exact spec_l27Read.mono _ _
   | exact LeO.none _
   | refine LeO.ite ?_ ?_
   | refine LeO.bind ?_ (fun _ => ?_)
set_option maxHeartbeats 8000000 in
set_option maxRecDepth 100000 in
theorem spec_l27Ok.calls (k : Nat) (g : Nat) (s0_0 : ByteArray) (s0_1 : ByteArray) (r1 : Bool) (r2 : ByteArray) (r3 : ByteArray) (w0 w : World) (hI : IsS32 w0 w g s0_0 s0_1) (hB : Below w0.heap.size w0 w) (h : spec_l27Ok.f k s0_0 s0_1 = some (r1, r2, r3)) :
  Calls Tryd.prog 60 #[.pointer (some ⟨g, 0, none⟩)] w fun e w' => e = .returned (.bool r1) ∧ IsS32 w0 w' g r2 r3 ∧ Below w0.heap.size w0 w' ∧ KeepBut w w' g none := by
 have HI0 := Aside0.mk hI
 have HK := Aside0.mk (KeepBut.refl w g none)
 have HL := Aside0.mk hB.size
 clear hI
 have HW0 := Aside0.mk hB.size
 have HB := Aside0.mk hB
 clear hB
 have H : ((spec_l27Read.f k s0_1).bind fun bt143 => (if bt143.2 = (s0_1.size : Int) then (some (decide ((wrap64 ((s0_0.size : Int) + (s0_1.size : Int))) ≤ 4000), s0_0, s0_1)) else (some (false, s0_0, s0_1)))) = some (r1, r2, r3) := h
 clear h
 replace H := Option.bind_eq_some_iff.mp H
 obtain ⟨⟨t143, t144⟩, A20, H⟩ := H
 replace H : (if t144 = (s0_1.size : Int) then (some (decide ((wrap64 ((s0_0.size : Int) + (s0_1.size : Int))) ≤ 4000), s0_0, s0_1)) else (some (false, s0_0, s0_1))) = some (r1, r2, r3) := H
 have A2 := Aside0.mk A20
 clear A20
 by_cases c3 : t144 = (s0_1.size : Int)
 ·rw [if_pos c3] at H
  have c3b0 : (t144 == (s0_1.size : Int)) = true := beq_iff_eq.mpr c3
  have c3b1 : (t144 != (s0_1.size : Int)) = false := bne_eq_false_iff_eq.mpr c3
  clear c3
  simp only [Option.some.injEq, Prod.mk.injEq] at H
  obtain ⟨rfl, rfl, rfl⟩ := H
  obtain ⟨HGz4, hgz4⟩ := HI0.out
  have hcz4_0 := cellS32_0 HGz4
  have hcz4_1 := cellS32_1 HGz4
  have hfz4_0 := blk_frozen HGz4 0
  have hfz4_1 := blk_frozen HGz4 1
  clear HGz4 hgz4
  go_enter Tryd.func60, Tryd.ntmps60
  go_wp2_with (first | (go_at_call 64; (with_reducible refine (spec_l27Read.calls k s0_1 t143 t144 _ A2.out).mono ?_); rintro e w5 ⟨v145, rfl, ho0, hb⟩; have n0_ := Aside0.mk (Kd.R_lower ho0 (keep_size (w := w) (g := g) (row := none) (by repeat (first | (with_reducible first | exact HK.out | apply KeepBut.set_ | apply keep_drewN | apply keep_drew | apply keep_alloc) | exact HK.out)))); have n1_ := Aside0.mk (IsS32.below (by repeat (first | (with_reducible first | exact HI0.out | apply IsS32.alloc | apply IsS32.drewN | apply IsS32.drew | apply IsS32.set_0 | apply IsS32.set_1) | exact HI0.out)) hb); have n2_ := Aside0.mk (KeepBut.trans (by repeat (first | (with_reducible first | exact HK.out | apply KeepBut.set_ | apply keep_drewN | apply keep_drew | apply keep_alloc) | exact HK.out)) (KeepBut.of_below hb g none) (.inl rfl)); have n3_ := Aside0.mk (below_step (by repeat (first | (with_reducible first | exact HB.out | apply below_alloc | apply pw_below_drewN | apply below_drew1 | refine below_set ?_ (IsS32.ge HI0.out)) | exact HB.out)) hb); clear HI0; clear HK; clear HB; have HO146 := n0_; have HI0 := n1_; have HK := n2_; have HB := n3_; clear n0_ n1_ n2_ n3_; (try clear hb); (try clear hb2); (try clear hk); (try clear hi); (try clear ho0); obtain ⟨HGz6, hgz6⟩ := HI0.out; have hcz6_0 := cellS32_0 HGz6; have hcz6_1 := cellS32_1 HGz6; have hfz6_0 := blk_frozen HGz6 0; have hfz6_1 := blk_frozen HGz6 1; clear HGz6 hgz6))
  repeat (go_quiet (first | (go_at_call 64; (with_reducible refine (spec_l27Read.calls k s0_1 t143 t144 _ A2.out).mono ?_); rintro e w5 ⟨v145, rfl, ho0, hb⟩; have n0_ := Aside0.mk (Kd.R_lower ho0 (keep_size (w := w) (g := g) (row := none) (by repeat (first | (with_reducible first | exact HK.out | apply KeepBut.set_ | apply keep_drewN | apply keep_drew | apply keep_alloc) | exact HK.out)))); have n1_ := Aside0.mk (IsS32.below (by repeat (first | (with_reducible first | exact HI0.out | apply IsS32.alloc | apply IsS32.drewN | apply IsS32.drew | apply IsS32.set_0 | apply IsS32.set_1) | exact HI0.out)) hb); have n2_ := Aside0.mk (KeepBut.trans (by repeat (first | (with_reducible first | exact HK.out | apply KeepBut.set_ | apply keep_drewN | apply keep_drew | apply keep_alloc) | exact HK.out)) (KeepBut.of_below hb g none) (.inl rfl)); have n3_ := Aside0.mk (below_step (by repeat (first | (with_reducible first | exact HB.out | apply below_alloc | apply pw_below_drewN | apply below_drew1 | refine below_set ?_ (IsS32.ge HI0.out)) | exact HB.out)) hb); clear HI0; clear HK; clear HB; have HO146 := n0_; have HI0 := n1_; have HK := n2_; have HB := n3_; clear n0_ n1_ n2_ n3_; (try clear hb); (try clear hb2); (try clear hk); (try clear hi); (try clear ho0); obtain ⟨HGz6, hgz6⟩ := HI0.out; have hcz6_0 := cellS32_0 HGz6; have hcz6_1 := cellS32_1 HGz6; have hfz6_0 := blk_frozen HGz6 0; have hfz6_1 := blk_frozen HGz6 1; clear HGz6 hgz6)); try go_wp2_with (first | (go_at_call 64; (with_reducible refine (spec_l27Read.calls k s0_1 t143 t144 _ A2.out).mono ?_); rintro e w5 ⟨v145, rfl, ho0, hb⟩; have n0_ := Aside0.mk (Kd.R_lower ho0 (keep_size (w := w) (g := g) (row := none) (by repeat (first | (with_reducible first | exact HK.out | apply KeepBut.set_ | apply keep_drewN | apply keep_drew | apply keep_alloc) | exact HK.out)))); have n1_ := Aside0.mk (IsS32.below (by repeat (first | (with_reducible first | exact HI0.out | apply IsS32.alloc | apply IsS32.drewN | apply IsS32.drew | apply IsS32.set_0 | apply IsS32.set_1) | exact HI0.out)) hb); have n2_ := Aside0.mk (KeepBut.trans (by repeat (first | (with_reducible first | exact HK.out | apply KeepBut.set_ | apply keep_drewN | apply keep_drew | apply keep_alloc) | exact HK.out)) (KeepBut.of_below hb g none) (.inl rfl)); have n3_ := Aside0.mk (below_step (by repeat (first | (with_reducible first | exact HB.out | apply below_alloc | apply pw_below_drewN | apply below_drew1 | refine below_set ?_ (IsS32.ge HI0.out)) | exact HB.out)) hb); clear HI0; clear HK; clear HB; have HO146 := n0_; have HI0 := n1_; have HK := n2_; have HB := n3_; clear n0_ n1_ n2_ n3_; (try clear hb); (try clear hb2); (try clear hk); (try clear hi); (try clear ho0); obtain ⟨HGz6, hgz6⟩ := HI0.out; have hcz6_0 := cellS32_0 HGz6; have hcz6_1 := cellS32_1 HGz6; have hfz6_0 := blk_frozen HGz6 0; have hfz6_1 := blk_frozen HGz6 1; clear HGz6 hgz6)))
  go_ret
  exact ⟨by first | rfl | (simp [errW_none, errW_some] <;> rfl) | (simp [*, errW_none, errW_some] <;> rfl), by repeat (first | (with_reducible first | exact HI0.out | apply IsS32.alloc | apply IsS32.drewN | apply IsS32.drew | apply IsS32.set_0 | apply IsS32.set_1) | exact HI0.out), by repeat (first | (with_reducible first | exact HB.out | apply below_alloc | apply pw_below_drewN | apply below_drew1 | refine below_set ?_ (IsS32.ge HI0.out)) | exact HB.out), by repeat (first | (with_reducible first | exact HK.out | apply KeepBut.set_ | apply keep_drewN | apply keep_drew | apply keep_alloc) | exact HK.out)⟩
 ·rw [if_neg c3] at H
  have c3b0 : (t144 == (s0_1.size : Int)) = false := beq_eq_false_iff_ne.mpr c3
  have c3b1 : (t144 != (s0_1.size : Int)) = true := bne_iff_ne.mpr c3
  simp only [Option.some.injEq, Prod.mk.injEq] at H
  obtain ⟨rfl, rfl, rfl⟩ := H
  obtain ⟨HGz7, hgz7⟩ := HI0.out
  have hcz7_0 := cellS32_0 HGz7
  have hcz7_1 := cellS32_1 HGz7
  have hfz7_0 := blk_frozen HGz7 0
  have hfz7_1 := blk_frozen HGz7 1
  clear HGz7 hgz7
  go_enter Tryd.func60, Tryd.ntmps60
  go_wp2_with (first | (go_at_call 64; (with_reducible refine (spec_l27Read.calls k s0_1 t143 t144 _ A2.out).mono ?_); rintro e w8 ⟨v145, rfl, ho0, hb⟩; have n0_ := Aside0.mk (Kd.R_lower ho0 (keep_size (w := w) (g := g) (row := none) (by repeat (first | (with_reducible first | exact HK.out | apply KeepBut.set_ | apply keep_drewN | apply keep_drew | apply keep_alloc) | exact HK.out)))); have n1_ := Aside0.mk (IsS32.below (by repeat (first | (with_reducible first | exact HI0.out | apply IsS32.alloc | apply IsS32.drewN | apply IsS32.drew | apply IsS32.set_0 | apply IsS32.set_1) | exact HI0.out)) hb); have n2_ := Aside0.mk (KeepBut.trans (by repeat (first | (with_reducible first | exact HK.out | apply KeepBut.set_ | apply keep_drewN | apply keep_drew | apply keep_alloc) | exact HK.out)) (KeepBut.of_below hb g none) (.inl rfl)); have n3_ := Aside0.mk (below_step (by repeat (first | (with_reducible first | exact HB.out | apply below_alloc | apply pw_below_drewN | apply below_drew1 | refine below_set ?_ (IsS32.ge HI0.out)) | exact HB.out)) hb); clear HI0; clear HK; clear HB; have HO146 := n0_; have HI0 := n1_; have HK := n2_; have HB := n3_; clear n0_ n1_ n2_ n3_; (try clear hb); (try clear hb2); (try clear hk); (try clear hi); (try clear ho0); obtain ⟨HGz9, hgz9⟩ := HI0.out; have hcz9_0 := cellS32_0 HGz9; have hcz9_1 := cellS32_1 HGz9; have hfz9_0 := blk_frozen HGz9 0; have hfz9_1 := blk_frozen HGz9 1; clear HGz9 hgz9))
  repeat (go_quiet (first | (go_at_call 64; (with_reducible refine (spec_l27Read.calls k s0_1 t143 t144 _ A2.out).mono ?_); rintro e w8 ⟨v145, rfl, ho0, hb⟩; have n0_ := Aside0.mk (Kd.R_lower ho0 (keep_size (w := w) (g := g) (row := none) (by repeat (first | (with_reducible first | exact HK.out | apply KeepBut.set_ | apply keep_drewN | apply keep_drew | apply keep_alloc) | exact HK.out)))); have n1_ := Aside0.mk (IsS32.below (by repeat (first | (with_reducible first | exact HI0.out | apply IsS32.alloc | apply IsS32.drewN | apply IsS32.drew | apply IsS32.set_0 | apply IsS32.set_1) | exact HI0.out)) hb); have n2_ := Aside0.mk (KeepBut.trans (by repeat (first | (with_reducible first | exact HK.out | apply KeepBut.set_ | apply keep_drewN | apply keep_drew | apply keep_alloc) | exact HK.out)) (KeepBut.of_below hb g none) (.inl rfl)); have n3_ := Aside0.mk (below_step (by repeat (first | (with_reducible first | exact HB.out | apply below_alloc | apply pw_below_drewN | apply below_drew1 | refine below_set ?_ (IsS32.ge HI0.out)) | exact HB.out)) hb); clear HI0; clear HK; clear HB; have HO146 := n0_; have HI0 := n1_; have HK := n2_; have HB := n3_; clear n0_ n1_ n2_ n3_; (try clear hb); (try clear hb2); (try clear hk); (try clear hi); (try clear ho0); obtain ⟨HGz9, hgz9⟩ := HI0.out; have hcz9_0 := cellS32_0 HGz9; have hcz9_1 := cellS32_1 HGz9; have hfz9_0 := blk_frozen HGz9 0; have hfz9_1 := blk_frozen HGz9 1; clear HGz9 hgz9)); try go_wp2_with (first | (go_at_call 64; (with_reducible refine (spec_l27Read.calls k s0_1 t143 t144 _ A2.out).mono ?_); rintro e w8 ⟨v145, rfl, ho0, hb⟩; have n0_ := Aside0.mk (Kd.R_lower ho0 (keep_size (w := w) (g := g) (row := none) (by repeat (first | (with_reducible first | exact HK.out | apply KeepBut.set_ | apply keep_drewN | apply keep_drew | apply keep_alloc) | exact HK.out)))); have n1_ := Aside0.mk (IsS32.below (by repeat (first | (with_reducible first | exact HI0.out | apply IsS32.alloc | apply IsS32.drewN | apply IsS32.drew | apply IsS32.set_0 | apply IsS32.set_1) | exact HI0.out)) hb); have n2_ := Aside0.mk (KeepBut.trans (by repeat (first | (with_reducible first | exact HK.out | apply KeepBut.set_ | apply keep_drewN | apply keep_drew | apply keep_alloc) | exact HK.out)) (KeepBut.of_below hb g none) (.inl rfl)); have n3_ := Aside0.mk (below_step (by repeat (first | (with_reducible first | exact HB.out | apply below_alloc | apply pw_below_drewN | apply below_drew1 | refine below_set ?_ (IsS32.ge HI0.out)) | exact HB.out)) hb); clear HI0; clear HK; clear HB; have HO146 := n0_; have HI0 := n1_; have HK := n2_; have HB := n3_; clear n0_ n1_ n2_ n3_; (try clear hb); (try clear hb2); (try clear hk); (try clear hi); (try clear ho0); obtain ⟨HGz9, hgz9⟩ := HI0.out; have hcz9_0 := cellS32_0 HGz9; have hcz9_1 := cellS32_1 HGz9; have hfz9_0 := blk_frozen HGz9 0; have hfz9_1 := blk_frozen HGz9 1; clear HGz9 hgz9)))
  go_ret
  exact ⟨by first | rfl | (simp [errW_none, errW_some] <;> rfl) | (simp [*, errW_none, errW_some] <;> rfl), by repeat (first | (with_reducible first | exact HI0.out | apply IsS32.alloc | apply IsS32.drewN | apply IsS32.drew | apply IsS32.set_0 | apply IsS32.set_1) | exact HI0.out), by repeat (first | (with_reducible first | exact HB.out | apply below_alloc | apply pw_below_drewN | apply below_drew1 | refine below_set ?_ (IsS32.ge HI0.out)) | exact HB.out), by repeat (first | (with_reducible first | exact HK.out | apply KeepBut.set_ | apply keep_drewN | apply keep_drew | apply keep_alloc) | exact HK.out)⟩

/-! ### impl_SumOf: function 53 -/
def impl_SumOf.l0 : Nat → ByteArray → Int → Int → Option (Int)
 | 0, _, _, _ => none
 | k + 1, x0, x3, x4 => if x4 < (x0.size : Int) then (if 0 ≤ x4 then (impl_SumOf.l0 k x0 (Int.tmod (wrap64 ((wrap64 ((wrap64 (131 * x3)) + (wrap64 (bt x0 x4)))) + 1)) 9973) (wrap64 (x4 + 1))) else (none)) else (some x3)
def impl_SumOf.f (k : Nat) (a0 : ByteArray) : Option (Int) := impl_SumOf.l0 k a0 7 0
theorem impl_SumOf.mono_l : ∀ k, (∀ y0 y1 y2, LeO (impl_SumOf.l0 k y0 y1 y2) (impl_SumOf.l0 (k + 1) y0 y1 y2))
 | 0 => fun _ _ _ r h => by simp [impl_SumOf.l0] at h
 | k + 1 => by
  have ih0 := impl_SumOf.mono_l k
  ·intro y0 y1 y2
   unfold impl_SumOf.l0
   repeat' first
   | (with_reducible exact ih0 _ _ _)
   | (with_reducible exact LeO.refl _)
   | (with_reducible exact LeO.none _)
   | (with_reducible refine LeO.ite ?_ ?_)
   | (with_reducible refine LeO.bind ?_ (fun _ => ?_))
   | exact ih0 _ _ _
   | exact LeO.none _
   | refine LeO.ite ?_ ?_
   | refine LeO.bind ?_ (fun _ => ?_)
theorem impl_SumOf.mono : ∀ a0 k, LeO (impl_SumOf.f k a0) (impl_SumOf.f (k + 1) a0) := by
 intro a0 k
 have ih0 := impl_SumOf.mono_l k
 unfold impl_SumOf.f
 repeat' first
   | (with_reducible exact ih0 _ _ _)
   | (with_reducible exact LeO.refl _)
   | (with_reducible exact LeO.none _)
   | (with_reducible refine LeO.ite ?_ ?_)
   | (with_reducible refine LeO.bind ?_ (fun _ => ?_))
   | exact ih0 _ _ _
   | exact LeO.none _
   | refine LeO.ite ?_ ?_
   | refine LeO.bind ?_ (fun _ => ?_)
set_option maxHeartbeats 8000000 in
set_option maxRecDepth 100000 in
theorem impl_SumOf.calls (k : Nat) (a0 : ByteArray) (r : Int) (w : World) (h : impl_SumOf.f k a0 = some r) :
  Calls Tryd.prog 53 #[.string a0] w fun e w' => e = .returned (.int .i64 r) ∧ Drawn0 w w' := by
 have H : (impl_SumOf.l0 k a0 7 0) = some r := h
 clear h
 have H' := Aside0.mk H
 clear H
 go_enter Tryd.func53, Tryd.ntmps53
 go_wp2
 go_loopg [3, 4] k (fun kq v3 v4 w' => ∃ (x3_1 : Int) (x4_1 : Int), v3 = .int .i64 x3_1 ∧ v4 = .int .i64 x4_1 ∧ Aside0 (impl_SumOf.l0 kq a0 x3_1 x4_1 = some r) ∧ Aside0 (kq ≤ k) ∧ Drawn0 w w')
 case atStart => exact ⟨(7), (0), (by first | rfl | (simp; done) | (simp [*]; done)), (by first | rfl | (simp; done) | (simp [*]; done)), H', ⟨Nat.le_refl _⟩, by repeat (first | exact Drawn0.refl _ | apply Drawn0.step)⟩
 case round =>
  clear H'
  obtain ⟨x3_1, x4_1, rfl, rfl, HA, HK1, ⟨m1, rfl⟩⟩ := hrel
  cases gk with
  | zero => exact absurd HA.out (by simp [impl_SumOf.l0])
  | succ k1 =>
   have H := HA.out
   clear HA
   simp only [impl_SumOf.l0] at H
   by_cases c2 : x4_1 < (a0.size : Int)
   ·rw [if_pos c2] at H
    have c2b0 : decide (x4_1 < (a0.size : Int)) = true := decide_eq_true c2
    clear c2
    by_cases c3 : 0 ≤ x4_1
    ·rw [if_pos c3] at H
     have c3b0 : decide (0 ≤ x4_1) = true := decide_eq_true c3
     clear c3
     have H' := Aside0.mk H
     clear H
     have p4 : 0 ≤ (x4_1 : Int) := of_decide_eq_true (by first | (with_reducible assumption) | assumption)
     have q4 : x4_1 < (a0.size : Int) := of_decide_eq_true (by first | (with_reducible assumption) | assumption)
     have hx4 := bt_at a0 x4_1
     replace p4 := eq_true p4
     replace q4 := eq_true q4
     go_wp2
     go_roundg k1
     case measure => have := HK1.out; omega
     case rel => exact ⟨(Int.tmod (wrap64 ((wrap64 ((wrap64 (131 * x3_1)) + (wrap64 (bt a0 x4_1)))) + 1)) 9973), (wrap64 (x4_1 + 1)), (by first | rfl | (simp; done) | (simp [*]; done)), (by first | rfl | (simp; done) | (simp [*]; done)), H', ⟨by have := HK1.out; omega⟩, by repeat (first | exact Drawn0.refl _ | apply Drawn0.step)⟩
    ·rw [if_neg c3] at H
     exact absurd H (by simp)
   ·rw [if_neg c2] at H
    have c2b0 : decide (x4_1 < (a0.size : Int)) = false := decide_eq_false c2
    clear c2
    obtain rfl := Option.some.inj H
    go_wp2
    go_ret
    exact ⟨by first | rfl | (simp; done) | (simp [*]; done), by repeat (first | exact Drawn0.refl _ | apply Drawn0.step)⟩

/-! ### impl_within: function 63 -/
def impl_within.f (a0 : Int) (a1 : Int) (a2 : Int) : Option (Bool) := if a0 ≥ a1 then (some (decide (a0 ≤ a2))) else (some false)
set_option maxHeartbeats 8000000 in
set_option maxRecDepth 100000 in
theorem impl_within.calls (a0 : Int) (a1 : Int) (a2 : Int) (r : Bool) (w : World) (h : impl_within.f a0 a1 a2 = some r) :
  Calls Tryd.prog 63 #[.int .i64 a0, .int .i64 a1, .int .i64 a2] w fun e w' => e = .returned (.bool r) ∧ Drawn0 w w' := by
 have H : (if a0 ≥ a1 then (some (decide (a0 ≤ a2))) else (some false)) = some r := h
 clear h
 by_cases c4 : a0 ≥ a1
 ·rw [if_pos c4] at H
  have c4b0 : decide (a1 ≤ a0) = true := decide_eq_true c4
  clear c4
  obtain rfl := Option.some.inj H
  go_enter Tryd.func63, Tryd.ntmps63
  go_wp2
  go_ret
  exact ⟨by first | rfl | (simp; done) | (simp [*]; done), by repeat (first | exact Drawn0.refl _ | apply Drawn0.step)⟩
 ·rw [if_neg c4] at H
  have c4b0 : decide (a1 ≤ a0) = false := decide_eq_false c4
  clear c4
  obtain rfl := Option.some.inj H
  go_enter Tryd.func63, Tryd.ntmps63
  go_wp2
  go_ret
  exact ⟨by first | rfl | (simp; done) | (simp [*]; done), by repeat (first | exact Drawn0.refl _ | apply Drawn0.step)⟩

end Go.Proofs.YtlcgonaapmmnkaaDoor.QLog
