import Derived.Test.YtlcgonaapmmnkaaDoorQFnPowerLossx0
import Derived.Test.YtlcgonaapmmnkaaDoorQFnPowerLossx3
import Derived.Test.YtlcgonaapmmnkaaDoorQFnPowerLossx4
namespace Go.Proofs.YtlcgonaapmmnkaaDoor.QFnPowerLoss
open Base (bwl_ bst_ bsz_ bkb_ nbl_ nbr_)
open Go.RowKit Go.Proofs.YtlcgonaapmmnkaaDoorW.PrintWords Go.Proofs.YtlcgonaapmmnkaaDoorW.PrintLast Go.Proofs.YtlcgonaapmmnkaaDoorW.PrintMore
attribute [local go_sem] max2_int min2_int max_two min_two max_three min_three max_four min_four
set_option linter.unusedVariables false
set_option linter.unusedSimpArgs false
section
open Go.Proofs.YtlcgonaapmmnkaaDoor.Base
def colonFrom (s : ByteArray) (i : Nat) : Nat := if h : i < s.size ∧ i < 4 ∧ ¬ bt s (i : Int) = 58 then colonFrom s (i + 1) else i
termination_by s.size - i
decreasing_by omega
theorem colon_go {s : ByteArray} {i : Nat} (h : i < s.size) (h4 : i < 4) (hb : ¬ bt s (i : Int) = 58) : colonFrom s i = colonFrom s (i + 1) := by rw [colonFrom, dif_pos ⟨h, h4, hb⟩]
theorem colon_stop {s : ByteArray} {i : Nat} (h : ¬ (i < s.size ∧ i < 4 ∧ ¬ bt s (i : Int) = 58)) : colonFrom s i = i := by rw [colonFrom, dif_neg h]
def noEntry : Int × ByteArray × ByteArray × Int × Bool := (0, ⟨#[]⟩, ⟨#[]⟩, 0, false)
def spec_l27Next.f (k : Nat) (a0 : ByteArray) : Option (Int × ByteArray × ByteArray × Int × Bool) :=
  if a0.size ≤ 140737488351232 then
    (spec_l01Number.f k (a0.extract 0 (colonFrom a0 0))).bind fun t =>
      if t.1 ≤ 4611686018427387904 then
        if t.2 = true ∧ 1 ≤ t.1 ∧ ((colonFrom a0 0 : Nat) : Int) + 1 + t.1 ≤ (a0.size : Int) then
          (spec_l27Body.f k (a0.extract (colonFrom a0 0 + 1) (colonFrom a0 0 + 1 + t.1.toNat))).bind fun u => if u.2.2.2 = true then
            (spec_l27Frame.g k u.1 u.2.1 u.2.2.1).bind fun r => if r.size ≤ a0.size ∧ ((a0.extract 0 r.size).toList == r.toList) = true then some (u.1, u.2.1, u.2.2.1, (r.size : Int), true) else some noEntry
          else some noEntry
        else some noEntry
      else none
  else none
theorem spec_l27Next.mono : ∀ a0 k, LeO (spec_l27Next.f k a0) (spec_l27Next.f (k + 1) a0) := fun a0 k => by
  unfold spec_l27Next.f
  exact LeO.ite (LeO.bind (spec_l01Number.mono _ _) fun t => LeO.ite (LeO.ite (LeO.bind (spec_l27Body.mono _ _) fun u => LeO.ite (LeO.bind (spec_l27Frame.g_mono _ _ _ _) fun r => LeO.refl _) (LeO.refl _)) (LeO.refl _)) (LeO.refl _)) (LeO.refl _)
set_option maxHeartbeats 8000000 in
set_option maxRecDepth 100000 in
theorem spec_l27Next.calls (k : Nat) (a0 : ByteArray) (r1 : Int) (r2 : ByteArray) (r3 : ByteArray) (r4 : Int) (r5 : Bool) (w : World) (h : spec_l27Next.f k a0 = some (r1, r2, r3, r4, r5)) :
    Calls Tryd.prog 88 #[.string a0] w fun e w' => e = .returned (.tuple #[.agg #[.int .i64 r1, .string r2, .string r3], .int .i64 r4, .bool r5]) ∧ Below w.heap.size w w' := by
  unfold spec_l27Next.f at h
  split at h
  case isFalse => cases h
  rename_i hsz
  replace h := Option.bind_eq_some_iff.mp h
  obtain ⟨⟨t1, t2⟩, ht, h⟩ := h
  split at h
  case isFalse => cases h
  rename_i hbig
  try simp only [] at h hbig
  have HT0 := Aside0.mk ht
  have HA := Aside0.mk h
  clear h ht
  have hu26 := Tryd.underlying26
  go_enter Tryd.func88, Tryd.ntmps88
  go_wp2_with ((with_reducible refine gate_dst (N := 2) rfl ?_); refine box_event ?hg (N := 2) ?hd (cs := #[.int .i64 0, .string (⟨#[]⟩ : ByteArray), .string (⟨#[]⟩ : ByteArray)]) (t := 26) ?hr ?_; (case hd => rfl); (case hg => rfl); (case hr => first | (go_simp; done) | (go_simp; rfl)); intro gb hg w2 hbox hb; have BK := Aside0.mk hbox; have HB := Aside0.mk hb; have GE := Aside0.mk (Nat.le_of_eq hg.symm); clear hbox hb hg)
  go_loop [5] (fun v5 => ∃ i : Nat, v5 = .int .i64 i ∧ i ≤ a0.size ∧ i ≤ 4 ∧ Aside0 (colonFrom a0 0 = colonFrom a0 i)) (fun v5 => a0.size - (intOf v5).toNat)
  case atStart => exact ⟨0, rfl, Nat.zero_le _, Nat.zero_le _, ⟨rfl⟩⟩
  case round =>
    obtain ⟨i, rfl, hi, hi4, hb⟩ := hrel
    have hx : ∀ h : i < a0.size, ((a0[i]'h).toNat : Int) = bt a0 (i : Int) := by simpa using bt_at a0 (i : Int)
    by_cases hgo : i < a0.size ∧ i < 4 ∧ ¬ bt a0 (i : Int) = 58
    · obtain ⟨hlt, h4, h58⟩ := hgo
      have HH := Aside0.mk (colon_go hlt h4 h58)
      have p1 : (bt a0 (i : Int) == 58) = false := by simpa using h58
      have p2 : (bt a0 (i : Int) != 58) = true := by simpa using h58
      have p3 : (i : Int) < 4 := by omega
      go_wp2
      go_round
      case rel => exact ⟨i + 1, by go_num, by omega, by omega, ⟨by rw [hb.out, HH.out]⟩⟩
      case measure => simp [intOf]; omega
    · have hst : colonFrom a0 0 = i := by rw [hb.out]; exact colon_stop hgo
      have HA1 := HA.out
      have HT1 := HT0.out
      rw [hst] at HA1 HT1
      have HT := Aside0.mk HT1
      have HA2 := Aside0.mk HA1
      clear HA1 HT1 hst hb
      have hdec : ¬ i < a0.size ∨ (i < a0.size ∧ ¬ (i : Int) < 4) ∨ (i < a0.size ∧ (i : Int) < 4 ∧ bt a0 (i : Int) = 58) := by
        by_cases hlt : i < a0.size
        · by_cases h4 : i < 4
          · exact .inr (.inr ⟨hlt, by omega, Decidable.not_not.mp fun g => hgo ⟨hlt, h4, g⟩⟩)
          · exact .inr (.inl ⟨hlt, by omega⟩)
        · exact .inl hlt
      have p4 : (i : Int) ≤ (a0.size : Int) := by omega
      clear hgo
      rcases hdec with hlt | ⟨hlt, h4⟩ | ⟨hlt, h4, h58⟩
      all_goals
        (try rw [h58] at hx)
        (try clear h58)
        by_cases hpass : t2 = true ∧ 1 ≤ t1 ∧ (i : Int) + 1 + t1 ≤ (a0.size : Int)
        · have HA3 := HA2.out
          rw [if_pos hpass] at HA3
          obtain ⟨hp1, hp2, hp3⟩ := hpass
          try (exfalso; omega)
          all_goals
            subst hp1
            obtain ⟨m, rfl⟩ : ∃ m : Nat, t1 = (m : Int) := ⟨t1.toNat, by omega⟩
            obtain ⟨⟨u0, u1, u2, u3⟩, hu, HA4⟩ := Option.bind_eq_some_iff.mp HA3
            try simp only [Int.toNat_natCast] at HA4 hu
            have HU := Aside0.mk hu
            have HA5 := Aside0.mk HA4
            clear hu HA3 HA4 HA2
            have q1 : ¬ (m : Int) < 1 := by omega
            have q2 : ¬ (a0.size : Int) < (i : Int) + 1 + (m : Int) := by omega
            have q3 : (0 : Int) ≤ (i : Int) + 1 := by omega
            have q4 : (i : Int) + 1 ≤ (i : Int) + 1 + (m : Int) := by omega
            have q5 : ((i : Int) + 1 + (m : Int)).toNat = i + 1 + m := by omega
            go_upto_region 8 with (first | (go_at_call 97; (with_reducible refine (spec_l01Number.calls k _ _ _ _ HT.out).mono ?_); rintro e w3 ⟨rfl, hb3⟩; have HB3 := Aside0.mk (below_step HB.out hb3); have BK3 := Aside0.mk (blk_below BK.out hb3); clear hb3) | (go_at_call 98; (with_reducible refine (spec_l27Body.calls k _ u0 u1 u2 u3 _ HU.out).mono ?_); rintro e w4 ⟨rfl, hb4⟩; have HB4 := Aside0.mk (below_step HB3.out hb4); have BK4 := Aside0.mk (blk_below BK3.out hb4); clear hb4))
            have HB5 : Aside0 (Below w.heap.size w (w4.alloc (.cells #[.int .i64 u0, .string u1, .string u2] 26))) := ⟨below_alloc HB4.out _⟩
            have BK5 : Aside0 ((w4.alloc (.cells #[.int .i64 u0, .string u1, .string u2] 26)).heap[gb]? = some (.cells #[.int .i64 0, .string (⟨#[]⟩ : ByteArray), .string (⟨#[]⟩ : ByteArray)] 26 (0, 0))) := ⟨blk_alloc BK4.out _⟩
            have HI5 : Aside0 (IsS26 w (w4.alloc (.cells #[.int .i64 u0, .string u1, .string u2] 26)) w4.heap.size u0 u1 u2) := ⟨⟨blk_new w4 _, HB4.out.size⟩⟩
            obtain ⟨w5, hw5⟩ : ∃ w5, w5 = w4.alloc (.cells #[.int .i64 u0, .string u1, .string u2] 26) := ⟨_, rfl⟩
            rw [← hw5] at HB5 BK5 HI5 ⊢
            clear hw5 q1 q2 q3 q4 q5
            cases u3 with
            | false =>
              have HA6 := HA5.out
              simp only [Bool.false_eq_true, if_false, Option.some.injEq, noEntry, Prod.mk.injEq] at HA6
              obtain ⟨rfl, rfl, rfl, rfl, rfl⟩ := HA6
              (have hc0 := cellS26_0 BK5.out; have hc1 := cellS26_1 BK5.out; have hc2 := cellS26_2 BK5.out; have hf : ∀ o, w5.frozen? ⟨gb, o, none⟩ = false := (fun o => by simp [World.frozen?, BK5.out]))
              go_wp2
              refine bodyPost_ret (results_ctt rfl _ _ gb 26 #[.int .i64 0, .string (⟨#[]⟩ : ByteArray), .string (⟨#[]⟩ : ByteArray)] (0, 0) _ rfl (by refine blk_put (cs := #[.int .i64 0, .string (⟨#[]⟩ : ByteArray), .string (⟨#[]⟩ : ByteArray)]) ?_ 2 _ rfl; refine blk_put (cs := #[.int .i64 0, .string (⟨#[]⟩ : ByteArray), .string (⟨#[]⟩ : ByteArray)]) ?_ 1 _ rfl; refine blk_put (cs := #[.int .i64 0, .string (⟨#[]⟩ : ByteArray), .string (⟨#[]⟩ : ByteArray)]) ?_ 0 _ rfl; exact BK5.out) Tryd.underlying26 rfl (by kernel_rfl)) rfl ?_
              exact ⟨rfl, below_set (below_set (below_set HB5.out GE.out) GE.out) GE.out⟩
            | true =>
              have HA6 := HA5.out
              simp only [if_true] at HA6
              obtain ⟨fr, hfr, HA7⟩ := Option.bind_eq_some_iff.mp HA6
              have I6 := Aside0.mk (spec_l27Frame.at_ k ⟨w4.heap.size, 0, none⟩ u0 u1 u2 fr w5 (cellS26_0 HI5.out.1) (cellS26_1 HI5.out.1) (cellS26_2 HI5.out.1) hfr)
              have HA8 := Aside0.mk HA7
              clear hfr HA6 HA7
              by_cases hfs : fr.size ≤ a0.size
              · cases hfe : (a0.extract 0 fr.size).toList == fr.toList with
                | false =>
                  have HA9 := HA8.out
                  rw [if_neg (fun g => by rw [hfe] at g; exact absurd g.2 (by simp))] at HA9
                  simp only [noEntry, Option.some.injEq, Prod.mk.injEq] at HA9
                  obtain ⟨rfl, rfl, rfl, rfl, rfl⟩ := HA9
                  have s1 : ¬ (a0.size : Int) < (fr.size : Int) := by omega
                  have s2 : (fr.size : Int) ≤ (a0.size : Int) := by omega
                  go_wp2_with (go_at_call 58; (with_reducible refine I6.out.mono ?_); rintro e w6 ⟨rfl, hb6⟩; have HB6 := Aside0.mk (below_step HB5.out hb6); have BK6 := Aside0.mk (blk_below BK5.out hb6); have HI6 := Aside0.mk (HI5.out.below hb6); clear hb6; have hc0 := cellS26_0 BK6.out; have hc1 := cellS26_1 BK6.out; have hc2 := cellS26_2 BK6.out; have hf : ∀ o, w6.frozen? ⟨gb, o, none⟩ = false := (fun o => by simp [World.frozen?, BK6.out]))
                  refine bodyPost_ret (results_ctt rfl _ _ gb 26 #[.int .i64 0, .string (⟨#[]⟩ : ByteArray), .string (⟨#[]⟩ : ByteArray)] (0, 0) _ rfl (by refine blk_put (cs := #[.int .i64 0, .string (⟨#[]⟩ : ByteArray), .string (⟨#[]⟩ : ByteArray)]) ?_ 2 _ rfl; refine blk_put (cs := #[.int .i64 0, .string (⟨#[]⟩ : ByteArray), .string (⟨#[]⟩ : ByteArray)]) ?_ 1 _ rfl; refine blk_put (cs := #[.int .i64 0, .string (⟨#[]⟩ : ByteArray), .string (⟨#[]⟩ : ByteArray)]) ?_ 0 _ rfl; exact BK6.out) Tryd.underlying26 rfl (by kernel_rfl)) rfl ?_
                  exact ⟨rfl, below_set (below_set (below_set HB6.out GE.out) GE.out) GE.out⟩
                | true =>
                  have HA9 := HA8.out
                  rw [if_pos ⟨hfs, hfe⟩] at HA9
                  simp only [Option.some.injEq, Prod.mk.injEq] at HA9
                  obtain ⟨rfl, rfl, rfl, rfl, rfl⟩ := HA9
                  have s1 : ¬ (a0.size : Int) < (fr.size : Int) := by omega
                  have s2 : (fr.size : Int) ≤ (a0.size : Int) := by omega
                  go_wp2_with (go_at_call 58; (with_reducible refine I6.out.mono ?_); rintro e w6 ⟨rfl, hb6⟩; have HB6 := Aside0.mk (below_step HB5.out hb6); have BK6 := Aside0.mk (blk_below BK5.out hb6); have HI6 := Aside0.mk (HI5.out.below hb6); clear hb6; have hc0 := cellS26_0 BK6.out; have hc1 := cellS26_1 BK6.out; have hc2 := cellS26_2 BK6.out; have hf : ∀ o, w6.frozen? ⟨gb, o, none⟩ = false := (fun o => by simp [World.frozen?, BK6.out]); have hd0 := cellS26_0 HI6.out.1; have hd1 := cellS26_1 HI6.out.1; have hd2 := cellS26_2 HI6.out.1)
                  refine bodyPost_ret (results_ctt rfl _ _ gb 26 #[.int .i64 u0, .string u1, .string u2] (0, 0) _ rfl (by refine blk_put (cs := #[.int .i64 u0, .string u1, .string (⟨#[]⟩ : ByteArray)]) ?_ 2 _ rfl; refine blk_put (cs := #[.int .i64 u0, .string (⟨#[]⟩ : ByteArray), .string (⟨#[]⟩ : ByteArray)]) ?_ 1 _ rfl; refine blk_put (cs := #[.int .i64 0, .string (⟨#[]⟩ : ByteArray), .string (⟨#[]⟩ : ByteArray)]) ?_ 0 _ rfl; exact BK6.out) Tryd.underlying26 rfl (by kernel_rfl)) rfl ?_
                  exact ⟨rfl, below_set (below_set (below_set HB6.out GE.out) GE.out) GE.out⟩
              · have HA9 := HA8.out
                rw [if_neg (fun g => hfs g.1)] at HA9
                simp only [noEntry, Option.some.injEq, Prod.mk.injEq] at HA9
                obtain ⟨rfl, rfl, rfl, rfl, rfl⟩ := HA9
                have s1 : (a0.size : Int) < (fr.size : Int) := by omega
                go_wp2_with (go_at_call 58; (with_reducible refine I6.out.mono ?_); rintro e w6 ⟨rfl, hb6⟩; have HB6 := Aside0.mk (below_step HB5.out hb6); have BK6 := Aside0.mk (blk_below BK5.out hb6); have HI6 := Aside0.mk (HI5.out.below hb6); clear hb6; have hc0 := cellS26_0 BK6.out; have hc1 := cellS26_1 BK6.out; have hc2 := cellS26_2 BK6.out; have hf : ∀ o, w6.frozen? ⟨gb, o, none⟩ = false := (fun o => by simp [World.frozen?, BK6.out]))
                refine bodyPost_ret (results_ctt rfl _ _ gb 26 #[.int .i64 0, .string (⟨#[]⟩ : ByteArray), .string (⟨#[]⟩ : ByteArray)] (0, 0) _ rfl (by refine blk_put (cs := #[.int .i64 0, .string (⟨#[]⟩ : ByteArray), .string (⟨#[]⟩ : ByteArray)]) ?_ 2 _ rfl; refine blk_put (cs := #[.int .i64 0, .string (⟨#[]⟩ : ByteArray), .string (⟨#[]⟩ : ByteArray)]) ?_ 1 _ rfl; refine blk_put (cs := #[.int .i64 0, .string (⟨#[]⟩ : ByteArray), .string (⟨#[]⟩ : ByteArray)]) ?_ 0 _ rfl; exact BK6.out) Tryd.underlying26 rfl (by kernel_rfl)) rfl ?_
                exact ⟨rfl, below_set (below_set (below_set HB6.out GE.out) GE.out) GE.out⟩
        · have HA3 := HA2.out
          rw [if_neg hpass] at HA3
          simp only [noEntry, Option.some.injEq, Prod.mk.injEq] at HA3
          obtain ⟨rfl, rfl, rfl, rfl, rfl⟩ := HA3
          cases t2 with
          | false =>
            go_wp2_with (go_at_call 97; (with_reducible refine (spec_l01Number.calls k _ _ _ _ HT.out).mono ?_); rintro e w3 ⟨rfl, hb3⟩; have HB3 := Aside0.mk (below_step HB.out hb3); have BK3 := Aside0.mk (blk_below BK.out hb3); clear hb3; have hc0 := cellS26_0 BK3.out; have hc1 := cellS26_1 BK3.out; have hc2 := cellS26_2 BK3.out; have hf : ∀ o, w3.frozen? ⟨gb, o, none⟩ = false := (fun o => by simp [World.frozen?, BK3.out]))
            refine bodyPost_ret (results_ctt rfl _ _ gb 26 #[.int .i64 0, .string (⟨#[]⟩ : ByteArray), .string (⟨#[]⟩ : ByteArray)] (0, 0) _ rfl (by refine blk_put (cs := #[.int .i64 0, .string (⟨#[]⟩ : ByteArray), .string (⟨#[]⟩ : ByteArray)]) ?_ 2 _ rfl; refine blk_put (cs := #[.int .i64 0, .string (⟨#[]⟩ : ByteArray), .string (⟨#[]⟩ : ByteArray)]) ?_ 1 _ rfl; refine blk_put (cs := #[.int .i64 0, .string (⟨#[]⟩ : ByteArray), .string (⟨#[]⟩ : ByteArray)]) ?_ 0 _ rfl; exact BK3.out) Tryd.underlying26 rfl (by kernel_rfl)) rfl ?_
            exact ⟨rfl, below_set (below_set (below_set HB3.out GE.out) GE.out) GE.out⟩
          | true =>
            by_cases hn1 : t1 < 1
            · go_wp2_with (go_at_call 97; (with_reducible refine (spec_l01Number.calls k _ _ _ _ HT.out).mono ?_); rintro e w3 ⟨rfl, hb3⟩; have HB3 := Aside0.mk (below_step HB.out hb3); have BK3 := Aside0.mk (blk_below BK.out hb3); clear hb3; have hc0 := cellS26_0 BK3.out; have hc1 := cellS26_1 BK3.out; have hc2 := cellS26_2 BK3.out; have hf : ∀ o, w3.frozen? ⟨gb, o, none⟩ = false := (fun o => by simp [World.frozen?, BK3.out]))
              refine bodyPost_ret (results_ctt rfl _ _ gb 26 #[.int .i64 0, .string (⟨#[]⟩ : ByteArray), .string (⟨#[]⟩ : ByteArray)] (0, 0) _ rfl (by refine blk_put (cs := #[.int .i64 0, .string (⟨#[]⟩ : ByteArray), .string (⟨#[]⟩ : ByteArray)]) ?_ 2 _ rfl; refine blk_put (cs := #[.int .i64 0, .string (⟨#[]⟩ : ByteArray), .string (⟨#[]⟩ : ByteArray)]) ?_ 1 _ rfl; refine blk_put (cs := #[.int .i64 0, .string (⟨#[]⟩ : ByteArray), .string (⟨#[]⟩ : ByteArray)]) ?_ 0 _ rfl; exact BK3.out) Tryd.underlying26 rfl (by kernel_rfl)) rfl ?_
              exact ⟨rfl, below_set (below_set (below_set HB3.out GE.out) GE.out) GE.out⟩
            · have q2 : (a0.size : Int) < (i : Int) + 1 + t1 := by
                rcases Int.lt_or_le (a0.size : Int) ((i : Int) + 1 + t1) with g | g
                · exact g
                · exact absurd ⟨rfl, by omega, g⟩ hpass
              go_wp2_with (go_at_call 97; (with_reducible refine (spec_l01Number.calls k _ _ _ _ HT.out).mono ?_); rintro e w3 ⟨rfl, hb3⟩; have HB3 := Aside0.mk (below_step HB.out hb3); have BK3 := Aside0.mk (blk_below BK.out hb3); clear hb3; have hc0 := cellS26_0 BK3.out; have hc1 := cellS26_1 BK3.out; have hc2 := cellS26_2 BK3.out; have hf : ∀ o, w3.frozen? ⟨gb, o, none⟩ = false := (fun o => by simp [World.frozen?, BK3.out]))
              refine bodyPost_ret (results_ctt rfl _ _ gb 26 #[.int .i64 0, .string (⟨#[]⟩ : ByteArray), .string (⟨#[]⟩ : ByteArray)] (0, 0) _ rfl (by refine blk_put (cs := #[.int .i64 0, .string (⟨#[]⟩ : ByteArray), .string (⟨#[]⟩ : ByteArray)]) ?_ 2 _ rfl; refine blk_put (cs := #[.int .i64 0, .string (⟨#[]⟩ : ByteArray), .string (⟨#[]⟩ : ByteArray)]) ?_ 1 _ rfl; refine blk_put (cs := #[.int .i64 0, .string (⟨#[]⟩ : ByteArray), .string (⟨#[]⟩ : ByteArray)]) ?_ 0 _ rfl; exact BK3.out) Tryd.underlying26 rfl (by kernel_rfl)) rfl ?_
              exact ⟨rfl, below_set (below_set (below_set HB3.out GE.out) GE.out) GE.out⟩
end
def spec_l27Read.l0 : Nat → ByteArray → List (S26) → Int → Option ((List (S26)) × Int)
  | 0, _, _, _ => none
  | k + 1, x0, x4, x5 => if 0 ≤ x5 then (if x5 ≤ (x0.size : Int) then ((spec_l27Next.f k (x0.extract (x5 : Int).toNat x0.size)).bind fun bt128 => (if bt128.2.2.2.2 = true then (if x4.length < 3518437208883 then (spec_l27Read.l0 k x0 (x4 ++ [(⟨bt128.1, bt128.2.1, bt128.2.2.1⟩ : S26)]) (wrap64 (x5 + bt128.2.2.2.1))) else (none)) else (some (x4, x5)))) else (none)) else (none)
def spec_l27Read.f (k : Nat) (a0 : ByteArray) : Option ((List (S26)) × Int) := spec_l27Read.l0 k a0 (([] : List (S26))) 0
theorem spec_l27Read.mono_l : ∀ k, (∀ y0 y1 y2, LeO (spec_l27Read.l0 k y0 y1 y2) (spec_l27Read.l0 (k + 1) y0 y1 y2))
  | 0 => fun _ _ _ r h => by simp [spec_l27Read.l0] at h
  | k + 1 => by
    have ih0 := spec_l27Read.mono_l k
    · intro y0 y1 y2
      unfold spec_l27Read.l0
      repeat' first
      | (with_reducible exact ih0 _ _ _)
      | (with_reducible exact spec_l27Next.mono _ _)
      | (with_reducible exact LeO.refl _)
      | (with_reducible exact LeO.none _)
      | (with_reducible refine LeO.ite ?_ ?_)
      | (with_reducible refine LeO.bind ?_ (fun _ => ?_))
      | exact ih0 _ _ _
      | exact spec_l27Next.mono _ _
      | exact LeO.none _
      | refine LeO.ite ?_ ?_
      | refine LeO.bind ?_ (fun _ => ?_)
theorem spec_l27Read.mono : ∀ a0 k, LeO (spec_l27Read.f k a0) (spec_l27Read.f (k + 1) a0) := by
  intro a0 k
  have ih0 := spec_l27Read.mono_l k
  unfold spec_l27Read.f
  repeat' first
      | (with_reducible exact ih0 _ _ _)
      | (with_reducible exact spec_l27Next.mono _ _)
      | (with_reducible exact LeO.refl _)
      | (with_reducible exact LeO.none _)
      | (with_reducible refine LeO.ite ?_ ?_)
      | (with_reducible refine LeO.bind ?_ (fun _ => ?_))
      | exact ih0 _ _ _
      | exact spec_l27Next.mono _ _
      | exact LeO.none _
      | refine LeO.ite ?_ ?_
      | refine LeO.bind ?_ (fun _ => ?_)
set_option maxHeartbeats 8000000 in
set_option maxRecDepth 100000 in
theorem spec_l27Read.calls (k : Nat) (a0 : ByteArray) (r1 : List (S26)) (r2 : Int) (w : World) (h : spec_l27Read.f k a0 = some (r1, r2)) :
    Calls Tryd.prog 64 #[.string a0] w fun e w' => ∃ v0_ : Value, e = .returned (.tuple #[v0_, .int .i64 r2]) ∧ Kd.R k26 26 w' w.heap.size (fun _ => True) v0_ r1 ∧ Below w.heap.size w w' := by
  have hu26 := Tryd.underlying26
  have HB := Aside0.mk (Below.refl w.heap.size w)
  have H : (spec_l27Read.l0 k a0 (([] : List (S26))) 0) = some (r1, r2) := h
  clear h
  obtain ⟨y125, hy125⟩ : ∃ y_ : List (S26), y_ = (([] : List (S26))) := ⟨_, rfl⟩
  replace H : (spec_l27Read.l0 k a0 y125 0) = some (r1, r2) := by first | (rw [hy125]; with_reducible exact H) | (have H2_ := (Option.bind_some _ _).symm.trans H; rw [hy125]; with_reducible exact H2_) | (have H2_ := (Option.bind_some _ _).symm.trans H; with_reducible exact H2_) | with_reducible exact H | (rw [hy125]; exact H) | exact H
  have Ny125 := Aside0.mk hy125
  clear hy125
  have H' := Aside0.mk H
  clear H
  go_enter Tryd.func64, Tryd.ntmps64
  go_wp2_with (first | ((with_reducible refine gate_dst (N := 9) rfl ?_); refine Kd.R_lit k26 _ 26 ?hg (N := 9) ?hd (xs := ([] : List (S26))) (inner := []) (ok := fun _ => True) (okp := fun _ => True) ?hr ?hp (fun _ hk => hk) trivial (Below.refl _ _) (Nat.le_refl _) (by simp) ?_; (case hd => rfl); (case hg => rfl); (case hr => first | (go_simp; done) | (go_simp; rfl)); (case hp => exact (Reps.none _ _)); intro v126 w2 ho3 hb hg_ hnew_; clear hg_ hnew_; (first | rw [← Ny125.out] at ho3 | (simp only [Int.reduceToNat] at ho3; rw [← Ny125.out] at ho3)); have HO127 := Aside0.mk (Kd.R_lower ho3 (below_size bwl_)); replace HB := bst_ hb; clear hb ho3))
  go_loopg [4, 5] k (fun kq v4 v5 w' => ∃ (x4_1 : List (S26)) (x5_1 : Int), v5 = .int .i64 x5_1 ∧ Aside0 (spec_l27Read.l0 kq a0 x4_1 x5_1 = some (r1, r2)) ∧ Aside0 (kq ≤ k) ∧ Aside0 (Kd.R k26 26 w' w.heap.size (fun _ => True) v4 x4_1) ∧ Aside0 (Below w.heap.size w w'))
  case atStart => exact ⟨(y125), (0), (by first | rfl | (simp; done) | (simp [*]; done)), H', ⟨Nat.le_refl _⟩, ⟨by (with_reducible repeat (first | apply Kd.R_alloc | apply Kd.R_drewN | apply Kd.R_drew)); exact HO127.out⟩, ⟨by repeat (first | (with_reducible first | exact HB.out | apply below_alloc | apply pw_below_drewN | apply below_drew1) | exact HB.out)⟩⟩
  case round =>
    clear H'
    obtain ⟨x4_1, x5_1, rfl, HA, HK1, HO_4, HB⟩ := hrel
    cases gk with
    | zero => exact absurd HA.out (by simp [spec_l27Read.l0])
    | succ k1 =>
      have H := HA.out
      clear HA
      simp only [spec_l27Read.l0] at H
      by_cases c4 : 0 ≤ x5_1
      · rw [if_pos c4] at H
        have c4b0 := eq_true c4
        have c4b1 : decide (0 ≤ x5_1) = true := decide_eq_true c4
        clear c4
        by_cases c5 : x5_1 ≤ (a0.size : Int)
        · rw [if_pos c5] at H
          have c5b0 := eq_true c5
          have c5b1 : decide (x5_1 ≤ (a0.size : Int)) = true := decide_eq_true c5
          clear c5
          replace H := Option.bind_eq_some_iff.mp H
          obtain ⟨⟨t128, t129, t130, t131, t132⟩, A60, H⟩ := H
          replace H : (if t132 = true then (if x4_1.length < 3518437208883 then (spec_l27Read.l0 k1 a0 (x4_1 ++ [(⟨t128, t129, t130⟩ : S26)]) (wrap64 (x5_1 + t131))) else (none)) else (some (x4_1, x5_1))) = some (r1, r2) := H
          have A6 := Aside0.mk A60
          clear A60
          by_cases c7 : t132 = true
          · subst c7
            have H1 : (if x4_1.length < 3518437208883 then (spec_l27Read.l0 k1 a0 (x4_1 ++ [(⟨t128, t129, t130⟩ : S26)]) (wrap64 (x5_1 + t131))) else (none)) = some (r1, r2) := by rw [if_pos rfl] at H; exact H
            clear H
            have H := H1
            clear H1
            by_cases c8 : x4_1.length < 3518437208883
            · rw [if_pos c8] at H
              have LMc8 := Aside0.mk c8
              clear c8
              obtain ⟨y134, hy134⟩ : ∃ y_ : List (S26), y_ = (x4_1 ++ [(⟨t128, t129, t130⟩ : S26)]) := ⟨_, rfl⟩
              replace H : (spec_l27Read.l0 k1 a0 y134 (wrap64 (x5_1 + t131))) = some (r1, r2) := by first | (rw [hy134]; with_reducible exact H) | (have H2_ := (Option.bind_some _ _).symm.trans H; rw [hy134]; with_reducible exact H2_) | (have H2_ := (Option.bind_some _ _).symm.trans H; with_reducible exact H2_) | with_reducible exact H | (rw [hy134]; exact H) | exact H
              have Ny134 := Aside0.mk hy134
              clear hy134
              have H' := Aside0.mk H
              clear H
              go_wp2_with (first | ((with_reducible refine gate_callee (f := 88) rfl ?_); refine goesL_ (some 14) rfl rfl Tryd.func88 (by kernel_rfl) rfl #[.string (a0.extract (x5_1 : Int).toNat a0.size)] rfl (by (try simp only [List.map_toArray, List.map_cons, List.map_nil]); first | done | rfl | (simp only [List.length_drop, List.length_take]; rfl) | (simp only [ByteArray.size_append, Int.natCast_add]; rfl)) ?_; (with_reducible refine (spec_l27Next.calls k1 (a0.extract (x5_1 : Int).toNat a0.size) t128 t129 t130 t131 true _ A6.out).mono ?_); rintro e w9 ⟨rfl, hb⟩; refine ⟨_, rfl, ?_⟩; replace HO_4 := Aside0.mk (Kd.R_below (by (with_reducible repeat (first | apply Kd.R_alloc | apply Kd.R_drewN | apply Kd.R_drew)); exact HO_4.out) hb); replace HB := bst_ hb; (try clear hb); (try clear hb2); (try clear hk); (try clear hi)) | ((with_reducible refine gate_dst (N := 6) rfl ?_); refine box_event ?hg (N := 6) ?hd (cs := #[.int .i64 0, .string (⟨#[]⟩ : ByteArray), .string (⟨#[]⟩ : ByteArray)]) (t := 26) ?hr ?_; (case hd => rfl); (case hg => rfl); (case hr => first | (go_simp; done) | (go_simp; rfl)); intro gb133 hg w10 hbox hb; replace HO_4 := Aside0.mk (Kd.R_below (Kd.R_elderB (by (with_reducible repeat (first | apply Kd.R_alloc | apply Kd.R_drewN | apply Kd.R_drew)); exact HO_4.out) gb133 (Nat.le_of_eq hg.symm)) hb); have BK133 := Aside0.mk (hbox); have GW133 := bsz_ hg; have GE133 := bsz_ hg; replace HB := bst_ hb; clear hb hbox hg; have hcz11_0 : w10.cell? ⟨gb133, 0, none⟩ = some (.int .i64 0) := (blk_cell BK133.out 0).trans rfl; have hcz11_1 : w10.cell? ⟨gb133, 1, none⟩ = some (.string (⟨#[]⟩ : ByteArray)) := (blk_cell BK133.out 1).trans rfl; have hcz11_2 : w10.cell? ⟨gb133, 2, none⟩ = some (.string (⟨#[]⟩ : ByteArray)) := (blk_cell BK133.out 2).trans rfl; have hfz11_0 := blk_frozen BK133.out 0; have hfz11_1 := blk_frozen BK133.out 1; have hfz11_2 := blk_frozen BK133.out 2) | ((with_reducible refine gate_builtin (b := .append) (xs := #[.tmp 22, .tmp 24]) rfl ?_); at_builtin; refine Kd.R_append k26 (w0 := w) w.heap.size rfl (.tmp 22) (.tmp 24) 42 26 (.agg #[(.int .i64 0), (.string ⟨#[]⟩), (.string ⟨#[]⟩)]) 40 rfl Tryd.underlying42 info26 rfl (by decide) (by omega) u4 x4_1 (⟨t128, t129, t130⟩ : S26) [.int .i64 t128, .string t129, .string t130] (fun k_ => k_ ≠ gb133) (fun _ => False) rfl (by first | (go_simp; done) | (go_simp; rfl)) ?aP (fun _ hk => hk.elim) ?aF ?aO ?aB ?aS ?aL ?_; (case aP => exact k26_mkM _ _ _ (⟨t128, t129, t130⟩ : S26)); (case aB => exact bwl_); (case aF => exact (fun k_ hk => Kd.freshB (g := gb133) (o := .cells #[.int .i64 t128, .string t129, .string t130] 26 (0, 0)) (by (with_reducible repeat (first | refine blk_drewN ?_ _ | refine blk_drew ?_ | refine blk_alloc ?_ _)); refine blk_put (cs := #[.int .i64 t128, .string t129, .string (⟨#[]⟩ : ByteArray)]) ?_ 2 _ rfl; (with_reducible repeat (first | refine blk_drewN ?_ _ | refine blk_drew ?_ | refine blk_alloc ?_ _)); refine blk_put (cs := #[.int .i64 t128, .string (⟨#[]⟩ : ByteArray), .string (⟨#[]⟩ : ByteArray)]) ?_ 1 _ rfl; (with_reducible repeat (first | refine blk_drewN ?_ _ | refine blk_drew ?_ | refine blk_alloc ?_ _)); refine blk_put (cs := #[.int .i64 0, .string (⟨#[]⟩ : ByteArray), .string (⟨#[]⟩ : ByteArray)]) ?_ 0 _ rfl; (with_reducible repeat (first | refine blk_drewN ?_ _ | refine blk_drew ?_ | refine blk_alloc ?_ _)); exact BK133.out) k_ hk)); (case aO => exact (by (with_reducible repeat (first | apply Kd.R_alloc | apply Kd.R_drewN | apply Kd.R_drew)); exact Kd.R_mono (Kd.R_far (p := ⟨gb133, 2, none⟩) (Kd.R_far (p := ⟨gb133, 1, none⟩) (Kd.R_far (p := ⟨gb133, 0, none⟩) (Kd.R_mono HO_4.out (fun k_ hk => (⟨hk, hk.2⟩ : _ ∧ k_ ≠ gb133))) (fun _ hk => hk.2) (.int .i64 t128)) (fun _ hk => hk.2) (.string t129)) (fun _ hk => hk.2) (.string t130)) (fun _ hk => hk.1.2))); (case aS => exact (below_size bwl_)); (case aL => have := LMc8.out; omega); intro v135 w12 ho hb hg hat; rw [← Ny134.out] at ho; replace BK133 := Aside0.mk (blk_grown (g := gb133) (o := .cells #[.int .i64 t128, .string t129, .string t130] 26 (0, 0)) (by (with_reducible repeat (first | refine blk_drewN ?_ _ | refine blk_drew ?_ | refine blk_alloc ?_ _)); refine blk_put (cs := #[.int .i64 t128, .string t129, .string (⟨#[]⟩ : ByteArray)]) ?_ 2 _ rfl; (with_reducible repeat (first | refine blk_drewN ?_ _ | refine blk_drew ?_ | refine blk_alloc ?_ _)); refine blk_put (cs := #[.int .i64 t128, .string (⟨#[]⟩ : ByteArray), .string (⟨#[]⟩ : ByteArray)]) ?_ 1 _ rfl; (with_reducible repeat (first | refine blk_drewN ?_ _ | refine blk_drew ?_ | refine blk_alloc ?_ _)); refine blk_put (cs := #[.int .i64 0, .string (⟨#[]⟩ : ByteArray), .string (⟨#[]⟩ : ByteArray)]) ?_ 0 _ rfl; (with_reducible repeat (first | refine blk_drewN ?_ _ | refine blk_drew ?_ | refine blk_alloc ?_ _)); exact BK133.out) hg (Kd.R_away HO_4.out (fun _ hk => hk.2))); replace HB := Aside0.mk (hb); have HO136 := Aside0.mk (ho); clear HO_4; clear ho hb hg hat))
              go_roundg k1
              case measure => have := HK1.out; omega
              case rel => exact ⟨(y134), (wrap64 (x5_1 + t131)), (by first | rfl | (simp; done) | (simp [*]; done)), H', ⟨by have := HK1.out; omega⟩, ⟨by (with_reducible repeat (first | apply Kd.R_alloc | apply Kd.R_drewN | apply Kd.R_drew)); exact Kd.R_mono HO136.out (fun _ hk => trivial)⟩, ⟨by repeat (first | (with_reducible first | exact HB.out | apply below_alloc | apply pw_below_drewN | apply below_drew1 | refine below_set ?_ GE133.out) | exact HB.out)⟩⟩
            · rw [if_neg c8] at H
              exact absurd H (by simp)
          · replace c7 := Bool.eq_false_iff.mpr c7
            subst c7
            have H1 : (some (x4_1, x5_1)) = some (r1, r2) := by rw [if_neg (show ¬ (false = true) by decide)] at H; exact H
            clear H
            have H := H1
            clear H1
            simp only [Option.some.injEq, Prod.mk.injEq] at H
            obtain ⟨rfl, rfl⟩ := H
            go_wp2_with (first | ((with_reducible refine gate_callee (f := 88) rfl ?_); refine goesL_ (some 14) rfl rfl Tryd.func88 (by kernel_rfl) rfl #[.string (a0.extract (x5_1 : Int).toNat a0.size)] rfl (by (try simp only [List.map_toArray, List.map_cons, List.map_nil]); first | done | rfl | (simp only [List.length_drop, List.length_take]; rfl) | (simp only [ByteArray.size_append, Int.natCast_add]; rfl)) ?_; (with_reducible refine (spec_l27Next.calls k1 (a0.extract (x5_1 : Int).toNat a0.size) t128 t129 t130 t131 false _ A6.out).mono ?_); rintro e w13 ⟨rfl, hb⟩; refine ⟨_, rfl, ?_⟩; replace HO_4 := Aside0.mk (Kd.R_below (by (with_reducible repeat (first | apply Kd.R_alloc | apply Kd.R_drewN | apply Kd.R_drew)); exact HO_4.out) hb); replace HB := bst_ hb; (try clear hb); (try clear hb2); (try clear hk); (try clear hi)) | ((with_reducible refine gate_dst (N := 6) rfl ?_); refine box_event ?hg (N := 6) ?hd (cs := #[.int .i64 0, .string (⟨#[]⟩ : ByteArray), .string (⟨#[]⟩ : ByteArray)]) (t := 26) ?hr ?_; (case hd => rfl); (case hg => rfl); (case hr => first | (go_simp; done) | (go_simp; rfl)); intro gb133 hg w14 hbox hb; replace HO_4 := Aside0.mk (Kd.R_below (Kd.R_elderB (by (with_reducible repeat (first | apply Kd.R_alloc | apply Kd.R_drewN | apply Kd.R_drew)); exact HO_4.out) gb133 (Nat.le_of_eq hg.symm)) hb); have BK133 := Aside0.mk (hbox); have GW133 := bsz_ hg; have GE133 := bsz_ hg; replace HB := bst_ hb; clear hb hbox hg; have hcz15_0 : w14.cell? ⟨gb133, 0, none⟩ = some (.int .i64 0) := (blk_cell BK133.out 0).trans rfl; have hcz15_1 : w14.cell? ⟨gb133, 1, none⟩ = some (.string (⟨#[]⟩ : ByteArray)) := (blk_cell BK133.out 1).trans rfl; have hcz15_2 : w14.cell? ⟨gb133, 2, none⟩ = some (.string (⟨#[]⟩ : ByteArray)) := (blk_cell BK133.out 2).trans rfl; have hfz15_0 := blk_frozen BK133.out 0; have hfz15_1 := blk_frozen BK133.out 1; have hfz15_2 := blk_frozen BK133.out 2))
            go_ret2
            exact ⟨_, by first | rfl | (simp [errW_none, errW_some] <;> rfl) | (simp [*, errW_none, errW_some] <;> rfl), by (with_reducible repeat (first | apply Kd.R_alloc | apply Kd.R_drewN | apply Kd.R_drew)); exact Kd.R_mono (Kd.R_far (p := ⟨gb133, 2, none⟩) (Kd.R_far (p := ⟨gb133, 1, none⟩) (Kd.R_far (p := ⟨gb133, 0, none⟩) (Kd.R_mono HO_4.out (fun k_ hk => (⟨hk, hk.2⟩ : _ ∧ k_ ≠ gb133))) (fun _ hk => hk.2) (.int .i64 t128)) (fun _ hk => hk.2) (.string t129)) (fun _ hk => hk.2) (.string t130)) (fun _ hk => trivial), by repeat (first | (with_reducible first | exact HB.out | apply below_alloc | apply pw_below_drewN | apply below_drew1 | refine below_set ?_ GE133.out) | exact HB.out)⟩
        · rw [if_neg c5] at H
          exact absurd H (by simp)
      · rw [if_neg c4] at H
        exact absurd H (by simp)
def IsS32 (w0 W : World) (g : Nat) (f0 : ByteArray) (f1 : ByteArray) : Prop := W.heap[g]? = some (.cells #[.string f0, .string f1] 32 (0, 0)) ∧ w0.heap.size ≤ g
theorem IsS32.grown {w0 W : World} {g : Nat} {f0 : ByteArray} {f1 : ByteArray} {W1 : World} {row : Option Nat} (h : IsS32 w0 W g f0 f1) (hw : W.grownBy W1 row) (hne : some g ≠ row) : IsS32 w0 W1 g f0 f1 := by
  obtain ⟨hb, hg⟩ := h
  exact ⟨blk_grown hb hw hne, hg⟩
theorem IsS32.kept {w0 W : World} {g : Nat} {f0 : ByteArray} {f1 : ByteArray} {W1 : World} {S : Nat → Prop} (h : IsS32 w0 W g f0 f1) (hk : Kept W W1 S) (hne : ¬ S g) : IsS32 w0 W1 g f0 f1 := by
  obtain ⟨hb, hg⟩ := h
  exact ⟨blk_kept hb hk hne, hg⟩
theorem IsS32.below {w0 W : World} {g : Nat} {f0 : ByteArray} {f1 : ByteArray} {W1 : World} (h : IsS32 w0 W g f0 f1) (hw : Below W.heap.size W W1) : IsS32 w0 W1 g f0 f1 := h.grown (grown_of_below hw none) (by simp)
theorem IsS32.alloc {w0 W : World} {g : Nat} {f0 : ByteArray} {f1 : ByteArray} (h : IsS32 w0 W g f0 f1) (o : Obj) : IsS32 w0 (W.alloc o) g f0 f1 := h.below (below_alloc (Below.refl _ _) o)
theorem IsS32.drewN {w0 W : World} {g : Nat} {f0 : ByteArray} {f1 : ByteArray} (h : IsS32 w0 W g f0 f1) (m : Nat) : IsS32 w0 (W.drewN m) g f0 f1 := h
theorem IsS32.drew {w0 W : World} {g : Nat} {f0 : ByteArray} {f1 : ByteArray} (h : IsS32 w0 W g f0 f1) : IsS32 w0 W.drew g f0 f1 := h
theorem IsS32.at_ {w0 W : World} {g : Nat} {f0 : ByteArray} {f1 : ByteArray} {w' : World} {m : Nat} (hq : W.drewN m = w') (h : IsS32 w0 W g f0 f1) : IsS32 w0 w' g f0 f1 := by subst hq; exact IsS32.drewN h m
theorem IsS32.apart {w0 W : World} {g : Nat} {f0 : ByteArray} {f1 : ByteArray} {α : Type} {d : Kd α} {e : Nat} {base : Nat} {ok : Nat → Prop} {v : Value} {xs : List α} (h : IsS32 w0 W g f0 f1) (ho : d.R e W base ok v xs) (ht : ∀ q, q ∈ e :: d.E → q ≠ 32) : d.R e W base (fun k => ok k ∧ k ≠ g) v xs := by
  obtain ⟨hb, hg⟩ := h
  exact Kd.R_types ho hb ht
theorem IsS32.own_ne {w0 W : World} {g : Nat} {f0 : ByteArray} {f1 : ByteArray} {α : Type} {d : Kd α} {e : Nat} {base : Nat} {ok : Nat → Prop} {v : Value} {xs : List α} (h : IsS32 w0 W g f0 f1) (ho : d.R e W base ok v xs) (ht : e ≠ 32) : some g ≠ v.ownBlock := by
  obtain ⟨hb, hg⟩ := h
  exact Kd.R_ne ho hb ht
theorem IsS32.ge {w0 W : World} {g : Nat} {f0 : ByteArray} {f1 : ByteArray} (h : IsS32 w0 W g f0 f1) : w0.heap.size ≤ g := by
  obtain ⟨hb, hg⟩ := h
  exact hg
theorem IsS32.far {w0 W : World} {g : Nat} {f0 : ByteArray} {f1 : ByteArray} {p : Addr} (h : IsS32 w0 W g f0 f1) (hne : g ≠ p.block) (u : Value) : IsS32 w0 (W.setCell p u) g f0 f1 := by
  obtain ⟨hb, hg⟩ := h
  exact ⟨blk_far hb hne u, hg⟩
theorem cellS32_0 {W : World} {g : Nat} {f0 : ByteArray} {f1 : ByteArray} (h : W.heap[g]? = some (.cells #[.string f0, .string f1] 32 (0, 0))) : W.cell? ⟨g, 0, none⟩ = some (.string f0) := (blk_cell h 0).trans rfl
theorem IsS32.set_0 {w0 W : World} {g : Nat} {f0 : ByteArray} {f1 : ByteArray} (h : IsS32 w0 W g f0 f1) (x : ByteArray) : IsS32 w0 (W.setCell ⟨g, 0, none⟩ (.string x)) g x f1 := by
  obtain ⟨hb, hg⟩ := h
  exact ⟨by simpa using blk_set hb 0 (.string x), hg⟩
theorem cellS32_1 {W : World} {g : Nat} {f0 : ByteArray} {f1 : ByteArray} (h : W.heap[g]? = some (.cells #[.string f0, .string f1] 32 (0, 0))) : W.cell? ⟨g, 1, none⟩ = some (.string f1) := (blk_cell h 1).trans rfl
theorem IsS32.set_1 {w0 W : World} {g : Nat} {f0 : ByteArray} {f1 : ByteArray} (h : IsS32 w0 W g f0 f1) (x : ByteArray) : IsS32 w0 (W.setCell ⟨g, 1, none⟩ (.string x)) g f0 x := by
  obtain ⟨hb, hg⟩ := h
  exact ⟨by simpa using blk_set hb 1 (.string x), hg⟩
def spec_l27Ok.f (k : Nat) (s0_0 : ByteArray) (s0_1 : ByteArray) : Option (Bool × ByteArray × ByteArray) := (spec_l27Read.f k s0_1).bind fun bt137 => (if bt137.2 = (s0_1.size : Int) then (some (decide ((wrap64 ((s0_0.size : Int) + (s0_1.size : Int))) ≤ 4000), s0_0, s0_1)) else (some (false, s0_0, s0_1)))
theorem spec_l27Ok.mono : ∀ a0 a1 k, LeO (spec_l27Ok.f k a0 a1) (spec_l27Ok.f (k + 1) a0 a1) := by
  intro a0 a1 k
  unfold spec_l27Ok.f
  repeat' first
      | (with_reducible exact spec_l27Read.mono _ _)
      | (with_reducible exact LeO.refl _)
      | (with_reducible exact LeO.none _)
      | (with_reducible refine LeO.ite ?_ ?_)
      | (with_reducible refine LeO.bind ?_ (fun _ => ?_))
      | exact spec_l27Read.mono _ _
      | exact LeO.none _
      | refine LeO.ite ?_ ?_
      | refine LeO.bind ?_ (fun _ => ?_)
set_option maxHeartbeats 8000000 in
set_option maxRecDepth 100000 in
theorem spec_l27Ok.calls (k : Nat) (g : Nat) (s0_0 : ByteArray) (s0_1 : ByteArray) (r1 : Bool) (r2 : ByteArray) (r3 : ByteArray) (w0 w : World) (hI : IsS32 w0 w g s0_0 s0_1) (hB : Below w0.heap.size w0 w) (h : spec_l27Ok.f k s0_0 s0_1 = some (r1, r2, r3)) :
    Calls Tryd.prog 60 #[.pointer (some ⟨g, 0, none⟩)] w fun e w' => e = .returned (.bool r1) ∧ IsS32 w0 w' g r2 r3 ∧ Below w0.heap.size w0 w' ∧ KeepBut w w' g none := by
  have HI0 := Aside0.mk hI
  have HK := Aside0.mk (KeepBut.refl w g none)
  have HL := Aside0.mk hB.size
  clear hI
  have HW0 := Aside0.mk hB.size
  have HB := Aside0.mk hB
  clear hB
  have H : ((spec_l27Read.f k s0_1).bind fun bt137 => (if bt137.2 = (s0_1.size : Int) then (some (decide ((wrap64 ((s0_0.size : Int) + (s0_1.size : Int))) ≤ 4000), s0_0, s0_1)) else (some (false, s0_0, s0_1)))) = some (r1, r2, r3) := h
  clear h
  replace H := Option.bind_eq_some_iff.mp H
  obtain ⟨⟨t137, t138⟩, A20, H⟩ := H
  replace H : (if t138 = (s0_1.size : Int) then (some (decide ((wrap64 ((s0_0.size : Int) + (s0_1.size : Int))) ≤ 4000), s0_0, s0_1)) else (some (false, s0_0, s0_1))) = some (r1, r2, r3) := H
  have A2 := Aside0.mk A20
  clear A20
  by_cases c3 : t138 = (s0_1.size : Int)
  · rw [if_pos c3] at H
    have c3b0 : (t138 == (s0_1.size : Int)) = true := beq_iff_eq.mpr c3
    have c3b1 : (t138 != (s0_1.size : Int)) = false := bne_eq_false_iff_eq.mpr c3
    clear c3
    simp only [Option.some.injEq, Prod.mk.injEq] at H
    obtain ⟨rfl, rfl, rfl⟩ := H
    obtain ⟨HGz4, hgz4⟩ := HI0.out
    have hcz4_0 := cellS32_0 HGz4
    have hcz4_1 := cellS32_1 HGz4
    have hfz4_0 := blk_frozen HGz4 0
    have hfz4_1 := blk_frozen HGz4 1
    clear HGz4 hgz4
    go_enter Tryd.func60, Tryd.ntmps60
    go_wp2_with (first | (go_at_call 64; (with_reducible refine (spec_l27Read.calls k s0_1 t137 t138 _ A2.out).mono ?_); rintro e w5 ⟨v139, rfl, ho0, hb⟩; have HO140 := Aside0.mk (Kd.R_lower ho0 (keep_size (w := w) (g := g) (row := none) (by repeat (first | (with_reducible first | exact HK.out | apply KeepBut.set_ | apply keep_drewN | apply keep_drew | apply keep_alloc) | exact HK.out)))); replace HK := Aside0.mk (KeepBut.trans (by repeat (first | (with_reducible first | exact HK.out | apply KeepBut.set_ | apply keep_drewN | apply keep_drew | apply keep_alloc) | exact HK.out)) (KeepBut.of_below hb g none) (.inl rfl)); replace HB := Aside0.mk (below_step (by repeat (first | (with_reducible first | exact HB.out | apply below_alloc | apply pw_below_drewN | apply below_drew1 | refine below_set ?_ (IsS32.ge HI0.out)) | exact HB.out)) hb); replace HI0 := Aside0.mk (IsS32.below (by repeat (first | (with_reducible first | exact HI0.out | apply IsS32.alloc | apply IsS32.drewN | apply IsS32.drew | apply IsS32.set_0 | apply IsS32.set_1) | exact HI0.out)) hb); (try clear hb); (try clear hb2); (try clear hk); (try clear hi); (try clear ho0); obtain ⟨HGz6, hgz6⟩ := HI0.out; have hcz6_0 := cellS32_0 HGz6; have hcz6_1 := cellS32_1 HGz6; have hfz6_0 := blk_frozen HGz6 0; have hfz6_1 := blk_frozen HGz6 1; clear HGz6 hgz6))
    repeat (go_quiet (first | (go_at_call 64; (with_reducible refine (spec_l27Read.calls k s0_1 t137 t138 _ A2.out).mono ?_); rintro e w5 ⟨v139, rfl, ho0, hb⟩; have HO140 := Aside0.mk (Kd.R_lower ho0 (keep_size (w := w) (g := g) (row := none) (by repeat (first | (with_reducible first | exact HK.out | apply KeepBut.set_ | apply keep_drewN | apply keep_drew | apply keep_alloc) | exact HK.out)))); replace HK := Aside0.mk (KeepBut.trans (by repeat (first | (with_reducible first | exact HK.out | apply KeepBut.set_ | apply keep_drewN | apply keep_drew | apply keep_alloc) | exact HK.out)) (KeepBut.of_below hb g none) (.inl rfl)); replace HB := Aside0.mk (below_step (by repeat (first | (with_reducible first | exact HB.out | apply below_alloc | apply pw_below_drewN | apply below_drew1 | refine below_set ?_ (IsS32.ge HI0.out)) | exact HB.out)) hb); replace HI0 := Aside0.mk (IsS32.below (by repeat (first | (with_reducible first | exact HI0.out | apply IsS32.alloc | apply IsS32.drewN | apply IsS32.drew | apply IsS32.set_0 | apply IsS32.set_1) | exact HI0.out)) hb); (try clear hb); (try clear hb2); (try clear hk); (try clear hi); (try clear ho0); obtain ⟨HGz6, hgz6⟩ := HI0.out; have hcz6_0 := cellS32_0 HGz6; have hcz6_1 := cellS32_1 HGz6; have hfz6_0 := blk_frozen HGz6 0; have hfz6_1 := blk_frozen HGz6 1; clear HGz6 hgz6)); try go_wp2_with (first | (go_at_call 64; (with_reducible refine (spec_l27Read.calls k s0_1 t137 t138 _ A2.out).mono ?_); rintro e w5 ⟨v139, rfl, ho0, hb⟩; have HO140 := Aside0.mk (Kd.R_lower ho0 (keep_size (w := w) (g := g) (row := none) (by repeat (first | (with_reducible first | exact HK.out | apply KeepBut.set_ | apply keep_drewN | apply keep_drew | apply keep_alloc) | exact HK.out)))); replace HK := Aside0.mk (KeepBut.trans (by repeat (first | (with_reducible first | exact HK.out | apply KeepBut.set_ | apply keep_drewN | apply keep_drew | apply keep_alloc) | exact HK.out)) (KeepBut.of_below hb g none) (.inl rfl)); replace HB := Aside0.mk (below_step (by repeat (first | (with_reducible first | exact HB.out | apply below_alloc | apply pw_below_drewN | apply below_drew1 | refine below_set ?_ (IsS32.ge HI0.out)) | exact HB.out)) hb); replace HI0 := Aside0.mk (IsS32.below (by repeat (first | (with_reducible first | exact HI0.out | apply IsS32.alloc | apply IsS32.drewN | apply IsS32.drew | apply IsS32.set_0 | apply IsS32.set_1) | exact HI0.out)) hb); (try clear hb); (try clear hb2); (try clear hk); (try clear hi); (try clear ho0); obtain ⟨HGz6, hgz6⟩ := HI0.out; have hcz6_0 := cellS32_0 HGz6; have hcz6_1 := cellS32_1 HGz6; have hfz6_0 := blk_frozen HGz6 0; have hfz6_1 := blk_frozen HGz6 1; clear HGz6 hgz6)))
    go_ret
    exact ⟨by first | rfl | (simp [errW_none, errW_some] <;> rfl) | (simp [*, errW_none, errW_some] <;> rfl), by repeat (first | (with_reducible first | exact HI0.out | apply IsS32.alloc | apply IsS32.drewN | apply IsS32.drew | apply IsS32.set_0 | apply IsS32.set_1) | exact HI0.out), by repeat (first | (with_reducible first | exact HB.out | apply below_alloc | apply pw_below_drewN | apply below_drew1 | refine below_set ?_ (IsS32.ge HI0.out)) | exact HB.out), by repeat (first | (with_reducible first | exact HK.out | apply KeepBut.set_ | apply keep_drewN | apply keep_drew | apply keep_alloc) | exact HK.out)⟩
  · rw [if_neg c3] at H
    have c3b0 : (t138 == (s0_1.size : Int)) = false := beq_eq_false_iff_ne.mpr c3
    have c3b1 : (t138 != (s0_1.size : Int)) = true := bne_iff_ne.mpr c3
    simp only [Option.some.injEq, Prod.mk.injEq] at H
    obtain ⟨rfl, rfl, rfl⟩ := H
    obtain ⟨HGz7, hgz7⟩ := HI0.out
    have hcz7_0 := cellS32_0 HGz7
    have hcz7_1 := cellS32_1 HGz7
    have hfz7_0 := blk_frozen HGz7 0
    have hfz7_1 := blk_frozen HGz7 1
    clear HGz7 hgz7
    go_enter Tryd.func60, Tryd.ntmps60
    go_wp2_with (first | (go_at_call 64; (with_reducible refine (spec_l27Read.calls k s0_1 t137 t138 _ A2.out).mono ?_); rintro e w8 ⟨v139, rfl, ho0, hb⟩; have HO140 := Aside0.mk (Kd.R_lower ho0 (keep_size (w := w) (g := g) (row := none) (by repeat (first | (with_reducible first | exact HK.out | apply KeepBut.set_ | apply keep_drewN | apply keep_drew | apply keep_alloc) | exact HK.out)))); replace HK := Aside0.mk (KeepBut.trans (by repeat (first | (with_reducible first | exact HK.out | apply KeepBut.set_ | apply keep_drewN | apply keep_drew | apply keep_alloc) | exact HK.out)) (KeepBut.of_below hb g none) (.inl rfl)); replace HB := Aside0.mk (below_step (by repeat (first | (with_reducible first | exact HB.out | apply below_alloc | apply pw_below_drewN | apply below_drew1 | refine below_set ?_ (IsS32.ge HI0.out)) | exact HB.out)) hb); replace HI0 := Aside0.mk (IsS32.below (by repeat (first | (with_reducible first | exact HI0.out | apply IsS32.alloc | apply IsS32.drewN | apply IsS32.drew | apply IsS32.set_0 | apply IsS32.set_1) | exact HI0.out)) hb); (try clear hb); (try clear hb2); (try clear hk); (try clear hi); (try clear ho0); obtain ⟨HGz9, hgz9⟩ := HI0.out; have hcz9_0 := cellS32_0 HGz9; have hcz9_1 := cellS32_1 HGz9; have hfz9_0 := blk_frozen HGz9 0; have hfz9_1 := blk_frozen HGz9 1; clear HGz9 hgz9))
    repeat (go_quiet (first | (go_at_call 64; (with_reducible refine (spec_l27Read.calls k s0_1 t137 t138 _ A2.out).mono ?_); rintro e w8 ⟨v139, rfl, ho0, hb⟩; have HO140 := Aside0.mk (Kd.R_lower ho0 (keep_size (w := w) (g := g) (row := none) (by repeat (first | (with_reducible first | exact HK.out | apply KeepBut.set_ | apply keep_drewN | apply keep_drew | apply keep_alloc) | exact HK.out)))); replace HK := Aside0.mk (KeepBut.trans (by repeat (first | (with_reducible first | exact HK.out | apply KeepBut.set_ | apply keep_drewN | apply keep_drew | apply keep_alloc) | exact HK.out)) (KeepBut.of_below hb g none) (.inl rfl)); replace HB := Aside0.mk (below_step (by repeat (first | (with_reducible first | exact HB.out | apply below_alloc | apply pw_below_drewN | apply below_drew1 | refine below_set ?_ (IsS32.ge HI0.out)) | exact HB.out)) hb); replace HI0 := Aside0.mk (IsS32.below (by repeat (first | (with_reducible first | exact HI0.out | apply IsS32.alloc | apply IsS32.drewN | apply IsS32.drew | apply IsS32.set_0 | apply IsS32.set_1) | exact HI0.out)) hb); (try clear hb); (try clear hb2); (try clear hk); (try clear hi); (try clear ho0); obtain ⟨HGz9, hgz9⟩ := HI0.out; have hcz9_0 := cellS32_0 HGz9; have hcz9_1 := cellS32_1 HGz9; have hfz9_0 := blk_frozen HGz9 0; have hfz9_1 := blk_frozen HGz9 1; clear HGz9 hgz9)); try go_wp2_with (first | (go_at_call 64; (with_reducible refine (spec_l27Read.calls k s0_1 t137 t138 _ A2.out).mono ?_); rintro e w8 ⟨v139, rfl, ho0, hb⟩; have HO140 := Aside0.mk (Kd.R_lower ho0 (keep_size (w := w) (g := g) (row := none) (by repeat (first | (with_reducible first | exact HK.out | apply KeepBut.set_ | apply keep_drewN | apply keep_drew | apply keep_alloc) | exact HK.out)))); replace HK := Aside0.mk (KeepBut.trans (by repeat (first | (with_reducible first | exact HK.out | apply KeepBut.set_ | apply keep_drewN | apply keep_drew | apply keep_alloc) | exact HK.out)) (KeepBut.of_below hb g none) (.inl rfl)); replace HB := Aside0.mk (below_step (by repeat (first | (with_reducible first | exact HB.out | apply below_alloc | apply pw_below_drewN | apply below_drew1 | refine below_set ?_ (IsS32.ge HI0.out)) | exact HB.out)) hb); replace HI0 := Aside0.mk (IsS32.below (by repeat (first | (with_reducible first | exact HI0.out | apply IsS32.alloc | apply IsS32.drewN | apply IsS32.drew | apply IsS32.set_0 | apply IsS32.set_1) | exact HI0.out)) hb); (try clear hb); (try clear hb2); (try clear hk); (try clear hi); (try clear ho0); obtain ⟨HGz9, hgz9⟩ := HI0.out; have hcz9_0 := cellS32_0 HGz9; have hcz9_1 := cellS32_1 HGz9; have hfz9_0 := blk_frozen HGz9 0; have hfz9_1 := blk_frozen HGz9 1; clear HGz9 hgz9)))
    go_ret
    exact ⟨by first | rfl | (simp [errW_none, errW_some] <;> rfl) | (simp [*, errW_none, errW_some] <;> rfl), by repeat (first | (with_reducible first | exact HI0.out | apply IsS32.alloc | apply IsS32.drewN | apply IsS32.drew | apply IsS32.set_0 | apply IsS32.set_1) | exact HI0.out), by repeat (first | (with_reducible first | exact HB.out | apply below_alloc | apply pw_below_drewN | apply below_drew1 | refine below_set ?_ (IsS32.ge HI0.out)) | exact HB.out), by repeat (first | (with_reducible first | exact HK.out | apply KeepBut.set_ | apply keep_drewN | apply keep_drew | apply keep_alloc) | exact HK.out)⟩
section
open Go.Proofs.YtlcgonaapmmnkaaDoor.Base
def spec_FlushLog.f (k : Nat) (a0_0 : ByteArray) (a0_1 : ByteArray) : Option (ByteArray × ByteArray × Int) := (spec_l27Ok.f k a0_0 a0_1).bind fun t => if t.1 = true then (if t.2.1.size + t.2.2.size ≤ 4611686018427387904 then some (t.2.1 ++ t.2.2, ⟨#[]⟩, 0) else none) else some (⟨#[]⟩, ⟨#[]⟩, 1)
theorem spec_FlushLog.mono : ∀ a0 a1 k, LeO (spec_FlushLog.f k a0 a1) (spec_FlushLog.f (k + 1) a0 a1) := fun a0 a1 k => LeO.bind (spec_l27Ok.mono a0 a1 k) (fun _ => LeO.refl _)
set_option maxHeartbeats 8000000 in
set_option maxRecDepth 100000 in
theorem spec_FlushLog.calls (k : Nat) (a0_0 : ByteArray) (a0_1 : ByteArray) (r1 : ByteArray) (r2 : ByteArray) (r3 : Int) (w : World) (h : spec_FlushLog.f k a0_0 a0_1 = some (r1, r2, r3)) :
    Calls Tryd.prog 19 #[.agg #[.string a0_0, .string a0_1]] w fun e w' => e = .returned (.tuple #[.agg #[.string r1, .string r2], .int .i64 r3]) ∧ Below w.heap.size w w' := by
  unfold spec_FlushLog.f at h
  replace h := Option.bind_eq_some_iff.mp h
  obtain ⟨⟨t0, t1, t2⟩, hu, h⟩ := h
  try simp only [] at h
  have HU := Aside0.mk hu
  clear hu
  have hu32 := Tryd.underlying32
  cases t0 with
  | false =>
    simp only [Bool.false_eq_true, if_false, Option.some.injEq, Prod.mk.injEq] at h
    obtain ⟨rfl, rfl, rfl⟩ := h
    go_enter Tryd.func19, Tryd.ntmps19
    go_wp2_with (first | ((with_reducible refine gate_dst (N := 1) rfl ?_); refine box_event ?hg (N := 1) ?hd (cs := #[.string a0_0, .string a0_1]) (t := 32) ?hr ?_; (case hd => rfl); (case hg => rfl); (case hr => first | (go_simp; done) | (go_simp; rfl)); intro gp hg w2 hbox hb; have HI2 : Aside0 (IsS32 w w2 gp a0_0 a0_1) := ⟨⟨hbox, Nat.le_of_eq hg.symm⟩⟩; have HB2 := Aside0.mk hb; clear hbox hb hg) | ((with_reducible refine gate_dst (N := 2) rfl ?_); refine box_event ?hg (N := 2) ?hd (cs := #[.string (⟨#[]⟩ : ByteArray), .string (⟨#[]⟩ : ByteArray)]) (t := 32) ?hr ?_; (case hd => rfl); (case hg => rfl); (case hr => first | (go_simp; done) | (go_simp; rfl)); intro gr hg w3 hbox hb; have BK3 := Aside0.mk hbox; have HI3 := Aside0.mk (HI2.out.below hb); have HB3 := Aside0.mk (below_step HB2.out hb); have GE : Aside0 (w.heap.size ≤ gr) := ⟨by rw [hg]; exact HB2.out.size⟩; have GN : Aside0 (gp ≠ gr) := ⟨Nat.ne_of_lt (by rw [hg]; exact blk_lt HI2.out.1)⟩; clear hbox hb hg) | (go_at_call 60; refine Calls.mono (spec_l27Ok.calls k gp a0_0 a0_1 _ _ _ w _ HI3.out HB3.out HU.out) ?_; rintro e w4 ⟨rfl, hI4, hB4, hK4⟩; have BK4 := Aside0.mk ((hK4.2 gr (blk_lt BK3.out) (Ne.symm GN.out) (by simp)).trans BK3.out); have HB4 := Aside0.mk hB4; have HI4 := Aside0.mk hI4; clear hI4 hB4 hK4; have hc0 := cellS32_0 BK4.out; have hc1 := cellS32_1 BK4.out; have hf : ∀ o, w4.frozen? ⟨gr, o, none⟩ = false := (fun o => by simp [World.frozen?, BK4.out]); have hd0 := cellS32_0 HI4.out.1; have hd1 := cellS32_1 HI4.out.1))
    refine bodyPost_ret (results_ct rfl _ _ gr 32 #[.string (⟨#[]⟩ : ByteArray), .string (⟨#[]⟩ : ByteArray)] (0, 0) _ rfl (by refine blk_put (cs := #[.string (⟨#[]⟩ : ByteArray), .string (⟨#[]⟩ : ByteArray)]) ?_ 1 _ rfl; refine blk_put (cs := #[.string (⟨#[]⟩ : ByteArray), .string (⟨#[]⟩ : ByteArray)]) ?_ 0 _ rfl; exact BK4.out) Tryd.underlying32 rfl (by kernel_rfl)) rfl ?_
    exact ⟨rfl, below_set (below_set HB4.out GE.out) GE.out⟩
  | true =>
    simp only [if_true] at h
    split at h
    case isFalse => cases h
    rename_i hz
    simp only [Option.some.injEq, Prod.mk.injEq] at h
    obtain ⟨rfl, rfl, rfl⟩ := h
    have q1 : ¬ 9223372036854775807 < t1.size + t2.size := by omega
    go_enter Tryd.func19, Tryd.ntmps19
    go_wp2_with (first | ((with_reducible refine gate_dst (N := 1) rfl ?_); refine box_event ?hg (N := 1) ?hd (cs := #[.string a0_0, .string a0_1]) (t := 32) ?hr ?_; (case hd => rfl); (case hg => rfl); (case hr => first | (go_simp; done) | (go_simp; rfl)); intro gp hg w2 hbox hb; have HI2 : Aside0 (IsS32 w w2 gp a0_0 a0_1) := ⟨⟨hbox, Nat.le_of_eq hg.symm⟩⟩; have HB2 := Aside0.mk hb; clear hbox hb hg) | ((with_reducible refine gate_dst (N := 2) rfl ?_); refine box_event ?hg (N := 2) ?hd (cs := #[.string (⟨#[]⟩ : ByteArray), .string (⟨#[]⟩ : ByteArray)]) (t := 32) ?hr ?_; (case hd => rfl); (case hg => rfl); (case hr => first | (go_simp; done) | (go_simp; rfl)); intro gr hg w3 hbox hb; have BK3 := Aside0.mk hbox; have HI3 := Aside0.mk (HI2.out.below hb); have HB3 := Aside0.mk (below_step HB2.out hb); have GE : Aside0 (w.heap.size ≤ gr) := ⟨by rw [hg]; exact HB2.out.size⟩; have GN : Aside0 (gp ≠ gr) := ⟨Nat.ne_of_lt (by rw [hg]; exact blk_lt HI2.out.1)⟩; clear hbox hb hg) | (go_at_call 60; refine Calls.mono (spec_l27Ok.calls k gp a0_0 a0_1 _ _ _ w _ HI3.out HB3.out HU.out) ?_; rintro e w4 ⟨rfl, hI4, hB4, hK4⟩; have BK4 := Aside0.mk ((hK4.2 gr (blk_lt BK3.out) (Ne.symm GN.out) (by simp)).trans BK3.out); have HB4 := Aside0.mk hB4; have HI4 := Aside0.mk hI4; clear hI4 hB4 hK4; have hc0 := cellS32_0 BK4.out; have hc1 := cellS32_1 BK4.out; have hf : ∀ o, w4.frozen? ⟨gr, o, none⟩ = false := (fun o => by simp [World.frozen?, BK4.out]); have hd0 := cellS32_0 HI4.out.1; have hd1 := cellS32_1 HI4.out.1))
    refine bodyPost_ret (results_ct rfl _ _ gr 32 #[.string (t1 ++ t2), .string (⟨#[]⟩ : ByteArray)] (0, 0) _ rfl (by refine blk_put (cs := #[.string (t1 ++ t2), .string (⟨#[]⟩ : ByteArray)]) ?_ 1 _ rfl; refine blk_put (cs := #[.string (⟨#[]⟩ : ByteArray), .string (⟨#[]⟩ : ByteArray)]) ?_ 0 _ rfl; exact BK4.out) Tryd.underlying32 rfl (by kernel_rfl)) rfl ?_
    exact ⟨rfl, below_set (below_set HB4.out GE.out) GE.out⟩
end
def impl_SumOf.l0 : Nat → ByteArray → Int → Int → Option (Int)
  | 0, _, _, _ => none
  | k + 1, x0, x3, x4 => if x4 < (x0.size : Int) then (if 0 ≤ x4 then (impl_SumOf.l0 k x0 (Int.tmod (wrap64 ((wrap64 ((wrap64 (131 * x3)) + (wrap64 (bt x0 x4)))) + 1)) 9973) (wrap64 (x4 + 1))) else (none)) else (some x3)
def impl_SumOf.f (k : Nat) (a0 : ByteArray) : Option (Int) := impl_SumOf.l0 k a0 7 0
theorem impl_SumOf.mono_l : ∀ k, (∀ y0 y1 y2, LeO (impl_SumOf.l0 k y0 y1 y2) (impl_SumOf.l0 (k + 1) y0 y1 y2))
  | 0 => fun _ _ _ r h => by simp [impl_SumOf.l0] at h
  | k + 1 => by
    have ih0 := impl_SumOf.mono_l k
    · intro y0 y1 y2
      unfold impl_SumOf.l0
      repeat' first
      | (with_reducible exact ih0 _ _ _)
      | (with_reducible exact LeO.refl _)
      | (with_reducible exact LeO.none _)
      | (with_reducible refine LeO.ite ?_ ?_)
      | (with_reducible refine LeO.bind ?_ (fun _ => ?_))
      | exact ih0 _ _ _
      | exact LeO.none _
      | refine LeO.ite ?_ ?_
      | refine LeO.bind ?_ (fun _ => ?_)
theorem impl_SumOf.mono : ∀ a0 k, LeO (impl_SumOf.f k a0) (impl_SumOf.f (k + 1) a0) := by
  intro a0 k
  have ih0 := impl_SumOf.mono_l k
  unfold impl_SumOf.f
  repeat' first
      | (with_reducible exact ih0 _ _ _)
      | (with_reducible exact LeO.refl _)
      | (with_reducible exact LeO.none _)
      | (with_reducible refine LeO.ite ?_ ?_)
      | (with_reducible refine LeO.bind ?_ (fun _ => ?_))
      | exact ih0 _ _ _
      | exact LeO.none _
      | refine LeO.ite ?_ ?_
      | refine LeO.bind ?_ (fun _ => ?_)
set_option maxHeartbeats 8000000 in
set_option maxRecDepth 100000 in
theorem impl_SumOf.calls (k : Nat) (a0 : ByteArray) (r : Int) (w : World) (h : impl_SumOf.f k a0 = some r) :
    Calls Tryd.prog 53 #[.string a0] w fun e w' => e = .returned (.int .i64 r) ∧ Drawn0 w w' := by
  have H : (impl_SumOf.l0 k a0 7 0) = some r := h
  clear h
  have H' := Aside0.mk H
  clear H
  go_enter Tryd.func53, Tryd.ntmps53
  go_wp2
  go_loopg [3, 4] k (fun kq v3 v4 w' => ∃ (x3_1 : Int) (x4_1 : Int), v3 = .int .i64 x3_1 ∧ v4 = .int .i64 x4_1 ∧ Aside0 (impl_SumOf.l0 kq a0 x3_1 x4_1 = some r) ∧ Aside0 (kq ≤ k) ∧ Drawn0 w w')
  case atStart => exact ⟨(7), (0), (by first | rfl | (simp; done) | (simp [*]; done)), (by first | rfl | (simp; done) | (simp [*]; done)), H', ⟨Nat.le_refl _⟩, by repeat (first | exact Drawn0.refl _ | apply Drawn0.step)⟩
  case round =>
    clear H'
    obtain ⟨x3_1, x4_1, rfl, rfl, HA, HK1, ⟨m1, rfl⟩⟩ := hrel
    cases gk with
    | zero => exact absurd HA.out (by simp [impl_SumOf.l0])
    | succ k1 =>
      have H := HA.out
      clear HA
      simp only [impl_SumOf.l0] at H
      by_cases c2 : x4_1 < (a0.size : Int)
      · rw [if_pos c2] at H
        have c2b0 : decide (x4_1 < (a0.size : Int)) = true := decide_eq_true c2
        clear c2
        by_cases c3 : 0 ≤ x4_1
        · rw [if_pos c3] at H
          have c3b0 : decide (0 ≤ x4_1) = true := decide_eq_true c3
          clear c3
          have H' := Aside0.mk H
          clear H
          have p4 : 0 ≤ (x4_1 : Int) := of_decide_eq_true (by first | (with_reducible assumption) | assumption)
          have q4 : x4_1 < (a0.size : Int) := of_decide_eq_true (by first | (with_reducible assumption) | assumption)
          have hx4 := bt_at a0 x4_1
          replace p4 := eq_true p4
          replace q4 := eq_true q4
          go_wp2
          go_roundg k1
          case measure => have := HK1.out; omega
          case rel => exact ⟨(Int.tmod (wrap64 ((wrap64 ((wrap64 (131 * x3_1)) + (wrap64 (bt a0 x4_1)))) + 1)) 9973), (wrap64 (x4_1 + 1)), (by first | rfl | (simp; done) | (simp [*]; done)), (by first | rfl | (simp; done) | (simp [*]; done)), H', ⟨by have := HK1.out; omega⟩, by repeat (first | exact Drawn0.refl _ | apply Drawn0.step)⟩
        · rw [if_neg c3] at H
          exact absurd H (by simp)
      · rw [if_neg c2] at H
        have c2b0 : decide (x4_1 < (a0.size : Int)) = false := decide_eq_false c2
        clear c2
        obtain rfl := Option.some.inj H
        go_wp2
        go_ret
        exact ⟨by first | rfl | (simp; done) | (simp [*]; done), by repeat (first | exact Drawn0.refl _ | apply Drawn0.step)⟩
def impl_within.f (a0 : Int) (a1 : Int) (a2 : Int) : Option (Bool) := if a0 ≥ a1 then (some (decide (a0 ≤ a2))) else (some false)
set_option maxHeartbeats 8000000 in
set_option maxRecDepth 100000 in
theorem impl_within.calls (a0 : Int) (a1 : Int) (a2 : Int) (r : Bool) (w : World) (h : impl_within.f a0 a1 a2 = some r) :
    Calls Tryd.prog 63 #[.int .i64 a0, .int .i64 a1, .int .i64 a2] w fun e w' => e = .returned (.bool r) ∧ Drawn0 w w' := by
  have H : (if a0 ≥ a1 then (some (decide (a0 ≤ a2))) else (some false)) = some r := h
  clear h
  by_cases c4 : a0 ≥ a1
  · rw [if_pos c4] at H
    have c4b0 : decide (a1 ≤ a0) = true := decide_eq_true c4
    clear c4
    obtain rfl := Option.some.inj H
    go_enter Tryd.func63, Tryd.ntmps63
    go_wp2
    go_ret
    exact ⟨by first | rfl | (simp; done) | (simp [*]; done), by repeat (first | exact Drawn0.refl _ | apply Drawn0.step)⟩
  · rw [if_neg c4] at H
    have c4b0 : decide (a1 ≤ a0) = false := decide_eq_false c4
    clear c4
    obtain rfl := Option.some.inj H
    go_enter Tryd.func63, Tryd.ntmps63
    go_wp2
    go_ret
    exact ⟨by first | rfl | (simp; done) | (simp [*]; done), by repeat (first | exact Drawn0.refl _ | apply Drawn0.step)⟩
end Go.Proofs.YtlcgonaapmmnkaaDoor.QFnPowerLoss
