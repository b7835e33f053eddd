import Derived.Test.YtkoeeajciciphaaGreatDoorSq
import Derived.Test.YtkoeeajciciphaaGreatDoorS4
import Derived.Test.YtkoeeajciciphaaGreatDoorQFnExactStartAgainx0
import Derived.Test.YtkoeeajciciphaaGreatDoorQFnExactStartAgainx1
namespace Go.Proofs.YtkoeeajciciphaaGreatDoor.QFnExactStartAgain
open Sq (fl pu_ gl_ b20_ b21_ b30_ b31_ b32_ od_ rr_ be_)
open Sq
open Base (bwl_ bst_ bsz_ bkb_ nbl_ nbr_ kbl_ bkm_)
open Go.RowKit Go.Proofs.YtkoeeajciciphaaGreatDoorW.PrintWords Go.Proofs.YtkoeeajciciphaaGreatDoorW.PrintLast Go.Proofs.YtkoeeajciciphaaGreatDoorW.PrintMore
attribute [local go_sem] max2_int min2_int max_two min_two max_three min_three max_four min_four
set_option linter.unusedVariables false
set_option linter.unusedSimpArgs false
set_option maxHeartbeats 8000000
set_option maxRecDepth 100000
section
open Go.Proofs.YtkoeeajciciphaaGreatDoor.Base
def blankFrom (s : ByteArray) (i : Nat) : Nat := if h : i < s.size ∧ ¬ bt s (i : Int) = 32 then blankFrom s (i + 1) else i
termination_by s.size - i
decreasing_by omega
theorem blank_go {s : ByteArray} {i : Nat} (h : i < s.size) (hb : ¬ bt s (i : Int) = 32) : blankFrom s i = blankFrom s (i + 1) := by rw [blankFrom, dif_pos ⟨h, hb⟩]
theorem blank_end {s : ByteArray} {i : Nat} (h : ¬ i < s.size) : blankFrom s i = i := by rw [blankFrom, dif_neg (fun g => h g.1)]
theorem blank_here {s : ByteArray} {i : Nat} (hb : bt s (i : Int) = 32) : blankFrom s i = i := by rw [blankFrom, dif_neg (fun g => g.2 hb)]
theorem blank_le (s : ByteArray) : ∀ (d i : Nat), s.size - i = d → i ≤ blankFrom s i ∧ (i ≤ s.size → blankFrom s i ≤ s.size)
 | 0, i, h => by rw [blank_end (by omega)]; exact ⟨Nat.le_refl _, fun h => h⟩
 | d + 1, i, h => by
  by_cases hb : bt s (i : Int) = 32
  ·rw [blank_here hb]; exact ⟨Nat.le_refl _, fun h => h⟩
  ·rw [blank_go (by omega) hb]
   have := blank_le s d (i + 1) (by omega)
   exact ⟨by omega, fun _ => this.2 (by omega)⟩
def spec_l27Body.f (k : Nat) (a0 : ByteArray) : Option (Int × ByteArray × ByteArray × Bool) :=
 if a0.size ≤ 140737488351232 then
  if a0.size ≤ blankFrom a0 (blankFrom a0 0 + 1) then some (0, ⟨#[]⟩, ⟨#[]⟩, false) else
   (spec_l01Number.f k (a0.extract 0 (blankFrom a0 0))).bind fun t => if t.2 = true then
    (spec_l27One.f k t.1 (a0.extract (blankFrom a0 0 + 1) (blankFrom a0 (blankFrom a0 0 + 1))) (a0.extract (blankFrom a0 (blankFrom a0 0 + 1) + 1) a0.size)).bind fun u => if u.1 = true then some (u.2.1, u.2.2.1, u.2.2.2, true) else some (0, ⟨#[]⟩, ⟨#[]⟩, false)
   else some (0, ⟨#[]⟩, ⟨#[]⟩, false)
 else none
theorem spec_l27Body.mono : ∀ a0 k, LeO (spec_l27Body.f k a0) (spec_l27Body.f (k + 1) a0) := fun a0 k => by
 unfold spec_l27Body.f
 exact LeO.ite (LeO.ite (LeO.refl _) (LeO.bind (spec_l01Number.mono _ _) fun t => LeO.ite (LeO.bind (spec_l27One.mono _ _ _ _) fun u => LeO.refl _) (LeO.refl _))) (LeO.refl _)
theorem spec_l27Body.calls (k : Nat) (a0 : ByteArray) (r1 : Int) (r2 : ByteArray) (r3 : ByteArray) (r4 : Bool) (w : World) (h : spec_l27Body.f k a0 = some (r1, r2, r3, r4)) :
  Calls Tryz.prog 118 #[.string a0] w fun e w' => e = .returned (.tuple #[.agg #[.int .i64 r1, .string r2, .string r3], .bool r4]) ∧ Below w.heap.size w w' := by
 unfold spec_l27Body.f at h
 split at h
 case isFalse => cases h
 rename_i hsz
 have HA := Aside0.mk h
 clear h
 have B0 := Aside0.mk (blank_le a0 _ 0 rfl)
 have B1 := Aside0.mk (blank_le a0 _ (blankFrom a0 0 + 1) rfl)
 have hu26 := Tryz.underlying132
 go_enter Tryz.func118, Tryz.ntmps118
 go_wp2_with ((with_reducible refine gd_ 2 rfl ?_); refine be_ 2 #[.int .i64 0, .string (⟨#[]⟩ : ByteArray), .string (⟨#[]⟩ : ByteArray)] 132 ?_; intro gb hg w2 hbox hb; have BK := Aside0.mk hbox; have HB := Aside0.mk hb; have GE := Aside0.mk (Nat.le_of_eq hg.symm); clear hbox hb hg)
 go_loop [4] (fun v4 => ∃ i : Nat, v4 = .int .i64 i ∧ i ≤ a0.size ∧ Aside0 (blankFrom a0 0 = blankFrom a0 i)) (fun v4 => a0.size - (intOf v4).toNat)
 case atStart => exact ⟨0, rfl, Nat.zero_le _, ⟨rfl⟩⟩
 case round =>
  obtain ⟨i, rfl, hi, hb⟩ := hrel
  by_cases hgo : i < a0.size ∧ ¬ bt a0 (i : Int) = 32
  ·obtain ⟨hlt, h32⟩ := hgo
   have hx : ∀ h : i < a0.size, ((a0[i]'h).toNat : Int) = bt a0 (i : Int) := by simpa using bt_at a0 (i : Int)
   have HH := Aside0.mk (blank_go hlt h32)
   have p1 : (bt a0 (i : Int) == 32) = false := by simpa using h32
   have p2 : (bt a0 (i : Int) != 32) = true := by simpa using h32
   go_wp2
   go_round
   case rel => exact ⟨i + 1, by go_num, by omega, ⟨by rw [hb.out, HH.out]⟩⟩
   case measure => simp [intOf]; omega
  ·have hst : blankFrom a0 0 = i := by
    rw [hb.out]
    by_cases hlt : i < a0.size
    ·exact blank_here (Decidable.not_not.mp fun g => hgo ⟨hlt, g⟩)
    ·exact blank_end hlt
   have HA1 := HA.out
   have B1' := B1.out
   rw [hst] at HA1 B1'
   have HA2 := Aside0.mk HA1
   have HST := Aside0.mk hst
   obtain ⟨b1, b2⟩ := B1'
   clear HA1 hst
   have hdec : (i < a0.size ∧ bt a0 (i : Int) = 32) ∨ ¬ i < a0.size := by
    by_cases hlt : i < a0.size
    ·exact .inl ⟨hlt, Decidable.not_not.mp fun g => hgo ⟨hlt, g⟩⟩
    ·exact .inr hlt
   have hx : ∀ h : i < a0.size, ((a0[i]'h).toNat : Int) = bt a0 (i : Int) := by simpa using bt_at a0 (i : Int)
   clear hgo
   rcases hdec with ⟨hlt, h32⟩ | hlt
   all_goals
    (try rw [h32] at hx)
    (try clear h32)
    go_wp2
    go_loop [5] (fun v5 => ∃ j : Nat, v5 = .int .i64 j ∧ i + 1 ≤ j ∧ (j ≤ a0.size ∨ j = i + 1) ∧ Aside0 (blankFrom a0 (i + 1) = blankFrom a0 j)) (fun v5 => a0.size - (intOf v5).toNat)
    case atStart => exact ⟨i + 1, by go_num, Nat.le_refl _, .inr rfl, ⟨rfl⟩⟩
    case round =>
     obtain ⟨j, rfl, hj1, hj2, hbj⟩ := hrel
     by_cases hgo : j < a0.size ∧ ¬ bt a0 (j : Int) = 32
     ·obtain ⟨hlj, h32⟩ := hgo
      have hxj : ∀ h : j < a0.size, ((a0[j]'h).toNat : Int) = bt a0 (j : Int) := by simpa using bt_at a0 (j : Int)
      have HH := Aside0.mk (blank_go hlj h32)
      have p1 : (bt a0 (j : Int) == 32) = false := by simpa using h32
      have p2 : (bt a0 (j : Int) != 32) = true := by simpa using h32
      clear hx
      go_wp2
      go_round
      case rel => exact ⟨j + 1, by go_num, by omega, by omega, ⟨by rw [hbj.out, HH.out]⟩⟩
      case measure => simp [intOf]; omega
     ·have hst : blankFrom a0 (i + 1) = j := by
       rw [hbj.out]
       by_cases hlj : j < a0.size
       ·exact blank_here (Decidable.not_not.mp fun g => hgo ⟨hlj, g⟩)
       ·exact blank_end hlj
      have HA1 := HA2.out
      rw [hst] at HA1 b1 b2
      have hdec : (j < a0.size ∧ bt a0 (j : Int) = 32) ∨ ¬ j < a0.size := by
       by_cases hlj : j < a0.size
       ·exact .inl ⟨hlj, Decidable.not_not.mp fun g => hgo ⟨hlj, g⟩⟩
       ·exact .inr hlj
      have hxj : ∀ h : j < a0.size, ((a0[j]'h).toNat : Int) = bt a0 (j : Int) := by simpa using bt_at a0 (j : Int)
      clear hx hst hgo
      rcases hdec with ⟨hlj, h32⟩ | hlj
      ·try (exfalso; omega)
       all_goals
        rw [if_neg (by omega)] at HA1
        rw [h32] at hxj
        have p0 : (0 : Int) ≤ (i : Int) + 1 := by omega
        have p1 : (i : Int) + 1 ≤ (j : Int) := by omega
        have p2 : (j : Int) ≤ (a0.size : Int) := by omega
        have p3 : (j : Int) + 1 ≤ (a0.size : Int) := by omega
        have p4 : (i : Int) ≤ (a0.size : Int) := by omega
        have p5 : ¬ (a0.size : Int) ≤ (j : Int) := by omega
        obtain ⟨⟨t1, t2⟩, ht, HA3⟩ := Option.bind_eq_some_iff.mp HA1
        have HT := Aside0.mk ht
        try simp only [] at HA3
        have HA4 := Aside0.mk HA3
        clear ht HA1 HA3 h32
        go_wp2_with (go_at_call 117; (with_reducible refine (spec_l01Number.calls k _ t1 t2 _ HT.out).mono ?_); rintro e w3 ⟨rfl, hb3⟩; have HB3 := Aside0.mk hb3; clear hb3)
        clear hxj
        have HB4 : Aside0 (Below w.heap.size w (w3.alloc (.cells #[.int .i64 t1, .string (a0.extract (i + 1) j), .string (a0.extract (j + 1) a0.size)] 132)).drew) := ⟨below_drew1 (below_alloc (below_step HB.out HB3.out) _)⟩
        have BK4 : Aside0 ((w3.alloc (.cells #[.int .i64 t1, .string (a0.extract (i + 1) j), .string (a0.extract (j + 1) a0.size)] 132)).drew.heap[gb]? = some (.cells #[.int .i64 0, .string (⟨#[]⟩ : ByteArray), .string (⟨#[]⟩ : ByteArray)] 132 (0, 0))) := ⟨blk_drew (blk_alloc (blk_below BK.out HB3.out) _)⟩
        have HI4 : Aside0 (IsS132 w (w3.alloc (.cells #[.int .i64 t1, .string (a0.extract (i + 1) j), .string (a0.extract (j + 1) a0.size)] 132)).drew w3.heap.size t1 (a0.extract (i + 1) j) (a0.extract (j + 1) a0.size)) := ⟨⟨blk_drew (blk_new w3 _), (below_step HB.out HB3.out).size⟩⟩
        have GN : Aside0 (gb < w3.heap.size) := ⟨blk_lt (blk_below BK.out HB3.out)⟩
        cases t2 with
        | false =>
         have HA5 := HA4.out
         simp only [Bool.false_eq_true, if_false, Option.some.injEq, Prod.mk.injEq] at HA5
         obtain ⟨rfl, rfl, rfl, rfl⟩ := HA5
         go_region
         obtain ⟨w4, hw4⟩ : ∃ w4, w4 = (w3.alloc (.cells #[.int .i64 t1, .string (a0.extract (i + 1) j), .string (a0.extract (j + 1) a0.size)] 132)).drew := ⟨_, rfl⟩
         rw [← hw4] at HB4 BK4 HI4 ⊢
         clear hw4
         have hc0 := cellS132_0 BK4.out
         have hc1 := cellS132_1 BK4.out
         have hc2 := cellS132_2 BK4.out
         have hf : ∀ o, w4.frozen? ⟨gb, o, none⟩ = false := fun o => by simp [World.frozen?, BK4.out]
         go_wp2
         refine bodyPost_ret (results_ct rfl _ _ gb 132 #[.int .i64 0, .string (⟨#[]⟩ : ByteArray), .string (⟨#[]⟩ : ByteArray)] (0, 0) _ rfl (kbp_ BK4) Tryz.underlying132 rfl (by kernel_rfl)) rfl ?_
         exact ⟨rfl, below_set (below_set (below_set HB4.out GE.out) GE.out) GE.out⟩
        | true =>
         have HA5 := HA4.out
         simp only [if_true] at HA5
         obtain ⟨⟨u0, u1, u2, u3⟩, hu, HA6⟩ := Option.bind_eq_some_iff.mp HA5
         try simp only [] at HA6
         have HU := Aside0.mk hu
         have HA7 := Aside0.mk HA6
         clear hu HA5 HA6
         go_region
         obtain ⟨w4, hw4⟩ : ∃ w4, w4 = (w3.alloc (.cells #[.int .i64 t1, .string (a0.extract (i + 1) j), .string (a0.extract (j + 1) a0.size)] 132)).drew := ⟨_, rfl⟩
         rw [← hw4] at HB4 BK4 HI4 ⊢
         clear hw4
         have I1 := Aside0.mk (spec_l27One.calls k w3.heap.size t1 (a0.extract (i + 1) j) (a0.extract (j + 1) a0.size) u0 u1 u2 u3 w w4 HI4.out HB4.out HU.out)
         have HL4 := Aside0.mk (blk_lt BK4.out)
         cases u0 with
         | false =>
          have HA8 := HA7.out
          simp only [Bool.false_eq_true, if_false, Option.some.injEq, Prod.mk.injEq] at HA8
          obtain ⟨rfl, rfl, rfl, rfl⟩ := HA8
          go_wp2_with (go_at_call 132; (with_reducible refine I1.out.mono ?_); rintro e w5 ⟨rfl, hI5, hB5, hK5⟩; have BK5 := Aside0.mk ((hK5.2 gb HL4.out (Nat.ne_of_lt GN.out) (by simp)).trans BK4.out); have HB5 := Aside0.mk hB5; have hc0 := cellS132_0 BK5.out; have hc1 := cellS132_1 BK5.out; have hc2 := cellS132_2 BK5.out; have hf : ∀ o, w5.frozen? ⟨gb, o, none⟩ = false := (fun o => by simp [World.frozen?, BK5.out]); clear hI5 hB5 hK5)
          refine bodyPost_ret (results_ct rfl _ _ gb 132 #[.int .i64 0, .string (⟨#[]⟩ : ByteArray), .string (⟨#[]⟩ : ByteArray)] (0, 0) _ rfl (kbp_ BK5) Tryz.underlying132 rfl (by kernel_rfl)) rfl ?_
          exact ⟨rfl, below_set (below_set (below_set HB5.out GE.out) GE.out) GE.out⟩
         | true =>
          have HA8 := HA7.out
          simp only [if_true, Option.some.injEq, Prod.mk.injEq] at HA8
          obtain ⟨rfl, rfl, rfl, rfl⟩ := HA8
          go_wp2_with (go_at_call 132; (with_reducible refine I1.out.mono ?_); rintro e w5 ⟨rfl, hI5, hB5, hK5⟩; have BK5 := Aside0.mk ((hK5.2 gb HL4.out (Nat.ne_of_lt GN.out) (by simp)).trans BK4.out); have HB5 := Aside0.mk hB5; have hc0 := cellS132_0 BK5.out; have hc1 := cellS132_1 BK5.out; have hc2 := cellS132_2 BK5.out; have hf : ∀ o, w5.frozen? ⟨gb, o, none⟩ = false := (fun o => by simp [World.frozen?, BK5.out]); have hd0 := cellS132_0 hI5.1; have hd1 := cellS132_1 hI5.1; have hd2 := cellS132_2 hI5.1; clear hI5 hB5 hK5)
          refine bodyPost_ret (results_ct rfl _ _ gb 132 #[.int .i64 u1, .string u2, .string u3] (0, 0) _ rfl (kbp_ BK5) Tryz.underlying132 rfl (by kernel_rfl)) rfl ?_
          exact ⟨rfl, below_set (below_set (below_set HB5.out GE.out) GE.out) GE.out⟩
      ·have hle : a0.size ≤ j := by omega
       rw [if_pos hle] at HA1
       simp only [Option.some.injEq, Prod.mk.injEq] at HA1
       obtain ⟨rfl, rfl, rfl, rfl⟩ := HA1
       have p5 : (a0.size : Int) ≤ (j : Int) := by omega
       have hc0 := cellS132_0 BK.out
       have hc1 := cellS132_1 BK.out
       have hc2 := cellS132_2 BK.out
       have hf : ∀ o, w2.frozen? ⟨gb, o, none⟩ = false := fun o => by simp [World.frozen?, BK.out]
       go_wp2
       refine bodyPost_ret (results_ct rfl _ _ gb 132 #[.int .i64 0, .string (⟨#[]⟩ : ByteArray), .string (⟨#[]⟩ : ByteArray)] (0, 0) _ rfl (by refine blk_put (cs := #[.int .i64 0, .string (⟨#[]⟩ : ByteArray), .string (⟨#[]⟩ : ByteArray)]) ?_ 2 _ rfl; refine blk_put (cs := #[.int .i64 0, .string (⟨#[]⟩ : ByteArray), .string (⟨#[]⟩ : ByteArray)]) ?_ 1 _ rfl; refine blk_put (cs := #[.int .i64 0, .string (⟨#[]⟩ : ByteArray), .string (⟨#[]⟩ : ByteArray)]) ?_ 0 _ rfl; exact BK.out) Tryz.underlying132 rfl (by kernel_rfl)) rfl ?_
       exact ⟨rfl, below_set (below_set (below_set HB.out GE.out) GE.out) GE.out⟩
end
def spec_SumOf.l0 : Nat → ByteArray → Int → Int → Option (Int)
 | 0, _, _, _ => none
 | k + 1, x0, x3, x4 => if x4 < (x0.size : Int) then (if 0 ≤ x4 then (spec_SumOf.l0 k x0 (Int.tmod (wrap64 ((wrap64 ((wrap64 (x3 * 131)) + (wrap64 (bt x0 x4)))) + 1)) 9973) (wrap64 (x4 + 1))) else (none)) else (some x3)
def spec_SumOf.f (k : Nat) (a0 : ByteArray) : Option (Int) := spec_SumOf.l0 k a0 7 0
theorem spec_SumOf.mono_l : ∀ k, (∀ y0 y1 y2, LeO (spec_SumOf.l0 k y0 y1 y2) (spec_SumOf.l0 (k + 1) y0 y1 y2))
 | 0 => fun _ _ _ r h => by simp [spec_SumOf.l0] at h
 | k + 1 => by
  have ih0 := spec_SumOf.mono_l k
  ·intro y0 y1 y2
   unfold spec_SumOf.l0
   exact mo_
theorem spec_SumOf.mono : ∀ a0 k, LeO (spec_SumOf.f k a0) (spec_SumOf.f (k + 1) a0) := by
 intro a0 k
 have ih0 := spec_SumOf.mono_l k
 unfold spec_SumOf.f
 exact mo_
theorem spec_SumOf.calls (k : Nat) (a0 : ByteArray) (r : Int) (w : World) (h : spec_SumOf.f k a0 = some r) :
  Calls Tryz.prog 133 #[.string a0] w fun e w' => e = .returned (.int .i64 r) ∧ Drawn0 w w' := by
 have H := h
 clear h
 unfold spec_SumOf.f at H
 have H' := Aside0.mk H
 clear H
 go_enter Tryz.func133, Tryz.ntmps133
 go_wp2
 go_loopg [3, 4] k (fun kq v3 v4 w' => ∃ (x3_1 : Int) (x4_1 : Int), v3 = .int .i64 x3_1 ∧ v4 = .int .i64 x4_1 ∧ Aside0 (spec_SumOf.l0 kq a0 x3_1 x4_1 = some r) ∧ Aside0 (kq ≤ k) ∧ Drawn0 w w')
 case atStart => exact ⟨(7), (0), re_, re_, H', ⟨Nat.le_refl _⟩, dw_⟩
 case round =>
  clear H'
  obtain ⟨x3_1, x4_1, rfl, rfl, HA, HK1, ⟨m1, rfl⟩⟩ := hrel
  cases gk with
  | zero => exact absurd HA.out (by simp [spec_SumOf.l0])
  | succ k1 =>
   have H := HA.out
   clear HA
   simp only [spec_SumOf.l0] at H
   revert H
   refine if_ ?_ ?_ <;> intro c2b0 H
   ·revert H
    refine in_ ?_
    intro c3b0 H
    have H' := Aside0.mk H
    clear H
    have p4 := bt_ a0 x4_1
    go_wp2
    go_roundg k1
    case measure => have := HK1.out; omega
    case rel => exact ⟨(Int.tmod (wrap64 ((wrap64 ((wrap64 (x3_1 * 131)) + (wrap64 (bt a0 x4_1)))) + 1)) 9973), (wrap64 (x4_1 + 1)), re_, re_, H', ⟨by have := HK1.out; omega⟩, dw_⟩
   ·obtain rfl := Option.some.inj H
    go_wp2
    go_ret
    exact ⟨re_, dw_⟩
section
open Go.Proofs.YtkoeeajciciphaaGreatDoor.Base
def frameBody (t f1 f2 : ByteArray) : ByteArray := (((t ++ (⟨#[32]⟩ : ByteArray)) ++ f1) ++ (⟨#[32]⟩ : ByteArray)) ++ f2
def frameText (u b v : ByteArray) : ByteArray := ((((u ++ (⟨#[58]⟩ : ByteArray)) ++ b) ++ (⟨#[35]⟩ : ByteArray)) ++ v) ++ (⟨#[10]⟩ : ByteArray)
def spec_l27Frame.g (k : Nat) (f0 : Int) (f1 f2 : ByteArray) : Option ByteArray :=
 if f1.size ≤ 1000000000 ∧ f2.size ≤ 1000000000 then
  (spec_l01Dec.f k f0).bind fun t => if t.size ≤ 1000000000 then
   (spec_l01Dec.f k ((frameBody t f1 f2).size : Int)).bind fun u => if u.size ≤ 1000000000 then
    (spec_SumOf.f k (frameBody t f1 f2)).bind fun s => (spec_l01Dec.f k s).bind fun v => if v.size ≤ 1000000000 then some (frameText u (frameBody t f1 f2) v) else none
   else none
  else none
 else none
theorem spec_l27Frame.g_mono (a0 : Int) (a1 a2 : ByteArray) (k : Nat) : LeO (spec_l27Frame.g k a0 a1 a2) (spec_l27Frame.g (k + 1) a0 a1 a2) := by
 unfold spec_l27Frame.g
 refine LeO.ite (LeO.bind (spec_l01Dec.mono _ _) fun t => LeO.ite (LeO.bind (spec_l01Dec.mono _ _) fun u => LeO.ite (LeO.bind (spec_SumOf.mono _ _) fun s => LeO.bind (spec_l01Dec.mono _ _) fun v => LeO.refl _) (LeO.refl _)) (LeO.refl _)) (LeO.refl _)
theorem spec_l27Frame.at_ (k : Nat) (ad : Addr) (f0 : Int) (f1 f2 : ByteArray) (r : ByteArray) (w : World) (c0 : w.cell? ad = some (.int .i64 f0)) (c1 : w.cell? ⟨ad.block, ad.off + 1, none⟩ = some (.string f1)) (c2 : w.cell? ⟨ad.block, ad.off + 2, none⟩ = some (.string f2)) (h : spec_l27Frame.g k f0 f1 f2 = some r) :
  Calls Tryz.prog 119 #[.pointer (some ad)] w fun e w' => e = .returned (.string r) ∧ Below w.heap.size w w' := by
 unfold spec_l27Frame.g at h
 split at h
 case isFalse => cases h
 rename_i hb
 obtain ⟨hb1, hb2⟩ := hb
 obtain ⟨t, ht, h⟩ := Option.bind_eq_some_iff.mp h
 split at h
 case isFalse => cases h
 rename_i hb3
 obtain ⟨u, hu, h⟩ := Option.bind_eq_some_iff.mp h
 split at h
 case isFalse => cases h
 rename_i hb4
 obtain ⟨s, hs, h⟩ := Option.bind_eq_some_iff.mp h
 obtain ⟨v, hv, h⟩ := Option.bind_eq_some_iff.mp h
 split at h
 case isFalse => cases h
 rename_i hb5
 obtain rfl := Option.some.inj h
 clear h
 have hz : (frameBody t f1 f2).size = t.size + 1 + f1.size + 1 + f2.size := by unfold frameBody; simp only [ByteArray.size_append]; rfl
 have hzi : ((frameBody t f1 f2).size : Int) = (t.size : Int) + 1 + (f1.size : Int) + 1 + (f2.size : Int) := by rw [hz]; omega
 rw [hzi] at hu
 have HF := Aside0.mk (show frameText u (frameBody t f1 f2) v = frameText u (frameBody t f1 f2) v from rfl)
 have hs2 : spec_SumOf.f k ((((t ++ (⟨#[32]⟩ : ByteArray)) ++ f1) ++ (⟨#[32]⟩ : ByteArray)) ++ f2) = some s := hs
 have I1 := Aside0.mk (fun W => spec_l01Dec.calls k f0 t W ht)
 have I2 := Aside0.mk (fun W => spec_l01Dec.calls k _ u W hu)
 have I3 := Aside0.mk (fun W => spec_SumOf.calls k _ s W hs2)
 have I4 := Aside0.mk (fun W => spec_l01Dec.calls k s v W hv)
 have r1 : ¬ 9223372036854775807 < u.size + 1 := by omega
 have r2 : ¬ 9223372036854775807 < u.size + 1 + (t.size + 1 + f1.size + 1 + f2.size) := by omega
 have r3 : ¬ 9223372036854775807 < u.size + 1 + (t.size + 1 + f1.size + 1 + f2.size) + 1 := by omega
 have r4 : ¬ 9223372036854775807 < u.size + 1 + (t.size + 1 + f1.size + 1 + f2.size) + 1 + v.size := by omega
 have r5 : ¬ 9223372036854775807 < u.size + 1 + (t.size + 1 + f1.size + 1 + f2.size) + 1 + v.size + 1 := by omega
 have q1 : ¬ 9223372036854775807 < t.size + 1 := by omega
 have q2 : ¬ 9223372036854775807 < t.size + 1 + f1.size := by omega
 have q3 : ¬ 9223372036854775807 < t.size + 1 + f1.size + 1 := by omega
 have q4 : ¬ 9223372036854775807 < t.size + 1 + f1.size + 1 + f2.size := by omega
 clear ht hu hs hs2 hv hz hzi
 go_enter Tryz.func119, Tryz.ntmps119
 go_wp2
 go_region_held3 (fun w' => w'.cell? ad = some (.int .i64 f0) ∧ w'.cell? ⟨ad.block, ad.off + 1, none⟩ = some (.string f1) ∧ w'.cell? ⟨ad.block, ad.off + 2, none⟩ = some (.string f2) ∧ Below w.heap.size w w')
  (first | exact ⟨by simpa using c0, by simpa using c1, by simpa using c2, below_drew (Below.refl _ _)⟩ | go_keep | (go_split_ands; exact ⟨pw_cell_below hb' (by assumption), pw_cell_below hb' (by assumption), pw_cell_below hb' (by assumption), below_step (by assumption) hb'⟩))
  (first | (go_at_call 32; (with_reducible refine (I1.out _).mono ?_); rintro e w' ⟨rfl, hb'⟩))
 obtain ⟨-, -, -, hbw⟩ := by assumption
 have HBW := Aside0.mk hbw
 go_wp2_with (first | (go_at_call 133; (with_reducible refine (I3.out _).mono ?_); rintro e w2 ⟨rfl, ⟨⟨q, rfl⟩⟩⟩) | (go_at_call 32; (with_reducible refine (I2.out _).mono ?_); rintro e w1 ⟨rfl, hb1⟩; have HB1 := Aside0.mk hb1; clear hb1) | (go_at_call 32; (with_reducible refine (I4.out _).mono ?_); rintro e w3 ⟨rfl, hb3⟩; have HB3 := Aside0.mk hb3; clear hb3))
 go_ret
 exact ⟨rfl, below_step (pw_below_drewN (below_step HBW.out HB1.out) _) HB3.out⟩
def spec_l27Frame.f (k : Nat) (s0_0 : Int) (s0_1 : ByteArray) (s0_2 : ByteArray) : Option (ByteArray × Int × ByteArray × ByteArray) := (spec_l27Frame.g k s0_0 s0_1 s0_2).bind fun t => some (t, s0_0, s0_1, s0_2)
theorem spec_l27Frame.mono : ∀ a0 a1 a2 k, LeO (spec_l27Frame.f k a0 a1 a2) (spec_l27Frame.f (k + 1) a0 a1 a2) := fun a0 a1 a2 k => LeO.bind (spec_l27Frame.g_mono a0 a1 a2 k) (fun _ => LeO.refl _)
end
section
open Go.Proofs.YtkoeeajciciphaaGreatDoor.Base
def colonFrom (s : ByteArray) (i : Nat) : Nat := if h : i < s.size ∧ i < 4 ∧ ¬ bt s (i : Int) = 58 then colonFrom s (i + 1) else i
termination_by s.size - i
decreasing_by omega
theorem colon_go {s : ByteArray} {i : Nat} (h : i < s.size) (h4 : i < 4) (hb : ¬ bt s (i : Int) = 58) : colonFrom s i = colonFrom s (i + 1) := by rw [colonFrom, dif_pos ⟨h, h4, hb⟩]
theorem colon_stop {s : ByteArray} {i : Nat} (h : ¬ (i < s.size ∧ i < 4 ∧ ¬ bt s (i : Int) = 58)) : colonFrom s i = i := by rw [colonFrom, dif_neg h]
def noEntry : Int × ByteArray × ByteArray × Int × Bool := (0, ⟨#[]⟩, ⟨#[]⟩, 0, false)
def spec_l27Next.f (k : Nat) (a0 : ByteArray) : Option (Int × ByteArray × ByteArray × Int × Bool) :=
 if a0.size ≤ 140737488351232 then
  (spec_l01Number.f k (a0.extract 0 (colonFrom a0 0))).bind fun t =>
   if t.1 ≤ 4611686018427387904 then
    if t.2 = true ∧ 1 ≤ t.1 ∧ ((colonFrom a0 0 : Nat) : Int) + 1 + t.1 ≤ (a0.size : Int) then
     (spec_l27Body.f k (a0.extract (colonFrom a0 0 + 1) (colonFrom a0 0 + 1 + t.1.toNat))).bind fun u => if u.2.2.2 = true then
      (spec_l27Frame.g k u.1 u.2.1 u.2.2.1).bind fun r => if r.size ≤ a0.size ∧ ((a0.extract 0 r.size).toList == r.toList) = true then some (u.1, u.2.1, u.2.2.1, (r.size : Int), true) else some noEntry
     else some noEntry
    else some noEntry
   else none
 else none
theorem spec_l27Next.mono : ∀ a0 k, LeO (spec_l27Next.f k a0) (spec_l27Next.f (k + 1) a0) := fun a0 k => by
 unfold spec_l27Next.f
 exact LeO.ite (LeO.bind (spec_l01Number.mono _ _) fun t => LeO.ite (LeO.ite (LeO.bind (spec_l27Body.mono _ _) fun u => LeO.ite (LeO.bind (spec_l27Frame.g_mono _ _ _ _) fun r => LeO.refl _) (LeO.refl _)) (LeO.refl _)) (LeO.refl _)) (LeO.refl _)
theorem spec_l27Next.calls (k : Nat) (a0 : ByteArray) (r1 : Int) (r2 : ByteArray) (r3 : ByteArray) (r4 : Int) (r5 : Bool) (w : World) (h : spec_l27Next.f k a0 = some (r1, r2, r3, r4, r5)) :
  Calls Tryz.prog 99 #[.string a0] w fun e w' => e = .returned (.tuple #[.agg #[.int .i64 r1, .string r2, .string r3], .int .i64 r4, .bool r5]) ∧ Below w.heap.size w w' := by
 unfold spec_l27Next.f at h
 split at h
 case isFalse => cases h
 rename_i hsz
 replace h := Option.bind_eq_some_iff.mp h
 obtain ⟨⟨t1, t2⟩, ht, h⟩ := h
 split at h
 case isFalse => cases h
 rename_i hbig
 try simp only [] at h hbig
 have HT0 := Aside0.mk ht
 have HA := Aside0.mk h
 clear h ht
 have hu26 := Tryz.underlying132
 go_enter Tryz.func99, Tryz.ntmps99
 go_wp2_with ((with_reducible refine gd_ 2 rfl ?_); refine be_ 2 #[.int .i64 0, .string (⟨#[]⟩ : ByteArray), .string (⟨#[]⟩ : ByteArray)] 132 ?_; intro gb hg w2 hbox hb; have BK := Aside0.mk hbox; have HB := Aside0.mk hb; have GE := Aside0.mk (Nat.le_of_eq hg.symm); clear hbox hb hg)
 go_loop [5] (fun v5 => ∃ i : Nat, v5 = .int .i64 i ∧ i ≤ a0.size ∧ i ≤ 4 ∧ Aside0 (colonFrom a0 0 = colonFrom a0 i)) (fun v5 => a0.size - (intOf v5).toNat)
 case atStart => exact ⟨0, rfl, Nat.zero_le _, Nat.zero_le _, ⟨rfl⟩⟩
 case round =>
  obtain ⟨i, rfl, hi, hi4, hb⟩ := hrel
  have hx : ∀ h : i < a0.size, ((a0[i]'h).toNat : Int) = bt a0 (i : Int) := by simpa using bt_at a0 (i : Int)
  by_cases hgo : i < a0.size ∧ i < 4 ∧ ¬ bt a0 (i : Int) = 58
  ·obtain ⟨hlt, h4, h58⟩ := hgo
   have HH := Aside0.mk (colon_go hlt h4 h58)
   have p1 : (bt a0 (i : Int) == 58) = false := by simpa using h58
   have p2 : (bt a0 (i : Int) != 58) = true := by simpa using h58
   have p3 : (i : Int) < 4 := by omega
   go_wp2
   go_round
   case rel => exact ⟨i + 1, by go_num, by omega, by omega, ⟨by rw [hb.out, HH.out]⟩⟩
   case measure => simp [intOf]; omega
  ·have hst : colonFrom a0 0 = i := by rw [hb.out]; exact colon_stop hgo
   have HA1 := HA.out
   have HT1 := HT0.out
   rw [hst] at HA1 HT1
   have HT := Aside0.mk HT1
   have HA2 := Aside0.mk HA1
   clear HA1 HT1 hst hb
   have hdec : ¬ i < a0.size ∨ (i < a0.size ∧ ¬ (i : Int) < 4) ∨ (i < a0.size ∧ (i : Int) < 4 ∧ bt a0 (i : Int) = 58) := by
    by_cases hlt : i < a0.size
    ·by_cases h4 : i < 4
     ·exact .inr (.inr ⟨hlt, by omega, Decidable.not_not.mp fun g => hgo ⟨hlt, h4, g⟩⟩)
     ·exact .inr (.inl ⟨hlt, by omega⟩)
    ·exact .inl hlt
   have p4 : (i : Int) ≤ (a0.size : Int) := by omega
   clear hgo
   rcases hdec with hlt | ⟨hlt, h4⟩ | ⟨hlt, h4, h58⟩
   all_goals
    (try rw [h58] at hx)
    (try clear h58)
    by_cases hpass : t2 = true ∧ 1 ≤ t1 ∧ (i : Int) + 1 + t1 ≤ (a0.size : Int)
    ·have HA3 := HA2.out
     rw [if_pos hpass] at HA3
     obtain ⟨hp1, hp2, hp3⟩ := hpass
     try (exfalso; omega)
     all_goals
      subst hp1
      obtain ⟨m, rfl⟩ : ∃ m : Nat, t1 = (m : Int) := ⟨t1.toNat, by omega⟩
      obtain ⟨⟨u0, u1, u2, u3⟩, hu, HA4⟩ := Option.bind_eq_some_iff.mp HA3
      try simp only [Int.toNat_natCast] at HA4 hu
      have HU := Aside0.mk hu
      have HA5 := Aside0.mk HA4
      clear hu HA3 HA4 HA2
      have q1 : ¬ (m : Int) < 1 := by omega
      have q2 : ¬ (a0.size : Int) < (i : Int) + 1 + (m : Int) := by omega
      have q3 : (0 : Int) ≤ (i : Int) + 1 := by omega
      have q4 : (i : Int) + 1 ≤ (i : Int) + 1 + (m : Int) := by omega
      have q5 : ((i : Int) + 1 + (m : Int)).toNat = i + 1 + m := by omega
      go_upto_region 8 with (first | (go_at_call 117; (with_reducible refine (spec_l01Number.calls k _ _ _ _ HT.out).mono ?_); rintro e w3 ⟨rfl, hb3⟩; have HB3 := Aside0.mk (below_step HB.out hb3); have BK3 := Aside0.mk (blk_below BK.out hb3); clear hb3) | (go_at_call 118; (with_reducible refine (spec_l27Body.calls k _ u0 u1 u2 u3 _ HU.out).mono ?_); rintro e w4 ⟨rfl, hb4⟩; have HB4 := Aside0.mk (below_step HB3.out hb4); have BK4 := Aside0.mk (blk_below BK3.out hb4); clear hb4))
      have HB5 : Aside0 (Below w.heap.size w (w4.alloc (.cells #[.int .i64 u0, .string u1, .string u2] 132))) := ⟨below_alloc HB4.out _⟩
      have BK5 : Aside0 ((w4.alloc (.cells #[.int .i64 u0, .string u1, .string u2] 132)).heap[gb]? = some (.cells #[.int .i64 0, .string (⟨#[]⟩ : ByteArray), .string (⟨#[]⟩ : ByteArray)] 132 (0, 0))) := ⟨blk_alloc BK4.out _⟩
      have HI5 : Aside0 (IsS132 w (w4.alloc (.cells #[.int .i64 u0, .string u1, .string u2] 132)) w4.heap.size u0 u1 u2) := ⟨⟨blk_new w4 _, HB4.out.size⟩⟩
      obtain ⟨w5, hw5⟩ : ∃ w5, w5 = w4.alloc (.cells #[.int .i64 u0, .string u1, .string u2] 132) := ⟨_, rfl⟩
      rw [← hw5] at HB5 BK5 HI5 ⊢
      clear hw5 q1 q2 q3 q4 q5
      cases u3 with
      | false =>
       have HA6 := HA5.out
       simp only [Bool.false_eq_true, if_false, Option.some.injEq, noEntry, Prod.mk.injEq] at HA6
       obtain ⟨rfl, rfl, rfl, rfl, rfl⟩ := HA6
       (have hc0 := cellS132_0 BK5.out; have hc1 := cellS132_1 BK5.out; have hc2 := cellS132_2 BK5.out; have hf : ∀ o, w5.frozen? ⟨gb, o, none⟩ = false := (fun o => by simp [World.frozen?, BK5.out]))
       go_wp2
       refine bodyPost_ret (results_ctt rfl _ _ gb 132 #[.int .i64 0, .string (⟨#[]⟩ : ByteArray), .string (⟨#[]⟩ : ByteArray)] (0, 0) _ rfl (kbp_ BK5) Tryz.underlying132 rfl (by kernel_rfl)) rfl ?_
       exact ⟨rfl, below_set (below_set (below_set HB5.out GE.out) GE.out) GE.out⟩
      | true =>
       have HA6 := HA5.out
       simp only [if_true] at HA6
       obtain ⟨fr, hfr, HA7⟩ := Option.bind_eq_some_iff.mp HA6
       have I6 := Aside0.mk (spec_l27Frame.at_ k ⟨w4.heap.size, 0, none⟩ u0 u1 u2 fr w5 (cellS132_0 HI5.out.1) (cellS132_1 HI5.out.1) (cellS132_2 HI5.out.1) hfr)
       have HA8 := Aside0.mk HA7
       clear hfr HA6 HA7
       by_cases hfs : fr.size ≤ a0.size
       ·cases hfe : (a0.extract 0 fr.size).toList == fr.toList with
        | false =>
         have HA9 := HA8.out
         rw [if_neg (fun g => by rw [hfe] at g; exact absurd g.2 (by simp))] at HA9
         simp only [noEntry, Option.some.injEq, Prod.mk.injEq] at HA9
         obtain ⟨rfl, rfl, rfl, rfl, rfl⟩ := HA9
         have s1 : ¬ (a0.size : Int) < (fr.size : Int) := by omega
         have s2 : (fr.size : Int) ≤ (a0.size : Int) := by omega
         go_wp2_with (go_at_call 119; (with_reducible refine I6.out.mono ?_); rintro e w6 ⟨rfl, hb6⟩; have HB6 := Aside0.mk (below_step HB5.out hb6); have BK6 := Aside0.mk (blk_below BK5.out hb6); have HI6 := Aside0.mk (HI5.out.below hb6); clear hb6; have hc0 := cellS132_0 BK6.out; have hc1 := cellS132_1 BK6.out; have hc2 := cellS132_2 BK6.out; have hf : ∀ o, w6.frozen? ⟨gb, o, none⟩ = false := (fun o => by simp [World.frozen?, BK6.out]))
         refine bodyPost_ret (results_ctt rfl _ _ gb 132 #[.int .i64 0, .string (⟨#[]⟩ : ByteArray), .string (⟨#[]⟩ : ByteArray)] (0, 0) _ rfl (kbp_ BK6) Tryz.underlying132 rfl (by kernel_rfl)) rfl ?_
         exact ⟨rfl, below_set (below_set (below_set HB6.out GE.out) GE.out) GE.out⟩
        | true =>
         have HA9 := HA8.out
         rw [if_pos ⟨hfs, hfe⟩] at HA9
         simp only [Option.some.injEq, Prod.mk.injEq] at HA9
         obtain ⟨rfl, rfl, rfl, rfl, rfl⟩ := HA9
         have s1 : ¬ (a0.size : Int) < (fr.size : Int) := by omega
         have s2 : (fr.size : Int) ≤ (a0.size : Int) := by omega
         go_wp2_with (go_at_call 119; (with_reducible refine I6.out.mono ?_); rintro e w6 ⟨rfl, hb6⟩; have HB6 := Aside0.mk (below_step HB5.out hb6); have BK6 := Aside0.mk (blk_below BK5.out hb6); have HI6 := Aside0.mk (HI5.out.below hb6); clear hb6; have hc0 := cellS132_0 BK6.out; have hc1 := cellS132_1 BK6.out; have hc2 := cellS132_2 BK6.out; have hf : ∀ o, w6.frozen? ⟨gb, o, none⟩ = false := (fun o => by simp [World.frozen?, BK6.out]); have hd0 := cellS132_0 HI6.out.1; have hd1 := cellS132_1 HI6.out.1; have hd2 := cellS132_2 HI6.out.1)
         refine bodyPost_ret (results_ctt rfl _ _ gb 132 #[.int .i64 u0, .string u1, .string u2] (0, 0) _ rfl (kbp_ BK6) Tryz.underlying132 rfl (by kernel_rfl)) rfl ?_
         exact ⟨rfl, below_set (below_set (below_set HB6.out GE.out) GE.out) GE.out⟩
       ·have HA9 := HA8.out
        rw [if_neg (fun g => hfs g.1)] at HA9
        simp only [noEntry, Option.some.injEq, Prod.mk.injEq] at HA9
        obtain ⟨rfl, rfl, rfl, rfl, rfl⟩ := HA9
        have s1 : (a0.size : Int) < (fr.size : Int) := by omega
        go_wp2_with (go_at_call 119; (with_reducible refine I6.out.mono ?_); rintro e w6 ⟨rfl, hb6⟩; have HB6 := Aside0.mk (below_step HB5.out hb6); have BK6 := Aside0.mk (blk_below BK5.out hb6); have HI6 := Aside0.mk (HI5.out.below hb6); clear hb6; have hc0 := cellS132_0 BK6.out; have hc1 := cellS132_1 BK6.out; have hc2 := cellS132_2 BK6.out; have hf : ∀ o, w6.frozen? ⟨gb, o, none⟩ = false := (fun o => by simp [World.frozen?, BK6.out]))
        refine bodyPost_ret (results_ctt rfl _ _ gb 132 #[.int .i64 0, .string (⟨#[]⟩ : ByteArray), .string (⟨#[]⟩ : ByteArray)] (0, 0) _ rfl (kbp_ BK6) Tryz.underlying132 rfl (by kernel_rfl)) rfl ?_
        exact ⟨rfl, below_set (below_set (below_set HB6.out GE.out) GE.out) GE.out⟩
    ·have HA3 := HA2.out
     rw [if_neg hpass] at HA3
     simp only [noEntry, Option.some.injEq, Prod.mk.injEq] at HA3
     obtain ⟨rfl, rfl, rfl, rfl, rfl⟩ := HA3
     cases t2 with
     | false =>
      go_wp2_with (go_at_call 117; (with_reducible refine (spec_l01Number.calls k _ _ _ _ HT.out).mono ?_); rintro e w3 ⟨rfl, hb3⟩; have HB3 := Aside0.mk (below_step HB.out hb3); have BK3 := Aside0.mk (blk_below BK.out hb3); clear hb3; have hc0 := cellS132_0 BK3.out; have hc1 := cellS132_1 BK3.out; have hc2 := cellS132_2 BK3.out; have hf : ∀ o, w3.frozen? ⟨gb, o, none⟩ = false := (fun o => by simp [World.frozen?, BK3.out]))
      refine bodyPost_ret (results_ctt rfl _ _ gb 132 #[.int .i64 0, .string (⟨#[]⟩ : ByteArray), .string (⟨#[]⟩ : ByteArray)] (0, 0) _ rfl (kbp_ BK3) Tryz.underlying132 rfl (by kernel_rfl)) rfl ?_
      exact ⟨rfl, below_set (below_set (below_set HB3.out GE.out) GE.out) GE.out⟩
     | true =>
      by_cases hn1 : t1 < 1
      ·go_wp2_with (go_at_call 117; (with_reducible refine (spec_l01Number.calls k _ _ _ _ HT.out).mono ?_); rintro e w3 ⟨rfl, hb3⟩; have HB3 := Aside0.mk (below_step HB.out hb3); have BK3 := Aside0.mk (blk_below BK.out hb3); clear hb3; have hc0 := cellS132_0 BK3.out; have hc1 := cellS132_1 BK3.out; have hc2 := cellS132_2 BK3.out; have hf : ∀ o, w3.frozen? ⟨gb, o, none⟩ = false := (fun o => by simp [World.frozen?, BK3.out]))
       refine bodyPost_ret (results_ctt rfl _ _ gb 132 #[.int .i64 0, .string (⟨#[]⟩ : ByteArray), .string (⟨#[]⟩ : ByteArray)] (0, 0) _ rfl (kbp_ BK3) Tryz.underlying132 rfl (by kernel_rfl)) rfl ?_
       exact ⟨rfl, below_set (below_set (below_set HB3.out GE.out) GE.out) GE.out⟩
      ·have q2 : (a0.size : Int) < (i : Int) + 1 + t1 := by
        rcases Int.lt_or_le (a0.size : Int) ((i : Int) + 1 + t1) with g | g
        ·exact g
        ·exact absurd ⟨rfl, by omega, g⟩ hpass
       go_wp2_with (go_at_call 117; (with_reducible refine (spec_l01Number.calls k _ _ _ _ HT.out).mono ?_); rintro e w3 ⟨rfl, hb3⟩; have HB3 := Aside0.mk (below_step HB.out hb3); have BK3 := Aside0.mk (blk_below BK.out hb3); clear hb3; have hc0 := cellS132_0 BK3.out; have hc1 := cellS132_1 BK3.out; have hc2 := cellS132_2 BK3.out; have hf : ∀ o, w3.frozen? ⟨gb, o, none⟩ = false := (fun o => by simp [World.frozen?, BK3.out]))
       refine bodyPost_ret (results_ctt rfl _ _ gb 132 #[.int .i64 0, .string (⟨#[]⟩ : ByteArray), .string (⟨#[]⟩ : ByteArray)] (0, 0) _ rfl (kbp_ BK3) Tryz.underlying132 rfl (by kernel_rfl)) rfl ?_
       exact ⟨rfl, below_set (below_set (below_set HB3.out GE.out) GE.out) GE.out⟩
end
def spec_l27Read.l0 : Nat → ByteArray → List (S132) → Int → Option ((List (S132)) × Int)
 | 0, _, _, _ => none
 | k + 1, x0, x4, x5 => if 0 ≤ x5 then (if x5 ≤ (x0.size : Int) then ((spec_l27Next.f k (x0.extract (x5 : Int).toNat x0.size)).bind fun bt279 => (if bt279.2.2.2.2 = true then (if x4.length < 3518437208883 then (spec_l27Read.l0 k x0 (x4 ++ [(⟨bt279.1, bt279.2.1, bt279.2.2.1⟩ : S132)]) (wrap64 (x5 + bt279.2.2.2.1))) else (none)) else (some (x4, x5)))) else (none)) else (none)
def spec_l27Read.f (k : Nat) (a0 : ByteArray) : Option ((List (S132)) × Int) := spec_l27Read.l0 k a0 (([] : List (S132))) 0
theorem spec_l27Read.mono_l : ∀ k, (∀ y0 y1 y2, LeO (spec_l27Read.l0 k y0 y1 y2) (spec_l27Read.l0 (k + 1) y0 y1 y2))
 | 0 => fun _ _ _ r h => by simp [spec_l27Read.l0] at h
 | k + 1 => by
  have ih0 := spec_l27Read.mono_l k
  ·intro y0 y1 y2
   unfold spec_l27Read.l0
   have m0 := @spec_l27Next.mono
   exact mo_
theorem spec_l27Read.mono : ∀ a0 k, LeO (spec_l27Read.f k a0) (spec_l27Read.f (k + 1) a0) := by
 intro a0 k
 have ih0 := spec_l27Read.mono_l k
 unfold spec_l27Read.f
 have m0 := @spec_l27Next.mono
 exact mo_
theorem spec_l27Read.calls (k : Nat) (a0 : ByteArray) (r1 : List (S132)) (r2 : Int) (w : World) (h : spec_l27Read.f k a0 = some (r1, r2)) :
  Calls Tryz.prog 70 #[.string a0] w fun e w' => ∃ v0_ : Value, e = .returned (.tuple #[v0_, .int .i64 r2]) ∧ Kd.R k132 132 w' w.heap.size (fun _ => True) v0_ r1 ∧ Below w.heap.size w w' := by
 have hu132 := Tryz.underlying132
 have HB := Aside0.mk (Below.refl w.heap.size w)
 have H := h
 clear h
 unfold spec_l27Read.f at H
 obtain ⟨y276, hy276⟩ : ∃ y_ : List (S132), y_ = (([] : List (S132))) := ⟨_, rfl⟩
 replace H : (spec_l27Read.l0 k a0 y276 0) = some (r1, r2) := by first | (rw [hy276]; with_reducible exact H) | (have H2_ := (Option.bind_some _ _).symm.trans H; rw [hy276]; with_reducible exact H2_) | (have H2_ := (Option.bind_some _ _).symm.trans H; with_reducible exact H2_) | with_reducible exact H | (rw [hy276]; exact H) | exact H
 have Ny276 := Aside0.mk hy276
 clear hy276
 have H' := Aside0.mk H
 clear H
 go_enter Tryz.func70, Tryz.ntmps70
 go_wp2_with (first | ((with_reducible refine gd_ 9 rfl ?_); refine Kd.R_lit k132 _ 132 ?hg (N := 9) ?hd (xs := ([] : List (S132))) (inner := []) (ok := fun _ => True) (okp := fun _ => True) ?hr ?hp (fun _ hk => hk) trivial (Below.refl _ _) (Nat.le_refl _) (by simp) ?_; (case hd => rfl); (case hg => rfl); (case hr => first | (go_simp; done) | (go_simp; rfl)); (case hp => exact (Reps.none _ _)); intro v277 w2 ho3 hb hg_ hnew_; clear hg_ hnew_; (first | rw [← Ny276.out] at ho3 | (simp only [Int.reduceToNat] at ho3; rw [← Ny276.out] at ho3)); have HO278 := kl_ ho3; replace HB := bst_ hb; clear hb ho3))
 go_loopg [4, 5] k (fun kq v4 v5 w' => ∃ (x4_1 : List (S132)) (x5_1 : Int), v5 = .int .i64 x5_1 ∧ Aside0 (spec_l27Read.l0 kq a0 x4_1 x5_1 = some (r1, r2)) ∧ Aside0 (kq ≤ k) ∧ Aside0 (Kd.R k132 132 w' w.heap.size (fun _ => True) v4 x4_1) ∧ Aside0 (Below w.heap.size w w'))
 case atStart => exact ⟨(y276), (0), re_, H', ⟨Nat.le_refl _⟩, ⟨ks_ HO278⟩, ⟨bwl_⟩⟩
 case round =>
  clear H'
  obtain ⟨x4_1, x5_1, rfl, HA, HK1, HO_4, HB⟩ := hrel
  cases gk with
  | zero => exact absurd HA.out (by simp [spec_l27Read.l0])
  | succ k1 =>
   have H := HA.out
   clear HA
   simp only [spec_l27Read.l0] at H
   by_cases c4 : 0 ≤ x5_1
   ·rw [if_pos c4] at H
    have c4b0 := eq_true c4
    have c4b1 : decide (0 ≤ x5_1) = true := decide_eq_true c4
    clear c4
    by_cases c5 : x5_1 ≤ (a0.size : Int)
    ·rw [if_pos c5] at H
     have c5b0 := eq_true c5
     have c5b1 : decide (x5_1 ≤ (a0.size : Int)) = true := decide_eq_true c5
     clear c5
     revert H
     refine bn_ ?_
     rintro ⟨t279, t280, t281, t282, t283⟩ A6 H
     revert H
     refine ib_ ?_ ?_ <;> rintro rfl H
     ·by_cases c8 : x4_1.length < 3518437208883
      ·rw [if_pos c8] at H
       have LMc8 := Aside0.mk c8
       clear c8
       obtain ⟨y285, hy285⟩ : ∃ y_ : List (S132), y_ = (x4_1 ++ [(⟨t279, t280, t281⟩ : S132)]) := ⟨_, rfl⟩
       replace H : (spec_l27Read.l0 k1 a0 y285 (wrap64 (x5_1 + t282))) = some (r1, r2) := by first | (rw [hy285]; with_reducible exact H) | (have H2_ := (Option.bind_some _ _).symm.trans H; rw [hy285]; with_reducible exact H2_) | (have H2_ := (Option.bind_some _ _).symm.trans H; with_reducible exact H2_) | with_reducible exact H | (rw [hy285]; exact H) | exact H
       have Ny285 := Aside0.mk hy285
       clear hy285
       have H' := Aside0.mk H
       clear H
       go_wp2_with (first | ((with_reducible refine gc_ 99 rfl ?_); refine cl_ Tryz.func99 (spec_l27Next.calls _ _ _ _ _ _ _ _ A6.out) ?_; intro w9 hb; replace HO_4 := kr_ HO_4 hb; replace HB := bst_ hb; clear hb) | ((with_reducible refine gd_ 6 rfl ?_); refine be_ 6 #[.int .i64 0, .string (⟨#[]⟩ : ByteArray), .string (⟨#[]⟩ : ByteArray)] 132 ?_; intro gb284 hg w10 hbox hb; replace HO_4 := Aside0.mk (Kd.R_below (Kd.R_elderB (ks_ HO_4) gb284 (Nat.le_of_eq hg.symm)) hb); have BK284 := Aside0.mk (hbox); have GW284 := bsz_ hg; have GE284 := bsz_ hg; replace HB := bst_ hb; clear hb hbox hg; have hcz11_0 := c3_ BK284) | ((with_reducible refine gate_builtin (b := .append) (xs := #[.tmp 22, .tmp 24]) rfl ?_); at_builtin; refine Kd.R_append k132 (w0 := w) w.heap.size rfl (.tmp 22) (.tmp 24) 70 132 (.agg #[(.int .i64 0), (.string ⟨#[]⟩), (.string ⟨#[]⟩)]) 40 rfl Tryz.underlying70 info132 rfl (by decide) (by omega) u4 x4_1 (⟨t279, t280, t281⟩ : S132) [.int .i64 t279, .string t280, .string t281] (fun k_ => k_ ≠ gb284) (fun _ => False) rfl (by first | (go_simp; done) | (go_simp; rfl)) ?aP (fun _ hk => hk.elim) ?aF ?aO ?aB ?aS ?aL ?_; (case aP => exact k132_mkM _ _ _ (⟨t279, t280, t281⟩ : S132)); (case aB => exact bwl_); (case aF => exact (fun k_ hk => Kd.freshB (g := gb284) (o := .cells #[.int .i64 t279, .string t280, .string t281] 132 (0, 0)) (kbp_ BK284) k_ hk)); (case aO => exact (by (with_reducible repeat (first | apply Kd.R_alloc | apply Kd.R_drewN | apply Kd.R_drew)); exact Kd.R_mono (Kd.R_far (p := ⟨gb284, 2, none⟩) (Kd.R_far (p := ⟨gb284, 1, none⟩) (Kd.R_far (p := ⟨gb284, 0, none⟩) (Kd.R_mono HO_4.out (fun k_ hk => (⟨hk, hk.2⟩ : _ ∧ k_ ≠ gb284))) (fun _ hk => hk.2) (.int .i64 t279)) (fun _ hk => hk.2) (.string t280)) (fun _ hk => hk.2) (.string t281)) (fun _ hk => hk.1.2))); (case aS => exact (below_size bwl_)); (case aL => have := LMc8.out; omega); intro v286 w12 ho hb hg hat; rw [← Ny285.out] at ho; replace BK284 := Aside0.mk (blk_grown (g := gb284) (o := .cells #[.int .i64 t279, .string t280, .string t281] 132 (0, 0)) (kbp_ BK284) hg (Kd.R_away HO_4.out (fun _ hk => hk.2))); replace HB := Aside0.mk (hb); have HO287 := Aside0.mk (ho); clear HO_4; clear ho hb hg hat))
       go_roundg k1
       case measure => have := HK1.out; omega
       case rel => exact ⟨(y285), (wrap64 (x5_1 + t282)), re_, H', ⟨by have := HK1.out; omega⟩, ⟨by (with_reducible repeat (first | apply Kd.R_alloc | apply Kd.R_drewN | apply Kd.R_drew)); exact Kd.R_mono HO287.out (fun _ hk => trivial)⟩, ⟨bwl_⟩⟩
      ·rw [if_neg c8] at H
       exact absurd H (by simp)
     ·simp only [Option.some.injEq, Prod.mk.injEq] at H
      obtain ⟨rfl, rfl⟩ := H
      go_wp2_with (first | ((with_reducible refine gc_ 99 rfl ?_); refine cl_ Tryz.func99 (spec_l27Next.calls _ _ _ _ _ _ _ _ A6.out) ?_; intro w13 hb; replace HO_4 := kr_ HO_4 hb; replace HB := bst_ hb; clear hb) | ((with_reducible refine gd_ 6 rfl ?_); refine be_ 6 #[.int .i64 0, .string (⟨#[]⟩ : ByteArray), .string (⟨#[]⟩ : ByteArray)] 132 ?_; intro gb284 hg w14 hbox hb; replace HO_4 := Aside0.mk (Kd.R_below (Kd.R_elderB (ks_ HO_4) gb284 (Nat.le_of_eq hg.symm)) hb); have BK284 := Aside0.mk (hbox); have GW284 := bsz_ hg; have GE284 := bsz_ hg; replace HB := bst_ hb; clear hb hbox hg; have hcz15_0 := c3_ BK284))
      go_ret2
      exact ⟨_, rr_, kt_ HO_4, bwl_⟩
    ·rw [if_neg c5] at H
     exact absurd H (by simp)
   ·rw [if_neg c4] at H
    exact absurd H (by simp)
def IsS39 (w0 W : World) (g : Nat) (f0 : ByteArray) (f1 : ByteArray) : Prop := W.heap[g]? = some (.cells #[.string f0, .string f1] 39 (0, 0)) ∧ w0.heap.size ≤ g
theorem IsS39.grown {w0 W : World} {g : Nat} {f0 : ByteArray} {f1 : ByteArray} {W1 : World} {row : Option Nat} (h : IsS39 w0 W g f0 f1) (hw : W.grownBy W1 row) (hne : some g ≠ row) : IsS39 w0 W1 g f0 f1 := by
 obtain ⟨hb, hg⟩ := h
 exact ⟨blk_grown hb hw hne, hg⟩
theorem IsS39.kept {w0 W : World} {g : Nat} {f0 : ByteArray} {f1 : ByteArray} {W1 : World} {S : Nat → Prop} (h : IsS39 w0 W g f0 f1) (hk : Kept W W1 S) (hne : ¬ S g) : IsS39 w0 W1 g f0 f1 := by
 obtain ⟨hb, hg⟩ := h
 exact ⟨blk_kept hb hk hne, hg⟩
theorem IsS39.below {w0 W : World} {g : Nat} {f0 : ByteArray} {f1 : ByteArray} {W1 : World} (h : IsS39 w0 W g f0 f1) (hw : Below W.heap.size W W1) : IsS39 w0 W1 g f0 f1 := h.grown (grown_of_below hw none) (by simp)
theorem IsS39.alloc {w0 W : World} {g : Nat} {f0 : ByteArray} {f1 : ByteArray} (h : IsS39 w0 W g f0 f1) (o : Obj) : IsS39 w0 (W.alloc o) g f0 f1 := h.below (below_alloc (Below.refl _ _) o)
theorem IsS39.drewN {w0 W : World} {g : Nat} {f0 : ByteArray} {f1 : ByteArray} (h : IsS39 w0 W g f0 f1) (m : Nat) : IsS39 w0 (W.drewN m) g f0 f1 := h
theorem IsS39.drew {w0 W : World} {g : Nat} {f0 : ByteArray} {f1 : ByteArray} (h : IsS39 w0 W g f0 f1) : IsS39 w0 W.drew g f0 f1 := h
theorem IsS39.at_ {w0 W : World} {g : Nat} {f0 : ByteArray} {f1 : ByteArray} {w' : World} {m : Nat} (hq : W.drewN m = w') (h : IsS39 w0 W g f0 f1) : IsS39 w0 w' g f0 f1 := by subst hq; exact IsS39.drewN h m
theorem IsS39.apart {w0 W : World} {g : Nat} {f0 : ByteArray} {f1 : ByteArray} {α : Type} {d : Kd α} {e : Nat} {base : Nat} {ok : Nat → Prop} {v : Value} {xs : List α} (h : IsS39 w0 W g f0 f1) (ho : d.R e W base ok v xs) (ht : ∀ q, q ∈ e :: d.E → q ≠ 39) : d.R e W base (fun k => ok k ∧ k ≠ g) v xs := by
 obtain ⟨hb, hg⟩ := h
 exact Kd.R_types ho hb ht
theorem IsS39.own_ne {w0 W : World} {g : Nat} {f0 : ByteArray} {f1 : ByteArray} {α : Type} {d : Kd α} {e : Nat} {base : Nat} {ok : Nat → Prop} {v : Value} {xs : List α} (h : IsS39 w0 W g f0 f1) (ho : d.R e W base ok v xs) (ht : e ≠ 39) : some g ≠ v.ownBlock := by
 obtain ⟨hb, hg⟩ := h
 exact Kd.R_ne ho hb ht
theorem IsS39.ge {w0 W : World} {g : Nat} {f0 : ByteArray} {f1 : ByteArray} (h : IsS39 w0 W g f0 f1) : w0.heap.size ≤ g := by
 obtain ⟨hb, hg⟩ := h
 exact hg
theorem IsS39.far {w0 W : World} {g : Nat} {f0 : ByteArray} {f1 : ByteArray} {p : Addr} (h : IsS39 w0 W g f0 f1) (hne : g ≠ p.block) (u : Value) : IsS39 w0 (W.setCell p u) g f0 f1 := by
 obtain ⟨hb, hg⟩ := h
 exact ⟨blk_far hb hne u, hg⟩
theorem cellS39_0 {W : World} {g : Nat} {f0 : ByteArray} {f1 : ByteArray} (h : W.heap[g]? = some (.cells #[.string f0, .string f1] 39 (0, 0))) : W.cell? ⟨g, 0, none⟩ = some (.string f0) := (blk_cell h 0).trans rfl
theorem IsS39.set_0 {w0 W : World} {g : Nat} {f0 : ByteArray} {f1 : ByteArray} (h : IsS39 w0 W g f0 f1) (x : ByteArray) : IsS39 w0 (W.setCell ⟨g, 0, none⟩ (.string x)) g x f1 := by
 obtain ⟨hb, hg⟩ := h
 exact ⟨by simpa using blk_set hb 0 (.string x), hg⟩
theorem cellS39_1 {W : World} {g : Nat} {f0 : ByteArray} {f1 : ByteArray} (h : W.heap[g]? = some (.cells #[.string f0, .string f1] 39 (0, 0))) : W.cell? ⟨g, 1, none⟩ = some (.string f1) := (blk_cell h 1).trans rfl
theorem IsS39.set_1 {w0 W : World} {g : Nat} {f0 : ByteArray} {f1 : ByteArray} (h : IsS39 w0 W g f0 f1) (x : ByteArray) : IsS39 w0 (W.setCell ⟨g, 1, none⟩ (.string x)) g f0 x := by
 obtain ⟨hb, hg⟩ := h
 exact ⟨by simpa using blk_set hb 1 (.string x), hg⟩
theorem isk39_x8 {P Q : Prop} (h : Aside0 P) (k : P → Q := by (intro h; repeat (first | (with_reducible first | exact h | apply IsS39.alloc | apply IsS39.drew | apply IsS39.drewN | apply IsS39.set_0 | apply IsS39.set_1 | refine IsS39.far ?_ (Aside0.out (by assumption)) _) | exact h))) : Q := k h.out
theorem bwi39_x8 {w W : World} (h : Below w.heap.size w W := by repeat (first | (with_reducible first | exact HB.out | apply below_alloc | apply pw_below_drewN | apply below_drew1 | refine below_set ?_ (Aside0.out (by assumption)) | refine below_set ?_ (IsS39.ge (Aside0.out (by assumption)))) | exact HB.out)) : Below w.heap.size w W := h
def spec_l27Ok.f (k : Nat) (s0_0 : ByteArray) (s0_1 : ByteArray) : Option (Bool × ByteArray × ByteArray) := (spec_l27Read.f k s0_1).bind fun bt288 => (if bt288.2 = (s0_1.size : Int) then (some (decide ((wrap64 ((s0_0.size : Int) + (s0_1.size : Int))) ≤ 4000), s0_0, s0_1)) else (some (false, s0_0, s0_1)))
theorem spec_l27Ok.mono : ∀ a0 a1 k, LeO (spec_l27Ok.f k a0 a1) (spec_l27Ok.f (k + 1) a0 a1) := by
 intro a0 a1 k
 unfold spec_l27Ok.f
 have m0 := @spec_l27Read.mono
 exact mo_
theorem spec_l27Ok.calls (k : Nat) (g : Nat) (s0_0 : ByteArray) (s0_1 : ByteArray) (r1 : Bool) (r2 : ByteArray) (r3 : ByteArray) (w0 w : World) (hI : IsS39 w0 w g s0_0 s0_1) (hB : Below w0.heap.size w0 w) (h : spec_l27Ok.f k s0_0 s0_1 = some (r1, r2, r3)) :
  Calls Tryz.prog 69 #[.pointer (some ⟨g, 0, none⟩)] w fun e w' => e = .returned (.bool r1) ∧ IsS39 w0 w' g r2 r3 ∧ Below w0.heap.size w0 w' ∧ KeepBut w w' g none := by
 have HI0 := Aside0.mk hI
 have HK := Aside0.mk (KeepBut.refl w g none)
 have HL := Aside0.mk hB.size
 clear hI
 have HW0 := Aside0.mk hB.size
 have HB := Aside0.mk hB
 clear hB
 have H := h
 clear h
 unfold spec_l27Ok.f at H
 revert H
 refine bn_ ?_
 rintro ⟨t288, t289⟩ A2 H
 by_cases c3 : t289 = (s0_1.size : Int)
 ·rw [if_pos c3] at H
  have c3b0 : (t289 == (s0_1.size : Int)) = true := beq_iff_eq.mpr c3
  have c3b1 : (t289 != (s0_1.size : Int)) = false := bne_eq_false_iff_eq.mpr c3
  clear c3
  simp only [Option.some.injEq, Prod.mk.injEq] at H
  obtain ⟨rfl, rfl, rfl⟩ := H
  obtain ⟨HGz4, hgz4⟩ := HI0.out
  have hcz4_0 := cellS39_0 HGz4
  have hcz4_1 := cellS39_1 HGz4
  have hfz4_0 := blk_frozen HGz4 0
  have hfz4_1 := blk_frozen HGz4 1
  clear HGz4 hgz4
  go_enter Tryz.func69, Tryz.ntmps69
  go_wp2_with (first | (go_at_call 70; (with_reducible refine (spec_l27Read.calls _ _ _ _ _ A2.out).mono ?_); rintro e w5 ⟨v290, rfl, ho0, hb⟩; have HO291 := Aside0.mk (Kd.R_lower ho0 (keep_size (w := w) (g := g) (row := none) (kbl_ HK))); replace HK := Aside0.mk (KeepBut.trans (kbl_ HK) (KeepBut.of_below hb g none) (.inl rfl)); replace HB := Aside0.mk (below_step bwi39_x8 hb); replace HI0 := Aside0.mk (IsS39.below (isk39_x8 HI0) hb); clear hb ho0; obtain ⟨HGz6, hgz6⟩ := HI0.out; have hcz6_0 := cellS39_0 HGz6; have hcz6_1 := cellS39_1 HGz6; have hfz6_0 := blk_frozen HGz6 0; have hfz6_1 := blk_frozen HGz6 1; clear HGz6 hgz6))
  repeat (go_quiet (first | (go_at_call 70; (with_reducible refine (spec_l27Read.calls _ _ _ _ _ A2.out).mono ?_); rintro e w5 ⟨v290, rfl, ho0, hb⟩; have HO291 := Aside0.mk (Kd.R_lower ho0 (keep_size (w := w) (g := g) (row := none) (kbl_ HK))); replace HK := Aside0.mk (KeepBut.trans (kbl_ HK) (KeepBut.of_below hb g none) (.inl rfl)); replace HB := Aside0.mk (below_step bwi39_x8 hb); replace HI0 := Aside0.mk (IsS39.below (isk39_x8 HI0) hb); clear hb ho0; obtain ⟨HGz6, hgz6⟩ := HI0.out; have hcz6_0 := cellS39_0 HGz6; have hcz6_1 := cellS39_1 HGz6; have hfz6_0 := blk_frozen HGz6 0; have hfz6_1 := blk_frozen HGz6 1; clear HGz6 hgz6)); try go_wp2_with (first | (go_at_call 70; (with_reducible refine (spec_l27Read.calls _ _ _ _ _ A2.out).mono ?_); rintro e w5 ⟨v290, rfl, ho0, hb⟩; have HO291 := Aside0.mk (Kd.R_lower ho0 (keep_size (w := w) (g := g) (row := none) (kbl_ HK))); replace HK := Aside0.mk (KeepBut.trans (kbl_ HK) (KeepBut.of_below hb g none) (.inl rfl)); replace HB := Aside0.mk (below_step bwi39_x8 hb); replace HI0 := Aside0.mk (IsS39.below (isk39_x8 HI0) hb); clear hb ho0; obtain ⟨HGz6, hgz6⟩ := HI0.out; have hcz6_0 := cellS39_0 HGz6; have hcz6_1 := cellS39_1 HGz6; have hfz6_0 := blk_frozen HGz6 0; have hfz6_1 := blk_frozen HGz6 1; clear HGz6 hgz6)))
  go_ret
  exact ⟨rr_, isk39_x8 HI0, bwi39_x8, kbl_ HK⟩
 ·rw [if_neg c3] at H
  have c3b0 : (t289 == (s0_1.size : Int)) = false := beq_eq_false_iff_ne.mpr c3
  have c3b1 : (t289 != (s0_1.size : Int)) = true := bne_iff_ne.mpr c3
  simp only [Option.some.injEq, Prod.mk.injEq] at H
  obtain ⟨rfl, rfl, rfl⟩ := H
  obtain ⟨HGz7, hgz7⟩ := HI0.out
  have hcz7_0 := cellS39_0 HGz7
  have hcz7_1 := cellS39_1 HGz7
  have hfz7_0 := blk_frozen HGz7 0
  have hfz7_1 := blk_frozen HGz7 1
  clear HGz7 hgz7
  go_enter Tryz.func69, Tryz.ntmps69
  go_wp2_with (first | (go_at_call 70; (with_reducible refine (spec_l27Read.calls _ _ _ _ _ A2.out).mono ?_); rintro e w8 ⟨v290, rfl, ho0, hb⟩; have HO291 := Aside0.mk (Kd.R_lower ho0 (keep_size (w := w) (g := g) (row := none) (kbl_ HK))); replace HK := Aside0.mk (KeepBut.trans (kbl_ HK) (KeepBut.of_below hb g none) (.inl rfl)); replace HB := Aside0.mk (below_step bwi39_x8 hb); replace HI0 := Aside0.mk (IsS39.below (isk39_x8 HI0) hb); clear hb ho0; obtain ⟨HGz9, hgz9⟩ := HI0.out; have hcz9_0 := cellS39_0 HGz9; have hcz9_1 := cellS39_1 HGz9; have hfz9_0 := blk_frozen HGz9 0; have hfz9_1 := blk_frozen HGz9 1; clear HGz9 hgz9))
  repeat (go_quiet (first | (go_at_call 70; (with_reducible refine (spec_l27Read.calls _ _ _ _ _ A2.out).mono ?_); rintro e w8 ⟨v290, rfl, ho0, hb⟩; have HO291 := Aside0.mk (Kd.R_lower ho0 (keep_size (w := w) (g := g) (row := none) (kbl_ HK))); replace HK := Aside0.mk (KeepBut.trans (kbl_ HK) (KeepBut.of_below hb g none) (.inl rfl)); replace HB := Aside0.mk (below_step bwi39_x8 hb); replace HI0 := Aside0.mk (IsS39.below (isk39_x8 HI0) hb); clear hb ho0; obtain ⟨HGz9, hgz9⟩ := HI0.out; have hcz9_0 := cellS39_0 HGz9; have hcz9_1 := cellS39_1 HGz9; have hfz9_0 := blk_frozen HGz9 0; have hfz9_1 := blk_frozen HGz9 1; clear HGz9 hgz9)); try go_wp2_with (first | (go_at_call 70; (with_reducible refine (spec_l27Read.calls _ _ _ _ _ A2.out).mono ?_); rintro e w8 ⟨v290, rfl, ho0, hb⟩; have HO291 := Aside0.mk (Kd.R_lower ho0 (keep_size (w := w) (g := g) (row := none) (kbl_ HK))); replace HK := Aside0.mk (KeepBut.trans (kbl_ HK) (KeepBut.of_below hb g none) (.inl rfl)); replace HB := Aside0.mk (below_step bwi39_x8 hb); replace HI0 := Aside0.mk (IsS39.below (isk39_x8 HI0) hb); clear hb ho0; obtain ⟨HGz9, hgz9⟩ := HI0.out; have hcz9_0 := cellS39_0 HGz9; have hcz9_1 := cellS39_1 HGz9; have hfz9_0 := blk_frozen HGz9 0; have hfz9_1 := blk_frozen HGz9 1; clear HGz9 hgz9)))
  go_ret
  exact ⟨rr_, isk39_x8 HI0, bwi39_x8, kbl_ HK⟩
def spec_l27All.f (k : Nat) (s0_0 : ByteArray) (s0_1 : ByteArray) : Option ((List (S132)) × Int × ByteArray × ByteArray) := (spec_l27Ok.f k s0_0 s0_1).bind fun bt292 => (if bt292.1 = true then ((spec_l27Read.f k bt292.2.1).bind fun bt295 => (if bt295.2 < (bt292.2.1.size : Int) then (some (([] : List (S132)), 6, bt292.2.1, bt292.2.2)) else ((spec_l27Read.f k bt292.2.2).bind fun bt299 => (if bt295.1.length + bt299.1.length < 3518437208883 then (some ((bt295.1 ++ bt299.1), 0, bt292.2.1, bt292.2.2)) else (none))))) else (some (([] : List (S132)), 1, bt292.2.1, bt292.2.2)))
theorem spec_l27All.mono : ∀ a0 a1 k, LeO (spec_l27All.f k a0 a1) (spec_l27All.f (k + 1) a0 a1) := by
 intro a0 a1 k
 unfold spec_l27All.f
 have m0 := @spec_l27Ok.mono
 have m1 := @spec_l27Read.mono
 exact mo_
def spec_l28Whole.f (k : Nat) (s0_0 : ByteArray) (s0_1 : ByteArray) : Option (Bool × ByteArray × ByteArray) := (spec_l27All.f k s0_0 s0_1).bind fun bt306 => (some ((bt306.2.1 == 0), bt306.2.2.1, bt306.2.2.2))
theorem spec_l28Whole.mono : ∀ a0 a1 k, LeO (spec_l28Whole.f k a0 a1) (spec_l28Whole.f (k + 1) a0 a1) := by
 intro a0 a1 k
 unfold spec_l28Whole.f
 have m0 := @spec_l27All.mono
 exact mo_
section
open Go.Proofs.YtkoeeajciciphaaGreatDoor.Base
theorem power_in (a c : Int) (b : Bool) (h : b = decide (0 ≤ a ∧ a ≤ c)) (w : World) : Calls Tryz.prog 52 #[.int .i64 a, .int .i64 0, .int .i64 c] w fun e w' => e = .returned (.bool b) ∧ ∃ m, w' = w.drewN m := by
 refine (spec_l00In.calls a 0 c b w ?_).mono fun e w' ⟨he, ⟨hm⟩⟩ => ⟨he, hm⟩
 unfold spec_l00In.f
 by_cases hh : a ≥ 0
 ·rw [if_pos hh, h]; congr 1; apply Bool.eq_iff_iff.mpr; simp; omega
 ·rw [if_neg hh, h]; congr 1; symm; simp; omega
def spec_LosePower.f (k : Nat) (a0_0 : ByteArray) (a0_1 : ByteArray) (a1 : Int) : Option (ByteArray × ByteArray × Int) := (spec_l27Ok.f k a0_0 a0_1).bind fun t => if t.1 = true then (if t.2.1.size + t.2.2.size ≤ 4611686018427387904 then (if decide (0 ≤ a1 ∧ a1 ≤ (t.2.2.size : Int)) = true then some (t.2.1 ++ t.2.2.extract 0 a1.toNat, ⟨#[]⟩, 0) else some (⟨#[]⟩, ⟨#[]⟩, 2)) else none) else some (⟨#[]⟩, ⟨#[]⟩, 1)
theorem spec_LosePower.mono : ∀ a0 a1 a2 k, LeO (spec_LosePower.f k a0 a1 a2) (spec_LosePower.f (k + 1) a0 a1 a2) := fun a0 a1 a2 k => LeO.bind (spec_l27Ok.mono a0 a1 k) (fun _ => LeO.refl _)
theorem spec_LosePower.calls (k : Nat) (a0_0 : ByteArray) (a0_1 : ByteArray) (a1 : Int) (r1 : ByteArray) (r2 : ByteArray) (r3 : Int) (w : World) (h : spec_LosePower.f k a0_0 a0_1 a1 = some (r1, r2, r3)) :
  Calls Tryz.prog 38 #[.agg #[.string a0_0, .string a0_1], .int .i64 a1] w fun e w' => e = .returned (.tuple #[.agg #[.string r1, .string r2], .int .i64 r3]) ∧ Below w.heap.size w w' := by
 unfold spec_LosePower.f at h
 replace h := Option.bind_eq_some_iff.mp h
 obtain ⟨⟨t0, t1, t2⟩, hu, h⟩ := h
 try simp only [] at h
 have HU := Aside0.mk hu
 clear hu
 have hu32 := Tryz.underlying39
 cases t0 with
 | false =>
  simp only [Bool.false_eq_true, if_false, Option.some.injEq, Prod.mk.injEq] at h
  obtain ⟨rfl, rfl, rfl⟩ := h
  go_enter Tryz.func38, Tryz.ntmps38
  go_wp2_with (first | ((with_reducible refine gd_ 2 rfl ?_); refine be_ 2 #[.string a0_0, .string a0_1] 39 ?_; intro gp hg w2 hbox hb; have HI2 : Aside0 (IsS39 w w2 gp a0_0 a0_1) := ⟨⟨hbox, Nat.le_of_eq hg.symm⟩⟩; have HB2 := Aside0.mk hb; clear hbox hb hg) | ((with_reducible refine gd_ 4 rfl ?_); refine be_ 4 #[.string (⟨#[]⟩ : ByteArray), .string (⟨#[]⟩ : ByteArray)] 39 ?_; intro gr hg w3 hbox hb; have BK3 := Aside0.mk hbox; have HI3 := Aside0.mk (HI2.out.below hb); have HB3 := Aside0.mk (below_step HB2.out hb); have GE : Aside0 (w.heap.size ≤ gr) := ⟨by rw [hg]; exact HB2.out.size⟩; have GN : Aside0 (gp ≠ gr) := ⟨Nat.ne_of_lt (by rw [hg]; exact blk_lt HI2.out.1)⟩; clear hbox hb hg) | (go_at_call 69; refine Calls.mono (spec_l27Ok.calls k gp a0_0 a0_1 _ _ _ w _ HI3.out HB3.out HU.out) ?_; rintro e w4 ⟨rfl, hI4, hB4, hK4⟩; have BK4 := Aside0.mk ((hK4.2 gr (blk_lt BK3.out) (Ne.symm GN.out) (by simp)).trans BK3.out); have HB4 := Aside0.mk hB4; have HI4 := Aside0.mk hI4; clear hI4 hB4 hK4; have hc0 := cellS39_0 BK4.out; have hc1 := cellS39_1 BK4.out; have hf : ∀ o, w4.frozen? ⟨gr, o, none⟩ = false := (fun o => by simp [World.frozen?, BK4.out]); have hd0 := cellS39_0 HI4.out.1; have hd1 := cellS39_1 HI4.out.1))
  refine bodyPost_ret (results_ct rfl _ _ gr 39 #[.string (⟨#[]⟩ : ByteArray), .string (⟨#[]⟩ : ByteArray)] (0, 0) _ rfl (kbp_ BK4) Tryz.underlying39 rfl (by kernel_rfl)) rfl ?_
  exact ⟨rfl, below_set (below_set HB4.out GE.out) GE.out⟩
 | true =>
  simp only [if_true] at h
  split at h
  case isFalse => cases h
  rename_i hz
  have IL := Aside0.mk (fun b h => power_in a1 (t2.size : Int) b h)
  generalize hl : decide (0 ≤ a1 ∧ a1 ≤ (t2.size : Int)) = lv at h
  have IL2 := Aside0.mk (IL.out lv hl.symm)
  cases lv with
  | false =>
   simp only [Bool.false_eq_true, if_false, Option.some.injEq, Prod.mk.injEq] at h
   obtain ⟨rfl, rfl, rfl⟩ := h
   clear hl IL
   go_enter Tryz.func38, Tryz.ntmps38
   go_wp2_with (first | ((with_reducible refine gd_ 2 rfl ?_); refine be_ 2 #[.string a0_0, .string a0_1] 39 ?_; intro gp hg w2 hbox hb; have HI2 : Aside0 (IsS39 w w2 gp a0_0 a0_1) := ⟨⟨hbox, Nat.le_of_eq hg.symm⟩⟩; have HB2 := Aside0.mk hb; clear hbox hb hg) | ((with_reducible refine gd_ 4 rfl ?_); refine be_ 4 #[.string (⟨#[]⟩ : ByteArray), .string (⟨#[]⟩ : ByteArray)] 39 ?_; intro gr hg w3 hbox hb; have BK3 := Aside0.mk hbox; have HI3 := Aside0.mk (HI2.out.below hb); have HB3 := Aside0.mk (below_step HB2.out hb); have GE : Aside0 (w.heap.size ≤ gr) := ⟨by rw [hg]; exact HB2.out.size⟩; have GN : Aside0 (gp ≠ gr) := ⟨Nat.ne_of_lt (by rw [hg]; exact blk_lt HI2.out.1)⟩; clear hbox hb hg) | (go_at_call 69; refine Calls.mono (spec_l27Ok.calls k gp a0_0 a0_1 _ _ _ w _ HI3.out HB3.out HU.out) ?_; rintro e w4 ⟨rfl, hI4, hB4, hK4⟩; have BK4 := Aside0.mk ((hK4.2 gr (blk_lt BK3.out) (Ne.symm GN.out) (by simp)).trans BK3.out); have HB4 := Aside0.mk hB4; have HI4 := Aside0.mk hI4; clear hI4 hB4 hK4; have hc0 := cellS39_0 BK4.out; have hc1 := cellS39_1 BK4.out; have hf : ∀ o, w4.frozen? ⟨gr, o, none⟩ = false := (fun o => by simp [World.frozen?, BK4.out]); have hd0 := cellS39_0 HI4.out.1; have hd1 := cellS39_1 HI4.out.1) | (go_at_call 52; (with_reducible refine (IL2.out _).mono ?_); rintro e w' ⟨rfl, q5, rfl⟩))
   refine bodyPost_ret (results_ct rfl _ _ gr 39 #[.string (⟨#[]⟩ : ByteArray), .string (⟨#[]⟩ : ByteArray)] (0, 0) _ rfl (kbp_ BK4) Tryz.underlying39 rfl (by kernel_rfl)) rfl ?_
   exact ⟨rfl, below_set (below_set (pw_below_drewN HB4.out _) GE.out) GE.out⟩
  | true =>
   simp only [if_true, Option.some.injEq, Prod.mk.injEq] at h
   obtain ⟨rfl, rfl, rfl⟩ := h
   obtain ⟨p1, p2⟩ := of_decide_eq_true hl
   clear hl IL
   obtain ⟨m, rfl⟩ : ∃ m : Nat, a1 = (m : Int) := ⟨a1.toNat, by omega⟩
   rw [Int.toNat_natCast]
   have hmm : m ≤ t2.size := by omega
   have hxz : (t2.extract 0 m).size = m := by rw [ByteArray.size_extract]; omega
   have HXZ := Aside0.mk hxz
   have q1 : ¬ 9223372036854775807 < t1.size + (t2.extract 0 m).size := by rw [hxz]; omega
   have q2 : ¬ 9223372036854775807 < t1.size + min m t2.size := by omega
   have q3 : ¬ 9223372036854775807 < t1.size + m := by omega
   clear hxz
   go_enter Tryz.func38, Tryz.ntmps38
   go_wp2_with (first | ((with_reducible refine gd_ 2 rfl ?_); refine be_ 2 #[.string a0_0, .string a0_1] 39 ?_; intro gp hg w2 hbox hb; have HI2 : Aside0 (IsS39 w w2 gp a0_0 a0_1) := ⟨⟨hbox, Nat.le_of_eq hg.symm⟩⟩; have HB2 := Aside0.mk hb; clear hbox hb hg) | ((with_reducible refine gd_ 4 rfl ?_); refine be_ 4 #[.string (⟨#[]⟩ : ByteArray), .string (⟨#[]⟩ : ByteArray)] 39 ?_; intro gr hg w3 hbox hb; have BK3 := Aside0.mk hbox; have HI3 := Aside0.mk (HI2.out.below hb); have HB3 := Aside0.mk (below_step HB2.out hb); have GE : Aside0 (w.heap.size ≤ gr) := ⟨by rw [hg]; exact HB2.out.size⟩; have GN : Aside0 (gp ≠ gr) := ⟨Nat.ne_of_lt (by rw [hg]; exact blk_lt HI2.out.1)⟩; clear hbox hb hg) | (go_at_call 69; refine Calls.mono (spec_l27Ok.calls k gp a0_0 a0_1 _ _ _ w _ HI3.out HB3.out HU.out) ?_; rintro e w4 ⟨rfl, hI4, hB4, hK4⟩; have BK4 := Aside0.mk ((hK4.2 gr (blk_lt BK3.out) (Ne.symm GN.out) (by simp)).trans BK3.out); have HB4 := Aside0.mk hB4; have HI4 := Aside0.mk hI4; clear hI4 hB4 hK4; have hc0 := cellS39_0 BK4.out; have hc1 := cellS39_1 BK4.out; have hf : ∀ o, w4.frozen? ⟨gr, o, none⟩ = false := (fun o => by simp [World.frozen?, BK4.out]); have hd0 := cellS39_0 HI4.out.1; have hd1 := cellS39_1 HI4.out.1) | (go_at_call 52; (with_reducible refine (IL2.out _).mono ?_); rintro e w' ⟨rfl, q5, rfl⟩))
   go_region
   go_wp2
   refine bodyPost_ret (results_ct rfl _ _ gr 39 #[.string (t1 ++ t2.extract 0 m), .string (⟨#[]⟩ : ByteArray)] (0, 0) _ rfl (kbp_ BK4) Tryz.underlying39 rfl (by kernel_rfl)) rfl ?_
   exact ⟨rfl, below_set (below_set (by repeat (first | exact HB4.out | apply pw_below_drewN | apply below_drew1)) GE.out) GE.out⟩
end
theorem isk39_x11 {P Q : Prop} (h : Aside0 P) (k : P → Q := by (intro h; repeat (first | (with_reducible first | exact h | apply IsS39.alloc | apply IsS39.drew | apply IsS39.drewN | apply IsS39.set_0 | apply IsS39.set_1 | refine IsS39.far ?_ (Aside0.out (by assumption)) _) | exact h))) : Q := k h.out
theorem bwi39_x11 {w W : World} (h : Below w.heap.size w W := by repeat (first | (with_reducible first | exact HB.out | apply below_alloc | apply pw_below_drewN | apply below_drew1 | refine below_set ?_ (Aside0.out (by assumption)) | refine below_set ?_ (IsS39.ge (Aside0.out (by assumption)))) | exact HB.out)) : Below w.heap.size w W := h
def spec_RecoverLog.f (k : Nat) (a0_0 : ByteArray) (a0_1 : ByteArray) : Option (ByteArray × ByteArray × Int × Int) := (spec_l27Ok.f k a0_0 a0_1).bind fun bt320 => (if bt320.1 = true then ((spec_l27Read.f k bt320.2.1).bind fun bt323 => (if bt323.2 < (bt320.2.1.size : Int) then (if bt320.2.2.toList = ([] : List UInt8) then (if 0 ≤ bt323.2 then (if bt323.2 ≤ (bt320.2.1.size : Int) then (some (bt320.2.1.extract 0 (bt323.2 : Int).toNat, bt320.2.2, wrap64 ((bt320.2.1.size : Int) - bt323.2), 0)) else (none)) else (none)) else (some ((⟨#[]⟩ : ByteArray), (⟨#[]⟩ : ByteArray), 0, 6))) else (if 0 ≤ bt323.2 then (if bt323.2 ≤ (bt320.2.1.size : Int) then (some (bt320.2.1.extract 0 (bt323.2 : Int).toNat, bt320.2.2, wrap64 ((bt320.2.1.size : Int) - bt323.2), 0)) else (none)) else (none)))) else (some ((⟨#[]⟩ : ByteArray), (⟨#[]⟩ : ByteArray), 0, 1)))
theorem spec_RecoverLog.mono : ∀ a0 a1 k, LeO (spec_RecoverLog.f k a0 a1) (spec_RecoverLog.f (k + 1) a0 a1) := by
 intro a0 a1 k
 unfold spec_RecoverLog.f
 have m0 := @spec_l27Ok.mono
 have m1 := @spec_l27Read.mono
 exact mo_
def spec_RecoverLog.T6 : Bool × List (List Nat × List Nat) := (true, [([], []), ([0], [0]), ([], []), ([1, 2], [1, 2]), ([], []), ([4], [4]), ([3, 5], [3, 5]), ([], []), ([7], [7]), ([8], [8]), ([], []), ([9, 10], [9, 10]), ([6, 0, 1, 2, 3, 4, 5, 6], [6]), ([11, 12, 0, 1, 2, 3, 4, 5, 6, 7, 8, 9, 10, 11, 12], [11]), ([13, 0, 1, 2, 3, 4, 5, 6, 7, 8, 9, 10, 11, 12, 13], [])])
def spec_RecoverLog.B6 : List Nat := [0, 1, 0, 7, 0, 16, 63, 0, 128, 384, 0, 1920, 127, 8191, 16383]
theorem spec_RecoverLog.tab6 : rtab .any (opsOf Tryz.f40 6) = spec_RecoverLog.T6 := by kernel_rfl
theorem spec_RecoverLog.bits6 : waitsOk spec_RecoverLog.T6.2 spec_RecoverLog.B6 = true := by kernel_rfl
theorem spec_RecoverLog.calls (k : Nat) (a0_0 : ByteArray) (a0_1 : ByteArray) (r1 : ByteArray) (r2 : ByteArray) (r3 : Int) (r4 : Int) (w : World) (h : spec_RecoverLog.f k a0_0 a0_1 = some (r1, r2, r3, r4)) :
  Calls Tryz.prog 40 #[.agg #[.string a0_0, .string a0_1]] w fun e w' => e = .returned (.tuple #[.agg #[.string r1, .string r2], .int .i64 r3, .int .i64 r4]) ∧ Below w.heap.size w w' := by
 have hu39 := Tryz.underlying39
 have HB := Aside0.mk (Below.refl w.heap.size w)
 have H := h
 clear h
 unfold spec_RecoverLog.f at H
 revert H
 refine bn_ ?_
 rintro ⟨t320, t321, t322⟩ A2 H
 revert H
 refine ib_ ?_ ?_ <;> rintro rfl H
 ·revert H
  refine bn_ ?_
  rintro ⟨t323, t324⟩ A4 H
  revert H
  refine if_ ?_ ?_ <;> intro c5b0 H
  ·by_cases c6 : t322.toList = ([] : List UInt8)
   ·rw [if_pos c6] at H
    have c6b0 : (t322.toList == ([] : List UInt8)) = true := beq_iff_eq.mpr c6
    have c6b1 : (t322.toList != ([] : List UInt8)) = false := bne_eq_false_iff_eq.mpr c6
    clear c6
    by_cases c7 : 0 ≤ t324
    ·rw [if_pos c7] at H
     have c7b0 := eq_true c7
     have c7b1 : decide (0 ≤ t324) = true := decide_eq_true c7
     clear c7
     by_cases c8 : t324 ≤ (t321.size : Int)
     ·rw [if_pos c8] at H
      have c8b0 := eq_true c8
      have c8b1 : decide (t324 ≤ (t321.size : Int)) = true := decide_eq_true c8
      clear c8
      simp only [Option.some.injEq, Prod.mk.injEq] at H
      obtain ⟨rfl, rfl, rfl, rfl⟩ := H
      go_enter Tryz.func40, Tryz.ntmps40
      try go_wp2_with (first | ((with_reducible refine gd_ 1 rfl ?_); refine bx_ #[.string a0_0, .string a0_1] ?_; intro gb318 hg w9 BK318 hb; have GW318 := bsz_ hg; replace HB := bst_ hb; clear hb hg) | ((with_reducible refine gd_ 2 rfl ?_); refine bx_ #[.string (⟨#[]⟩ : ByteArray), .string (⟨#[]⟩ : ByteArray)] ?_; intro gb319 hg w10 BK319 hb; have GW319 := bsz_ hg; replace HB := bst_ hb; have NB318_319 := nbl_ BK318 hg; have NB319_318 := nbr_ BK318 hg; replace BK318 := bkb_ BK318 hb; clear hb hg; have HI318 : Aside0 (IsS39 w _ gb318 a0_0 a0_1) := ⟨⟨by exact kb_ BK318, GW318.out⟩⟩; clear BK318) | ((with_reducible refine gc_ 69 rfl ?_); refine ck_ Tryz.func69 (spec_l27Ok.calls _ _ _ _ _ _ _ _ _ (isk39_x11 HI318) bwi39_x11 A2.out) ?_; rintro e w11 ⟨rfl, hi, hb, hk⟩; refine ⟨_, rfl, ?_⟩; replace BK319 := Aside0.mk (KeepBut.blk hk (g' := gb319) (o := .cells #[.string (⟨#[]⟩ : ByteArray), .string (⟨#[]⟩ : ByteArray)] 39 (0, 0)) (by exact kb_ BK319) NB319_318.out (by simp)); replace HB := Aside0.mk (hb); have BK318 := Aside0.mk (hi.1); clear HI318; clear hb hk hi; have hnb12 := NB318_319.out; have hnc12 := NB319_318.out; have hcz13_0 := c2_ BK318) | ((with_reducible refine gc_ 70 rfl ?_); refine ck_ Tryz.func70 (spec_l27Read.calls _ _ _ _ _ A4.out) ?_; rintro e w14 ⟨v325, rfl, ho0, hb⟩; refine ⟨_, rfl, ?_⟩; have HO326 := kl_ ho0; replace BK318 := bkb_ BK318 hb; replace BK319 := bkb_ BK319 hb; replace HB := bst_ hb; clear hb ho0; have hcz15_0 := c2_ BK318))
      replace HO326 := Aside0.mk (Kd.R_drew HO326.out)
      replace BK318 := Aside0.mk (blk_drew BK318.out)
      replace BK319 := Aside0.mk (blk_drew BK319.out)
      replace HB := Aside0.mk (below_drew1 HB.out)
      refine start_ (n := 15) (S := fun w' => w'.cell? ⟨gb318, 0, none⟩ = some (.string t321) ∧ w'.cell? ⟨gb318, 1, none⟩ = some (.string t322)) (ds := []) (fl 15 0) (by kernel_rfl) rfl rfl ⟨(blk_cell BK318.out 0).trans rfl, (blk_cell BK318.out 1).trans rfl⟩ (fun hHeld => ?_); refine with_tabW spec_RecoverLog.tab6 spec_RecoverLog.bits6 (fun HT_ HW_ => ?_)
      generalize w14.drew = w16 at HO326 BK318 BK319 HB hHeld ⊢
      refine pu_ (i := 0) (N := some 27) (fl 15 1) (any_of HT_.out (by kernel_rfl)) ?_
      refine pu_ (i := 2) (N := some 29) (fl 15 5) (any_of HT_.out (by kernel_rfl)) ?_
      refine pu_ (i := 4) (N := some 31) (fl 15 21) (any_of HT_.out (by kernel_rfl)) ?_
      refine pu_ (i := 7) (N := some 34) (fl 15 149) (any_of HT_.out (by kernel_rfl)) ?_
      refine pu_ (i := 10) (N := some 37) (fl 15 1173) (any_of HT_.out (by kernel_rfl)) ?_
      refine take_ (i := 1) (N := some 28) (v := ?_) (a' := ?_) (fl 15 1175) rfl rfl (take_ofW HT_.out HW_.out (by kernel_rfl)) (fun _ _ _ h => h) (Or.inl ⟨by rfl, ?_⟩) hHeld ?_ ?_
      rotate_left
      ·rintro w' ⟨s0, s1⟩
       go_simp
       with_reducible rfl
      rotate_left
      ·simp only [Act.put, List.setIfInBounds_toArray, List.set_cons_zero, List.set_cons_succ, i64_w, i32_w]
       rfl
      refine pu_ (i := 3) (N := some 30) (fl 15 1183) (any_of HT_.out (by kernel_rfl)) ?_
      refine take_ (i := 5) (N := some 32) (v := ?_) (a' := ?_) (fl 15 1215) rfl rfl (take_ofW HT_.out HW_.out (by kernel_rfl)) (fun _ _ _ h => h) (Or.inl ⟨by rfl, ?_⟩) hHeld ?_ ?_
      rotate_left
      ·rintro w' ⟨s0, s1⟩
       go_simp
       with_reducible rfl
      rotate_left
      ·simp only [Act.put, List.setIfInBounds_toArray, List.set_cons_zero, List.set_cons_succ, i64_w, i32_w]
       rfl
      refine pu_ (i := 6) (N := some 33) (fl 15 1279) (any_of HT_.out (by kernel_rfl)) ?_
      refine take_ (i := 8) (N := some 35) (v := ?_) (a' := ?_) (fl 15 1535) rfl rfl (take_ofW HT_.out HW_.out (by kernel_rfl)) (fun _ _ _ h => h) (Or.inl ⟨by rfl, ?_⟩) hHeld ?_ ?_
      rotate_left
      ·rintro w' ⟨s0, s1⟩
       go_simp
       with_reducible rfl
      rotate_left
      ·simp only [Act.put, List.setIfInBounds_toArray, List.set_cons_zero, List.set_cons_succ, i64_w, i32_w]
       rfl
      refine pu_ (i := 9) (N := some 36) (fl 15 2047) (any_of HT_.out (by kernel_rfl)) ?_
      refine pu_ (i := 11) (N := some 38) (fl 15 4095) (any_of HT_.out (by kernel_rfl)) ?_
      refine one_ (i := 12) (N := none) (fl 15 8191) rfl rfl (one_of HT_.out (by kernel_rfl)) (by decide) (fun K hK => ?_)
      have hs17 : w16.cell? ⟨gb319, 0, none⟩ = some (.string (⟨#[]⟩ : ByteArray)) := (blk_cell BK319.out 0).trans rfl
      have hfs17 := blk_frozen BK319.out 0
      have hns17_0 := NB318_319.out
      have hms17_0 := NB319_318.out
      have hs18 : w16.cell? ⟨gb319, 1, none⟩ = some (.string (⟨#[]⟩ : ByteArray)) := (blk_cell BK319.out 1).trans rfl
      have hfs18 := blk_frozen BK319.out 1
      have hns18_0 := NB318_319.out
      have hms18_0 := NB319_318.out
      refine skip_ (w1 := ?_) (by rfl) rfl ?_ ?_
      rotate_left
      ·go_simp
       rfl
      refine hK.out _ _ ⟨((cell_far (p := ⟨gb319, _, none⟩) NB318_319.out _).trans (((cell_far (p := ⟨gb319, _, none⟩) NB318_319.out _).trans (hHeld.1)))), ((cell_far (p := ⟨gb319, _, none⟩) NB318_319.out _).trans (((cell_far (p := ⟨gb319, _, none⟩) NB318_319.out _).trans (hHeld.2))))⟩ (fun hHeld => ?_)
      clear hK K
      refine pu_ (i := 13) (N := some 3) (fl 15 16383) (any_of HT_.out (by kernel_rfl)) ?_
      refine pu_ (i := 14) (N := some 4) (fl 15 32767) (any_of HT_.out (by kernel_rfl)) ?_
      refine done_ (done_of HT_.out (by kernel_rfl)) ?_
      try go_wp2
      refine bodyPost_ret (results_ctt rfl _ _ gb319 39 #[.string (t321.extract 0 (t324 : Int).toNat), .string t322] (0, 0) _ rfl (kbp_ BK319) Tryz.underlying39 rfl (by kernel_rfl)) rfl ?_
      exact ⟨rr_, bwl_⟩
     ·rw [if_neg c8] at H
      exact absurd H (by simp)
    ·rw [if_neg c7] at H
     exact absurd H (by simp)
   ·rw [if_neg c6] at H
    have c6b0 : (t322.toList == ([] : List UInt8)) = false := beq_eq_false_iff_ne.mpr c6
    have c6b1 : (t322.toList != ([] : List UInt8)) = true := bne_iff_ne.mpr c6
    simp only [Option.some.injEq, Prod.mk.injEq] at H
    obtain ⟨rfl, rfl, rfl, rfl⟩ := H
    go_enter Tryz.func40, Tryz.ntmps40
    go_wp2_with (first | ((with_reducible refine gd_ 1 rfl ?_); refine bx_ #[.string a0_0, .string a0_1] ?_; intro gb318 hg w19 BK318 hb; have GW318 := bsz_ hg; replace HB := bst_ hb; clear hb hg) | ((with_reducible refine gd_ 2 rfl ?_); refine bx_ #[.string (⟨#[]⟩ : ByteArray), .string (⟨#[]⟩ : ByteArray)] ?_; intro gb319 hg w20 BK319 hb; have GW319 := bsz_ hg; replace HB := bst_ hb; have NB318_319 := nbl_ BK318 hg; have NB319_318 := nbr_ BK318 hg; replace BK318 := bkb_ BK318 hb; clear hb hg; have HI318 : Aside0 (IsS39 w _ gb318 a0_0 a0_1) := ⟨⟨by exact kb_ BK318, GW318.out⟩⟩; clear BK318) | ((with_reducible refine gc_ 69 rfl ?_); refine ck_ Tryz.func69 (spec_l27Ok.calls _ _ _ _ _ _ _ _ _ (isk39_x11 HI318) bwi39_x11 A2.out) ?_; rintro e w21 ⟨rfl, hi, hb, hk⟩; refine ⟨_, rfl, ?_⟩; replace BK319 := Aside0.mk (KeepBut.blk hk (g' := gb319) (o := .cells #[.string (⟨#[]⟩ : ByteArray), .string (⟨#[]⟩ : ByteArray)] 39 (0, 0)) (by exact kb_ BK319) NB319_318.out (by simp)); replace HB := Aside0.mk (hb); have BK318 := Aside0.mk (hi.1); clear HI318; clear hb hk hi; have hnb22 := NB318_319.out; have hnc22 := NB319_318.out; have hcz23_0 := c2_ BK318) | ((with_reducible refine gc_ 70 rfl ?_); refine ck_ Tryz.func70 (spec_l27Read.calls _ _ _ _ _ A4.out) ?_; rintro e w24 ⟨v325, rfl, ho0, hb⟩; refine ⟨_, rfl, ?_⟩; have HO326 := kl_ ho0; replace BK318 := bkb_ BK318 hb; replace BK319 := bkb_ BK319 hb; replace HB := bst_ hb; clear hb ho0; have hcz25_0 := c2_ BK318; have hcz25_1 := c2_ BK319))
    refine bodyPost_ret (results_ctt rfl _ _ gb319 39 #[.string (⟨#[]⟩ : ByteArray), .string (⟨#[]⟩ : ByteArray)] (0, 0) _ rfl (kbp_ BK319) Tryz.underlying39 rfl (by kernel_rfl)) rfl ?_
    exact ⟨rr_, bwl_⟩
  ·by_cases c27 : 0 ≤ t324
   ·rw [if_pos c27] at H
    have c27b0 := eq_true c27
    have c27b1 : decide (0 ≤ t324) = true := decide_eq_true c27
    clear c27
    by_cases c28 : t324 ≤ (t321.size : Int)
    ·rw [if_pos c28] at H
     have c28b0 := eq_true c28
     have c28b1 : decide (t324 ≤ (t321.size : Int)) = true := decide_eq_true c28
     clear c28
     simp only [Option.some.injEq, Prod.mk.injEq] at H
     obtain ⟨rfl, rfl, rfl, rfl⟩ := H
     go_enter Tryz.func40, Tryz.ntmps40
     try go_wp2_with (first | ((with_reducible refine gd_ 1 rfl ?_); refine bx_ #[.string a0_0, .string a0_1] ?_; intro gb318 hg w29 BK318 hb; have GW318 := bsz_ hg; replace HB := bst_ hb; clear hb hg) | ((with_reducible refine gd_ 2 rfl ?_); refine bx_ #[.string (⟨#[]⟩ : ByteArray), .string (⟨#[]⟩ : ByteArray)] ?_; intro gb319 hg w30 BK319 hb; have GW319 := bsz_ hg; replace HB := bst_ hb; have NB318_319 := nbl_ BK318 hg; have NB319_318 := nbr_ BK318 hg; replace BK318 := bkb_ BK318 hb; clear hb hg; have HI318 : Aside0 (IsS39 w _ gb318 a0_0 a0_1) := ⟨⟨by exact kb_ BK318, GW318.out⟩⟩; clear BK318) | ((with_reducible refine gc_ 69 rfl ?_); refine ck_ Tryz.func69 (spec_l27Ok.calls _ _ _ _ _ _ _ _ _ (isk39_x11 HI318) bwi39_x11 A2.out) ?_; rintro e w31 ⟨rfl, hi, hb, hk⟩; refine ⟨_, rfl, ?_⟩; replace BK319 := Aside0.mk (KeepBut.blk hk (g' := gb319) (o := .cells #[.string (⟨#[]⟩ : ByteArray), .string (⟨#[]⟩ : ByteArray)] 39 (0, 0)) (by exact kb_ BK319) NB319_318.out (by simp)); replace HB := Aside0.mk (hb); have BK318 := Aside0.mk (hi.1); clear HI318; clear hb hk hi; have hnb32 := NB318_319.out; have hnc32 := NB319_318.out; have hcz33_0 := c2_ BK318) | ((with_reducible refine gc_ 70 rfl ?_); refine ck_ Tryz.func70 (spec_l27Read.calls _ _ _ _ _ A4.out) ?_; rintro e w34 ⟨v325, rfl, ho0, hb⟩; refine ⟨_, rfl, ?_⟩; have HO326 := kl_ ho0; replace BK318 := bkb_ BK318 hb; replace BK319 := bkb_ BK319 hb; replace HB := bst_ hb; clear hb ho0; have hcz35_0 := c2_ BK318))
     replace HO326 := Aside0.mk (Kd.R_drew HO326.out)
     replace BK318 := Aside0.mk (blk_drew BK318.out)
     replace BK319 := Aside0.mk (blk_drew BK319.out)
     replace HB := Aside0.mk (below_drew1 HB.out)
     refine start_ (n := 15) (S := fun w' => w'.cell? ⟨gb318, 0, none⟩ = some (.string t321) ∧ w'.cell? ⟨gb318, 1, none⟩ = some (.string t322)) (ds := []) (fl 15 0) (by kernel_rfl) rfl rfl ⟨(blk_cell BK318.out 0).trans rfl, (blk_cell BK318.out 1).trans rfl⟩ (fun hHeld => ?_); refine with_tabW spec_RecoverLog.tab6 spec_RecoverLog.bits6 (fun HT_ HW_ => ?_)
     generalize w34.drew = w36 at HO326 BK318 BK319 HB hHeld ⊢
     refine pu_ (i := 0) (N := some 27) (fl 15 1) (any_of HT_.out (by kernel_rfl)) ?_
     refine pu_ (i := 2) (N := some 29) (fl 15 5) (any_of HT_.out (by kernel_rfl)) ?_
     refine pu_ (i := 4) (N := some 31) (fl 15 21) (any_of HT_.out (by kernel_rfl)) ?_
     refine pu_ (i := 7) (N := some 34) (fl 15 149) (any_of HT_.out (by kernel_rfl)) ?_
     refine pu_ (i := 10) (N := some 37) (fl 15 1173) (any_of HT_.out (by kernel_rfl)) ?_
     refine take_ (i := 1) (N := some 28) (v := ?_) (a' := ?_) (fl 15 1175) rfl rfl (take_ofW HT_.out HW_.out (by kernel_rfl)) (fun _ _ _ h => h) (Or.inl ⟨by rfl, ?_⟩) hHeld ?_ ?_
     rotate_left
     ·rintro w' ⟨s0, s1⟩
      go_simp
      with_reducible rfl
     rotate_left
     ·simp only [Act.put, List.setIfInBounds_toArray, List.set_cons_zero, List.set_cons_succ, i64_w, i32_w]
      rfl
     refine pu_ (i := 3) (N := some 30) (fl 15 1183) (any_of HT_.out (by kernel_rfl)) ?_
     refine take_ (i := 5) (N := some 32) (v := ?_) (a' := ?_) (fl 15 1215) rfl rfl (take_ofW HT_.out HW_.out (by kernel_rfl)) (fun _ _ _ h => h) (Or.inl ⟨by rfl, ?_⟩) hHeld ?_ ?_
     rotate_left
     ·rintro w' ⟨s0, s1⟩
      go_simp
      with_reducible rfl
     rotate_left
     ·simp only [Act.put, List.setIfInBounds_toArray, List.set_cons_zero, List.set_cons_succ, i64_w, i32_w]
      rfl
     refine pu_ (i := 6) (N := some 33) (fl 15 1279) (any_of HT_.out (by kernel_rfl)) ?_
     refine take_ (i := 8) (N := some 35) (v := ?_) (a' := ?_) (fl 15 1535) rfl rfl (take_ofW HT_.out HW_.out (by kernel_rfl)) (fun _ _ _ h => h) (Or.inl ⟨by rfl, ?_⟩) hHeld ?_ ?_
     rotate_left
     ·rintro w' ⟨s0, s1⟩
      go_simp
      with_reducible rfl
     rotate_left
     ·simp only [Act.put, List.setIfInBounds_toArray, List.set_cons_zero, List.set_cons_succ, i64_w, i32_w]
      rfl
     refine pu_ (i := 9) (N := some 36) (fl 15 2047) (any_of HT_.out (by kernel_rfl)) ?_
     refine pu_ (i := 11) (N := some 38) (fl 15 4095) (any_of HT_.out (by kernel_rfl)) ?_
     refine one_ (i := 12) (N := none) (fl 15 8191) rfl rfl (one_of HT_.out (by kernel_rfl)) (by decide) (fun K hK => ?_)
     have hs37 : w36.cell? ⟨gb319, 0, none⟩ = some (.string (⟨#[]⟩ : ByteArray)) := (blk_cell BK319.out 0).trans rfl
     have hfs37 := blk_frozen BK319.out 0
     have hns37_0 := NB318_319.out
     have hms37_0 := NB319_318.out
     have hs38 : w36.cell? ⟨gb319, 1, none⟩ = some (.string (⟨#[]⟩ : ByteArray)) := (blk_cell BK319.out 1).trans rfl
     have hfs38 := blk_frozen BK319.out 1
     have hns38_0 := NB318_319.out
     have hms38_0 := NB319_318.out
     refine skip_ (w1 := ?_) (by rfl) rfl ?_ ?_
     rotate_left
     ·go_simp
      rfl
     refine hK.out _ _ ⟨((cell_far (p := ⟨gb319, _, none⟩) NB318_319.out _).trans (((cell_far (p := ⟨gb319, _, none⟩) NB318_319.out _).trans (hHeld.1)))), ((cell_far (p := ⟨gb319, _, none⟩) NB318_319.out _).trans (((cell_far (p := ⟨gb319, _, none⟩) NB318_319.out _).trans (hHeld.2))))⟩ (fun hHeld => ?_)
     clear hK K
     refine pu_ (i := 13) (N := some 3) (fl 15 16383) (any_of HT_.out (by kernel_rfl)) ?_
     refine pu_ (i := 14) (N := some 4) (fl 15 32767) (any_of HT_.out (by kernel_rfl)) ?_
     refine done_ (done_of HT_.out (by kernel_rfl)) ?_
     try go_wp2
     refine bodyPost_ret (results_ctt rfl _ _ gb319 39 #[.string (t321.extract 0 (t324 : Int).toNat), .string t322] (0, 0) _ rfl (kbp_ BK319) Tryz.underlying39 rfl (by kernel_rfl)) rfl ?_
     exact ⟨rr_, bwl_⟩
    ·rw [if_neg c28] at H
     exact absurd H (by simp)
   ·rw [if_neg c27] at H
    exact absurd H (by simp)
 ·simp only [Option.some.injEq, Prod.mk.injEq] at H
  obtain ⟨rfl, rfl, rfl, rfl⟩ := H
  go_enter Tryz.func40, Tryz.ntmps40
  go_wp2_with (first | ((with_reducible refine gd_ 1 rfl ?_); refine bx_ #[.string a0_0, .string a0_1] ?_; intro gb318 hg w39 BK318 hb; have GW318 := bsz_ hg; replace HB := bst_ hb; clear hb hg) | ((with_reducible refine gd_ 2 rfl ?_); refine bx_ #[.string (⟨#[]⟩ : ByteArray), .string (⟨#[]⟩ : ByteArray)] ?_; intro gb319 hg w40 BK319 hb; have GW319 := bsz_ hg; replace HB := bst_ hb; have NB318_319 := nbl_ BK318 hg; have NB319_318 := nbr_ BK318 hg; replace BK318 := bkb_ BK318 hb; clear hb hg; have HI318 : Aside0 (IsS39 w _ gb318 a0_0 a0_1) := ⟨⟨by exact kb_ BK318, GW318.out⟩⟩; clear BK318) | ((with_reducible refine gc_ 69 rfl ?_); refine ck_ Tryz.func69 (spec_l27Ok.calls _ _ _ _ _ _ _ _ _ (isk39_x11 HI318) bwi39_x11 A2.out) ?_; rintro e w41 ⟨rfl, hi, hb, hk⟩; refine ⟨_, rfl, ?_⟩; replace BK319 := Aside0.mk (KeepBut.blk hk (g' := gb319) (o := .cells #[.string (⟨#[]⟩ : ByteArray), .string (⟨#[]⟩ : ByteArray)] 39 (0, 0)) (by exact kb_ BK319) NB319_318.out (by simp)); replace HB := Aside0.mk (hb); have BK318 := Aside0.mk (hi.1); clear HI318; clear hb hk hi; have hnb42 := NB319_318.out; have hnc42 := NB318_319.out; have hcz43_0 := c2_ BK319))
  refine bodyPost_ret (results_ctt rfl _ _ gb319 39 #[.string (⟨#[]⟩ : ByteArray), .string (⟨#[]⟩ : ByteArray)] (0, 0) _ rfl (kbp_ BK319) Tryz.underlying39 rfl (by kernel_rfl)) rfl ?_
  exact ⟨rr_, bwl_⟩
end Go.Proofs.YtkoeeajciciphaaGreatDoor.QFnExactStartAgain
