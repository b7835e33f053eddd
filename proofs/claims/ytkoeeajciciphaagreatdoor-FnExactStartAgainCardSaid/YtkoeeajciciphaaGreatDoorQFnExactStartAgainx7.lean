import Derived.Test.YtkoeeajciciphaaGreatDoorSq
import Derived.Test.YtkoeeajciciphaaGreatDoorS4
import Derived.Test.YtkoeeajciciphaaGreatDoorQFnExactStartAgainx0
import Derived.Test.YtkoeeajciciphaaGreatDoorQFnExactStartAgainx5
import Derived.Test.YtkoeeajciciphaaGreatDoorQFnExactStartAgainx6
import Derived.Test.YtkoeeajciciphaaGreatDoorQFnExactStartAgainx3
import Derived.Test.YtkoeeajciciphaaGreatDoorQFnExactStartAgainx4
namespace Go.Proofs.YtkoeeajciciphaaGreatDoor.QFnExactStartAgain
open Sq (fl pu_ gl_ b20_ b21_ b30_ b31_ b32_ od_ rr_ be_)
open Sq
open Base (bwl_ bst_ bsz_ bkb_ nbl_ nbr_ kbl_ bkm_)
open Go.RowKit Go.Proofs.YtkoeeajciciphaaGreatDoorW.PrintWords Go.Proofs.YtkoeeajciciphaaGreatDoorW.PrintLast Go.Proofs.YtkoeeajciciphaaGreatDoorW.PrintMore
attribute [local go_sem] max2_int min2_int max_two min_two max_three min_three max_four min_four
set_option linter.unusedVariables false
set_option linter.unusedSimpArgs false
set_option maxHeartbeats 8000000
set_option maxRecDepth 100000
def impl_ReadFrames.l0 : Nat → ByteArray → List (S132) → Int → Option ((List (S132)) × Int)
 | 0, _, _, _ => none
 | k + 1, x0, x4, x5 => if 0 ≤ x5 then (if x5 ≤ (x0.size : Int) then ((impl_readFrame.f k (x0.extract (x5 : Int).toNat x0.size)).bind fun bt382 => (if bt382.2.2.2 = 0 then (some (x4, x5)) else (if x4.length < 3518437208883 then (impl_ReadFrames.l0 k x0 (x4 ++ [(⟨bt382.1, bt382.2.1, bt382.2.2.1⟩ : S132)]) (wrap64 (x5 + bt382.2.2.2))) else (none)))) else (none)) else (none)
def impl_ReadFrames.f (k : Nat) (a0 : ByteArray) : Option ((List (S132)) × Int) := impl_ReadFrames.l0 k a0 (([] : List (S132))) 0
theorem impl_ReadFrames.mono_l : ∀ k, (∀ y0 y1 y2, LeO (impl_ReadFrames.l0 k y0 y1 y2) (impl_ReadFrames.l0 (k + 1) y0 y1 y2))
 | 0 => fun _ _ _ r h => by simp [impl_ReadFrames.l0] at h
 | k + 1 => by
  have ih0 := impl_ReadFrames.mono_l k
  ·intro y0 y1 y2
   unfold impl_ReadFrames.l0
   have m0 := @impl_readFrame.mono
   exact mo_
theorem impl_ReadFrames.mono : ∀ a0 k, LeO (impl_ReadFrames.f k a0) (impl_ReadFrames.f (k + 1) a0) := by
 intro a0 k
 have ih0 := impl_ReadFrames.mono_l k
 unfold impl_ReadFrames.f
 have m0 := @impl_readFrame.mono
 exact mo_
theorem impl_ReadFrames.calls (k : Nat) (a0 : ByteArray) (r1 : List (S132)) (r2 : Int) (w : World) (h : impl_ReadFrames.f k a0 = some (r1, r2)) (hT : Go.Proofs.YtkoeeajciciphaaGreatDoor.Base.Tb2 w) :
  Calls Tryz.prog 64 #[.string a0] w fun e w' => ∃ v0_ : Value, e = .returned (.tuple #[v0_, .int .i64 r2]) ∧ Kd.R k132 132 w' w.heap.size (fun _ => True) v0_ r1 ∧ Below w.heap.size w w' := by
 have HTB := Aside0.mk hT
 clear hT
 have hu132 := Tryz.underlying132
 have HB := Aside0.mk (Below.refl w.heap.size w)
 have H := h
 clear h
 unfold impl_ReadFrames.f at H
 obtain ⟨y379, hy379⟩ : ∃ y_ : List (S132), y_ = (([] : List (S132))) := ⟨_, rfl⟩
 replace H : (impl_ReadFrames.l0 k a0 y379 0) = some (r1, r2) := by first | (rw [hy379]; with_reducible exact H) | (have H2_ := (Option.bind_some _ _).symm.trans H; rw [hy379]; with_reducible exact H2_) | (have H2_ := (Option.bind_some _ _).symm.trans H; with_reducible exact H2_) | with_reducible exact H | (rw [hy379]; exact H) | exact H
 have Ny379 := Aside0.mk hy379
 clear hy379
 have H' := Aside0.mk H
 clear H
 go_enter Tryz.func64, Tryz.ntmps64
 go_wp2_with (first | ((with_reducible refine gd_ 8 rfl ?_); refine Kd.R_lit k132 _ 132 ?hg (N := 8) ?hd (xs := ([] : List (S132))) (inner := []) (ok := fun _ => True) (okp := fun _ => True) ?hr ?hp (fun _ hk => hk) trivial (Below.refl _ _) (Nat.le_refl _) (by simp) ?_; (case hd => rfl); (case hg => rfl); (case hr => first | (go_simp; done) | (go_simp; rfl)); (case hp => exact (Reps.none _ _)); intro v380 w2 ho3 hb hg_ hnew_; clear hg_ hnew_; (first | rw [← Ny379.out] at ho3 | (simp only [Int.reduceToNat] at ho3; rw [← Ny379.out] at ho3)); have HO381 := kl_ ho3; replace HB := bst_ hb; clear hb ho3))
 go_loopg [4, 5] k (fun kq v4 v5 w' => ∃ (x4_1 : List (S132)) (x5_1 : Int), v5 = .int .i64 x5_1 ∧ Aside0 (impl_ReadFrames.l0 kq a0 x4_1 x5_1 = some (r1, r2)) ∧ Aside0 (kq ≤ k) ∧ Aside0 (Kd.R k132 132 w' w.heap.size (fun _ => True) v4 x4_1) ∧ Aside0 (Below w.heap.size w w'))
 case atStart => exact ⟨(y379), (0), re_, H', ⟨Nat.le_refl _⟩, ⟨ks_ HO381⟩, ⟨bwl_⟩⟩
 case round =>
  clear H'
  obtain ⟨x4_1, x5_1, rfl, HA, HK1, HO_4, HB⟩ := hrel
  cases gk with
  | zero => exact absurd HA.out (by simp [impl_ReadFrames.l0])
  | succ k1 =>
   have H := HA.out
   clear HA
   simp only [impl_ReadFrames.l0] at H
   by_cases c4 : 0 ≤ x5_1
   ·rw [if_pos c4] at H
    have c4b0 := eq_true c4
    have c4b1 : decide (0 ≤ x5_1) = true := decide_eq_true c4
    clear c4
    by_cases c5 : x5_1 ≤ (a0.size : Int)
    ·rw [if_pos c5] at H
     have c5b0 := eq_true c5
     have c5b1 : decide (x5_1 ≤ (a0.size : Int)) = true := decide_eq_true c5
     clear c5
     revert H
     refine bn_ ?_
     rintro ⟨t382, t383, t384, t385⟩ A6 H
     by_cases c7 : t385 = 0
     ·rw [if_pos c7] at H
      have c7b0 : (t385 == 0) = true := beq_iff_eq.mpr c7
      have c7b1 : (t385 != 0) = false := bne_eq_false_iff_eq.mpr c7
      clear c7
      simp only [Option.some.injEq, Prod.mk.injEq] at H
      obtain ⟨rfl, rfl⟩ := H
      go_wp2_with (first | ((with_reducible refine gc_ 96 rfl ?_); refine cl_ Tryz.func96 (impl_readFrame.calls _ _ _ _ _ _ _ A6.out (HTB.out.below bwl_)) ?_; intro w8 hb; replace HO_4 := kr_ HO_4 hb; replace HB := bst_ hb; clear hb) | ((with_reducible refine gd_ 6 rfl ?_); refine be_ 6 #[.int .i64 0, .string (⟨#[]⟩ : ByteArray), .string (⟨#[]⟩ : ByteArray)] 132 ?_; intro gb386 hg w9 hbox hb; replace HO_4 := Aside0.mk (Kd.R_below (Kd.R_elderB (ks_ HO_4) gb386 (Nat.le_of_eq hg.symm)) hb); have BK386 := Aside0.mk (hbox); have GW386 := bsz_ hg; have GE386 := bsz_ hg; replace HB := bst_ hb; clear hb hbox hg; have hcz10_0 := c3_ BK386))
      go_ret2
      exact ⟨_, rr_, kt_ HO_4, bwl_⟩
     ·rw [if_neg c7] at H
      have c7b0 : (t385 == 0) = false := beq_eq_false_iff_ne.mpr c7
      have c7b1 : (t385 != 0) = true := bne_iff_ne.mpr c7
      by_cases c11 : x4_1.length < 3518437208883
      ·rw [if_pos c11] at H
       have LMc11 := Aside0.mk c11
       clear c11
       obtain ⟨y387, hy387⟩ : ∃ y_ : List (S132), y_ = (x4_1 ++ [(⟨t382, t383, t384⟩ : S132)]) := ⟨_, rfl⟩
       replace H : (impl_ReadFrames.l0 k1 a0 y387 (wrap64 (x5_1 + t385))) = some (r1, r2) := by first | (rw [hy387]; with_reducible exact H) | (have H2_ := (Option.bind_some _ _).symm.trans H; rw [hy387]; with_reducible exact H2_) | (have H2_ := (Option.bind_some _ _).symm.trans H; with_reducible exact H2_) | with_reducible exact H | (rw [hy387]; exact H) | exact H
       have Ny387 := Aside0.mk hy387
       clear hy387
       have H' := Aside0.mk H
       clear H
       go_wp2_with (first | ((with_reducible refine gc_ 96 rfl ?_); refine cl_ Tryz.func96 (impl_readFrame.calls _ _ _ _ _ _ _ A6.out (HTB.out.below bwl_)) ?_; intro w12 hb; replace HO_4 := kr_ HO_4 hb; replace HB := bst_ hb; clear hb) | ((with_reducible refine gd_ 6 rfl ?_); refine be_ 6 #[.int .i64 0, .string (⟨#[]⟩ : ByteArray), .string (⟨#[]⟩ : ByteArray)] 132 ?_; intro gb386 hg w13 hbox hb; replace HO_4 := Aside0.mk (Kd.R_below (Kd.R_elderB (ks_ HO_4) gb386 (Nat.le_of_eq hg.symm)) hb); have BK386 := Aside0.mk (hbox); have GW386 := bsz_ hg; have GE386 := bsz_ hg; replace HB := bst_ hb; clear hb hbox hg; have hcz14_0 := c3_ BK386) | ((with_reducible refine gate_builtin (b := .append) (xs := #[.tmp 20, .tmp 22]) rfl ?_); at_builtin; refine Kd.R_append k132 (w0 := w) w.heap.size rfl (.tmp 20) (.tmp 22) 70 132 (.agg #[(.int .i64 0), (.string ⟨#[]⟩), (.string ⟨#[]⟩)]) 40 rfl Tryz.underlying70 info132 rfl (by decide) (by omega) u4 x4_1 (⟨t382, t383, t384⟩ : S132) [.int .i64 t382, .string t383, .string t384] (fun k_ => k_ ≠ gb386) (fun _ => False) rfl (by first | (go_simp; done) | (go_simp; rfl)) ?aP (fun _ hk => hk.elim) ?aF ?aO ?aB ?aS ?aL ?_; (case aP => exact k132_mkM _ _ _ (⟨t382, t383, t384⟩ : S132)); (case aB => exact bwl_); (case aF => exact (fun k_ hk => Kd.freshB (g := gb386) (o := .cells #[.int .i64 t382, .string t383, .string t384] 132 (0, 0)) (kbp_ BK386) k_ hk)); (case aO => exact (by (with_reducible repeat (first | apply Kd.R_alloc | apply Kd.R_drewN | apply Kd.R_drew)); exact Kd.R_mono (Kd.R_far (p := ⟨gb386, 2, none⟩) (Kd.R_far (p := ⟨gb386, 1, none⟩) (Kd.R_far (p := ⟨gb386, 0, none⟩) (Kd.R_mono HO_4.out (fun k_ hk => (⟨hk, hk.2⟩ : _ ∧ k_ ≠ gb386))) (fun _ hk => hk.2) (.int .i64 t382)) (fun _ hk => hk.2) (.string t383)) (fun _ hk => hk.2) (.string t384)) (fun _ hk => hk.1.2))); (case aS => exact (below_size bwl_)); (case aL => have := LMc11.out; omega); intro v388 w15 ho hb hg hat; rw [← Ny387.out] at ho; replace BK386 := Aside0.mk (blk_grown (g := gb386) (o := .cells #[.int .i64 t382, .string t383, .string t384] 132 (0, 0)) (kbp_ BK386) hg (Kd.R_away HO_4.out (fun _ hk => hk.2))); replace HB := Aside0.mk (hb); have HO389 := Aside0.mk (ho); clear HO_4; clear ho hb hg hat))
       go_roundg k1
       case measure => have := HK1.out; omega
       case rel => exact ⟨(y387), (wrap64 (x5_1 + t385)), re_, H', ⟨by have := HK1.out; omega⟩, ⟨by (with_reducible repeat (first | apply Kd.R_alloc | apply Kd.R_drewN | apply Kd.R_drew)); exact Kd.R_mono HO389.out (fun _ hk => trivial)⟩, ⟨bwl_⟩⟩
      ·rw [if_neg c11] at H
       exact absurd H (by simp)
    ·rw [if_neg c5] at H
     exact absurd H (by simp)
   ·rw [if_neg c4] at H
    exact absurd H (by simp)
def impl_validLog.f (k : Nat) (a0_0 : ByteArray) (a0_1 : ByteArray) : Option (Bool) := (impl_ReadFrames.f k a0_1).bind fun bt391 => (if bt391.2 = (a0_1.size : Int) then (some (decide ((wrap64 ((a0_0.size : Int) + (a0_1.size : Int))) ≤ 4000))) else (some false))
theorem impl_validLog.mono : ∀ a0 a1 k, LeO (impl_validLog.f k a0 a1) (impl_validLog.f (k + 1) a0 a1) := by
 intro a0 a1 k
 unfold impl_validLog.f
 have m0 := @impl_ReadFrames.mono
 exact mo_
theorem impl_validLog.calls (k : Nat) (a0_0 : ByteArray) (a0_1 : ByteArray) (r : Bool) (w : World) (h : impl_validLog.f k a0_0 a0_1 = some r) (hT : Go.Proofs.YtkoeeajciciphaaGreatDoor.Base.Tb2 w) :
  Calls Tryz.prog 27 #[.agg #[.string a0_0, .string a0_1]] w fun e w' => e = .returned (.bool r) ∧ Below w.heap.size w w' := by
 have HTB := Aside0.mk hT
 clear hT
 have hu39 := Tryz.underlying39
 have HB := Aside0.mk (Below.refl w.heap.size w)
 have H := h
 clear h
 unfold impl_validLog.f at H
 revert H
 refine bn_ ?_
 rintro ⟨t391, t392⟩ A2 H
 by_cases c3 : t392 = (a0_1.size : Int)
 ·rw [if_pos c3] at H
  have c3b0 : (t392 == (a0_1.size : Int)) = true := beq_iff_eq.mpr c3
  have c3b1 : (t392 != (a0_1.size : Int)) = false := bne_eq_false_iff_eq.mpr c3
  clear c3
  obtain rfl := Option.some.inj H
  go_enter Tryz.func27, Tryz.ntmps27
  go_wp2_with (first | ((with_reducible refine gd_ 1 rfl ?_); (try (refine gate_guard (by rfl) ?_; dsimp only)); refine bx_ #[.string a0_0, .string a0_1] ?_; intro gb390 hg w4 BK390 hb; have GW390 := bsz_ hg; replace HB := bst_ hb; clear hb hg; have hcz5_0 := c2_ BK390) | ((with_reducible refine gc_ 64 rfl ?_); refine ck_ Tryz.func64 (impl_ReadFrames.calls _ _ _ _ _ A2.out (HTB.out.below bwl_)) ?_; rintro e w6 ⟨v393, rfl, ho0, hb⟩; refine ⟨_, rfl, ?_⟩; have HO394 := kl_ ho0; replace BK390 := bkb_ BK390 hb; replace HB := bst_ hb; clear hb ho0; have hcz7_0 := c2_ BK390))
  go_ret
  exact ⟨rr_, bwl_⟩
 ·rw [if_neg c3] at H
  have c3b0 : (t392 == (a0_1.size : Int)) = false := beq_eq_false_iff_ne.mpr c3
  have c3b1 : (t392 != (a0_1.size : Int)) = true := bne_iff_ne.mpr c3
  obtain rfl := Option.some.inj H
  go_enter Tryz.func27, Tryz.ntmps27
  go_wp2_with (first | ((with_reducible refine gd_ 1 rfl ?_); (try (refine gate_guard (by rfl) ?_; dsimp only)); refine bx_ #[.string a0_0, .string a0_1] ?_; intro gb390 hg w8 BK390 hb; have GW390 := bsz_ hg; replace HB := bst_ hb; clear hb hg; have hcz9_0 := c2_ BK390) | ((with_reducible refine gc_ 64 rfl ?_); refine ck_ Tryz.func64 (impl_ReadFrames.calls _ _ _ _ _ A2.out (HTB.out.below bwl_)) ?_; rintro e w10 ⟨v393, rfl, ho0, hb⟩; refine ⟨_, rfl, ?_⟩; have HO394 := kl_ ho0; replace BK390 := bkb_ BK390 hb; replace HB := bst_ hb; clear hb ho0; have hcz11_0 := c2_ BK390))
  go_ret
  exact ⟨rr_, bwl_⟩
def impl_isWhole.f (k : Nat) (a0_0 : ByteArray) (a0_1 : ByteArray) : Option (Bool) := (impl_ReadFrames.f k a0_0).bind fun bt396 => (some (bt396.2 == (a0_0.size : Int)))
theorem impl_isWhole.mono : ∀ a0 a1 k, LeO (impl_isWhole.f k a0 a1) (impl_isWhole.f (k + 1) a0 a1) := by
 intro a0 a1 k
 unfold impl_isWhole.f
 have m0 := @impl_ReadFrames.mono
 exact mo_
theorem impl_isWhole.calls (k : Nat) (a0_0 : ByteArray) (a0_1 : ByteArray) (r : Bool) (w : World) (h : impl_isWhole.f k a0_0 a0_1 = some r) (hT : Go.Proofs.YtkoeeajciciphaaGreatDoor.Base.Tb2 w) :
  Calls Tryz.prog 28 #[.agg #[.string a0_0, .string a0_1]] w fun e w' => e = .returned (.bool r) ∧ Below w.heap.size w w' := by
 have HTB := Aside0.mk hT
 clear hT
 have hu39 := Tryz.underlying39
 have HB := Aside0.mk (Below.refl w.heap.size w)
 have H := h
 clear h
 unfold impl_isWhole.f at H
 revert H
 refine bn_ ?_
 rintro ⟨t396, t397⟩ A2 H
 obtain rfl := Option.some.inj H
 go_enter Tryz.func28, Tryz.ntmps28
 go_wp2_with (first | ((with_reducible refine gd_ 1 rfl ?_); refine bx_ #[.string a0_0, .string a0_1] ?_; intro gb395 hg w3 BK395 hb; have GW395 := bsz_ hg; replace HB := bst_ hb; clear hb hg; have hcz4_0 := c2_ BK395) | ((with_reducible refine gc_ 64 rfl ?_); refine ck_ Tryz.func64 (impl_ReadFrames.calls _ _ _ _ _ A2.out (HTB.out.below bwl_)) ?_; rintro e w5 ⟨v398, rfl, ho0, hb⟩; refine ⟨_, rfl, ?_⟩; have HO399 := kl_ ho0; replace BK395 := bkb_ BK395 hb; replace HB := bst_ hb; clear hb ho0; have hcz6_0 := c2_ BK395))
 go_ret
 exact ⟨rr_, bwl_⟩
def impl_ValidDesk.f (k : Nat) (a0_0 : Int) (l0_1 : List (S97)) (l0_2 : List ByteArray) (l0_3 : List (S101)) (l0_4 : List (S69)) (a0_5 : ByteArray) (a0_6 : ByteArray) : Option (Bool) := (impl_within.f a0_0 0 20000).bind fun t401 => (if t401 = true then ((impl_ValidRig.f l0_1 l0_2 l0_3).bind fun t402 => (if t402 = true then ((impl_ValidStockCoils.f k l0_4).bind fun t403 => (if t403 = true then ((impl_validLog.f k a0_5 a0_6).bind fun t404 => (if t404 = true then ((impl_isWhole.f k a0_5 a0_6).bind fun t405 => (some t405)) else (some false))) else (some false))) else (some false))) else (some false))
theorem impl_ValidDesk.mono : ∀ a0 a1 a2 a3 a4 a5 a6 k, LeO (impl_ValidDesk.f k a0 a1 a2 a3 a4 a5 a6) (impl_ValidDesk.f (k + 1) a0 a1 a2 a3 a4 a5 a6) := by
 intro a0 a1 a2 a3 a4 a5 a6 k
 unfold impl_ValidDesk.f
 have m0 := @impl_ValidStockCoils.mono
 have m1 := @impl_isWhole.mono
 have m2 := @impl_validLog.mono
 exact mo_
theorem impl_ValidDesk.calls (k : Nat) (a0_0 : Int) (A0_1 : Option Addr) (c0_1 : Nat) (l0_1 : List (S97)) (A0_2 : Option Addr) (c0_2 : Nat) (l0_2 : List ByteArray) (A0_3 : Option Addr) (c0_3 : Nat) (l0_3 : List (S101)) (A0_4 : Option Addr) (c0_4 : Nat) (l0_4 : List (S69)) (a0_5 : ByteArray) (a0_6 : ByteArray) (r : Bool) (w : World) (hr0_1 : Kd.C k97 w A0_1 l0_1.length l0_1) (hc0_1 : l0_1.length ≤ c0_1) (hr0_2 : Kd.C Kd.string w A0_2 l0_2.length l0_2) (hc0_2 : l0_2.length ≤ c0_2) (hr0_3 : Kd.C k101 w A0_3 l0_3.length l0_3) (hc0_3 : l0_3.length ≤ c0_3) (hr0_4 : Kd.C k69 w A0_4 l0_4.length l0_4) (hc0_4 : l0_4.length ≤ c0_4) (h : impl_ValidDesk.f k a0_0 l0_1 l0_2 l0_3 l0_4 a0_5 a0_6 = some r) (hT : Go.Proofs.YtkoeeajciciphaaGreatDoor.Base.Tb2 w) :
  Calls Tryz.prog 9 #[.agg #[.int .i64 a0_0, .slice A0_1 l0_1.length c0_1, .slice A0_2 l0_2.length c0_2, .slice A0_3 l0_3.length c0_3, .slice A0_4 l0_4.length c0_4, .string a0_5, .string a0_6]] w fun e w' => e = .returned (.bool r) ∧ Below w.heap.size w w' := by
 have HTB := Aside0.mk hT
 clear hT
 have hu41 := Tryz.underlying41
 have hu37 := Tryz.underlying37
 have hu39 := Tryz.underlying39
 have HR0_1 := Aside0.mk hr0_1
 have HC0_1 := Aside0.mk hc0_1
 clear hr0_1 hc0_1
 have HR0_2 := Aside0.mk hr0_2
 have HC0_2 := Aside0.mk hc0_2
 clear hr0_2 hc0_2
 have HR0_3 := Aside0.mk hr0_3
 have HC0_3 := Aside0.mk hc0_3
 clear hr0_3 hc0_3
 have HR0_4 := Aside0.mk hr0_4
 have HC0_4 := Aside0.mk hc0_4
 clear hr0_4 hc0_4
 have HB := Aside0.mk (Below.refl w.heap.size w)
 have H := h
 clear h
 unfold impl_ValidDesk.f at H
 revert H
 refine bn_ ?_
 intro t401 A2 H
 revert H
 refine ib_ ?_ ?_ <;> rintro rfl H
 ·revert H
  refine bn_ ?_
  intro t402 A4 H
  revert H
  refine ib_ ?_ ?_ <;> rintro rfl H
  ·revert H
   refine bn_ ?_
   intro t403 A6 H
   revert H
   refine ib_ ?_ ?_ <;> rintro rfl H
   ·revert H
    refine bn_ ?_
    intro t404 A8 H
    revert H
    refine ib_ ?_ ?_ <;> rintro rfl H
    ·revert H
     refine bn_ ?_
     intro t405 A10 H
     obtain rfl := Option.some.inj H
     go_enter Tryz.func9, Tryz.ntmps9
     go_wp2_with (first | ((with_reducible refine gd_ 1 rfl ?_); refine bx_ #[.int .i64 a0_0, .slice A0_1 l0_1.length c0_1, .slice A0_2 l0_2.length c0_2, .slice A0_3 l0_3.length c0_3, .slice A0_4 l0_4.length c0_4, .string a0_5, .string a0_6] ?_; intro gb400 hg w11 BK400 hb; have GW400 := bsz_ hg; replace HB := bst_ hb; clear hb hg; have hcz12_0 := c7_ BK400) | ((with_reducible refine gc_ 24 rfl ?_); refine cl_ Tryz.func24 (impl_within.calls _ _ _ _ _ A2.out) ?_; rintro _ ⟨nd, rfl⟩) | (go_at_call 25; (with_reducible refine (impl_ValidRig.calls _ _ _ _ _ _ _ _ _ _ _ ?side1 ?side2 ?side3 ?side4 ?side5 ?side6 A4.out).mono ?_); (case side1 => repeat (first | exact (Kd.C_below HR0_1.out bwl_) | (with_reducible refine Kd.C_alloc ?_ _) | (with_reducible refine Kd.C_drewN ?_ _) | (with_reducible refine Kd.C_drew ?_))); (case side2 => exact HC0_1.out); (case side3 => repeat (first | exact (Kd.C_below HR0_2.out bwl_) | (with_reducible refine Kd.C_alloc ?_ _) | (with_reducible refine Kd.C_drewN ?_ _) | (with_reducible refine Kd.C_drew ?_))); (case side4 => exact HC0_2.out); (case side5 => repeat (first | exact (Kd.C_below HR0_3.out bwl_) | (with_reducible refine Kd.C_alloc ?_ _) | (with_reducible refine Kd.C_drewN ?_ _) | (with_reducible refine Kd.C_drew ?_))); (case side6 => exact HC0_3.out); rintro e w13 ⟨rfl, hb⟩; replace BK400 := bkb_ BK400 hb; replace HB := bst_ hb; clear hb; have hcz14_0 := c7_ BK400) | (go_at_call 26; refine ca_ (impl_ValidStockCoils.calls _ _ _ _ _ _ (kc_ HR0_4) HC0_4.out A6.out) ?_; intro w15 hb; replace BK400 := bkb_ BK400 hb; replace HB := bst_ hb; clear hb; have hcz16_0 := c7_ BK400) | (go_at_call 27; refine ca_ (impl_validLog.calls _ _ _ _ _ A8.out (HTB.out.below bwl_)) ?_; intro w17 hb; replace BK400 := bkb_ BK400 hb; replace HB := bst_ hb; clear hb; have hcz18_0 := c7_ BK400) | (go_at_call 28; refine ca_ (impl_isWhole.calls _ _ _ _ _ A10.out (HTB.out.below bwl_)) ?_; intro w19 hb; replace BK400 := bkb_ BK400 hb; replace HB := bst_ hb; clear hb))
     go_ret
     exact ⟨rr_, bwl_⟩
    ·obtain rfl := Option.some.inj H
     go_enter Tryz.func9, Tryz.ntmps9
     go_wp2_with (first | ((with_reducible refine gd_ 1 rfl ?_); refine bx_ #[.int .i64 a0_0, .slice A0_1 l0_1.length c0_1, .slice A0_2 l0_2.length c0_2, .slice A0_3 l0_3.length c0_3, .slice A0_4 l0_4.length c0_4, .string a0_5, .string a0_6] ?_; intro gb400 hg w20 BK400 hb; have GW400 := bsz_ hg; replace HB := bst_ hb; clear hb hg; have hcz21_0 := c7_ BK400) | ((with_reducible refine gc_ 24 rfl ?_); refine cl_ Tryz.func24 (impl_within.calls _ _ _ _ _ A2.out) ?_; rintro _ ⟨nd, rfl⟩) | (go_at_call 25; (with_reducible refine (impl_ValidRig.calls _ _ _ _ _ _ _ _ _ _ _ ?side1 ?side2 ?side3 ?side4 ?side5 ?side6 A4.out).mono ?_); (case side1 => repeat (first | exact (Kd.C_below HR0_1.out bwl_) | (with_reducible refine Kd.C_alloc ?_ _) | (with_reducible refine Kd.C_drewN ?_ _) | (with_reducible refine Kd.C_drew ?_))); (case side2 => exact HC0_1.out); (case side3 => repeat (first | exact (Kd.C_below HR0_2.out bwl_) | (with_reducible refine Kd.C_alloc ?_ _) | (with_reducible refine Kd.C_drewN ?_ _) | (with_reducible refine Kd.C_drew ?_))); (case side4 => exact HC0_2.out); (case side5 => repeat (first | exact (Kd.C_below HR0_3.out bwl_) | (with_reducible refine Kd.C_alloc ?_ _) | (with_reducible refine Kd.C_drewN ?_ _) | (with_reducible refine Kd.C_drew ?_))); (case side6 => exact HC0_3.out); rintro e w22 ⟨rfl, hb⟩; replace BK400 := bkb_ BK400 hb; replace HB := bst_ hb; clear hb; have hcz23_0 := c7_ BK400) | (go_at_call 26; refine ca_ (impl_ValidStockCoils.calls _ _ _ _ _ _ (kc_ HR0_4) HC0_4.out A6.out) ?_; intro w24 hb; replace BK400 := bkb_ BK400 hb; replace HB := bst_ hb; clear hb; have hcz25_0 := c7_ BK400) | (go_at_call 27; refine ca_ (impl_validLog.calls _ _ _ _ _ A8.out (HTB.out.below bwl_)) ?_; intro w26 hb; replace BK400 := bkb_ BK400 hb; replace HB := bst_ hb; clear hb))
     go_ret
     exact ⟨rr_, bwl_⟩
   ·obtain rfl := Option.some.inj H
    go_enter Tryz.func9, Tryz.ntmps9
    go_wp2_with (first | ((with_reducible refine gd_ 1 rfl ?_); refine bx_ #[.int .i64 a0_0, .slice A0_1 l0_1.length c0_1, .slice A0_2 l0_2.length c0_2, .slice A0_3 l0_3.length c0_3, .slice A0_4 l0_4.length c0_4, .string a0_5, .string a0_6] ?_; intro gb400 hg w27 BK400 hb; have GW400 := bsz_ hg; replace HB := bst_ hb; clear hb hg; have hcz28_0 := c7_ BK400) | ((with_reducible refine gc_ 24 rfl ?_); refine cl_ Tryz.func24 (impl_within.calls _ _ _ _ _ A2.out) ?_; rintro _ ⟨nd, rfl⟩) | (go_at_call 25; (with_reducible refine (impl_ValidRig.calls _ _ _ _ _ _ _ _ _ _ _ ?side1 ?side2 ?side3 ?side4 ?side5 ?side6 A4.out).mono ?_); (case side1 => repeat (first | exact (Kd.C_below HR0_1.out bwl_) | (with_reducible refine Kd.C_alloc ?_ _) | (with_reducible refine Kd.C_drewN ?_ _) | (with_reducible refine Kd.C_drew ?_))); (case side2 => exact HC0_1.out); (case side3 => repeat (first | exact (Kd.C_below HR0_2.out bwl_) | (with_reducible refine Kd.C_alloc ?_ _) | (with_reducible refine Kd.C_drewN ?_ _) | (with_reducible refine Kd.C_drew ?_))); (case side4 => exact HC0_2.out); (case side5 => repeat (first | exact (Kd.C_below HR0_3.out bwl_) | (with_reducible refine Kd.C_alloc ?_ _) | (with_reducible refine Kd.C_drewN ?_ _) | (with_reducible refine Kd.C_drew ?_))); (case side6 => exact HC0_3.out); rintro e w29 ⟨rfl, hb⟩; replace BK400 := bkb_ BK400 hb; replace HB := bst_ hb; clear hb; have hcz30_0 := c7_ BK400) | (go_at_call 26; refine ca_ (impl_ValidStockCoils.calls _ _ _ _ _ _ (kc_ HR0_4) HC0_4.out A6.out) ?_; intro w31 hb; replace BK400 := bkb_ BK400 hb; replace HB := bst_ hb; clear hb))
    go_ret
    exact ⟨rr_, bwl_⟩
  ·obtain rfl := Option.some.inj H
   go_enter Tryz.func9, Tryz.ntmps9
   go_wp2_with (first | ((with_reducible refine gd_ 1 rfl ?_); refine bx_ #[.int .i64 a0_0, .slice A0_1 l0_1.length c0_1, .slice A0_2 l0_2.length c0_2, .slice A0_3 l0_3.length c0_3, .slice A0_4 l0_4.length c0_4, .string a0_5, .string a0_6] ?_; intro gb400 hg w32 BK400 hb; have GW400 := bsz_ hg; replace HB := bst_ hb; clear hb hg; have hcz33_0 := c7_ BK400) | ((with_reducible refine gc_ 24 rfl ?_); refine cl_ Tryz.func24 (impl_within.calls _ _ _ _ _ A2.out) ?_; rintro _ ⟨nd, rfl⟩) | (go_at_call 25; (with_reducible refine (impl_ValidRig.calls _ _ _ _ _ _ _ _ _ _ _ ?side1 ?side2 ?side3 ?side4 ?side5 ?side6 A4.out).mono ?_); (case side1 => repeat (first | exact (Kd.C_below HR0_1.out bwl_) | (with_reducible refine Kd.C_alloc ?_ _) | (with_reducible refine Kd.C_drewN ?_ _) | (with_reducible refine Kd.C_drew ?_))); (case side2 => exact HC0_1.out); (case side3 => repeat (first | exact (Kd.C_below HR0_2.out bwl_) | (with_reducible refine Kd.C_alloc ?_ _) | (with_reducible refine Kd.C_drewN ?_ _) | (with_reducible refine Kd.C_drew ?_))); (case side4 => exact HC0_2.out); (case side5 => repeat (first | exact (Kd.C_below HR0_3.out bwl_) | (with_reducible refine Kd.C_alloc ?_ _) | (with_reducible refine Kd.C_drewN ?_ _) | (with_reducible refine Kd.C_drew ?_))); (case side6 => exact HC0_3.out); rintro e w34 ⟨rfl, hb⟩; replace BK400 := bkb_ BK400 hb; replace HB := bst_ hb; clear hb))
   go_ret
   exact ⟨rr_, bwl_⟩
 ·obtain rfl := Option.some.inj H
  go_enter Tryz.func9, Tryz.ntmps9
  go_wp2_with (first | ((with_reducible refine gd_ 1 rfl ?_); refine bx_ #[.int .i64 a0_0, .slice A0_1 l0_1.length c0_1, .slice A0_2 l0_2.length c0_2, .slice A0_3 l0_3.length c0_3, .slice A0_4 l0_4.length c0_4, .string a0_5, .string a0_6] ?_; intro gb400 hg w35 BK400 hb; have GW400 := bsz_ hg; replace HB := bst_ hb; clear hb hg; have hcz36_0 := c7_ BK400) | ((with_reducible refine gc_ 24 rfl ?_); refine cl_ Tryz.func24 (impl_within.calls _ _ _ _ _ A2.out) ?_; rintro _ ⟨nd, rfl⟩))
  go_ret
  exact ⟨rr_, bwl_⟩
def impl_LosePower.f (k : Nat) (a0_0 : ByteArray) (a0_1 : ByteArray) (a1 : Int) : Option (ByteArray × ByteArray × Int) := (impl_validLog.f k a0_0 a0_1).bind fun t408 => (if t408 = true then ((impl_within.f a1 0 (a0_1.size : Int)).bind fun t409 => (if t409 = true then (if 0 ≤ a1 then (if a1 ≤ (a0_1.size : Int) then (if a0_0.size + (a0_1.extract 0 (a1 : Int).toNat).size ≤ 9223372036854775807 then (some (a0_0 ++ (a0_1.extract 0 (a1 : Int).toNat), (⟨#[]⟩ : ByteArray), 0)) else (none)) else (none)) else (none)) else (some ((⟨#[]⟩ : ByteArray), (⟨#[]⟩ : ByteArray), 2)))) else (some ((⟨#[]⟩ : ByteArray), (⟨#[]⟩ : ByteArray), 1)))
theorem impl_LosePower.mono : ∀ a0 a1 a2 k, LeO (impl_LosePower.f k a0 a1 a2) (impl_LosePower.f (k + 1) a0 a1 a2) := by
 intro a0 a1 a2 k
 unfold impl_LosePower.f
 have m0 := @impl_validLog.mono
 exact mo_
def impl_LosePower.T5 : Bool × List (List Nat × List Nat) := (true, [([], []), ([0], [0]), ([], []), ([2], [2]), ([], []), ([3, 4], [3, 4]), ([1, 5], [1, 5]), ([6], [6]), ([7, 0, 1, 2, 3, 4, 5, 6, 7], [7]), ([8, 0, 1, 2, 3, 4, 5, 6, 7, 8], [])])
def impl_LosePower.B5 : List Nat := [0, 1, 0, 4, 0, 28, 63, 127, 255, 511]
theorem impl_LosePower.tab5 : rtab .any (opsOf Tryz.f41 5) = impl_LosePower.T5 := by kernel_rfl
theorem impl_LosePower.bits5 : waitsOk impl_LosePower.T5.2 impl_LosePower.B5 = true := by kernel_rfl
theorem impl_LosePower.calls (k : Nat) (a0_0 : ByteArray) (a0_1 : ByteArray) (a1 : Int) (r1 : ByteArray) (r2 : ByteArray) (r3 : Int) (w : World) (h : impl_LosePower.f k a0_0 a0_1 a1 = some (r1, r2, r3)) (hT : Go.Proofs.YtkoeeajciciphaaGreatDoor.Base.Tb2 w) :
  Calls Tryz.prog 41 #[.agg #[.string a0_0, .string a0_1], .int .i64 a1] w fun e w' => e = .returned (.tuple #[.agg #[.string r1, .string r2], .int .i64 r3]) ∧ Below w.heap.size w w' := by
 have HTB := Aside0.mk hT
 clear hT
 have hu39 := Tryz.underlying39
 have HB := Aside0.mk (Below.refl w.heap.size w)
 have H := h
 clear h
 unfold impl_LosePower.f at H
 revert H
 refine bn_ ?_
 intro t408 A3 H
 revert H
 refine ib_ ?_ ?_ <;> rintro rfl H
 ·revert H
  refine bn_ ?_
  intro t409 A5 H
  revert H
  refine ib_ ?_ ?_ <;> rintro rfl H
  ·by_cases c7 : 0 ≤ a1
   ·rw [if_pos c7] at H
    have c7b0 := eq_true c7
    have c7b1 : decide (0 ≤ a1) = true := decide_eq_true c7
    clear c7
    by_cases c8 : a1 ≤ (a0_1.size : Int)
    ·rw [if_pos c8] at H
     have c8b0 := eq_true c8
     have c8b1 : decide (a1 ≤ (a0_1.size : Int)) = true := decide_eq_true c8
     clear c8
     by_cases c9 : a0_0.size + (a0_1.extract 0 (a1 : Int).toNat).size ≤ 9223372036854775807
     ·rw [if_pos c9] at H
      have c9b0 := eq_true c9
      have c9b1 : decide (a0_0.size + (a0_1.extract 0 (a1 : Int).toNat).size ≤ 9223372036854775807) = true := decide_eq_true c9
      try have c9b2 : (9223372036854775807 < a0_0.size + (a0_1.extract 0 (a1 : Int).toNat).size) = False := eq_false (Nat.not_lt.2 c9)
      try have c9b4 : (9223372036854775807 < a0_0.size + (a1).toNat) = False := eq_false (by have h := c9; (try have g6 := of_decide_eq_true c6b1); (try have g7 := of_decide_eq_true c7b1); (try have g8 := of_decide_eq_true c8b1); simp only [ByteArray.size_extract] at h; omega)
      simp only [Option.some.injEq, Prod.mk.injEq] at H
      obtain ⟨rfl, rfl, rfl⟩ := H
      go_enter Tryz.func41, Tryz.ntmps41
      try go_wp2_with (first | ((with_reducible refine gd_ 2 rfl ?_); refine bx_ #[.string a0_0, .string a0_1] ?_; intro gb406 hg w10 BK406 hb; have GW406 := bsz_ hg; replace HB := bst_ hb; clear hb hg) | ((with_reducible refine gd_ 4 rfl ?_); refine bx_ #[.string (⟨#[]⟩ : ByteArray), .string (⟨#[]⟩ : ByteArray)] ?_; intro gb407 hg w11 BK407 hb; have GW407 := bsz_ hg; replace HB := bst_ hb; have NB406_407 := nbl_ BK406 hg; have NB407_406 := nbr_ BK406 hg; replace BK406 := bkb_ BK406 hb; clear hb hg; have hnb12 := NB406_407.out; have hnc12 := NB407_406.out; have hcz13_0 := c2_ BK406) | ((with_reducible refine gc_ 27 rfl ?_); refine cl_ Tryz.func27 (impl_validLog.calls _ _ _ _ _ A3.out (HTB.out.below bwl_)) ?_; intro w14 hb; replace BK406 := bkb_ BK406 hb; replace BK407 := bkb_ BK407 hb; replace HB := bst_ hb; clear hb; have hcz15_0 := c2_ BK406) | ((with_reducible refine gc_ 24 rfl ?_); refine cl_ Tryz.func24 (impl_within.calls _ _ _ _ _ A5.out) ?_; rintro _ ⟨nd, rfl⟩; (try (rw [drewN_self w14]; generalize hq_ : World.drewN w14 _ = w14; have n0_ : Aside0 (w14.heap[gb406]? = some (.cells #[.string a0_0, .string a0_1] 39 (0, 0))) := ⟨by rw [← hq_]; exact (by exact kb_ BK406)⟩; have n1_ : Aside0 (w14.heap[gb407]? = some (.cells #[.string (⟨#[]⟩ : ByteArray), .string (⟨#[]⟩ : ByteArray)] 39 (0, 0))) := ⟨by rw [← hq_]; exact (by exact kb_ BK407)⟩; have n2_ : Aside0 (Below w.heap.size w w14) := ⟨by rw [← hq_]; exact bwl_⟩; clear BK406 BK407 HB hq_; have BK406 := n0_; have BK407 := n1_; have HB := n2_; clear n0_ n1_ n2_))))
      replace BK406 := Aside0.mk (blk_drew BK406.out)
      replace BK407 := Aside0.mk (blk_drew BK407.out)
      replace HB := Aside0.mk (below_drew1 HB.out)
      refine start_ (n := 10) (S := fun w' => w'.cell? ⟨gb406, 0, none⟩ = some (.string a0_0) ∧ w'.cell? ⟨gb406, 1, none⟩ = some (.string a0_1)) (ds := []) (fl 10 0) (by kernel_rfl) rfl rfl ⟨(blk_cell BK406.out 0).trans rfl, (blk_cell BK406.out 1).trans rfl⟩ (fun hHeld => ?_); refine with_tabW impl_LosePower.tab5 impl_LosePower.bits5 (fun HT_ HW_ => ?_)
      generalize w14.drew = w16 at BK406 BK407 HB hHeld ⊢
      refine pu_ (i := 0) (N := some 17) (fl 10 1) (any_of HT_.out (by kernel_rfl)) ?_
      refine pu_ (i := 2) (N := some 19) (fl 10 5) (any_of HT_.out (by kernel_rfl)) ?_
      refine pu_ (i := 4) (N := some 21) (fl 10 21) (any_of HT_.out (by kernel_rfl)) ?_
      refine take_ (i := 1) (N := some 18) (v := ?_) (a' := ?_) (fl 10 23) rfl rfl (take_ofW HT_.out HW_.out (by kernel_rfl)) (fun _ _ _ h => h) (Or.inl ⟨by rfl, ?_⟩) hHeld ?_ ?_
      rotate_left
      ·rintro w' ⟨s0, s1⟩
       go_simp
       with_reducible rfl
      rotate_left
      ·simp only [Act.put, List.setIfInBounds_toArray, List.set_cons_zero, List.set_cons_succ, i64_w, i32_w]
       rfl
      refine take_ (i := 3) (N := some 20) (v := ?_) (a' := ?_) (fl 10 31) rfl rfl (take_ofW HT_.out HW_.out (by kernel_rfl)) (fun _ _ _ h => h) (Or.inl ⟨by rfl, ?_⟩) hHeld ?_ ?_
      rotate_left
      ·rintro w' ⟨s0, s1⟩
       go_simp
       with_reducible rfl
      rotate_left
      ·simp only [Act.put, List.setIfInBounds_toArray, List.set_cons_zero, List.set_cons_succ, i64_w, i32_w]
       rfl
      refine pu_ (i := 5) (N := some 22) (fl 10 63) (any_of HT_.out (by kernel_rfl)) ?_
      refine pu_ (i := 6) (N := some 23) (fl 10 127) (any_of HT_.out (by kernel_rfl)) ?_
      refine pu_ (i := 7) (N := some 24) (fl 10 255) (any_of HT_.out (by kernel_rfl)) ?_
      refine one_ (i := 8) (N := none) (fl 10 511) rfl rfl (one_of HT_.out (by kernel_rfl)) (by decide) (fun K hK => ?_)
      have hs17 : w16.cell? ⟨gb407, 0, none⟩ = some (.string (⟨#[]⟩ : ByteArray)) := (blk_cell BK407.out 0).trans rfl
      have hfs17 := blk_frozen BK407.out 0
      have hns17_0 := NB406_407.out
      have hms17_0 := NB407_406.out
      have hs18 : w16.cell? ⟨gb407, 1, none⟩ = some (.string (⟨#[]⟩ : ByteArray)) := (blk_cell BK407.out 1).trans rfl
      have hfs18 := blk_frozen BK407.out 1
      have hns18_0 := NB406_407.out
      have hms18_0 := NB407_406.out
      refine skip_ (w1 := ?_) (by rfl) rfl ?_ ?_
      rotate_left
      ·go_simp
       rfl
      refine hK.out _ _ ⟨((cell_far (p := ⟨gb407, _, none⟩) NB406_407.out _).trans (((cell_far (p := ⟨gb407, _, none⟩) NB406_407.out _).trans (hHeld.1)))), ((cell_far (p := ⟨gb407, _, none⟩) NB406_407.out _).trans (((cell_far (p := ⟨gb407, _, none⟩) NB406_407.out _).trans (hHeld.2))))⟩ (fun hHeld => ?_)
      clear hK K
      refine pu_ (i := 9) (N := some 5) (fl 10 1023) (any_of HT_.out (by kernel_rfl)) ?_
      refine done_ (done_of HT_.out (by kernel_rfl)) ?_
      try go_wp2
      refine bodyPost_ret (results_ct rfl _ _ gb407 39 #[.string (a0_0 ++ (a0_1.extract 0 (a1 : Int).toNat)), .string (⟨#[]⟩ : ByteArray)] (0, 0) _ rfl (kbp_ BK407) Tryz.underlying39 rfl (by kernel_rfl)) rfl ?_
      exact ⟨rr_, bwl_⟩
     ·rw [if_neg c9] at H
      exact absurd H (by simp)
    ·rw [if_neg c8] at H
     exact absurd H (by simp)
   ·rw [if_neg c7] at H
    exact absurd H (by simp)
  ·simp only [Option.some.injEq, Prod.mk.injEq] at H
   obtain ⟨rfl, rfl, rfl⟩ := H
   go_enter Tryz.func41, Tryz.ntmps41
   go_wp2_with (first | ((with_reducible refine gd_ 2 rfl ?_); refine bx_ #[.string a0_0, .string a0_1] ?_; intro gb406 hg w19 BK406 hb; have GW406 := bsz_ hg; replace HB := bst_ hb; clear hb hg) | ((with_reducible refine gd_ 4 rfl ?_); refine bx_ #[.string (⟨#[]⟩ : ByteArray), .string (⟨#[]⟩ : ByteArray)] ?_; intro gb407 hg w20 BK407 hb; have GW407 := bsz_ hg; replace HB := bst_ hb; have NB406_407 := nbl_ BK406 hg; have NB407_406 := nbr_ BK406 hg; replace BK406 := bkb_ BK406 hb; clear hb hg; have hnb21 := NB406_407.out; have hnc21 := NB407_406.out; have hcz22_0 := c2_ BK406) | ((with_reducible refine gc_ 27 rfl ?_); refine cl_ Tryz.func27 (impl_validLog.calls _ _ _ _ _ A3.out (HTB.out.below bwl_)) ?_; intro w23 hb; replace BK406 := bkb_ BK406 hb; replace BK407 := bkb_ BK407 hb; replace HB := bst_ hb; clear hb; have hcz24_0 := c2_ BK406) | ((with_reducible refine gc_ 24 rfl ?_); refine cl_ Tryz.func24 (impl_within.calls _ _ _ _ _ A5.out) ?_; rintro _ ⟨nd, rfl⟩; (try (rw [drewN_self w23]; generalize hq_ : World.drewN w23 _ = w23; have n0_ : Aside0 (w23.heap[gb406]? = some (.cells #[.string a0_0, .string a0_1] 39 (0, 0))) := ⟨by rw [← hq_]; exact (by exact kb_ BK406)⟩; have n1_ : Aside0 (w23.heap[gb407]? = some (.cells #[.string (⟨#[]⟩ : ByteArray), .string (⟨#[]⟩ : ByteArray)] 39 (0, 0))) := ⟨by rw [← hq_]; exact (by exact kb_ BK407)⟩; have n2_ : Aside0 (Below w.heap.size w w23) := ⟨by rw [← hq_]; exact bwl_⟩; clear BK406 BK407 HB hq_; have BK406 := n0_; have BK407 := n1_; have HB := n2_; clear n0_ n1_ n2_)); have hcz25_0 := c2_ BK407))
   refine bodyPost_ret (results_ct rfl _ _ gb407 39 #[.string (⟨#[]⟩ : ByteArray), .string (⟨#[]⟩ : ByteArray)] (0, 0) _ rfl (kbp_ BK407) Tryz.underlying39 rfl (by kernel_rfl)) rfl ?_
   exact ⟨rr_, bwl_⟩
 ·simp only [Option.some.injEq, Prod.mk.injEq] at H
  obtain ⟨rfl, rfl, rfl⟩ := H
  go_enter Tryz.func41, Tryz.ntmps41
  go_wp2_with (first | ((with_reducible refine gd_ 2 rfl ?_); refine bx_ #[.string a0_0, .string a0_1] ?_; intro gb406 hg w26 BK406 hb; have GW406 := bsz_ hg; replace HB := bst_ hb; clear hb hg) | ((with_reducible refine gd_ 4 rfl ?_); refine bx_ #[.string (⟨#[]⟩ : ByteArray), .string (⟨#[]⟩ : ByteArray)] ?_; intro gb407 hg w27 BK407 hb; have GW407 := bsz_ hg; replace HB := bst_ hb; have NB406_407 := nbl_ BK406 hg; have NB407_406 := nbr_ BK406 hg; replace BK406 := bkb_ BK406 hb; clear hb hg; have hnb28 := NB406_407.out; have hnc28 := NB407_406.out; have hcz29_0 := c2_ BK406) | ((with_reducible refine gc_ 27 rfl ?_); refine cl_ Tryz.func27 (impl_validLog.calls _ _ _ _ _ A3.out (HTB.out.below bwl_)) ?_; intro w30 hb; replace BK406 := bkb_ BK406 hb; replace BK407 := bkb_ BK407 hb; replace HB := bst_ hb; clear hb; have hcz31_0 := c2_ BK407))
  refine bodyPost_ret (results_ct rfl _ _ gb407 39 #[.string (⟨#[]⟩ : ByteArray), .string (⟨#[]⟩ : ByteArray)] (0, 0) _ rfl (kbp_ BK407) Tryz.underlying39 rfl (by kernel_rfl)) rfl ?_
  exact ⟨rr_, bwl_⟩
def impl_RecoverLog.f (k : Nat) (a0_0 : ByteArray) (a0_1 : ByteArray) : Option (ByteArray × ByteArray × Int × Int) := (impl_validLog.f k a0_0 a0_1).bind fun t412 => (if t412 = true then ((impl_ReadFrames.f k a0_0).bind fun bt413 => (if (wrap64 ((a0_0.size : Int) - bt413.2)) > 0 then (if a0_1.toList = ([] : List UInt8) then (if 0 ≤ bt413.2 then (if bt413.2 ≤ (a0_0.size : Int) then (some (a0_0.extract 0 (bt413.2 : Int).toNat, a0_1, wrap64 ((a0_0.size : Int) - bt413.2), 0)) else (none)) else (none)) else (some ((⟨#[]⟩ : ByteArray), (⟨#[]⟩ : ByteArray), 0, 6))) else (if 0 ≤ bt413.2 then (if bt413.2 ≤ (a0_0.size : Int) then (some (a0_0.extract 0 (bt413.2 : Int).toNat, a0_1, wrap64 ((a0_0.size : Int) - bt413.2), 0)) else (none)) else (none)))) else (some ((⟨#[]⟩ : ByteArray), (⟨#[]⟩ : ByteArray), 0, 1)))
theorem impl_RecoverLog.mono : ∀ a0 a1 k, LeO (impl_RecoverLog.f k a0 a1) (impl_RecoverLog.f (k + 1) a0 a1) := by
 intro a0 a1 k
 unfold impl_RecoverLog.f
 have m0 := @impl_ReadFrames.mono
 have m1 := @impl_validLog.mono
 exact mo_
def impl_RecoverLog.T7 : Bool × List (List Nat × List Nat) := (true, [([], []), ([0], [0]), ([], []), ([1, 2], [1, 2]), ([], []), ([4], [4]), ([3, 5], [3, 5]), ([], []), ([6, 0, 1, 2, 3, 4, 5, 6], [6]), ([7, 8, 0, 1, 2, 3, 4, 5, 6, 7, 8], [7]), ([9, 0, 1, 2, 3, 4, 5, 6, 7, 8, 9], [])])
def impl_RecoverLog.B7 : List Nat := [0, 1, 0, 7, 0, 16, 63, 0, 127, 511, 1023]
theorem impl_RecoverLog.tab7 : rtab .any (opsOf Tryz.f42 7) = impl_RecoverLog.T7 := by kernel_rfl
theorem impl_RecoverLog.bits7 : waitsOk impl_RecoverLog.T7.2 impl_RecoverLog.B7 = true := by kernel_rfl
theorem impl_RecoverLog.calls (k : Nat) (a0_0 : ByteArray) (a0_1 : ByteArray) (r1 : ByteArray) (r2 : ByteArray) (r3 : Int) (r4 : Int) (w : World) (h : impl_RecoverLog.f k a0_0 a0_1 = some (r1, r2, r3, r4)) (hT : Go.Proofs.YtkoeeajciciphaaGreatDoor.Base.Tb2 w) :
  Calls Tryz.prog 42 #[.agg #[.string a0_0, .string a0_1]] w fun e w' => e = .returned (.tuple #[.agg #[.string r1, .string r2], .int .i64 r3, .int .i64 r4]) ∧ Below w.heap.size w w' := by
 have HTB := Aside0.mk hT
 clear hT
 have hu39 := Tryz.underlying39
 have HB := Aside0.mk (Below.refl w.heap.size w)
 have H := h
 clear h
 unfold impl_RecoverLog.f at H
 revert H
 refine bn_ ?_
 intro t412 A2 H
 revert H
 refine ib_ ?_ ?_ <;> rintro rfl H
 ·revert H
  refine bn_ ?_
  rintro ⟨t413, t414⟩ A4 H
  revert H
  refine if_ ?_ ?_ <;> intro c5b0 H
  ·by_cases c6 : a0_1.toList = ([] : List UInt8)
   ·rw [if_pos c6] at H
    have c6b0 : (a0_1.toList == ([] : List UInt8)) = true := beq_iff_eq.mpr c6
    have c6b1 : (a0_1.toList != ([] : List UInt8)) = false := bne_eq_false_iff_eq.mpr c6
    clear c6
    by_cases c7 : 0 ≤ t414
    ·rw [if_pos c7] at H
     have c7b0 := eq_true c7
     have c7b1 : decide (0 ≤ t414) = true := decide_eq_true c7
     clear c7
     by_cases c8 : t414 ≤ (a0_0.size : Int)
     ·rw [if_pos c8] at H
      have c8b0 := eq_true c8
      have c8b1 : decide (t414 ≤ (a0_0.size : Int)) = true := decide_eq_true c8
      clear c8
      simp only [Option.some.injEq, Prod.mk.injEq] at H
      obtain ⟨rfl, rfl, rfl, rfl⟩ := H
      go_enter Tryz.func42, Tryz.ntmps42
      try go_wp2_with (first | ((with_reducible refine gd_ 1 rfl ?_); refine bx_ #[.string a0_0, .string a0_1] ?_; intro gb410 hg w9 BK410 hb; have GW410 := bsz_ hg; replace HB := bst_ hb; clear hb hg) | ((with_reducible refine gd_ 2 rfl ?_); refine bx_ #[.string (⟨#[]⟩ : ByteArray), .string (⟨#[]⟩ : ByteArray)] ?_; intro gb411 hg w10 BK411 hb; have GW411 := bsz_ hg; replace HB := bst_ hb; have NB410_411 := nbl_ BK410 hg; have NB411_410 := nbr_ BK410 hg; replace BK410 := bkb_ BK410 hb; clear hb hg; have hnb11 := NB410_411.out; have hnc11 := NB411_410.out; have hcz12_0 := c2_ BK410) | ((with_reducible refine gc_ 27 rfl ?_); refine cl_ Tryz.func27 (impl_validLog.calls _ _ _ _ _ A2.out (HTB.out.below bwl_)) ?_; intro w13 hb; replace BK410 := bkb_ BK410 hb; replace BK411 := bkb_ BK411 hb; replace HB := bst_ hb; clear hb; have hcz14_0 := c2_ BK410) | ((with_reducible refine gc_ 64 rfl ?_); refine ck_ Tryz.func64 (impl_ReadFrames.calls _ _ _ _ _ A4.out (HTB.out.below bwl_)) ?_; rintro e w15 ⟨v415, rfl, ho0, hb⟩; refine ⟨_, rfl, ?_⟩; have HO416 := kl_ ho0; replace BK410 := bkb_ BK410 hb; replace BK411 := bkb_ BK411 hb; replace HB := bst_ hb; clear hb ho0; have hcz16_0 := c2_ BK410))
      replace HO416 := Aside0.mk (Kd.R_drew HO416.out)
      replace BK410 := Aside0.mk (blk_drew BK410.out)
      replace BK411 := Aside0.mk (blk_drew BK411.out)
      replace HB := Aside0.mk (below_drew1 HB.out)
      refine start_ (n := 11) (S := fun w' => w'.cell? ⟨gb410, 0, none⟩ = some (.string a0_0) ∧ w'.cell? ⟨gb410, 1, none⟩ = some (.string a0_1)) (ds := []) (fl 11 0) (by kernel_rfl) rfl rfl ⟨(blk_cell BK410.out 0).trans rfl, (blk_cell BK410.out 1).trans rfl⟩ (fun hHeld => ?_); refine with_tabW impl_RecoverLog.tab7 impl_RecoverLog.bits7 (fun HT_ HW_ => ?_)
      generalize w15.drew = w17 at HO416 BK410 BK411 HB hHeld ⊢
      refine pu_ (i := 0) (N := some 31) (fl 11 1) (any_of HT_.out (by kernel_rfl)) ?_
      refine pu_ (i := 2) (N := some 33) (fl 11 5) (any_of HT_.out (by kernel_rfl)) ?_
      refine pu_ (i := 4) (N := some 35) (fl 11 21) (any_of HT_.out (by kernel_rfl)) ?_
      refine pu_ (i := 7) (N := some 38) (fl 11 149) (any_of HT_.out (by kernel_rfl)) ?_
      refine take_ (i := 1) (N := some 32) (v := ?_) (a' := ?_) (fl 11 151) rfl rfl (take_ofW HT_.out HW_.out (by kernel_rfl)) (fun _ _ _ h => h) (Or.inl ⟨by rfl, ?_⟩) hHeld ?_ ?_
      rotate_left
      ·rintro w' ⟨s0, s1⟩
       go_simp
       with_reducible rfl
      rotate_left
      ·simp only [Act.put, List.setIfInBounds_toArray, List.set_cons_zero, List.set_cons_succ, i64_w, i32_w]
       rfl
      refine pu_ (i := 3) (N := some 34) (fl 11 159) (any_of HT_.out (by kernel_rfl)) ?_
      refine take_ (i := 5) (N := some 36) (v := ?_) (a' := ?_) (fl 11 191) rfl rfl (take_ofW HT_.out HW_.out (by kernel_rfl)) (fun _ _ _ h => h) (Or.inl ⟨by rfl, ?_⟩) hHeld ?_ ?_
      rotate_left
      ·rintro w' ⟨s0, s1⟩
       go_simp
       with_reducible rfl
      rotate_left
      ·simp only [Act.put, List.setIfInBounds_toArray, List.set_cons_zero, List.set_cons_succ, i64_w, i32_w]
       rfl
      refine pu_ (i := 6) (N := some 37) (fl 11 255) (any_of HT_.out (by kernel_rfl)) ?_
      refine one_ (i := 8) (N := none) (fl 11 511) rfl rfl (one_of HT_.out (by kernel_rfl)) (by decide) (fun K hK => ?_)
      have hs18 : w17.cell? ⟨gb411, 0, none⟩ = some (.string (⟨#[]⟩ : ByteArray)) := (blk_cell BK411.out 0).trans rfl
      have hfs18 := blk_frozen BK411.out 0
      have hns18_0 := NB410_411.out
      have hms18_0 := NB411_410.out
      have hs19 : w17.cell? ⟨gb411, 1, none⟩ = some (.string (⟨#[]⟩ : ByteArray)) := (blk_cell BK411.out 1).trans rfl
      have hfs19 := blk_frozen BK411.out 1
      have hns19_0 := NB410_411.out
      have hms19_0 := NB411_410.out
      refine skip_ (w1 := ?_) (by rfl) rfl ?_ ?_
      rotate_left
      ·go_simp
       rfl
      refine hK.out _ _ ⟨((cell_far (p := ⟨gb411, _, none⟩) NB410_411.out _).trans (((cell_far (p := ⟨gb411, _, none⟩) NB410_411.out _).trans (hHeld.1)))), ((cell_far (p := ⟨gb411, _, none⟩) NB410_411.out _).trans (((cell_far (p := ⟨gb411, _, none⟩) NB410_411.out _).trans (hHeld.2))))⟩ (fun hHeld => ?_)
      clear hK K
      refine pu_ (i := 9) (N := some 3) (fl 11 1023) (any_of HT_.out (by kernel_rfl)) ?_
      refine pu_ (i := 10) (N := some 4) (fl 11 2047) (any_of HT_.out (by kernel_rfl)) ?_
      refine done_ (done_of HT_.out (by kernel_rfl)) ?_
      try go_wp2
      refine bodyPost_ret (results_ctt rfl _ _ gb411 39 #[.string (a0_0.extract 0 (t414 : Int).toNat), .string a0_1] (0, 0) _ rfl (kbp_ BK411) Tryz.underlying39 rfl (by kernel_rfl)) rfl ?_
      exact ⟨rr_, bwl_⟩
     ·rw [if_neg c8] at H
      exact absurd H (by simp)
    ·rw [if_neg c7] at H
     exact absurd H (by simp)
   ·rw [if_neg c6] at H
    have c6b0 : (a0_1.toList == ([] : List UInt8)) = false := beq_eq_false_iff_ne.mpr c6
    have c6b1 : (a0_1.toList != ([] : List UInt8)) = true := bne_iff_ne.mpr c6
    simp only [Option.some.injEq, Prod.mk.injEq] at H
    obtain ⟨rfl, rfl, rfl, rfl⟩ := H
    go_enter Tryz.func42, Tryz.ntmps42
    go_wp2_with (first | ((with_reducible refine gd_ 1 rfl ?_); refine bx_ #[.string a0_0, .string a0_1] ?_; intro gb410 hg w20 BK410 hb; have GW410 := bsz_ hg; replace HB := bst_ hb; clear hb hg) | ((with_reducible refine gd_ 2 rfl ?_); refine bx_ #[.string (⟨#[]⟩ : ByteArray), .string (⟨#[]⟩ : ByteArray)] ?_; intro gb411 hg w21 BK411 hb; have GW411 := bsz_ hg; replace HB := bst_ hb; have NB410_411 := nbl_ BK410 hg; have NB411_410 := nbr_ BK410 hg; replace BK410 := bkb_ BK410 hb; clear hb hg; have hnb22 := NB410_411.out; have hnc22 := NB411_410.out; have hcz23_0 := c2_ BK410) | ((with_reducible refine gc_ 27 rfl ?_); refine cl_ Tryz.func27 (impl_validLog.calls _ _ _ _ _ A2.out (HTB.out.below bwl_)) ?_; intro w24 hb; replace BK410 := bkb_ BK410 hb; replace BK411 := bkb_ BK411 hb; replace HB := bst_ hb; clear hb; have hcz25_0 := c2_ BK410) | ((with_reducible refine gc_ 64 rfl ?_); refine ck_ Tryz.func64 (impl_ReadFrames.calls _ _ _ _ _ A4.out (HTB.out.below bwl_)) ?_; rintro e w26 ⟨v415, rfl, ho0, hb⟩; refine ⟨_, rfl, ?_⟩; have HO416 := kl_ ho0; replace BK410 := bkb_ BK410 hb; replace BK411 := bkb_ BK411 hb; replace HB := bst_ hb; clear hb ho0; have hcz27_0 := c2_ BK410; have hcz27_1 := c2_ BK411))
    refine bodyPost_ret (results_ctt rfl _ _ gb411 39 #[.string (⟨#[]⟩ : ByteArray), .string (⟨#[]⟩ : ByteArray)] (0, 0) _ rfl (kbp_ BK411) Tryz.underlying39 rfl (by kernel_rfl)) rfl ?_
    exact ⟨rr_, bwl_⟩
  ·by_cases c29 : 0 ≤ t414
   ·rw [if_pos c29] at H
    have c29b0 := eq_true c29
    have c29b1 : decide (0 ≤ t414) = true := decide_eq_true c29
    clear c29
    by_cases c30 : t414 ≤ (a0_0.size : Int)
    ·rw [if_pos c30] at H
     have c30b0 := eq_true c30
     have c30b1 : decide (t414 ≤ (a0_0.size : Int)) = true := decide_eq_true c30
     clear c30
     simp only [Option.some.injEq, Prod.mk.injEq] at H
     obtain ⟨rfl, rfl, rfl, rfl⟩ := H
     go_enter Tryz.func42, Tryz.ntmps42
     try go_wp2_with (first | ((with_reducible refine gd_ 1 rfl ?_); refine bx_ #[.string a0_0, .string a0_1] ?_; intro gb410 hg w31 BK410 hb; have GW410 := bsz_ hg; replace HB := bst_ hb; clear hb hg) | ((with_reducible refine gd_ 2 rfl ?_); refine bx_ #[.string (⟨#[]⟩ : ByteArray), .string (⟨#[]⟩ : ByteArray)] ?_; intro gb411 hg w32 BK411 hb; have GW411 := bsz_ hg; replace HB := bst_ hb; have NB410_411 := nbl_ BK410 hg; have NB411_410 := nbr_ BK410 hg; replace BK410 := bkb_ BK410 hb; clear hb hg; have hnb33 := NB410_411.out; have hnc33 := NB411_410.out; have hcz34_0 := c2_ BK410) | ((with_reducible refine gc_ 27 rfl ?_); refine cl_ Tryz.func27 (impl_validLog.calls _ _ _ _ _ A2.out (HTB.out.below bwl_)) ?_; intro w35 hb; replace BK410 := bkb_ BK410 hb; replace BK411 := bkb_ BK411 hb; replace HB := bst_ hb; clear hb; have hcz36_0 := c2_ BK410) | ((with_reducible refine gc_ 64 rfl ?_); refine ck_ Tryz.func64 (impl_ReadFrames.calls _ _ _ _ _ A4.out (HTB.out.below bwl_)) ?_; rintro e w37 ⟨v415, rfl, ho0, hb⟩; refine ⟨_, rfl, ?_⟩; have HO416 := kl_ ho0; replace BK410 := bkb_ BK410 hb; replace BK411 := bkb_ BK411 hb; replace HB := bst_ hb; clear hb ho0; have hcz38_0 := c2_ BK410))
     replace HO416 := Aside0.mk (Kd.R_drew HO416.out)
     replace BK410 := Aside0.mk (blk_drew BK410.out)
     replace BK411 := Aside0.mk (blk_drew BK411.out)
     replace HB := Aside0.mk (below_drew1 HB.out)
     refine start_ (n := 11) (S := fun w' => w'.cell? ⟨gb410, 0, none⟩ = some (.string a0_0) ∧ w'.cell? ⟨gb410, 1, none⟩ = some (.string a0_1)) (ds := []) (fl 11 0) (by kernel_rfl) rfl rfl ⟨(blk_cell BK410.out 0).trans rfl, (blk_cell BK410.out 1).trans rfl⟩ (fun hHeld => ?_); refine with_tabW impl_RecoverLog.tab7 impl_RecoverLog.bits7 (fun HT_ HW_ => ?_)
     generalize w37.drew = w39 at HO416 BK410 BK411 HB hHeld ⊢
     refine pu_ (i := 0) (N := some 31) (fl 11 1) (any_of HT_.out (by kernel_rfl)) ?_
     refine pu_ (i := 2) (N := some 33) (fl 11 5) (any_of HT_.out (by kernel_rfl)) ?_
     refine pu_ (i := 4) (N := some 35) (fl 11 21) (any_of HT_.out (by kernel_rfl)) ?_
     refine pu_ (i := 7) (N := some 38) (fl 11 149) (any_of HT_.out (by kernel_rfl)) ?_
     refine take_ (i := 1) (N := some 32) (v := ?_) (a' := ?_) (fl 11 151) rfl rfl (take_ofW HT_.out HW_.out (by kernel_rfl)) (fun _ _ _ h => h) (Or.inl ⟨by rfl, ?_⟩) hHeld ?_ ?_
     rotate_left
     ·rintro w' ⟨s0, s1⟩
      go_simp
      with_reducible rfl
     rotate_left
     ·simp only [Act.put, List.setIfInBounds_toArray, List.set_cons_zero, List.set_cons_succ, i64_w, i32_w]
      rfl
     refine pu_ (i := 3) (N := some 34) (fl 11 159) (any_of HT_.out (by kernel_rfl)) ?_
     refine take_ (i := 5) (N := some 36) (v := ?_) (a' := ?_) (fl 11 191) rfl rfl (take_ofW HT_.out HW_.out (by kernel_rfl)) (fun _ _ _ h => h) (Or.inl ⟨by rfl, ?_⟩) hHeld ?_ ?_
     rotate_left
     ·rintro w' ⟨s0, s1⟩
      go_simp
      with_reducible rfl
     rotate_left
     ·simp only [Act.put, List.setIfInBounds_toArray, List.set_cons_zero, List.set_cons_succ, i64_w, i32_w]
      rfl
     refine pu_ (i := 6) (N := some 37) (fl 11 255) (any_of HT_.out (by kernel_rfl)) ?_
     refine one_ (i := 8) (N := none) (fl 11 511) rfl rfl (one_of HT_.out (by kernel_rfl)) (by decide) (fun K hK => ?_)
     have hs40 : w39.cell? ⟨gb411, 0, none⟩ = some (.string (⟨#[]⟩ : ByteArray)) := (blk_cell BK411.out 0).trans rfl
     have hfs40 := blk_frozen BK411.out 0
     have hns40_0 := NB410_411.out
     have hms40_0 := NB411_410.out
     have hs41 : w39.cell? ⟨gb411, 1, none⟩ = some (.string (⟨#[]⟩ : ByteArray)) := (blk_cell BK411.out 1).trans rfl
     have hfs41 := blk_frozen BK411.out 1
     have hns41_0 := NB410_411.out
     have hms41_0 := NB411_410.out
     refine skip_ (w1 := ?_) (by rfl) rfl ?_ ?_
     rotate_left
     ·go_simp
      rfl
     refine hK.out _ _ ⟨((cell_far (p := ⟨gb411, _, none⟩) NB410_411.out _).trans (((cell_far (p := ⟨gb411, _, none⟩) NB410_411.out _).trans (hHeld.1)))), ((cell_far (p := ⟨gb411, _, none⟩) NB410_411.out _).trans (((cell_far (p := ⟨gb411, _, none⟩) NB410_411.out _).trans (hHeld.2))))⟩ (fun hHeld => ?_)
     clear hK K
     refine pu_ (i := 9) (N := some 3) (fl 11 1023) (any_of HT_.out (by kernel_rfl)) ?_
     refine pu_ (i := 10) (N := some 4) (fl 11 2047) (any_of HT_.out (by kernel_rfl)) ?_
     refine done_ (done_of HT_.out (by kernel_rfl)) ?_
     try go_wp2
     refine bodyPost_ret (results_ctt rfl _ _ gb411 39 #[.string (a0_0.extract 0 (t414 : Int).toNat), .string a0_1] (0, 0) _ rfl (kbp_ BK411) Tryz.underlying39 rfl (by kernel_rfl)) rfl ?_
     exact ⟨rr_, bwl_⟩
    ·rw [if_neg c30] at H
     exact absurd H (by simp)
   ·rw [if_neg c29] at H
    exact absurd H (by simp)
 ·simp only [Option.some.injEq, Prod.mk.injEq] at H
  obtain ⟨rfl, rfl, rfl, rfl⟩ := H
  go_enter Tryz.func42, Tryz.ntmps42
  go_wp2_with (first | ((with_reducible refine gd_ 1 rfl ?_); refine bx_ #[.string a0_0, .string a0_1] ?_; intro gb410 hg w42 BK410 hb; have GW410 := bsz_ hg; replace HB := bst_ hb; clear hb hg) | ((with_reducible refine gd_ 2 rfl ?_); refine bx_ #[.string (⟨#[]⟩ : ByteArray), .string (⟨#[]⟩ : ByteArray)] ?_; intro gb411 hg w43 BK411 hb; have GW411 := bsz_ hg; replace HB := bst_ hb; have NB410_411 := nbl_ BK410 hg; have NB411_410 := nbr_ BK410 hg; replace BK410 := bkb_ BK410 hb; clear hb hg; have hnb44 := NB410_411.out; have hnc44 := NB411_410.out; have hcz45_0 := c2_ BK410) | ((with_reducible refine gc_ 27 rfl ?_); refine cl_ Tryz.func27 (impl_validLog.calls _ _ _ _ _ A2.out (HTB.out.below bwl_)) ?_; intro w46 hb; replace BK410 := bkb_ BK410 hb; replace BK411 := bkb_ BK411 hb; replace HB := bst_ hb; clear hb; have hcz47_0 := c2_ BK411))
  refine bodyPost_ret (results_ctt rfl _ _ gb411 39 #[.string (⟨#[]⟩ : ByteArray), .string (⟨#[]⟩ : ByteArray)] (0, 0) _ rfl (kbp_ BK411) Tryz.underlying39 rfl (by kernel_rfl)) rfl ?_
  exact ⟨rr_, bwl_⟩
section
open Go.Proofs.YtkoeeajciciphaaGreatDoor.Base
structure CpI (w0 : World) (g gc : Nat) (A0 A1 A2 : Option Addr) (c0 c1 c2 : Nat) (X : RT) (L : Nat → Bool) (s3 s4 s5 s6 s7 s8 s9 s10 s11 s12 s13 s14 s15 : Value) (w : World) : Prop where
 low : Below w0.heap.size w0 w
 sb : w.heap[g]? = some (.cells #[.slice A0 X.1.length c0, .slice A1 X.2.1.length c1, .slice A2 X.2.2.length c2] 37 (0, 0))
 m4 : L 1 = true → s4 = .pointer (some ⟨g, 0, none⟩)
 m5 : L 2 = true → s5 = .slice A0 X.1.length c0
 m8 : L 5 = true → s8 = .pointer (some ⟨g, 1, none⟩)
 m9 : L 6 = true → s9 = .slice A1 X.2.1.length c1
 m12 : L 9 = true → s12 = .pointer (some ⟨g, 2, none⟩)
 m13 : L 10 = true → s13 = .slice A2 X.2.2.length c2
 b0 : L 0 = true → L 3 = false → Kd.R k97 97 w w0.heap.size (fun _ => True) s3 ([] : List S97)
 a0 : L 3 = true → Kd.R k97 97 w w0.heap.size (fun _ => True) s6 X.1
 b1 : L 4 = true → L 7 = false → Kd.R Kd.string 9 w w0.heap.size (fun _ => True) s7 ([] : List ByteArray)
 a1 : L 7 = true → Kd.R Kd.string 9 w w0.heap.size (fun _ => True) s10 X.2.1
 b2 : L 8 = true → L 11 = false → Kd.R k101 101 w w0.heap.size (fun _ => True) s11 ([] : List S101)
 a2 : L 11 = true → Kd.R k101 101 w w0.heap.size (fun _ => True) s14 X.2.2
 bd : L 12 = true → s15 = .agg #[s6, s10, s14]
 bw : L 12 = true → L 3 = true ∧ L 7 = true ∧ L 11 = true
 bx : L 13 = true → L 12 = true
 cz : L 13 = false → w.heap[gc]? = some (.cells #[.slice none 0 0, .slice none 0 0, .slice none 0 0] 37 (0, 0))
 ce : L 13 = true → w.heap[gc]? = some (.cells #[s6, s10, s14] 37 (0, 0))
theorem copyRig_c (A0 A1 A2 : Option Addr) (c0 c1 c2 : Nat) (X : RT) (w : World) (hr0 : Kd.C k97 w A0 X.1.length X.1) (hr1 : Kd.C Kd.string w A1 X.2.1.length X.2.1) (hr2 : Kd.C k101 w A2 X.2.2.length X.2.2) (hlen : X.1.length ≤ 1048576 ∧ X.2.1.length ≤ 1048576 ∧ X.2.2.length ≤ 1048576) :
  Calls Tryz.prog 73 #[.agg #[.slice A0 X.1.length c0, .slice A1 X.2.1.length c1, .slice A2 X.2.2.length c2]] w fun e w' => ∃ v0 v1 v2 : Value, e = .returned (.agg #[v0, v1, v2]) ∧ Kd.R k97 97 w' w.heap.size (fun _ => True) v0 X.1 ∧ Kd.R Kd.string 9 w' w.heap.size (fun _ => True) v1 X.2.1 ∧ Kd.R k101 101 w' w.heap.size (fun _ => True) v2 X.2.2 ∧ Below w.heap.size w w' := by
 obtain ⟨hl0, hl1, hl2⟩ := hlen
 have hu := Tryz.underlying37
 go_enter Tryz.func73, Tryz.ntmps73
 go_upto_region 1 with (first | ((with_reducible refine gd_ 1 rfl ?_); refine be_ 1 #[.slice A0 X.1.length c0, .slice A1 X.2.1.length c1, .slice A2 X.2.2.length c2] 37 ?_; intro g hg w1 hbox1 hb1; clear hg) | ((with_reducible refine gd_ 2 rfl ?_); refine be_ 2 #[.slice none 0 0, .slice none 0 0, .slice none 0 0] 37 ?_; intro gc hg w2 hbox hb; have GC := Nat.le_trans (below_size hb1) (Nat.le_of_eq hg.symm); have NG : g ≠ gc := (fun e => by have h1 := blk_lt hbox1; have h2 := Nat.le_of_eq hg.symm; omega); clear hg) | fail)
 refine inv_ (fun L a w' => ∃ s3 s4 s5 s6 s7 s8 s9 s10 s11 s12 s13 s14 s15 : Value, a = { tmps := #[.agg #[.slice A0 X.1.length c0, .slice A1 X.2.1.length c1, .slice A2 X.2.2.length c2], .pointer (some ⟨g, 0, none⟩), .pointer (some ⟨gc, 0, none⟩), s3, s4, s5, s6, s7, s8, s9, s10, s11, s12, s13, s14, s15], defers := [] } ∧ CpI w g gc A0 A1 A2 c0 c1 c2 X L s3 s4 s5 s6 s7 s8 s9 s10 s11 s12 s13 s14 s15 w') (by kernel_rfl) (by kernel_rfl) ?h0 ?hdone ?hstep
 case h0 =>
  refine ⟨_, _, _, _, _, _, _, _, _, _, _, _, _, rfl, ?_⟩
  exact ⟨below_drew1 (below_step hb1 hb), blk_drew (blk_below hbox1 hb), fun h => absurd h (by simp), fun h => absurd h (by simp), fun h => absurd h (by simp), fun h => absurd h (by simp), fun h => absurd h (by simp), fun h => absurd h (by simp), fun h => absurd h (by simp), fun h => absurd h (by simp), fun h => absurd h (by simp), fun h => absurd h (by simp), fun h => absurd h (by simp), fun h => absurd h (by simp), fun h => absurd h (by simp), fun h => absurd h (by simp), fun h => absurd h (by simp), fun _ => blk_drew hbox, fun h => absurd h (by simp)⟩
 case hdone =>
  rintro a w9 ⟨s3, s4, s5, s6, s7, s8, s9, s10, s11, s12, s13, s14, s15, rfl, h⟩
  have h0 := h.a0 rfl
  have h1 := h.a1 rfl
  have h2 := h.a2 rfl
  have hc := h.ce rfl
  have hlow := h.low
  clear h
  go_wp2
  refine bodyPost_ret (results_cell_row rfl _ _ gc 37 #[s6, s10, s14] (0, 0) _ rfl hc Tryz.underlying37 rfl (by kernel_rfl)) rfl ?_
  exact ⟨_, _, _, rfl, h0, h1, h2, hlow⟩
 case hstep =>
  intro L a w' i o ho hL hd hI
  have hi : i < 14 := (Array.getElem?_eq_some_iff.1 ho).1
  obtain ⟨s3, s4, s5, s6, s7, s8, s9, s10, s11, s12, s13, s14, s15, rfl, h⟩ := hI
  obtain rfl | rfl | rfl | rfl | rfl | rfl | rfl | rfl | rfl | rfl | rfl | rfl | rfl | rfl : i = 0 ∨ i = 1 ∨ i = 2 ∨ i = 3 ∨ i = 4 ∨ i = 5 ∨ i = 6 ∨ i = 7 ∨ i = 8 ∨ i = 9 ∨ i = 10 ∨ i = 11 ∨ i = 12 ∨ i = 13 := by omega
  ·obtain rfl := Option.some.inj ho
   clear hd
   refine wpOp_step rfl fun K hK => ?_
   refine Kd.R_lit_step k97 _ 97 ?hg (N := 3) ?hd (xs := ([] : List S97)) (inner := []) (ok := fun _ => True) (okp := fun _ => True) ?hr ?hp (fun _ hk => hk) trivial (Below.refl _ _) (Nat.le_refl _) (by simp) ?_
   (case hd => rfl)
   (case hg => rfl)
   (case hr => first | (go_simp; done) | (go_simp; rfl))
   (case hp => exact (Reps.none _ _))
   intro v w1 ho hb hg_ hnew_
   refine hK _ _ ⟨v, s4, s5, s6, s7, s8, s9, s10, s11, s12, s13, s14, s15, (by show Act.put _ (some 3) _ = _; simp only [Act.put, List.setIfInBounds_toArray, List.set_cons_zero, List.set_cons_succ]), ?_⟩
   exact ⟨below_step h.low hb, blk_below (h.sb) hb, fun hL => h.m4 (sl_ hL), fun hL => h.m5 (sl_ hL), fun hL => h.m8 (sl_ hL), fun hL => h.m9 (sl_ hL), fun hL => h.m12 (sl_ hL), fun hL => h.m13 (sl_ hL), fun _ _ => Kd.R_lower ho (below_size h.low), fun hL => Kd.R_below (h.a0 (sl_ hL)) hb, fun hL hM => Kd.R_below (h.b1 (sl_ hL) (by simpa using hM)) hb, fun hL => Kd.R_below (h.a1 (sl_ hL)) hb, fun hL hM => Kd.R_below (h.b2 (sl_ hL) (by simpa using hM)) hb, fun hL => Kd.R_below (h.a2 (sl_ hL)) hb, fun hL => h.bd (sl_ hL), fun hL => (h.bw (sl_ hL)).imp (fun h => by simp [h]) (And.imp (fun h => by simp [h]) (fun h => by simp [h])), fun hL => by have := h.bx (sl_ hL); simp [this], fun hL => blk_below (h.cz (sl_ hL)) hb, fun hL => blk_below (h.ce (sl_ hL)) hb⟩
  ·obtain rfl := Option.some.inj ho
   clear hd
   refine wpOp_step rfl fun K hK => ?_
   refine value_ (w1 := w') (v := .pointer (some ⟨g, 0, none⟩)) (by rfl) rfl ?_ ?_
   ·go_simp
    try rfl
   ·refine hK _ _ ⟨s3, (.pointer (some ⟨g, 0, none⟩)), s5, s6, s7, s8, s9, s10, s11, s12, s13, s14, s15, (by show Act.put _ (some 4) _ = _; simp only [Act.put, List.setIfInBounds_toArray, List.set_cons_zero, List.set_cons_succ]), ?_⟩
    exact ⟨h.low, h.sb, fun _ => rfl, fun hL => h.m5 (sl_ hL), fun hL => h.m8 (sl_ hL), fun hL => h.m9 (sl_ hL), fun hL => h.m12 (sl_ hL), fun hL => h.m13 (sl_ hL), fun hL hM => h.b0 (sl_ hL) (by simpa using hM), fun hL => h.a0 (sl_ hL), fun hL hM => h.b1 (sl_ hL) (by simpa using hM), fun hL => h.a1 (sl_ hL), fun hL hM => h.b2 (sl_ hL) (by simpa using hM), fun hL => h.a2 (sl_ hL), fun hL => h.bd (sl_ hL), fun hL => (h.bw (sl_ hL)).imp (fun h => by simp [h]) (And.imp (fun h => by simp [h]) (fun h => by simp [h])), fun hL => by have := h.bx (sl_ hL); simp [this], fun hL => h.cz (sl_ hL), fun hL => h.ce (sl_ hL)⟩
  ·obtain rfl := Option.some.inj ho
   have d1 : L 1 = true := hd { on := 1, ground := Go.Ground.data } (by simp) rfl
   clear hd
   obtain rfl := h.m4 d1
   have hcl := (blk_cell h.sb 0).trans rfl
   refine wpOp_step rfl fun K hK => ?_
   refine value_ (w1 := w') (v := .slice A0 X.1.length c0) (by rfl) rfl ?_ ?_
   ·go_simp
    try rfl
   ·refine hK _ _ ⟨s3, (.pointer (some ⟨g, 0, none⟩)), (.slice A0 X.1.length c0), s6, s7, s8, s9, s10, s11, s12, s13, s14, s15, (by show Act.put _ (some 5) _ = _; simp only [Act.put, List.setIfInBounds_toArray, List.set_cons_zero, List.set_cons_succ]), ?_⟩
    exact ⟨h.low, h.sb, fun hL => h.m4 (sl_ hL), fun _ => rfl, fun hL => h.m8 (sl_ hL), fun hL => h.m9 (sl_ hL), fun hL => h.m12 (sl_ hL), fun hL => h.m13 (sl_ hL), fun hL hM => h.b0 (sl_ hL) (by simpa using hM), fun hL => h.a0 (sl_ hL), fun hL hM => h.b1 (sl_ hL) (by simpa using hM), fun hL => h.a1 (sl_ hL), fun hL hM => h.b2 (sl_ hL) (by simpa using hM), fun hL => h.a2 (sl_ hL), fun hL => h.bd (sl_ hL), fun hL => (h.bw (sl_ hL)).imp (fun h => by simp [h]) (And.imp (fun h => by simp [h]) (fun h => by simp [h])), fun hL => by have := h.bx (sl_ hL); simp [this], fun hL => h.cz (sl_ hL), fun hL => h.ce (sl_ hL)⟩
  ·obtain rfl := Option.some.inj ho
   have d0 : L 0 = true := hd { on := 0, ground := Go.Ground.data } (by simp) rfl
   have d2 : L 2 = true := hd { on := 2, ground := Go.Ground.data } (by simp) rfl
   clear hd
   obtain rfl := h.m5 d2
   have hO := h.b0 d0 hL
   refine wpOp_step rfl fun K hK => ?_
   refine Kd.R_append_rows_step k97 (w0 := w) w.heap.size (by rfl) (.tmp 3) (.tmp 5) 34 97 (.agg #[(.string ⟨#[]⟩), (.string ⟨#[]⟩), (.int .i64 0)]) 40 rfl Tryz.underlying34 info97 rfl (by decide) (by omega) s3 [] X.1 _ _ _ (fun _ => True) (fun _ => False) rfl rfl ?aO ?aR (fun _ _ h => h) (fun _ h => h.elim) ?aF ?aB ?aS ?aL ?_
   case aR => exact Kd.C_below hr0 h.low
   case aB => exact h.low
   case aF => exact (fun _ _ => trivial)
   case aO => exact hO
   case aS => exact below_size h.low
   case aL => simp; omega
   intro v w1 ho hb hg hat
   rw [List.nil_append] at ho
   refine hK _ _ ⟨s3, s4, (.slice A0 X.1.length c0), v, s7, s8, s9, s10, s11, s12, s13, s14, s15, (by show Act.put _ (some 6) _ = _; simp only [Act.put, List.setIfInBounds_toArray, List.set_cons_zero, List.set_cons_succ]), ?_⟩
   exact ⟨hb, blk_grown (h.sb) hg (Kd.R_ne hO (h.sb) (by decide)), fun hL => h.m4 (sl_ hL), fun hL => h.m5 (sl_ hL), fun hL => h.m8 (sl_ hL), fun hL => h.m9 (sl_ hL), fun hL => h.m12 (sl_ hL), fun hL => h.m13 (sl_ hL), fun _ hM => absurd hM (by simp), fun _ => ho, fun hL hM => Kd.R_over (h.b1 (sl_ hL) (by simpa using hM)) hO (fun q hq => eTy rfl (by decide) hq) hg, fun hL => Kd.R_over (h.a1 (sl_ hL)) hO (fun q hq => eTy rfl (by decide) hq) hg, fun hL hM => Kd.R_over (h.b2 (sl_ hL) (by simpa using hM)) hO (fun q hq => eTy rfl (by decide) hq) hg, fun hL => Kd.R_over (h.a2 (sl_ hL)) hO (fun q hq => eTy rfl (by decide) hq) hg, fun hM => absurd (h.bw (by simpa using hM)).1 (by simp [hL]), fun hL => (h.bw (sl_ hL)).imp (fun h => by simp [h]) (And.imp (fun h => by simp [h]) (fun h => by simp [h])), fun hL => by have := h.bx (sl_ hL); simp [this], fun hL => blk_grown (h.cz (sl_ hL)) hg (Kd.R_ne hO (h.cz (sl_ hL)) (by decide)), fun hM => absurd (h.bw (h.bx (by simpa using hM))).1 (by simp [hL])⟩
  ·obtain rfl := Option.some.inj ho
   clear hd
   refine wpOp_step rfl fun K hK => ?_
   refine Kd.R_lit_step Kd.string _ 9 ?hg (N := 7) ?hd (xs := ([] : List ByteArray)) (inner := []) (ok := fun _ => True) (okp := fun _ => True) ?hr ?hp (fun _ hk => hk) trivial (Below.refl _ _) (Nat.le_refl _) (by simp) ?_
   (case hd => rfl)
   (case hg => rfl)
   (case hr => first | (go_simp; done) | (go_simp; rfl))
   (case hp => exact (Reps.none _ _))
   intro v w1 ho hb hg_ hnew_
   refine hK _ _ ⟨s3, s4, s5, s6, v, s8, s9, s10, s11, s12, s13, s14, s15, (by show Act.put _ (some 7) _ = _; simp only [Act.put, List.setIfInBounds_toArray, List.set_cons_zero, List.set_cons_succ]), ?_⟩
   exact ⟨below_step h.low hb, blk_below (h.sb) hb, fun hL => h.m4 (sl_ hL), fun hL => h.m5 (sl_ hL), fun hL => h.m8 (sl_ hL), fun hL => h.m9 (sl_ hL), fun hL => h.m12 (sl_ hL), fun hL => h.m13 (sl_ hL), fun hL hM => Kd.R_below (h.b0 (sl_ hL) (by simpa using hM)) hb, fun hL => Kd.R_below (h.a0 (sl_ hL)) hb, fun _ _ => Kd.R_lower ho (below_size h.low), fun hL => Kd.R_below (h.a1 (sl_ hL)) hb, fun hL hM => Kd.R_below (h.b2 (sl_ hL) (by simpa using hM)) hb, fun hL => Kd.R_below (h.a2 (sl_ hL)) hb, fun hL => h.bd (sl_ hL), fun hL => (h.bw (sl_ hL)).imp (fun h => by simp [h]) (And.imp (fun h => by simp [h]) (fun h => by simp [h])), fun hL => by have := h.bx (sl_ hL); simp [this], fun hL => blk_below (h.cz (sl_ hL)) hb, fun hL => blk_below (h.ce (sl_ hL)) hb⟩
  ·obtain rfl := Option.some.inj ho
   clear hd
   refine wpOp_step rfl fun K hK => ?_
   refine value_ (w1 := w') (v := .pointer (some ⟨g, 1, none⟩)) (by rfl) rfl ?_ ?_
   ·go_simp
    try rfl
   ·refine hK _ _ ⟨s3, s4, s5, s6, s7, (.pointer (some ⟨g, 1, none⟩)), s9, s10, s11, s12, s13, s14, s15, (by show Act.put _ (some 8) _ = _; simp only [Act.put, List.setIfInBounds_toArray, List.set_cons_zero, List.set_cons_succ]), ?_⟩
    exact ⟨h.low, h.sb, fun hL => h.m4 (sl_ hL), fun hL => h.m5 (sl_ hL), fun _ => rfl, fun hL => h.m9 (sl_ hL), fun hL => h.m12 (sl_ hL), fun hL => h.m13 (sl_ hL), fun hL hM => h.b0 (sl_ hL) (by simpa using hM), fun hL => h.a0 (sl_ hL), fun hL hM => h.b1 (sl_ hL) (by simpa using hM), fun hL => h.a1 (sl_ hL), fun hL hM => h.b2 (sl_ hL) (by simpa using hM), fun hL => h.a2 (sl_ hL), fun hL => h.bd (sl_ hL), fun hL => (h.bw (sl_ hL)).imp (fun h => by simp [h]) (And.imp (fun h => by simp [h]) (fun h => by simp [h])), fun hL => by have := h.bx (sl_ hL); simp [this], fun hL => h.cz (sl_ hL), fun hL => h.ce (sl_ hL)⟩
  ·obtain rfl := Option.some.inj ho
   have d5 : L 5 = true := hd { on := 5, ground := Go.Ground.data } (by simp) rfl
   clear hd
   obtain rfl := h.m8 d5
   have hcl := (blk_cell h.sb 1).trans rfl
   refine wpOp_step rfl fun K hK => ?_
   refine value_ (w1 := w') (v := .slice A1 X.2.1.length c1) (by rfl) rfl ?_ ?_
   ·go_simp
    try rfl
   ·refine hK _ _ ⟨s3, s4, s5, s6, s7, (.pointer (some ⟨g, 1, none⟩)), (.slice A1 X.2.1.length c1), s10, s11, s12, s13, s14, s15, (by show Act.put _ (some 9) _ = _; simp only [Act.put, List.setIfInBounds_toArray, List.set_cons_zero, List.set_cons_succ]), ?_⟩
    exact ⟨h.low, h.sb, fun hL => h.m4 (sl_ hL), fun hL => h.m5 (sl_ hL), fun hL => h.m8 (sl_ hL), fun _ => rfl, fun hL => h.m12 (sl_ hL), fun hL => h.m13 (sl_ hL), fun hL hM => h.b0 (sl_ hL) (by simpa using hM), fun hL => h.a0 (sl_ hL), fun hL hM => h.b1 (sl_ hL) (by simpa using hM), fun hL => h.a1 (sl_ hL), fun hL hM => h.b2 (sl_ hL) (by simpa using hM), fun hL => h.a2 (sl_ hL), fun hL => h.bd (sl_ hL), fun hL => (h.bw (sl_ hL)).imp (fun h => by simp [h]) (And.imp (fun h => by simp [h]) (fun h => by simp [h])), fun hL => by have := h.bx (sl_ hL); simp [this], fun hL => h.cz (sl_ hL), fun hL => h.ce (sl_ hL)⟩
  ·obtain rfl := Option.some.inj ho
   have d4 : L 4 = true := hd { on := 4, ground := Go.Ground.data } (by simp) rfl
   have d6 : L 6 = true := hd { on := 6, ground := Go.Ground.data } (by simp) rfl
   have d3 : L 3 = true := hd { on := 3, ground := Go.Ground.chain } (by simp) rfl
   clear hd
   obtain rfl := h.m9 d6
   have hO := h.b1 d4 hL
   refine wpOp_step rfl fun K hK => ?_
   refine Kd.R_append_rows_step Kd.string (w0 := w) w.heap.size (by rfl) (.tmp 7) (.tmp 9) 23 9 (.string ⟨#[]⟩) 16 rfl Tryz.underlying23 info9 rfl (by decide) (by omega) s7 [] X.2.1 _ _ _ (fun _ => True) (fun _ => False) rfl rfl ?aO ?aR (fun _ _ h => h) (fun _ h => h.elim) ?aF ?aB ?aS ?aL ?_
   case aR => exact Kd.C_below hr1 h.low
   case aB => exact h.low
   case aF => exact (fun _ _ => trivial)
   case aO => exact hO
   case aS => exact below_size h.low
   case aL => simp; omega
   intro v w1 ho hb hg hat
   rw [List.nil_append] at ho
   refine hK _ _ ⟨s3, s4, s5, s6, s7, s8, (.slice A1 X.2.1.length c1), v, s11, s12, s13, s14, s15, (by show Act.put _ (some 10) _ = _; simp only [Act.put, List.setIfInBounds_toArray, List.set_cons_zero, List.set_cons_succ]), ?_⟩
   exact ⟨hb, blk_grown (h.sb) hg (Kd.R_ne hO (h.sb) (by decide)), fun hL => h.m4 (sl_ hL), fun hL => h.m5 (sl_ hL), fun hL => h.m8 (sl_ hL), fun hL => h.m9 (sl_ hL), fun hL => h.m12 (sl_ hL), fun hL => h.m13 (sl_ hL), fun hL hM => Kd.R_over (h.b0 (sl_ hL) (by simpa using hM)) hO (fun q hq => eTy rfl (by decide) hq) hg, fun hL => Kd.R_over (h.a0 (sl_ hL)) hO (fun q hq => eTy rfl (by decide) hq) hg, fun _ hM => absurd hM (by simp), fun _ => ho, fun hL hM => Kd.R_over (h.b2 (sl_ hL) (by simpa using hM)) hO (fun q hq => eTy rfl (by decide) hq) hg, fun hL => Kd.R_over (h.a2 (sl_ hL)) hO (fun q hq => eTy rfl (by decide) hq) hg, fun hM => absurd (h.bw (by simpa using hM)).2.1 (by simp [hL]), fun hL => (h.bw (sl_ hL)).imp (fun h => by simp [h]) (And.imp (fun h => by simp [h]) (fun h => by simp [h])), fun hL => by have := h.bx (sl_ hL); simp [this], fun hL => blk_grown (h.cz (sl_ hL)) hg (Kd.R_ne hO (h.cz (sl_ hL)) (by decide)), fun hM => absurd (h.bw (h.bx (by simpa using hM))).2.1 (by simp [hL])⟩
  ·obtain rfl := Option.some.inj ho
   clear hd
   refine wpOp_step rfl fun K hK => ?_
   refine Kd.R_lit_step k101 _ 101 ?hg (N := 11) ?hd (xs := ([] : List S101)) (inner := []) (ok := fun _ => True) (okp := fun _ => True) ?hr ?hp (fun _ hk => hk) trivial (Below.refl _ _) (Nat.le_refl _) (by simp) ?_
   (case hd => rfl)
   (case hg => rfl)
   (case hr => first | (go_simp; done) | (go_simp; rfl))
   (case hp => exact (Reps.none _ _))
   intro v w1 ho hb hg_ hnew_
   refine hK _ _ ⟨s3, s4, s5, s6, s7, s8, s9, s10, v, s12, s13, s14, s15, (by show Act.put _ (some 11) _ = _; simp only [Act.put, List.setIfInBounds_toArray, List.set_cons_zero, List.set_cons_succ]), ?_⟩
   exact ⟨below_step h.low hb, blk_below (h.sb) hb, fun hL => h.m4 (sl_ hL), fun hL => h.m5 (sl_ hL), fun hL => h.m8 (sl_ hL), fun hL => h.m9 (sl_ hL), fun hL => h.m12 (sl_ hL), fun hL => h.m13 (sl_ hL), fun hL hM => Kd.R_below (h.b0 (sl_ hL) (by simpa using hM)) hb, fun hL => Kd.R_below (h.a0 (sl_ hL)) hb, fun hL hM => Kd.R_below (h.b1 (sl_ hL) (by simpa using hM)) hb, fun hL => Kd.R_below (h.a1 (sl_ hL)) hb, fun _ _ => Kd.R_lower ho (below_size h.low), fun hL => Kd.R_below (h.a2 (sl_ hL)) hb, fun hL => h.bd (sl_ hL), fun hL => (h.bw (sl_ hL)).imp (fun h => by simp [h]) (And.imp (fun h => by simp [h]) (fun h => by simp [h])), fun hL => by have := h.bx (sl_ hL); simp [this], fun hL => blk_below (h.cz (sl_ hL)) hb, fun hL => blk_below (h.ce (sl_ hL)) hb⟩
  ·obtain rfl := Option.some.inj ho
   clear hd
   refine wpOp_step rfl fun K hK => ?_
   refine value_ (w1 := w') (v := .pointer (some ⟨g, 2, none⟩)) (by rfl) rfl ?_ ?_
   ·go_simp
    try rfl
   ·refine hK _ _ ⟨s3, s4, s5, s6, s7, s8, s9, s10, s11, (.pointer (some ⟨g, 2, none⟩)), s13, s14, s15, (by show Act.put _ (some 12) _ = _; simp only [Act.put, List.setIfInBounds_toArray, List.set_cons_zero, List.set_cons_succ]), ?_⟩
    exact ⟨h.low, h.sb, fun hL => h.m4 (sl_ hL), fun hL => h.m5 (sl_ hL), fun hL => h.m8 (sl_ hL), fun hL => h.m9 (sl_ hL), fun _ => rfl, fun hL => h.m13 (sl_ hL), fun hL hM => h.b0 (sl_ hL) (by simpa using hM), fun hL => h.a0 (sl_ hL), fun hL hM => h.b1 (sl_ hL) (by simpa using hM), fun hL => h.a1 (sl_ hL), fun hL hM => h.b2 (sl_ hL) (by simpa using hM), fun hL => h.a2 (sl_ hL), fun hL => h.bd (sl_ hL), fun hL => (h.bw (sl_ hL)).imp (fun h => by simp [h]) (And.imp (fun h => by simp [h]) (fun h => by simp [h])), fun hL => by have := h.bx (sl_ hL); simp [this], fun hL => h.cz (sl_ hL), fun hL => h.ce (sl_ hL)⟩
  ·obtain rfl := Option.some.inj ho
   have d9 : L 9 = true := hd { on := 9, ground := Go.Ground.data } (by simp) rfl
   clear hd
   obtain rfl := h.m12 d9
   have hcl := (blk_cell h.sb 2).trans rfl
   refine wpOp_step rfl fun K hK => ?_
   refine value_ (w1 := w') (v := .slice A2 X.2.2.length c2) (by rfl) rfl ?_ ?_
   ·go_simp
    try rfl
   ·refine hK _ _ ⟨s3, s4, s5, s6, s7, s8, s9, s10, s11, (.pointer (some ⟨g, 2, none⟩)), (.slice A2 X.2.2.length c2), s14, s15, (by show Act.put _ (some 13) _ = _; simp only [Act.put, List.setIfInBounds_toArray, List.set_cons_zero, List.set_cons_succ]), ?_⟩
    exact ⟨h.low, h.sb, fun hL => h.m4 (sl_ hL), fun hL => h.m5 (sl_ hL), fun hL => h.m8 (sl_ hL), fun hL => h.m9 (sl_ hL), fun hL => h.m12 (sl_ hL), fun _ => rfl, fun hL hM => h.b0 (sl_ hL) (by simpa using hM), fun hL => h.a0 (sl_ hL), fun hL hM => h.b1 (sl_ hL) (by simpa using hM), fun hL => h.a1 (sl_ hL), fun hL hM => h.b2 (sl_ hL) (by simpa using hM), fun hL => h.a2 (sl_ hL), fun hL => h.bd (sl_ hL), fun hL => (h.bw (sl_ hL)).imp (fun h => by simp [h]) (And.imp (fun h => by simp [h]) (fun h => by simp [h])), fun hL => by have := h.bx (sl_ hL); simp [this], fun hL => h.cz (sl_ hL), fun hL => h.ce (sl_ hL)⟩
  ·obtain rfl := Option.some.inj ho
   have d8 : L 8 = true := hd { on := 8, ground := Go.Ground.data } (by simp) rfl
   have d10 : L 10 = true := hd { on := 10, ground := Go.Ground.data } (by simp) rfl
   have d7 : L 7 = true := hd { on := 7, ground := Go.Ground.chain } (by simp) rfl
   clear hd
   obtain rfl := h.m13 d10
   have hO := h.b2 d8 hL
   refine wpOp_step rfl fun K hK => ?_
   refine Kd.R_append_rows_step k101 (w0 := w) w.heap.size (by rfl) (.tmp 11) (.tmp 13) 35 101 (.agg #[(.string ⟨#[]⟩), (.string ⟨#[]⟩), (.int .i64 0)]) 40 rfl Tryz.underlying35 info101 rfl (by decide) (by omega) s11 [] X.2.2 _ _ _ (fun _ => True) (fun _ => False) rfl rfl ?aO ?aR (fun _ _ h => h) (fun _ h => h.elim) ?aF ?aB ?aS ?aL ?_
   case aR => exact Kd.C_below hr2 h.low
   case aB => exact h.low
   case aF => exact (fun _ _ => trivial)
   case aO => exact hO
   case aS => exact below_size h.low
   case aL => simp; omega
   intro v w1 ho hb hg hat
   rw [List.nil_append] at ho
   refine hK _ _ ⟨s3, s4, s5, s6, s7, s8, s9, s10, s11, s12, (.slice A2 X.2.2.length c2), v, s15, (by show Act.put _ (some 14) _ = _; simp only [Act.put, List.setIfInBounds_toArray, List.set_cons_zero, List.set_cons_succ]), ?_⟩
   exact ⟨hb, blk_grown (h.sb) hg (Kd.R_ne hO (h.sb) (by decide)), fun hL => h.m4 (sl_ hL), fun hL => h.m5 (sl_ hL), fun hL => h.m8 (sl_ hL), fun hL => h.m9 (sl_ hL), fun hL => h.m12 (sl_ hL), fun hL => h.m13 (sl_ hL), fun hL hM => Kd.R_over (h.b0 (sl_ hL) (by simpa using hM)) hO (fun q hq => eTy rfl (by decide) hq) hg, fun hL => Kd.R_over (h.a0 (sl_ hL)) hO (fun q hq => eTy rfl (by decide) hq) hg, fun hL hM => Kd.R_over (h.b1 (sl_ hL) (by simpa using hM)) hO (fun q hq => eTy rfl (by decide) hq) hg, fun hL => Kd.R_over (h.a1 (sl_ hL)) hO (fun q hq => eTy rfl (by decide) hq) hg, fun _ hM => absurd hM (by simp), fun _ => ho, fun hM => absurd (h.bw (by simpa using hM)).2.2 (by simp [hL]), fun hL => (h.bw (sl_ hL)).imp (fun h => by simp [h]) (And.imp (fun h => by simp [h]) (fun h => by simp [h])), fun hL => by have := h.bx (sl_ hL); simp [this], fun hL => blk_grown (h.cz (sl_ hL)) hg (Kd.R_ne hO (h.cz (sl_ hL)) (by decide)), fun hM => absurd (h.bw (h.bx (by simpa using hM))).2.2 (by simp [hL])⟩
  ·obtain rfl := Option.some.inj ho
   have d3 : L 3 = true := hd { on := 3, ground := Go.Ground.data } (by simp) rfl
   have d7 : L 7 = true := hd { on := 7, ground := Go.Ground.data } (by simp) rfl
   have d11 : L 11 = true := hd { on := 11, ground := Go.Ground.data } (by simp) rfl
   clear hd
   obtain ⟨B0, d0_, e0_⟩ := Kd.R_slice (h.a0 d3)
   obtain ⟨B1, d1_, e1_⟩ := Kd.R_slice (h.a1 d7)
   obtain ⟨B2, d2_, e2_⟩ := Kd.R_slice (h.a2 d11)
   subst e0_
   subst e1_
   subst e2_
   refine wpOp_step rfl fun K hK => ?_
   refine value_ (w1 := w') (v := .agg #[.slice B0 X.1.length d0_, .slice B1 X.2.1.length d1_, .slice B2 X.2.2.length d2_]) (by rfl) rfl ?_ ?_
   ·go_simp
    try rfl
   ·refine hK _ _ ⟨s3, s4, s5, (.slice B0 X.1.length d0_), s7, s8, s9, (.slice B1 X.2.1.length d1_), s11, s12, s13, (.slice B2 X.2.2.length d2_), (.agg #[.slice B0 X.1.length d0_, .slice B1 X.2.1.length d1_, .slice B2 X.2.2.length d2_]), rfl, ?_⟩
    exact ⟨h.low, h.sb, fun hL => h.m4 (sl_ hL), fun hL => h.m5 (sl_ hL), fun hL => h.m8 (sl_ hL), fun hL => h.m9 (sl_ hL), fun hL => h.m12 (sl_ hL), fun hL => h.m13 (sl_ hL), fun hL hM => h.b0 (sl_ hL) (by simpa using hM), fun hL => h.a0 (sl_ hL), fun hL hM => h.b1 (sl_ hL) (by simpa using hM), fun hL => h.a1 (sl_ hL), fun hL hM => h.b2 (sl_ hL) (by simpa using hM), fun hL => h.a2 (sl_ hL), fun _ => rfl, fun _ => ⟨by simp [d3], by simp [d7], by simp [d11]⟩, fun hL => by have := h.bx (sl_ hL); simp [this], fun hL => h.cz (sl_ hL), fun hL => h.ce (sl_ hL)⟩
  ·obtain rfl := Option.some.inj ho
   have d12 : L 12 = true := hd { on := 12, ground := Go.Ground.data } (by simp) rfl
   have d11 : L 11 = true := hd { on := 11, ground := Go.Ground.chain } (by simp) rfl
   have d0 : L 0 = true := hd { on := 0, ground := Go.Ground.phase } (by simp) rfl
   have d1 : L 1 = true := hd { on := 1, ground := Go.Ground.phase } (by simp) rfl
   have d2 : L 2 = true := hd { on := 2, ground := Go.Ground.phase } (by simp) rfl
   have d3 : L 3 = true := hd { on := 3, ground := Go.Ground.phase } (by simp) rfl
   have d4 : L 4 = true := hd { on := 4, ground := Go.Ground.phase } (by simp) rfl
   have d5 : L 5 = true := hd { on := 5, ground := Go.Ground.phase } (by simp) rfl
   have d6 : L 6 = true := hd { on := 6, ground := Go.Ground.phase } (by simp) rfl
   have d7 : L 7 = true := hd { on := 7, ground := Go.Ground.phase } (by simp) rfl
   have d8 : L 8 = true := hd { on := 8, ground := Go.Ground.phase } (by simp) rfl
   have d9 : L 9 = true := hd { on := 9, ground := Go.Ground.phase } (by simp) rfl
   have d10 : L 10 = true := hd { on := 10, ground := Go.Ground.phase } (by simp) rfl
   have d11 : L 11 = true := hd { on := 11, ground := Go.Ground.phase } (by simp) rfl
   have d12 : L 12 = true := hd { on := 12, ground := Go.Ground.phase } (by simp) rfl
   clear hd
   obtain rfl := h.bd d12
   obtain ⟨u5, u11, u17⟩ := h.bw d12
   obtain ⟨B0, d0_, e0_⟩ := Kd.R_slice (h.a0 u5)
   obtain ⟨B1, d1_, e1_⟩ := Kd.R_slice (h.a1 u11)
   obtain ⟨B2, d2_, e2_⟩ := Kd.R_slice (h.a2 u17)
   subst e0_
   subst e1_
   subst e2_
   have hz := h.cz hL
   have z0 := (blk_cell hz 0).trans rfl
   have z1 := (blk_cell hz 1).trans rfl
   have z2 := (blk_cell hz 2).trans rfl
   have zf : ∀ o, w'.frozen? ⟨gc, o, none⟩ = false := fun o => blk_frozen hz o
   refine wpOp_step rfl fun K hK => ?_
   refine skip_ (w1 := ?_) (by rfl) rfl ?_ ?_
   rotate_left
   ·go_simp
    rfl
   refine hK _ _ ⟨s3, s4, s5, (.slice B0 X.1.length d0_), s7, s8, s9, (.slice B1 X.2.1.length d1_), s11, s12, s13, (.slice B2 X.2.2.length d2_), (.agg #[.slice B0 X.1.length d0_, .slice B1 X.2.1.length d1_, .slice B2 X.2.2.length d2_]), rfl, ?_⟩
   exact ⟨rig_low h.low GC, blk_far (p := ⟨gc, 2, none⟩) (blk_far (p := ⟨gc, 1, none⟩) (blk_far (p := ⟨gc, 0, none⟩) h.sb NG _) NG _) NG _, fun hL => h.m4 (sl_ hL), fun hL => h.m5 (sl_ hL), fun hL => h.m8 (sl_ hL), fun hL => h.m9 (sl_ hL), fun hL => h.m12 (sl_ hL), fun hL => h.m13 (sl_ hL), fun hL hM => rig_three (h.b0 (sl_ hL) (by simpa using hM)) rfl (by decide) hz, fun hL => rig_three (h.a0 (sl_ hL)) rfl (by decide) hz, fun hL hM => rig_three (h.b1 (sl_ hL) (by simpa using hM)) rfl (by decide) hz, fun hL => rig_three (h.a1 (sl_ hL)) rfl (by decide) hz, fun hL hM => rig_three (h.b2 (sl_ hL) (by simpa using hM)) rfl (by decide) hz, fun hL => rig_three (h.a2 (sl_ hL)) rfl (by decide) hz, fun hL => h.bd (sl_ hL), fun hL => (h.bw (sl_ hL)).imp (fun h => by simp [h]) (And.imp (fun h => by simp [h]) (fun h => by simp [h])), fun _ => by simp [d12], fun hM => absurd hM (by simp), fun _ => rig_blk hz⟩
def impl_copyRig.f (l0_0 : List (S97)) (l0_1 : List ByteArray) (l0_2 : List (S101)) : Option ((List (S97)) × List ByteArray × (List (S101))) := if l0_0.length ≤ 1048576 ∧ l0_1.length ≤ 1048576 ∧ l0_2.length ≤ 1048576 then some (l0_0, l0_1, l0_2) else none
theorem impl_copyRig.calls (A0_0 : Option Addr) (c0_0 : Nat) (l0_0 : List (S97)) (A0_1 : Option Addr) (c0_1 : Nat) (l0_1 : List (ByteArray)) (A0_2 : Option Addr) (c0_2 : Nat) (l0_2 : List (S101)) (r1 : List (S97)) (r2 : List ByteArray) (r3 : List (S101)) (w : World) (hr0_0 : Kd.C k97 w A0_0 l0_0.length l0_0) (hc0_0 : l0_0.length ≤ c0_0) (hr0_1 : Kd.C Kd.string w A0_1 l0_1.length l0_1) (hc0_1 : l0_1.length ≤ c0_1) (hr0_2 : Kd.C k101 w A0_2 l0_2.length l0_2) (hc0_2 : l0_2.length ≤ c0_2) (h : impl_copyRig.f l0_0 l0_1 l0_2 = some (r1, r2, r3)) :
  Calls Tryz.prog 73 #[.agg #[.slice A0_0 l0_0.length c0_0, .slice A0_1 l0_1.length c0_1, .slice A0_2 l0_2.length c0_2]] w fun e w' => ∃ v0_ v1_ v2_ : Value, e = .returned (.agg #[v0_, v1_, v2_]) ∧ Kd.R k97 97 w' w.heap.size (fun _ => True) v0_ r1 ∧ Kd.R Kd.string 9 w' w.heap.size (fun _ => True) v1_ r2 ∧ Kd.R k101 101 w' w.heap.size (fun _ => True) v2_ r3 ∧ Below w.heap.size w w' := by
 unfold impl_copyRig.f at h
 split at h
 ·rename_i hl
  simp only [Option.some.injEq, Prod.mk.injEq] at h
  obtain ⟨rfl, rfl, rfl⟩ := h
  exact copyRig_c A0_0 A0_1 A0_2 c0_0 c0_1 c0_2 (l0_0, l0_1, l0_2) w hr0_0 hr0_1 hr0_2 hl
 ·cases h
end
def impl_copyDesk.f (a0_0 : Int) (l0_1 : List (S97)) (l0_2 : List ByteArray) (l0_3 : List (S101)) (l0_4 : List (S69)) (a0_5 : ByteArray) (a0_6 : ByteArray) : Option (Int × (List (S97)) × List ByteArray × (List (S101)) × (List (S69)) × ByteArray × ByteArray) := (impl_copyRig.f l0_1 l0_2 l0_3).bind fun bt419 => ((some (([] : List (S69)) : List (S69))).bind fun y428 => (if y428.length + l0_4.length < 5864062014805 then (some (a0_0, bt419.1, bt419.2.1, bt419.2.2, (y428 ++ l0_4), a0_5, a0_6)) else (none)))
theorem impl_copyDesk.calls (a0_0 : Int) (A0_1 : Option Addr) (c0_1 : Nat) (l0_1 : List (S97)) (A0_2 : Option Addr) (c0_2 : Nat) (l0_2 : List ByteArray) (A0_3 : Option Addr) (c0_3 : Nat) (l0_3 : List (S101)) (A0_4 : Option Addr) (c0_4 : Nat) (l0_4 : List (S69)) (a0_5 : ByteArray) (a0_6 : ByteArray) (r1 : Int) (r2 : List (S97)) (r3 : List ByteArray) (r4 : List (S101)) (r5 : List (S69)) (r6 : ByteArray) (r7 : ByteArray) (w : World) (hr0_1 : Kd.C k97 w A0_1 l0_1.length l0_1) (hc0_1 : l0_1.length ≤ c0_1) (hr0_2 : Kd.C Kd.string w A0_2 l0_2.length l0_2) (hc0_2 : l0_2.length ≤ c0_2) (hr0_3 : Kd.C k101 w A0_3 l0_3.length l0_3) (hc0_3 : l0_3.length ≤ c0_3) (hr0_4 : Kd.C k69 w A0_4 l0_4.length l0_4) (hc0_4 : l0_4.length ≤ c0_4) (h : impl_copyDesk.f a0_0 l0_1 l0_2 l0_3 l0_4 a0_5 a0_6 = some (r1, r2, r3, r4, r5, r6, r7)) :
  Calls Tryz.prog 43 #[.agg #[.int .i64 a0_0, .slice A0_1 l0_1.length c0_1, .slice A0_2 l0_2.length c0_2, .slice A0_3 l0_3.length c0_3, .slice A0_4 l0_4.length c0_4, .string a0_5, .string a0_6]] w fun e w' => ∃ v1_ v2_ v3_ v4_ : Value, e = .returned (.agg #[.int .i64 r1, v1_, v2_, v3_, v4_, .string r6, .string r7]) ∧ Kd.R k97 97 w' w.heap.size (fun _ => True) v1_ r2 ∧ Kd.R Kd.string 9 w' w.heap.size (fun _ => True) v2_ r3 ∧ Kd.R k101 101 w' w.heap.size (fun _ => True) v3_ r4 ∧ Kd.R k69 69 w' w.heap.size (fun _ => True) v4_ r5 ∧ Below w.heap.size w w' := by
 have hu41 := Tryz.underlying41
 have hu37 := Tryz.underlying37
 have HR0_1 := Aside0.mk hr0_1
 have HC0_1 := Aside0.mk hc0_1
 clear hr0_1 hc0_1
 have HR0_2 := Aside0.mk hr0_2
 have HC0_2 := Aside0.mk hc0_2
 clear hr0_2 hc0_2
 have HR0_3 := Aside0.mk hr0_3
 have HC0_3 := Aside0.mk hc0_3
 clear hr0_3 hc0_3
 have HR0_4 := Aside0.mk hr0_4
 have HC0_4 := Aside0.mk hc0_4
 clear hr0_4 hc0_4
 have HB := Aside0.mk (Below.refl w.heap.size w)
 have H := h
 clear h
 unfold impl_copyDesk.f at H
 revert H
 refine bn_ ?_
 rintro ⟨t419, t422, t425⟩ A2 H
 obtain ⟨y428, hy428⟩ : ∃ y_ : List (S69), y_ = (([] : List (S69))) := ⟨_, rfl⟩
 replace H : (if y428.length + l0_4.length < 5864062014805 then (some (a0_0, t419, t422, t425, (y428 ++ l0_4), a0_5, a0_6)) else (none)) = some (r1, r2, r3, r4, r5, r6, r7) := by first | (rw [hy428]; with_reducible exact H) | (have H2_ := (Option.bind_some _ _).symm.trans H; rw [hy428]; with_reducible exact H2_) | (have H2_ := (Option.bind_some _ _).symm.trans H; with_reducible exact H2_) | with_reducible exact H | (rw [hy428]; exact H) | exact H
 have Ny428 := Aside0.mk hy428
 clear hy428
 by_cases c3 : y428.length + l0_4.length < 5864062014805
 ·rw [if_pos c3] at H
  have LMc3 := Aside0.mk c3
  clear c3
  obtain ⟨y431, hy431⟩ : ∃ y_ : List (S69), y_ = (y428 ++ l0_4) := ⟨_, rfl⟩
  replace H : (some (a0_0, t419, t422, t425, y431, a0_5, a0_6)) = some (r1, r2, r3, r4, r5, r6, r7) := by first | (rw [hy431]; with_reducible exact H) | (have H2_ := (Option.bind_some _ _).symm.trans H; rw [hy431]; with_reducible exact H2_) | (have H2_ := (Option.bind_some _ _).symm.trans H; with_reducible exact H2_) | with_reducible exact H | (rw [hy431]; exact H) | exact H
  have Ny431 := Aside0.mk hy431
  clear hy431
  simp only [Option.some.injEq, Prod.mk.injEq] at H
  obtain ⟨rfl, rfl, rfl, rfl, rfl, rfl, rfl⟩ := H
  go_enter Tryz.func43, Tryz.ntmps43
  go_wp2_with (first | ((with_reducible refine gd_ 1 rfl ?_); refine bx_ #[.int .i64 a0_0, .slice A0_1 l0_1.length c0_1, .slice A0_2 l0_2.length c0_2, .slice A0_3 l0_3.length c0_3, .slice A0_4 l0_4.length c0_4, .string a0_5, .string a0_6] ?_; intro gb417 hg w4 BK417 hb; have GW417 := bsz_ hg; replace HB := bst_ hb; clear hb hg) | ((with_reducible refine gd_ 2 rfl ?_); refine bx_ #[.int .i64 0, .slice none 0 0, .slice none 0 0, .slice none 0 0, .slice none 0 0, .string (⟨#[]⟩ : ByteArray), .string (⟨#[]⟩ : ByteArray)] ?_; intro gb418 hg w5 BK418 hb; have GW418 := bsz_ hg; replace HB := bst_ hb; have NB417_418 := nbl_ BK417 hg; have NB418_417 := nbr_ BK417 hg; replace BK417 := bkb_ BK417 hb; clear hb hg; have hnb6 := NB417_418.out; have hnc6 := NB418_417.out; have hcz7_0 := c7_ BK417) | ((with_reducible refine gc_ 73 rfl ?_); refine ck_ Tryz.func73 (impl_copyRig.calls _ _ _ _ _ _ _ _ _ _ _ _ _ (kc_ HR0_1) HC0_1.out (kc_ HR0_2) HC0_2.out (kc_ HR0_3) HC0_3.out A2.out) ?_; rintro e w8 ⟨v420, v423, v426, rfl, ho0, ho1, ho2, hb⟩; refine ⟨_, rfl, ?_⟩; have HO421 := kl_ ho0; have HO424 := kl_ ho1; have HO427 := kl_ ho2; replace BK417 := bkb_ BK417 hb; replace BK418 := bkb_ BK418 hb; replace HB := bst_ hb; clear hb ho0 ho1 ho2; obtain ⟨Ao9, co9, eo9⟩ := Kd.R_slice HO421.out; subst eo9; have hcz10_0 := c7_ BK417; obtain ⟨Ao11, co11, eo11⟩ := Kd.R_slice HO424.out; subst eo11; obtain ⟨Ao12, co12, eo12⟩ := Kd.R_slice HO427.out; subst eo12) | ((with_reducible refine gd_ 7 rfl ?_); refine Kd.R_lit k69 _ 69 ?hg (N := 7) ?hd (xs := ([] : List (S69))) (inner := []) (ok := fun _ => True) (okp := fun _ => True) ?hr ?hp (fun _ hk => hk) trivial (Below.refl _ _) (Nat.le_refl _) (by simp) ?_; (case hd => rfl); (case hg => rfl); (case hr => first | (go_simp; done) | (go_simp; rfl)); (case hp => exact (Reps.none _ _)); intro v429 w13 ho14 hb hg_ hnew_; clear hg_ hnew_; (first | rw [← Ny428.out] at ho14 | (simp only [Int.reduceToNat] at ho14; rw [← Ny428.out] at ho14)); replace HO421 := krs_ HO421 hb; replace HO424 := krs_ HO424 hb; replace HO427 := krs_ HO427 hb; have HO430 := kl_ ho14; replace BK417 := kb7_ BK417 hb; replace BK418 := bkb_ BK418 hb; replace HB := bst_ hb; clear hb ho14; have hcz15_0 := c7_ BK417) | ((with_reducible refine gate_builtin (b := .append) (xs := #[.tmp 7, .tmp 9]) rfl ?_); at_builtin; refine Kd.R_append_rows k69 (w0 := w) w.heap.size rfl (.tmp 7) (.tmp 9) 38 69 (.agg #[(.string ⟨#[]⟩), (.int .i64 0)]) 24 rfl Tryz.underlying38 info69 rfl (by decide) (by omega) v429 y428 l0_4 _ _ _ (fun _ => True) (fun _ => False) rfl rfl ?aO ?aR (fun _ _ h => h) (fun _ h => h.elim) ?aF ?aB ?aS ?aL ?_; (case aR => repeat (first | exact (Kd.C_below HR0_4.out HB.out) | (with_reducible refine Kd.C_alloc ?_ _) | (with_reducible refine Kd.C_drewN ?_ _) | (with_reducible refine Kd.C_drew ?_))); (case aB => exact bwl_); (case aF => exact (fun _ _ => trivial)); (case aO => exact (ks_ HO430)); (case aS => exact (below_size bwl_)); (case aL => have := LMc3.out; omega); intro v432 w16 ho hb hg hat; rw [← Ny431.out] at ho; replace BK417 := Aside0.mk (blk_grown (g := gb417) (o := .cells #[.int .i64 a0_0, .slice Ao9 t419.length co9, .slice Ao11 t422.length co11, .slice Ao12 t425.length co12, .slice A0_4 l0_4.length c0_4, .string a0_5, .string a0_6] 41 (0, 0)) (by exact kb_ BK417) hg (Kd.R_ne HO430.out BK417.out (by decide))); replace BK418 := Aside0.mk (blk_grown (g := gb418) (o := .cells #[.int .i64 0, .slice none 0 0, .slice none 0 0, .slice none 0 0, .slice none 0 0, .string (⟨#[]⟩ : ByteArray), .string (⟨#[]⟩ : ByteArray)] 41 (0, 0)) (by exact kb_ BK418) hg (Kd.R_ne HO430.out BK418.out (by decide))); replace HO421 := Aside0.mk (Kd.R_over' (ks_ HO421) (Kd.R_typed (ks_ HO430)) (by decide) hg); replace HO424 := Aside0.mk (Kd.R_over' (ks_ HO424) (Kd.R_typed (ks_ HO430)) (by decide) hg); replace HO427 := Aside0.mk (Kd.R_over' (ks_ HO427) (Kd.R_typed (ks_ HO430)) (by decide) hg); replace HB := Aside0.mk (hb); have HO433 := Aside0.mk (ho); clear HO430; clear ho hb hg hat; obtain ⟨Ao17, co17, eo17⟩ := Kd.R_slice HO433.out; subst eo17; have hcz18_0 := c7_ BK417; have hcz18_1 := c7_ BK418))
  refine bodyPost_ret (results_cell_row rfl _ _ gb418 41 #[.int .i64 a0_0, .slice Ao9 t419.length co9, .slice Ao11 t422.length co11, .slice Ao12 t425.length co12, .slice Ao17 y431.length co17, .string a0_5, .string a0_6] (0, 0) _ rfl (kbp_ BK418) Tryz.underlying41 rfl (by kernel_rfl)) rfl ?_
  exact ⟨_, _, _, _, rr_, kt_ HO421, kt_ HO424, kt_ HO427, kt_ HO433, bwl_⟩
 ·rw [if_neg c3] at H
  exact absurd H (by simp)
def impl_StartAgain.f (k : Nat) (a0_0 : Int) (l0_1 : List (S97)) (l0_2 : List ByteArray) (l0_3 : List (S101)) (l0_4 : List (S69)) (a0_5 : ByteArray) (a0_6 : ByteArray) (a1 : Int) : Option (Int × (List (S97)) × List ByteArray × (List (S101)) × (List (S69)) × ByteArray × ByteArray × Int) := (impl_ValidDesk.f k a0_0 l0_1 l0_2 l0_3 l0_4 a0_5 a0_6).bind fun t436 => (if t436 = true then ((impl_LosePower.f k a0_5 a0_6 a1).bind fun bt437 => (if bt437.2.2 = 0 then ((impl_RecoverLog.f k bt437.1 bt437.2.1).bind fun bt441 => (if bt441.2.2.2 = 0 then ((impl_copyDesk.f a0_0 l0_1 l0_2 l0_3 l0_4 a0_5 a0_6).bind fun bt446 => (some (bt446.1, bt446.2.1, bt446.2.2.1, bt446.2.2.2.1, bt446.2.2.2.2.1, bt441.1, bt441.2.1, 0))) else (some (0, ([] : List (S97)), ([] : List ByteArray), ([] : List (S101)), ([] : List (S69)), (⟨#[]⟩ : ByteArray), (⟨#[]⟩ : ByteArray), bt441.2.2.2)))) else (some (0, ([] : List (S97)), ([] : List ByteArray), ([] : List (S101)), ([] : List (S69)), (⟨#[]⟩ : ByteArray), (⟨#[]⟩ : ByteArray), bt437.2.2)))) else (some (0, ([] : List (S97)), ([] : List ByteArray), ([] : List (S101)), ([] : List (S69)), (⟨#[]⟩ : ByteArray), (⟨#[]⟩ : ByteArray), 1)))
theorem impl_StartAgain.mono : ∀ a0 a1 a2 a3 a4 a5 a6 a7 k, LeO (impl_StartAgain.f k a0 a1 a2 a3 a4 a5 a6 a7) (impl_StartAgain.f (k + 1) a0 a1 a2 a3 a4 a5 a6 a7) := by
 intro a0 a1 a2 a3 a4 a5 a6 a7 k
 unfold impl_StartAgain.f
 have m0 := @impl_LosePower.mono
 have m1 := @impl_RecoverLog.mono
 have m2 := @impl_ValidDesk.mono
 exact mo_
theorem impl_StartAgain.calls (k : Nat) (a0_0 : Int) (A0_1 : Option Addr) (c0_1 : Nat) (l0_1 : List (S97)) (A0_2 : Option Addr) (c0_2 : Nat) (l0_2 : List ByteArray) (A0_3 : Option Addr) (c0_3 : Nat) (l0_3 : List (S101)) (A0_4 : Option Addr) (c0_4 : Nat) (l0_4 : List (S69)) (a0_5 : ByteArray) (a0_6 : ByteArray) (a1 : Int) (r1 : Int) (r2 : List (S97)) (r3 : List ByteArray) (r4 : List (S101)) (r5 : List (S69)) (r6 : ByteArray) (r7 : ByteArray) (r8 : Int) (w : World) (hr0_1 : Kd.C k97 w A0_1 l0_1.length l0_1) (hc0_1 : l0_1.length ≤ c0_1) (hr0_2 : Kd.C Kd.string w A0_2 l0_2.length l0_2) (hc0_2 : l0_2.length ≤ c0_2) (hr0_3 : Kd.C k101 w A0_3 l0_3.length l0_3) (hc0_3 : l0_3.length ≤ c0_3) (hr0_4 : Kd.C k69 w A0_4 l0_4.length l0_4) (hc0_4 : l0_4.length ≤ c0_4) (h : impl_StartAgain.f k a0_0 l0_1 l0_2 l0_3 l0_4 a0_5 a0_6 a1 = some (r1, r2, r3, r4, r5, r6, r7, r8)) (hT : Go.Proofs.YtkoeeajciciphaaGreatDoor.Base.Tb2 w) :
  Calls Tryz.prog 14 #[.agg #[.int .i64 a0_0, .slice A0_1 l0_1.length c0_1, .slice A0_2 l0_2.length c0_2, .slice A0_3 l0_3.length c0_3, .slice A0_4 l0_4.length c0_4, .string a0_5, .string a0_6], .int .i64 a1] w fun e w' => ∃ v1_ v2_ v3_ v4_ : Value, e = .returned (.tuple #[.agg #[.int .i64 r1, v1_, v2_, v3_, v4_, .string r6, .string r7], .int .i64 r8]) ∧ Kd.R k97 97 w' w.heap.size (fun _ => True) v1_ r2 ∧ Kd.R Kd.string 9 w' w.heap.size (fun _ => True) v2_ r3 ∧ Kd.R k101 101 w' w.heap.size (fun _ => True) v3_ r4 ∧ Kd.R k69 69 w' w.heap.size (fun _ => True) v4_ r5 ∧ Below w.heap.size w w' := by
 have HTB := Aside0.mk hT
 clear hT
 have hu41 := Tryz.underlying41
 have hu39 := Tryz.underlying39
 have HR0_1 := Aside0.mk hr0_1
 have HC0_1 := Aside0.mk hc0_1
 clear hr0_1 hc0_1
 have HR0_2 := Aside0.mk hr0_2
 have HC0_2 := Aside0.mk hc0_2
 clear hr0_2 hc0_2
 have HR0_3 := Aside0.mk hr0_3
 have HC0_3 := Aside0.mk hc0_3
 clear hr0_3 hc0_3
 have HR0_4 := Aside0.mk hr0_4
 have HC0_4 := Aside0.mk hc0_4
 clear hr0_4 hc0_4
 have HB := Aside0.mk (Below.refl w.heap.size w)
 have H := h
 clear h
 unfold impl_StartAgain.f at H
 revert H
 refine bn_ ?_
 intro t436 A3 H
 revert H
 refine ib_ ?_ ?_ <;> rintro rfl H
 ·revert H
  refine bn_ ?_
  rintro ⟨t437, t438, t439⟩ A5 H
  by_cases c6 : t439 = 0
  ·rw [if_pos c6] at H
   have c6b0 : (t439 == 0) = true := beq_iff_eq.mpr c6
   have c6b1 : (t439 != 0) = false := bne_eq_false_iff_eq.mpr c6
   clear c6
   revert H
   refine bn_ ?_
   rintro ⟨t441, t442, t443, t444⟩ A7 H
   by_cases c8 : t444 = 0
   ·rw [if_pos c8] at H
    have c8b0 : (t444 == 0) = true := beq_iff_eq.mpr c8
    have c8b1 : (t444 != 0) = false := bne_eq_false_iff_eq.mpr c8
    clear c8
    revert H
    refine bn_ ?_
    rintro ⟨t446, t447, t450, t453, t456, t459, t460⟩ A9 H
    simp only [Option.some.injEq, Prod.mk.injEq] at H
    obtain ⟨rfl, rfl, rfl, rfl, rfl, rfl, rfl, rfl⟩ := H
    go_enter Tryz.func14, Tryz.ntmps14
    go_wp2_with (first | ((with_reducible refine gd_ 2 rfl ?_); refine bx_ #[.int .i64 a0_0, .slice A0_1 l0_1.length c0_1, .slice A0_2 l0_2.length c0_2, .slice A0_3 l0_3.length c0_3, .slice A0_4 l0_4.length c0_4, .string a0_5, .string a0_6] ?_; intro gb434 hg w10 BK434 hb; have GW434 := bsz_ hg; replace HB := bst_ hb; clear hb hg) | ((with_reducible refine gd_ 4 rfl ?_); refine bx_ #[.int .i64 0, .slice none 0 0, .slice none 0 0, .slice none 0 0, .slice none 0 0, .string (⟨#[]⟩ : ByteArray), .string (⟨#[]⟩ : ByteArray)] ?_; intro gb435 hg w11 BK435 hb; have GW435 := bsz_ hg; replace HB := bst_ hb; have NB434_435 := nbl_ BK434 hg; have NB435_434 := nbr_ BK434 hg; replace BK434 := bkb_ BK434 hb; clear hb hg; have hnb12 := NB434_435.out; have hnc12 := NB435_434.out; have hcz13_0 := c7_ BK434) | ((with_reducible refine gc_ 9 rfl ?_); refine cl_ Tryz.func9 (impl_ValidDesk.calls _ _ _ _ _ _ _ _ _ _ _ _ _ _ _ _ _ _ (kc_ HR0_1) HC0_1.out (kc_ HR0_2) HC0_2.out (kc_ HR0_3) HC0_3.out (kc_ HR0_4) HC0_4.out A3.out (HTB.out.below bwl_)) ?_; intro w14 hb; replace BK434 := bkb_ BK434 hb; replace BK435 := bkb_ BK435 hb; replace HB := bst_ hb; clear hb; have hcz15_0 := c7_ BK434) | ((with_reducible refine gc_ 41 rfl ?_); refine cl_ Tryz.func41 (impl_LosePower.calls _ _ _ _ _ _ _ _ A5.out (HTB.out.below bwl_)) ?_; intro w16 hb; replace BK434 := bkb_ BK434 hb; replace BK435 := bkb_ BK435 hb; replace HB := bst_ hb; clear hb) | ((with_reducible refine gd_ 6 rfl ?_); refine bx_ #[.string (⟨#[]⟩ : ByteArray), .string (⟨#[]⟩ : ByteArray)] ?_; intro gb440 hg w17 BK440 hb; have GW440 := bsz_ hg; replace HB := bst_ hb; have NB434_440 := nbl_ BK434 hg; have NB440_434 := nbr_ BK434 hg; replace BK434 := bkb_ BK434 hb; have NB435_440 := nbl_ BK435 hg; have NB440_435 := nbr_ BK435 hg; replace BK435 := bkb_ BK435 hb; clear hb hg; have hnb18 := NB440_434.out; have hnc18 := NB434_440.out; have hnb19 := NB440_435.out; have hnc19 := NB435_440.out; have hcz20_0 := c2_ BK440) | ((with_reducible refine gc_ 42 rfl ?_); refine cl_ Tryz.func42 (impl_RecoverLog.calls _ _ _ _ _ _ _ _ A7.out (HTB.out.below bwl_)) ?_; intro w21 hb; replace BK434 := bkb_ BK434 hb; replace BK435 := bkb_ BK435 hb; replace BK440 := kb2_ BK440 hb; replace HB := bst_ hb; clear hb) | ((with_reducible refine gd_ 8 rfl ?_); refine bx_ #[.string (⟨#[]⟩ : ByteArray), .string (⟨#[]⟩ : ByteArray)] ?_; intro gb445 hg w22 BK445 hb; have GW445 := bsz_ hg; replace HB := bst_ hb; have NB434_445 := nbl_ BK434 hg; have NB445_434 := nbr_ BK434 hg; replace BK434 := bkb_ BK434 hb; have NB435_445 := nbl_ BK435 hg; have NB445_435 := nbr_ BK435 hg; replace BK435 := bkb_ BK435 hb; have NB440_445 := nbl_ BK440 hg; have NB445_440 := nbr_ BK440 hg; replace BK440 := bkb_ BK440 hb; clear hb hg; have hnb23 := NB445_434.out; have hnc23 := NB434_445.out; have hnb24 := NB445_435.out; have hnc24 := NB435_445.out; have hnb25 := NB445_440.out; have hnc25 := NB440_445.out; have hcz26_0 := c2_ BK445; have hcz26_1 := c7_ BK434) | ((with_reducible refine gc_ 43 rfl ?_); refine ck_ Tryz.func43 (impl_copyDesk.calls _ _ _ _ _ _ _ _ _ _ _ _ _ _ _ _ _ _ _ _ _ _ _ (Kd.C_below HR0_1.out bwl_) HC0_1.out (Kd.C_below HR0_2.out bwl_) HC0_2.out (Kd.C_below HR0_3.out bwl_) HC0_3.out (Kd.C_below HR0_4.out bwl_) HC0_4.out A9.out) ?_; rintro e w28 ⟨v448, v451, v454, v457, rfl, ho0, ho1, ho2, ho3, hb⟩; refine ⟨_, rfl, ?_⟩; have HO449 := kl_ ho0; have HO452 := kl_ ho1; have HO455 := kl_ ho2; have HO458 := kl_ ho3; replace BK434 := bkb_ BK434 hb; replace BK435 := bkb_ BK435 hb; replace BK440 := bkb_ BK440 hb; replace BK445 := kb2_ BK445 hb; replace HB := bst_ hb; clear hb ho0 ho1 ho2 ho3) | ((with_reducible refine gd_ 10 rfl ?_); refine be_ 10 #[.int .i64 0, .slice none 0 0, .slice none 0 0, .slice none 0 0, .slice none 0 0, .string (⟨#[]⟩ : ByteArray), .string (⟨#[]⟩ : ByteArray)] 41 ?_; intro gb461 hg w29 hbox hb; replace HO449 := kr_ HO449 hb; replace HO452 := kr_ HO452 hb; replace HO455 := kr_ HO455 hb; replace HO458 := kr_ HO458 hb; have BK461 := Aside0.mk (hbox); have GW461 := bsz_ hg; have GE461 := bsz_ hg; replace HB := bst_ hb; have NB434_461 := nbl_ BK434 hg; have NB461_434 := nbr_ BK434 hg; replace BK434 := bkb_ BK434 hb; have NB435_461 := nbl_ BK435 hg; have NB461_435 := nbr_ BK435 hg; replace BK435 := bkb_ BK435 hb; have NB440_461 := nbl_ BK440 hg; have NB461_440 := nbr_ BK440 hg; replace BK440 := bkb_ BK440 hb; have NB445_461 := nbl_ BK445 hg; have NB461_445 := nbr_ BK445 hg; replace BK445 := bkb_ BK445 hb; clear hb hbox hg; have hnb30 := NB461_434.out; have hnc30 := NB434_461.out; have hnb31 := NB461_435.out; have hnc31 := NB435_461.out; have hnb32 := NB461_440.out; have hnc32 := NB440_461.out; have hnb33 := NB461_445.out; have hnc33 := NB445_461.out; have hcz34_0 := c7_ BK461; obtain ⟨Ao35, co35, eo35⟩ := Kd.R_slice HO449.out; subst eo35; obtain ⟨Ao36, co36, eo36⟩ := Kd.R_slice HO452.out; subst eo36; obtain ⟨Ao37, co37, eo37⟩ := Kd.R_slice HO455.out; subst eo37; obtain ⟨Ao38, co38, eo38⟩ := Kd.R_slice HO458.out; subst eo38; have hcz39_0 := c2_ BK445; have hcz39_1 := c7_ BK435) | ((with_reducible refine gs_ rfl ?_); refine st_ ?_; intro wS hw; (try replace HO449 := kwr_ HO449 hw); (try replace HO452 := kwr_ HO452 hw); (try replace HO455 := kwr_ HO455 hw); (try replace HO458 := kwr_ HO458 hw); (try replace BK434 := kw7_ BK434 hw); (try replace BK435 := kw7_ BK435 hw); (try replace BK440 := kw2_ BK440 hw); (try replace BK445 := kw2_ BK445 hw); (try replace BK461 := kw7_ BK461 hw); replace HB := kwb_ hw; clear hw; skip; (try have zs434 := c7_ BK434); (try have zs435 := c7_ BK435); (try have zs440 := c2_ BK440); (try have zs445 := c2_ BK445); (try have zs461 := c7_ BK461)))
    refine bodyPost_ret (results_ct rfl _ _ gb435 41 #[.int .i64 t446, .slice Ao35 t447.length co35, .slice Ao36 t450.length co36, .slice Ao37 t453.length co37, .slice Ao38 t456.length co38, .string t441, .string t442] (0, 0) _ rfl (kbp_ BK435) Tryz.underlying41 rfl (by kernel_rfl)) rfl ?_
    exact ⟨_, _, _, _, rr_, kt_ HO449, kt_ HO452, kt_ HO455, kt_ HO458, bwl_⟩
   ·rw [if_neg c8] at H
    have c8b0 : (t444 == 0) = false := beq_eq_false_iff_ne.mpr c8
    have c8b1 : (t444 != 0) = true := bne_iff_ne.mpr c8
    simp only [Option.some.injEq, Prod.mk.injEq] at H
    obtain ⟨rfl, rfl, rfl, rfl, rfl, rfl, rfl, rfl⟩ := H
    go_enter Tryz.func14, Tryz.ntmps14
    go_wp2_with (first | ((with_reducible refine gd_ 2 rfl ?_); refine bx_ #[.int .i64 a0_0, .slice A0_1 l0_1.length c0_1, .slice A0_2 l0_2.length c0_2, .slice A0_3 l0_3.length c0_3, .slice A0_4 l0_4.length c0_4, .string a0_5, .string a0_6] ?_; intro gb434 hg w41 BK434 hb; have GW434 := bsz_ hg; replace HB := bst_ hb; clear hb hg) | ((with_reducible refine gd_ 4 rfl ?_); refine bx_ #[.int .i64 0, .slice none 0 0, .slice none 0 0, .slice none 0 0, .slice none 0 0, .string (⟨#[]⟩ : ByteArray), .string (⟨#[]⟩ : ByteArray)] ?_; intro gb435 hg w42 BK435 hb; have GW435 := bsz_ hg; replace HB := bst_ hb; have NB434_435 := nbl_ BK434 hg; have NB435_434 := nbr_ BK434 hg; replace BK434 := bkb_ BK434 hb; clear hb hg; have hnb43 := NB434_435.out; have hnc43 := NB435_434.out; have hcz44_0 := c7_ BK434) | ((with_reducible refine gc_ 9 rfl ?_); refine cl_ Tryz.func9 (impl_ValidDesk.calls _ _ _ _ _ _ _ _ _ _ _ _ _ _ _ _ _ _ (kc_ HR0_1) HC0_1.out (kc_ HR0_2) HC0_2.out (kc_ HR0_3) HC0_3.out (kc_ HR0_4) HC0_4.out A3.out (HTB.out.below bwl_)) ?_; intro w45 hb; replace BK434 := bkb_ BK434 hb; replace BK435 := bkb_ BK435 hb; replace HB := bst_ hb; clear hb; have hcz46_0 := c7_ BK434) | ((with_reducible refine gc_ 41 rfl ?_); refine cl_ Tryz.func41 (impl_LosePower.calls _ _ _ _ _ _ _ _ A5.out (HTB.out.below bwl_)) ?_; intro w47 hb; replace BK434 := bkb_ BK434 hb; replace BK435 := bkb_ BK435 hb; replace HB := bst_ hb; clear hb) | ((with_reducible refine gd_ 6 rfl ?_); refine bx_ #[.string (⟨#[]⟩ : ByteArray), .string (⟨#[]⟩ : ByteArray)] ?_; intro gb440 hg w48 BK440 hb; have GW440 := bsz_ hg; replace HB := bst_ hb; have NB434_440 := nbl_ BK434 hg; have NB440_434 := nbr_ BK434 hg; replace BK434 := bkb_ BK434 hb; have NB435_440 := nbl_ BK435 hg; have NB440_435 := nbr_ BK435 hg; replace BK435 := bkb_ BK435 hb; clear hb hg; have hnb49 := NB440_434.out; have hnc49 := NB434_440.out; have hnb50 := NB440_435.out; have hnc50 := NB435_440.out; have hcz51_0 := c2_ BK440) | ((with_reducible refine gc_ 42 rfl ?_); refine cl_ Tryz.func42 (impl_RecoverLog.calls _ _ _ _ _ _ _ _ A7.out (HTB.out.below bwl_)) ?_; intro w52 hb; replace BK434 := bkb_ BK434 hb; replace BK435 := bkb_ BK435 hb; replace BK440 := kb2_ BK440 hb; replace HB := bst_ hb; clear hb) | ((with_reducible refine gd_ 8 rfl ?_); refine bx_ #[.string (⟨#[]⟩ : ByteArray), .string (⟨#[]⟩ : ByteArray)] ?_; intro gb445 hg w53 BK445 hb; have GW445 := bsz_ hg; replace HB := bst_ hb; have NB434_445 := nbl_ BK434 hg; have NB445_434 := nbr_ BK434 hg; replace BK434 := bkb_ BK434 hb; have NB435_445 := nbl_ BK435 hg; have NB445_435 := nbr_ BK435 hg; replace BK435 := bkb_ BK435 hb; have NB440_445 := nbl_ BK440 hg; have NB445_440 := nbr_ BK440 hg; replace BK440 := bkb_ BK440 hb; clear hb hg; have hnb54 := NB445_434.out; have hnc54 := NB434_445.out; have hnb55 := NB445_435.out; have hnc55 := NB435_445.out; have hnb56 := NB445_440.out; have hnc56 := NB440_445.out; have hcz57_0 := c2_ BK445; have hcz57_1 := c7_ BK435) | ((with_reducible refine gs_ rfl ?_); refine st_ ?_; intro wS hw; (try replace BK434 := kw7_ BK434 hw); (try replace BK435 := kw7_ BK435 hw); (try replace BK440 := kw2_ BK440 hw); (try replace BK445 := kw2_ BK445 hw); replace HB := kwb_ hw; clear hw; (try clear zs434); (try clear zs435); (try clear zs440); (try clear zs445); (try have zs434 := c7_ BK434); (try have zs435 := c7_ BK435); (try have zs440 := c2_ BK440); (try have zs445 := c2_ BK445)))
    refine bodyPost_ret (results_ct rfl _ _ gb435 41 #[.int .i64 0, .slice none 0 0, .slice none 0 0, .slice none 0 0, .slice none 0 0, .string (⟨#[]⟩ : ByteArray), .string (⟨#[]⟩ : ByteArray)] (0, 0) _ rfl (kbp_ BK435) Tryz.underlying41 rfl (by kernel_rfl)) rfl ?_
    exact ⟨_, _, _, _, rr_, rn_, rn_, rn_, rn_, bwl_⟩
  ·rw [if_neg c6] at H
   have c6b0 : (t439 == 0) = false := beq_eq_false_iff_ne.mpr c6
   have c6b1 : (t439 != 0) = true := bne_iff_ne.mpr c6
   simp only [Option.some.injEq, Prod.mk.injEq] at H
   obtain ⟨rfl, rfl, rfl, rfl, rfl, rfl, rfl, rfl⟩ := H
   go_enter Tryz.func14, Tryz.ntmps14
   go_wp2_with (first | ((with_reducible refine gd_ 2 rfl ?_); refine bx_ #[.int .i64 a0_0, .slice A0_1 l0_1.length c0_1, .slice A0_2 l0_2.length c0_2, .slice A0_3 l0_3.length c0_3, .slice A0_4 l0_4.length c0_4, .string a0_5, .string a0_6] ?_; intro gb434 hg w59 BK434 hb; have GW434 := bsz_ hg; replace HB := bst_ hb; clear hb hg) | ((with_reducible refine gd_ 4 rfl ?_); refine bx_ #[.int .i64 0, .slice none 0 0, .slice none 0 0, .slice none 0 0, .slice none 0 0, .string (⟨#[]⟩ : ByteArray), .string (⟨#[]⟩ : ByteArray)] ?_; intro gb435 hg w60 BK435 hb; have GW435 := bsz_ hg; replace HB := bst_ hb; have NB434_435 := nbl_ BK434 hg; have NB435_434 := nbr_ BK434 hg; replace BK434 := bkb_ BK434 hb; clear hb hg; have hnb61 := NB434_435.out; have hnc61 := NB435_434.out; have hcz62_0 := c7_ BK434) | ((with_reducible refine gc_ 9 rfl ?_); refine cl_ Tryz.func9 (impl_ValidDesk.calls _ _ _ _ _ _ _ _ _ _ _ _ _ _ _ _ _ _ (kc_ HR0_1) HC0_1.out (kc_ HR0_2) HC0_2.out (kc_ HR0_3) HC0_3.out (kc_ HR0_4) HC0_4.out A3.out (HTB.out.below bwl_)) ?_; intro w63 hb; replace BK434 := bkb_ BK434 hb; replace BK435 := bkb_ BK435 hb; replace HB := bst_ hb; clear hb; have hcz64_0 := c7_ BK434) | ((with_reducible refine gc_ 41 rfl ?_); refine cl_ Tryz.func41 (impl_LosePower.calls _ _ _ _ _ _ _ _ A5.out (HTB.out.below bwl_)) ?_; intro w65 hb; replace BK434 := bkb_ BK434 hb; replace BK435 := bkb_ BK435 hb; replace HB := bst_ hb; clear hb) | ((with_reducible refine gd_ 6 rfl ?_); refine bx_ #[.string (⟨#[]⟩ : ByteArray), .string (⟨#[]⟩ : ByteArray)] ?_; intro gb440 hg w66 BK440 hb; have GW440 := bsz_ hg; replace HB := bst_ hb; have NB434_440 := nbl_ BK434 hg; have NB440_434 := nbr_ BK434 hg; replace BK434 := bkb_ BK434 hb; have NB435_440 := nbl_ BK435 hg; have NB440_435 := nbr_ BK435 hg; replace BK435 := bkb_ BK435 hb; clear hb hg; have hnb67 := NB440_434.out; have hnc67 := NB434_440.out; have hnb68 := NB440_435.out; have hnc68 := NB435_440.out; have hcz69_0 := c2_ BK440; have hcz69_1 := c7_ BK435) | ((with_reducible refine gs_ rfl ?_); refine st_ ?_; intro wS hw; (try replace BK434 := kw7_ BK434 hw); (try replace BK435 := kw7_ BK435 hw); (try replace BK440 := kw2_ BK440 hw); replace HB := kwb_ hw; clear hw; (try clear zs434); (try clear zs435); (try clear zs440); (try have zs434 := c7_ BK434); (try have zs435 := c7_ BK435); (try have zs440 := c2_ BK440)))
   refine bodyPost_ret (results_ct rfl _ _ gb435 41 #[.int .i64 0, .slice none 0 0, .slice none 0 0, .slice none 0 0, .slice none 0 0, .string (⟨#[]⟩ : ByteArray), .string (⟨#[]⟩ : ByteArray)] (0, 0) _ rfl (kbp_ BK435) Tryz.underlying41 rfl (by kernel_rfl)) rfl ?_
   exact ⟨_, _, _, _, rr_, rn_, rn_, rn_, rn_, bwl_⟩
 ·simp only [Option.some.injEq, Prod.mk.injEq] at H
  obtain ⟨rfl, rfl, rfl, rfl, rfl, rfl, rfl, rfl⟩ := H
  go_enter Tryz.func14, Tryz.ntmps14
  go_wp2_with (first | ((with_reducible refine gd_ 2 rfl ?_); refine bx_ #[.int .i64 a0_0, .slice A0_1 l0_1.length c0_1, .slice A0_2 l0_2.length c0_2, .slice A0_3 l0_3.length c0_3, .slice A0_4 l0_4.length c0_4, .string a0_5, .string a0_6] ?_; intro gb434 hg w71 BK434 hb; have GW434 := bsz_ hg; replace HB := bst_ hb; clear hb hg) | ((with_reducible refine gd_ 4 rfl ?_); refine bx_ #[.int .i64 0, .slice none 0 0, .slice none 0 0, .slice none 0 0, .slice none 0 0, .string (⟨#[]⟩ : ByteArray), .string (⟨#[]⟩ : ByteArray)] ?_; intro gb435 hg w72 BK435 hb; have GW435 := bsz_ hg; replace HB := bst_ hb; have NB434_435 := nbl_ BK434 hg; have NB435_434 := nbr_ BK434 hg; replace BK434 := bkb_ BK434 hb; clear hb hg; have hnb73 := NB434_435.out; have hnc73 := NB435_434.out; have hcz74_0 := c7_ BK434) | ((with_reducible refine gc_ 9 rfl ?_); refine cl_ Tryz.func9 (impl_ValidDesk.calls _ _ _ _ _ _ _ _ _ _ _ _ _ _ _ _ _ _ (kc_ HR0_1) HC0_1.out (kc_ HR0_2) HC0_2.out (kc_ HR0_3) HC0_3.out (kc_ HR0_4) HC0_4.out A3.out (HTB.out.below bwl_)) ?_; intro w75 hb; replace BK434 := bkb_ BK434 hb; replace BK435 := bkb_ BK435 hb; replace HB := bst_ hb; clear hb; have hcz76_0 := c7_ BK435) | ((with_reducible refine gs_ rfl ?_); refine st_ ?_; intro wS hw; (try replace BK434 := kw7_ BK434 hw); (try replace BK435 := kw7_ BK435 hw); replace HB := kwb_ hw; clear hw; (try clear zs434); (try clear zs435); (try have zs434 := c7_ BK434); (try have zs435 := c7_ BK435)))
  refine bodyPost_ret (results_ct rfl _ _ gb435 41 #[.int .i64 0, .slice none 0 0, .slice none 0 0, .slice none 0 0, .slice none 0 0, .string (⟨#[]⟩ : ByteArray), .string (⟨#[]⟩ : ByteArray)] (0, 0) _ rfl (kbp_ BK435) Tryz.underlying41 rfl (by kernel_rfl)) rfl ?_
  exact ⟨_, _, _, _, rr_, rn_, rn_, rn_, rn_, bwl_⟩
def laws_markText.l0 : Nat → Int → ByteArray → Option (ByteArray)
 | 0, _, _ => none
 | k + 1, x0, x3 => if x0 > 0 then ((some (([(wrap64 (48 + (Int.tmod x0 10))) % 256] : List Int) : List Int)).bind fun y462 => (if (strOfNums y462).size + x3.size ≤ 9223372036854775807 then (laws_markText.l0 k (wrap64 (Int.tdiv x0 10)) ((strOfNums y462) ++ x3)) else (none))) else (if 1 + x3.size ≤ 9223372036854775807 then (some ((⟨#[109]⟩ : ByteArray) ++ x3)) else (none))
def laws_markText.f (k : Nat) (a0 : Int) : Option (ByteArray) := if a0 ≤ 0 then (some (⟨#[109, 48]⟩ : ByteArray)) else (laws_markText.l0 k a0 (⟨#[]⟩ : ByteArray))
theorem laws_markText.mono_l : ∀ k, (∀ y0 y1, LeO (laws_markText.l0 k y0 y1) (laws_markText.l0 (k + 1) y0 y1))
 | 0 => fun _ _ r h => by simp [laws_markText.l0] at h
 | k + 1 => by
  have ih0 := laws_markText.mono_l k
  ·intro y0 y1
   unfold laws_markText.l0
   exact mo_
theorem laws_markText.mono : ∀ a0 k, LeO (laws_markText.f k a0) (laws_markText.f (k + 1) a0) := by
 intro a0 k
 have ih0 := laws_markText.mono_l k
 unfold laws_markText.f
 exact mo_
theorem laws_markText.calls (k : Nat) (a0 : Int) (r : ByteArray) (w : World) (h : laws_markText.f k a0 = some r) :
  Calls Tryz.prog 77 #[.int .i64 a0] w fun e w' => e = .returned (.string r) ∧ Below w.heap.size w w' := by
 have HB := Aside0.mk (Below.refl w.heap.size w)
 have H := h
 clear h
 unfold laws_markText.f at H
 revert H
 refine if_ ?_ ?_ <;> intro c2b0 H
 ·obtain rfl := Option.some.inj H
  go_enter Tryz.func77, Tryz.ntmps77
  go_wp2
  go_ret
  exact ⟨rr_, by repeat (first | (with_reducible first | exact HB.out | apply below_alloc | apply pw_below_drewN | apply below_drew1) | exact HB.out)⟩
 ·have H' := Aside0.mk H
  clear H
  go_enter Tryz.func77, Tryz.ntmps77
  go_wp2
  go_loopg [0, 3] k (fun kq v0 v3 w' => ∃ (x0_1 : Int) (x3_1 : ByteArray), v0 = .int .i64 x0_1 ∧ v3 = .string x3_1 ∧ Aside0 (laws_markText.l0 kq x0_1 x3_1 = some r) ∧ Aside0 (kq ≤ k) ∧ Aside0 (Below w.heap.size w w'))
  case atStart => exact ⟨(a0), ((⟨#[]⟩ : ByteArray)), re_, re_, H', ⟨Nat.le_refl _⟩, ⟨by repeat (first | (with_reducible first | exact HB.out | apply below_alloc | apply pw_below_drewN | apply below_drew1) | exact HB.out)⟩⟩
  case round =>
   clear H'
   (try clear c2b0)
   obtain ⟨x0_1, x3_1, rfl, rfl, HA, HK1, HB⟩ := hrel
   cases gk with
   | zero => exact absurd HA.out (by simp [laws_markText.l0])
   | succ k1 =>
    have H := HA.out
    clear HA
    simp only [laws_markText.l0] at H
    revert H
    refine if_ ?_ ?_ <;> intro c3b0 H
    ·obtain ⟨y462, hy462⟩ : ∃ y_ : List Int, y_ = (([(wrap64 (48 + (Int.tmod x0_1 10))) % 256] : List Int)) := ⟨_, rfl⟩
     replace H : (if (strOfNums y462).size + x3_1.size ≤ 9223372036854775807 then (laws_markText.l0 k1 (wrap64 (Int.tdiv x0_1 10)) ((strOfNums y462) ++ x3_1)) else (none)) = some r := by first | (rw [hy462]; with_reducible exact H) | (have H2_ := (Option.bind_some _ _).symm.trans H; rw [hy462]; with_reducible exact H2_) | (have H2_ := (Option.bind_some _ _).symm.trans H; with_reducible exact H2_) | with_reducible exact H | (rw [hy462]; exact H) | exact H
     have Ny462 := Aside0.mk hy462
     clear hy462
     by_cases c4 : (strOfNums y462).size + x3_1.size ≤ 9223372036854775807
     ·rw [if_pos c4] at H
      have c4b0 := eq_true c4
      have c4b1 : decide ((strOfNums y462).size + x3_1.size ≤ 9223372036854775807) = true := decide_eq_true c4
      try have c4b2 : (9223372036854775807 < (strOfNums y462).size + x3_1.size) = False := eq_false (Nat.not_lt.2 c4)
      have H' := Aside0.mk H
      clear H
      go_wp2_with (first | ((with_reducible refine gd_ 12 rfl ?_); refine Kd.R_lit (Kd.int .u8) _ 5 ?hg (N := 12) ?hd (xs := ([(wrap64 (48 + (Int.tmod x0_1 10))) % 256] : List Int)) (inner := [.int .u8 ((wrap64 (48 + (Int.tmod x0_1 10))) % 256)]) (ok := fun _ => True) (okp := fun _ => True) ?hr ?hp (fun _ hk => hk) trivial (Below.refl _ _) (Nat.le_refl _) (by simp) ?_; (case hd => rfl); (case hg => rfl); (case hr => first | (go_simp; done) | (go_simp; rfl)); (case hp => exact (Reps.one (show Kd.M (Kd.int .u8) _ _ _ ((wrap64 (48 + (Int.tmod x0_1 10))) % 256) [.int .u8 ((wrap64 (48 + (Int.tmod x0_1 10))) % 256)] from rfl) (Reps.none _ _))); intro v463 w5 ho6 hb hg_ hnew_; clear hg_ hnew_; (first | rw [← Ny462.out] at ho6 | (simp only [Int.reduceToNat] at ho6; rw [← Ny462.out] at ho6)); have n0_ := Aside0.mk (Kd.R_lower ho6 (below_size (by repeat (first | (with_reducible first | exact HB.out | apply below_alloc | apply pw_below_drewN | apply below_drew1) | exact HB.out)))); have n1_ := Aside0.mk (below_step (by repeat (first | (with_reducible first | exact HB.out | apply below_alloc | apply pw_below_drewN | apply below_drew1) | exact HB.out)) hb); clear HB; have HO464 := n0_; have HB := n1_; clear n0_ n1_; clear hb ho6; have hcv7 := own_string (P := Tryz.prog) Tryz.underlying109 Tryz.underlying5 Tryz.underlying9 (Kd.own_of_R HO464.out)))
      go_roundg k1
      case measure => have := HK1.out; omega
      case rel => exact ⟨(wrap64 (Int.tdiv x0_1 10)), ((strOfNums y462) ++ x3_1), re_, re_, H', ⟨by have := HK1.out; omega⟩, ⟨by repeat (first | (with_reducible first | exact HB.out | apply below_alloc | apply pw_below_drewN | apply below_drew1) | exact HB.out)⟩⟩
     ·rw [if_neg c4] at H
      exact absurd H (by simp)
    ·by_cases c8 : 1 + x3_1.size ≤ 9223372036854775807
     ·rw [if_pos c8] at H
      have c8b0 := eq_true c8
      have c8b1 : decide (1 + x3_1.size ≤ 9223372036854775807) = true := decide_eq_true c8
      try have c8b2 : (9223372036854775807 < 1 + x3_1.size) = False := eq_false (Nat.not_lt.2 c8)
      obtain rfl := Option.some.inj H
      go_wp2
      go_ret
      exact ⟨rr_, by repeat (first | (with_reducible first | exact HB.out | apply below_alloc | apply pw_below_drewN | apply below_drew1) | exact HB.out)⟩
     ·rw [if_neg c8] at H
      exact absurd H (by simp)
def laws_markRailS.l0 : Nat → List (S97) → Int → Int → Option (Int × (List (S97)))
 | 0, _, _, _ => none
 | k + 1, x0, x1, x5 => if x5 < (x0.length : Int) then ((laws_markText.f k x1).bind fun t465 => (if 0 ≤ x5 then ((some (x0.set (x5 : Int).toNat (⟨t465, (rd_T97 x0 x5).f1, (rd_T97 x0 x5).f2⟩ : S97) : List (S97))).bind fun y466 => ((laws_markText.f k (wrap64 (x1 + 1))).bind fun t467 => ((some (y466.set (x5 : Int).toNat (⟨(rd_T97 y466 x5).f0, t467, (rd_T97 y466 x5).f2⟩ : S97) : List (S97))).bind fun y468 => (laws_markRailS.l0 k (y468.set (x5 : Int).toNat (⟨(rd_T97 y468 x5).f0, (rd_T97 y468 x5).f1, wrap64 ((wrap64 (x1 + 1)) + 1)⟩ : S97)) (wrap64 ((wrap64 ((wrap64 (x1 + 1)) + 1)) + 1)) (wrap64 (x5 + 1)))))) else (none))) else (some (x1, x0))
def laws_markRailS.f (k : Nat) (l0 : List (S97)) (a1 : Int) : Option (Int × (List (S97))) := laws_markRailS.l0 k l0 a1 0
theorem laws_markRailS.mono_l : ∀ k, (∀ y0 y1 y2, LeO (laws_markRailS.l0 k y0 y1 y2) (laws_markRailS.l0 (k + 1) y0 y1 y2))
 | 0 => fun _ _ _ r h => by simp [laws_markRailS.l0] at h
 | k + 1 => by
  have ih0 := laws_markRailS.mono_l k
  ·intro y0 y1 y2
   unfold laws_markRailS.l0
   have m0 := @laws_markText.mono
   exact mo_
theorem laws_markRailS.mono : ∀ a0 a1 k, LeO (laws_markRailS.f k a0 a1) (laws_markRailS.f (k + 1) a0 a1) := by
 intro a0 a1 k
 have ih0 := laws_markRailS.mono_l k
 unfold laws_markRailS.f
 have m0 := @laws_markText.mono
 exact mo_
theorem laws_markRailS.calls (k : Nat) (P0_ : Nat → Prop) (u9000_ : Value) (l0 : List (S97)) (a1 : Int) (r1 : Int) (r2 : List (S97)) (w0 w : World) (hB : Below w0.heap.size w0 w) (ho0 : Kd.R k97 97 w w0.heap.size P0_ u9000_ l0) (h : laws_markRailS.f k l0 a1 = some (r1, r2)) :
  Calls Tryz.prog 74 #[u9000_, .int .i64 a1] w fun e w' => e = .returned (.int .i64 r1) ∧ Kd.R k97 97 w' w0.heap.size (fun k_ => (P0_ k_ ∨ w.heap.size ≤ k_)) u9000_ r2 ∧ Below w0.heap.size w0 w' ∧ Kept w w' (fun k_ => P0_ k_) := by
 have HO0 := Aside0.mk (show Kd.R k97 97 w w0.heap.size (fun k_ => (P0_ k_ ∨ w.heap.size ≤ k_)) u9000_ l0 from Kd.R_mono ho0 (fun k_ hk => (.inl hk)))
 have HK := Aside0.mk (Kept.refl w (fun k_ => P0_ k_))
 have HW0 := Aside0.mk hB.size
 have HB := Aside0.mk hB
 clear hB
 have H := h
 clear h
 unfold laws_markRailS.f at H
 have H' := Aside0.mk H
 clear H
 go_enter Tryz.func74, Tryz.ntmps74
 go_wp2
 go_loopg [1, 5] k (fun kq v1 v5 w' => ∃ (x0_1 : List (S97)) (x1_1 : Int) (x5_1 : Int), v1 = .int .i64 x1_1 ∧ v5 = .int .i64 x5_1 ∧ Aside0 (laws_markRailS.l0 kq x0_1 x1_1 x5_1 = some (r1, r2)) ∧ Aside0 (kq ≤ k) ∧ Aside0 (Kd.R k97 97 w' w0.heap.size (fun k_ => (P0_ k_ ∨ w.heap.size ≤ k_)) u9000_ x0_1) ∧ Aside0 (Kept w w' (fun k_ => P0_ k_)) ∧ Aside0 (Below w0.heap.size w0 w'))
 case atStart => exact ⟨(l0), (a1), (0), re_, re_, H', ⟨Nat.le_refl _⟩, ⟨ks_ HO0⟩, ⟨by repeat (first | (with_reducible first | exact HK.out | apply Kept.alloc | apply Kept.drewN | apply Kept.drew) | exact HK.out)⟩, ⟨by repeat (first | (with_reducible first | exact HB.out | apply below_alloc | apply pw_below_drewN | apply below_drew1) | exact HB.out)⟩⟩
 case round =>
  clear H'
  obtain ⟨x0_1, x1_1, x5_1, rfl, rfl, HA, HK1, HO_0, HK, HB⟩ := hrel
  cases gk with
  | zero => exact absurd HA.out (by simp [laws_markRailS.l0])
  | succ k1 =>
   have H := HA.out
   clear HA
   simp only [laws_markRailS.l0] at H
   revert H
   refine if_ ?_ ?_ <;> intro c3b0 H
   ·revert H
    refine bn_ ?_
    intro t465 A4 H
    revert H
    refine in_ ?_
    intro c5b0 H
    obtain ⟨y466, hy466⟩ : ∃ y_ : List (S97), y_ = (x0_1.set (x5_1 : Int).toNat (⟨t465, (rd_T97 x0_1 x5_1).f1, (rd_T97 x0_1 x5_1).f2⟩ : S97)) := ⟨_, rfl⟩
    replace H : ((laws_markText.f k1 (wrap64 (x1_1 + 1))).bind fun t467 => ((some (y466.set (x5_1 : Int).toNat (⟨(rd_T97 y466 x5_1).f0, t467, (rd_T97 y466 x5_1).f2⟩ : S97) : List (S97))).bind fun y468 => (laws_markRailS.l0 k1 (y468.set (x5_1 : Int).toNat (⟨(rd_T97 y468 x5_1).f0, (rd_T97 y468 x5_1).f1, wrap64 ((wrap64 (x1_1 + 1)) + 1)⟩ : S97)) (wrap64 ((wrap64 ((wrap64 (x1_1 + 1)) + 1)) + 1)) (wrap64 (x5_1 + 1))))) = some (r1, r2) := by first | (rw [hy466]; with_reducible exact H) | (have H2_ := (Option.bind_some _ _).symm.trans H; rw [hy466]; with_reducible exact H2_) | (have H2_ := (Option.bind_some _ _).symm.trans H; with_reducible exact H2_) | with_reducible exact H | (rw [hy466]; exact H) | exact H
    have Ny466 := Aside0.mk hy466
    clear hy466
    revert H
    refine bn_ ?_
    intro t467 A7 H
    obtain ⟨y468, hy468⟩ : ∃ y_ : List (S97), y_ = (y466.set (x5_1 : Int).toNat (⟨(rd_T97 y466 x5_1).f0, t467, (rd_T97 y466 x5_1).f2⟩ : S97)) := ⟨_, rfl⟩
    replace H : (laws_markRailS.l0 k1 (y468.set (x5_1 : Int).toNat (⟨(rd_T97 y468 x5_1).f0, (rd_T97 y468 x5_1).f1, wrap64 ((wrap64 (x1_1 + 1)) + 1)⟩ : S97)) (wrap64 ((wrap64 ((wrap64 (x1_1 + 1)) + 1)) + 1)) (wrap64 (x5_1 + 1))) = some (r1, r2) := by first | (rw [hy468]; with_reducible exact H) | (have H2_ := (Option.bind_some _ _).symm.trans H; rw [hy468]; with_reducible exact H2_) | (have H2_ := (Option.bind_some _ _).symm.trans H; with_reducible exact H2_) | with_reducible exact H | (rw [hy468]; exact H) | exact H
    have Ny468 := Aside0.mk hy468
    clear hy468
    obtain ⟨y469, hy469⟩ : ∃ y_ : List (S97), y_ = (y468.set (x5_1 : Int).toNat (⟨(rd_T97 y468 x5_1).f0, (rd_T97 y468 x5_1).f1, wrap64 ((wrap64 (x1_1 + 1)) + 1)⟩ : S97)) := ⟨_, rfl⟩
    replace H : (laws_markRailS.l0 k1 y469 (wrap64 ((wrap64 ((wrap64 (x1_1 + 1)) + 1)) + 1)) (wrap64 (x5_1 + 1))) = some (r1, r2) := by first | (rw [hy469]; with_reducible exact H) | (have H2_ := (Option.bind_some _ _).symm.trans H; rw [hy469]; with_reducible exact H2_) | (have H2_ := (Option.bind_some _ _).symm.trans H; with_reducible exact H2_) | with_reducible exact H | (rw [hy469]; exact H) | exact H
    have Ny469 := Aside0.mk hy469
    clear hy469
    have H' := Aside0.mk H
    clear H
    obtain ⟨Ao10, co10, eo10⟩ := Kd.R_slice HO_0.out
    subst eo10
    go_wp2_with (first | ((with_reducible refine gc_ 77 rfl ?_); (with_reducible refine gd_ 15 rfl ?_); refine cl_ Tryz.func77 (laws_markText.calls _ _ _ _ A4.out) ?_; intro w11 hb; have n0_ := kr_ HO_0 hb; have n1_ := Aside0.mk (Kept.below (S := (fun k_ => P0_ k_)) (by repeat (first | (with_reducible first | exact HK.out | apply Kept.alloc | apply Kept.drewN | apply Kept.drew) | exact HK.out)) hb); have n2_ := Aside0.mk (below_step (by repeat (first | (with_reducible first | exact HB.out | apply below_alloc | apply pw_below_drewN | apply below_drew1) | exact HB.out)) hb); clear HO_0; clear HK; clear HB; have HO_0 := n0_; have HK := n1_; have HB := n2_; clear n0_ n1_ n2_; clear hb; have p6 : 0 ≤ (x5_1 : Int) := od_; have q6 : (x5_1 : Int) < ((x0_1.length : Int) : Int) := od_; obtain ⟨go6, co6, eo6, gb6, gl6, cl6, HG6⟩ := Kd.R_form HO_0.out (by omega); (first | cases eo6 | (injection eo6 with ea_ en_ ec_; (first | subst ea_ | (injection ea_ with ea_; subst ea_)); subst ec_; clear en_)); have GB6 := Aside0.mk gb6; have GG6 := Aside0.mk HG6; clear gb6 gl6 HG6; have HMgo6 := Aside0.mk (show (P0_ go6 ∨ w.heap.size ≤ go6) from (HO_0.out.1 _ rfl)); obtain ⟨ce6, hcl6, hM6, hcc6, hfr6⟩ := Kd.R_elem HO_0.out z97 (x5_1 : Int) p6 q6; obtain rfl := k97_openM hM6; have hx6_0 : w11.cell? ⟨go6, (x5_1 : Int).toNat * 3, none⟩ = some (.string ((rd_T97 x0_1 x5_1).f0)) := hcc6 0 _ rfl; have hx6_1 : w11.cell? ⟨go6, (x5_1 : Int).toNat * 3 + 1, none⟩ = some (.string ((rd_T97 x0_1 x5_1).f1)) := hcc6 1 _ rfl; have hx6_2 : w11.cell? ⟨go6, (x5_1 : Int).toNat * 3 + 2, none⟩ = some (.int .i64 ((rd_T97 x0_1 x5_1).f2)) := hcc6 2 _ rfl; have hf6_0 : w11.frozen? ⟨go6, (x5_1 : Int).toNat * 3, none⟩ = false := hfr6 0; have hf6_1 : w11.frozen? ⟨go6, (x5_1 : Int).toNat * 3 + 1, none⟩ = false := hfr6 1; have hf6_2 : w11.frozen? ⟨go6, (x5_1 : Int).toNat * 3 + 2, none⟩ = false := hfr6 2; clear hcl6 hcc6 hfr6 hM6; replace p6 := eq_true p6; replace q6 := eq_true q6; have HX12 := Aside0.mk (show Kd.R k97 97 w11 w0.heap.size (fun k_ => (P0_ k_ ∨ w.heap.size ≤ k_)) (.slice (some ⟨go6, 0, none⟩) x0_1.length co10) x0_1 from (ks_ HO_0)); obtain ⟨ce12, hcl12, hM12, hcc12, hfr12⟩ := Kd.R_elem HX12.out z97 (x5_1 : Int) (od_) (by have h_ : (x5_1 : Int) < ((x0_1.length : Int) : Int) := od_; first | exact h_ | (have e_ := (Kd.R_reads' HO_0.out).1; omega) | simpa using h_); obtain rfl := k97_openM hM12; have HP12 := Kd.R_seg HX12.out (x5_1 : Int) (od_) (by have h_ : (x5_1 : Int) < ((x0_1.length : Int) : Int) := od_; first | exact h_ | (have e_ := (Kd.R_reads' HO_0.out).1; omega) | simpa using h_) (seg := [.string t465]) (j := 0) hcl12 hcc12 (show 1 ≤ 3 from by decide) (x' := (⟨t465, (rd_T97 x0_1 x5_1).f1, (rd_T97 x0_1 x5_1).f2⟩ : S97)) (k97_mkM _ _ _ (⟨t465, (rd_T97 x0_1 x5_1).f1, (rd_T97 x0_1 x5_1).f2⟩ : S97) ) (fun _ hk => hk); have hx12_0 := hcc12 0 _ rfl; (try simp only [show (k97).sz = 3 from rfl, Nat.mul_one, Nat.add_zero] at hx12_0); have hf12_0 := hfr12 0; (try simp only [show (k97).sz = 3 from rfl, Nat.mul_one, Nat.add_zero] at hf12_0); clear hcl12 hcc12 hfr12 hM12) | ((with_reducible refine gate_store (t := 9) (p := 17) rfl ?_); refine store_event (t := 9) (p := 17) (v := ?vo_w13) (w1 := (w11.setCell ⟨go6, (x5_1 : Int).toNat * 3, none⟩ (.string t465))) ?hg ?ho ?hn ?hr ?_; (case ho => rfl); (case hg => rfl); (case hn => rfl); (case hr => first | (go_simp; done) | (go_simp; rfl)); intro w13 hw; have hg : w11.grownBy w13 (some go6) := (by rw [hw]; exact HP12.2); have hp_ : Kd.R k97 97 w13 w0.heap.size (fun k_ => (P0_ k_ ∨ w.heap.size ≤ k_)) (.slice (some ⟨go6, 0, none⟩) x0_1.length co10) y466 := (by rw [hw, Ny466.out]; exact HP12.1); clear HP12; have n0_ := Aside0.mk (hp_); have n1_ := Aside0.mk ((by rw [hw]; exact below_set (HB.out) GB6.out : Below w0.heap.size w0 w13)); have n2_ := Aside0.mk (Kept.of_grown (S := (fun k_ => P0_ k_)) hg (by repeat (first | (with_reducible first | exact HK.out | apply Kept.alloc | apply Kept.drewN | apply Kept.drew) | exact HK.out)) (fun k_ e_ => (HO_0.out.1 k_ e_))); clear HO_0; clear HB; clear HK; have HO_0 := n0_; have HB := n1_; have HK := n2_; clear n0_ n1_ n2_; clear hg hw hp_) | ((with_reducible refine gc_ 77 rfl ?_); (with_reducible refine gd_ 23 rfl ?_); refine cl_ Tryz.func77 (laws_markText.calls _ _ _ _ A7.out) ?_; intro w14 hb; have n0_ := kr_ HO_0 hb; have n1_ := Aside0.mk (Kept.below (S := (fun k_ => P0_ k_)) (by repeat (first | (with_reducible first | exact HK.out | apply Kept.alloc | apply Kept.drewN | apply Kept.drew) | exact HK.out)) hb); have n2_ := Aside0.mk (below_step (by repeat (first | (with_reducible first | exact HB.out | apply below_alloc | apply pw_below_drewN | apply below_drew1) | exact HB.out)) hb); clear HO_0; clear HK; clear HB; have HO_0 := n0_; have HK := n1_; have HB := n2_; clear n0_ n1_ n2_; clear hb; have p8 : 0 ≤ (x5_1 : Int) := od_; have q8 : (x5_1 : Int) < ((x0_1.length : Int) : Int) := od_; obtain ⟨ce8, hcl8, hM8, hcc8, hfr8⟩ := Kd.R_elem HO_0.out z97 (x5_1 : Int) p8 q8; obtain rfl := k97_openM hM8; have hx8_0 : w14.cell? ⟨go6, (x5_1 : Int).toNat * 3, none⟩ = some (.string ((rd_T97 y466 x5_1).f0)) := hcc8 0 _ rfl; have hx8_1 : w14.cell? ⟨go6, (x5_1 : Int).toNat * 3 + 1, none⟩ = some (.string ((rd_T97 y466 x5_1).f1)) := hcc8 1 _ rfl; have hx8_2 : w14.cell? ⟨go6, (x5_1 : Int).toNat * 3 + 2, none⟩ = some (.int .i64 ((rd_T97 y466 x5_1).f2)) := hcc8 2 _ rfl; have hf8_0 : w14.frozen? ⟨go6, (x5_1 : Int).toNat * 3, none⟩ = false := hfr8 0; have hf8_1 : w14.frozen? ⟨go6, (x5_1 : Int).toNat * 3 + 1, none⟩ = false := hfr8 1; have hf8_2 : w14.frozen? ⟨go6, (x5_1 : Int).toNat * 3 + 2, none⟩ = false := hfr8 2; clear hcl8 hcc8 hfr8 hM8; replace p8 := eq_true p8; replace q8 := eq_true q8; have HX15 := Aside0.mk (show Kd.R k97 97 w14 w0.heap.size (fun k_ => (P0_ k_ ∨ w.heap.size ≤ k_)) (.slice (some ⟨go6, 0, none⟩) x0_1.length co10) y466 from (ks_ HO_0)); obtain ⟨ce15, hcl15, hM15, hcc15, hfr15⟩ := Kd.R_elem HX15.out z97 (x5_1 : Int) (od_) (by have h_ : (x5_1 : Int) < ((x0_1.length : Int) : Int) := od_; first | exact h_ | (have e_ := (Kd.R_reads' HO_0.out).1; omega) | simpa using h_); obtain rfl := k97_openM hM15; have HP15 := Kd.R_seg HX15.out (x5_1 : Int) (od_) (by have h_ : (x5_1 : Int) < ((x0_1.length : Int) : Int) := od_; first | exact h_ | (have e_ := (Kd.R_reads' HO_0.out).1; omega) | simpa using h_) (seg := [.string t467]) (j := 1) hcl15 hcc15 (show 2 ≤ 3 from by decide) (x' := (⟨(rd_T97 y466 x5_1).f0, t467, (rd_T97 y466 x5_1).f2⟩ : S97)) (k97_mkM _ _ _ (⟨(rd_T97 y466 x5_1).f0, t467, (rd_T97 y466 x5_1).f2⟩ : S97) ) (fun _ hk => hk); have hx15_1 := hcc15 1 _ rfl; (try simp only [show (k97).sz = 3 from rfl, Nat.mul_one, Nat.add_zero] at hx15_1); have hf15_1 := hfr15 1; (try simp only [show (k97).sz = 3 from rfl, Nat.mul_one, Nat.add_zero] at hf15_1); clear hcl15 hcc15 hfr15 hM15) | ((with_reducible refine gate_store (t := 9) (p := 25) rfl ?_); refine store_event (t := 9) (p := 25) (v := ?vo_w16) (w1 := (w14.setCell ⟨go6, (x5_1 : Int).toNat * 3 + 1, none⟩ (.string t467))) ?hg ?ho ?hn ?hr ?_; (case ho => rfl); (case hg => rfl); (case hn => rfl); (case hr => first | (go_simp; done) | (go_simp; rfl)); intro w16 hw; have hg : w14.grownBy w16 (some go6) := (by rw [hw]; exact HP15.2); have hp_ : Kd.R k97 97 w16 w0.heap.size (fun k_ => (P0_ k_ ∨ w.heap.size ≤ k_)) (.slice (some ⟨go6, 0, none⟩) x0_1.length co10) y468 := (by rw [hw, Ny468.out]; exact HP15.1); clear HP15; have n0_ := Aside0.mk (hp_); have n1_ := Aside0.mk ((by rw [hw]; exact below_set (HB.out) GB6.out : Below w0.heap.size w0 w16)); have n2_ := Aside0.mk (Kept.of_grown (S := (fun k_ => P0_ k_)) hg (by repeat (first | (with_reducible first | exact HK.out | apply Kept.alloc | apply Kept.drewN | apply Kept.drew) | exact HK.out)) (fun k_ e_ => (HO_0.out.1 k_ e_))); clear HO_0; clear HB; clear HK; have HO_0 := n0_; have HB := n1_; have HK := n2_; clear n0_ n1_ n2_; clear hg hw hp_; have p9 : 0 ≤ (x5_1 : Int) := od_; have q9 : (x5_1 : Int) < ((x0_1.length : Int) : Int) := od_; obtain ⟨ce9, hcl9, hM9, hcc9, hfr9⟩ := Kd.R_elem HO_0.out z97 (x5_1 : Int) p9 q9; obtain rfl := k97_openM hM9; have hx9_0 : w16.cell? ⟨go6, (x5_1 : Int).toNat * 3, none⟩ = some (.string ((rd_T97 y468 x5_1).f0)) := hcc9 0 _ rfl; have hx9_1 : w16.cell? ⟨go6, (x5_1 : Int).toNat * 3 + 1, none⟩ = some (.string ((rd_T97 y468 x5_1).f1)) := hcc9 1 _ rfl; have hx9_2 : w16.cell? ⟨go6, (x5_1 : Int).toNat * 3 + 2, none⟩ = some (.int .i64 ((rd_T97 y468 x5_1).f2)) := hcc9 2 _ rfl; have hf9_0 : w16.frozen? ⟨go6, (x5_1 : Int).toNat * 3, none⟩ = false := hfr9 0; have hf9_1 : w16.frozen? ⟨go6, (x5_1 : Int).toNat * 3 + 1, none⟩ = false := hfr9 1; have hf9_2 : w16.frozen? ⟨go6, (x5_1 : Int).toNat * 3 + 2, none⟩ = false := hfr9 2; clear hcl9 hcc9 hfr9 hM9; replace p9 := eq_true p9; replace q9 := eq_true q9; have HX17 := Aside0.mk (show Kd.R k97 97 w16 w0.heap.size (fun k_ => (P0_ k_ ∨ w.heap.size ≤ k_)) (.slice (some ⟨go6, 0, none⟩) x0_1.length co10) y468 from (ks_ HO_0)); obtain ⟨ce17, hcl17, hM17, hcc17, hfr17⟩ := Kd.R_elem HX17.out z97 (x5_1 : Int) (od_) (by have h_ : (x5_1 : Int) < ((x0_1.length : Int) : Int) := od_; first | exact h_ | (have e_ := (Kd.R_reads' HO_0.out).1; omega) | simpa using h_); obtain rfl := k97_openM hM17; have HP17 := Kd.R_seg HX17.out (x5_1 : Int) (od_) (by have h_ : (x5_1 : Int) < ((x0_1.length : Int) : Int) := od_; first | exact h_ | (have e_ := (Kd.R_reads' HO_0.out).1; omega) | simpa using h_) (seg := [.int .i64 (wrap64 ((wrap64 (x1_1 + 1)) + 1))]) (j := 2) hcl17 hcc17 (show 3 ≤ 3 from by decide) (x' := (⟨(rd_T97 y468 x5_1).f0, (rd_T97 y468 x5_1).f1, wrap64 ((wrap64 (x1_1 + 1)) + 1)⟩ : S97)) (k97_mkM _ _ _ (⟨(rd_T97 y468 x5_1).f0, (rd_T97 y468 x5_1).f1, wrap64 ((wrap64 (x1_1 + 1)) + 1)⟩ : S97) ) (fun _ hk => hk); have hx17_2 := hcc17 2 _ rfl; (try simp only [show (k97).sz = 3 from rfl, Nat.mul_one, Nat.add_zero] at hx17_2); have hf17_2 := hfr17 2; (try simp only [show (k97).sz = 3 from rfl, Nat.mul_one, Nat.add_zero] at hf17_2); clear hcl17 hcc17 hfr17 hM17) | ((with_reducible refine gate_store (t := 2) (p := 32) rfl ?_); refine store_event (t := 2) (p := 32) (v := ?vo_w18) (w1 := (w16.setCell ⟨go6, (x5_1 : Int).toNat * 3 + 2, none⟩ (.int .i64 (wrap64 ((wrap64 (x1_1 + 1)) + 1))))) ?hg ?ho ?hn ?hr ?_; (case ho => rfl); (case hg => rfl); (case hn => rfl); (case hr => first | (go_simp; done) | (go_simp; rfl)); intro w18 hw; have hg : w16.grownBy w18 (some go6) := (by rw [hw]; exact HP17.2); have hp_ : Kd.R k97 97 w18 w0.heap.size (fun k_ => (P0_ k_ ∨ w.heap.size ≤ k_)) (.slice (some ⟨go6, 0, none⟩) x0_1.length co10) y469 := (by rw [hw, Ny469.out]; exact HP17.1); clear HP17; have n0_ := Aside0.mk (hp_); have n1_ := Aside0.mk ((by rw [hw]; exact below_set (HB.out) GB6.out : Below w0.heap.size w0 w18)); have n2_ := Aside0.mk (Kept.of_grown (S := (fun k_ => P0_ k_)) hg (by repeat (first | (with_reducible first | exact HK.out | apply Kept.alloc | apply Kept.drewN | apply Kept.drew) | exact HK.out)) (fun k_ e_ => (HO_0.out.1 k_ e_))); clear HO_0; clear HB; clear HK; have HO_0 := n0_; have HB := n1_; have HK := n2_; clear n0_ n1_ n2_; clear hg hw hp_))
    go_roundg k1
    case measure => have := HK1.out; omega
    case rel => exact ⟨(y469), (wrap64 ((wrap64 ((wrap64 (x1_1 + 1)) + 1)) + 1)), (wrap64 (x5_1 + 1)), re_, re_, H', ⟨by have := HK1.out; omega⟩, ⟨ks_ HO_0⟩, ⟨by repeat (first | (with_reducible first | exact HK.out | apply Kept.alloc | apply Kept.drewN | apply Kept.drew) | exact HK.out)⟩, ⟨by repeat (first | (with_reducible first | exact HB.out | apply below_alloc | apply pw_below_drewN | apply below_drew1) | exact HB.out)⟩⟩
   ·simp only [Option.some.injEq, Prod.mk.injEq] at H
    obtain ⟨rfl, rfl⟩ := H
    obtain ⟨Ao19, co19, eo19⟩ := Kd.R_slice HO_0.out
    subst eo19
    go_wp2
    go_ret
    exact ⟨rr_, ks_ HO_0, by repeat (first | (with_reducible first | exact HB.out | apply below_alloc | apply pw_below_drewN | apply below_drew1) | exact HB.out), by repeat (first | (with_reducible first | exact HK.out | apply Kept.alloc | apply Kept.drewN | apply Kept.drew) | exact HK.out)⟩
def laws_markStringS.l0 : Nat → List ByteArray → Int → Int → Option (Int × List ByteArray)
 | 0, _, _, _ => none
 | k + 1, x0, x1, x5 => if x5 < (x0.length : Int) then ((laws_markText.f k x1).bind fun t470 => (if 0 ≤ x5 then (laws_markStringS.l0 k (x0.set (x5 : Int).toNat t470) (wrap64 (x1 + 1)) (wrap64 (x5 + 1))) else (none))) else (some (x1, x0))
def laws_markStringS.f (k : Nat) (l0 : List ByteArray) (a1 : Int) : Option (Int × List ByteArray) := laws_markStringS.l0 k l0 a1 0
theorem laws_markStringS.mono_l : ∀ k, (∀ y0 y1 y2, LeO (laws_markStringS.l0 k y0 y1 y2) (laws_markStringS.l0 (k + 1) y0 y1 y2))
 | 0 => fun _ _ _ r h => by simp [laws_markStringS.l0] at h
 | k + 1 => by
  have ih0 := laws_markStringS.mono_l k
  ·intro y0 y1 y2
   unfold laws_markStringS.l0
   have m0 := @laws_markText.mono
   exact mo_
theorem laws_markStringS.mono : ∀ a0 a1 k, LeO (laws_markStringS.f k a0 a1) (laws_markStringS.f (k + 1) a0 a1) := by
 intro a0 a1 k
 have ih0 := laws_markStringS.mono_l k
 unfold laws_markStringS.f
 have m0 := @laws_markText.mono
 exact mo_
theorem laws_markStringS.calls (k : Nat) (P0_ : Nat → Prop) (u9000_ : Value) (l0 : List ByteArray) (a1 : Int) (r1 : Int) (r2 : List ByteArray) (w0 w : World) (hB : Below w0.heap.size w0 w) (ho0 : Kd.R Kd.string 9 w w0.heap.size P0_ u9000_ l0) (h : laws_markStringS.f k l0 a1 = some (r1, r2)) :
  Calls Tryz.prog 75 #[u9000_, .int .i64 a1] w fun e w' => e = .returned (.int .i64 r1) ∧ Kd.R Kd.string 9 w' w0.heap.size (fun k_ => (P0_ k_ ∨ w.heap.size ≤ k_)) u9000_ r2 ∧ Below w0.heap.size w0 w' ∧ Kept w w' (fun k_ => P0_ k_) := by
 have HO0 := Aside0.mk (show Kd.R Kd.string 9 w w0.heap.size (fun k_ => (P0_ k_ ∨ w.heap.size ≤ k_)) u9000_ l0 from Kd.R_mono ho0 (fun k_ hk => (.inl hk)))
 have HK := Aside0.mk (Kept.refl w (fun k_ => P0_ k_))
 have HW0 := Aside0.mk hB.size
 have HB := Aside0.mk hB
 clear hB
 have H := h
 clear h
 unfold laws_markStringS.f at H
 have H' := Aside0.mk H
 clear H
 go_enter Tryz.func75, Tryz.ntmps75
 go_wp2
 go_loopg [1, 5] k (fun kq v1 v5 w' => ∃ (x0_1 : List ByteArray) (x1_1 : Int) (x5_1 : Int), v1 = .int .i64 x1_1 ∧ v5 = .int .i64 x5_1 ∧ Aside0 (laws_markStringS.l0 kq x0_1 x1_1 x5_1 = some (r1, r2)) ∧ Aside0 (kq ≤ k) ∧ Aside0 (Kd.R Kd.string 9 w' w0.heap.size (fun k_ => (P0_ k_ ∨ w.heap.size ≤ k_)) u9000_ x0_1) ∧ Aside0 (Kept w w' (fun k_ => P0_ k_)) ∧ Aside0 (Below w0.heap.size w0 w'))
 case atStart => exact ⟨(l0), (a1), (0), re_, re_, H', ⟨Nat.le_refl _⟩, ⟨ks_ HO0⟩, ⟨by repeat (first | (with_reducible first | exact HK.out | apply Kept.alloc | apply Kept.drewN | apply Kept.drew) | exact HK.out)⟩, ⟨by repeat (first | (with_reducible first | exact HB.out | apply below_alloc | apply pw_below_drewN | apply below_drew1) | exact HB.out)⟩⟩
 case round =>
  clear H'
  obtain ⟨x0_1, x1_1, x5_1, rfl, rfl, HA, HK1, HO_0, HK, HB⟩ := hrel
  cases gk with
  | zero => exact absurd HA.out (by simp [laws_markStringS.l0])
  | succ k1 =>
   have H := HA.out
   clear HA
   simp only [laws_markStringS.l0] at H
   revert H
   refine if_ ?_ ?_ <;> intro c3b0 H
   ·revert H
    refine bn_ ?_
    intro t470 A4 H
    revert H
    refine in_ ?_
    intro c5b0 H
    obtain ⟨y471, hy471⟩ : ∃ y_ : List ByteArray, y_ = (x0_1.set (x5_1 : Int).toNat t470) := ⟨_, rfl⟩
    replace H : (laws_markStringS.l0 k1 y471 (wrap64 (x1_1 + 1)) (wrap64 (x5_1 + 1))) = some (r1, r2) := by first | (rw [hy471]; with_reducible exact H) | (have H2_ := (Option.bind_some _ _).symm.trans H; rw [hy471]; with_reducible exact H2_) | (have H2_ := (Option.bind_some _ _).symm.trans H; with_reducible exact H2_) | with_reducible exact H | (rw [hy471]; exact H) | exact H
    have Ny471 := Aside0.mk hy471
    clear hy471
    have H' := Aside0.mk H
    clear H
    obtain ⟨Ao7, co7, eo7⟩ := Kd.R_slice HO_0.out
    subst eo7
    go_wp2_with (first | ((with_reducible refine gc_ 77 rfl ?_); refine cl_ Tryz.func77 (laws_markText.calls _ _ _ _ A4.out) ?_; intro w8 hb; have n0_ := kr_ HO_0 hb; have n1_ := Aside0.mk (Kept.below (S := (fun k_ => P0_ k_)) (by repeat (first | (with_reducible first | exact HK.out | apply Kept.alloc | apply Kept.drewN | apply Kept.drew) | exact HK.out)) hb); have n2_ := Aside0.mk (below_step (by repeat (first | (with_reducible first | exact HB.out | apply below_alloc | apply pw_below_drewN | apply below_drew1) | exact HB.out)) hb); clear HO_0; clear HK; clear HB; have HO_0 := n0_; have HK := n1_; have HB := n2_; clear n0_ n1_ n2_; clear hb; have p6 : 0 ≤ (x5_1 : Int) := od_; have q6 : (x5_1 : Int) < ((x0_1.length : Int) : Int) := od_; obtain ⟨go6, co6, eo6, gb6, gl6, cl6, HG6⟩ := Kd.R_form HO_0.out (by omega); (first | cases eo6 | (injection eo6 with ea_ en_ ec_; (first | subst ea_ | (injection ea_ with ea_; subst ea_)); subst ec_; clear en_)); have GB6 := Aside0.mk gb6; have GG6 := Aside0.mk HG6; clear gb6 gl6 HG6; have HMgo6 := Aside0.mk (show (P0_ go6 ∨ w.heap.size ≤ go6) from (HO_0.out.1 _ rfl)); obtain ⟨hx6_0, hf6_0⟩ := Kd.R_celln (⟨#[]⟩ : ByteArray) HO_0.out (x5_1 : Int) p6 q6; replace p6 := eq_true p6; replace q6 := eq_true q6; obtain ⟨hy9_, hz9_⟩ := Kd.R_celln (⟨#[]⟩ : ByteArray) HO_0.out (x5_1 : Int) (od_) (od_); have HP9 := Kd.R_putg HO_0.out (x5_1 : Int) t470) | ((with_reducible refine gate_store (t := 9) (p := 16) rfl ?_); refine store_event (t := 9) (p := 16) (v := ?vo_w10) (w1 := (w8.setCell ⟨go6, (x5_1 : Int).toNat, none⟩ (.string t470))) ?hg ?ho ?hn ?hr ?_; (case ho => rfl); (case hg => rfl); (case hn => rfl); (case hr => first | (go_simp; done) | (go_simp; rfl)); intro w10 hw; have hg : w8.grownBy w10 (some go6) := (by rw [hw]; exact HP9.2); have hp_ : Kd.R Kd.string 9 w10 w0.heap.size (fun k_ => (P0_ k_ ∨ w.heap.size ≤ k_)) (.slice (some ⟨go6, 0, none⟩) x0_1.length co7) y471 := (by rw [hw, Ny471.out]; exact HP9.1); clear HP9; have n0_ := Aside0.mk (hp_); have n1_ := Aside0.mk ((by rw [hw]; exact below_set (HB.out) GB6.out : Below w0.heap.size w0 w10)); have n2_ := Aside0.mk (Kept.of_grown (S := (fun k_ => P0_ k_)) hg (by repeat (first | (with_reducible first | exact HK.out | apply Kept.alloc | apply Kept.drewN | apply Kept.drew) | exact HK.out)) (fun k_ e_ => (HO_0.out.1 k_ e_))); clear HO_0; clear HB; clear HK; have HO_0 := n0_; have HB := n1_; have HK := n2_; clear n0_ n1_ n2_; clear hg hw hp_))
    go_roundg k1
    case measure => have := HK1.out; omega
    case rel => exact ⟨(y471), (wrap64 (x1_1 + 1)), (wrap64 (x5_1 + 1)), re_, re_, H', ⟨by have := HK1.out; omega⟩, ⟨ks_ HO_0⟩, ⟨by repeat (first | (with_reducible first | exact HK.out | apply Kept.alloc | apply Kept.drewN | apply Kept.drew) | exact HK.out)⟩, ⟨by repeat (first | (with_reducible first | exact HB.out | apply below_alloc | apply pw_below_drewN | apply below_drew1) | exact HB.out)⟩⟩
   ·simp only [Option.some.injEq, Prod.mk.injEq] at H
    obtain ⟨rfl, rfl⟩ := H
    obtain ⟨Ao11, co11, eo11⟩ := Kd.R_slice HO_0.out
    subst eo11
    go_wp2
    go_ret
    exact ⟨rr_, ks_ HO_0, by repeat (first | (with_reducible first | exact HB.out | apply below_alloc | apply pw_below_drewN | apply below_drew1) | exact HB.out), by repeat (first | (with_reducible first | exact HK.out | apply Kept.alloc | apply Kept.drewN | apply Kept.drew) | exact HK.out)⟩
def laws_markBelayS.l0 : Nat → List (S101) → Int → Int → Option (Int × (List (S101)))
 | 0, _, _, _ => none
 | k + 1, x0, x1, x5 => if x5 < (x0.length : Int) then ((laws_markText.f k x1).bind fun t472 => (if 0 ≤ x5 then ((some (x0.set (x5 : Int).toNat (⟨t472, (rd_T101 x0 x5).f1, (rd_T101 x0 x5).f2⟩ : S101) : List (S101))).bind fun y473 => ((laws_markText.f k (wrap64 (x1 + 1))).bind fun t474 => ((some (y473.set (x5 : Int).toNat (⟨(rd_T101 y473 x5).f0, t474, (rd_T101 y473 x5).f2⟩ : S101) : List (S101))).bind fun y475 => (laws_markBelayS.l0 k (y475.set (x5 : Int).toNat (⟨(rd_T101 y475 x5).f0, (rd_T101 y475 x5).f1, wrap64 ((wrap64 (x1 + 1)) + 1)⟩ : S101)) (wrap64 ((wrap64 ((wrap64 (x1 + 1)) + 1)) + 1)) (wrap64 (x5 + 1)))))) else (none))) else (some (x1, x0))
def laws_markBelayS.f (k : Nat) (l0 : List (S101)) (a1 : Int) : Option (Int × (List (S101))) := laws_markBelayS.l0 k l0 a1 0
theorem laws_markBelayS.mono_l : ∀ k, (∀ y0 y1 y2, LeO (laws_markBelayS.l0 k y0 y1 y2) (laws_markBelayS.l0 (k + 1) y0 y1 y2))
 | 0 => fun _ _ _ r h => by simp [laws_markBelayS.l0] at h
 | k + 1 => by
  have ih0 := laws_markBelayS.mono_l k
  ·intro y0 y1 y2
   unfold laws_markBelayS.l0
   have m0 := @laws_markText.mono
   exact mo_
theorem laws_markBelayS.mono : ∀ a0 a1 k, LeO (laws_markBelayS.f k a0 a1) (laws_markBelayS.f (k + 1) a0 a1) := by
 intro a0 a1 k
 have ih0 := laws_markBelayS.mono_l k
 unfold laws_markBelayS.f
 have m0 := @laws_markText.mono
 exact mo_
theorem laws_markBelayS.calls (k : Nat) (P0_ : Nat → Prop) (u9000_ : Value) (l0 : List (S101)) (a1 : Int) (r1 : Int) (r2 : List (S101)) (w0 w : World) (hB : Below w0.heap.size w0 w) (ho0 : Kd.R k101 101 w w0.heap.size P0_ u9000_ l0) (h : laws_markBelayS.f k l0 a1 = some (r1, r2)) :
  Calls Tryz.prog 76 #[u9000_, .int .i64 a1] w fun e w' => e = .returned (.int .i64 r1) ∧ Kd.R k101 101 w' w0.heap.size (fun k_ => (P0_ k_ ∨ w.heap.size ≤ k_)) u9000_ r2 ∧ Below w0.heap.size w0 w' ∧ Kept w w' (fun k_ => P0_ k_) := by
 have HO0 := Aside0.mk (show Kd.R k101 101 w w0.heap.size (fun k_ => (P0_ k_ ∨ w.heap.size ≤ k_)) u9000_ l0 from Kd.R_mono ho0 (fun k_ hk => (.inl hk)))
 have HK := Aside0.mk (Kept.refl w (fun k_ => P0_ k_))
 have HW0 := Aside0.mk hB.size
 have HB := Aside0.mk hB
 clear hB
 have H := h
 clear h
 unfold laws_markBelayS.f at H
 have H' := Aside0.mk H
 clear H
 go_enter Tryz.func76, Tryz.ntmps76
 go_wp2
 go_loopg [1, 5] k (fun kq v1 v5 w' => ∃ (x0_1 : List (S101)) (x1_1 : Int) (x5_1 : Int), v1 = .int .i64 x1_1 ∧ v5 = .int .i64 x5_1 ∧ Aside0 (laws_markBelayS.l0 kq x0_1 x1_1 x5_1 = some (r1, r2)) ∧ Aside0 (kq ≤ k) ∧ Aside0 (Kd.R k101 101 w' w0.heap.size (fun k_ => (P0_ k_ ∨ w.heap.size ≤ k_)) u9000_ x0_1) ∧ Aside0 (Kept w w' (fun k_ => P0_ k_)) ∧ Aside0 (Below w0.heap.size w0 w'))
 case atStart => exact ⟨(l0), (a1), (0), re_, re_, H', ⟨Nat.le_refl _⟩, ⟨ks_ HO0⟩, ⟨by repeat (first | (with_reducible first | exact HK.out | apply Kept.alloc | apply Kept.drewN | apply Kept.drew) | exact HK.out)⟩, ⟨by repeat (first | (with_reducible first | exact HB.out | apply below_alloc | apply pw_below_drewN | apply below_drew1) | exact HB.out)⟩⟩
 case round =>
  clear H'
  obtain ⟨x0_1, x1_1, x5_1, rfl, rfl, HA, HK1, HO_0, HK, HB⟩ := hrel
  cases gk with
  | zero => exact absurd HA.out (by simp [laws_markBelayS.l0])
  | succ k1 =>
   have H := HA.out
   clear HA
   simp only [laws_markBelayS.l0] at H
   revert H
   refine if_ ?_ ?_ <;> intro c3b0 H
   ·revert H
    refine bn_ ?_
    intro t472 A4 H
    revert H
    refine in_ ?_
    intro c5b0 H
    obtain ⟨y473, hy473⟩ : ∃ y_ : List (S101), y_ = (x0_1.set (x5_1 : Int).toNat (⟨t472, (rd_T101 x0_1 x5_1).f1, (rd_T101 x0_1 x5_1).f2⟩ : S101)) := ⟨_, rfl⟩
    replace H : ((laws_markText.f k1 (wrap64 (x1_1 + 1))).bind fun t474 => ((some (y473.set (x5_1 : Int).toNat (⟨(rd_T101 y473 x5_1).f0, t474, (rd_T101 y473 x5_1).f2⟩ : S101) : List (S101))).bind fun y475 => (laws_markBelayS.l0 k1 (y475.set (x5_1 : Int).toNat (⟨(rd_T101 y475 x5_1).f0, (rd_T101 y475 x5_1).f1, wrap64 ((wrap64 (x1_1 + 1)) + 1)⟩ : S101)) (wrap64 ((wrap64 ((wrap64 (x1_1 + 1)) + 1)) + 1)) (wrap64 (x5_1 + 1))))) = some (r1, r2) := by first | (rw [hy473]; with_reducible exact H) | (have H2_ := (Option.bind_some _ _).symm.trans H; rw [hy473]; with_reducible exact H2_) | (have H2_ := (Option.bind_some _ _).symm.trans H; with_reducible exact H2_) | with_reducible exact H | (rw [hy473]; exact H) | exact H
    have Ny473 := Aside0.mk hy473
    clear hy473
    revert H
    refine bn_ ?_
    intro t474 A7 H
    obtain ⟨y475, hy475⟩ : ∃ y_ : List (S101), y_ = (y473.set (x5_1 : Int).toNat (⟨(rd_T101 y473 x5_1).f0, t474, (rd_T101 y473 x5_1).f2⟩ : S101)) := ⟨_, rfl⟩
    replace H : (laws_markBelayS.l0 k1 (y475.set (x5_1 : Int).toNat (⟨(rd_T101 y475 x5_1).f0, (rd_T101 y475 x5_1).f1, wrap64 ((wrap64 (x1_1 + 1)) + 1)⟩ : S101)) (wrap64 ((wrap64 ((wrap64 (x1_1 + 1)) + 1)) + 1)) (wrap64 (x5_1 + 1))) = some (r1, r2) := by first | (rw [hy475]; with_reducible exact H) | (have H2_ := (Option.bind_some _ _).symm.trans H; rw [hy475]; with_reducible exact H2_) | (have H2_ := (Option.bind_some _ _).symm.trans H; with_reducible exact H2_) | with_reducible exact H | (rw [hy475]; exact H) | exact H
    have Ny475 := Aside0.mk hy475
    clear hy475
    obtain ⟨y476, hy476⟩ : ∃ y_ : List (S101), y_ = (y475.set (x5_1 : Int).toNat (⟨(rd_T101 y475 x5_1).f0, (rd_T101 y475 x5_1).f1, wrap64 ((wrap64 (x1_1 + 1)) + 1)⟩ : S101)) := ⟨_, rfl⟩
    replace H : (laws_markBelayS.l0 k1 y476 (wrap64 ((wrap64 ((wrap64 (x1_1 + 1)) + 1)) + 1)) (wrap64 (x5_1 + 1))) = some (r1, r2) := by first | (rw [hy476]; with_reducible exact H) | (have H2_ := (Option.bind_some _ _).symm.trans H; rw [hy476]; with_reducible exact H2_) | (have H2_ := (Option.bind_some _ _).symm.trans H; with_reducible exact H2_) | with_reducible exact H | (rw [hy476]; exact H) | exact H
    have Ny476 := Aside0.mk hy476
    clear hy476
    have H' := Aside0.mk H
    clear H
    obtain ⟨Ao10, co10, eo10⟩ := Kd.R_slice HO_0.out
    subst eo10
    go_wp2_with (first | ((with_reducible refine gc_ 77 rfl ?_); (with_reducible refine gd_ 15 rfl ?_); refine cl_ Tryz.func77 (laws_markText.calls _ _ _ _ A4.out) ?_; intro w11 hb; have n0_ := kr_ HO_0 hb; have n1_ := Aside0.mk (Kept.below (S := (fun k_ => P0_ k_)) (by repeat (first | (with_reducible first | exact HK.out | apply Kept.alloc | apply Kept.drewN | apply Kept.drew) | exact HK.out)) hb); have n2_ := Aside0.mk (below_step (by repeat (first | (with_reducible first | exact HB.out | apply below_alloc | apply pw_below_drewN | apply below_drew1) | exact HB.out)) hb); clear HO_0; clear HK; clear HB; have HO_0 := n0_; have HK := n1_; have HB := n2_; clear n0_ n1_ n2_; clear hb; have p6 : 0 ≤ (x5_1 : Int) := od_; have q6 : (x5_1 : Int) < ((x0_1.length : Int) : Int) := od_; obtain ⟨go6, co6, eo6, gb6, gl6, cl6, HG6⟩ := Kd.R_form HO_0.out (by omega); (first | cases eo6 | (injection eo6 with ea_ en_ ec_; (first | subst ea_ | (injection ea_ with ea_; subst ea_)); subst ec_; clear en_)); have GB6 := Aside0.mk gb6; have GG6 := Aside0.mk HG6; clear gb6 gl6 HG6; have HMgo6 := Aside0.mk (show (P0_ go6 ∨ w.heap.size ≤ go6) from (HO_0.out.1 _ rfl)); obtain ⟨ce6, hcl6, hM6, hcc6, hfr6⟩ := Kd.R_elem HO_0.out z101 (x5_1 : Int) p6 q6; obtain rfl := k101_openM hM6; have hx6_0 : w11.cell? ⟨go6, (x5_1 : Int).toNat * 3, none⟩ = some (.string ((rd_T101 x0_1 x5_1).f0)) := hcc6 0 _ rfl; have hx6_1 : w11.cell? ⟨go6, (x5_1 : Int).toNat * 3 + 1, none⟩ = some (.string ((rd_T101 x0_1 x5_1).f1)) := hcc6 1 _ rfl; have hx6_2 : w11.cell? ⟨go6, (x5_1 : Int).toNat * 3 + 2, none⟩ = some (.int .i64 ((rd_T101 x0_1 x5_1).f2)) := hcc6 2 _ rfl; have hf6_0 : w11.frozen? ⟨go6, (x5_1 : Int).toNat * 3, none⟩ = false := hfr6 0; have hf6_1 : w11.frozen? ⟨go6, (x5_1 : Int).toNat * 3 + 1, none⟩ = false := hfr6 1; have hf6_2 : w11.frozen? ⟨go6, (x5_1 : Int).toNat * 3 + 2, none⟩ = false := hfr6 2; clear hcl6 hcc6 hfr6 hM6; replace p6 := eq_true p6; replace q6 := eq_true q6; have HX12 := Aside0.mk (show Kd.R k101 101 w11 w0.heap.size (fun k_ => (P0_ k_ ∨ w.heap.size ≤ k_)) (.slice (some ⟨go6, 0, none⟩) x0_1.length co10) x0_1 from (ks_ HO_0)); obtain ⟨ce12, hcl12, hM12, hcc12, hfr12⟩ := Kd.R_elem HX12.out z101 (x5_1 : Int) (od_) (by have h_ : (x5_1 : Int) < ((x0_1.length : Int) : Int) := od_; first | exact h_ | (have e_ := (Kd.R_reads' HO_0.out).1; omega) | simpa using h_); obtain rfl := k101_openM hM12; have HP12 := Kd.R_seg HX12.out (x5_1 : Int) (od_) (by have h_ : (x5_1 : Int) < ((x0_1.length : Int) : Int) := od_; first | exact h_ | (have e_ := (Kd.R_reads' HO_0.out).1; omega) | simpa using h_) (seg := [.string t472]) (j := 0) hcl12 hcc12 (show 1 ≤ 3 from by decide) (x' := (⟨t472, (rd_T101 x0_1 x5_1).f1, (rd_T101 x0_1 x5_1).f2⟩ : S101)) (k101_mkM _ _ _ (⟨t472, (rd_T101 x0_1 x5_1).f1, (rd_T101 x0_1 x5_1).f2⟩ : S101) ) (fun _ hk => hk); have hx12_0 := hcc12 0 _ rfl; (try simp only [show (k101).sz = 3 from rfl, Nat.mul_one, Nat.add_zero] at hx12_0); have hf12_0 := hfr12 0; (try simp only [show (k101).sz = 3 from rfl, Nat.mul_one, Nat.add_zero] at hf12_0); clear hcl12 hcc12 hfr12 hM12) | ((with_reducible refine gate_store (t := 9) (p := 17) rfl ?_); refine store_event (t := 9) (p := 17) (v := ?vo_w13) (w1 := (w11.setCell ⟨go6, (x5_1 : Int).toNat * 3, none⟩ (.string t472))) ?hg ?ho ?hn ?hr ?_; (case ho => rfl); (case hg => rfl); (case hn => rfl); (case hr => first | (go_simp; done) | (go_simp; rfl)); intro w13 hw; have hg : w11.grownBy w13 (some go6) := (by rw [hw]; exact HP12.2); have hp_ : Kd.R k101 101 w13 w0.heap.size (fun k_ => (P0_ k_ ∨ w.heap.size ≤ k_)) (.slice (some ⟨go6, 0, none⟩) x0_1.length co10) y473 := (by rw [hw, Ny473.out]; exact HP12.1); clear HP12; have n0_ := Aside0.mk (hp_); have n1_ := Aside0.mk ((by rw [hw]; exact below_set (HB.out) GB6.out : Below w0.heap.size w0 w13)); have n2_ := Aside0.mk (Kept.of_grown (S := (fun k_ => P0_ k_)) hg (by repeat (first | (with_reducible first | exact HK.out | apply Kept.alloc | apply Kept.drewN | apply Kept.drew) | exact HK.out)) (fun k_ e_ => (HO_0.out.1 k_ e_))); clear HO_0; clear HB; clear HK; have HO_0 := n0_; have HB := n1_; have HK := n2_; clear n0_ n1_ n2_; clear hg hw hp_) | ((with_reducible refine gc_ 77 rfl ?_); (with_reducible refine gd_ 23 rfl ?_); refine cl_ Tryz.func77 (laws_markText.calls _ _ _ _ A7.out) ?_; intro w14 hb; have n0_ := kr_ HO_0 hb; have n1_ := Aside0.mk (Kept.below (S := (fun k_ => P0_ k_)) (by repeat (first | (with_reducible first | exact HK.out | apply Kept.alloc | apply Kept.drewN | apply Kept.drew) | exact HK.out)) hb); have n2_ := Aside0.mk (below_step (by repeat (first | (with_reducible first | exact HB.out | apply below_alloc | apply pw_below_drewN | apply below_drew1) | exact HB.out)) hb); clear HO_0; clear HK; clear HB; have HO_0 := n0_; have HK := n1_; have HB := n2_; clear n0_ n1_ n2_; clear hb; have p8 : 0 ≤ (x5_1 : Int) := od_; have q8 : (x5_1 : Int) < ((x0_1.length : Int) : Int) := od_; obtain ⟨ce8, hcl8, hM8, hcc8, hfr8⟩ := Kd.R_elem HO_0.out z101 (x5_1 : Int) p8 q8; obtain rfl := k101_openM hM8; have hx8_0 : w14.cell? ⟨go6, (x5_1 : Int).toNat * 3, none⟩ = some (.string ((rd_T101 y473 x5_1).f0)) := hcc8 0 _ rfl; have hx8_1 : w14.cell? ⟨go6, (x5_1 : Int).toNat * 3 + 1, none⟩ = some (.string ((rd_T101 y473 x5_1).f1)) := hcc8 1 _ rfl; have hx8_2 : w14.cell? ⟨go6, (x5_1 : Int).toNat * 3 + 2, none⟩ = some (.int .i64 ((rd_T101 y473 x5_1).f2)) := hcc8 2 _ rfl; have hf8_0 : w14.frozen? ⟨go6, (x5_1 : Int).toNat * 3, none⟩ = false := hfr8 0; have hf8_1 : w14.frozen? ⟨go6, (x5_1 : Int).toNat * 3 + 1, none⟩ = false := hfr8 1; have hf8_2 : w14.frozen? ⟨go6, (x5_1 : Int).toNat * 3 + 2, none⟩ = false := hfr8 2; clear hcl8 hcc8 hfr8 hM8; replace p8 := eq_true p8; replace q8 := eq_true q8; have HX15 := Aside0.mk (show Kd.R k101 101 w14 w0.heap.size (fun k_ => (P0_ k_ ∨ w.heap.size ≤ k_)) (.slice (some ⟨go6, 0, none⟩) x0_1.length co10) y473 from (ks_ HO_0)); obtain ⟨ce15, hcl15, hM15, hcc15, hfr15⟩ := Kd.R_elem HX15.out z101 (x5_1 : Int) (od_) (by have h_ : (x5_1 : Int) < ((x0_1.length : Int) : Int) := od_; first | exact h_ | (have e_ := (Kd.R_reads' HO_0.out).1; omega) | simpa using h_); obtain rfl := k101_openM hM15; have HP15 := Kd.R_seg HX15.out (x5_1 : Int) (od_) (by have h_ : (x5_1 : Int) < ((x0_1.length : Int) : Int) := od_; first | exact h_ | (have e_ := (Kd.R_reads' HO_0.out).1; omega) | simpa using h_) (seg := [.string t474]) (j := 1) hcl15 hcc15 (show 2 ≤ 3 from by decide) (x' := (⟨(rd_T101 y473 x5_1).f0, t474, (rd_T101 y473 x5_1).f2⟩ : S101)) (k101_mkM _ _ _ (⟨(rd_T101 y473 x5_1).f0, t474, (rd_T101 y473 x5_1).f2⟩ : S101) ) (fun _ hk => hk); have hx15_1 := hcc15 1 _ rfl; (try simp only [show (k101).sz = 3 from rfl, Nat.mul_one, Nat.add_zero] at hx15_1); have hf15_1 := hfr15 1; (try simp only [show (k101).sz = 3 from rfl, Nat.mul_one, Nat.add_zero] at hf15_1); clear hcl15 hcc15 hfr15 hM15) | ((with_reducible refine gate_store (t := 9) (p := 25) rfl ?_); refine store_event (t := 9) (p := 25) (v := ?vo_w16) (w1 := (w14.setCell ⟨go6, (x5_1 : Int).toNat * 3 + 1, none⟩ (.string t474))) ?hg ?ho ?hn ?hr ?_; (case ho => rfl); (case hg => rfl); (case hn => rfl); (case hr => first | (go_simp; done) | (go_simp; rfl)); intro w16 hw; have hg : w14.grownBy w16 (some go6) := (by rw [hw]; exact HP15.2); have hp_ : Kd.R k101 101 w16 w0.heap.size (fun k_ => (P0_ k_ ∨ w.heap.size ≤ k_)) (.slice (some ⟨go6, 0, none⟩) x0_1.length co10) y475 := (by rw [hw, Ny475.out]; exact HP15.1); clear HP15; have n0_ := Aside0.mk (hp_); have n1_ := Aside0.mk ((by rw [hw]; exact below_set (HB.out) GB6.out : Below w0.heap.size w0 w16)); have n2_ := Aside0.mk (Kept.of_grown (S := (fun k_ => P0_ k_)) hg (by repeat (first | (with_reducible first | exact HK.out | apply Kept.alloc | apply Kept.drewN | apply Kept.drew) | exact HK.out)) (fun k_ e_ => (HO_0.out.1 k_ e_))); clear HO_0; clear HB; clear HK; have HO_0 := n0_; have HB := n1_; have HK := n2_; clear n0_ n1_ n2_; clear hg hw hp_; have p9 : 0 ≤ (x5_1 : Int) := od_; have q9 : (x5_1 : Int) < ((x0_1.length : Int) : Int) := od_; obtain ⟨ce9, hcl9, hM9, hcc9, hfr9⟩ := Kd.R_elem HO_0.out z101 (x5_1 : Int) p9 q9; obtain rfl := k101_openM hM9; have hx9_0 : w16.cell? ⟨go6, (x5_1 : Int).toNat * 3, none⟩ = some (.string ((rd_T101 y475 x5_1).f0)) := hcc9 0 _ rfl; have hx9_1 : w16.cell? ⟨go6, (x5_1 : Int).toNat * 3 + 1, none⟩ = some (.string ((rd_T101 y475 x5_1).f1)) := hcc9 1 _ rfl; have hx9_2 : w16.cell? ⟨go6, (x5_1 : Int).toNat * 3 + 2, none⟩ = some (.int .i64 ((rd_T101 y475 x5_1).f2)) := hcc9 2 _ rfl; have hf9_0 : w16.frozen? ⟨go6, (x5_1 : Int).toNat * 3, none⟩ = false := hfr9 0; have hf9_1 : w16.frozen? ⟨go6, (x5_1 : Int).toNat * 3 + 1, none⟩ = false := hfr9 1; have hf9_2 : w16.frozen? ⟨go6, (x5_1 : Int).toNat * 3 + 2, none⟩ = false := hfr9 2; clear hcl9 hcc9 hfr9 hM9; replace p9 := eq_true p9; replace q9 := eq_true q9; have HX17 := Aside0.mk (show Kd.R k101 101 w16 w0.heap.size (fun k_ => (P0_ k_ ∨ w.heap.size ≤ k_)) (.slice (some ⟨go6, 0, none⟩) x0_1.length co10) y475 from (ks_ HO_0)); obtain ⟨ce17, hcl17, hM17, hcc17, hfr17⟩ := Kd.R_elem HX17.out z101 (x5_1 : Int) (od_) (by have h_ : (x5_1 : Int) < ((x0_1.length : Int) : Int) := od_; first | exact h_ | (have e_ := (Kd.R_reads' HO_0.out).1; omega) | simpa using h_); obtain rfl := k101_openM hM17; have HP17 := Kd.R_seg HX17.out (x5_1 : Int) (od_) (by have h_ : (x5_1 : Int) < ((x0_1.length : Int) : Int) := od_; first | exact h_ | (have e_ := (Kd.R_reads' HO_0.out).1; omega) | simpa using h_) (seg := [.int .i64 (wrap64 ((wrap64 (x1_1 + 1)) + 1))]) (j := 2) hcl17 hcc17 (show 3 ≤ 3 from by decide) (x' := (⟨(rd_T101 y475 x5_1).f0, (rd_T101 y475 x5_1).f1, wrap64 ((wrap64 (x1_1 + 1)) + 1)⟩ : S101)) (k101_mkM _ _ _ (⟨(rd_T101 y475 x5_1).f0, (rd_T101 y475 x5_1).f1, wrap64 ((wrap64 (x1_1 + 1)) + 1)⟩ : S101) ) (fun _ hk => hk); have hx17_2 := hcc17 2 _ rfl; (try simp only [show (k101).sz = 3 from rfl, Nat.mul_one, Nat.add_zero] at hx17_2); have hf17_2 := hfr17 2; (try simp only [show (k101).sz = 3 from rfl, Nat.mul_one, Nat.add_zero] at hf17_2); clear hcl17 hcc17 hfr17 hM17) | ((with_reducible refine gate_store (t := 2) (p := 32) rfl ?_); refine store_event (t := 2) (p := 32) (v := ?vo_w18) (w1 := (w16.setCell ⟨go6, (x5_1 : Int).toNat * 3 + 2, none⟩ (.int .i64 (wrap64 ((wrap64 (x1_1 + 1)) + 1))))) ?hg ?ho ?hn ?hr ?_; (case ho => rfl); (case hg => rfl); (case hn => rfl); (case hr => first | (go_simp; done) | (go_simp; rfl)); intro w18 hw; have hg : w16.grownBy w18 (some go6) := (by rw [hw]; exact HP17.2); have hp_ : Kd.R k101 101 w18 w0.heap.size (fun k_ => (P0_ k_ ∨ w.heap.size ≤ k_)) (.slice (some ⟨go6, 0, none⟩) x0_1.length co10) y476 := (by rw [hw, Ny476.out]; exact HP17.1); clear HP17; have n0_ := Aside0.mk (hp_); have n1_ := Aside0.mk ((by rw [hw]; exact below_set (HB.out) GB6.out : Below w0.heap.size w0 w18)); have n2_ := Aside0.mk (Kept.of_grown (S := (fun k_ => P0_ k_)) hg (by repeat (first | (with_reducible first | exact HK.out | apply Kept.alloc | apply Kept.drewN | apply Kept.drew) | exact HK.out)) (fun k_ e_ => (HO_0.out.1 k_ e_))); clear HO_0; clear HB; clear HK; have HO_0 := n0_; have HB := n1_; have HK := n2_; clear n0_ n1_ n2_; clear hg hw hp_))
    go_roundg k1
    case measure => have := HK1.out; omega
    case rel => exact ⟨(y476), (wrap64 ((wrap64 ((wrap64 (x1_1 + 1)) + 1)) + 1)), (wrap64 (x5_1 + 1)), re_, re_, H', ⟨by have := HK1.out; omega⟩, ⟨ks_ HO_0⟩, ⟨by repeat (first | (with_reducible first | exact HK.out | apply Kept.alloc | apply Kept.drewN | apply Kept.drew) | exact HK.out)⟩, ⟨by repeat (first | (with_reducible first | exact HB.out | apply below_alloc | apply pw_below_drewN | apply below_drew1) | exact HB.out)⟩⟩
   ·simp only [Option.some.injEq, Prod.mk.injEq] at H
    obtain ⟨rfl, rfl⟩ := H
    obtain ⟨Ao19, co19, eo19⟩ := Kd.R_slice HO_0.out
    subst eo19
    go_wp2
    go_ret
    exact ⟨rr_, ks_ HO_0, by repeat (first | (with_reducible first | exact HB.out | apply below_alloc | apply pw_below_drewN | apply below_drew1) | exact HB.out), by repeat (first | (with_reducible first | exact HK.out | apply Kept.alloc | apply Kept.drewN | apply Kept.drew) | exact HK.out)⟩
end Go.Proofs.YtkoeeajciciphaaGreatDoor.QFnExactStartAgain
