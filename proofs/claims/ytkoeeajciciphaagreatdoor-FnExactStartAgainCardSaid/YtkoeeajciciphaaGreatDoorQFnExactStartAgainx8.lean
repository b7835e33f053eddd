import Derived.Test.YtkoeeajciciphaaGreatDoorSq
import Derived.Test.YtkoeeajciciphaaGreatDoorS4
import Derived.Test.YtkoeeajciciphaaGreatDoorQFnExactStartAgainx0
import Derived.Test.YtkoeeajciciphaaGreatDoorQFnExactStartAgainx7
namespace Go.Proofs.YtkoeeajciciphaaGreatDoor.QFnExactStartAgain
open Sq (fl pu_ gl_ b20_ b21_ b30_ b31_ b32_ od_ rr_ be_)
open Sq
open Go.RowKit Go.Proofs.YtkoeeajciciphaaGreatDoorW.PrintWords Go.Proofs.YtkoeeajciciphaaGreatDoorW.PrintLast Go.Proofs.YtkoeeajciciphaaGreatDoorW.PrintMore
attribute [local go_sem] max2_int min2_int max_two min_two max_three min_three max_four min_four
set_option linter.unusedVariables false
set_option linter.unusedSimpArgs false
set_option maxHeartbeats 8000000
set_option maxRecDepth 100000
open Base (bwl_ bst_ bsz_ bkb_ nbl_ nbr_ kbl_ bkm_)
def laws_markRig.f (k : Nat) (l0_0 : List (S97)) (l0_1 : List ByteArray) (l0_2 : List (S101)) (a1 : Int) : Option (Int × (List (S97)) × List ByteArray × (List (S101))) := (laws_markRailS.f k l0_0 a1).bind fun bt478 => ((laws_markStringS.f k l0_1 bt478.1).bind fun bt480 => ((laws_markBelayS.f k l0_2 bt480.1).bind fun bt482 => (some (bt482.1, bt478.2, bt480.2, bt482.2))))
theorem laws_markRig.mono : ∀ a0 a1 a2 a3 k, LeO (laws_markRig.f k a0 a1 a2 a3) (laws_markRig.f (k + 1) a0 a1 a2 a3) := by
 intro a0 a1 a2 a3 k
 unfold laws_markRig.f
 have m0 := @laws_markBelayS.mono
 have m1 := @laws_markRailS.mono
 have m2 := @laws_markStringS.mono
 exact mo_
theorem laws_markRig.calls (k : Nat) (P0_0_ : Nat → Prop) (u9000_ : Value) (l0_0 : List (S97)) (P0_1_ : Nat → Prop) (u9001_ : Value) (l0_1 : List ByteArray) (P0_2_ : Nat → Prop) (u9002_ : Value) (l0_2 : List (S101)) (a1 : Int) (r1 : Int) (r2 : List (S97)) (r3 : List ByteArray) (r4 : List (S101)) (w0 w : World) (hB : Below w0.heap.size w0 w) (ho0_0 : Kd.R k97 97 w w0.heap.size P0_0_ u9000_ l0_0) (ho0_1 : Kd.R Kd.string 9 w w0.heap.size P0_1_ u9001_ l0_1) (ho0_2 : Kd.R k101 101 w w0.heap.size P0_2_ u9002_ l0_2) (h : laws_markRig.f k l0_0 l0_1 l0_2 a1 = some (r1, r2, r3, r4)) :
  Calls Tryz.prog 44 #[.agg #[u9000_, u9001_, u9002_], .int .i64 a1] w fun e w' => e = .returned (.int .i64 r1) ∧ Kd.R k97 97 w' w0.heap.size (fun k_ => ((P0_0_ k_ ∨ P0_1_ k_ ∨ P0_2_ k_) ∨ w.heap.size ≤ k_)) u9000_ r2 ∧ Kd.R Kd.string 9 w' w0.heap.size (fun k_ => ((P0_0_ k_ ∨ P0_1_ k_ ∨ P0_2_ k_) ∨ w.heap.size ≤ k_)) u9001_ r3 ∧ Kd.R k101 101 w' w0.heap.size (fun k_ => ((P0_0_ k_ ∨ P0_1_ k_ ∨ P0_2_ k_) ∨ w.heap.size ≤ k_)) u9002_ r4 ∧ Below w0.heap.size w0 w' ∧ Kept w w' (fun k_ => P0_0_ k_ ∨ P0_1_ k_ ∨ P0_2_ k_) := by
 have hu37 := Tryz.underlying37
 have HO0_0 := Aside0.mk (show Kd.R k97 97 w w0.heap.size (fun k_ => ((P0_0_ k_ ∨ P0_1_ k_ ∨ P0_2_ k_) ∨ w.heap.size ≤ k_)) u9000_ l0_0 from Kd.R_mono ho0_0 (fun k_ hk => (.inl (.inl hk))))
 have HO0_1 := Aside0.mk (show Kd.R Kd.string 9 w w0.heap.size (fun k_ => ((P0_0_ k_ ∨ P0_1_ k_ ∨ P0_2_ k_) ∨ w.heap.size ≤ k_)) u9001_ l0_1 from Kd.R_mono ho0_1 (fun k_ hk => (.inl (.inr (.inl hk)))))
 have HO0_2 := Aside0.mk (show Kd.R k101 101 w w0.heap.size (fun k_ => ((P0_0_ k_ ∨ P0_1_ k_ ∨ P0_2_ k_) ∨ w.heap.size ≤ k_)) u9002_ l0_2 from Kd.R_mono ho0_2 (fun k_ hk => (.inl (.inr (.inr hk)))))
 have HK := Aside0.mk (Kept.refl w (fun k_ => P0_0_ k_ ∨ P0_1_ k_ ∨ P0_2_ k_))
 have HW0 := Aside0.mk hB.size
 have HB := Aside0.mk hB
 clear hB
 have H := h
 clear h
 unfold laws_markRig.f at H
 revert H
 refine bn_ ?_
 rintro ⟨t478, t479⟩ A3 H
 revert H
 refine bn_ ?_
 rintro ⟨t480, t481⟩ A4 H
 revert H
 refine bn_ ?_
 rintro ⟨t482, t483⟩ A5 H
 simp only [Option.some.injEq, Prod.mk.injEq] at H
 obtain ⟨rfl, rfl, rfl, rfl⟩ := H
 obtain ⟨Ao6, co6, eo6⟩ := Kd.R_slice HO0_0.out
 subst eo6
 obtain ⟨Ao7, co7, eo7⟩ := Kd.R_slice HO0_1.out
 subst eo7
 obtain ⟨Ao8, co8, eo8⟩ := Kd.R_slice HO0_2.out
 subst eo8
 go_enter Tryz.func44, Tryz.ntmps44
 go_wp2_with (first | ((with_reducible refine gd_ 2 rfl ?_); refine be_ 2 #[.slice Ao6 l0_0.length co6, .slice Ao7 l0_1.length co7, .slice Ao8 l0_2.length co8] 37 ?_; intro gb477 hg w9 hbox hb; have n0_ := kr_ HO0_0 hb; have n1_ := kr_ HO0_1 hb; have n2_ := kr_ HO0_2 hb; have n3_ := Aside0.mk (Kept.below (S := (fun k_ => P0_0_ k_ ∨ P0_1_ k_ ∨ P0_2_ k_)) (by repeat (first | (with_reducible first | exact HK.out | apply Kept.alloc | apply Kept.drewN | apply Kept.drew) | exact HK.out)) hb); have n4_ := Aside0.mk (below_step (by repeat (first | (with_reducible first | exact HB.out | apply below_alloc | apply pw_below_drewN | apply below_drew1) | exact HB.out)) hb); have n5_ := Aside0.mk (hbox); have n6_ := Aside0.mk ((by rw [hg]; exact (by first | exact HK.out.1 | exact (show Kept w _ (fun k_ => P0_0_ k_ ∨ P0_1_ k_ ∨ P0_2_ k_) from by repeat (first | (with_reducible first | exact HK.out | apply Kept.alloc | apply Kept.drewN | apply Kept.drew) | exact HK.out)).1) : w.heap.size ≤ gb477)); have n7_ := Aside0.mk ((by rw [hg]; exact (below_size (by repeat (first | (with_reducible first | exact HB.out | apply below_alloc | apply pw_below_drewN | apply below_drew1) | exact HB.out))) : w0.heap.size ≤ gb477)); clear HO0_0; clear HO0_1; clear HO0_2; clear HK; clear HB; have HO0_0 := n0_; have HO0_1 := n1_; have HO0_2 := n2_; have HK := n3_; have HB := n4_; have BK477 := n5_; have GW477 := n6_; have GE477 := n7_; clear n0_ n1_ n2_ n3_ n4_ n5_ n6_ n7_; clear hb hbox hg; have hcz10_0 := c3_ BK477) | ((with_reducible refine gc_ 74 rfl ?_); refine ck_ Tryz.func74 (laws_markRailS.calls _ (fun k_ => some k_ = (.slice Ao6 l0_0.length co6 : Value).ownBlock) _ _ _ _ _ w0 _ ?side1 ?side2 A3.out) ?_; (case side1 => repeat (first | (with_reducible first | exact HB.out | apply below_alloc | apply pw_below_drewN | apply below_drew1 | refine below_set ?_ GE477.out) | exact HB.out)); (case side2 => exact Kd.R_tight rfl HO0_0.out); rintro e w11 ⟨rfl, hy0, hb, hkp⟩; refine ⟨_, rfl, ?_⟩; have n0_ := Aside0.mk (Kd.R_reok rfl hy0 (fun k_ e_ => HO0_0.out.1 k_ e_)); have n1_ := Aside0.mk (Kd.R_mono (ok' := fun k_ => ((P0_0_ k_ ∨ P0_1_ k_ ∨ P0_2_ k_) ∨ w.heap.size ≤ k_)) (Kd.R_keptB ((Kd.R_apart' HO0_1.out (Kd.R_typed HO0_0.out) (by decide))) hkp (fun k_ hk_ hs_ => (hk_.2) hs_)) (fun k_ hk_ => hk_.1.1)); have n2_ := Aside0.mk (Kd.R_mono (ok' := fun k_ => ((P0_0_ k_ ∨ P0_1_ k_ ∨ P0_2_ k_) ∨ w.heap.size ≤ k_)) (Kd.R_keptB ((Kd.R_apart' HO0_2.out (Kd.R_typed HO0_0.out) (by decide))) hkp (fun k_ hk_ hs_ => (hk_.2) hs_)) (fun k_ hk_ => hk_.1.1)); have n3_ := Aside0.mk (blk_kept (by exact kb_ BK477) hkp (fun hs_ => (fun e_ => (Kd.R_ne HO0_0.out BK477.out (by decide)) e_) hs_)); have n4_ := Aside0.mk (Kept.then_ (S := (fun k_ => P0_0_ k_ ∨ P0_1_ k_ ∨ P0_2_ k_)) (by repeat (first | (with_reducible first | exact HK.out | apply Kept.alloc | apply Kept.drewN | apply Kept.drew | refine Kept.setCell ?_ (.inr GW477.out) _) | exact HK.out)) hkp (fun k_ hs_ => (fun e_ => (HO0_0.out.1 k_ e_.symm)) hs_)); have n5_ := Aside0.mk (hb); clear HO0_0; clear HO0_1; clear HO0_2; clear BK477; clear HK; clear HB; have HO0_0 := n0_; have HO0_1 := n1_; have HO0_2 := n2_; have BK477 := n3_; have HK := n4_; have HB := n5_; clear n0_ n1_ n2_ n3_ n4_ n5_; clear hb hkp hy0; have hcz12_0 := c3_ BK477) | ((with_reducible refine gc_ 75 rfl ?_); refine ck_ Tryz.func75 (laws_markStringS.calls _ (fun k_ => some k_ = (.slice Ao7 l0_1.length co7 : Value).ownBlock) _ _ _ _ _ w0 _ ?side1 ?side2 A4.out) ?_; (case side1 => repeat (first | (with_reducible first | exact HB.out | apply below_alloc | apply pw_below_drewN | apply below_drew1 | refine below_set ?_ GE477.out) | exact HB.out)); (case side2 => exact Kd.R_tight rfl HO0_1.out); rintro e w13 ⟨rfl, hy0, hb, hkp⟩; refine ⟨_, rfl, ?_⟩; have n0_ := Aside0.mk (Kd.R_mono (ok' := fun k_ => ((P0_0_ k_ ∨ P0_1_ k_ ∨ P0_2_ k_) ∨ w.heap.size ≤ k_)) (Kd.R_keptB ((Kd.R_apart' HO0_0.out (Kd.R_typed HO0_1.out) (by decide))) hkp (fun k_ hk_ hs_ => (hk_.2) hs_)) (fun k_ hk_ => hk_.1.1)); have n1_ := Aside0.mk (Kd.R_reok rfl hy0 (fun k_ e_ => HO0_1.out.1 k_ e_)); have n2_ := Aside0.mk (Kd.R_mono (ok' := fun k_ => ((P0_0_ k_ ∨ P0_1_ k_ ∨ P0_2_ k_) ∨ w.heap.size ≤ k_)) (Kd.R_keptB ((Kd.R_apart' HO0_2.out (Kd.R_typed HO0_1.out) (by decide))) hkp (fun k_ hk_ hs_ => (hk_.2) hs_)) (fun k_ hk_ => hk_.1.1)); have n3_ := Aside0.mk (blk_kept (by exact kb_ BK477) hkp (fun hs_ => (fun e_ => (Kd.R_ne HO0_1.out BK477.out (by decide)) e_) hs_)); have n4_ := Aside0.mk (Kept.then_ (S := (fun k_ => P0_0_ k_ ∨ P0_1_ k_ ∨ P0_2_ k_)) (by repeat (first | (with_reducible first | exact HK.out | apply Kept.alloc | apply Kept.drewN | apply Kept.drew | refine Kept.setCell ?_ (.inr GW477.out) _) | exact HK.out)) hkp (fun k_ hs_ => (fun e_ => (HO0_1.out.1 k_ e_.symm)) hs_)); have n5_ := Aside0.mk (hb); clear HO0_0; clear HO0_1; clear HO0_2; clear BK477; clear HK; clear HB; have HO0_0 := n0_; have HO0_1 := n1_; have HO0_2 := n2_; have BK477 := n3_; have HK := n4_; have HB := n5_; clear n0_ n1_ n2_ n3_ n4_ n5_; clear hb hkp hy0; have hcz14_0 := c3_ BK477) | ((with_reducible refine gc_ 76 rfl ?_); refine ck_ Tryz.func76 (laws_markBelayS.calls _ (fun k_ => some k_ = (.slice Ao8 l0_2.length co8 : Value).ownBlock) _ _ _ _ _ w0 _ ?side1 ?side2 A5.out) ?_; (case side1 => repeat (first | (with_reducible first | exact HB.out | apply below_alloc | apply pw_below_drewN | apply below_drew1 | refine below_set ?_ GE477.out) | exact HB.out)); (case side2 => exact Kd.R_tight rfl HO0_2.out); rintro e w15 ⟨rfl, hy0, hb, hkp⟩; refine ⟨_, rfl, ?_⟩; have n0_ := Aside0.mk (Kd.R_mono (ok' := fun k_ => ((P0_0_ k_ ∨ P0_1_ k_ ∨ P0_2_ k_) ∨ w.heap.size ≤ k_)) (Kd.R_keptB ((Kd.R_apart' HO0_0.out (Kd.R_typed HO0_2.out) (by decide))) hkp (fun k_ hk_ hs_ => (hk_.2) hs_)) (fun k_ hk_ => hk_.1.1)); have n1_ := Aside0.mk (Kd.R_mono (ok' := fun k_ => ((P0_0_ k_ ∨ P0_1_ k_ ∨ P0_2_ k_) ∨ w.heap.size ≤ k_)) (Kd.R_keptB ((Kd.R_apart' HO0_1.out (Kd.R_typed HO0_2.out) (by decide))) hkp (fun k_ hk_ hs_ => (hk_.2) hs_)) (fun k_ hk_ => hk_.1.1)); have n2_ := Aside0.mk (Kd.R_reok rfl hy0 (fun k_ e_ => HO0_2.out.1 k_ e_)); have n3_ := Aside0.mk (blk_kept (by exact kb_ BK477) hkp (fun hs_ => (fun e_ => (Kd.R_ne HO0_2.out BK477.out (by decide)) e_) hs_)); have n4_ := Aside0.mk (Kept.then_ (S := (fun k_ => P0_0_ k_ ∨ P0_1_ k_ ∨ P0_2_ k_)) (by repeat (first | (with_reducible first | exact HK.out | apply Kept.alloc | apply Kept.drewN | apply Kept.drew | refine Kept.setCell ?_ (.inr GW477.out) _) | exact HK.out)) hkp (fun k_ hs_ => (fun e_ => (HO0_2.out.1 k_ e_.symm)) hs_)); have n5_ := Aside0.mk (hb); clear HO0_0; clear HO0_1; clear HO0_2; clear BK477; clear HK; clear HB; have HO0_0 := n0_; have HO0_1 := n1_; have HO0_2 := n2_; have BK477 := n3_; have HK := n4_; have HB := n5_; clear n0_ n1_ n2_ n3_ n4_ n5_; clear hb hkp hy0))
 go_ret
 exact ⟨rr_, ks_ HO0_0, ks_ HO0_1, ks_ HO0_2, by repeat (first | (with_reducible first | exact HB.out | apply below_alloc | apply pw_below_drewN | apply below_drew1 | refine below_set ?_ GE477.out) | exact HB.out), by repeat (first | (with_reducible first | exact HK.out | apply Kept.alloc | apply Kept.drewN | apply Kept.drew | refine Kept.setCell ?_ (.inr GW477.out) _) | exact HK.out)⟩
def laws_markCoilS.l0 : Nat → List (S69) → Int → Int → Option (Int × (List (S69)))
 | 0, _, _, _ => none
 | k + 1, x0, x1, x5 => if x5 < (x0.length : Int) then ((laws_markText.f k x1).bind fun t484 => (if 0 ≤ x5 then ((some (x0.set (x5 : Int).toNat (⟨t484, (rd_T69 x0 x5).f1⟩ : S69) : List (S69))).bind fun y485 => (laws_markCoilS.l0 k (y485.set (x5 : Int).toNat (⟨(rd_T69 y485 x5).f0, wrap64 (x1 + 1)⟩ : S69)) (wrap64 ((wrap64 (x1 + 1)) + 1)) (wrap64 (x5 + 1)))) else (none))) else (some (x1, x0))
def laws_markCoilS.f (k : Nat) (l0 : List (S69)) (a1 : Int) : Option (Int × (List (S69))) := laws_markCoilS.l0 k l0 a1 0
theorem laws_markCoilS.mono_l : ∀ k, (∀ y0 y1 y2, LeO (laws_markCoilS.l0 k y0 y1 y2) (laws_markCoilS.l0 (k + 1) y0 y1 y2))
 | 0 => fun _ _ _ r h => by simp [laws_markCoilS.l0] at h
 | k + 1 => by
  have ih0 := laws_markCoilS.mono_l k
  ·intro y0 y1 y2
   unfold laws_markCoilS.l0
   have m0 := @laws_markText.mono
   exact mo_
theorem laws_markCoilS.mono : ∀ a0 a1 k, LeO (laws_markCoilS.f k a0 a1) (laws_markCoilS.f (k + 1) a0 a1) := by
 intro a0 a1 k
 have ih0 := laws_markCoilS.mono_l k
 unfold laws_markCoilS.f
 have m0 := @laws_markText.mono
 exact mo_
theorem laws_markCoilS.calls (k : Nat) (P0_ : Nat → Prop) (u9000_ : Value) (l0 : List (S69)) (a1 : Int) (r1 : Int) (r2 : List (S69)) (w0 w : World) (hB : Below w0.heap.size w0 w) (ho0 : Kd.R k69 69 w w0.heap.size P0_ u9000_ l0) (h : laws_markCoilS.f k l0 a1 = some (r1, r2)) :
  Calls Tryz.prog 45 #[u9000_, .int .i64 a1] w fun e w' => e = .returned (.int .i64 r1) ∧ Kd.R k69 69 w' w0.heap.size (fun k_ => (P0_ k_ ∨ w.heap.size ≤ k_)) u9000_ r2 ∧ Below w0.heap.size w0 w' ∧ Kept w w' (fun k_ => P0_ k_) := by
 have HO0 := Aside0.mk (show Kd.R k69 69 w w0.heap.size (fun k_ => (P0_ k_ ∨ w.heap.size ≤ k_)) u9000_ l0 from Kd.R_mono ho0 (fun k_ hk => (.inl hk)))
 have HK := Aside0.mk (Kept.refl w (fun k_ => P0_ k_))
 have HW0 := Aside0.mk hB.size
 have HB := Aside0.mk hB
 clear hB
 have H := h
 clear h
 unfold laws_markCoilS.f at H
 have H' := Aside0.mk H
 clear H
 go_enter Tryz.func45, Tryz.ntmps45
 go_wp2
 go_loopg [1, 5] k (fun kq v1 v5 w' => ∃ (x0_1 : List (S69)) (x1_1 : Int) (x5_1 : Int), v1 = .int .i64 x1_1 ∧ v5 = .int .i64 x5_1 ∧ Aside0 (laws_markCoilS.l0 kq x0_1 x1_1 x5_1 = some (r1, r2)) ∧ Aside0 (kq ≤ k) ∧ Aside0 (Kd.R k69 69 w' w0.heap.size (fun k_ => (P0_ k_ ∨ w.heap.size ≤ k_)) u9000_ x0_1) ∧ Aside0 (Kept w w' (fun k_ => P0_ k_)) ∧ Aside0 (Below w0.heap.size w0 w'))
 case atStart => exact ⟨(l0), (a1), (0), re_, re_, H', ⟨Nat.le_refl _⟩, ⟨ks_ HO0⟩, ⟨by repeat (first | (with_reducible first | exact HK.out | apply Kept.alloc | apply Kept.drewN | apply Kept.drew) | exact HK.out)⟩, ⟨by repeat (first | (with_reducible first | exact HB.out | apply below_alloc | apply pw_below_drewN | apply below_drew1) | exact HB.out)⟩⟩
 case round =>
  clear H'
  obtain ⟨x0_1, x1_1, x5_1, rfl, rfl, HA, HK1, HO_0, HK, HB⟩ := hrel
  cases gk with
  | zero => exact absurd HA.out (by simp [laws_markCoilS.l0])
  | succ k1 =>
   have H := HA.out
   clear HA
   simp only [laws_markCoilS.l0] at H
   revert H
   refine if_ ?_ ?_ <;> intro c3b0 H
   ·revert H
    refine bn_ ?_
    intro t484 A4 H
    revert H
    refine in_ ?_
    intro c5b0 H
    obtain ⟨y485, hy485⟩ : ∃ y_ : List (S69), y_ = (x0_1.set (x5_1 : Int).toNat (⟨t484, (rd_T69 x0_1 x5_1).f1⟩ : S69)) := ⟨_, rfl⟩
    replace H : (laws_markCoilS.l0 k1 (y485.set (x5_1 : Int).toNat (⟨(rd_T69 y485 x5_1).f0, wrap64 (x1_1 + 1)⟩ : S69)) (wrap64 ((wrap64 (x1_1 + 1)) + 1)) (wrap64 (x5_1 + 1))) = some (r1, r2) := by first | (rw [hy485]; with_reducible exact H) | (have H2_ := (Option.bind_some _ _).symm.trans H; rw [hy485]; with_reducible exact H2_) | (have H2_ := (Option.bind_some _ _).symm.trans H; with_reducible exact H2_) | with_reducible exact H | (rw [hy485]; exact H) | exact H
    have Ny485 := Aside0.mk hy485
    clear hy485
    obtain ⟨y486, hy486⟩ : ∃ y_ : List (S69), y_ = (y485.set (x5_1 : Int).toNat (⟨(rd_T69 y485 x5_1).f0, wrap64 (x1_1 + 1)⟩ : S69)) := ⟨_, rfl⟩
    replace H : (laws_markCoilS.l0 k1 y486 (wrap64 ((wrap64 (x1_1 + 1)) + 1)) (wrap64 (x5_1 + 1))) = some (r1, r2) := by first | (rw [hy486]; with_reducible exact H) | (have H2_ := (Option.bind_some _ _).symm.trans H; rw [hy486]; with_reducible exact H2_) | (have H2_ := (Option.bind_some _ _).symm.trans H; with_reducible exact H2_) | with_reducible exact H | (rw [hy486]; exact H) | exact H
    have Ny486 := Aside0.mk hy486
    clear hy486
    have H' := Aside0.mk H
    clear H
    obtain ⟨Ao8, co8, eo8⟩ := Kd.R_slice HO_0.out
    subst eo8
    go_wp2_with (first | ((with_reducible refine gc_ 77 rfl ?_); refine cl_ Tryz.func77 (laws_markText.calls _ _ _ _ A4.out) ?_; intro w9 hb; have n0_ := kr_ HO_0 hb; have n1_ := Aside0.mk (Kept.below (S := (fun k_ => P0_ k_)) (by repeat (first | (with_reducible first | exact HK.out | apply Kept.alloc | apply Kept.drewN | apply Kept.drew) | exact HK.out)) hb); have n2_ := Aside0.mk (below_step (by repeat (first | (with_reducible first | exact HB.out | apply below_alloc | apply pw_below_drewN | apply below_drew1) | exact HB.out)) hb); clear HO_0; clear HK; clear HB; have HO_0 := n0_; have HK := n1_; have HB := n2_; clear n0_ n1_ n2_; clear hb; have p6 : 0 ≤ (x5_1 : Int) := od_; have q6 : (x5_1 : Int) < ((x0_1.length : Int) : Int) := od_; obtain ⟨go6, co6, eo6, gb6, gl6, cl6, HG6⟩ := Kd.R_form HO_0.out (by omega); (first | cases eo6 | (injection eo6 with ea_ en_ ec_; (first | subst ea_ | (injection ea_ with ea_; subst ea_)); subst ec_; clear en_)); have GB6 := Aside0.mk gb6; have GG6 := Aside0.mk HG6; clear gb6 gl6 HG6; have HMgo6 := Aside0.mk (show (P0_ go6 ∨ w.heap.size ≤ go6) from (HO_0.out.1 _ rfl)); obtain ⟨ce6, hcl6, hM6, hcc6, hfr6⟩ := Kd.R_elem HO_0.out z69 (x5_1 : Int) p6 q6; obtain rfl := k69_openM hM6; have hx6_0 : w9.cell? ⟨go6, (x5_1 : Int).toNat * 2, none⟩ = some (.string ((rd_T69 x0_1 x5_1).f0)) := hcc6 0 _ rfl; have hx6_1 : w9.cell? ⟨go6, (x5_1 : Int).toNat * 2 + 1, none⟩ = some (.int .i64 ((rd_T69 x0_1 x5_1).f1)) := hcc6 1 _ rfl; have hf6_0 : w9.frozen? ⟨go6, (x5_1 : Int).toNat * 2, none⟩ = false := hfr6 0; have hf6_1 : w9.frozen? ⟨go6, (x5_1 : Int).toNat * 2 + 1, none⟩ = false := hfr6 1; clear hcl6 hcc6 hfr6 hM6; replace p6 := eq_true p6; replace q6 := eq_true q6; have HX10 := Aside0.mk (show Kd.R k69 69 w9 w0.heap.size (fun k_ => (P0_ k_ ∨ w.heap.size ≤ k_)) (.slice (some ⟨go6, 0, none⟩) x0_1.length co8) x0_1 from (ks_ HO_0)); obtain ⟨ce10, hcl10, hM10, hcc10, hfr10⟩ := Kd.R_elem HX10.out z69 (x5_1 : Int) (od_) (by have h_ : (x5_1 : Int) < ((x0_1.length : Int) : Int) := od_; first | exact h_ | (have e_ := (Kd.R_reads' HO_0.out).1; omega) | simpa using h_); obtain rfl := k69_openM hM10; have HP10 := Kd.R_seg HX10.out (x5_1 : Int) (od_) (by have h_ : (x5_1 : Int) < ((x0_1.length : Int) : Int) := od_; first | exact h_ | (have e_ := (Kd.R_reads' HO_0.out).1; omega) | simpa using h_) (seg := [.string t484]) (j := 0) hcl10 hcc10 (show 1 ≤ 2 from by decide) (x' := (⟨t484, (rd_T69 x0_1 x5_1).f1⟩ : S69)) (k69_mkM _ _ _ (⟨t484, (rd_T69 x0_1 x5_1).f1⟩ : S69) ) (fun _ hk => hk); have hx10_0 := hcc10 0 _ rfl; (try simp only [show (k69).sz = 2 from rfl, Nat.mul_one, Nat.add_zero] at hx10_0); have hf10_0 := hfr10 0; (try simp only [show (k69).sz = 2 from rfl, Nat.mul_one, Nat.add_zero] at hf10_0); clear hcl10 hcc10 hfr10 hM10) | ((with_reducible refine gate_store (t := 9) (p := 17) rfl ?_); refine store_event (t := 9) (p := 17) (v := ?vo_w11) (w1 := (w9.setCell ⟨go6, (x5_1 : Int).toNat * 2, none⟩ (.string t484))) ?hg ?ho ?hn ?hr ?_; (case ho => rfl); (case hg => rfl); (case hn => rfl); (case hr => first | (go_simp; done) | (go_simp; rfl)); intro w11 hw; have hg : w9.grownBy w11 (some go6) := (by rw [hw]; exact HP10.2); have hp_ : Kd.R k69 69 w11 w0.heap.size (fun k_ => (P0_ k_ ∨ w.heap.size ≤ k_)) (.slice (some ⟨go6, 0, none⟩) x0_1.length co8) y485 := (by rw [hw, Ny485.out]; exact HP10.1); clear HP10; have n0_ := Aside0.mk (hp_); have n1_ := Aside0.mk ((by rw [hw]; exact below_set (HB.out) GB6.out : Below w0.heap.size w0 w11)); have n2_ := Aside0.mk (Kept.of_grown (S := (fun k_ => P0_ k_)) hg (by repeat (first | (with_reducible first | exact HK.out | apply Kept.alloc | apply Kept.drewN | apply Kept.drew) | exact HK.out)) (fun k_ e_ => (HO_0.out.1 k_ e_))); clear HO_0; clear HB; clear HK; have HO_0 := n0_; have HB := n1_; have HK := n2_; clear n0_ n1_ n2_; clear hg hw hp_; have p7 : 0 ≤ (x5_1 : Int) := od_; have q7 : (x5_1 : Int) < ((x0_1.length : Int) : Int) := od_; obtain ⟨ce7, hcl7, hM7, hcc7, hfr7⟩ := Kd.R_elem HO_0.out z69 (x5_1 : Int) p7 q7; obtain rfl := k69_openM hM7; have hx7_0 : w11.cell? ⟨go6, (x5_1 : Int).toNat * 2, none⟩ = some (.string ((rd_T69 y485 x5_1).f0)) := hcc7 0 _ rfl; have hx7_1 : w11.cell? ⟨go6, (x5_1 : Int).toNat * 2 + 1, none⟩ = some (.int .i64 ((rd_T69 y485 x5_1).f1)) := hcc7 1 _ rfl; have hf7_0 : w11.frozen? ⟨go6, (x5_1 : Int).toNat * 2, none⟩ = false := hfr7 0; have hf7_1 : w11.frozen? ⟨go6, (x5_1 : Int).toNat * 2 + 1, none⟩ = false := hfr7 1; clear hcl7 hcc7 hfr7 hM7; replace p7 := eq_true p7; replace q7 := eq_true q7; have HX12 := Aside0.mk (show Kd.R k69 69 w11 w0.heap.size (fun k_ => (P0_ k_ ∨ w.heap.size ≤ k_)) (.slice (some ⟨go6, 0, none⟩) x0_1.length co8) y485 from (ks_ HO_0)); obtain ⟨ce12, hcl12, hM12, hcc12, hfr12⟩ := Kd.R_elem HX12.out z69 (x5_1 : Int) (od_) (by have h_ : (x5_1 : Int) < ((x0_1.length : Int) : Int) := od_; first | exact h_ | (have e_ := (Kd.R_reads' HO_0.out).1; omega) | simpa using h_); obtain rfl := k69_openM hM12; have HP12 := Kd.R_seg HX12.out (x5_1 : Int) (od_) (by have h_ : (x5_1 : Int) < ((x0_1.length : Int) : Int) := od_; first | exact h_ | (have e_ := (Kd.R_reads' HO_0.out).1; omega) | simpa using h_) (seg := [.int .i64 (wrap64 (x1_1 + 1))]) (j := 1) hcl12 hcc12 (show 2 ≤ 2 from by decide) (x' := (⟨(rd_T69 y485 x5_1).f0, wrap64 (x1_1 + 1)⟩ : S69)) (k69_mkM _ _ _ (⟨(rd_T69 y485 x5_1).f0, wrap64 (x1_1 + 1)⟩ : S69) ) (fun _ hk => hk); have hx12_1 := hcc12 1 _ rfl; (try simp only [show (k69).sz = 2 from rfl, Nat.mul_one, Nat.add_zero] at hx12_1); have hf12_1 := hfr12 1; (try simp only [show (k69).sz = 2 from rfl, Nat.mul_one, Nat.add_zero] at hf12_1); clear hcl12 hcc12 hfr12 hM12) | ((with_reducible refine gate_store (t := 2) (p := 24) rfl ?_); refine store_event (t := 2) (p := 24) (v := ?vo_w13) (w1 := (w11.setCell ⟨go6, (x5_1 : Int).toNat * 2 + 1, none⟩ (.int .i64 (wrap64 (x1_1 + 1))))) ?hg ?ho ?hn ?hr ?_; (case ho => rfl); (case hg => rfl); (case hn => rfl); (case hr => first | (go_simp; done) | (go_simp; rfl)); intro w13 hw; have hg : w11.grownBy w13 (some go6) := (by rw [hw]; exact HP12.2); have hp_ : Kd.R k69 69 w13 w0.heap.size (fun k_ => (P0_ k_ ∨ w.heap.size ≤ k_)) (.slice (some ⟨go6, 0, none⟩) x0_1.length co8) y486 := (by rw [hw, Ny486.out]; exact HP12.1); clear HP12; have n0_ := Aside0.mk (hp_); have n1_ := Aside0.mk ((by rw [hw]; exact below_set (HB.out) GB6.out : Below w0.heap.size w0 w13)); have n2_ := Aside0.mk (Kept.of_grown (S := (fun k_ => P0_ k_)) hg (by repeat (first | (with_reducible first | exact HK.out | apply Kept.alloc | apply Kept.drewN | apply Kept.drew) | exact HK.out)) (fun k_ e_ => (HO_0.out.1 k_ e_))); clear HO_0; clear HB; clear HK; have HO_0 := n0_; have HB := n1_; have HK := n2_; clear n0_ n1_ n2_; clear hg hw hp_))
    go_roundg k1
    case measure => have := HK1.out; omega
    case rel => exact ⟨(y486), (wrap64 ((wrap64 (x1_1 + 1)) + 1)), (wrap64 (x5_1 + 1)), re_, re_, H', ⟨by have := HK1.out; omega⟩, ⟨ks_ HO_0⟩, ⟨by repeat (first | (with_reducible first | exact HK.out | apply Kept.alloc | apply Kept.drewN | apply Kept.drew) | exact HK.out)⟩, ⟨by repeat (first | (with_reducible first | exact HB.out | apply below_alloc | apply pw_below_drewN | apply below_drew1) | exact HB.out)⟩⟩
   ·simp only [Option.some.injEq, Prod.mk.injEq] at H
    obtain ⟨rfl, rfl⟩ := H
    obtain ⟨Ao14, co14, eo14⟩ := Kd.R_slice HO_0.out
    subst eo14
    go_wp2
    go_ret
    exact ⟨rr_, ks_ HO_0, by repeat (first | (with_reducible first | exact HB.out | apply below_alloc | apply pw_below_drewN | apply below_drew1) | exact HB.out), by repeat (first | (with_reducible first | exact HK.out | apply Kept.alloc | apply Kept.drewN | apply Kept.drew) | exact HK.out)⟩
def laws_markDesk.f (k : Nat) (a0_0 : Int) (l0_1 : List (S97)) (l0_2 : List ByteArray) (l0_3 : List (S101)) (l0_4 : List (S69)) (a0_5 : ByteArray) (a0_6 : ByteArray) (a1 : Int) : Option (Int × (List (S97)) × List ByteArray × (List (S101)) × (List (S69))) := (laws_markRig.f k l0_1 l0_2 l0_3 a1).bind fun bt488 => ((laws_markCoilS.f k l0_4 bt488.1).bind fun bt492 => (some (bt492.1, bt488.2.1, bt488.2.2.1, bt488.2.2.2, bt492.2)))
theorem laws_markDesk.mono : ∀ a0 a1 a2 a3 a4 a5 a6 a7 k, LeO (laws_markDesk.f k a0 a1 a2 a3 a4 a5 a6 a7) (laws_markDesk.f (k + 1) a0 a1 a2 a3 a4 a5 a6 a7) := by
 intro a0 a1 a2 a3 a4 a5 a6 a7 k
 unfold laws_markDesk.f
 have m0 := @laws_markCoilS.mono
 have m1 := @laws_markRig.mono
 exact mo_
theorem laws_markDesk.calls (k : Nat) (a0_0 : Int) (P0_1_ : Nat → Prop) (u9000_ : Value) (l0_1 : List (S97)) (P0_2_ : Nat → Prop) (u9001_ : Value) (l0_2 : List ByteArray) (P0_3_ : Nat → Prop) (u9002_ : Value) (l0_3 : List (S101)) (P0_4_ : Nat → Prop) (u9003_ : Value) (l0_4 : List (S69)) (a0_5 : ByteArray) (a0_6 : ByteArray) (a1 : Int) (r1 : Int) (r2 : List (S97)) (r3 : List ByteArray) (r4 : List (S101)) (r5 : List (S69)) (w0 w : World) (hB : Below w0.heap.size w0 w) (ho0_1 : Kd.R k97 97 w w0.heap.size P0_1_ u9000_ l0_1) (ho0_2 : Kd.R Kd.string 9 w w0.heap.size P0_2_ u9001_ l0_2) (ho0_3 : Kd.R k101 101 w w0.heap.size P0_3_ u9002_ l0_3) (ho0_4 : Kd.R k69 69 w w0.heap.size P0_4_ u9003_ l0_4) (h : laws_markDesk.f k a0_0 l0_1 l0_2 l0_3 l0_4 a0_5 a0_6 a1 = some (r1, r2, r3, r4, r5)) :
  Calls Tryz.prog 15 #[.agg #[.int .i64 a0_0, u9000_, u9001_, u9002_, u9003_, .string a0_5, .string a0_6], .int .i64 a1] w fun e w' => e = .returned (.int .i64 r1) ∧ Kd.R k97 97 w' w0.heap.size (fun k_ => ((P0_1_ k_ ∨ P0_2_ k_ ∨ P0_3_ k_ ∨ P0_4_ k_) ∨ w.heap.size ≤ k_)) u9000_ r2 ∧ Kd.R Kd.string 9 w' w0.heap.size (fun k_ => ((P0_1_ k_ ∨ P0_2_ k_ ∨ P0_3_ k_ ∨ P0_4_ k_) ∨ w.heap.size ≤ k_)) u9001_ r3 ∧ Kd.R k101 101 w' w0.heap.size (fun k_ => ((P0_1_ k_ ∨ P0_2_ k_ ∨ P0_3_ k_ ∨ P0_4_ k_) ∨ w.heap.size ≤ k_)) u9002_ r4 ∧ Kd.R k69 69 w' w0.heap.size (fun k_ => ((P0_1_ k_ ∨ P0_2_ k_ ∨ P0_3_ k_ ∨ P0_4_ k_) ∨ w.heap.size ≤ k_)) u9003_ r5 ∧ Below w0.heap.size w0 w' ∧ Kept w w' (fun k_ => P0_1_ k_ ∨ P0_2_ k_ ∨ P0_3_ k_ ∨ P0_4_ k_) := by
 have hu41 := Tryz.underlying41
 have hu37 := Tryz.underlying37
 have HO0_1 := Aside0.mk (show Kd.R k97 97 w w0.heap.size (fun k_ => ((P0_1_ k_ ∨ P0_2_ k_ ∨ P0_3_ k_ ∨ P0_4_ k_) ∨ w.heap.size ≤ k_)) u9000_ l0_1 from Kd.R_mono ho0_1 (fun k_ hk => (.inl (.inl hk))))
 have HO0_2 := Aside0.mk (show Kd.R Kd.string 9 w w0.heap.size (fun k_ => ((P0_1_ k_ ∨ P0_2_ k_ ∨ P0_3_ k_ ∨ P0_4_ k_) ∨ w.heap.size ≤ k_)) u9001_ l0_2 from Kd.R_mono ho0_2 (fun k_ hk => (.inl (.inr (.inl hk)))))
 have HO0_3 := Aside0.mk (show Kd.R k101 101 w w0.heap.size (fun k_ => ((P0_1_ k_ ∨ P0_2_ k_ ∨ P0_3_ k_ ∨ P0_4_ k_) ∨ w.heap.size ≤ k_)) u9002_ l0_3 from Kd.R_mono ho0_3 (fun k_ hk => (.inl (.inr (.inr (.inl hk))))))
 have HO0_4 := Aside0.mk (show Kd.R k69 69 w w0.heap.size (fun k_ => ((P0_1_ k_ ∨ P0_2_ k_ ∨ P0_3_ k_ ∨ P0_4_ k_) ∨ w.heap.size ≤ k_)) u9003_ l0_4 from Kd.R_mono ho0_4 (fun k_ hk => (.inl (.inr (.inr (.inr hk))))))
 have HK := Aside0.mk (Kept.refl w (fun k_ => P0_1_ k_ ∨ P0_2_ k_ ∨ P0_3_ k_ ∨ P0_4_ k_))
 have HW0 := Aside0.mk hB.size
 have HB := Aside0.mk hB
 clear hB
 have H := h
 clear h
 unfold laws_markDesk.f at H
 revert H
 refine bn_ ?_
 rintro ⟨t488, t489, t490, t491⟩ A3 H
 revert H
 refine bn_ ?_
 rintro ⟨t492, t493⟩ A4 H
 simp only [Option.some.injEq, Prod.mk.injEq] at H
 obtain ⟨rfl, rfl, rfl, rfl, rfl⟩ := H
 obtain ⟨Ao5, co5, eo5⟩ := Kd.R_slice HO0_1.out
 subst eo5
 obtain ⟨Ao6, co6, eo6⟩ := Kd.R_slice HO0_2.out
 subst eo6
 obtain ⟨Ao7, co7, eo7⟩ := Kd.R_slice HO0_3.out
 subst eo7
 obtain ⟨Ao8, co8, eo8⟩ := Kd.R_slice HO0_4.out
 subst eo8
 go_enter Tryz.func15, Tryz.ntmps15
 go_wp2_with (first | ((with_reducible refine gd_ 2 rfl ?_); refine be_ 2 #[.int .i64 a0_0, .slice Ao5 l0_1.length co5, .slice Ao6 l0_2.length co6, .slice Ao7 l0_3.length co7, .slice Ao8 l0_4.length co8, .string a0_5, .string a0_6] 41 ?_; intro gb487 hg w9 hbox hb; have n0_ := kr_ HO0_1 hb; have n1_ := kr_ HO0_2 hb; have n2_ := kr_ HO0_3 hb; have n3_ := kr_ HO0_4 hb; have n4_ := Aside0.mk (Kept.below (S := (fun k_ => P0_1_ k_ ∨ P0_2_ k_ ∨ P0_3_ k_ ∨ P0_4_ k_)) (by repeat (first | (with_reducible first | exact HK.out | apply Kept.alloc | apply Kept.drewN | apply Kept.drew) | exact HK.out)) hb); have n5_ := Aside0.mk (below_step (by repeat (first | (with_reducible first | exact HB.out | apply below_alloc | apply pw_below_drewN | apply below_drew1) | exact HB.out)) hb); have n6_ := Aside0.mk (hbox); have n7_ := Aside0.mk ((by rw [hg]; exact (by first | exact HK.out.1 | exact (show Kept w _ (fun k_ => P0_1_ k_ ∨ P0_2_ k_ ∨ P0_3_ k_ ∨ P0_4_ k_) from by repeat (first | (with_reducible first | exact HK.out | apply Kept.alloc | apply Kept.drewN | apply Kept.drew) | exact HK.out)).1) : w.heap.size ≤ gb487)); have n8_ := Aside0.mk ((by rw [hg]; exact (below_size (by repeat (first | (with_reducible first | exact HB.out | apply below_alloc | apply pw_below_drewN | apply below_drew1) | exact HB.out))) : w0.heap.size ≤ gb487)); clear HO0_1; clear HO0_2; clear HO0_3; clear HO0_4; clear HK; clear HB; have HO0_1 := n0_; have HO0_2 := n1_; have HO0_3 := n2_; have HO0_4 := n3_; have HK := n4_; have HB := n5_; have BK487 := n6_; have GW487 := n7_; have GE487 := n8_; clear n0_ n1_ n2_ n3_ n4_ n5_ n6_ n7_ n8_; clear hb hbox hg; have hcz10_0 := c7_ BK487) | ((with_reducible refine gc_ 44 rfl ?_); refine ck_ Tryz.func44 (laws_markRig.calls _ (fun k_ => some k_ = (.slice Ao5 l0_1.length co5 : Value).ownBlock) _ _ (fun k_ => some k_ = (.slice Ao6 l0_2.length co6 : Value).ownBlock) _ _ (fun k_ => some k_ = (.slice Ao7 l0_3.length co7 : Value).ownBlock) _ _ _ _ _ _ _ w0 _ ?side1 ?side2 ?side3 ?side4 A3.out) ?_; (case side1 => repeat (first | (with_reducible first | exact HB.out | apply below_alloc | apply pw_below_drewN | apply below_drew1 | refine below_set ?_ GE487.out) | exact HB.out)); (case side2 => exact Kd.R_tight rfl HO0_1.out); (case side3 => exact Kd.R_tight rfl HO0_2.out); (case side4 => exact Kd.R_tight rfl HO0_3.out); rintro e w11 ⟨rfl, hy0, hy1, hy2, hb, hkp⟩; refine ⟨_, rfl, ?_⟩; have n0_ := Aside0.mk (Kd.R_reok rfl hy0 (fun k_ e_ => HO0_1.out.1 k_ e_)); have n1_ := Aside0.mk (Kd.R_reok rfl hy1 (fun k_ e_ => HO0_2.out.1 k_ e_)); have n2_ := Aside0.mk (Kd.R_reok rfl hy2 (fun k_ e_ => HO0_3.out.1 k_ e_)); have n3_ := Aside0.mk (Kd.R_mono (ok' := fun k_ => ((P0_1_ k_ ∨ P0_2_ k_ ∨ P0_3_ k_ ∨ P0_4_ k_) ∨ w.heap.size ≤ k_)) (Kd.R_keptB ((Kd.R_apart' (Kd.R_apart' (Kd.R_apart' HO0_4.out (Kd.R_typed HO0_1.out) (by decide)) (Kd.R_typed HO0_2.out) (by decide)) (Kd.R_typed HO0_3.out) (by decide))) hkp (fun k_ hk_ hs_ => Or.elim hs_ (fun e_ => (hk_.1.1.2) e_) (fun e_ => Or.elim e_ (fun e_ => (hk_.1.2) e_) (fun e_ => (hk_.2) e_)))) (fun k_ hk_ => hk_.1.1.1.1)); have n4_ := Aside0.mk (blk_kept (by exact kb_ BK487) hkp (fun hs_ => Or.elim hs_ (fun e_ => (fun e_ => (Kd.R_ne HO0_1.out BK487.out (by decide)) e_) e_) (fun e_ => Or.elim e_ (fun e_ => (fun e_ => (Kd.R_ne HO0_2.out BK487.out (by decide)) e_) e_) (fun e_ => (fun e_ => (Kd.R_ne HO0_3.out BK487.out (by decide)) e_) e_)))); have n5_ := Aside0.mk (Kept.then_ (S := (fun k_ => P0_1_ k_ ∨ P0_2_ k_ ∨ P0_3_ k_ ∨ P0_4_ k_)) (by repeat (first | (with_reducible first | exact HK.out | apply Kept.alloc | apply Kept.drewN | apply Kept.drew | refine Kept.setCell ?_ (.inr GW487.out) _) | exact HK.out)) hkp (fun k_ hs_ => Or.elim hs_ (fun e_ => (fun e_ => (HO0_1.out.1 k_ e_.symm)) e_) (fun e_ => Or.elim e_ (fun e_ => (fun e_ => (HO0_2.out.1 k_ e_.symm)) e_) (fun e_ => (fun e_ => (HO0_3.out.1 k_ e_.symm)) e_)))); have n6_ := Aside0.mk (hb); clear HO0_1; clear HO0_2; clear HO0_3; clear HO0_4; clear BK487; clear HK; clear HB; have HO0_1 := n0_; have HO0_2 := n1_; have HO0_3 := n2_; have HO0_4 := n3_; have BK487 := n4_; have HK := n5_; have HB := n6_; clear n0_ n1_ n2_ n3_ n4_ n5_ n6_; clear hb hkp hy0 hy1 hy2; have hcz12_0 := c7_ BK487) | ((with_reducible refine gc_ 45 rfl ?_); refine ck_ Tryz.func45 (laws_markCoilS.calls _ (fun k_ => some k_ = (.slice Ao8 l0_4.length co8 : Value).ownBlock) _ _ _ _ _ w0 _ ?side1 ?side2 A4.out) ?_; (case side1 => repeat (first | (with_reducible first | exact HB.out | apply below_alloc | apply pw_below_drewN | apply below_drew1 | refine below_set ?_ GE487.out) | exact HB.out)); (case side2 => exact Kd.R_tight rfl HO0_4.out); rintro e w13 ⟨rfl, hy0, hb, hkp⟩; refine ⟨_, rfl, ?_⟩; have n0_ := Aside0.mk (Kd.R_mono (ok' := fun k_ => ((P0_1_ k_ ∨ P0_2_ k_ ∨ P0_3_ k_ ∨ P0_4_ k_) ∨ w.heap.size ≤ k_)) (Kd.R_keptB ((Kd.R_apart' HO0_1.out (Kd.R_typed HO0_4.out) (by decide))) hkp (fun k_ hk_ hs_ => (hk_.2) hs_)) (fun k_ hk_ => hk_.1.1)); have n1_ := Aside0.mk (Kd.R_mono (ok' := fun k_ => ((P0_1_ k_ ∨ P0_2_ k_ ∨ P0_3_ k_ ∨ P0_4_ k_) ∨ w.heap.size ≤ k_)) (Kd.R_keptB ((Kd.R_apart' HO0_2.out (Kd.R_typed HO0_4.out) (by decide))) hkp (fun k_ hk_ hs_ => (hk_.2) hs_)) (fun k_ hk_ => hk_.1.1)); have n2_ := Aside0.mk (Kd.R_mono (ok' := fun k_ => ((P0_1_ k_ ∨ P0_2_ k_ ∨ P0_3_ k_ ∨ P0_4_ k_) ∨ w.heap.size ≤ k_)) (Kd.R_keptB ((Kd.R_apart' HO0_3.out (Kd.R_typed HO0_4.out) (by decide))) hkp (fun k_ hk_ hs_ => (hk_.2) hs_)) (fun k_ hk_ => hk_.1.1)); have n3_ := Aside0.mk (Kd.R_reok rfl hy0 (fun k_ e_ => HO0_4.out.1 k_ e_)); have n4_ := Aside0.mk (blk_kept (by exact kb_ BK487) hkp (fun hs_ => (fun e_ => (Kd.R_ne HO0_4.out BK487.out (by decide)) e_) hs_)); have n5_ := Aside0.mk (Kept.then_ (S := (fun k_ => P0_1_ k_ ∨ P0_2_ k_ ∨ P0_3_ k_ ∨ P0_4_ k_)) (by repeat (first | (with_reducible first | exact HK.out | apply Kept.alloc | apply Kept.drewN | apply Kept.drew | refine Kept.setCell ?_ (.inr GW487.out) _) | exact HK.out)) hkp (fun k_ hs_ => (fun e_ => (HO0_4.out.1 k_ e_.symm)) hs_)); have n6_ := Aside0.mk (hb); clear HO0_1; clear HO0_2; clear HO0_3; clear HO0_4; clear BK487; clear HK; clear HB; have HO0_1 := n0_; have HO0_2 := n1_; have HO0_3 := n2_; have HO0_4 := n3_; have BK487 := n4_; have HK := n5_; have HB := n6_; clear n0_ n1_ n2_ n3_ n4_ n5_ n6_; clear hb hkp hy0))
 go_ret
 exact ⟨rr_, ks_ HO0_1, ks_ HO0_2, ks_ HO0_3, ks_ HO0_4, by repeat (first | (with_reducible first | exact HB.out | apply below_alloc | apply pw_below_drewN | apply below_drew1 | refine below_set ?_ GE487.out) | exact HB.out), by repeat (first | (with_reducible first | exact HK.out | apply Kept.alloc | apply Kept.drewN | apply Kept.drew | refine Kept.setCell ?_ (.inr GW487.out) _) | exact HK.out)⟩
def laws_heldRailS.l0 : Nat → List (S97) → Int → Int → Option (Int)
 | 0, _, _, _ => none
 | k + 1, x0, x1, x5 => if x5 < (x0.length : Int) then (if 0 ≤ x5 then ((laws_markText.f k x1).bind fun t495 => (if ((rd_T97 x0 x5).f0).toList = t495.toList then ((laws_markText.f k (wrap64 (x1 + 1))).bind fun t497 => (if ((rd_T97 x0 x5).f1).toList = t497.toList then (if ((rd_T97 x0 x5).f2) = (wrap64 ((wrap64 (x1 + 1)) + 1)) then (laws_heldRailS.l0 k x0 (wrap64 ((wrap64 ((wrap64 (x1 + 1)) + 1)) + 1)) (wrap64 (x5 + 1))) else (none)) else (none))) else (none))) else (none)) else (some x1)
def laws_heldRailS.f (k : Nat) (l0 : List (S97)) (a1 : Int) : Option (Int) := laws_heldRailS.l0 k l0 a1 0
theorem laws_heldRailS.mono_l : ∀ k, (∀ y0 y1 y2, LeO (laws_heldRailS.l0 k y0 y1 y2) (laws_heldRailS.l0 (k + 1) y0 y1 y2))
 | 0 => fun _ _ _ r h => by simp [laws_heldRailS.l0] at h
 | k + 1 => by
  have ih0 := laws_heldRailS.mono_l k
  ·intro y0 y1 y2
   unfold laws_heldRailS.l0
   have m0 := @laws_markText.mono
   exact mo_
theorem laws_heldRailS.mono : ∀ a0 a1 k, LeO (laws_heldRailS.f k a0 a1) (laws_heldRailS.f (k + 1) a0 a1) := by
 intro a0 a1 k
 have ih0 := laws_heldRailS.mono_l k
 unfold laws_heldRailS.f
 have m0 := @laws_markText.mono
 exact mo_
def laws_heldRailS.T4 : Bool × List (List Nat × List Nat) := (true, [([], []), ([], []), ([0, 1], [0, 1]), ([2], [2]), ([3], [3]), ([], []), ([5], [5]), ([4, 6], [4, 6])])
def laws_heldRailS.B4 : List Nat := [0, 0, 3, 7, 15, 0, 32, 127]
theorem laws_heldRailS.tab4 : rtab .any (opsOf Tryz.f78 4) = laws_heldRailS.T4 := by kernel_rfl
theorem laws_heldRailS.bits4 : waitsOk laws_heldRailS.T4.2 laws_heldRailS.B4 = true := by kernel_rfl
def laws_heldRailS.T7 : Bool × List (List Nat × List Nat) := (true, [([], []), ([], []), ([0, 1], [0, 1]), ([2], [2]), ([3], [3]), ([], []), ([5], [5]), ([4, 6], [4, 6])])
def laws_heldRailS.B7 : List Nat := [0, 0, 3, 7, 15, 0, 32, 127]
theorem laws_heldRailS.tab7 : rtab .any (opsOf Tryz.f78 7) = laws_heldRailS.T7 := by kernel_rfl
theorem laws_heldRailS.bits7 : waitsOk laws_heldRailS.T7.2 laws_heldRailS.B7 = true := by kernel_rfl
theorem laws_heldRailS.calls (k : Nat) (A0 : Option Addr) (c0 : Nat) (l0 : List (S97)) (a1 : Int) (r : Int) (w : World) (hr0 : Kd.C k97 w A0 l0.length l0) (hc0 : l0.length ≤ c0) (h : laws_heldRailS.f k l0 a1 = some r) :
  Calls Tryz.prog 78 #[.slice A0 l0.length c0, .int .i64 a1] w fun e w' => e = .returned (.int .i64 r) ∧ Below w.heap.size w w' := by
 have HR0 := Aside0.mk hr0
 have HC0 := Aside0.mk hc0
 clear hr0 hc0
 have HB := Aside0.mk (Below.refl w.heap.size w)
 have H := h
 clear h
 unfold laws_heldRailS.f at H
 have H' := Aside0.mk H
 clear H
 go_enter Tryz.func78, Tryz.ntmps78
 go_wp2
 go_loopg [1, 5] k (fun kq v1 v5 w' => ∃ (x1_1 : Int) (x5_1 : Int), v1 = .int .i64 x1_1 ∧ v5 = .int .i64 x5_1 ∧ Aside0 (laws_heldRailS.l0 kq l0 x1_1 x5_1 = some r) ∧ Aside0 (kq ≤ k) ∧ Aside0 (Below w.heap.size w w'))
 case atStart => exact ⟨(a1), (0), re_, re_, H', ⟨Nat.le_refl _⟩, ⟨bwl_⟩⟩
 case round =>
  clear H'
  obtain ⟨x1_1, x5_1, rfl, rfl, HA, HK1, HB⟩ := hrel
  cases gk with
  | zero => exact absurd HA.out (by simp [laws_heldRailS.l0])
  | succ k1 =>
   have H := HA.out
   clear HA
   simp only [laws_heldRailS.l0] at H
   revert H
   refine if_ ?_ ?_ <;> intro c3b0 H
   ·revert H
    refine in_ ?_
    intro c4b0 H
    revert H
    refine bn_ ?_
    intro t495 A5 H
    revert H
    refine ke_ ?_
    intro c6b0 H
    revert H
    refine bn_ ?_
    intro t497 A7 H
    revert H
    refine ke_ ?_
    intro c8b0 H
    revert H
    refine ke_ ?_
    intro c9b0 H
    have H' := Aside0.mk H
    clear H
    try go_wp2
    replace HB := Aside0.mk (below_drew1 HB.out)
    have p494 : 0 ≤ (x5_1 : Int) := od_
    have q494 : x5_1 < (l0.length : Int) := od_
    obtain ⟨ad494, e494, hx494_0, hx494_1, hx494_2⟩ := at_T97 HR0.out x5_1 p494 q494
    have hw494_2 := hx494_2
    have hw494_1 := hx494_1
    have hw494_0 := hx494_0
    cases e494
    replace hx494_0 := (HB.out.cell (World.block_lt_of_cell? w _ hx494_0)).trans hx494_0
    replace hx494_1 := (HB.out.cell (World.block_lt_of_cell? w _ hx494_1)).trans hx494_1
    replace hx494_2 := (HB.out.cell (World.block_lt_of_cell? w _ hx494_2)).trans hx494_2
    replace p494 := eq_true p494
    replace q494 := eq_true q494
    refine start_ (n := 8) (S := fun w' => w'.cell? (ad494.add ((x5_1).toNat * 3)) = some (.string ((rd_T97 l0 x5_1).f0)) ∧ w'.cell? ⟨(ad494.add ((x5_1).toNat * 3)).block, (ad494.add ((x5_1).toNat * 3)).off + 1, none⟩ = some (.string ((rd_T97 l0 x5_1).f1)) ∧ w'.cell? ⟨(ad494.add ((x5_1).toNat * 3)).block, (ad494.add ((x5_1).toNat * 3)).off + 2, none⟩ = some (.int .i64 ((rd_T97 l0 x5_1).f2))) (ds := []) (fl 8 0) (by kernel_rfl) rfl rfl ⟨((HB.out.cell (World.block_lt_of_cell? w _ hw494_0)).trans hw494_0), ((HB.out.cell (World.block_lt_of_cell? w _ hw494_1)).trans hw494_1), ((HB.out.cell (World.block_lt_of_cell? w _ hw494_2)).trans hw494_2)⟩ (fun hHeld => ?_); refine with_tabW laws_heldRailS.tab4 laws_heldRailS.bits4 (fun HT_ HW_ => ?_)
    generalize wr.drew = w10 at HB hx494_0 hx494_1 hx494_2 hHeld ⊢
    refine pu_ (i := 0) (N := some 12) (fl 8 1) (any_of HT_.out (by kernel_rfl)) ?_
    refine pu_ (i := 1) (N := some 13) (fl 8 3) (any_of HT_.out (by kernel_rfl)) ?_
    refine pu_ (i := 2) (N := some 14) (fl 8 7) (any_of HT_.out (by kernel_rfl)) ?_
    refine pu_ (i := 3) (N := some 15) (fl 8 15) (any_of HT_.out (by kernel_rfl)) ?_
    refine pu_ (i := 5) (N := some 17) (fl 8 47) (any_of HT_.out (by kernel_rfl)) ?_
    refine take_ (i := 4) (N := some 16) (v := ?_) (a' := ?_) (fl 8 63) rfl rfl (take_ofW HT_.out HW_.out (by kernel_rfl)) (fun _ _ _ h => h) (Or.inl ⟨by rfl, ?_⟩) hHeld ?_ ?_
    rotate_left
    ·rintro w' ⟨s0, s1, s2⟩
     go_simp
     with_reducible rfl
    rotate_left
    ·simp only [Act.put, List.setIfInBounds_toArray, List.set_cons_zero, List.set_cons_succ, i64_w, i32_w]
     rfl
    refine one_ (i := 6) (N := some 18) (fl 8 127) rfl rfl (one_of HT_.out (by kernel_rfl)) (by decide) (fun K hK => ?_)
    refine goes_ Tryz.func77 (by kernel_rfl) rfl #[.int .i64 x1_1] (by rfl) rfl rfl (by (try simp only [List.map_toArray, List.map_cons, List.map_nil]); first | done | rfl | (simp only [List.length_drop, List.length_take]; rfl)) ?_
    with_reducible refine (laws_markText.calls k1 x1_1 t495 _ A5.out).mono ?_
    rintro e w11 ⟨rfl, hb⟩
    refine ⟨_, rfl, ?_⟩
    replace HB := bst_ hb
    (try clear hb)
    refine hK.out _ _ ⟨((HB.out.cell (World.block_lt_of_cell? w _ hw494_0)).trans hw494_0), ((HB.out.cell (World.block_lt_of_cell? w _ hw494_1)).trans hw494_1), ((HB.out.cell (World.block_lt_of_cell? w _ hw494_2)).trans hw494_2)⟩ (fun hHeld => ?_)
    clear hK K
    refine norm_ (a' := ?_) ?_ ?_
    rotate_left
    ·show Act.put _ (some 18) _ = _
     simp only [Act.put, List.setIfInBounds_toArray, List.set_cons_zero, List.set_cons_succ, i64_w, i32_w]
     rfl
    refine pu_ (i := 7) (N := some 19) (fl 8 255) (any_of HT_.out (by kernel_rfl)) ?_
    refine done_ (done_of HT_.out (by kernel_rfl)) ?_
    try go_wp2
    replace HB := Aside0.mk (below_drew1 HB.out)
    have p496 : 0 ≤ (x5_1 : Int) := od_
    have q496 : x5_1 < (l0.length : Int) := od_
    obtain ⟨ad496, e496, hx496_0, hx496_1, hx496_2⟩ := at_T97 HR0.out x5_1 p496 q496
    have hw496_2 := hx496_2
    have hw496_1 := hx496_1
    have hw496_0 := hx496_0
    obtain rfl : ad494 = ad496 := (by injection e496)
    replace hx496_0 := (HB.out.cell (World.block_lt_of_cell? w _ hx496_0)).trans hx496_0
    replace hx496_1 := (HB.out.cell (World.block_lt_of_cell? w _ hx496_1)).trans hx496_1
    replace hx496_2 := (HB.out.cell (World.block_lt_of_cell? w _ hx496_2)).trans hx496_2
    replace p496 := eq_true p496
    replace q496 := eq_true q496
    refine start_ (n := 8) (S := fun w' => w'.cell? (ad494.add ((x5_1).toNat * 3)) = some (.string ((rd_T97 l0 x5_1).f0)) ∧ w'.cell? ⟨(ad494.add ((x5_1).toNat * 3)).block, (ad494.add ((x5_1).toNat * 3)).off + 1, none⟩ = some (.string ((rd_T97 l0 x5_1).f1)) ∧ w'.cell? ⟨(ad494.add ((x5_1).toNat * 3)).block, (ad494.add ((x5_1).toNat * 3)).off + 2, none⟩ = some (.int .i64 ((rd_T97 l0 x5_1).f2))) (ds := []) (fl 8 0) (by kernel_rfl) rfl rfl ⟨((HB.out.cell (World.block_lt_of_cell? w _ hw496_0)).trans hw496_0), ((HB.out.cell (World.block_lt_of_cell? w _ hw496_1)).trans hw496_1), ((HB.out.cell (World.block_lt_of_cell? w _ hw496_2)).trans hw496_2)⟩ (fun hHeld => ?_); refine with_tabW laws_heldRailS.tab7 laws_heldRailS.bits7 (fun HT_ HW_ => ?_)
    generalize w11.drew = w12 at HB hx496_0 hx496_1 hx496_2 hHeld ⊢
    refine pu_ (i := 0) (N := some 22) (fl 8 1) (any_of HT_.out (by kernel_rfl)) ?_
    refine pu_ (i := 1) (N := some 23) (fl 8 3) (any_of HT_.out (by kernel_rfl)) ?_
    refine pu_ (i := 2) (N := some 24) (fl 8 7) (any_of HT_.out (by kernel_rfl)) ?_
    refine pu_ (i := 3) (N := some 25) (fl 8 15) (any_of HT_.out (by kernel_rfl)) ?_
    refine pu_ (i := 5) (N := some 27) (fl 8 47) (any_of HT_.out (by kernel_rfl)) ?_
    refine take_ (i := 4) (N := some 26) (v := ?_) (a' := ?_) (fl 8 63) rfl rfl (take_ofW HT_.out HW_.out (by kernel_rfl)) (fun _ _ _ h => h) (Or.inl ⟨by rfl, ?_⟩) hHeld ?_ ?_
    rotate_left
    ·rintro w' ⟨s0, s1, s2⟩
     go_simp
     with_reducible rfl
    rotate_left
    ·simp only [Act.put, List.setIfInBounds_toArray, List.set_cons_zero, List.set_cons_succ, i64_w, i32_w]
     rfl
    refine one_ (i := 6) (N := some 28) (fl 8 127) rfl rfl (one_of HT_.out (by kernel_rfl)) (by decide) (fun K hK => ?_)
    refine goes_ Tryz.func77 (by kernel_rfl) rfl #[.int .i64 (wrap64 (x1_1 + 1))] (by rfl) rfl rfl (by (try simp only [List.map_toArray, List.map_cons, List.map_nil]); first | done | rfl | (simp only [List.length_drop, List.length_take]; rfl)) ?_
    with_reducible refine (laws_markText.calls k1 (wrap64 (x1_1 + 1)) t497 _ A7.out).mono ?_
    rintro e w13 ⟨rfl, hb⟩
    refine ⟨_, rfl, ?_⟩
    replace HB := bst_ hb
    (try clear hb)
    refine hK.out _ _ ⟨((HB.out.cell (World.block_lt_of_cell? w _ hw496_0)).trans hw496_0), ((HB.out.cell (World.block_lt_of_cell? w _ hw496_1)).trans hw496_1), ((HB.out.cell (World.block_lt_of_cell? w _ hw496_2)).trans hw496_2)⟩ (fun hHeld => ?_)
    clear hK K
    refine norm_ (a' := ?_) ?_ ?_
    rotate_left
    ·show Act.put _ (some 28) _ = _
     simp only [Act.put, List.setIfInBounds_toArray, List.set_cons_zero, List.set_cons_succ, i64_w, i32_w]
     rfl
    refine pu_ (i := 7) (N := some 29) (fl 8 255) (any_of HT_.out (by kernel_rfl)) ?_
    refine done_ (done_of HT_.out (by kernel_rfl)) ?_
    have p498 : 0 ≤ (x5_1 : Int) := od_
    have q498 : x5_1 < (l0.length : Int) := od_
    obtain ⟨ad498, e498, hx498_0, hx498_1, hx498_2⟩ := at_T97 HR0.out x5_1 p498 q498
    obtain rfl : ad494 = ad498 := (by injection e498)
    replace hx498_0 := (HB.out.cell (World.block_lt_of_cell? w _ hx498_0)).trans hx498_0
    replace hx498_1 := (HB.out.cell (World.block_lt_of_cell? w _ hx498_1)).trans hx498_1
    replace hx498_2 := (HB.out.cell (World.block_lt_of_cell? w _ hx498_2)).trans hx498_2
    replace p498 := eq_true p498
    replace q498 := eq_true q498
    try go_wp2
    go_roundg k1
    case measure => have := HK1.out; omega
    case rel => exact ⟨(wrap64 ((wrap64 ((wrap64 (x1_1 + 1)) + 1)) + 1)), (wrap64 (x5_1 + 1)), re_, re_, H', ⟨by have := HK1.out; omega⟩, ⟨bwl_⟩⟩
   ·obtain rfl := Option.some.inj H
    go_wp2
    go_ret
    exact ⟨rr_, bwl_⟩
def laws_heldStringS.l0 : Nat → List ByteArray → Int → Int → Option (Int)
 | 0, _, _, _ => none
 | k + 1, x0, x1, x5 => if x5 < (x0.length : Int) then (if 0 ≤ x5 then ((laws_markText.f k x1).bind fun t500 => (if (rdOf ByteArray.empty x0 x5).toList = t500.toList then (laws_heldStringS.l0 k x0 (wrap64 (x1 + 1)) (wrap64 (x5 + 1))) else (none))) else (none)) else (some x1)
def laws_heldStringS.f (k : Nat) (l0 : List ByteArray) (a1 : Int) : Option (Int) := laws_heldStringS.l0 k l0 a1 0
theorem laws_heldStringS.mono_l : ∀ k, (∀ y0 y1 y2, LeO (laws_heldStringS.l0 k y0 y1 y2) (laws_heldStringS.l0 (k + 1) y0 y1 y2))
 | 0 => fun _ _ _ r h => by simp [laws_heldStringS.l0] at h
 | k + 1 => by
  have ih0 := laws_heldStringS.mono_l k
  ·intro y0 y1 y2
   unfold laws_heldStringS.l0
   have m0 := @laws_markText.mono
   exact mo_
theorem laws_heldStringS.mono : ∀ a0 a1 k, LeO (laws_heldStringS.f k a0 a1) (laws_heldStringS.f (k + 1) a0 a1) := by
 intro a0 a1 k
 have ih0 := laws_heldStringS.mono_l k
 unfold laws_heldStringS.f
 have m0 := @laws_markText.mono
 exact mo_
theorem laws_heldStringS.calls (k : Nat) (A0 : Option Addr) (c0 : Nat) (l0 : List ByteArray) (a1 : Int) (r : Int) (w : World) (hr0 : Kd.C Kd.string w A0 l0.length l0) (hc0 : l0.length ≤ c0) (h : laws_heldStringS.f k l0 a1 = some r) :
  Calls Tryz.prog 79 #[.slice A0 l0.length c0, .int .i64 a1] w fun e w' => e = .returned (.int .i64 r) ∧ Below w.heap.size w w' := by
 have HR0 := Aside0.mk hr0
 have HC0 := Aside0.mk hc0
 clear hr0 hc0
 have HB := Aside0.mk (Below.refl w.heap.size w)
 have H := h
 clear h
 unfold laws_heldStringS.f at H
 have H' := Aside0.mk H
 clear H
 go_enter Tryz.func79, Tryz.ntmps79
 go_wp2
 go_loopg [1, 5] k (fun kq v1 v5 w' => ∃ (x1_1 : Int) (x5_1 : Int), v1 = .int .i64 x1_1 ∧ v5 = .int .i64 x5_1 ∧ Aside0 (laws_heldStringS.l0 kq l0 x1_1 x5_1 = some r) ∧ Aside0 (kq ≤ k) ∧ Aside0 (Below w.heap.size w w'))
 case atStart => exact ⟨(a1), (0), re_, re_, H', ⟨Nat.le_refl _⟩, ⟨bwl_⟩⟩
 case round =>
  clear H'
  obtain ⟨x1_1, x5_1, rfl, rfl, HA, HK1, HB⟩ := hrel
  cases gk with
  | zero => exact absurd HA.out (by simp [laws_heldStringS.l0])
  | succ k1 =>
   have H := HA.out
   clear HA
   simp only [laws_heldStringS.l0] at H
   revert H
   refine if_ ?_ ?_ <;> intro c3b0 H
   ·revert H
    refine in_ ?_
    intro c4b0 H
    revert H
    refine bn_ ?_
    intro t500 A5 H
    revert H
    refine ke_ ?_
    intro c6b0 H
    have H' := Aside0.mk H
    clear H
    try go_wp2
    replace HB := Aside0.mk (below_drew1 HB.out)
    have p499 : 0 ≤ (x5_1 : Int) := od_
    have q499 : x5_1 < (l0.length : Int) := od_
    obtain ⟨ad499, e499, hx499_0⟩ := Kd.at_string HR0.out x5_1 p499 q499
    have hw499_0 := hx499_0
    cases e499
    replace hx499_0 := (HB.out.cell (World.block_lt_of_cell? w _ hx499_0)).trans hx499_0
    replace p499 := eq_true p499
    replace q499 := eq_true q499
    refine start_ (n := 7) (S := fun w' => w'.cell? (ad499.add (x5_1).toNat) = some (.string (rdOf ByteArray.empty l0 x5_1))) (ds := []) (fl 7 0) (by kernel_rfl) rfl rfl (((HB.out.cell (World.block_lt_of_cell? w _ hw499_0)).trans hw499_0)) (fun hHeld => ?_)
    generalize wr.drew = w7 at HB hx499_0 hHeld ⊢
    refine pk_ 0 (some 12) (fl 7 1) ?_
    refine pk_ 1 (some 13) (fl 7 3) ?_
    refine pk_ 2 (some 14) (fl 7 7) ?_
    refine pk_ 4 (some 16) (fl 7 23) ?_
    refine take_ (i := 3) (N := some 15) (v := ?_) (a' := ?_) (fl 7 31) rfl rfl (by kernel_rfl) (fun _ _ _ h => h) (Or.inl ⟨by rfl, ?_⟩) hHeld ?_ ?_
    rotate_left
    ·intro w' s0
     go_simp
     with_reducible rfl
    rotate_left
    ·simp only [Act.put, List.setIfInBounds_toArray, List.set_cons_zero, List.set_cons_succ, i64_w, i32_w]
     rfl
    refine one_ (i := 5) (N := some 17) (fl 7 63) rfl rfl (by kernel_rfl) (by decide) (fun K hK => ?_)
    refine goes_ Tryz.func77 (by kernel_rfl) rfl #[.int .i64 x1_1] (by rfl) rfl rfl (by (try simp only [List.map_toArray, List.map_cons, List.map_nil]); first | done | rfl | (simp only [List.length_drop, List.length_take]; rfl)) ?_
    with_reducible refine (laws_markText.calls k1 x1_1 t500 _ A5.out).mono ?_
    rintro e w8 ⟨rfl, hb⟩
    refine ⟨_, rfl, ?_⟩
    replace HB := bst_ hb
    (try clear hb)
    refine hK.out _ _ (((HB.out.cell (World.block_lt_of_cell? w _ hw499_0)).trans hw499_0)) (fun hHeld => ?_)
    clear hK K
    refine norm_ (a' := ?_) ?_ ?_
    rotate_left
    ·show Act.put _ (some 17) _ = _
     simp only [Act.put, List.setIfInBounds_toArray, List.set_cons_zero, List.set_cons_succ, i64_w, i32_w]
     rfl
    refine pk_ 6 (some 18) (fl 7 127) ?_
    refine done_ (by kernel_rfl) ?_
    try go_wp2
    go_roundg k1
    case measure => have := HK1.out; omega
    case rel => exact ⟨(wrap64 (x1_1 + 1)), (wrap64 (x5_1 + 1)), re_, re_, H', ⟨by have := HK1.out; omega⟩, ⟨bwl_⟩⟩
   ·obtain rfl := Option.some.inj H
    go_wp2
    go_ret
    exact ⟨rr_, bwl_⟩
def laws_heldBelayS.l0 : Nat → List (S101) → Int → Int → Option (Int)
 | 0, _, _, _ => none
 | k + 1, x0, x1, x5 => if x5 < (x0.length : Int) then (if 0 ≤ x5 then ((laws_markText.f k x1).bind fun t502 => (if ((rd_T101 x0 x5).f0).toList = t502.toList then ((laws_markText.f k (wrap64 (x1 + 1))).bind fun t504 => (if ((rd_T101 x0 x5).f1).toList = t504.toList then (if ((rd_T101 x0 x5).f2) = (wrap64 ((wrap64 (x1 + 1)) + 1)) then (laws_heldBelayS.l0 k x0 (wrap64 ((wrap64 ((wrap64 (x1 + 1)) + 1)) + 1)) (wrap64 (x5 + 1))) else (none)) else (none))) else (none))) else (none)) else (some x1)
def laws_heldBelayS.f (k : Nat) (l0 : List (S101)) (a1 : Int) : Option (Int) := laws_heldBelayS.l0 k l0 a1 0
theorem laws_heldBelayS.mono_l : ∀ k, (∀ y0 y1 y2, LeO (laws_heldBelayS.l0 k y0 y1 y2) (laws_heldBelayS.l0 (k + 1) y0 y1 y2))
 | 0 => fun _ _ _ r h => by simp [laws_heldBelayS.l0] at h
 | k + 1 => by
  have ih0 := laws_heldBelayS.mono_l k
  ·intro y0 y1 y2
   unfold laws_heldBelayS.l0
   have m0 := @laws_markText.mono
   exact mo_
theorem laws_heldBelayS.mono : ∀ a0 a1 k, LeO (laws_heldBelayS.f k a0 a1) (laws_heldBelayS.f (k + 1) a0 a1) := by
 intro a0 a1 k
 have ih0 := laws_heldBelayS.mono_l k
 unfold laws_heldBelayS.f
 have m0 := @laws_markText.mono
 exact mo_
def laws_heldBelayS.T4 : Bool × List (List Nat × List Nat) := (true, [([], []), ([], []), ([0, 1], [0, 1]), ([2], [2]), ([3], [3]), ([], []), ([5], [5]), ([4, 6], [4, 6])])
def laws_heldBelayS.B4 : List Nat := [0, 0, 3, 7, 15, 0, 32, 127]
theorem laws_heldBelayS.tab4 : rtab .any (opsOf Tryz.f80 4) = laws_heldBelayS.T4 := by kernel_rfl
theorem laws_heldBelayS.bits4 : waitsOk laws_heldBelayS.T4.2 laws_heldBelayS.B4 = true := by kernel_rfl
def laws_heldBelayS.T7 : Bool × List (List Nat × List Nat) := (true, [([], []), ([], []), ([0, 1], [0, 1]), ([2], [2]), ([3], [3]), ([], []), ([5], [5]), ([4, 6], [4, 6])])
def laws_heldBelayS.B7 : List Nat := [0, 0, 3, 7, 15, 0, 32, 127]
theorem laws_heldBelayS.tab7 : rtab .any (opsOf Tryz.f80 7) = laws_heldBelayS.T7 := by kernel_rfl
theorem laws_heldBelayS.bits7 : waitsOk laws_heldBelayS.T7.2 laws_heldBelayS.B7 = true := by kernel_rfl
theorem laws_heldBelayS.calls (k : Nat) (A0 : Option Addr) (c0 : Nat) (l0 : List (S101)) (a1 : Int) (r : Int) (w : World) (hr0 : Kd.C k101 w A0 l0.length l0) (hc0 : l0.length ≤ c0) (h : laws_heldBelayS.f k l0 a1 = some r) :
  Calls Tryz.prog 80 #[.slice A0 l0.length c0, .int .i64 a1] w fun e w' => e = .returned (.int .i64 r) ∧ Below w.heap.size w w' := by
 have HR0 := Aside0.mk hr0
 have HC0 := Aside0.mk hc0
 clear hr0 hc0
 have HB := Aside0.mk (Below.refl w.heap.size w)
 have H := h
 clear h
 unfold laws_heldBelayS.f at H
 have H' := Aside0.mk H
 clear H
 go_enter Tryz.func80, Tryz.ntmps80
 go_wp2
 go_loopg [1, 5] k (fun kq v1 v5 w' => ∃ (x1_1 : Int) (x5_1 : Int), v1 = .int .i64 x1_1 ∧ v5 = .int .i64 x5_1 ∧ Aside0 (laws_heldBelayS.l0 kq l0 x1_1 x5_1 = some r) ∧ Aside0 (kq ≤ k) ∧ Aside0 (Below w.heap.size w w'))
 case atStart => exact ⟨(a1), (0), re_, re_, H', ⟨Nat.le_refl _⟩, ⟨bwl_⟩⟩
 case round =>
  clear H'
  obtain ⟨x1_1, x5_1, rfl, rfl, HA, HK1, HB⟩ := hrel
  cases gk with
  | zero => exact absurd HA.out (by simp [laws_heldBelayS.l0])
  | succ k1 =>
   have H := HA.out
   clear HA
   simp only [laws_heldBelayS.l0] at H
   revert H
   refine if_ ?_ ?_ <;> intro c3b0 H
   ·revert H
    refine in_ ?_
    intro c4b0 H
    revert H
    refine bn_ ?_
    intro t502 A5 H
    revert H
    refine ke_ ?_
    intro c6b0 H
    revert H
    refine bn_ ?_
    intro t504 A7 H
    revert H
    refine ke_ ?_
    intro c8b0 H
    revert H
    refine ke_ ?_
    intro c9b0 H
    have H' := Aside0.mk H
    clear H
    try go_wp2
    replace HB := Aside0.mk (below_drew1 HB.out)
    have p501 : 0 ≤ (x5_1 : Int) := od_
    have q501 : x5_1 < (l0.length : Int) := od_
    obtain ⟨ad501, e501, hx501_0, hx501_1, hx501_2⟩ := at_T101 HR0.out x5_1 p501 q501
    have hw501_2 := hx501_2
    have hw501_1 := hx501_1
    have hw501_0 := hx501_0
    cases e501
    replace hx501_0 := (HB.out.cell (World.block_lt_of_cell? w _ hx501_0)).trans hx501_0
    replace hx501_1 := (HB.out.cell (World.block_lt_of_cell? w _ hx501_1)).trans hx501_1
    replace hx501_2 := (HB.out.cell (World.block_lt_of_cell? w _ hx501_2)).trans hx501_2
    replace p501 := eq_true p501
    replace q501 := eq_true q501
    refine start_ (n := 8) (S := fun w' => w'.cell? (ad501.add ((x5_1).toNat * 3)) = some (.string ((rd_T101 l0 x5_1).f0)) ∧ w'.cell? ⟨(ad501.add ((x5_1).toNat * 3)).block, (ad501.add ((x5_1).toNat * 3)).off + 1, none⟩ = some (.string ((rd_T101 l0 x5_1).f1)) ∧ w'.cell? ⟨(ad501.add ((x5_1).toNat * 3)).block, (ad501.add ((x5_1).toNat * 3)).off + 2, none⟩ = some (.int .i64 ((rd_T101 l0 x5_1).f2))) (ds := []) (fl 8 0) (by kernel_rfl) rfl rfl ⟨((HB.out.cell (World.block_lt_of_cell? w _ hw501_0)).trans hw501_0), ((HB.out.cell (World.block_lt_of_cell? w _ hw501_1)).trans hw501_1), ((HB.out.cell (World.block_lt_of_cell? w _ hw501_2)).trans hw501_2)⟩ (fun hHeld => ?_); refine with_tabW laws_heldBelayS.tab4 laws_heldBelayS.bits4 (fun HT_ HW_ => ?_)
    generalize wr.drew = w10 at HB hx501_0 hx501_1 hx501_2 hHeld ⊢
    refine pu_ (i := 0) (N := some 12) (fl 8 1) (any_of HT_.out (by kernel_rfl)) ?_
    refine pu_ (i := 1) (N := some 13) (fl 8 3) (any_of HT_.out (by kernel_rfl)) ?_
    refine pu_ (i := 2) (N := some 14) (fl 8 7) (any_of HT_.out (by kernel_rfl)) ?_
    refine pu_ (i := 3) (N := some 15) (fl 8 15) (any_of HT_.out (by kernel_rfl)) ?_
    refine pu_ (i := 5) (N := some 17) (fl 8 47) (any_of HT_.out (by kernel_rfl)) ?_
    refine take_ (i := 4) (N := some 16) (v := ?_) (a' := ?_) (fl 8 63) rfl rfl (take_ofW HT_.out HW_.out (by kernel_rfl)) (fun _ _ _ h => h) (Or.inl ⟨by rfl, ?_⟩) hHeld ?_ ?_
    rotate_left
    ·rintro w' ⟨s0, s1, s2⟩
     go_simp
     with_reducible rfl
    rotate_left
    ·simp only [Act.put, List.setIfInBounds_toArray, List.set_cons_zero, List.set_cons_succ, i64_w, i32_w]
     rfl
    refine one_ (i := 6) (N := some 18) (fl 8 127) rfl rfl (one_of HT_.out (by kernel_rfl)) (by decide) (fun K hK => ?_)
    refine goes_ Tryz.func77 (by kernel_rfl) rfl #[.int .i64 x1_1] (by rfl) rfl rfl (by (try simp only [List.map_toArray, List.map_cons, List.map_nil]); first | done | rfl | (simp only [List.length_drop, List.length_take]; rfl)) ?_
    with_reducible refine (laws_markText.calls k1 x1_1 t502 _ A5.out).mono ?_
    rintro e w11 ⟨rfl, hb⟩
    refine ⟨_, rfl, ?_⟩
    replace HB := bst_ hb
    (try clear hb)
    refine hK.out _ _ ⟨((HB.out.cell (World.block_lt_of_cell? w _ hw501_0)).trans hw501_0), ((HB.out.cell (World.block_lt_of_cell? w _ hw501_1)).trans hw501_1), ((HB.out.cell (World.block_lt_of_cell? w _ hw501_2)).trans hw501_2)⟩ (fun hHeld => ?_)
    clear hK K
    refine norm_ (a' := ?_) ?_ ?_
    rotate_left
    ·show Act.put _ (some 18) _ = _
     simp only [Act.put, List.setIfInBounds_toArray, List.set_cons_zero, List.set_cons_succ, i64_w, i32_w]
     rfl
    refine pu_ (i := 7) (N := some 19) (fl 8 255) (any_of HT_.out (by kernel_rfl)) ?_
    refine done_ (done_of HT_.out (by kernel_rfl)) ?_
    try go_wp2
    replace HB := Aside0.mk (below_drew1 HB.out)
    have p503 : 0 ≤ (x5_1 : Int) := od_
    have q503 : x5_1 < (l0.length : Int) := od_
    obtain ⟨ad503, e503, hx503_0, hx503_1, hx503_2⟩ := at_T101 HR0.out x5_1 p503 q503
    have hw503_2 := hx503_2
    have hw503_1 := hx503_1
    have hw503_0 := hx503_0
    obtain rfl : ad501 = ad503 := (by injection e503)
    replace hx503_0 := (HB.out.cell (World.block_lt_of_cell? w _ hx503_0)).trans hx503_0
    replace hx503_1 := (HB.out.cell (World.block_lt_of_cell? w _ hx503_1)).trans hx503_1
    replace hx503_2 := (HB.out.cell (World.block_lt_of_cell? w _ hx503_2)).trans hx503_2
    replace p503 := eq_true p503
    replace q503 := eq_true q503
    refine start_ (n := 8) (S := fun w' => w'.cell? (ad501.add ((x5_1).toNat * 3)) = some (.string ((rd_T101 l0 x5_1).f0)) ∧ w'.cell? ⟨(ad501.add ((x5_1).toNat * 3)).block, (ad501.add ((x5_1).toNat * 3)).off + 1, none⟩ = some (.string ((rd_T101 l0 x5_1).f1)) ∧ w'.cell? ⟨(ad501.add ((x5_1).toNat * 3)).block, (ad501.add ((x5_1).toNat * 3)).off + 2, none⟩ = some (.int .i64 ((rd_T101 l0 x5_1).f2))) (ds := []) (fl 8 0) (by kernel_rfl) rfl rfl ⟨((HB.out.cell (World.block_lt_of_cell? w _ hw503_0)).trans hw503_0), ((HB.out.cell (World.block_lt_of_cell? w _ hw503_1)).trans hw503_1), ((HB.out.cell (World.block_lt_of_cell? w _ hw503_2)).trans hw503_2)⟩ (fun hHeld => ?_); refine with_tabW laws_heldBelayS.tab7 laws_heldBelayS.bits7 (fun HT_ HW_ => ?_)
    generalize w11.drew = w12 at HB hx503_0 hx503_1 hx503_2 hHeld ⊢
    refine pu_ (i := 0) (N := some 22) (fl 8 1) (any_of HT_.out (by kernel_rfl)) ?_
    refine pu_ (i := 1) (N := some 23) (fl 8 3) (any_of HT_.out (by kernel_rfl)) ?_
    refine pu_ (i := 2) (N := some 24) (fl 8 7) (any_of HT_.out (by kernel_rfl)) ?_
    refine pu_ (i := 3) (N := some 25) (fl 8 15) (any_of HT_.out (by kernel_rfl)) ?_
    refine pu_ (i := 5) (N := some 27) (fl 8 47) (any_of HT_.out (by kernel_rfl)) ?_
    refine take_ (i := 4) (N := some 26) (v := ?_) (a' := ?_) (fl 8 63) rfl rfl (take_ofW HT_.out HW_.out (by kernel_rfl)) (fun _ _ _ h => h) (Or.inl ⟨by rfl, ?_⟩) hHeld ?_ ?_
    rotate_left
    ·rintro w' ⟨s0, s1, s2⟩
     go_simp
     with_reducible rfl
    rotate_left
    ·simp only [Act.put, List.setIfInBounds_toArray, List.set_cons_zero, List.set_cons_succ, i64_w, i32_w]
     rfl
    refine one_ (i := 6) (N := some 28) (fl 8 127) rfl rfl (one_of HT_.out (by kernel_rfl)) (by decide) (fun K hK => ?_)
    refine goes_ Tryz.func77 (by kernel_rfl) rfl #[.int .i64 (wrap64 (x1_1 + 1))] (by rfl) rfl rfl (by (try simp only [List.map_toArray, List.map_cons, List.map_nil]); first | done | rfl | (simp only [List.length_drop, List.length_take]; rfl)) ?_
    with_reducible refine (laws_markText.calls k1 (wrap64 (x1_1 + 1)) t504 _ A7.out).mono ?_
    rintro e w13 ⟨rfl, hb⟩
    refine ⟨_, rfl, ?_⟩
    replace HB := bst_ hb
    (try clear hb)
    refine hK.out _ _ ⟨((HB.out.cell (World.block_lt_of_cell? w _ hw503_0)).trans hw503_0), ((HB.out.cell (World.block_lt_of_cell? w _ hw503_1)).trans hw503_1), ((HB.out.cell (World.block_lt_of_cell? w _ hw503_2)).trans hw503_2)⟩ (fun hHeld => ?_)
    clear hK K
    refine norm_ (a' := ?_) ?_ ?_
    rotate_left
    ·show Act.put _ (some 28) _ = _
     simp only [Act.put, List.setIfInBounds_toArray, List.set_cons_zero, List.set_cons_succ, i64_w, i32_w]
     rfl
    refine pu_ (i := 7) (N := some 29) (fl 8 255) (any_of HT_.out (by kernel_rfl)) ?_
    refine done_ (done_of HT_.out (by kernel_rfl)) ?_
    have p505 : 0 ≤ (x5_1 : Int) := od_
    have q505 : x5_1 < (l0.length : Int) := od_
    obtain ⟨ad505, e505, hx505_0, hx505_1, hx505_2⟩ := at_T101 HR0.out x5_1 p505 q505
    obtain rfl : ad501 = ad505 := (by injection e505)
    replace hx505_0 := (HB.out.cell (World.block_lt_of_cell? w _ hx505_0)).trans hx505_0
    replace hx505_1 := (HB.out.cell (World.block_lt_of_cell? w _ hx505_1)).trans hx505_1
    replace hx505_2 := (HB.out.cell (World.block_lt_of_cell? w _ hx505_2)).trans hx505_2
    replace p505 := eq_true p505
    replace q505 := eq_true q505
    try go_wp2
    go_roundg k1
    case measure => have := HK1.out; omega
    case rel => exact ⟨(wrap64 ((wrap64 ((wrap64 (x1_1 + 1)) + 1)) + 1)), (wrap64 (x5_1 + 1)), re_, re_, H', ⟨by have := HK1.out; omega⟩, ⟨bwl_⟩⟩
   ·obtain rfl := Option.some.inj H
    go_wp2
    go_ret
    exact ⟨rr_, bwl_⟩
def laws_heldRig.f (k : Nat) (l0_0 : List (S97)) (l0_1 : List ByteArray) (l0_2 : List (S101)) (a1 : Int) : Option (Int) := (laws_heldRailS.f k l0_0 a1).bind fun t507 => (if t507 < 0 then (none) else ((laws_heldStringS.f k l0_1 t507).bind fun t508 => (if t508 < 0 then (none) else ((laws_heldBelayS.f k l0_2 t508).bind fun t509 => (if t509 < 0 then (none) else (some t509))))))
theorem laws_heldRig.mono : ∀ a0 a1 a2 a3 k, LeO (laws_heldRig.f k a0 a1 a2 a3) (laws_heldRig.f (k + 1) a0 a1 a2 a3) := by
 intro a0 a1 a2 a3 k
 unfold laws_heldRig.f
 have m0 := @laws_heldBelayS.mono
 have m1 := @laws_heldRailS.mono
 have m2 := @laws_heldStringS.mono
 exact mo_
theorem laws_heldRig.calls (k : Nat) (A0_0 : Option Addr) (c0_0 : Nat) (l0_0 : List (S97)) (A0_1 : Option Addr) (c0_1 : Nat) (l0_1 : List ByteArray) (A0_2 : Option Addr) (c0_2 : Nat) (l0_2 : List (S101)) (a1 : Int) (r : Int) (w : World) (hr0_0 : Kd.C k97 w A0_0 l0_0.length l0_0) (hc0_0 : l0_0.length ≤ c0_0) (hr0_1 : Kd.C Kd.string w A0_1 l0_1.length l0_1) (hc0_1 : l0_1.length ≤ c0_1) (hr0_2 : Kd.C k101 w A0_2 l0_2.length l0_2) (hc0_2 : l0_2.length ≤ c0_2) (h : laws_heldRig.f k l0_0 l0_1 l0_2 a1 = some r) :
  Calls Tryz.prog 46 #[.agg #[.slice A0_0 l0_0.length c0_0, .slice A0_1 l0_1.length c0_1, .slice A0_2 l0_2.length c0_2], .int .i64 a1] w fun e w' => e = .returned (.int .i64 r) ∧ Below w.heap.size w w' := by
 have hu37 := Tryz.underlying37
 have HR0_0 := Aside0.mk hr0_0
 have HC0_0 := Aside0.mk hc0_0
 clear hr0_0 hc0_0
 have HR0_1 := Aside0.mk hr0_1
 have HC0_1 := Aside0.mk hc0_1
 clear hr0_1 hc0_1
 have HR0_2 := Aside0.mk hr0_2
 have HC0_2 := Aside0.mk hc0_2
 clear hr0_2 hc0_2
 have HB := Aside0.mk (Below.refl w.heap.size w)
 have H := h
 clear h
 unfold laws_heldRig.f at H
 revert H
 refine bn_ ?_
 intro t507 A3 H
 revert H
 refine io_ ?_
 intro c4b0 H
 revert H
 refine bn_ ?_
 intro t508 A8 H
 revert H
 refine io_ ?_
 intro c9b0 H
 revert H
 refine bn_ ?_
 intro t509 A15 H
 revert H
 refine io_ ?_
 intro c16b0 H
 obtain rfl := Option.some.inj H
 go_enter Tryz.func46, Tryz.ntmps46
 go_wp2_with (first | ((with_reducible refine gd_ 2 rfl ?_); refine bx_ #[.slice A0_0 l0_0.length c0_0, .slice A0_1 l0_1.length c0_1, .slice A0_2 l0_2.length c0_2] ?_; intro gb506 hg w24 BK506 hb; have GW506 := bsz_ hg; replace HB := bst_ hb; clear hb hg; have hcz25_0 := c3_ BK506) | ((with_reducible refine gc_ 78 rfl ?_); refine cl_ Tryz.func78 (laws_heldRailS.calls _ _ _ _ _ _ _ (kc_ HR0_0) HC0_0.out A3.out) ?_; intro w26 hb; replace BK506 := bkb_ BK506 hb; replace HB := bst_ hb; clear hb; have hcz27_0 := c3_ BK506) | ((with_reducible refine gc_ 79 rfl ?_); refine cl_ Tryz.func79 (laws_heldStringS.calls _ _ _ _ _ _ _ (kc_ HR0_1) HC0_1.out A8.out) ?_; intro w28 hb; replace BK506 := bkb_ BK506 hb; replace HB := bst_ hb; clear hb; have hcz29_0 := c3_ BK506) | ((with_reducible refine gc_ 80 rfl ?_); refine cl_ Tryz.func80 (laws_heldBelayS.calls _ _ _ _ _ _ _ (kc_ HR0_2) HC0_2.out A15.out) ?_; intro w30 hb; replace BK506 := bkb_ BK506 hb; replace HB := bst_ hb; clear hb))
 go_ret
 exact ⟨rr_, bwl_⟩
def laws_heldCoilS.l0 : Nat → List (S69) → Int → Int → Option (Int)
 | 0, _, _, _ => none
 | k + 1, x0, x1, x5 => if x5 < (x0.length : Int) then (if 0 ≤ x5 then ((laws_markText.f k x1).bind fun t511 => (if ((rd_T69 x0 x5).f0).toList = t511.toList then (if ((rd_T69 x0 x5).f1) = (wrap64 (x1 + 1)) then (laws_heldCoilS.l0 k x0 (wrap64 ((wrap64 (x1 + 1)) + 1)) (wrap64 (x5 + 1))) else (none)) else (none))) else (none)) else (some x1)
def laws_heldCoilS.f (k : Nat) (l0 : List (S69)) (a1 : Int) : Option (Int) := laws_heldCoilS.l0 k l0 a1 0
theorem laws_heldCoilS.mono_l : ∀ k, (∀ y0 y1 y2, LeO (laws_heldCoilS.l0 k y0 y1 y2) (laws_heldCoilS.l0 (k + 1) y0 y1 y2))
 | 0 => fun _ _ _ r h => by simp [laws_heldCoilS.l0] at h
 | k + 1 => by
  have ih0 := laws_heldCoilS.mono_l k
  ·intro y0 y1 y2
   unfold laws_heldCoilS.l0
   have m0 := @laws_markText.mono
   exact mo_
theorem laws_heldCoilS.mono : ∀ a0 a1 k, LeO (laws_heldCoilS.f k a0 a1) (laws_heldCoilS.f (k + 1) a0 a1) := by
 intro a0 a1 k
 have ih0 := laws_heldCoilS.mono_l k
 unfold laws_heldCoilS.f
 have m0 := @laws_markText.mono
 exact mo_
def laws_heldCoilS.T4 : Bool × List (List Nat × List Nat) := (true, [([], []), ([], []), ([0, 1], [0, 1]), ([2], [2]), ([3], [3]), ([], []), ([5], [5]), ([4, 6], [4, 6])])
def laws_heldCoilS.B4 : List Nat := [0, 0, 3, 7, 15, 0, 32, 127]
theorem laws_heldCoilS.tab4 : rtab .any (opsOf Tryz.f47 4) = laws_heldCoilS.T4 := by kernel_rfl
theorem laws_heldCoilS.bits4 : waitsOk laws_heldCoilS.T4.2 laws_heldCoilS.B4 = true := by kernel_rfl
theorem laws_heldCoilS.calls (k : Nat) (A0 : Option Addr) (c0 : Nat) (l0 : List (S69)) (a1 : Int) (r : Int) (w : World) (hr0 : Kd.C k69 w A0 l0.length l0) (hc0 : l0.length ≤ c0) (h : laws_heldCoilS.f k l0 a1 = some r) :
  Calls Tryz.prog 47 #[.slice A0 l0.length c0, .int .i64 a1] w fun e w' => e = .returned (.int .i64 r) ∧ Below w.heap.size w w' := by
 have HR0 := Aside0.mk hr0
 have HC0 := Aside0.mk hc0
 clear hr0 hc0
 have HB := Aside0.mk (Below.refl w.heap.size w)
 have H := h
 clear h
 unfold laws_heldCoilS.f at H
 have H' := Aside0.mk H
 clear H
 go_enter Tryz.func47, Tryz.ntmps47
 go_wp2
 go_loopg [1, 5] k (fun kq v1 v5 w' => ∃ (x1_1 : Int) (x5_1 : Int), v1 = .int .i64 x1_1 ∧ v5 = .int .i64 x5_1 ∧ Aside0 (laws_heldCoilS.l0 kq l0 x1_1 x5_1 = some r) ∧ Aside0 (kq ≤ k) ∧ Aside0 (Below w.heap.size w w'))
 case atStart => exact ⟨(a1), (0), re_, re_, H', ⟨Nat.le_refl _⟩, ⟨bwl_⟩⟩
 case round =>
  clear H'
  obtain ⟨x1_1, x5_1, rfl, rfl, HA, HK1, HB⟩ := hrel
  cases gk with
  | zero => exact absurd HA.out (by simp [laws_heldCoilS.l0])
  | succ k1 =>
   have H := HA.out
   clear HA
   simp only [laws_heldCoilS.l0] at H
   revert H
   refine if_ ?_ ?_ <;> intro c3b0 H
   ·revert H
    refine in_ ?_
    intro c4b0 H
    revert H
    refine bn_ ?_
    intro t511 A5 H
    revert H
    refine ke_ ?_
    intro c6b0 H
    revert H
    refine ke_ ?_
    intro c7b0 H
    have H' := Aside0.mk H
    clear H
    try go_wp2
    replace HB := Aside0.mk (below_drew1 HB.out)
    have p510 : 0 ≤ (x5_1 : Int) := od_
    have q510 : x5_1 < (l0.length : Int) := od_
    obtain ⟨ad510, e510, hx510_0, hx510_1⟩ := at_T69 HR0.out x5_1 p510 q510
    have hw510_1 := hx510_1
    have hw510_0 := hx510_0
    cases e510
    replace hx510_0 := (HB.out.cell (World.block_lt_of_cell? w _ hx510_0)).trans hx510_0
    replace hx510_1 := (HB.out.cell (World.block_lt_of_cell? w _ hx510_1)).trans hx510_1
    replace p510 := eq_true p510
    replace q510 := eq_true q510
    refine start_ (n := 8) (S := fun w' => w'.cell? (ad510.add ((x5_1).toNat * 2)) = some (.string ((rd_T69 l0 x5_1).f0)) ∧ w'.cell? ⟨(ad510.add ((x5_1).toNat * 2)).block, (ad510.add ((x5_1).toNat * 2)).off + 1, none⟩ = some (.int .i64 ((rd_T69 l0 x5_1).f1))) (ds := []) (fl 8 0) (by kernel_rfl) rfl rfl ⟨((HB.out.cell (World.block_lt_of_cell? w _ hw510_0)).trans hw510_0), ((HB.out.cell (World.block_lt_of_cell? w _ hw510_1)).trans hw510_1)⟩ (fun hHeld => ?_); refine with_tabW laws_heldCoilS.tab4 laws_heldCoilS.bits4 (fun HT_ HW_ => ?_)
    generalize wr.drew = w8 at HB hx510_0 hx510_1 hHeld ⊢
    refine pu_ (i := 0) (N := some 12) (fl 8 1) (any_of HT_.out (by kernel_rfl)) ?_
    refine pu_ (i := 1) (N := some 13) (fl 8 3) (any_of HT_.out (by kernel_rfl)) ?_
    refine pu_ (i := 2) (N := some 14) (fl 8 7) (any_of HT_.out (by kernel_rfl)) ?_
    refine pu_ (i := 3) (N := some 15) (fl 8 15) (any_of HT_.out (by kernel_rfl)) ?_
    refine pu_ (i := 5) (N := some 17) (fl 8 47) (any_of HT_.out (by kernel_rfl)) ?_
    refine take_ (i := 4) (N := some 16) (v := ?_) (a' := ?_) (fl 8 63) rfl rfl (take_ofW HT_.out HW_.out (by kernel_rfl)) (fun _ _ _ h => h) (Or.inl ⟨by rfl, ?_⟩) hHeld ?_ ?_
    rotate_left
    ·rintro w' ⟨s0, s1⟩
     go_simp
     with_reducible rfl
    rotate_left
    ·simp only [Act.put, List.setIfInBounds_toArray, List.set_cons_zero, List.set_cons_succ, i64_w, i32_w]
     rfl
    refine one_ (i := 6) (N := some 18) (fl 8 127) rfl rfl (one_of HT_.out (by kernel_rfl)) (by decide) (fun K hK => ?_)
    refine goes_ Tryz.func77 (by kernel_rfl) rfl #[.int .i64 x1_1] (by rfl) rfl rfl (by (try simp only [List.map_toArray, List.map_cons, List.map_nil]); first | done | rfl | (simp only [List.length_drop, List.length_take]; rfl)) ?_
    with_reducible refine (laws_markText.calls k1 x1_1 t511 _ A5.out).mono ?_
    rintro e w9 ⟨rfl, hb⟩
    refine ⟨_, rfl, ?_⟩
    replace HB := bst_ hb
    (try clear hb)
    refine hK.out _ _ ⟨((HB.out.cell (World.block_lt_of_cell? w _ hw510_0)).trans hw510_0), ((HB.out.cell (World.block_lt_of_cell? w _ hw510_1)).trans hw510_1)⟩ (fun hHeld => ?_)
    clear hK K
    refine norm_ (a' := ?_) ?_ ?_
    rotate_left
    ·show Act.put _ (some 18) _ = _
     simp only [Act.put, List.setIfInBounds_toArray, List.set_cons_zero, List.set_cons_succ, i64_w, i32_w]
     rfl
    refine pu_ (i := 7) (N := some 19) (fl 8 255) (any_of HT_.out (by kernel_rfl)) ?_
    refine done_ (done_of HT_.out (by kernel_rfl)) ?_
    have p512 : 0 ≤ (x5_1 : Int) := od_
    have q512 : x5_1 < (l0.length : Int) := od_
    obtain ⟨ad512, e512, hx512_0, hx512_1⟩ := at_T69 HR0.out x5_1 p512 q512
    obtain rfl : ad510 = ad512 := (by injection e512)
    replace hx512_0 := (HB.out.cell (World.block_lt_of_cell? w _ hx512_0)).trans hx512_0
    replace hx512_1 := (HB.out.cell (World.block_lt_of_cell? w _ hx512_1)).trans hx512_1
    replace p512 := eq_true p512
    replace q512 := eq_true q512
    try go_wp2
    go_roundg k1
    case measure => have := HK1.out; omega
    case rel => exact ⟨(wrap64 ((wrap64 (x1_1 + 1)) + 1)), (wrap64 (x5_1 + 1)), re_, re_, H', ⟨by have := HK1.out; omega⟩, ⟨bwl_⟩⟩
   ·obtain rfl := Option.some.inj H
    go_wp2
    go_ret
    exact ⟨rr_, bwl_⟩
def laws_heldDesk.f (k : Nat) (a0_0 : Int) (l0_1 : List (S97)) (l0_2 : List ByteArray) (l0_3 : List (S101)) (l0_4 : List (S69)) (a0_5 : ByteArray) (a0_6 : ByteArray) (a1 : Int) : Option (Int) := (laws_heldRig.f k l0_1 l0_2 l0_3 a1).bind fun t514 => (if t514 < 0 then (none) else ((laws_heldCoilS.f k l0_4 t514).bind fun t515 => (if t515 < 0 then (none) else (some t515))))
theorem laws_heldDesk.mono : ∀ a0 a1 a2 a3 a4 a5 a6 a7 k, LeO (laws_heldDesk.f k a0 a1 a2 a3 a4 a5 a6 a7) (laws_heldDesk.f (k + 1) a0 a1 a2 a3 a4 a5 a6 a7) := by
 intro a0 a1 a2 a3 a4 a5 a6 a7 k
 unfold laws_heldDesk.f
 have m0 := @laws_heldCoilS.mono
 have m1 := @laws_heldRig.mono
 exact mo_
theorem laws_heldDesk.calls (k : Nat) (a0_0 : Int) (A0_1 : Option Addr) (c0_1 : Nat) (l0_1 : List (S97)) (A0_2 : Option Addr) (c0_2 : Nat) (l0_2 : List ByteArray) (A0_3 : Option Addr) (c0_3 : Nat) (l0_3 : List (S101)) (A0_4 : Option Addr) (c0_4 : Nat) (l0_4 : List (S69)) (a0_5 : ByteArray) (a0_6 : ByteArray) (a1 : Int) (r : Int) (w : World) (hr0_1 : Kd.C k97 w A0_1 l0_1.length l0_1) (hc0_1 : l0_1.length ≤ c0_1) (hr0_2 : Kd.C Kd.string w A0_2 l0_2.length l0_2) (hc0_2 : l0_2.length ≤ c0_2) (hr0_3 : Kd.C k101 w A0_3 l0_3.length l0_3) (hc0_3 : l0_3.length ≤ c0_3) (hr0_4 : Kd.C k69 w A0_4 l0_4.length l0_4) (hc0_4 : l0_4.length ≤ c0_4) (h : laws_heldDesk.f k a0_0 l0_1 l0_2 l0_3 l0_4 a0_5 a0_6 a1 = some r) :
  Calls Tryz.prog 16 #[.agg #[.int .i64 a0_0, .slice A0_1 l0_1.length c0_1, .slice A0_2 l0_2.length c0_2, .slice A0_3 l0_3.length c0_3, .slice A0_4 l0_4.length c0_4, .string a0_5, .string a0_6], .int .i64 a1] w fun e w' => e = .returned (.int .i64 r) ∧ Below w.heap.size w w' := by
 have hu41 := Tryz.underlying41
 have hu37 := Tryz.underlying37
 have HR0_1 := Aside0.mk hr0_1
 have HC0_1 := Aside0.mk hc0_1
 clear hr0_1 hc0_1
 have HR0_2 := Aside0.mk hr0_2
 have HC0_2 := Aside0.mk hc0_2
 clear hr0_2 hc0_2
 have HR0_3 := Aside0.mk hr0_3
 have HC0_3 := Aside0.mk hc0_3
 clear hr0_3 hc0_3
 have HR0_4 := Aside0.mk hr0_4
 have HC0_4 := Aside0.mk hc0_4
 clear hr0_4 hc0_4
 have HB := Aside0.mk (Below.refl w.heap.size w)
 have H := h
 clear h
 unfold laws_heldDesk.f at H
 revert H
 refine bn_ ?_
 intro t514 A3 H
 revert H
 refine io_ ?_
 intro c4b0 H
 revert H
 refine bn_ ?_
 intro t515 A8 H
 revert H
 refine io_ ?_
 intro c9b0 H
 obtain rfl := Option.some.inj H
 go_enter Tryz.func16, Tryz.ntmps16
 go_wp2_with (first | ((with_reducible refine gd_ 2 rfl ?_); refine bx_ #[.int .i64 a0_0, .slice A0_1 l0_1.length c0_1, .slice A0_2 l0_2.length c0_2, .slice A0_3 l0_3.length c0_3, .slice A0_4 l0_4.length c0_4, .string a0_5, .string a0_6] ?_; intro gb513 hg w15 BK513 hb; have GW513 := bsz_ hg; replace HB := bst_ hb; clear hb hg; have hcz16_0 := c7_ BK513) | ((with_reducible refine gc_ 46 rfl ?_); refine cl_ Tryz.func46 (laws_heldRig.calls _ _ _ _ _ _ _ _ _ _ _ _ _ (kc_ HR0_1) HC0_1.out (kc_ HR0_2) HC0_2.out (kc_ HR0_3) HC0_3.out A3.out) ?_; intro w17 hb; replace BK513 := bkb_ BK513 hb; replace HB := bst_ hb; clear hb; have hcz18_0 := c7_ BK513) | ((with_reducible refine gc_ 47 rfl ?_); refine cl_ Tryz.func47 (laws_heldCoilS.calls _ _ _ _ _ _ _ (kc_ HR0_4) HC0_4.out A8.out) ?_; intro w19 hb; replace BK513 := bkb_ BK513 hb; replace HB := bst_ hb; clear hb))
 go_ret
 exact ⟨rr_, bwl_⟩
end Go.Proofs.YtkoeeajciciphaaGreatDoor.QFnExactStartAgain
