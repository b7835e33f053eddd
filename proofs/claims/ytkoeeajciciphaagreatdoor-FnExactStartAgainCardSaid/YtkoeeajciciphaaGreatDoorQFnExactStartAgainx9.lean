import Derived.Test.YtkoeeajciciphaaGreatDoorSq
import Derived.Test.YtkoeeajciciphaaGreatDoorS4
import Derived.Test.YtkoeeajciciphaaGreatDoorQFnExactStartAgainx0
import Derived.Test.YtkoeeajciciphaaGreatDoorQFnExactStartAgainx1
import Derived.Test.YtkoeeajciciphaaGreatDoorQFnExactStartAgainx4
import Derived.Test.YtkoeeajciciphaaGreatDoorQFnExactStartAgainx7
import Derived.Test.YtkoeeajciciphaaGreatDoorQFnExactStartAgainx8
namespace Go.Proofs.YtkoeeajciciphaaGreatDoor.QFnExactStartAgain
open Sq (fl pu_ gl_ b20_ b21_ b30_ b31_ b32_ od_ rr_ be_)
open Sq
open Base (bwl_ bst_ bsz_ bkb_ nbl_ nbr_ kbl_ bkm_)
open Go.RowKit Go.Proofs.YtkoeeajciciphaaGreatDoorW.PrintWords Go.Proofs.YtkoeeajciciphaaGreatDoorW.PrintLast Go.Proofs.YtkoeeajciciphaaGreatDoorW.PrintMore
attribute [local go_sem] max2_int min2_int max_two min_two max_three min_three max_four min_four
set_option linter.unusedVariables false
set_option linter.unusedSimpArgs false
set_option maxHeartbeats 8000000
set_option maxRecDepth 100000
mutual
def laws_FnExactStartAgain.j0 : Nat → Int → Int → Int → Bool → Int → List (S119) → List ByteArray → List (S121) → List (S88) → ByteArray → ByteArray → Int → List (S97) → List ByteArray → List (S101) → List (S69) → ByteArray → ByteArray → Int → List (S97) → List ByteArray → List (S101) → List (S69) → ByteArray → ByteArray → Int → List (S97) → List ByteArray → List (S101) → List (S69) → ByteArray → ByteArray → Option (Bool)
 | 0, _, _, _, _, _, _, _, _, _, _, _, _, _, _, _, _, _, _, _, _, _, _, _, _, _, _, _, _, _, _, _, _ => none
 | k + 1, x1, x7, x10, x44, x517000, x517001, x517002, x517003, x517004, x517005, x517006, x550000, x550001, x550002, x550003, x550004, x550005, x550006, x566000, x566001, x566002, x566003, x566004, x566005, x566006, x583000, x583001, x583002, x583003, x583004, x583005, x583006 => if x44 = true then (none) else ((laws_toDesk.f k x517000 x517001 x517002 x517003 x517004 x517005 x517006).bind fun bt584 => ((laws_eqDesk.f k x566000 x566001 x566002 x566003 x566004 x566005 x566006 bt584.1 bt584.2.1 bt584.2.2.1 bt584.2.2.2.1 bt584.2.2.2.2.1 bt584.2.2.2.2.2.1 bt584.2.2.2.2.2.2).bind fun t599 => (if t599 = true then ((laws_markDesk.f k x566000 x566001 x566002 x566003 x566004 x566005 x566006 1).bind fun bt600 => (if bt600.1 < 0 then (none) else ((laws_eqDesk.f k x583000 x583001 x583002 x583003 x583004 x583005 x583006 x550000 x550001 x550002 x550003 x550004 x550005 x550006).bind fun t605 => (if t605 = true then (laws_FnExactStartAgain.j1 k x1 x7 (x10 != x7) x517000 x517001 x517002 x517003 x517004 x517005 x517006 x550000 x550001 x550002 x550003 x550004 x550005 x550006 x583000 x583001 x583002 x583003 x583004 x583005 x583006) else (none))))) else (none))))
def laws_FnExactStartAgain.j1 : Nat → Int → Int → Bool → Int → List (S119) → List ByteArray → List (S121) → List (S88) → ByteArray → ByteArray → Int → List (S97) → List ByteArray → List (S101) → List (S69) → ByteArray → ByteArray → Int → List (S97) → List ByteArray → List (S101) → List (S69) → ByteArray → ByteArray → Option (Bool)
 | 0, _, _, _, _, _, _, _, _, _, _, _, _, _, _, _, _, _, _, _, _, _, _, _, _ => none
 | k + 1, x1, x7, x65, x517000, x517001, x517002, x517003, x517004, x517005, x517006, x550000, x550001, x550002, x550003, x550004, x550005, x550006, x583000, x583001, x583002, x583003, x583004, x583005, x583006 => if x65 = true then (none) else ((laws_markDesk.f k x583000 x583001 x583002 x583003 x583004 x583005 x583006 1).bind fun bt606 => ((laws_heldDesk.f k x583000 bt606.2.1 bt606.2.2.1 bt606.2.2.2.1 bt606.2.2.2.2 x583005 x583006 1).bind fun t611 => (if t611 < 0 then (none) else (if t611 = bt606.1 then ((laws_toDesk.f k x517000 x517001 x517002 x517003 x517004 x517005 x517006).bind fun bt612 => ((impl_StartAgain.f k bt612.1 bt612.2.1 bt612.2.2.1 bt612.2.2.2.1 bt612.2.2.2.2.1 bt612.2.2.2.2.2.1 bt612.2.2.2.2.2.2 x1).bind fun bt627 => ((laws_eqDesk.f k bt627.1 bt627.2.1 bt627.2.2.1 bt627.2.2.2.1 bt627.2.2.2.2.1 bt627.2.2.2.2.2.1 bt627.2.2.2.2.2.2.1 x550000 x550001 x550002 x550003 x550004 x550005 x550006).bind fun t644 => (if t644 = true then (laws_FnExactStartAgain.j2 k bt606.1 (bt627.2.2.2.2.2.2.2 != x7) x583000 bt606.2.1 bt606.2.2.1 bt606.2.2.2.1 bt606.2.2.2.2 x583005 x583006) else (none))))) else (none)))))
def laws_FnExactStartAgain.j2 : Nat → Int → Bool → Int → List (S97) → List ByteArray → List (S101) → List (S69) → ByteArray → ByteArray → Option (Bool)
 | 0, _, _, _, _, _, _, _, _, _ => none
 | k + 1, x12, x92, x583000, x583001, x583002, x583003, x583004, x583005, x583006 => if x92 = true then (none) else ((laws_heldDesk.f k x583000 x583001 x583002 x583003 x583004 x583005 x583006 1).bind fun t645 => (if t645 < 0 then (none) else (if t645 = x12 then (some true) else (none))))
end
def laws_FnExactStartAgain.f (k : Nat) (a0_0 : Int) (l0_1 : List (S119)) (l0_2 : List ByteArray) (l0_3 : List (S121)) (l0_4 : List (S88)) (a0_5 : ByteArray) (a0_6 : ByteArray) (a1 : Int) : Option (Bool) := (laws_szDesk.f k a0_0 l0_1 l0_2 l0_3 l0_4 a0_5 a0_6 1048576).bind fun t517 => (if t517 < 0 then (some true) else ((laws_toDesk.f k a0_0 l0_1 l0_2 l0_3 l0_4 a0_5 a0_6).bind fun bt518 => ((spec_StartAgain.f k bt518.1 bt518.2.1 bt518.2.2.1 bt518.2.2.2.1 bt518.2.2.2.2.1 bt518.2.2.2.2.2.1 bt518.2.2.2.2.2.2 a1).bind fun bt533 => ((laws_toDesk.f k a0_0 l0_1 l0_2 l0_3 l0_4 a0_5 a0_6).bind fun bt550 => ((impl_StartAgain.f k bt550.1 bt550.2.1 bt550.2.2.1 bt550.2.2.2.1 bt550.2.2.2.2.1 bt550.2.2.2.2.2.1 bt550.2.2.2.2.2.2 a1).bind fun bt566 => ((laws_eqDesk.f k bt566.1 bt566.2.1 bt566.2.2.1 bt566.2.2.2.1 bt566.2.2.2.2.1 bt566.2.2.2.2.2.1 bt566.2.2.2.2.2.2.1 bt533.1 bt533.2.1 bt533.2.2.1 bt533.2.2.2.1 bt533.2.2.2.2.1 bt533.2.2.2.2.2.1 bt533.2.2.2.2.2.2.1).bind fun t583 => (if t583 = true then (laws_FnExactStartAgain.j0 k a1 bt533.2.2.2.2.2.2.2 bt566.2.2.2.2.2.2.2 (bt566.2.2.2.2.2.2.2 != bt533.2.2.2.2.2.2.2) a0_0 l0_1 l0_2 l0_3 l0_4 a0_5 a0_6 bt533.1 bt533.2.1 bt533.2.2.1 bt533.2.2.2.1 bt533.2.2.2.2.1 bt533.2.2.2.2.2.1 bt533.2.2.2.2.2.2.1 bt550.1 bt550.2.1 bt550.2.2.1 bt550.2.2.2.1 bt550.2.2.2.2.1 bt550.2.2.2.2.2.1 bt550.2.2.2.2.2.2 bt566.1 bt566.2.1 bt566.2.2.1 bt566.2.2.2.1 bt566.2.2.2.2.1 bt566.2.2.2.2.2.1 bt566.2.2.2.2.2.2.1) else (none))))))))
theorem laws_FnExactStartAgain.mono_l : ∀ k, (∀ y0 y1 y2 y3 y4 y5 y6 y7 y8 y9 y10 y11 y12 y13 y14 y15 y16 y17 y18 y19 y20 y21 y22 y23 y24 y25 y26 y27 y28 y29 y30 y31, LeO (laws_FnExactStartAgain.j0 k y0 y1 y2 y3 y4 y5 y6 y7 y8 y9 y10 y11 y12 y13 y14 y15 y16 y17 y18 y19 y20 y21 y22 y23 y24 y25 y26 y27 y28 y29 y30 y31) (laws_FnExactStartAgain.j0 (k + 1) y0 y1 y2 y3 y4 y5 y6 y7 y8 y9 y10 y11 y12 y13 y14 y15 y16 y17 y18 y19 y20 y21 y22 y23 y24 y25 y26 y27 y28 y29 y30 y31)) ∧ (∀ y0 y1 y2 y3 y4 y5 y6 y7 y8 y9 y10 y11 y12 y13 y14 y15 y16 y17 y18 y19 y20 y21 y22 y23, LeO (laws_FnExactStartAgain.j1 k y0 y1 y2 y3 y4 y5 y6 y7 y8 y9 y10 y11 y12 y13 y14 y15 y16 y17 y18 y19 y20 y21 y22 y23) (laws_FnExactStartAgain.j1 (k + 1) y0 y1 y2 y3 y4 y5 y6 y7 y8 y9 y10 y11 y12 y13 y14 y15 y16 y17 y18 y19 y20 y21 y22 y23)) ∧ (∀ y0 y1 y2 y3 y4 y5 y6 y7 y8, LeO (laws_FnExactStartAgain.j2 k y0 y1 y2 y3 y4 y5 y6 y7 y8) (laws_FnExactStartAgain.j2 (k + 1) y0 y1 y2 y3 y4 y5 y6 y7 y8))
 | 0 => ⟨fun _ _ _ _ _ _ _ _ _ _ _ _ _ _ _ _ _ _ _ _ _ _ _ _ _ _ _ _ _ _ _ _ r h => by simp [laws_FnExactStartAgain.j0] at h, fun _ _ _ _ _ _ _ _ _ _ _ _ _ _ _ _ _ _ _ _ _ _ _ _ r h => by simp [laws_FnExactStartAgain.j1] at h, fun _ _ _ _ _ _ _ _ _ r h => by simp [laws_FnExactStartAgain.j2] at h⟩
 | k + 1 => by
  obtain ⟨ih0, ih1, ih2⟩ := laws_FnExactStartAgain.mono_l k
  refine ⟨?_, ?_, ?_⟩
  ·intro y0 y1 y2 y3 y4 y5 y6 y7 y8 y9 y10 y11 y12 y13 y14 y15 y16 y17 y18 y19 y20 y21 y22 y23 y24 y25 y26 y27 y28 y29 y30 y31
   unfold laws_FnExactStartAgain.j0
   have m0 := @impl_StartAgain.mono
   have m1 := @laws_eqDesk.mono
   have m2 := @laws_heldDesk.mono
   have m3 := @laws_markDesk.mono
   have m4 := @laws_szDesk.mono
   have m5 := @laws_toDesk.mono
   have m6 := @spec_StartAgain.mono
   exact mo_
  ·intro y0 y1 y2 y3 y4 y5 y6 y7 y8 y9 y10 y11 y12 y13 y14 y15 y16 y17 y18 y19 y20 y21 y22 y23
   unfold laws_FnExactStartAgain.j1
   have m0 := @impl_StartAgain.mono
   have m1 := @laws_eqDesk.mono
   have m2 := @laws_heldDesk.mono
   have m3 := @laws_markDesk.mono
   have m4 := @laws_szDesk.mono
   have m5 := @laws_toDesk.mono
   have m6 := @spec_StartAgain.mono
   exact mo_
  ·intro y0 y1 y2 y3 y4 y5 y6 y7 y8
   unfold laws_FnExactStartAgain.j2
   have m0 := @impl_StartAgain.mono
   have m1 := @laws_eqDesk.mono
   have m2 := @laws_heldDesk.mono
   have m3 := @laws_markDesk.mono
   have m4 := @laws_szDesk.mono
   have m5 := @laws_toDesk.mono
   have m6 := @spec_StartAgain.mono
   exact mo_
theorem laws_FnExactStartAgain.mono : ∀ a0 a1 a2 a3 a4 a5 a6 a7 k, LeO (laws_FnExactStartAgain.f k a0 a1 a2 a3 a4 a5 a6 a7) (laws_FnExactStartAgain.f (k + 1) a0 a1 a2 a3 a4 a5 a6 a7) := by
 intro a0 a1 a2 a3 a4 a5 a6 a7 k
 obtain ⟨ih0, ih1, ih2⟩ := laws_FnExactStartAgain.mono_l k
 unfold laws_FnExactStartAgain.f
 have m0 := @impl_StartAgain.mono
 have m1 := @laws_eqDesk.mono
 have m2 := @laws_heldDesk.mono
 have m3 := @laws_markDesk.mono
 have m4 := @laws_szDesk.mono
 have m5 := @laws_toDesk.mono
 have m6 := @spec_StartAgain.mono
 exact mo_
theorem laws_FnExactStartAgain.calls (k : Nat) (a0_0 : Int) (A0_1 : Option Addr) (c0_1 : Nat) (l0_1 : List (S119)) (A0_2 : Option Addr) (c0_2 : Nat) (l0_2 : List ByteArray) (A0_3 : Option Addr) (c0_3 : Nat) (l0_3 : List (S121)) (A0_4 : Option Addr) (c0_4 : Nat) (l0_4 : List (S88)) (a0_5 : ByteArray) (a0_6 : ByteArray) (a1 : Int) (r : Bool) (w : World) (hr0_1 : Kd.C k119 w A0_1 l0_1.length l0_1) (hc0_1 : l0_1.length ≤ c0_1) (hr0_2 : Kd.C Kd.string w A0_2 l0_2.length l0_2) (hc0_2 : l0_2.length ≤ c0_2) (hr0_3 : Kd.C k121 w A0_3 l0_3.length l0_3) (hc0_3 : l0_3.length ≤ c0_3) (hr0_4 : Kd.C k88 w A0_4 l0_4.length l0_4) (hc0_4 : l0_4.length ≤ c0_4) (h : laws_FnExactStartAgain.f k a0_0 l0_1 l0_2 l0_3 l0_4 a0_5 a0_6 a1 = some r) (hT : Go.Proofs.YtkoeeajciciphaaGreatDoor.Base.Tb2 w) :
  Calls Tryz.prog 5 #[.agg #[.int .i64 a0_0, .slice A0_1 l0_1.length c0_1, .slice A0_2 l0_2.length c0_2, .slice A0_3 l0_3.length c0_3, .slice A0_4 l0_4.length c0_4, .string a0_5, .string a0_6], .int .i64 a1] w fun e w' => e = .returned (.bool r) ∧ Below w.heap.size w w' := by
 have HTB := Aside0.mk hT
 clear hT
 have hu31 := Tryz.underlying31
 have hu41 := Tryz.underlying41
 have HR0_1 := Aside0.mk hr0_1
 have HC0_1 := Aside0.mk hc0_1
 clear hr0_1 hc0_1
 have HR0_2 := Aside0.mk hr0_2
 have HC0_2 := Aside0.mk hc0_2
 clear hr0_2 hc0_2
 have HR0_3 := Aside0.mk hr0_3
 have HC0_3 := Aside0.mk hc0_3
 clear hr0_3 hc0_3
 have HR0_4 := Aside0.mk hr0_4
 have HC0_4 := Aside0.mk hc0_4
 clear hr0_4 hc0_4
 have HB := Aside0.mk (Below.refl w.heap.size w)
 have H := h
 clear h
 unfold laws_FnExactStartAgain.f at H
 revert H
 refine bn_ ?_
 intro t517 A3 H
 revert H
 refine if_ ?_ ?_ <;> intro c4b0 H
 ·obtain rfl := Option.some.inj H
  go_enter Tryz.func5, Tryz.ntmps5
  go_wp2_with (first | ((with_reducible refine gd_ 2 rfl ?_); refine bx_ #[.int .i64 a0_0, .slice A0_1 l0_1.length c0_1, .slice A0_2 l0_2.length c0_2, .slice A0_3 l0_3.length c0_3, .slice A0_4 l0_4.length c0_4, .string a0_5, .string a0_6] ?_; intro gb516 hg w5 BK516 hb; have GW516 := bsz_ hg; replace HB := bst_ hb; clear hb hg; have hcz6_0 := c7_ BK516) | ((with_reducible refine gc_ 6 rfl ?_); refine cl_ Tryz.func6 (laws_szDesk.calls _ _ _ _ _ _ _ _ _ _ _ _ _ _ _ _ _ _ _ (kc_ HR0_1) HC0_1.out (kc_ HR0_2) HC0_2.out (kc_ HR0_3) HC0_3.out (kc_ HR0_4) HC0_4.out A3.out) ?_; intro w7 hb; replace BK516 := bkb_ BK516 hb; replace HB := bst_ hb; clear hb))
  go_ret
  exact ⟨rr_, bwl_⟩
 ·revert H
  refine bn_ ?_
  rintro ⟨t518, t519, t522, t525, t528, t531, t532⟩ A8 H
  revert H
  refine bn_ ?_
  rintro ⟨t533, t534, t537, t540, t543, t546, t547, t548⟩ A9 H
  revert H
  refine bn_ ?_
  rintro ⟨t550, t551, t554, t557, t560, t563, t564⟩ A10 H
  revert H
  refine bn_ ?_
  rintro ⟨t566, t567, t570, t573, t576, t579, t580, t581⟩ A11 H
  have HC12 := Aside0.mk H
  clear H
  go_enter Tryz.func5, Tryz.ntmps5
  go_upto_region 8 with (first | ((with_reducible refine gd_ 2 rfl ?_); refine bx_ #[.int .i64 a0_0, .slice A0_1 l0_1.length c0_1, .slice A0_2 l0_2.length c0_2, .slice A0_3 l0_3.length c0_3, .slice A0_4 l0_4.length c0_4, .string a0_5, .string a0_6] ?_; intro gb516 hg w13 BK516 hb; have GW516 := bsz_ hg; replace HB := bst_ hb; clear hb hg; have hcz14_0 := c7_ BK516) | ((with_reducible refine gc_ 6 rfl ?_); refine cl_ Tryz.func6 (laws_szDesk.calls _ _ _ _ _ _ _ _ _ _ _ _ _ _ _ _ _ _ _ (kc_ HR0_1) HC0_1.out (kc_ HR0_2) HC0_2.out (kc_ HR0_3) HC0_3.out (kc_ HR0_4) HC0_4.out A3.out) ?_; intro w15 hb; replace BK516 := bkb_ BK516 hb; replace HB := bst_ hb; clear hb; have hcz16_0 := c7_ BK516) | ((with_reducible refine gc_ 8 rfl ?_); (with_reducible refine gd_ 23 rfl ?_); refine ck_ Tryz.func8 (laws_toDesk.calls _ _ _ _ _ _ _ _ _ _ _ _ _ _ _ _ _ _ _ _ _ _ _ _ (kc_ HR0_1) HC0_1.out (kc_ HR0_2) HC0_2.out (kc_ HR0_3) HC0_3.out (kc_ HR0_4) HC0_4.out A8.out) ?_; rintro e w17 ⟨v520, v523, v526, v529, rfl, ho0, ho1, ho2, ho3, hb⟩; refine ⟨_, rfl, ?_⟩; have HO521 := kl_ ho0; have HO524 := kl_ ho1; have HO527 := kl_ ho2; have HO530 := kl_ ho3; replace BK516 := bkb_ BK516 hb; replace HB := bst_ hb; clear hb ho0 ho1 ho2 ho3; obtain ⟨Ao18, co18, eo18⟩ := Kd.R_slice HO521.out; subst eo18; obtain ⟨Ao19, co19, eo19⟩ := Kd.R_slice HO524.out; subst eo19; obtain ⟨Ao20, co20, eo20⟩ := Kd.R_slice HO527.out; subst eo20; obtain ⟨Ao21, co21, eo21⟩ := Kd.R_slice HO530.out; subst eo21) | ((with_reducible refine gc_ 13 rfl ?_); refine ck_ Tryz.func13 (spec_StartAgain.calls _ _ _ _ _ _ _ _ _ _ _ _ _ _ _ _ _ _ _ _ _ _ _ _ _ _ ?side1 ?side2 ?side3 ?side4 ?side5 ?side6 ?side7 ?side8 A9.out) ?_; (case side1 => repeat (first | exact (Kd.R_reads' HO521.out).2.2 | (with_reducible refine Kd.C_alloc ?_ _) | (with_reducible refine Kd.C_drewN ?_ _) | (with_reducible refine Kd.C_drew ?_))); (case side2 => exact (Kd.R_reads' HO521.out).2.1); (case side3 => repeat (first | exact (Kd.R_reads' HO524.out).2.2 | (with_reducible refine Kd.C_alloc ?_ _) | (with_reducible refine Kd.C_drewN ?_ _) | (with_reducible refine Kd.C_drew ?_))); (case side4 => exact (Kd.R_reads' HO524.out).2.1); (case side5 => repeat (first | exact (Kd.R_reads' HO527.out).2.2 | (with_reducible refine Kd.C_alloc ?_ _) | (with_reducible refine Kd.C_drewN ?_ _) | (with_reducible refine Kd.C_drew ?_))); (case side6 => exact (Kd.R_reads' HO527.out).2.1); (case side7 => repeat (first | exact (Kd.R_reads' HO530.out).2.2 | (with_reducible refine Kd.C_alloc ?_ _) | (with_reducible refine Kd.C_drewN ?_ _) | (with_reducible refine Kd.C_drew ?_))); (case side8 => exact (Kd.R_reads' HO530.out).2.1); rintro e w22 ⟨v535, v538, v541, v544, rfl, ho0, ho1, ho2, ho3, hb⟩; refine ⟨_, rfl, ?_⟩; have HO536 := kl_ (kn_ ho0 HO521); replace HO521 := ke_' HO521 ho0 hb; have HO539 := kl_ (kn_ ho1 HO524); replace HO524 := ke_' HO524 ho1 hb; have HO542 := kl_ (kn_ ho2 HO527); replace HO527 := ke_' HO527 ho2 hb; have HO545 := kl_ (kn_ ho3 HO530); replace HO530 := ke_' HO530 ho3 hb; replace BK516 := bkb_ BK516 hb; replace HB := bst_ hb; clear hb ho0 ho1 ho2 ho3) | ((with_reducible refine gd_ 6 rfl ?_); refine be_ 6 #[.int .i64 0, .slice none 0 0, .slice none 0 0, .slice none 0 0, .slice none 0 0, .string (⟨#[]⟩ : ByteArray), .string (⟨#[]⟩ : ByteArray)] 41 ?_; intro gb549 hg w23 hbox hb; replace HO521 := kr_ HO521 hb; replace HO524 := kr_ HO524 hb; replace HO527 := kr_ HO527 hb; replace HO530 := kr_ HO530 hb; replace HO536 := kr_ HO536 hb; replace HO539 := kr_ HO539 hb; replace HO542 := kr_ HO542 hb; replace HO545 := kr_ HO545 hb; have BK549 := Aside0.mk (hbox); have GW549 := bsz_ hg; have GE549 := bsz_ hg; replace HB := bst_ hb; have NB516_549 := nbl_ BK516 hg; have NB549_516 := nbr_ BK516 hg; replace BK516 := bkb_ BK516 hb; clear hb hbox hg; have hnb24 := NB549_516.out; have hnc24 := NB516_549.out; have hcz25_0 := c7_ BK549; obtain ⟨Ao26, co26, eo26⟩ := Kd.R_slice HO536.out; subst eo26; obtain ⟨Ao27, co27, eo27⟩ := Kd.R_slice HO539.out; subst eo27; obtain ⟨Ao28, co28, eo28⟩ := Kd.R_slice HO542.out; subst eo28; obtain ⟨Ao29, co29, eo29⟩ := Kd.R_slice HO545.out; subst eo29; have hcz30_0 := c7_ BK516) | ((with_reducible refine gc_ 8 rfl ?_); (with_reducible refine gd_ 29 rfl ?_); refine ck_ Tryz.func8 (laws_toDesk.calls _ _ _ _ _ _ _ _ _ _ _ _ _ _ _ _ _ _ _ _ _ _ _ _ (Kd.C_below HR0_1.out bwl_) HC0_1.out (Kd.C_below HR0_2.out bwl_) HC0_2.out (Kd.C_below HR0_3.out bwl_) HC0_3.out (Kd.C_below HR0_4.out bwl_) HC0_4.out A10.out) ?_; rintro e w31 ⟨v552, v555, v558, v561, rfl, ho0, ho1, ho2, ho3, hb⟩; refine ⟨_, rfl, ?_⟩; have HO553 := kl_ (kn_ (kn_ ho0 HO521) HO536); replace HO521 := ke_' HO521 ho0 hb; replace HO536 := ke_' HO536 ho0 hb; have HO556 := kl_ (kn_ (kn_ ho1 HO524) HO539); replace HO524 := ke_' HO524 ho1 hb; replace HO539 := ke_' HO539 ho1 hb; have HO559 := kl_ (kn_ (kn_ ho2 HO527) HO542); replace HO527 := ke_' HO527 ho2 hb; replace HO542 := ke_' HO542 ho2 hb; have HO562 := kl_ (kn_ (kn_ ho3 HO530) HO545); replace HO530 := ke_' HO530 ho3 hb; replace HO545 := ke_' HO545 ho3 hb; replace BK516 := bkb_ BK516 hb; replace BK549 := kb7_ BK549 hb; replace HB := bst_ hb; clear hb ho0 ho1 ho2 ho3) | ((with_reducible refine gd_ 8 rfl ?_); refine be_ 8 #[.int .i64 0, .slice none 0 0, .slice none 0 0, .slice none 0 0, .slice none 0 0, .string (⟨#[]⟩ : ByteArray), .string (⟨#[]⟩ : ByteArray)] 41 ?_; intro gb565 hg w32 hbox hb; replace HO521 := kr_ HO521 hb; replace HO524 := kr_ HO524 hb; replace HO527 := kr_ HO527 hb; replace HO530 := kr_ HO530 hb; replace HO536 := kr_ HO536 hb; replace HO539 := kr_ HO539 hb; replace HO542 := kr_ HO542 hb; replace HO545 := kr_ HO545 hb; replace HO553 := kr_ HO553 hb; replace HO556 := kr_ HO556 hb; replace HO559 := kr_ HO559 hb; replace HO562 := kr_ HO562 hb; have BK565 := Aside0.mk (hbox); have GW565 := bsz_ hg; have GE565 := bsz_ hg; replace HB := bst_ hb; have NB516_565 := nbl_ BK516 hg; have NB565_516 := nbr_ BK516 hg; replace BK516 := bkb_ BK516 hb; have NB549_565 := nbl_ BK549 hg; have NB565_549 := nbr_ BK549 hg; replace BK549 := bkb_ BK549 hb; clear hb hbox hg; have hnb33 := NB565_516.out; have hnc33 := NB516_565.out; have hnb34 := NB565_549.out; have hnc34 := NB549_565.out; have hcz35_0 := c7_ BK565; obtain ⟨Ao36, co36, eo36⟩ := Kd.R_slice HO553.out; subst eo36; obtain ⟨Ao37, co37, eo37⟩ := Kd.R_slice HO556.out; subst eo37; obtain ⟨Ao38, co38, eo38⟩ := Kd.R_slice HO559.out; subst eo38; obtain ⟨Ao39, co39, eo39⟩ := Kd.R_slice HO562.out; subst eo39) | ((with_reducible refine gc_ 14 rfl ?_); refine ck_ Tryz.func14 (impl_StartAgain.calls _ _ _ _ _ _ _ _ _ _ _ _ _ _ _ _ _ _ _ _ _ _ _ _ _ _ ?side1 ?side2 ?side3 ?side4 ?side5 ?side6 ?side7 ?side8 A11.out ?side9) ?_; (case side1 => refine (Kd.R_reads' (e := 97) (base := w.heap.size) (ok := fun k_ => ((True ∧ some k_ ≠ (.slice Ao18 t519.length co18 : Value).ownBlock) ∧ some k_ ≠ (.slice Ao26 t534.length co26 : Value).ownBlock)) (n := t551.length) (c := co36) ?_).2.2; exact (ks_ HO553)); (case side2 => exact (Kd.R_reads' HO553.out).2.1); (case side3 => refine (Kd.R_reads' (e := 9) (base := w.heap.size) (ok := fun k_ => ((True ∧ some k_ ≠ (.slice Ao19 t522.length co19 : Value).ownBlock) ∧ some k_ ≠ (.slice Ao27 t537.length co27 : Value).ownBlock)) (n := t554.length) (c := co37) ?_).2.2; exact (ks_ HO556)); (case side4 => exact (Kd.R_reads' HO556.out).2.1); (case side5 => refine (Kd.R_reads' (e := 101) (base := w.heap.size) (ok := fun k_ => ((True ∧ some k_ ≠ (.slice Ao20 t525.length co20 : Value).ownBlock) ∧ some k_ ≠ (.slice Ao28 t540.length co28 : Value).ownBlock)) (n := t557.length) (c := co38) ?_).2.2; exact (ks_ HO559)); (case side6 => exact (Kd.R_reads' HO559.out).2.1); (case side7 => refine (Kd.R_reads' (e := 69) (base := w.heap.size) (ok := fun k_ => ((True ∧ some k_ ≠ (.slice Ao21 t528.length co21 : Value).ownBlock) ∧ some k_ ≠ (.slice Ao29 t543.length co29 : Value).ownBlock)) (n := t560.length) (c := co39) ?_).2.2; exact (ks_ HO562)); (case side8 => exact (Kd.R_reads' HO562.out).2.1); (case side9 => exact HTB.out.below bwl_); rintro e w40 ⟨v568, v571, v574, v577, rfl, ho0, ho1, ho2, ho3, hb⟩; refine ⟨_, rfl, ?_⟩; have HO569 := kl_ (kn_ (kn_ (kn_ ho0 HO521) HO536) HO553); replace HO521 := ke_' HO521 ho0 hb; replace HO536 := ke_' HO536 ho0 hb; replace HO553 := ke_' HO553 ho0 hb; have HO572 := kl_ (kn_ (kn_ (kn_ ho1 HO524) HO539) HO556); replace HO524 := ke_' HO524 ho1 hb; replace HO539 := ke_' HO539 ho1 hb; replace HO556 := ke_' HO556 ho1 hb; have HO575 := kl_ (kn_ (kn_ (kn_ ho2 HO527) HO542) HO559); replace HO527 := ke_' HO527 ho2 hb; replace HO542 := ke_' HO542 ho2 hb; replace HO559 := ke_' HO559 ho2 hb; have HO578 := kl_ (kn_ (kn_ (kn_ ho3 HO530) HO545) HO562); replace HO530 := ke_' HO530 ho3 hb; replace HO545 := ke_' HO545 ho3 hb; replace HO562 := ke_' HO562 ho3 hb; replace BK516 := bkb_ BK516 hb; replace BK549 := bkb_ BK549 hb; replace BK565 := kb7_ BK565 hb; replace HB := bst_ hb; clear hb ho0 ho1 ho2 ho3) | ((with_reducible refine gd_ 9 rfl ?_); refine be_ 9 #[.int .i64 0, .slice none 0 0, .slice none 0 0, .slice none 0 0, .slice none 0 0, .string (⟨#[]⟩ : ByteArray), .string (⟨#[]⟩ : ByteArray)] 41 ?_; intro gb582 hg w41 hbox hb; replace HO521 := kr_ HO521 hb; replace HO524 := kr_ HO524 hb; replace HO527 := kr_ HO527 hb; replace HO530 := kr_ HO530 hb; replace HO536 := kr_ HO536 hb; replace HO539 := kr_ HO539 hb; replace HO542 := kr_ HO542 hb; replace HO545 := kr_ HO545 hb; replace HO553 := kr_ HO553 hb; replace HO556 := kr_ HO556 hb; replace HO559 := kr_ HO559 hb; replace HO562 := kr_ HO562 hb; replace HO569 := kr_ HO569 hb; replace HO572 := kr_ HO572 hb; replace HO575 := kr_ HO575 hb; replace HO578 := kr_ HO578 hb; have BK582 := Aside0.mk (hbox); have GW582 := bsz_ hg; have GE582 := bsz_ hg; replace HB := bst_ hb; have NB516_582 := nbl_ BK516 hg; have NB582_516 := nbr_ BK516 hg; replace BK516 := bkb_ BK516 hb; have NB549_582 := nbl_ BK549 hg; have NB582_549 := nbr_ BK549 hg; replace BK549 := bkb_ BK549 hb; have NB565_582 := nbl_ BK565 hg; have NB582_565 := nbr_ BK565 hg; replace BK565 := bkb_ BK565 hb; clear hb hbox hg; have hnb42 := NB582_516.out; have hnc42 := NB516_582.out; have hnb43 := NB582_549.out; have hnc43 := NB549_582.out; have hnb44 := NB582_565.out; have hnc44 := NB565_582.out; have hcz45_0 := c7_ BK582; obtain ⟨Ao46, co46, eo46⟩ := Kd.R_slice HO569.out; subst eo46; obtain ⟨Ao47, co47, eo47⟩ := Kd.R_slice HO572.out; subst eo47; obtain ⟨Ao48, co48, eo48⟩ := Kd.R_slice HO575.out; subst eo48; obtain ⟨Ao49, co49, eo49⟩ := Kd.R_slice HO578.out; subst eo49))
  (try simp only [Act.put, List.setIfInBounds_toArray, List.set_cons_zero, List.set_cons_succ])
  go_cut [44] (fun v44 wc => ∃ (kq : Nat) (x44_11 : Bool), v44 = .bool x44_11 ∧ Aside0 (laws_FnExactStartAgain.j0 kq a1 t548 t581 x44_11 a0_0 l0_1 l0_2 l0_3 l0_4 a0_5 a0_6 t533 t534 t537 t540 t543 t546 t547 t550 t551 t554 t557 t560 t563 t564 t566 t567 t570 t573 t576 t579 t580 = some r) ∧ Aside0 (kq ≤ k) ∧ Aside0 (Kd.R k97 97 wc w.heap.size (fun k_ => some k_ ≠ ((.slice Ao36 t551.length co36) : Value).ownBlock ∧ some k_ ≠ ((.slice Ao46 t567.length co46) : Value).ownBlock) (.slice Ao26 t534.length co26) t534) ∧ Aside0 (Kd.R Kd.string 9 wc w.heap.size (fun k_ => some k_ ≠ ((.slice Ao37 t554.length co37) : Value).ownBlock ∧ some k_ ≠ ((.slice Ao47 t570.length co47) : Value).ownBlock) (.slice Ao27 t537.length co27) t537) ∧ Aside0 (Kd.R k101 101 wc w.heap.size (fun k_ => some k_ ≠ ((.slice Ao38 t557.length co38) : Value).ownBlock ∧ some k_ ≠ ((.slice Ao48 t573.length co48) : Value).ownBlock) (.slice Ao28 t540.length co28) t540) ∧ Aside0 (Kd.R k69 69 wc w.heap.size (fun k_ => some k_ ≠ ((.slice Ao39 t560.length co39) : Value).ownBlock ∧ some k_ ≠ ((.slice Ao49 t576.length co49) : Value).ownBlock) (.slice Ao29 t543.length co29) t543) ∧ Aside0 (Kd.R k97 97 wc w.heap.size (fun k_ => some k_ ≠ ((.slice Ao26 t534.length co26) : Value).ownBlock ∧ some k_ ≠ ((.slice Ao46 t567.length co46) : Value).ownBlock) (.slice Ao36 t551.length co36) t551) ∧ Aside0 (Kd.R Kd.string 9 wc w.heap.size (fun k_ => some k_ ≠ ((.slice Ao27 t537.length co27) : Value).ownBlock ∧ some k_ ≠ ((.slice Ao47 t570.length co47) : Value).ownBlock) (.slice Ao37 t554.length co37) t554) ∧ Aside0 (Kd.R k101 101 wc w.heap.size (fun k_ => some k_ ≠ ((.slice Ao28 t540.length co28) : Value).ownBlock ∧ some k_ ≠ ((.slice Ao48 t573.length co48) : Value).ownBlock) (.slice Ao38 t557.length co38) t557) ∧ Aside0 (Kd.R k69 69 wc w.heap.size (fun k_ => some k_ ≠ ((.slice Ao29 t543.length co29) : Value).ownBlock ∧ some k_ ≠ ((.slice Ao49 t576.length co49) : Value).ownBlock) (.slice Ao39 t560.length co39) t560) ∧ Aside0 (Kd.R k97 97 wc w.heap.size (fun k_ => some k_ ≠ ((.slice Ao26 t534.length co26) : Value).ownBlock ∧ some k_ ≠ ((.slice Ao36 t551.length co36) : Value).ownBlock) (.slice Ao46 t567.length co46) t567) ∧ Aside0 (Kd.R Kd.string 9 wc w.heap.size (fun k_ => some k_ ≠ ((.slice Ao27 t537.length co27) : Value).ownBlock ∧ some k_ ≠ ((.slice Ao37 t554.length co37) : Value).ownBlock) (.slice Ao47 t570.length co47) t570) ∧ Aside0 (Kd.R k101 101 wc w.heap.size (fun k_ => some k_ ≠ ((.slice Ao28 t540.length co28) : Value).ownBlock ∧ some k_ ≠ ((.slice Ao38 t557.length co38) : Value).ownBlock) (.slice Ao48 t573.length co48) t573) ∧ Aside0 (Kd.R k69 69 wc w.heap.size (fun k_ => some k_ ≠ ((.slice Ao29 t543.length co29) : Value).ownBlock ∧ some k_ ≠ ((.slice Ao39 t560.length co39) : Value).ownBlock) (.slice Ao49 t576.length co49) t576) ∧ Aside0 (wc.heap[gb516]? = some (.cells #[.int .i64 a0_0, (.slice A0_1 l0_1.length c0_1), (.slice A0_2 l0_2.length c0_2), (.slice A0_3 l0_3.length c0_3), (.slice A0_4 l0_4.length c0_4), .string a0_5, .string a0_6] 31 (0, 0))) ∧ Aside0 (wc.heap[gb549]? = some (.cells #[.int .i64 t533, (.slice Ao26 t534.length co26), (.slice Ao27 t537.length co27), (.slice Ao28 t540.length co28), (.slice Ao29 t543.length co29), .string t546, .string t547] 41 (0, 0))) ∧ Aside0 (wc.heap[gb565]? = some (.cells #[.int .i64 t550, (.slice Ao36 t551.length co36), (.slice Ao37 t554.length co37), (.slice Ao38 t557.length co38), (.slice Ao39 t560.length co39), .string t563, .string t564] 41 (0, 0))) ∧ Aside0 (wc.heap[gb582]? = some (.cells #[.int .i64 t566, (.slice Ao46 t567.length co46), (.slice Ao47 t570.length co47), (.slice Ao48 t573.length co48), (.slice Ao49 t576.length co49), .string t579, .string t580] 41 (0, 0))) ∧ Aside0 (Below w.heap.size w wc))
  case first =>
   have H := HC12.out
   clear HC12
   revert H
   refine bn_ ?_
   intro t583 A50 H
   by_cases c51 : t583 = true
   ·subst c51
    rw [if_pos rfl] at H
    have H' := Aside0.mk H
    clear H
    have hnb52 := NB582_516.out
    have hnc52 := NB516_582.out
    have hnb53 := NB582_549.out
    have hnc53 := NB549_582.out
    have hnb54 := NB582_565.out
    have hnc54 := NB565_582.out
    have hcz55_0 := c7_ BK582
    have hnb56 := NB549_516.out
    have hnc56 := NB516_549.out
    have hnb57 := NB549_565.out
    have hnc57 := NB565_549.out
    have hcz58_0 := c7_ BK549
    go_wp2_with (first | ((with_reducible refine gc_ 10 rfl ?_); refine ck_ Tryz.func10 (laws_eqDesk.calls _ _ _ _ _ _ _ _ _ _ _ _ _ _ _ _ _ _ _ _ _ _ _ _ _ _ _ _ _ _ _ _ _ ?side1 ?side2 ?side3 ?side4 ?side5 ?side6 ?side7 ?side8 ?side9 ?side10 ?side11 ?side12 ?side13 ?side14 ?side15 ?side16 A50.out) ?_; (case side1 => refine (Kd.R_reads' (e := 97) (base := w.heap.size) (ok := fun k_ => (((True ∧ some k_ ≠ (.slice Ao18 t519.length co18 : Value).ownBlock) ∧ some k_ ≠ (.slice Ao26 t534.length co26 : Value).ownBlock) ∧ some k_ ≠ (.slice Ao36 t551.length co36 : Value).ownBlock)) (n := t567.length) (c := co46) ?_).2.2; exact (ks_ HO569)); (case side2 => exact (Kd.R_reads' HO569.out).2.1); (case side3 => refine (Kd.R_reads' (e := 9) (base := w.heap.size) (ok := fun k_ => (((True ∧ some k_ ≠ (.slice Ao19 t522.length co19 : Value).ownBlock) ∧ some k_ ≠ (.slice Ao27 t537.length co27 : Value).ownBlock) ∧ some k_ ≠ (.slice Ao37 t554.length co37 : Value).ownBlock)) (n := t570.length) (c := co47) ?_).2.2; exact (ks_ HO572)); (case side4 => exact (Kd.R_reads' HO572.out).2.1); (case side5 => refine (Kd.R_reads' (e := 101) (base := w.heap.size) (ok := fun k_ => (((True ∧ some k_ ≠ (.slice Ao20 t525.length co20 : Value).ownBlock) ∧ some k_ ≠ (.slice Ao28 t540.length co28 : Value).ownBlock) ∧ some k_ ≠ (.slice Ao38 t557.length co38 : Value).ownBlock)) (n := t573.length) (c := co48) ?_).2.2; exact (ks_ HO575)); (case side6 => exact (Kd.R_reads' HO575.out).2.1); (case side7 => refine (Kd.R_reads' (e := 69) (base := w.heap.size) (ok := fun k_ => (((True ∧ some k_ ≠ (.slice Ao21 t528.length co21 : Value).ownBlock) ∧ some k_ ≠ (.slice Ao29 t543.length co29 : Value).ownBlock) ∧ some k_ ≠ (.slice Ao39 t560.length co39 : Value).ownBlock)) (n := t576.length) (c := co49) ?_).2.2; exact (ks_ HO578)); (case side8 => exact (Kd.R_reads' HO578.out).2.1); (case side9 => refine (Kd.R_reads' (e := 97) (base := w.heap.size) (ok := fun k_ => (((True ∧ some k_ ≠ (.slice Ao18 t519.length co18 : Value).ownBlock) ∧ some k_ ≠ (.slice Ao36 t551.length co36 : Value).ownBlock) ∧ some k_ ≠ (.slice Ao46 t567.length co46 : Value).ownBlock)) (n := t534.length) (c := co26) ?_).2.2; exact (ks_ HO536)); (case side10 => exact (Kd.R_reads' HO536.out).2.1); (case side11 => refine (Kd.R_reads' (e := 9) (base := w.heap.size) (ok := fun k_ => (((True ∧ some k_ ≠ (.slice Ao19 t522.length co19 : Value).ownBlock) ∧ some k_ ≠ (.slice Ao37 t554.length co37 : Value).ownBlock) ∧ some k_ ≠ (.slice Ao47 t570.length co47 : Value).ownBlock)) (n := t537.length) (c := co27) ?_).2.2; exact (ks_ HO539)); (case side12 => exact (Kd.R_reads' HO539.out).2.1); (case side13 => refine (Kd.R_reads' (e := 101) (base := w.heap.size) (ok := fun k_ => (((True ∧ some k_ ≠ (.slice Ao20 t525.length co20 : Value).ownBlock) ∧ some k_ ≠ (.slice Ao38 t557.length co38 : Value).ownBlock) ∧ some k_ ≠ (.slice Ao48 t573.length co48 : Value).ownBlock)) (n := t540.length) (c := co28) ?_).2.2; exact (ks_ HO542)); (case side14 => exact (Kd.R_reads' HO542.out).2.1); (case side15 => refine (Kd.R_reads' (e := 69) (base := w.heap.size) (ok := fun k_ => (((True ∧ some k_ ≠ (.slice Ao21 t528.length co21 : Value).ownBlock) ∧ some k_ ≠ (.slice Ao39 t560.length co39 : Value).ownBlock) ∧ some k_ ≠ (.slice Ao49 t576.length co49 : Value).ownBlock)) (n := t543.length) (c := co29) ?_).2.2; exact (ks_ HO545)); (case side16 => exact (Kd.R_reads' HO545.out).2.1); rintro e w59 ⟨rfl, hb⟩; refine ⟨_, rfl, ?_⟩; replace HO521 := krs_ HO521 hb; replace HO524 := krs_ HO524 hb; replace HO527 := krs_ HO527 hb; replace HO530 := krs_ HO530 hb; replace HO536 := krs_ HO536 hb; replace HO539 := krs_ HO539 hb; replace HO542 := krs_ HO542 hb; replace HO545 := krs_ HO545 hb; replace HO553 := krs_ HO553 hb; replace HO556 := krs_ HO556 hb; replace HO559 := krs_ HO559 hb; replace HO562 := krs_ HO562 hb; replace HO569 := krs_ HO569 hb; replace HO572 := krs_ HO572 hb; replace HO575 := krs_ HO575 hb; replace HO578 := krs_ HO578 hb; replace BK516 := bkb_ BK516 hb; replace BK549 := bkb_ BK549 hb; replace BK565 := bkb_ BK565 hb; replace BK582 := kb7_ BK582 hb; replace HB := bst_ hb; clear hb))
    go_meet
    case rel => exact ⟨_, ((t581 != t548)), re_, H', ⟨by first | omega | exact Nat.le_refl _⟩, ⟨by (with_reducible repeat (first | apply Kd.R_alloc | apply Kd.R_drewN | apply Kd.R_drew)); exact Kd.R_mono HO536.out (fun _ hk => ⟨hk.1.2, hk.2⟩)⟩, ⟨by (with_reducible repeat (first | apply Kd.R_alloc | apply Kd.R_drewN | apply Kd.R_drew)); exact Kd.R_mono HO539.out (fun _ hk => ⟨hk.1.2, hk.2⟩)⟩, ⟨by (with_reducible repeat (first | apply Kd.R_alloc | apply Kd.R_drewN | apply Kd.R_drew)); exact Kd.R_mono HO542.out (fun _ hk => ⟨hk.1.2, hk.2⟩)⟩, ⟨by (with_reducible repeat (first | apply Kd.R_alloc | apply Kd.R_drewN | apply Kd.R_drew)); exact Kd.R_mono HO545.out (fun _ hk => ⟨hk.1.2, hk.2⟩)⟩, ⟨by (with_reducible repeat (first | apply Kd.R_alloc | apply Kd.R_drewN | apply Kd.R_drew)); exact Kd.R_mono HO553.out (fun _ hk => ⟨hk.1.2, hk.2⟩)⟩, ⟨by (with_reducible repeat (first | apply Kd.R_alloc | apply Kd.R_drewN | apply Kd.R_drew)); exact Kd.R_mono HO556.out (fun _ hk => ⟨hk.1.2, hk.2⟩)⟩, ⟨by (with_reducible repeat (first | apply Kd.R_alloc | apply Kd.R_drewN | apply Kd.R_drew)); exact Kd.R_mono HO559.out (fun _ hk => ⟨hk.1.2, hk.2⟩)⟩, ⟨by (with_reducible repeat (first | apply Kd.R_alloc | apply Kd.R_drewN | apply Kd.R_drew)); exact Kd.R_mono HO562.out (fun _ hk => ⟨hk.1.2, hk.2⟩)⟩, ⟨by (with_reducible repeat (first | apply Kd.R_alloc | apply Kd.R_drewN | apply Kd.R_drew)); exact Kd.R_mono HO569.out (fun _ hk => ⟨hk.1.2, hk.2⟩)⟩, ⟨by (with_reducible repeat (first | apply Kd.R_alloc | apply Kd.R_drewN | apply Kd.R_drew)); exact Kd.R_mono HO572.out (fun _ hk => ⟨hk.1.2, hk.2⟩)⟩, ⟨by (with_reducible repeat (first | apply Kd.R_alloc | apply Kd.R_drewN | apply Kd.R_drew)); exact Kd.R_mono HO575.out (fun _ hk => ⟨hk.1.2, hk.2⟩)⟩, ⟨by (with_reducible repeat (first | apply Kd.R_alloc | apply Kd.R_drewN | apply Kd.R_drew)); exact Kd.R_mono HO578.out (fun _ hk => ⟨hk.1.2, hk.2⟩)⟩, ⟨by exact kb_ BK516⟩, ⟨by exact kb_ BK549⟩, ⟨by exact kb_ BK565⟩, ⟨by exact kb_ BK582⟩, ⟨bwl_⟩⟩
   ·rw [if_neg c51] at H
    exact absurd H (by simp)
  case rest =>
   clear HC12
   (try clear c4b0);(try clear hcz14_0);(try clear hcz16_0);(try clear hcz25_0);(try clear hcz30_0);(try clear hcz35_0);(try clear hcz45_0)
   obtain ⟨kq, x44_11, rfl, HA, HJ11, HO_550001, HO_550002, HO_550003, HO_550004, HO_566001, HO_566002, HO_566003, HO_566004, HO_583001, HO_583002, HO_583003, HO_583004, BK516, BK549, BK565, BK582, HB⟩ := hcut
   cases kq with
   | zero => exact absurd HA.out (by simp [laws_FnExactStartAgain.j0])
   | succ kj11 =>
    have H := HA.out
    clear HA
    simp only [laws_FnExactStartAgain.j0] at H
    by_cases c68 : x44_11 = true
    ·rw [if_pos c68] at H
     exact absurd H (by simp)
    ·replace c68 := Bool.eq_false_iff.mpr c68
     subst c68
     rw [if_neg (show ¬ (false = true) by decide)] at H
     revert H
     refine bn_ ?_
     rintro ⟨t584, t585, t588, t591, t594, t597, t598⟩ A69 H
     revert H
     refine bn_ ?_
     intro t599 A70 H
     by_cases c71 : t599 = true
     ·subst c71
      rw [if_pos rfl] at H
      revert H
      refine bn_ ?_
      rintro ⟨t600, t601, t602, t603, t604⟩ A72 H
      have HC73 := Aside0.mk H
      clear H
      try go_wp2
      replace HO_550001 := Aside0.mk (Kd.R_drew HO_550001.out)
      replace HO_550002 := Aside0.mk (Kd.R_drew HO_550002.out)
      replace HO_550003 := Aside0.mk (Kd.R_drew HO_550003.out)
      replace HO_550004 := Aside0.mk (Kd.R_drew HO_550004.out)
      replace HO_566001 := Aside0.mk (Kd.R_drew HO_566001.out)
      replace HO_566002 := Aside0.mk (Kd.R_drew HO_566002.out)
      replace HO_566003 := Aside0.mk (Kd.R_drew HO_566003.out)
      replace HO_566004 := Aside0.mk (Kd.R_drew HO_566004.out)
      replace HO_583001 := Aside0.mk (Kd.R_drew HO_583001.out)
      replace HO_583002 := Aside0.mk (Kd.R_drew HO_583002.out)
      replace HO_583003 := Aside0.mk (Kd.R_drew HO_583003.out)
      replace HO_583004 := Aside0.mk (Kd.R_drew HO_583004.out)
      replace BK516 := Aside0.mk (blk_drew BK516.out)
      replace BK549 := Aside0.mk (blk_drew BK549.out)
      replace BK565 := Aside0.mk (blk_drew BK565.out)
      replace BK582 := Aside0.mk (blk_drew BK582.out)
      replace HB := Aside0.mk (below_drew1 HB.out)
      refine start_ (n := 5) (S := fun w' => w'.cell? ⟨gb565, 0, none⟩ = some (.int .i64 t550) ∧ w'.cell? ⟨gb565, 1, none⟩ = some (.slice Ao36 t551.length co36) ∧ w'.cell? ⟨gb565, 2, none⟩ = some (.slice Ao37 t554.length co37) ∧ w'.cell? ⟨gb565, 3, none⟩ = some (.slice Ao38 t557.length co38) ∧ w'.cell? ⟨gb565, 4, none⟩ = some (.slice Ao39 t560.length co39) ∧ w'.cell? ⟨gb565, 5, none⟩ = some (.string t563) ∧ w'.cell? ⟨gb565, 6, none⟩ = some (.string t564) ∧ w'.cell? ⟨gb516, 0, none⟩ = some (.int .i64 a0_0) ∧ w'.cell? ⟨gb516, 1, none⟩ = some (.slice A0_1 l0_1.length c0_1) ∧ w'.cell? ⟨gb516, 2, none⟩ = some (.slice A0_2 l0_2.length c0_2) ∧ w'.cell? ⟨gb516, 3, none⟩ = some (.slice A0_3 l0_3.length c0_3) ∧ w'.cell? ⟨gb516, 4, none⟩ = some (.slice A0_4 l0_4.length c0_4) ∧ w'.cell? ⟨gb516, 5, none⟩ = some (.string a0_5) ∧ w'.cell? ⟨gb516, 6, none⟩ = some (.string a0_6)) (ds := []) #[false, false, false, false, false] (by kernel_rfl) rfl rfl ⟨(blk_cell BK565.out 0).trans rfl, (blk_cell BK565.out 1).trans rfl, (blk_cell BK565.out 2).trans rfl, (blk_cell BK565.out 3).trans rfl, (blk_cell BK565.out 4).trans rfl, (blk_cell BK565.out 5).trans rfl, (blk_cell BK565.out 6).trans rfl, (blk_cell BK516.out 0).trans rfl, (blk_cell BK516.out 1).trans rfl, (blk_cell BK516.out 2).trans rfl, (blk_cell BK516.out 3).trans rfl, (blk_cell BK516.out 4).trans rfl, (blk_cell BK516.out 5).trans rfl, (blk_cell BK516.out 6).trans rfl⟩ (fun hHeld => ?_)
      generalize wc.drew = w74 at HO_550001 HO_550002 HO_550003 HO_550004 HO_566001 HO_566002 HO_566003 HO_566004 HO_583001 HO_583002 HO_583003 HO_583004 BK516 BK549 BK565 BK582 HB hHeld ⊢
      refine take_ (i := 0) (N := some 45) (v := ?_) (a' := ?_) #[true, false, false, false, false] rfl rfl (by kernel_rfl) (fun _ _ _ h => h) (Or.inl ⟨by rfl, ?_⟩) hHeld ?_ ?_
      rotate_left
      ·rintro w' ⟨s0, s1, s2, s3, s4, s5, s6, s7, s8, s9, s10, s11, s12, s13⟩
       go_simp
       with_reducible rfl
      rotate_left
      ·simp only [Act.put, List.setIfInBounds_toArray, List.set_cons_zero, List.set_cons_succ, i64_w, i32_w]
       rfl
      refine take_ (i := 1) (N := some 46) (v := ?_) (a' := ?_) #[true, true, false, false, false] rfl rfl (by kernel_rfl) (fun _ _ _ h => h) (Or.inl ⟨by rfl, ?_⟩) hHeld ?_ ?_
      rotate_left
      ·rintro w' ⟨s0, s1, s2, s3, s4, s5, s6, s7, s8, s9, s10, s11, s12, s13⟩
       go_simp
       with_reducible rfl
      rotate_left
      ·simp only [Act.put, List.setIfInBounds_toArray, List.set_cons_zero, List.set_cons_succ, i64_w, i32_w]
       rfl
      refine one_ (i := 2) (N := some 47) #[true, true, true, false, false] rfl rfl (by kernel_rfl) (by decide) (fun K hK => ?_)
      refine goes_ Tryz.func8 (by kernel_rfl) rfl #[.agg #[.int .i64 a0_0, .slice A0_1 l0_1.length c0_1, .slice A0_2 l0_2.length c0_2, .slice A0_3 l0_3.length c0_3, .slice A0_4 l0_4.length c0_4, .string a0_5, .string a0_6]] (by rfl) rfl rfl (by (try simp only [List.map_toArray, List.map_cons, List.map_nil]); first | done | rfl | (simp only [List.length_drop, List.length_take]; rfl)) ?_
      with_reducible refine (laws_toDesk.calls kj11 a0_0 _ _ l0_1 _ _ l0_2 _ _ l0_3 _ _ l0_4 a0_5 a0_6 t584 t585 t588 t591 t594 t597 t598 _ ?side1 ?side2 ?side3 ?side4 ?side5 ?side6 ?side7 ?side8 A69.out).mono ?_
      (case side1 => repeat (first | exact (Kd.C_below HR0_1.out HB.out) | (with_reducible refine Kd.C_alloc ?_ _) | (with_reducible refine Kd.C_drewN ?_ _) | (with_reducible refine Kd.C_drew ?_)))
      (case side2 => exact HC0_1.out)
      (case side3 => repeat (first | exact (Kd.C_below HR0_2.out HB.out) | (with_reducible refine Kd.C_alloc ?_ _) | (with_reducible refine Kd.C_drewN ?_ _) | (with_reducible refine Kd.C_drew ?_)))
      (case side4 => exact HC0_2.out)
      (case side5 => repeat (first | exact (Kd.C_below HR0_3.out HB.out) | (with_reducible refine Kd.C_alloc ?_ _) | (with_reducible refine Kd.C_drewN ?_ _) | (with_reducible refine Kd.C_drew ?_)))
      (case side6 => exact HC0_3.out)
      (case side7 => repeat (first | exact (Kd.C_below HR0_4.out HB.out) | (with_reducible refine Kd.C_alloc ?_ _) | (with_reducible refine Kd.C_drewN ?_ _) | (with_reducible refine Kd.C_drew ?_)))
      (case side8 => exact HC0_4.out)
      rintro e w75 ⟨v586, v589, v592, v595, rfl, ho0, ho1, ho2, ho3, hb⟩
      refine ⟨_, rfl, ?_⟩
      have HO587 := kl_ (kn_ (kn_ (kn_ ho0 HO_550001) HO_566001) HO_583001)
      replace HO_550001 := ke_' HO_550001 ho0 hb
      replace HO_566001 := ke_' HO_566001 ho0 hb
      replace HO_583001 := ke_' HO_583001 ho0 hb
      have HO590 := kl_ (kn_ (kn_ (kn_ ho1 HO_550002) HO_566002) HO_583002)
      replace HO_550002 := ke_' HO_550002 ho1 hb
      replace HO_566002 := ke_' HO_566002 ho1 hb
      replace HO_583002 := ke_' HO_583002 ho1 hb
      have HO593 := kl_ (kn_ (kn_ (kn_ ho2 HO_550003) HO_566003) HO_583003)
      replace HO_550003 := ke_' HO_550003 ho2 hb
      replace HO_566003 := ke_' HO_566003 ho2 hb
      replace HO_583003 := ke_' HO_583003 ho2 hb
      have HO596 := kl_ (kn_ (kn_ (kn_ ho3 HO_550004) HO_566004) HO_583004)
      replace HO_550004 := ke_' HO_550004 ho3 hb
      replace HO_566004 := ke_' HO_566004 ho3 hb
      replace HO_583004 := ke_' HO_583004 ho3 hb
      replace BK516 := bkb_ BK516 hb
      replace BK549 := bkb_ BK549 hb
      replace BK565 := bkb_ BK565 hb
      replace BK582 := bkb_ BK582 hb
      replace HB := bst_ hb
      (try clear hb);(try clear hk);(try clear ho0);(try clear ho1);(try clear ho2);(try clear ho3)
      obtain ⟨Ao76, co76, eo76⟩ := Kd.R_slice HO587.out
      (first | subst eo76 | (injection eo76 with f1_ f2_ f3_; have f4_ := f1_.symm; have f5_ := f3_.symm; clear f1_ f2_ f3_; subst f4_; subst f5_))
      obtain ⟨Ao77, co77, eo77⟩ := Kd.R_slice HO590.out
      (first | subst eo77 | (injection eo77 with f1_ f2_ f3_; have f4_ := f1_.symm; have f5_ := f3_.symm; clear f1_ f2_ f3_; subst f4_; subst f5_))
      obtain ⟨Ao78, co78, eo78⟩ := Kd.R_slice HO593.out
      (first | subst eo78 | (injection eo78 with f1_ f2_ f3_; have f4_ := f1_.symm; have f5_ := f3_.symm; clear f1_ f2_ f3_; subst f4_; subst f5_))
      obtain ⟨Ao79, co79, eo79⟩ := Kd.R_slice HO596.out
      (first | subst eo79 | (injection eo79 with f1_ f2_ f3_; have f4_ := f1_.symm; have f5_ := f3_.symm; clear f1_ f2_ f3_; subst f4_; subst f5_))
      refine hK.out _ _ ⟨(blk_cell BK565.out 0).trans rfl, (blk_cell BK565.out 1).trans rfl, (blk_cell BK565.out 2).trans rfl, (blk_cell BK565.out 3).trans rfl, (blk_cell BK565.out 4).trans rfl, (blk_cell BK565.out 5).trans rfl, (blk_cell BK565.out 6).trans rfl, (blk_cell BK516.out 0).trans rfl, (blk_cell BK516.out 1).trans rfl, (blk_cell BK516.out 2).trans rfl, (blk_cell BK516.out 3).trans rfl, (blk_cell BK516.out 4).trans rfl, (blk_cell BK516.out 5).trans rfl, (blk_cell BK516.out 6).trans rfl⟩ (fun hHeld => ?_)
      clear hK K
      refine norm_ (a' := ?_) ?_ ?_
      rotate_left
      ·show Act.put _ (some 47) _ = _
       simp only [Act.put, List.setIfInBounds_toArray, List.set_cons_zero, List.set_cons_succ, i64_w, i32_w]
       rfl
      refine one_ (i := 3) (N := some 48) #[true, true, true, true, false] rfl rfl (by kernel_rfl) (by decide) (fun K hK => ?_)
      refine goes_ Tryz.func10 (by kernel_rfl) rfl #[.agg #[.int .i64 t550, .slice Ao36 t551.length co36, .slice Ao37 t554.length co37, .slice Ao38 t557.length co38, .slice Ao39 t560.length co39, .string t563, .string t564], .agg #[.int .i64 t584, .slice Ao76 t585.length co76, .slice Ao77 t588.length co77, .slice Ao78 t591.length co78, .slice Ao79 t594.length co79, .string t597, .string t598]] (by rfl) rfl rfl (by (try simp only [List.map_toArray, List.map_cons, List.map_nil]); first | done | rfl | (simp only [List.length_drop, List.length_take]; rfl)) ?_
      with_reducible refine (laws_eqDesk.calls kj11 t550 _ _ t551 _ _ t554 _ _ t557 _ _ t560 t563 t564 t584 _ _ t585 _ _ t588 _ _ t591 _ _ t594 t597 t598 true _ ?side1 ?side2 ?side3 ?side4 ?side5 ?side6 ?side7 ?side8 ?side9 ?side10 ?side11 ?side12 ?side13 ?side14 ?side15 ?side16 A70.out).mono ?_
      (case side1 => repeat (first | exact (Kd.R_reads' HO_566001.out).2.2 | (with_reducible refine Kd.C_alloc ?_ _) | (with_reducible refine Kd.C_drewN ?_ _) | (with_reducible refine Kd.C_drew ?_)))
      (case side2 => exact (Kd.R_reads' HO_566001.out).2.1)
      (case side3 => repeat (first | exact (Kd.R_reads' HO_566002.out).2.2 | (with_reducible refine Kd.C_alloc ?_ _) | (with_reducible refine Kd.C_drewN ?_ _) | (with_reducible refine Kd.C_drew ?_)))
      (case side4 => exact (Kd.R_reads' HO_566002.out).2.1)
      (case side5 => repeat (first | exact (Kd.R_reads' HO_566003.out).2.2 | (with_reducible refine Kd.C_alloc ?_ _) | (with_reducible refine Kd.C_drewN ?_ _) | (with_reducible refine Kd.C_drew ?_)))
      (case side6 => exact (Kd.R_reads' HO_566003.out).2.1)
      (case side7 => repeat (first | exact (Kd.R_reads' HO_566004.out).2.2 | (with_reducible refine Kd.C_alloc ?_ _) | (with_reducible refine Kd.C_drewN ?_ _) | (with_reducible refine Kd.C_drew ?_)))
      (case side8 => exact (Kd.R_reads' HO_566004.out).2.1)
      (case side9 => repeat (first | exact (Kd.R_reads' HO587.out).2.2 | (with_reducible refine Kd.C_alloc ?_ _) | (with_reducible refine Kd.C_drewN ?_ _) | (with_reducible refine Kd.C_drew ?_)))
      (case side10 => exact (Kd.R_reads' HO587.out).2.1)
      (case side11 => repeat (first | exact (Kd.R_reads' HO590.out).2.2 | (with_reducible refine Kd.C_alloc ?_ _) | (with_reducible refine Kd.C_drewN ?_ _) | (with_reducible refine Kd.C_drew ?_)))
      (case side12 => exact (Kd.R_reads' HO590.out).2.1)
      (case side13 => repeat (first | exact (Kd.R_reads' HO593.out).2.2 | (with_reducible refine Kd.C_alloc ?_ _) | (with_reducible refine Kd.C_drewN ?_ _) | (with_reducible refine Kd.C_drew ?_)))
      (case side14 => exact (Kd.R_reads' HO593.out).2.1)
      (case side15 => repeat (first | exact (Kd.R_reads' HO596.out).2.2 | (with_reducible refine Kd.C_alloc ?_ _) | (with_reducible refine Kd.C_drewN ?_ _) | (with_reducible refine Kd.C_drew ?_)))
      (case side16 => exact (Kd.R_reads' HO596.out).2.1)
      rintro e w80 ⟨rfl, hb⟩
      refine ⟨_, rfl, ?_⟩
      replace HO_550001 := kr_ HO_550001 hb
      replace HO_550002 := kr_ HO_550002 hb
      replace HO_550003 := kr_ HO_550003 hb
      replace HO_550004 := kr_ HO_550004 hb
      replace HO_566001 := kr_ HO_566001 hb
      replace HO_566002 := kr_ HO_566002 hb
      replace HO_566003 := kr_ HO_566003 hb
      replace HO_566004 := kr_ HO_566004 hb
      replace HO_583001 := kr_ HO_583001 hb
      replace HO_583002 := kr_ HO_583002 hb
      replace HO_583003 := kr_ HO_583003 hb
      replace HO_583004 := kr_ HO_583004 hb
      replace HO587 := kr_ HO587 hb
      replace HO590 := kr_ HO590 hb
      replace HO593 := kr_ HO593 hb
      replace HO596 := kr_ HO596 hb
      replace BK516 := bkb_ BK516 hb
      replace BK549 := bkb_ BK549 hb
      replace BK565 := bkb_ BK565 hb
      replace BK582 := bkb_ BK582 hb
      replace HB := bst_ hb
      (try clear hb);(try clear hk)
      refine hK.out _ _ ⟨(blk_cell BK565.out 0).trans rfl, (blk_cell BK565.out 1).trans rfl, (blk_cell BK565.out 2).trans rfl, (blk_cell BK565.out 3).trans rfl, (blk_cell BK565.out 4).trans rfl, (blk_cell BK565.out 5).trans rfl, (blk_cell BK565.out 6).trans rfl, (blk_cell BK516.out 0).trans rfl, (blk_cell BK516.out 1).trans rfl, (blk_cell BK516.out 2).trans rfl, (blk_cell BK516.out 3).trans rfl, (blk_cell BK516.out 4).trans rfl, (blk_cell BK516.out 5).trans rfl, (blk_cell BK516.out 6).trans rfl⟩ (fun hHeld => ?_)
      clear hK K
      refine norm_ (a' := ?_) ?_ ?_
      rotate_left
      ·show Act.put _ (some 48) _ = _
       simp only [Act.put, List.setIfInBounds_toArray, List.set_cons_zero, List.set_cons_succ, i64_w, i32_w]
       rfl
      refine pk_ 4 (some 49) #[true, true, true, true, true] ?_
      refine done_ (by kernel_rfl) ?_
      have hnb81 := NB565_516.out
      have hnc81 := NB516_565.out
      have hnb82 := NB565_549.out
      have hnc82 := NB549_565.out
      have hnb83 := NB565_582.out
      have hnc83 := NB582_565.out
      have hcz84_0 := c7_ BK565
      go_upto_region 14 with (first | ((with_reducible refine gc_ 15 rfl ?_); refine ck_ Tryz.func15 (laws_markDesk.calls _ _ (fun k_ => some k_ = (.slice Ao36 t551.length co36 : Value).ownBlock) _ _ (fun k_ => some k_ = (.slice Ao37 t554.length co37 : Value).ownBlock) _ _ (fun k_ => some k_ = (.slice Ao38 t557.length co38 : Value).ownBlock) _ _ (fun k_ => some k_ = (.slice Ao39 t560.length co39 : Value).ownBlock) _ _ _ _ _ _ _ _ _ _ _ _ bwl_ (Kd.R_tight rfl HO_566001.out) (Kd.R_tight rfl HO_566002.out) (Kd.R_tight rfl HO_566003.out) (Kd.R_tight rfl HO_566004.out) A72.out) ?_; rintro e w85 ⟨rfl, hy0, hy1, hy2, hy3, hb, hkp⟩; refine ⟨_, rfl, ?_⟩; replace HO_550001 := Aside0.mk (Kd.R_mono (ok' := fun k_ => some k_ ≠ (.slice Ao36 t551.length co36 : Value).ownBlock ∧ some k_ ≠ (.slice Ao46 t567.length co46 : Value).ownBlock ∧ some k_ ≠ (.slice Ao76 t585.length co76 : Value).ownBlock) (Kd.R_keptB ((Kd.R_apart' (Kd.R_apart' (Kd.R_apart' HO_550001.out (Kd.R_typed HO_566002.out) (by decide)) (Kd.R_typed HO_566003.out) (by decide)) (Kd.R_typed HO_566004.out) (by decide))) hkp (fun k_ hk_ hs_ => Or.elim hs_ (fun e_ => (hk_.1.1.1.1.1) e_) (fun e_ => Or.elim e_ (fun e_ => (hk_.1.1.2) e_) (fun e_ => Or.elim e_ (fun e_ => (hk_.1.2) e_) (fun e_ => (hk_.2) e_))))) (fun k_ hk_ => ⟨hk_.1.1.1.1.1.1, hk_.1.1.1.1.1.2, hk_.1.1.1.1.2⟩)); replace HO_550002 := Aside0.mk (Kd.R_mono (ok' := fun k_ => some k_ ≠ (.slice Ao37 t554.length co37 : Value).ownBlock ∧ some k_ ≠ (.slice Ao47 t570.length co47 : Value).ownBlock ∧ some k_ ≠ (.slice Ao77 t588.length co77 : Value).ownBlock) (Kd.R_keptB ((Kd.R_apart' (Kd.R_apart' (Kd.R_apart' HO_550002.out (Kd.R_typed HO_566001.out) (by decide)) (Kd.R_typed HO_566003.out) (by decide)) (Kd.R_typed HO_566004.out) (by decide))) hkp (fun k_ hk_ hs_ => Or.elim hs_ (fun e_ => (hk_.1.1.2) e_) (fun e_ => Or.elim e_ (fun e_ => (hk_.1.1.1.1.1) e_) (fun e_ => Or.elim e_ (fun e_ => (hk_.1.2) e_) (fun e_ => (hk_.2) e_))))) (fun k_ hk_ => ⟨hk_.1.1.1.1.1.1, hk_.1.1.1.1.1.2, hk_.1.1.1.1.2⟩)); replace HO_550003 := Aside0.mk (Kd.R_mono (ok' := fun k_ => some k_ ≠ (.slice Ao38 t557.length co38 : Value).ownBlock ∧ some k_ ≠ (.slice Ao48 t573.length co48 : Value).ownBlock ∧ some k_ ≠ (.slice Ao78 t591.length co78 : Value).ownBlock) (Kd.R_keptB ((Kd.R_apart' (Kd.R_apart' (Kd.R_apart' HO_550003.out (Kd.R_typed HO_566001.out) (by decide)) (Kd.R_typed HO_566002.out) (by decide)) (Kd.R_typed HO_566004.out) (by decide))) hkp (fun k_ hk_ hs_ => Or.elim hs_ (fun e_ => (hk_.1.1.2) e_) (fun e_ => Or.elim e_ (fun e_ => (hk_.1.2) e_) (fun e_ => Or.elim e_ (fun e_ => (hk_.1.1.1.1.1) e_) (fun e_ => (hk_.2) e_))))) (fun k_ hk_ => ⟨hk_.1.1.1.1.1.1, hk_.1.1.1.1.1.2, hk_.1.1.1.1.2⟩)); replace HO_550004 := Aside0.mk (Kd.R_mono (ok' := fun k_ => some k_ ≠ (.slice Ao39 t560.length co39 : Value).ownBlock ∧ some k_ ≠ (.slice Ao49 t576.length co49 : Value).ownBlock ∧ some k_ ≠ (.slice Ao79 t594.length co79 : Value).ownBlock) (Kd.R_keptB ((Kd.R_apart' (Kd.R_apart' (Kd.R_apart' HO_550004.out (Kd.R_typed HO_566001.out) (by decide)) (Kd.R_typed HO_566002.out) (by decide)) (Kd.R_typed HO_566003.out) (by decide))) hkp (fun k_ hk_ hs_ => Or.elim hs_ (fun e_ => (hk_.1.1.2) e_) (fun e_ => Or.elim e_ (fun e_ => (hk_.1.2) e_) (fun e_ => Or.elim e_ (fun e_ => (hk_.2) e_) (fun e_ => (hk_.1.1.1.1.1) e_))))) (fun k_ hk_ => ⟨hk_.1.1.1.1.1.1, hk_.1.1.1.1.1.2, hk_.1.1.1.1.2⟩)); replace HO_583001 := Aside0.mk (Kd.R_mono (ok' := fun k_ => some k_ ≠ (.slice Ao26 t534.length co26 : Value).ownBlock ∧ some k_ ≠ (.slice Ao36 t551.length co36 : Value).ownBlock ∧ some k_ ≠ (.slice Ao76 t585.length co76 : Value).ownBlock) (Kd.R_keptB ((Kd.R_apart' (Kd.R_apart' (Kd.R_apart' HO_583001.out (Kd.R_typed HO_566002.out) (by decide)) (Kd.R_typed HO_566003.out) (by decide)) (Kd.R_typed HO_566004.out) (by decide))) hkp (fun k_ hk_ hs_ => Or.elim hs_ (fun e_ => (hk_.1.1.1.1.2) e_) (fun e_ => Or.elim e_ (fun e_ => (hk_.1.1.2) e_) (fun e_ => Or.elim e_ (fun e_ => (hk_.1.2) e_) (fun e_ => (hk_.2) e_))))) (fun k_ hk_ => ⟨hk_.1.1.1.1.1.1, hk_.1.1.1.1.1.2, hk_.1.1.1.1.2⟩)); replace HO_583002 := Aside0.mk (Kd.R_mono (ok' := fun k_ => some k_ ≠ (.slice Ao27 t537.length co27 : Value).ownBlock ∧ some k_ ≠ (.slice Ao37 t554.length co37 : Value).ownBlock ∧ some k_ ≠ (.slice Ao77 t588.length co77 : Value).ownBlock) (Kd.R_keptB ((Kd.R_apart' (Kd.R_apart' (Kd.R_apart' HO_583002.out (Kd.R_typed HO_566001.out) (by decide)) (Kd.R_typed HO_566003.out) (by decide)) (Kd.R_typed HO_566004.out) (by decide))) hkp (fun k_ hk_ hs_ => Or.elim hs_ (fun e_ => (hk_.1.1.2) e_) (fun e_ => Or.elim e_ (fun e_ => (hk_.1.1.1.1.2) e_) (fun e_ => Or.elim e_ (fun e_ => (hk_.1.2) e_) (fun e_ => (hk_.2) e_))))) (fun k_ hk_ => ⟨hk_.1.1.1.1.1.1, hk_.1.1.1.1.1.2, hk_.1.1.1.1.2⟩)); replace HO_583003 := Aside0.mk (Kd.R_mono (ok' := fun k_ => some k_ ≠ (.slice Ao28 t540.length co28 : Value).ownBlock ∧ some k_ ≠ (.slice Ao38 t557.length co38 : Value).ownBlock ∧ some k_ ≠ (.slice Ao78 t591.length co78 : Value).ownBlock) (Kd.R_keptB ((Kd.R_apart' (Kd.R_apart' (Kd.R_apart' HO_583003.out (Kd.R_typed HO_566001.out) (by decide)) (Kd.R_typed HO_566002.out) (by decide)) (Kd.R_typed HO_566004.out) (by decide))) hkp (fun k_ hk_ hs_ => Or.elim hs_ (fun e_ => (hk_.1.1.2) e_) (fun e_ => Or.elim e_ (fun e_ => (hk_.1.2) e_) (fun e_ => Or.elim e_ (fun e_ => (hk_.1.1.1.1.2) e_) (fun e_ => (hk_.2) e_))))) (fun k_ hk_ => ⟨hk_.1.1.1.1.1.1, hk_.1.1.1.1.1.2, hk_.1.1.1.1.2⟩)); replace HO_583004 := Aside0.mk (Kd.R_mono (ok' := fun k_ => some k_ ≠ (.slice Ao29 t543.length co29 : Value).ownBlock ∧ some k_ ≠ (.slice Ao39 t560.length co39 : Value).ownBlock ∧ some k_ ≠ (.slice Ao79 t594.length co79 : Value).ownBlock) (Kd.R_keptB ((Kd.R_apart' (Kd.R_apart' (Kd.R_apart' HO_583004.out (Kd.R_typed HO_566001.out) (by decide)) (Kd.R_typed HO_566002.out) (by decide)) (Kd.R_typed HO_566003.out) (by decide))) hkp (fun k_ hk_ hs_ => Or.elim hs_ (fun e_ => (hk_.1.1.2) e_) (fun e_ => Or.elim e_ (fun e_ => (hk_.1.2) e_) (fun e_ => Or.elim e_ (fun e_ => (hk_.2) e_) (fun e_ => (hk_.1.1.1.1.2) e_))))) (fun k_ hk_ => ⟨hk_.1.1.1.1.1.1, hk_.1.1.1.1.1.2, hk_.1.1.1.1.2⟩)); replace BK516 := Aside0.mk (blk_kept (by exact kb_ BK516) hkp (fun hs_ => Or.elim hs_ (fun e_ => (fun e_ => (Kd.R_ne HO_566001.out BK516.out (by decide)) e_) e_) (fun e_ => Or.elim e_ (fun e_ => (fun e_ => (Kd.R_ne HO_566002.out BK516.out (by decide)) e_) e_) (fun e_ => Or.elim e_ (fun e_ => (fun e_ => (Kd.R_ne HO_566003.out BK516.out (by decide)) e_) e_) (fun e_ => (fun e_ => (Kd.R_ne HO_566004.out BK516.out (by decide)) e_) e_))))); replace BK549 := Aside0.mk (blk_kept (by exact kb_ BK549) hkp (fun hs_ => Or.elim hs_ (fun e_ => (fun e_ => (Kd.R_ne HO_566001.out BK549.out (by decide)) e_) e_) (fun e_ => Or.elim e_ (fun e_ => (fun e_ => (Kd.R_ne HO_566002.out BK549.out (by decide)) e_) e_) (fun e_ => Or.elim e_ (fun e_ => (fun e_ => (Kd.R_ne HO_566003.out BK549.out (by decide)) e_) e_) (fun e_ => (fun e_ => (Kd.R_ne HO_566004.out BK549.out (by decide)) e_) e_))))); replace BK565 := Aside0.mk (blk_kept (by exact kb_ BK565) hkp (fun hs_ => Or.elim hs_ (fun e_ => (fun e_ => (Kd.R_ne HO_566001.out BK565.out (by decide)) e_) e_) (fun e_ => Or.elim e_ (fun e_ => (fun e_ => (Kd.R_ne HO_566002.out BK565.out (by decide)) e_) e_) (fun e_ => Or.elim e_ (fun e_ => (fun e_ => (Kd.R_ne HO_566003.out BK565.out (by decide)) e_) e_) (fun e_ => (fun e_ => (Kd.R_ne HO_566004.out BK565.out (by decide)) e_) e_))))); replace BK582 := Aside0.mk (blk_kept (by exact kb_ BK582) hkp (fun hs_ => Or.elim hs_ (fun e_ => (fun e_ => (Kd.R_ne HO_566001.out BK582.out (by decide)) e_) e_) (fun e_ => Or.elim e_ (fun e_ => (fun e_ => (Kd.R_ne HO_566002.out BK582.out (by decide)) e_) e_) (fun e_ => Or.elim e_ (fun e_ => (fun e_ => (Kd.R_ne HO_566003.out BK582.out (by decide)) e_) e_) (fun e_ => (fun e_ => (Kd.R_ne HO_566004.out BK582.out (by decide)) e_) e_))))); replace HO587 := Aside0.mk (Kd.R_mono (ok' := fun k_ => some k_ ≠ (.slice Ao26 t534.length co26 : Value).ownBlock ∧ some k_ ≠ (.slice Ao36 t551.length co36 : Value).ownBlock ∧ some k_ ≠ (.slice Ao46 t567.length co46 : Value).ownBlock) (Kd.R_keptB ((Kd.R_apart' (Kd.R_apart' (Kd.R_apart' HO587.out (Kd.R_typed HO_566002.out) (by decide)) (Kd.R_typed HO_566003.out) (by decide)) (Kd.R_typed HO_566004.out) (by decide))) hkp (fun k_ hk_ hs_ => Or.elim hs_ (fun e_ => (hk_.1.1.1.1.2) e_) (fun e_ => Or.elim e_ (fun e_ => (hk_.1.1.2) e_) (fun e_ => Or.elim e_ (fun e_ => (hk_.1.2) e_) (fun e_ => (hk_.2) e_))))) (fun k_ hk_ => ⟨hk_.1.1.1.1.1.1.2, hk_.1.1.1.1.1.2, hk_.1.1.1.1.2⟩)); replace HO590 := Aside0.mk (Kd.R_mono (ok' := fun k_ => some k_ ≠ (.slice Ao27 t537.length co27 : Value).ownBlock ∧ some k_ ≠ (.slice Ao37 t554.length co37 : Value).ownBlock ∧ some k_ ≠ (.slice Ao47 t570.length co47 : Value).ownBlock) (Kd.R_keptB ((Kd.R_apart' (Kd.R_apart' (Kd.R_apart' HO590.out (Kd.R_typed HO_566001.out) (by decide)) (Kd.R_typed HO_566003.out) (by decide)) (Kd.R_typed HO_566004.out) (by decide))) hkp (fun k_ hk_ hs_ => Or.elim hs_ (fun e_ => (hk_.1.1.2) e_) (fun e_ => Or.elim e_ (fun e_ => (hk_.1.1.1.1.2) e_) (fun e_ => Or.elim e_ (fun e_ => (hk_.1.2) e_) (fun e_ => (hk_.2) e_))))) (fun k_ hk_ => ⟨hk_.1.1.1.1.1.1.2, hk_.1.1.1.1.1.2, hk_.1.1.1.1.2⟩)); replace HO593 := Aside0.mk (Kd.R_mono (ok' := fun k_ => some k_ ≠ (.slice Ao28 t540.length co28 : Value).ownBlock ∧ some k_ ≠ (.slice Ao38 t557.length co38 : Value).ownBlock ∧ some k_ ≠ (.slice Ao48 t573.length co48 : Value).ownBlock) (Kd.R_keptB ((Kd.R_apart' (Kd.R_apart' (Kd.R_apart' HO593.out (Kd.R_typed HO_566001.out) (by decide)) (Kd.R_typed HO_566002.out) (by decide)) (Kd.R_typed HO_566004.out) (by decide))) hkp (fun k_ hk_ hs_ => Or.elim hs_ (fun e_ => (hk_.1.1.2) e_) (fun e_ => Or.elim e_ (fun e_ => (hk_.1.2) e_) (fun e_ => Or.elim e_ (fun e_ => (hk_.1.1.1.1.2) e_) (fun e_ => (hk_.2) e_))))) (fun k_ hk_ => ⟨hk_.1.1.1.1.1.1.2, hk_.1.1.1.1.1.2, hk_.1.1.1.1.2⟩)); replace HO_566004 := Aside0.mk (Kd.R_reok rfl hy3 (fun k_ e_ => HO_566004.out.1 k_ e_)); replace HO596 := Aside0.mk (Kd.R_mono (ok' := fun k_ => some k_ ≠ (.slice Ao29 t543.length co29 : Value).ownBlock ∧ some k_ ≠ (.slice Ao39 t560.length co39 : Value).ownBlock ∧ some k_ ≠ (.slice Ao49 t576.length co49 : Value).ownBlock) (Kd.R_keptB ((Kd.R_apart' (Kd.R_apart' (Kd.R_apart' HO596.out (Kd.R_typed HO_566001.out) (by decide)) (Kd.R_typed HO_566002.out) (by decide)) (Kd.R_typed HO_566003.out) (by decide))) hkp (fun k_ hk_ hs_ => Or.elim hs_ (fun e_ => (hk_.1.1.2) e_) (fun e_ => Or.elim e_ (fun e_ => (hk_.1.2) e_) (fun e_ => Or.elim e_ (fun e_ => (hk_.2) e_) (fun e_ => (hk_.1.1.1.1.2) e_))))) (fun k_ hk_ => ⟨hk_.1.1.1.1.1.1.2, hk_.1.1.1.1.1.2, hk_.1.1.1.1.2⟩)); replace HO_566001 := Aside0.mk (Kd.R_reok rfl hy0 (fun k_ e_ => HO_566001.out.1 k_ e_)); replace HO_566002 := Aside0.mk (Kd.R_reok rfl hy1 (fun k_ e_ => HO_566002.out.1 k_ e_)); replace HO_566003 := Aside0.mk (Kd.R_reok rfl hy2 (fun k_ e_ => HO_566003.out.1 k_ e_)); replace HB := Aside0.mk (hb); clear hb hkp hy0 hy1 hy2 hy3))
      (try simp only [Act.put, List.setIfInBounds_toArray, List.set_cons_zero, List.set_cons_succ])
      go_cut [65] (fun v65 wc => ∃ (kq : Nat) (x65_72 : Bool), v65 = .bool x65_72 ∧ Aside0 (laws_FnExactStartAgain.j1 kq a1 t548 x65_72 a0_0 l0_1 l0_2 l0_3 l0_4 a0_5 a0_6 t533 t534 t537 t540 t543 t546 t547 t566 t567 t570 t573 t576 t579 t580 = some r) ∧ Aside0 (kq ≤ kj11) ∧ Aside0 (Kd.R k97 97 wc w.heap.size (fun k_ => some k_ ≠ ((.slice Ao36 t551.length co36) : Value).ownBlock ∧ some k_ ≠ ((.slice Ao46 t567.length co46) : Value).ownBlock) (.slice Ao26 t534.length co26) t534) ∧ Aside0 (Kd.R Kd.string 9 wc w.heap.size (fun k_ => some k_ ≠ ((.slice Ao37 t554.length co37) : Value).ownBlock ∧ some k_ ≠ ((.slice Ao47 t570.length co47) : Value).ownBlock) (.slice Ao27 t537.length co27) t537) ∧ Aside0 (Kd.R k101 101 wc w.heap.size (fun k_ => some k_ ≠ ((.slice Ao38 t557.length co38) : Value).ownBlock ∧ some k_ ≠ ((.slice Ao48 t573.length co48) : Value).ownBlock) (.slice Ao28 t540.length co28) t540) ∧ Aside0 (Kd.R k69 69 wc w.heap.size (fun k_ => some k_ ≠ ((.slice Ao39 t560.length co39) : Value).ownBlock ∧ some k_ ≠ ((.slice Ao49 t576.length co49) : Value).ownBlock) (.slice Ao29 t543.length co29) t543) ∧ Aside0 (Kd.R k97 97 wc w.heap.size (fun k_ => some k_ ≠ ((.slice Ao26 t534.length co26) : Value).ownBlock ∧ some k_ ≠ ((.slice Ao46 t567.length co46) : Value).ownBlock) (.slice Ao36 t551.length co36) t601) ∧ Aside0 (Kd.R Kd.string 9 wc w.heap.size (fun k_ => some k_ ≠ ((.slice Ao27 t537.length co27) : Value).ownBlock ∧ some k_ ≠ ((.slice Ao47 t570.length co47) : Value).ownBlock) (.slice Ao37 t554.length co37) t602) ∧ Aside0 (Kd.R k101 101 wc w.heap.size (fun k_ => some k_ ≠ ((.slice Ao28 t540.length co28) : Value).ownBlock ∧ some k_ ≠ ((.slice Ao48 t573.length co48) : Value).ownBlock) (.slice Ao38 t557.length co38) t603) ∧ Aside0 (Kd.R k69 69 wc w.heap.size (fun k_ => some k_ ≠ ((.slice Ao29 t543.length co29) : Value).ownBlock ∧ some k_ ≠ ((.slice Ao49 t576.length co49) : Value).ownBlock) (.slice Ao39 t560.length co39) t604) ∧ Aside0 (Kd.R k97 97 wc w.heap.size (fun k_ => some k_ ≠ ((.slice Ao26 t534.length co26) : Value).ownBlock ∧ some k_ ≠ ((.slice Ao36 t551.length co36) : Value).ownBlock) (.slice Ao46 t567.length co46) t567) ∧ Aside0 (Kd.R Kd.string 9 wc w.heap.size (fun k_ => some k_ ≠ ((.slice Ao27 t537.length co27) : Value).ownBlock ∧ some k_ ≠ ((.slice Ao37 t554.length co37) : Value).ownBlock) (.slice Ao47 t570.length co47) t570) ∧ Aside0 (Kd.R k101 101 wc w.heap.size (fun k_ => some k_ ≠ ((.slice Ao28 t540.length co28) : Value).ownBlock ∧ some k_ ≠ ((.slice Ao38 t557.length co38) : Value).ownBlock) (.slice Ao48 t573.length co48) t573) ∧ Aside0 (Kd.R k69 69 wc w.heap.size (fun k_ => some k_ ≠ ((.slice Ao29 t543.length co29) : Value).ownBlock ∧ some k_ ≠ ((.slice Ao39 t560.length co39) : Value).ownBlock) (.slice Ao49 t576.length co49) t576) ∧ Aside0 (wc.heap[gb516]? = some (.cells #[.int .i64 a0_0, (.slice A0_1 l0_1.length c0_1), (.slice A0_2 l0_2.length c0_2), (.slice A0_3 l0_3.length c0_3), (.slice A0_4 l0_4.length c0_4), .string a0_5, .string a0_6] 31 (0, 0))) ∧ Aside0 (wc.heap[gb549]? = some (.cells #[.int .i64 t533, (.slice Ao26 t534.length co26), (.slice Ao27 t537.length co27), (.slice Ao28 t540.length co28), (.slice Ao29 t543.length co29), .string t546, .string t547] 41 (0, 0))) ∧ Aside0 (wc.heap[gb565]? = some (.cells #[.int .i64 t550, (.slice Ao36 t551.length co36), (.slice Ao37 t554.length co37), (.slice Ao38 t557.length co38), (.slice Ao39 t560.length co39), .string t563, .string t564] 41 (0, 0))) ∧ Aside0 (wc.heap[gb582]? = some (.cells #[.int .i64 t566, (.slice Ao46 t567.length co46), (.slice Ao47 t570.length co47), (.slice Ao48 t573.length co48), (.slice Ao49 t576.length co49), .string t579, .string t580] 41 (0, 0))) ∧ Aside0 (Below w.heap.size w wc))
      case first =>
       have H := HC73.out
       clear HC73
       revert H
       refine io_ ?_
       intro c86b0 H
       (first | rw [c86b0] | (simp only [i64_w, i32_w]; rw [c86b0]) | skip)
       revert H
       refine bn_ ?_
       intro t605 A87 H
       by_cases c88 : t605 = true
       ·subst c88
        rw [if_pos rfl] at H
        have H' := Aside0.mk H
        clear H
        have hnb89 := NB582_516.out
        have hnc89 := NB516_582.out
        have hnb90 := NB582_549.out
        have hnc90 := NB549_582.out
        have hnb91 := NB582_565.out
        have hnc91 := NB565_582.out
        have hcz92_0 := c7_ BK582
        have hnb93 := NB549_516.out
        have hnc93 := NB516_549.out
        have hnb94 := NB549_565.out
        have hnc94 := NB565_549.out
        have hcz95_0 := c7_ BK549
        go_wp2_with (first | (go_at_call 10; (with_reducible refine (laws_eqDesk.calls _ _ _ _ _ _ _ _ _ _ _ _ _ _ _ _ _ _ _ _ _ _ _ _ _ _ _ _ _ _ _ _ _ ?side1 ?side2 ?side3 ?side4 ?side5 ?side6 ?side7 ?side8 ?side9 ?side10 ?side11 ?side12 ?side13 ?side14 ?side15 ?side16 A87.out).mono ?_); (case side1 => repeat (first | exact (Kd.R_reads' HO_583001.out).2.2 | (with_reducible refine Kd.C_alloc ?_ _) | (with_reducible refine Kd.C_drewN ?_ _) | (with_reducible refine Kd.C_drew ?_))); (case side2 => exact (Kd.R_reads' HO_583001.out).2.1); (case side3 => repeat (first | exact (Kd.R_reads' HO_583002.out).2.2 | (with_reducible refine Kd.C_alloc ?_ _) | (with_reducible refine Kd.C_drewN ?_ _) | (with_reducible refine Kd.C_drew ?_))); (case side4 => exact (Kd.R_reads' HO_583002.out).2.1); (case side5 => repeat (first | exact (Kd.R_reads' HO_583003.out).2.2 | (with_reducible refine Kd.C_alloc ?_ _) | (with_reducible refine Kd.C_drewN ?_ _) | (with_reducible refine Kd.C_drew ?_))); (case side6 => exact (Kd.R_reads' HO_583003.out).2.1); (case side7 => repeat (first | exact (Kd.R_reads' HO_583004.out).2.2 | (with_reducible refine Kd.C_alloc ?_ _) | (with_reducible refine Kd.C_drewN ?_ _) | (with_reducible refine Kd.C_drew ?_))); (case side8 => exact (Kd.R_reads' HO_583004.out).2.1); (case side9 => repeat (first | exact (Kd.R_reads' HO_550001.out).2.2 | (with_reducible refine Kd.C_alloc ?_ _) | (with_reducible refine Kd.C_drewN ?_ _) | (with_reducible refine Kd.C_drew ?_))); (case side10 => exact (Kd.R_reads' HO_550001.out).2.1); (case side11 => repeat (first | exact (Kd.R_reads' HO_550002.out).2.2 | (with_reducible refine Kd.C_alloc ?_ _) | (with_reducible refine Kd.C_drewN ?_ _) | (with_reducible refine Kd.C_drew ?_))); (case side12 => exact (Kd.R_reads' HO_550002.out).2.1); (case side13 => repeat (first | exact (Kd.R_reads' HO_550003.out).2.2 | (with_reducible refine Kd.C_alloc ?_ _) | (with_reducible refine Kd.C_drewN ?_ _) | (with_reducible refine Kd.C_drew ?_))); (case side14 => exact (Kd.R_reads' HO_550003.out).2.1); (case side15 => repeat (first | exact (Kd.R_reads' HO_550004.out).2.2 | (with_reducible refine Kd.C_alloc ?_ _) | (with_reducible refine Kd.C_drewN ?_ _) | (with_reducible refine Kd.C_drew ?_))); (case side16 => exact (Kd.R_reads' HO_550004.out).2.1); rintro e w96 ⟨rfl, hb⟩; replace HO_550001 := kr_ HO_550001 hb; replace HO_550002 := kr_ HO_550002 hb; replace HO_550003 := kr_ HO_550003 hb; replace HO_550004 := kr_ HO_550004 hb; replace HO_566001 := kr_ HO_566001 hb; replace HO_566002 := kr_ HO_566002 hb; replace HO_566003 := kr_ HO_566003 hb; replace HO_566004 := kr_ HO_566004 hb; replace HO_583001 := kr_ HO_583001 hb; replace HO_583002 := kr_ HO_583002 hb; replace HO_583003 := kr_ HO_583003 hb; replace HO_583004 := kr_ HO_583004 hb; replace HO587 := kr_ HO587 hb; replace HO590 := kr_ HO590 hb; replace HO593 := kr_ HO593 hb; replace HO596 := kr_ HO596 hb; replace BK516 := bkb_ BK516 hb; replace BK549 := bkb_ BK549 hb; replace BK565 := bkb_ BK565 hb; replace BK582 := bkb_ BK582 hb; replace HB := bst_ hb; clear hb))
        go_meet
        case rel => exact ⟨_, ((t581 != t548)), re_, H', ⟨by have := HJ11.out; first | omega | exact Nat.le_refl _⟩, ⟨by (with_reducible repeat (first | apply Kd.R_alloc | apply Kd.R_drewN | apply Kd.R_drew)); exact Kd.R_mono HO_550001.out (fun _ hk => ⟨hk.1, hk.2.1⟩)⟩, ⟨by (with_reducible repeat (first | apply Kd.R_alloc | apply Kd.R_drewN | apply Kd.R_drew)); exact Kd.R_mono HO_550002.out (fun _ hk => ⟨hk.1, hk.2.1⟩)⟩, ⟨by (with_reducible repeat (first | apply Kd.R_alloc | apply Kd.R_drewN | apply Kd.R_drew)); exact Kd.R_mono HO_550003.out (fun _ hk => ⟨hk.1, hk.2.1⟩)⟩, ⟨by (with_reducible repeat (first | apply Kd.R_alloc | apply Kd.R_drewN | apply Kd.R_drew)); exact Kd.R_mono HO_550004.out (fun _ hk => ⟨hk.1, hk.2.1⟩)⟩, ⟨by (with_reducible repeat (first | apply Kd.R_alloc | apply Kd.R_drewN | apply Kd.R_drew)); exact Kd.R_mono HO_566001.out (fun _ hk => ⟨hk.1.1, hk.1.2⟩)⟩, ⟨by (with_reducible repeat (first | apply Kd.R_alloc | apply Kd.R_drewN | apply Kd.R_drew)); exact Kd.R_mono HO_566002.out (fun _ hk => ⟨hk.1.1, hk.1.2⟩)⟩, ⟨by (with_reducible repeat (first | apply Kd.R_alloc | apply Kd.R_drewN | apply Kd.R_drew)); exact Kd.R_mono HO_566003.out (fun _ hk => ⟨hk.1.1, hk.1.2⟩)⟩, ⟨by (with_reducible repeat (first | apply Kd.R_alloc | apply Kd.R_drewN | apply Kd.R_drew)); exact Kd.R_mono HO_566004.out (fun _ hk => ⟨hk.1.1, hk.1.2⟩)⟩, ⟨by (with_reducible repeat (first | apply Kd.R_alloc | apply Kd.R_drewN | apply Kd.R_drew)); exact Kd.R_mono HO_583001.out (fun _ hk => ⟨hk.1, hk.2.1⟩)⟩, ⟨by (with_reducible repeat (first | apply Kd.R_alloc | apply Kd.R_drewN | apply Kd.R_drew)); exact Kd.R_mono HO_583002.out (fun _ hk => ⟨hk.1, hk.2.1⟩)⟩, ⟨by (with_reducible repeat (first | apply Kd.R_alloc | apply Kd.R_drewN | apply Kd.R_drew)); exact Kd.R_mono HO_583003.out (fun _ hk => ⟨hk.1, hk.2.1⟩)⟩, ⟨by (with_reducible repeat (first | apply Kd.R_alloc | apply Kd.R_drewN | apply Kd.R_drew)); exact Kd.R_mono HO_583004.out (fun _ hk => ⟨hk.1, hk.2.1⟩)⟩, ⟨by exact kb_ BK516⟩, ⟨by exact kb_ BK549⟩, ⟨by exact kb_ BK565⟩, ⟨by exact kb_ BK582⟩, ⟨bwl_⟩⟩
       ·rw [if_neg c88] at H
        exact absurd H (by simp)
      case rest =>
       clear HC73
       (try clear c68);(try clear c71);(try clear hcz30_0);(try clear hcz35_0);(try clear hcz45_0);(try clear hcz84_0)
       obtain ⟨kq, x65_72, rfl, HA, HJ72, HO_550001, HO_550002, HO_550003, HO_550004, HO_566001, HO_566002, HO_566003, HO_566004, HO_583001, HO_583002, HO_583003, HO_583004, BK516, BK549, BK565, BK582, HB⟩ := hcut
       have hl566001_72 := (Kd.R_reads' HO_566001.out).1
       rw [hl566001_72] at HO_566001
       (try simp only [hl566001_72])
       (try simp only [hl566001_72] at BK516)
       (try simp only [hl566001_72] at BK549)
       (try simp only [hl566001_72] at BK565)
       (try simp only [hl566001_72] at BK582)
       (try simp only [hl566001_72] at HO_550001)
       (try simp only [hl566001_72] at HO_550002)
       (try simp only [hl566001_72] at HO_550003)
       (try simp only [hl566001_72] at HO_550004)
       (try simp only [hl566001_72] at HO_566002)
       (try simp only [hl566001_72] at HO_566003)
       (try simp only [hl566001_72] at HO_566004)
       (try simp only [hl566001_72] at HO_583001)
       (try simp only [hl566001_72] at HO_583002)
       (try simp only [hl566001_72] at HO_583003)
       (try simp only [hl566001_72] at HO_583004)
       have hl566002_72 := (Kd.R_reads' HO_566002.out).1
       rw [hl566002_72] at HO_566002
       (try simp only [hl566002_72])
       (try simp only [hl566002_72] at BK516)
       (try simp only [hl566002_72] at BK549)
       (try simp only [hl566002_72] at BK565)
       (try simp only [hl566002_72] at BK582)
       (try simp only [hl566002_72] at HO_550001)
       (try simp only [hl566002_72] at HO_550002)
       (try simp only [hl566002_72] at HO_550003)
       (try simp only [hl566002_72] at HO_550004)
       (try simp only [hl566002_72] at HO_566001)
       (try simp only [hl566002_72] at HO_566003)
       (try simp only [hl566002_72] at HO_566004)
       (try simp only [hl566002_72] at HO_583001)
       (try simp only [hl566002_72] at HO_583002)
       (try simp only [hl566002_72] at HO_583003)
       (try simp only [hl566002_72] at HO_583004)
       have hl566003_72 := (Kd.R_reads' HO_566003.out).1
       rw [hl566003_72] at HO_566003
       (try simp only [hl566003_72])
       (try simp only [hl566003_72] at BK516)
       (try simp only [hl566003_72] at BK549)
       (try simp only [hl566003_72] at BK565)
       (try simp only [hl566003_72] at BK582)
       (try simp only [hl566003_72] at HO_550001)
       (try simp only [hl566003_72] at HO_550002)
       (try simp only [hl566003_72] at HO_550003)
       (try simp only [hl566003_72] at HO_550004)
       (try simp only [hl566003_72] at HO_566001)
       (try simp only [hl566003_72] at HO_566002)
       (try simp only [hl566003_72] at HO_566004)
       (try simp only [hl566003_72] at HO_583001)
       (try simp only [hl566003_72] at HO_583002)
       (try simp only [hl566003_72] at HO_583003)
       (try simp only [hl566003_72] at HO_583004)
       have hl566004_72 := (Kd.R_reads' HO_566004.out).1
       rw [hl566004_72] at HO_566004
       (try simp only [hl566004_72])
       (try simp only [hl566004_72] at BK516)
       (try simp only [hl566004_72] at BK549)
       (try simp only [hl566004_72] at BK565)
       (try simp only [hl566004_72] at BK582)
       (try simp only [hl566004_72] at HO_550001)
       (try simp only [hl566004_72] at HO_550002)
       (try simp only [hl566004_72] at HO_550003)
       (try simp only [hl566004_72] at HO_550004)
       (try simp only [hl566004_72] at HO_566001)
       (try simp only [hl566004_72] at HO_566002)
       (try simp only [hl566004_72] at HO_566003)
       (try simp only [hl566004_72] at HO_583001)
       (try simp only [hl566004_72] at HO_583002)
       (try simp only [hl566004_72] at HO_583003)
       (try simp only [hl566004_72] at HO_583004)
       cases kq with
       | zero => exact absurd HA.out (by simp [laws_FnExactStartAgain.j1])
       | succ kj72 =>
        have H := HA.out
        clear HA
        simp only [laws_FnExactStartAgain.j1] at H
        by_cases c105 : x65_72 = true
        ·rw [if_pos c105] at H
         exact absurd H (by simp)
        ·replace c105 := Bool.eq_false_iff.mpr c105
         subst c105
         rw [if_neg (show ¬ (false = true) by decide)] at H
         revert H
         refine bn_ ?_
         rintro ⟨t606, t607, t608, t609, t610⟩ A106 H
         revert H
         refine bn_ ?_
         intro t611 A107 H
         revert H
         refine io_ ?_
         intro c108b0 H
         revert H
         refine ke_ ?_
         intro c116b0 H
         revert H
         refine bn_ ?_
         rintro ⟨t612, t613, t616, t619, t622, t625, t626⟩ A117 H
         revert H
         refine bn_ ?_
         rintro ⟨t627, t628, t631, t634, t637, t640, t641, t642⟩ A118 H
         have HC119 := Aside0.mk H
         clear H
         have hnb120 := NB582_516.out
         have hnc120 := NB516_582.out
         have hnb121 := NB582_549.out
         have hnc121 := NB549_582.out
         have hnb122 := NB582_565.out
         have hnc122 := NB565_582.out
         have hcz123_0 := c7_ BK582
         go_upto_region 25 with (first | ((with_reducible refine gc_ 15 rfl ?_); refine ck_ Tryz.func15 (laws_markDesk.calls _ _ (fun k_ => some k_ = (.slice Ao46 t567.length co46 : Value).ownBlock) _ _ (fun k_ => some k_ = (.slice Ao47 t570.length co47 : Value).ownBlock) _ _ (fun k_ => some k_ = (.slice Ao48 t573.length co48 : Value).ownBlock) _ _ (fun k_ => some k_ = (.slice Ao49 t576.length co49 : Value).ownBlock) _ _ _ _ _ _ _ _ _ _ _ _ bwl_ (Kd.R_tight rfl HO_583001.out) (Kd.R_tight rfl HO_583002.out) (Kd.R_tight rfl HO_583003.out) (Kd.R_tight rfl HO_583004.out) A106.out) ?_; rintro e w124 ⟨rfl, hy0, hy1, hy2, hy3, hb, hkp⟩; refine ⟨_, rfl, ?_⟩; replace HO_550001 := Aside0.mk (Kd.R_mono (ok' := fun k_ => some k_ ≠ (.slice Ao36 t601.length co36 : Value).ownBlock ∧ some k_ ≠ (.slice Ao46 t567.length co46 : Value).ownBlock) (Kd.R_keptB ((Kd.R_apart' (Kd.R_apart' (Kd.R_apart' HO_550001.out (Kd.R_typed HO_583002.out) (by decide)) (Kd.R_typed HO_583003.out) (by decide)) (Kd.R_typed HO_583004.out) (by decide))) hkp (fun k_ hk_ hs_ => Or.elim hs_ (fun e_ => (hk_.1.1.1.2) e_) (fun e_ => Or.elim e_ (fun e_ => (hk_.1.1.2) e_) (fun e_ => Or.elim e_ (fun e_ => (hk_.1.2) e_) (fun e_ => (hk_.2) e_))))) (fun k_ hk_ => ⟨hk_.1.1.1.1.1, hk_.1.1.1.1.2⟩)); replace HO_550002 := Aside0.mk (Kd.R_mono (ok' := fun k_ => some k_ ≠ (.slice Ao37 t602.length co37 : Value).ownBlock ∧ some k_ ≠ (.slice Ao47 t570.length co47 : Value).ownBlock) (Kd.R_keptB ((Kd.R_apart' (Kd.R_apart' (Kd.R_apart' HO_550002.out (Kd.R_typed HO_583001.out) (by decide)) (Kd.R_typed HO_583003.out) (by decide)) (Kd.R_typed HO_583004.out) (by decide))) hkp (fun k_ hk_ hs_ => Or.elim hs_ (fun e_ => (hk_.1.1.2) e_) (fun e_ => Or.elim e_ (fun e_ => (hk_.1.1.1.2) e_) (fun e_ => Or.elim e_ (fun e_ => (hk_.1.2) e_) (fun e_ => (hk_.2) e_))))) (fun k_ hk_ => ⟨hk_.1.1.1.1.1, hk_.1.1.1.1.2⟩)); replace HO_550003 := Aside0.mk (Kd.R_mono (ok' := fun k_ => some k_ ≠ (.slice Ao38 t603.length co38 : Value).ownBlock ∧ some k_ ≠ (.slice Ao48 t573.length co48 : Value).ownBlock) (Kd.R_keptB ((Kd.R_apart' (Kd.R_apart' (Kd.R_apart' HO_550003.out (Kd.R_typed HO_583001.out) (by decide)) (Kd.R_typed HO_583002.out) (by decide)) (Kd.R_typed HO_583004.out) (by decide))) hkp (fun k_ hk_ hs_ => Or.elim hs_ (fun e_ => (hk_.1.1.2) e_) (fun e_ => Or.elim e_ (fun e_ => (hk_.1.2) e_) (fun e_ => Or.elim e_ (fun e_ => (hk_.1.1.1.2) e_) (fun e_ => (hk_.2) e_))))) (fun k_ hk_ => ⟨hk_.1.1.1.1.1, hk_.1.1.1.1.2⟩)); replace HO_550004 := Aside0.mk (Kd.R_mono (ok' := fun k_ => some k_ ≠ (.slice Ao39 t604.length co39 : Value).ownBlock ∧ some k_ ≠ (.slice Ao49 t576.length co49 : Value).ownBlock) (Kd.R_keptB ((Kd.R_apart' (Kd.R_apart' (Kd.R_apart' HO_550004.out (Kd.R_typed HO_583001.out) (by decide)) (Kd.R_typed HO_583002.out) (by decide)) (Kd.R_typed HO_583003.out) (by decide))) hkp (fun k_ hk_ hs_ => Or.elim hs_ (fun e_ => (hk_.1.1.2) e_) (fun e_ => Or.elim e_ (fun e_ => (hk_.1.2) e_) (fun e_ => Or.elim e_ (fun e_ => (hk_.2) e_) (fun e_ => (hk_.1.1.1.2) e_))))) (fun k_ hk_ => ⟨hk_.1.1.1.1.1, hk_.1.1.1.1.2⟩)); replace HO_566001 := Aside0.mk (Kd.R_mono (ok' := fun k_ => some k_ ≠ (.slice Ao26 t534.length co26 : Value).ownBlock ∧ some k_ ≠ (.slice Ao46 t567.length co46 : Value).ownBlock) (Kd.R_keptB ((Kd.R_apart' (Kd.R_apart' (Kd.R_apart' HO_566001.out (Kd.R_typed HO_583002.out) (by decide)) (Kd.R_typed HO_583003.out) (by decide)) (Kd.R_typed HO_583004.out) (by decide))) hkp (fun k_ hk_ hs_ => Or.elim hs_ (fun e_ => (hk_.1.1.1.2) e_) (fun e_ => Or.elim e_ (fun e_ => (hk_.1.1.2) e_) (fun e_ => Or.elim e_ (fun e_ => (hk_.1.2) e_) (fun e_ => (hk_.2) e_))))) (fun k_ hk_ => ⟨hk_.1.1.1.1.1, hk_.1.1.1.1.2⟩)); replace HO_566002 := Aside0.mk (Kd.R_mono (ok' := fun k_ => some k_ ≠ (.slice Ao27 t537.length co27 : Value).ownBlock ∧ some k_ ≠ (.slice Ao47 t570.length co47 : Value).ownBlock) (Kd.R_keptB ((Kd.R_apart' (Kd.R_apart' (Kd.R_apart' HO_566002.out (Kd.R_typed HO_583001.out) (by decide)) (Kd.R_typed HO_583003.out) (by decide)) (Kd.R_typed HO_583004.out) (by decide))) hkp (fun k_ hk_ hs_ => Or.elim hs_ (fun e_ => (hk_.1.1.2) e_) (fun e_ => Or.elim e_ (fun e_ => (hk_.1.1.1.2) e_) (fun e_ => Or.elim e_ (fun e_ => (hk_.1.2) e_) (fun e_ => (hk_.2) e_))))) (fun k_ hk_ => ⟨hk_.1.1.1.1.1, hk_.1.1.1.1.2⟩)); replace HO_566003 := Aside0.mk (Kd.R_mono (ok' := fun k_ => some k_ ≠ (.slice Ao28 t540.length co28 : Value).ownBlock ∧ some k_ ≠ (.slice Ao48 t573.length co48 : Value).ownBlock) (Kd.R_keptB ((Kd.R_apart' (Kd.R_apart' (Kd.R_apart' HO_566003.out (Kd.R_typed HO_583001.out) (by decide)) (Kd.R_typed HO_583002.out) (by decide)) (Kd.R_typed HO_583004.out) (by decide))) hkp (fun k_ hk_ hs_ => Or.elim hs_ (fun e_ => (hk_.1.1.2) e_) (fun e_ => Or.elim e_ (fun e_ => (hk_.1.2) e_) (fun e_ => Or.elim e_ (fun e_ => (hk_.1.1.1.2) e_) (fun e_ => (hk_.2) e_))))) (fun k_ hk_ => ⟨hk_.1.1.1.1.1, hk_.1.1.1.1.2⟩)); replace HO_566004 := Aside0.mk (Kd.R_mono (ok' := fun k_ => some k_ ≠ (.slice Ao29 t543.length co29 : Value).ownBlock ∧ some k_ ≠ (.slice Ao49 t576.length co49 : Value).ownBlock) (Kd.R_keptB ((Kd.R_apart' (Kd.R_apart' (Kd.R_apart' HO_566004.out (Kd.R_typed HO_583001.out) (by decide)) (Kd.R_typed HO_583002.out) (by decide)) (Kd.R_typed HO_583003.out) (by decide))) hkp (fun k_ hk_ hs_ => Or.elim hs_ (fun e_ => (hk_.1.1.2) e_) (fun e_ => Or.elim e_ (fun e_ => (hk_.1.2) e_) (fun e_ => Or.elim e_ (fun e_ => (hk_.2) e_) (fun e_ => (hk_.1.1.1.2) e_))))) (fun k_ hk_ => ⟨hk_.1.1.1.1.1, hk_.1.1.1.1.2⟩)); replace BK516 := Aside0.mk (blk_kept (by exact kb_ BK516) hkp (fun hs_ => Or.elim hs_ (fun e_ => (fun e_ => (Kd.R_ne HO_583001.out BK516.out (by decide)) e_) e_) (fun e_ => Or.elim e_ (fun e_ => (fun e_ => (Kd.R_ne HO_583002.out BK516.out (by decide)) e_) e_) (fun e_ => Or.elim e_ (fun e_ => (fun e_ => (Kd.R_ne HO_583003.out BK516.out (by decide)) e_) e_) (fun e_ => (fun e_ => (Kd.R_ne HO_583004.out BK516.out (by decide)) e_) e_))))); replace BK549 := Aside0.mk (blk_kept (by exact kb_ BK549) hkp (fun hs_ => Or.elim hs_ (fun e_ => (fun e_ => (Kd.R_ne HO_583001.out BK549.out (by decide)) e_) e_) (fun e_ => Or.elim e_ (fun e_ => (fun e_ => (Kd.R_ne HO_583002.out BK549.out (by decide)) e_) e_) (fun e_ => Or.elim e_ (fun e_ => (fun e_ => (Kd.R_ne HO_583003.out BK549.out (by decide)) e_) e_) (fun e_ => (fun e_ => (Kd.R_ne HO_583004.out BK549.out (by decide)) e_) e_))))); replace BK565 := Aside0.mk (blk_kept (by exact kb_ BK565) hkp (fun hs_ => Or.elim hs_ (fun e_ => (fun e_ => (Kd.R_ne HO_583001.out BK565.out (by decide)) e_) e_) (fun e_ => Or.elim e_ (fun e_ => (fun e_ => (Kd.R_ne HO_583002.out BK565.out (by decide)) e_) e_) (fun e_ => Or.elim e_ (fun e_ => (fun e_ => (Kd.R_ne HO_583003.out BK565.out (by decide)) e_) e_) (fun e_ => (fun e_ => (Kd.R_ne HO_583004.out BK565.out (by decide)) e_) e_))))); replace BK582 := Aside0.mk (blk_kept (by exact kb_ BK582) hkp (fun hs_ => Or.elim hs_ (fun e_ => (fun e_ => (Kd.R_ne HO_583001.out BK582.out (by decide)) e_) e_) (fun e_ => Or.elim e_ (fun e_ => (fun e_ => (Kd.R_ne HO_583002.out BK582.out (by decide)) e_) e_) (fun e_ => Or.elim e_ (fun e_ => (fun e_ => (Kd.R_ne HO_583003.out BK582.out (by decide)) e_) e_) (fun e_ => (fun e_ => (Kd.R_ne HO_583004.out BK582.out (by decide)) e_) e_))))); replace HO_583001 := Aside0.mk (Kd.R_reok rfl hy0 (fun k_ e_ => HO_583001.out.1 k_ e_)); replace HO_583002 := Aside0.mk (Kd.R_reok rfl hy1 (fun k_ e_ => HO_583002.out.1 k_ e_)); replace HO_583003 := Aside0.mk (Kd.R_reok rfl hy2 (fun k_ e_ => HO_583003.out.1 k_ e_)); replace HO_583004 := Aside0.mk (Kd.R_reok rfl hy3 (fun k_ e_ => HO_583004.out.1 k_ e_)); replace HB := Aside0.mk (hb); clear hb hkp hy0 hy1 hy2 hy3; have hcz125_0 := c7_ BK582) | ((with_reducible refine gc_ 16 rfl ?_); refine goesL_ (some 71) rfl rfl Tryz.func16 (by kernel_rfl) rfl #[.agg #[.int .i64 t566, .slice Ao46 t607.length co46, .slice Ao47 t608.length co47, .slice Ao48 t609.length co48, .slice Ao49 t610.length co49, .string t579, .string t580], .int .i64 1] rfl (by (try simp only [List.map_toArray, List.map_cons, List.map_nil]); first | done | (rw [show t607.length = t567.length from (Kd.R_reads' HO_583001.out).1.symm, show t608.length = t570.length from (Kd.R_reads' HO_583002.out).1.symm, show t609.length = t573.length from (Kd.R_reads' HO_583003.out).1.symm, show t610.length = t576.length from (Kd.R_reads' HO_583004.out).1.symm] <;> rfl) | rfl | (simp only [List.length_drop, List.length_take]; rfl)) ?_; (with_reducible refine (laws_heldDesk.calls kj72 t566 _ _ t607 _ _ t608 _ _ t609 _ _ t610 t579 t580 1 t611 _ ?side1 ?side2 ?side3 ?side4 ?side5 ?side6 ?side7 ?side8 A107.out).mono ?_); (case side1 => repeat (first | exact (Kd.R_reads' HO_583001.out).2.2 | (with_reducible refine Kd.C_alloc ?_ _) | (with_reducible refine Kd.C_drewN ?_ _) | (with_reducible refine Kd.C_drew ?_))); (case side2 => rw [show t607.length = t567.length from (Kd.R_reads' HO_583001.out).1.symm]; exact (Kd.R_reads' HO_583001.out).2.1); (case side3 => repeat (first | exact (Kd.R_reads' HO_583002.out).2.2 | (with_reducible refine Kd.C_alloc ?_ _) | (with_reducible refine Kd.C_drewN ?_ _) | (with_reducible refine Kd.C_drew ?_))); (case side4 => rw [show t608.length = t570.length from (Kd.R_reads' HO_583002.out).1.symm]; exact (Kd.R_reads' HO_583002.out).2.1); (case side5 => repeat (first | exact (Kd.R_reads' HO_583003.out).2.2 | (with_reducible refine Kd.C_alloc ?_ _) | (with_reducible refine Kd.C_drewN ?_ _) | (with_reducible refine Kd.C_drew ?_))); (case side6 => rw [show t609.length = t573.length from (Kd.R_reads' HO_583003.out).1.symm]; exact (Kd.R_reads' HO_583003.out).2.1); (case side7 => repeat (first | exact (Kd.R_reads' HO_583004.out).2.2 | (with_reducible refine Kd.C_alloc ?_ _) | (with_reducible refine Kd.C_drewN ?_ _) | (with_reducible refine Kd.C_drew ?_))); (case side8 => rw [show t610.length = t576.length from (Kd.R_reads' HO_583004.out).1.symm]; exact (Kd.R_reads' HO_583004.out).2.1); rintro e w126 ⟨rfl, hb⟩; refine ⟨_, rfl, ?_⟩; replace HO_550001 := kr_ HO_550001 hb; replace HO_550002 := kr_ HO_550002 hb; replace HO_550003 := kr_ HO_550003 hb; replace HO_550004 := kr_ HO_550004 hb; replace HO_566001 := kr_ HO_566001 hb; replace HO_566002 := kr_ HO_566002 hb; replace HO_566003 := kr_ HO_566003 hb; replace HO_566004 := kr_ HO_566004 hb; replace HO_583001 := kr_ HO_583001 hb; replace HO_583002 := kr_ HO_583002 hb; replace HO_583003 := kr_ HO_583003 hb; replace HO_583004 := kr_ HO_583004 hb; replace BK516 := bkb_ BK516 hb; replace BK549 := bkb_ BK549 hb; replace BK565 := bkb_ BK565 hb; replace BK582 := bkb_ BK582 hb; replace HB := bst_ hb; clear hb; have hnb127 := NB516_549.out; have hnc127 := NB549_516.out; have hnb128 := NB516_565.out; have hnc128 := NB565_516.out; have hcz129_0 := c7_ BK516) | ((with_reducible refine gc_ 8 rfl ?_); refine ck_ Tryz.func8 (laws_toDesk.calls _ _ _ _ _ _ _ _ _ _ _ _ _ _ _ _ _ _ _ _ _ _ _ _ (kc_ HR0_1) HC0_1.out (kc_ HR0_2) HC0_2.out (kc_ HR0_3) HC0_3.out (kc_ HR0_4) HC0_4.out A117.out) ?_; rintro e w130 ⟨v614, v617, v620, v623, rfl, ho0, ho1, ho2, ho3, hb⟩; refine ⟨_, rfl, ?_⟩; have HO615 := kl_ (kn_ (kn_ (kn_ ho0 HO_550001) HO_566001) HO_583001); replace HO_550001 := ke_' HO_550001 ho0 hb; replace HO_566001 := ke_' HO_566001 ho0 hb; replace HO_583001 := ke_' HO_583001 ho0 hb; have HO618 := kl_ (kn_ (kn_ (kn_ ho1 HO_550002) HO_566002) HO_583002); replace HO_550002 := ke_' HO_550002 ho1 hb; replace HO_566002 := ke_' HO_566002 ho1 hb; replace HO_583002 := ke_' HO_583002 ho1 hb; have HO621 := kl_ (kn_ (kn_ (kn_ ho2 HO_550003) HO_566003) HO_583003); replace HO_550003 := ke_' HO_550003 ho2 hb; replace HO_566003 := ke_' HO_566003 ho2 hb; replace HO_583003 := ke_' HO_583003 ho2 hb; have HO624 := kl_ (kn_ (kn_ (kn_ ho3 HO_550004) HO_566004) HO_583004); replace HO_550004 := ke_' HO_550004 ho3 hb; replace HO_566004 := ke_' HO_566004 ho3 hb; replace HO_583004 := ke_' HO_583004 ho3 hb; replace BK516 := bkb_ BK516 hb; replace BK549 := bkb_ BK549 hb; replace BK565 := bkb_ BK565 hb; replace BK582 := bkb_ BK582 hb; replace HB := bst_ hb; clear hb ho0 ho1 ho2 ho3; obtain ⟨Ao131, co131, eo131⟩ := Kd.R_slice HO615.out; subst eo131; obtain ⟨Ao132, co132, eo132⟩ := Kd.R_slice HO618.out; subst eo132; obtain ⟨Ao133, co133, eo133⟩ := Kd.R_slice HO621.out; subst eo133; obtain ⟨Ao134, co134, eo134⟩ := Kd.R_slice HO624.out; subst eo134) | ((with_reducible refine gc_ 14 rfl ?_); refine ck_ Tryz.func14 (impl_StartAgain.calls _ _ _ _ _ _ _ _ _ _ _ _ _ _ _ _ _ _ _ _ _ _ _ _ _ _ ?side1 ?side2 ?side3 ?side4 ?side5 ?side6 ?side7 ?side8 A118.out ?side9) ?_; (case side1 => repeat (first | exact (Kd.R_reads' HO615.out).2.2 | (with_reducible refine Kd.C_alloc ?_ _) | (with_reducible refine Kd.C_drewN ?_ _) | (with_reducible refine Kd.C_drew ?_))); (case side2 => exact (Kd.R_reads' HO615.out).2.1); (case side3 => repeat (first | exact (Kd.R_reads' HO618.out).2.2 | (with_reducible refine Kd.C_alloc ?_ _) | (with_reducible refine Kd.C_drewN ?_ _) | (with_reducible refine Kd.C_drew ?_))); (case side4 => exact (Kd.R_reads' HO618.out).2.1); (case side5 => repeat (first | exact (Kd.R_reads' HO621.out).2.2 | (with_reducible refine Kd.C_alloc ?_ _) | (with_reducible refine Kd.C_drewN ?_ _) | (with_reducible refine Kd.C_drew ?_))); (case side6 => exact (Kd.R_reads' HO621.out).2.1); (case side7 => repeat (first | exact (Kd.R_reads' HO624.out).2.2 | (with_reducible refine Kd.C_alloc ?_ _) | (with_reducible refine Kd.C_drewN ?_ _) | (with_reducible refine Kd.C_drew ?_))); (case side8 => exact (Kd.R_reads' HO624.out).2.1); (case side9 => exact HTB.out.below bwl_); rintro e w135 ⟨v629, v632, v635, v638, rfl, ho0, ho1, ho2, ho3, hb⟩; refine ⟨_, rfl, ?_⟩; have HO630 := kl_ (kn_ (kn_ (kn_ (kn_ ho0 HO_550001) HO_566001) HO_583001) HO615); replace HO_550001 := ke_' HO_550001 ho0 hb; replace HO_566001 := ke_' HO_566001 ho0 hb; replace HO_583001 := ke_' HO_583001 ho0 hb; replace HO615 := ke_' HO615 ho0 hb; have HO633 := kl_ (kn_ (kn_ (kn_ (kn_ ho1 HO_550002) HO_566002) HO_583002) HO618); replace HO_550002 := ke_' HO_550002 ho1 hb; replace HO_566002 := ke_' HO_566002 ho1 hb; replace HO_583002 := ke_' HO_583002 ho1 hb; replace HO618 := ke_' HO618 ho1 hb; have HO636 := kl_ (kn_ (kn_ (kn_ (kn_ ho2 HO_550003) HO_566003) HO_583003) HO621); replace HO_550003 := ke_' HO_550003 ho2 hb; replace HO_566003 := ke_' HO_566003 ho2 hb; replace HO_583003 := ke_' HO_583003 ho2 hb; replace HO621 := ke_' HO621 ho2 hb; have HO639 := kl_ (kn_ (kn_ (kn_ (kn_ ho3 HO_550004) HO_566004) HO_583004) HO624); replace HO_550004 := ke_' HO_550004 ho3 hb; replace HO_566004 := ke_' HO_566004 ho3 hb; replace HO_583004 := ke_' HO_583004 ho3 hb; replace HO624 := ke_' HO624 ho3 hb; replace BK516 := bkb_ BK516 hb; replace BK549 := bkb_ BK549 hb; replace BK565 := bkb_ BK565 hb; replace BK582 := bkb_ BK582 hb; replace HB := bst_ hb; clear hb ho0 ho1 ho2 ho3) | ((with_reducible refine gd_ 14 rfl ?_); refine be_ 14 #[.int .i64 0, .slice none 0 0, .slice none 0 0, .slice none 0 0, .slice none 0 0, .string (⟨#[]⟩ : ByteArray), .string (⟨#[]⟩ : ByteArray)] 41 ?_; intro gb643 hg w136 hbox hb; replace HO_550001 := kr_ HO_550001 hb; replace HO_550002 := kr_ HO_550002 hb; replace HO_550003 := kr_ HO_550003 hb; replace HO_550004 := kr_ HO_550004 hb; replace HO_566001 := kr_ HO_566001 hb; replace HO_566002 := kr_ HO_566002 hb; replace HO_566003 := kr_ HO_566003 hb; replace HO_566004 := kr_ HO_566004 hb; replace HO_583001 := kr_ HO_583001 hb; replace HO_583002 := kr_ HO_583002 hb; replace HO_583003 := kr_ HO_583003 hb; replace HO_583004 := kr_ HO_583004 hb; replace HO615 := kr_ HO615 hb; replace HO618 := kr_ HO618 hb; replace HO621 := kr_ HO621 hb; replace HO624 := kr_ HO624 hb; replace HO630 := kr_ HO630 hb; replace HO633 := kr_ HO633 hb; replace HO636 := kr_ HO636 hb; replace HO639 := kr_ HO639 hb; have BK643 := Aside0.mk (hbox); have GW643 := bsz_ hg; have GE643 := bsz_ hg; replace HB := bst_ hb; have NB516_643 := nbl_ BK516 hg; have NB643_516 := nbr_ BK516 hg; replace BK516 := bkb_ BK516 hb; have NB549_643 := nbl_ BK549 hg; have NB643_549 := nbr_ BK549 hg; replace BK549 := bkb_ BK549 hb; have NB565_643 := nbl_ BK565 hg; have NB643_565 := nbr_ BK565 hg; replace BK565 := bkb_ BK565 hb; have NB582_643 := nbl_ BK582 hg; have NB643_582 := nbr_ BK582 hg; replace BK582 := bkb_ BK582 hb; clear hb hbox hg; have hnb137 := NB643_516.out; have hnc137 := NB516_643.out; have hnb138 := NB643_549.out; have hnc138 := NB549_643.out; have hnb139 := NB643_565.out; have hnc139 := NB565_643.out; have hnb140 := NB643_582.out; have hnc140 := NB582_643.out; have hcz141_0 := c7_ BK643; obtain ⟨Ao142, co142, eo142⟩ := Kd.R_slice HO630.out; subst eo142; obtain ⟨Ao143, co143, eo143⟩ := Kd.R_slice HO633.out; subst eo143; obtain ⟨Ao144, co144, eo144⟩ := Kd.R_slice HO636.out; subst eo144; obtain ⟨Ao145, co145, eo145⟩ := Kd.R_slice HO639.out; subst eo145))
         (try simp only [Act.put, List.setIfInBounds_toArray, List.set_cons_zero, List.set_cons_succ])
         go_cut [92] (fun v92 wc => ∃ (kq : Nat) (x92_118 : Bool), v92 = .bool x92_118 ∧ Aside0 (laws_FnExactStartAgain.j2 kq t606 x92_118 t566 t607 t608 t609 t610 t579 t580 = some r) ∧ Aside0 (kq ≤ kj72) ∧ Aside0 (Kd.R k97 97 wc w.heap.size (fun k_ => some k_ ≠ ((.slice Ao36 t601.length co36) : Value).ownBlock ∧ some k_ ≠ ((.slice Ao46 t567.length co46) : Value).ownBlock ∧ some k_ ≠ ((.slice Ao142 t628.length co142) : Value).ownBlock) (.slice Ao26 t534.length co26) t534) ∧ Aside0 (Kd.R Kd.string 9 wc w.heap.size (fun k_ => some k_ ≠ ((.slice Ao37 t602.length co37) : Value).ownBlock ∧ some k_ ≠ ((.slice Ao47 t570.length co47) : Value).ownBlock ∧ some k_ ≠ ((.slice Ao143 t631.length co143) : Value).ownBlock) (.slice Ao27 t537.length co27) t537) ∧ Aside0 (Kd.R k101 101 wc w.heap.size (fun k_ => some k_ ≠ ((.slice Ao38 t603.length co38) : Value).ownBlock ∧ some k_ ≠ ((.slice Ao48 t573.length co48) : Value).ownBlock ∧ some k_ ≠ ((.slice Ao144 t634.length co144) : Value).ownBlock) (.slice Ao28 t540.length co28) t540) ∧ Aside0 (Kd.R k69 69 wc w.heap.size (fun k_ => some k_ ≠ ((.slice Ao39 t604.length co39) : Value).ownBlock ∧ some k_ ≠ ((.slice Ao49 t576.length co49) : Value).ownBlock ∧ some k_ ≠ ((.slice Ao145 t637.length co145) : Value).ownBlock) (.slice Ao29 t543.length co29) t543) ∧ Aside0 (Kd.R k97 97 wc w.heap.size (fun k_ => some k_ ≠ ((.slice Ao26 t534.length co26) : Value).ownBlock ∧ some k_ ≠ ((.slice Ao46 t567.length co46) : Value).ownBlock ∧ some k_ ≠ ((.slice Ao142 t628.length co142) : Value).ownBlock) (.slice Ao36 t601.length co36) t601) ∧ Aside0 (Kd.R Kd.string 9 wc w.heap.size (fun k_ => some k_ ≠ ((.slice Ao27 t537.length co27) : Value).ownBlock ∧ some k_ ≠ ((.slice Ao47 t570.length co47) : Value).ownBlock ∧ some k_ ≠ ((.slice Ao143 t631.length co143) : Value).ownBlock) (.slice Ao37 t602.length co37) t602) ∧ Aside0 (Kd.R k101 101 wc w.heap.size (fun k_ => some k_ ≠ ((.slice Ao28 t540.length co28) : Value).ownBlock ∧ some k_ ≠ ((.slice Ao48 t573.length co48) : Value).ownBlock ∧ some k_ ≠ ((.slice Ao144 t634.length co144) : Value).ownBlock) (.slice Ao38 t603.length co38) t603) ∧ Aside0 (Kd.R k69 69 wc w.heap.size (fun k_ => some k_ ≠ ((.slice Ao29 t543.length co29) : Value).ownBlock ∧ some k_ ≠ ((.slice Ao49 t576.length co49) : Value).ownBlock ∧ some k_ ≠ ((.slice Ao145 t637.length co145) : Value).ownBlock) (.slice Ao39 t604.length co39) t604) ∧ Aside0 (Kd.R k97 97 wc w.heap.size (fun k_ => some k_ ≠ ((.slice Ao26 t534.length co26) : Value).ownBlock ∧ some k_ ≠ ((.slice Ao36 t601.length co36) : Value).ownBlock ∧ some k_ ≠ ((.slice Ao142 t628.length co142) : Value).ownBlock) (.slice Ao46 t567.length co46) t607) ∧ Aside0 (Kd.R Kd.string 9 wc w.heap.size (fun k_ => some k_ ≠ ((.slice Ao27 t537.length co27) : Value).ownBlock ∧ some k_ ≠ ((.slice Ao37 t602.length co37) : Value).ownBlock ∧ some k_ ≠ ((.slice Ao143 t631.length co143) : Value).ownBlock) (.slice Ao47 t570.length co47) t608) ∧ Aside0 (Kd.R k101 101 wc w.heap.size (fun k_ => some k_ ≠ ((.slice Ao28 t540.length co28) : Value).ownBlock ∧ some k_ ≠ ((.slice Ao38 t603.length co38) : Value).ownBlock ∧ some k_ ≠ ((.slice Ao144 t634.length co144) : Value).ownBlock) (.slice Ao48 t573.length co48) t609) ∧ Aside0 (Kd.R k69 69 wc w.heap.size (fun k_ => some k_ ≠ ((.slice Ao29 t543.length co29) : Value).ownBlock ∧ some k_ ≠ ((.slice Ao39 t604.length co39) : Value).ownBlock ∧ some k_ ≠ ((.slice Ao145 t637.length co145) : Value).ownBlock) (.slice Ao49 t576.length co49) t610) ∧ Aside0 (Kd.R k97 97 wc w.heap.size (fun k_ => some k_ ≠ ((.slice Ao26 t534.length co26) : Value).ownBlock ∧ some k_ ≠ ((.slice Ao36 t601.length co36) : Value).ownBlock ∧ some k_ ≠ ((.slice Ao46 t567.length co46) : Value).ownBlock) (.slice Ao142 t628.length co142) t628) ∧ Aside0 (Kd.R Kd.string 9 wc w.heap.size (fun k_ => some k_ ≠ ((.slice Ao27 t537.length co27) : Value).ownBlock ∧ some k_ ≠ ((.slice Ao37 t602.length co37) : Value).ownBlock ∧ some k_ ≠ ((.slice Ao47 t570.length co47) : Value).ownBlock) (.slice Ao143 t631.length co143) t631) ∧ Aside0 (Kd.R k101 101 wc w.heap.size (fun k_ => some k_ ≠ ((.slice Ao28 t540.length co28) : Value).ownBlock ∧ some k_ ≠ ((.slice Ao38 t603.length co38) : Value).ownBlock ∧ some k_ ≠ ((.slice Ao48 t573.length co48) : Value).ownBlock) (.slice Ao144 t634.length co144) t634) ∧ Aside0 (Kd.R k69 69 wc w.heap.size (fun k_ => some k_ ≠ ((.slice Ao29 t543.length co29) : Value).ownBlock ∧ some k_ ≠ ((.slice Ao39 t604.length co39) : Value).ownBlock ∧ some k_ ≠ ((.slice Ao49 t576.length co49) : Value).ownBlock) (.slice Ao145 t637.length co145) t637) ∧ Aside0 (wc.heap[gb516]? = some (.cells #[.int .i64 a0_0, (.slice A0_1 l0_1.length c0_1), (.slice A0_2 l0_2.length c0_2), (.slice A0_3 l0_3.length c0_3), (.slice A0_4 l0_4.length c0_4), .string a0_5, .string a0_6] 31 (0, 0))) ∧ Aside0 (wc.heap[gb549]? = some (.cells #[.int .i64 t533, (.slice Ao26 t534.length co26), (.slice Ao27 t537.length co27), (.slice Ao28 t540.length co28), (.slice Ao29 t543.length co29), .string t546, .string t547] 41 (0, 0))) ∧ Aside0 (wc.heap[gb565]? = some (.cells #[.int .i64 t550, (.slice Ao36 t601.length co36), (.slice Ao37 t602.length co37), (.slice Ao38 t603.length co38), (.slice Ao39 t604.length co39), .string t563, .string t564] 41 (0, 0))) ∧ Aside0 (wc.heap[gb582]? = some (.cells #[.int .i64 t566, (.slice Ao46 t567.length co46), (.slice Ao47 t570.length co47), (.slice Ao48 t573.length co48), (.slice Ao49 t576.length co49), .string t579, .string t580] 41 (0, 0))) ∧ Aside0 (wc.heap[gb643]? = some (.cells #[.int .i64 t627, (.slice Ao142 t628.length co142), (.slice Ao143 t631.length co143), (.slice Ao144 t634.length co144), (.slice Ao145 t637.length co145), .string t640, .string t641] 41 (0, 0))) ∧ Aside0 (Below w.heap.size w wc))
         case first =>
          have H := HC119.out
          clear HC119
          revert H
          refine bn_ ?_
          intro t644 A146 H
          by_cases c147 : t644 = true
          ·subst c147
           rw [if_pos rfl] at H
           have H' := Aside0.mk H
           clear H
           have hnb148 := NB643_516.out
           have hnc148 := NB516_643.out
           have hnb149 := NB643_549.out
           have hnc149 := NB549_643.out
           have hnb150 := NB643_565.out
           have hnc150 := NB565_643.out
           have hnb151 := NB643_582.out
           have hnc151 := NB582_643.out
           have hcz152_0 := c7_ BK643
           have hnb153 := NB549_516.out
           have hnc153 := NB516_549.out
           have hnb154 := NB549_565.out
           have hnc154 := NB565_549.out
           have hnb155 := NB549_582.out
           have hnc155 := NB582_549.out
           have hcz156_0 := c7_ BK549
           go_wp2_with (first | ((with_reducible refine gc_ 10 rfl ?_); refine ck_ Tryz.func10 (laws_eqDesk.calls _ _ _ _ _ _ _ _ _ _ _ _ _ _ _ _ _ _ _ _ _ _ _ _ _ _ _ _ _ _ _ _ _ ?side1 ?side2 ?side3 ?side4 ?side5 ?side6 ?side7 ?side8 ?side9 ?side10 ?side11 ?side12 ?side13 ?side14 ?side15 ?side16 A146.out) ?_; (case side1 => refine (Kd.R_reads' (e := 97) (base := w.heap.size) (ok := fun k_ => ((((True ∧ some k_ ≠ (.slice Ao26 t534.length co26 : Value).ownBlock) ∧ some k_ ≠ (.slice Ao36 t601.length co36 : Value).ownBlock) ∧ some k_ ≠ (.slice Ao46 t567.length co46 : Value).ownBlock) ∧ some k_ ≠ (.slice Ao131 t613.length co131 : Value).ownBlock)) (n := t628.length) (c := co142) ?_).2.2; exact (ks_ HO630)); (case side2 => exact (Kd.R_reads' HO630.out).2.1); (case side3 => refine (Kd.R_reads' (e := 9) (base := w.heap.size) (ok := fun k_ => ((((True ∧ some k_ ≠ (.slice Ao27 t537.length co27 : Value).ownBlock) ∧ some k_ ≠ (.slice Ao37 t602.length co37 : Value).ownBlock) ∧ some k_ ≠ (.slice Ao47 t570.length co47 : Value).ownBlock) ∧ some k_ ≠ (.slice Ao132 t616.length co132 : Value).ownBlock)) (n := t631.length) (c := co143) ?_).2.2; exact (ks_ HO633)); (case side4 => exact (Kd.R_reads' HO633.out).2.1); (case side5 => refine (Kd.R_reads' (e := 101) (base := w.heap.size) (ok := fun k_ => ((((True ∧ some k_ ≠ (.slice Ao28 t540.length co28 : Value).ownBlock) ∧ some k_ ≠ (.slice Ao38 t603.length co38 : Value).ownBlock) ∧ some k_ ≠ (.slice Ao48 t573.length co48 : Value).ownBlock) ∧ some k_ ≠ (.slice Ao133 t619.length co133 : Value).ownBlock)) (n := t634.length) (c := co144) ?_).2.2; exact (ks_ HO636)); (case side6 => exact (Kd.R_reads' HO636.out).2.1); (case side7 => refine (Kd.R_reads' (e := 69) (base := w.heap.size) (ok := fun k_ => ((((True ∧ some k_ ≠ (.slice Ao29 t543.length co29 : Value).ownBlock) ∧ some k_ ≠ (.slice Ao39 t604.length co39 : Value).ownBlock) ∧ some k_ ≠ (.slice Ao49 t576.length co49 : Value).ownBlock) ∧ some k_ ≠ (.slice Ao134 t622.length co134 : Value).ownBlock)) (n := t637.length) (c := co145) ?_).2.2; exact (ks_ HO639)); (case side8 => exact (Kd.R_reads' HO639.out).2.1); (case side9 => refine (Kd.R_reads' (e := 97) (base := w.heap.size) (ok := fun k_ => (((some k_ ≠ (.slice Ao36 t601.length co36 : Value).ownBlock ∧ some k_ ≠ (.slice Ao46 t567.length co46 : Value).ownBlock) ∧ some k_ ≠ (.slice Ao131 t613.length co131 : Value).ownBlock) ∧ some k_ ≠ (.slice Ao142 t628.length co142 : Value).ownBlock)) (n := t534.length) (c := co26) ?_).2.2; exact (ks_ HO_550001)); (case side10 => exact (Kd.R_reads' HO_550001.out).2.1); (case side11 => refine (Kd.R_reads' (e := 9) (base := w.heap.size) (ok := fun k_ => (((some k_ ≠ (.slice Ao37 t602.length co37 : Value).ownBlock ∧ some k_ ≠ (.slice Ao47 t570.length co47 : Value).ownBlock) ∧ some k_ ≠ (.slice Ao132 t616.length co132 : Value).ownBlock) ∧ some k_ ≠ (.slice Ao143 t631.length co143 : Value).ownBlock)) (n := t537.length) (c := co27) ?_).2.2; exact (ks_ HO_550002)); (case side12 => exact (Kd.R_reads' HO_550002.out).2.1); (case side13 => refine (Kd.R_reads' (e := 101) (base := w.heap.size) (ok := fun k_ => (((some k_ ≠ (.slice Ao38 t603.length co38 : Value).ownBlock ∧ some k_ ≠ (.slice Ao48 t573.length co48 : Value).ownBlock) ∧ some k_ ≠ (.slice Ao133 t619.length co133 : Value).ownBlock) ∧ some k_ ≠ (.slice Ao144 t634.length co144 : Value).ownBlock)) (n := t540.length) (c := co28) ?_).2.2; exact (ks_ HO_550003)); (case side14 => exact (Kd.R_reads' HO_550003.out).2.1); (case side15 => refine (Kd.R_reads' (e := 69) (base := w.heap.size) (ok := fun k_ => (((some k_ ≠ (.slice Ao39 t604.length co39 : Value).ownBlock ∧ some k_ ≠ (.slice Ao49 t576.length co49 : Value).ownBlock) ∧ some k_ ≠ (.slice Ao134 t622.length co134 : Value).ownBlock) ∧ some k_ ≠ (.slice Ao145 t637.length co145 : Value).ownBlock)) (n := t543.length) (c := co29) ?_).2.2; exact (ks_ HO_550004)); (case side16 => exact (Kd.R_reads' HO_550004.out).2.1); rintro e w157 ⟨rfl, hb⟩; refine ⟨_, rfl, ?_⟩; replace HO_550001 := krs_ HO_550001 hb; replace HO_550002 := krs_ HO_550002 hb; replace HO_550003 := krs_ HO_550003 hb; replace HO_550004 := krs_ HO_550004 hb; replace HO_566001 := krs_ HO_566001 hb; replace HO_566002 := krs_ HO_566002 hb; replace HO_566003 := krs_ HO_566003 hb; replace HO_566004 := krs_ HO_566004 hb; replace HO_583001 := krs_ HO_583001 hb; replace HO_583002 := krs_ HO_583002 hb; replace HO_583003 := krs_ HO_583003 hb; replace HO_583004 := krs_ HO_583004 hb; replace HO615 := krs_ HO615 hb; replace HO618 := krs_ HO618 hb; replace HO621 := krs_ HO621 hb; replace HO624 := krs_ HO624 hb; replace HO630 := krs_ HO630 hb; replace HO633 := krs_ HO633 hb; replace HO636 := krs_ HO636 hb; replace HO639 := krs_ HO639 hb; replace BK516 := bkb_ BK516 hb; replace BK549 := bkb_ BK549 hb; replace BK565 := bkb_ BK565 hb; replace BK582 := bkb_ BK582 hb; replace BK643 := kb7_ BK643 hb; replace HB := bst_ hb; clear hb))
           go_meet
           case rel => exact ⟨_, ((t642 != t548)), re_, H', ⟨by have := HJ11.out; have := HJ72.out; first | omega | exact Nat.le_refl _⟩, ⟨by (try simp only [hl566001_72]); (try simp only [hl566002_72]); (try simp only [hl566003_72]); (try simp only [hl566004_72]); (with_reducible repeat (first | apply Kd.R_alloc | apply Kd.R_drewN | apply Kd.R_drew)); exact Kd.R_mono HO_550001.out (fun _ hk => ⟨hk.1.1.1, ⟨hk.1.1.2, hk.2⟩⟩)⟩, ⟨by (try simp only [hl566001_72]); (try simp only [hl566002_72]); (try simp only [hl566003_72]); (try simp only [hl566004_72]); (with_reducible repeat (first | apply Kd.R_alloc | apply Kd.R_drewN | apply Kd.R_drew)); exact Kd.R_mono HO_550002.out (fun _ hk => ⟨hk.1.1.1, ⟨hk.1.1.2, hk.2⟩⟩)⟩, ⟨by (try simp only [hl566001_72]); (try simp only [hl566002_72]); (try simp only [hl566003_72]); (try simp only [hl566004_72]); (with_reducible repeat (first | apply Kd.R_alloc | apply Kd.R_drewN | apply Kd.R_drew)); exact Kd.R_mono HO_550003.out (fun _ hk => ⟨hk.1.1.1, ⟨hk.1.1.2, hk.2⟩⟩)⟩, ⟨by (try simp only [hl566001_72]); (try simp only [hl566002_72]); (try simp only [hl566003_72]); (try simp only [hl566004_72]); (with_reducible repeat (first | apply Kd.R_alloc | apply Kd.R_drewN | apply Kd.R_drew)); exact Kd.R_mono HO_550004.out (fun _ hk => ⟨hk.1.1.1, ⟨hk.1.1.2, hk.2⟩⟩)⟩, ⟨by (try simp only [hl566001_72]); (try simp only [hl566002_72]); (try simp only [hl566003_72]); (try simp only [hl566004_72]); (with_reducible repeat (first | apply Kd.R_alloc | apply Kd.R_drewN | apply Kd.R_drew)); exact Kd.R_mono HO_566001.out (fun _ hk => ⟨hk.1.1.1, ⟨hk.1.1.2, hk.2⟩⟩)⟩, ⟨by (try simp only [hl566001_72]); (try simp only [hl566002_72]); (try simp only [hl566003_72]); (try simp only [hl566004_72]); (with_reducible repeat (first | apply Kd.R_alloc | apply Kd.R_drewN | apply Kd.R_drew)); exact Kd.R_mono HO_566002.out (fun _ hk => ⟨hk.1.1.1, ⟨hk.1.1.2, hk.2⟩⟩)⟩, ⟨by (try simp only [hl566001_72]); (try simp only [hl566002_72]); (try simp only [hl566003_72]); (try simp only [hl566004_72]); (with_reducible repeat (first | apply Kd.R_alloc | apply Kd.R_drewN | apply Kd.R_drew)); exact Kd.R_mono HO_566003.out (fun _ hk => ⟨hk.1.1.1, ⟨hk.1.1.2, hk.2⟩⟩)⟩, ⟨by (try simp only [hl566001_72]); (try simp only [hl566002_72]); (try simp only [hl566003_72]); (try simp only [hl566004_72]); (with_reducible repeat (first | apply Kd.R_alloc | apply Kd.R_drewN | apply Kd.R_drew)); exact Kd.R_mono HO_566004.out (fun _ hk => ⟨hk.1.1.1, ⟨hk.1.1.2, hk.2⟩⟩)⟩, ⟨by (try simp only [hl566001_72]); (try simp only [hl566002_72]); (try simp only [hl566003_72]); (try simp only [hl566004_72]); (with_reducible repeat (first | apply Kd.R_alloc | apply Kd.R_drewN | apply Kd.R_drew)); exact Kd.R_mono HO_583001.out (fun _ hk => ⟨hk.1.1.1, ⟨hk.1.1.2, hk.2⟩⟩)⟩, ⟨by (try simp only [hl566001_72]); (try simp only [hl566002_72]); (try simp only [hl566003_72]); (try simp only [hl566004_72]); (with_reducible repeat (first | apply Kd.R_alloc | apply Kd.R_drewN | apply Kd.R_drew)); exact Kd.R_mono HO_583002.out (fun _ hk => ⟨hk.1.1.1, ⟨hk.1.1.2, hk.2⟩⟩)⟩, ⟨by (try simp only [hl566001_72]); (try simp only [hl566002_72]); (try simp only [hl566003_72]); (try simp only [hl566004_72]); (with_reducible repeat (first | apply Kd.R_alloc | apply Kd.R_drewN | apply Kd.R_drew)); exact Kd.R_mono HO_583003.out (fun _ hk => ⟨hk.1.1.1, ⟨hk.1.1.2, hk.2⟩⟩)⟩, ⟨by (try simp only [hl566001_72]); (try simp only [hl566002_72]); (try simp only [hl566003_72]); (try simp only [hl566004_72]); (with_reducible repeat (first | apply Kd.R_alloc | apply Kd.R_drewN | apply Kd.R_drew)); exact Kd.R_mono HO_583004.out (fun _ hk => ⟨hk.1.1.1, ⟨hk.1.1.2, hk.2⟩⟩)⟩, ⟨by (try simp only [hl566001_72]); (try simp only [hl566002_72]); (try simp only [hl566003_72]); (try simp only [hl566004_72]); (with_reducible repeat (first | apply Kd.R_alloc | apply Kd.R_drewN | apply Kd.R_drew)); exact Kd.R_mono HO630.out (fun _ hk => ⟨hk.1.1.1.2, ⟨hk.1.1.2, hk.1.2⟩⟩)⟩, ⟨by (try simp only [hl566001_72]); (try simp only [hl566002_72]); (try simp only [hl566003_72]); (try simp only [hl566004_72]); (with_reducible repeat (first | apply Kd.R_alloc | apply Kd.R_drewN | apply Kd.R_drew)); exact Kd.R_mono HO633.out (fun _ hk => ⟨hk.1.1.1.2, ⟨hk.1.1.2, hk.1.2⟩⟩)⟩, ⟨by (try simp only [hl566001_72]); (try simp only [hl566002_72]); (try simp only [hl566003_72]); (try simp only [hl566004_72]); (with_reducible repeat (first | apply Kd.R_alloc | apply Kd.R_drewN | apply Kd.R_drew)); exact Kd.R_mono HO636.out (fun _ hk => ⟨hk.1.1.1.2, ⟨hk.1.1.2, hk.1.2⟩⟩)⟩, ⟨by (try simp only [hl566001_72]); (try simp only [hl566002_72]); (try simp only [hl566003_72]); (try simp only [hl566004_72]); (with_reducible repeat (first | apply Kd.R_alloc | apply Kd.R_drewN | apply Kd.R_drew)); exact Kd.R_mono HO639.out (fun _ hk => ⟨hk.1.1.1.2, ⟨hk.1.1.2, hk.1.2⟩⟩)⟩, ⟨by (try simp only [hl566001_72]); (try simp only [hl566002_72]); (try simp only [hl566003_72]); (try simp only [hl566004_72]); exact kb_ BK516⟩, ⟨by (try simp only [hl566001_72]); (try simp only [hl566002_72]); (try simp only [hl566003_72]); (try simp only [hl566004_72]); exact kb_ BK549⟩, ⟨by (try simp only [hl566001_72]); (try simp only [hl566002_72]); (try simp only [hl566003_72]); (try simp only [hl566004_72]); exact kb_ BK565⟩, ⟨by (try simp only [hl566001_72]); (try simp only [hl566002_72]); (try simp only [hl566003_72]); (try simp only [hl566004_72]); exact kb_ BK582⟩, ⟨by (try simp only [hl566001_72]); (try simp only [hl566002_72]); (try simp only [hl566003_72]); (try simp only [hl566004_72]); exact kb_ BK643⟩, ⟨bwl_⟩⟩
          ·rw [if_neg c147] at H
           exact absurd H (by simp)
         case rest =>
          clear HC119
          (try clear c68);(try clear c71);(try clear c105);(try clear c108b0);(try clear c116b0);(try clear hcz123_0);(try clear hcz125_0);(try clear hcz129_0);(try clear hcz141_0);(try clear hcz30_0);(try clear hcz35_0);(try clear hcz45_0);(try clear hcz84_0)
          obtain ⟨kq, x92_118, rfl, HA, HJ118, HO_550001, HO_550002, HO_550003, HO_550004, HO_566001, HO_566002, HO_566003, HO_566004, HO_583001, HO_583002, HO_583003, HO_583004, HO_644001, HO_644002, HO_644003, HO_644004, BK516, BK549, BK565, BK582, BK643, HB⟩ := hcut
          have hl583001_118 := (Kd.R_reads' HO_583001.out).1
          rw [hl583001_118] at HO_583001
          (try simp only [hl583001_118])
          (try simp only [hl583001_118] at BK516)
          (try simp only [hl583001_118] at BK549)
          (try simp only [hl583001_118] at BK565)
          (try simp only [hl583001_118] at BK582)
          (try simp only [hl583001_118] at BK643)
          (try simp only [hl583001_118] at HO_550001)
          (try simp only [hl583001_118] at HO_550002)
          (try simp only [hl583001_118] at HO_550003)
          (try simp only [hl583001_118] at HO_550004)
          (try simp only [hl583001_118] at HO_566001)
          (try simp only [hl583001_118] at HO_566002)
          (try simp only [hl583001_118] at HO_566003)
          (try simp only [hl583001_118] at HO_566004)
          (try simp only [hl583001_118] at HO_583002)
          (try simp only [hl583001_118] at HO_583003)
          (try simp only [hl583001_118] at HO_583004)
          (try simp only [hl583001_118] at HO_644001)
          (try simp only [hl583001_118] at HO_644002)
          (try simp only [hl583001_118] at HO_644003)
          (try simp only [hl583001_118] at HO_644004)
          have hl583002_118 := (Kd.R_reads' HO_583002.out).1
          rw [hl583002_118] at HO_583002
          (try simp only [hl583002_118])
          (try simp only [hl583002_118] at BK516)
          (try simp only [hl583002_118] at BK549)
          (try simp only [hl583002_118] at BK565)
          (try simp only [hl583002_118] at BK582)
          (try simp only [hl583002_118] at BK643)
          (try simp only [hl583002_118] at HO_550001)
          (try simp only [hl583002_118] at HO_550002)
          (try simp only [hl583002_118] at HO_550003)
          (try simp only [hl583002_118] at HO_550004)
          (try simp only [hl583002_118] at HO_566001)
          (try simp only [hl583002_118] at HO_566002)
          (try simp only [hl583002_118] at HO_566003)
          (try simp only [hl583002_118] at HO_566004)
          (try simp only [hl583002_118] at HO_583001)
          (try simp only [hl583002_118] at HO_583003)
          (try simp only [hl583002_118] at HO_583004)
          (try simp only [hl583002_118] at HO_644001)
          (try simp only [hl583002_118] at HO_644002)
          (try simp only [hl583002_118] at HO_644003)
          (try simp only [hl583002_118] at HO_644004)
          have hl583003_118 := (Kd.R_reads' HO_583003.out).1
          rw [hl583003_118] at HO_583003
          (try simp only [hl583003_118])
          (try simp only [hl583003_118] at BK516)
          (try simp only [hl583003_118] at BK549)
          (try simp only [hl583003_118] at BK565)
          (try simp only [hl583003_118] at BK582)
          (try simp only [hl583003_118] at BK643)
          (try simp only [hl583003_118] at HO_550001)
          (try simp only [hl583003_118] at HO_550002)
          (try simp only [hl583003_118] at HO_550003)
          (try simp only [hl583003_118] at HO_550004)
          (try simp only [hl583003_118] at HO_566001)
          (try simp only [hl583003_118] at HO_566002)
          (try simp only [hl583003_118] at HO_566003)
          (try simp only [hl583003_118] at HO_566004)
          (try simp only [hl583003_118] at HO_583001)
          (try simp only [hl583003_118] at HO_583002)
          (try simp only [hl583003_118] at HO_583004)
          (try simp only [hl583003_118] at HO_644001)
          (try simp only [hl583003_118] at HO_644002)
          (try simp only [hl583003_118] at HO_644003)
          (try simp only [hl583003_118] at HO_644004)
          have hl583004_118 := (Kd.R_reads' HO_583004.out).1
          rw [hl583004_118] at HO_583004
          (try simp only [hl583004_118])
          (try simp only [hl583004_118] at BK516)
          (try simp only [hl583004_118] at BK549)
          (try simp only [hl583004_118] at BK565)
          (try simp only [hl583004_118] at BK582)
          (try simp only [hl583004_118] at BK643)
          (try simp only [hl583004_118] at HO_550001)
          (try simp only [hl583004_118] at HO_550002)
          (try simp only [hl583004_118] at HO_550003)
          (try simp only [hl583004_118] at HO_550004)
          (try simp only [hl583004_118] at HO_566001)
          (try simp only [hl583004_118] at HO_566002)
          (try simp only [hl583004_118] at HO_566003)
          (try simp only [hl583004_118] at HO_566004)
          (try simp only [hl583004_118] at HO_583001)
          (try simp only [hl583004_118] at HO_583002)
          (try simp only [hl583004_118] at HO_583003)
          (try simp only [hl583004_118] at HO_644001)
          (try simp only [hl583004_118] at HO_644002)
          (try simp only [hl583004_118] at HO_644003)
          (try simp only [hl583004_118] at HO_644004)
          cases kq with
          | zero => exact absurd HA.out (by simp [laws_FnExactStartAgain.j2])
          | succ kj118 =>
           have H := HA.out
           clear HA
           simp only [laws_FnExactStartAgain.j2] at H
           by_cases c168 : x92_118 = true
           ·rw [if_pos c168] at H
            exact absurd H (by simp)
           ·replace c168 := Bool.eq_false_iff.mpr c168
            subst c168
            rw [if_neg (show ¬ (false = true) by decide)] at H
            revert H
            refine bn_ ?_
            intro t645 A169 H
            revert H
            refine io_ ?_
            intro c170b0 H
            revert H
            refine ke_ ?_
            intro c177b0 H
            obtain rfl := Option.some.inj H
            have hnb178 := NB582_516.out
            have hnc178 := NB516_582.out
            have hnb179 := NB582_549.out
            have hnc179 := NB549_582.out
            have hnb180 := NB582_565.out
            have hnc180 := NB565_582.out
            have hnb181 := NB582_643.out
            have hnc181 := NB643_582.out
            have hcz182_0 := c7_ BK582
            go_wp2_with (first | ((with_reducible refine gc_ 16 rfl ?_); refine ck_ Tryz.func16 (laws_heldDesk.calls _ _ _ _ _ _ _ _ _ _ _ _ _ _ _ _ _ _ _ ?side1 ?side2 ?side3 ?side4 ?side5 ?side6 ?side7 ?side8 A169.out) ?_; (case side1 => repeat (first | exact (Kd.R_reads' HO_583001.out).2.2 | (with_reducible refine Kd.C_alloc ?_ _) | (with_reducible refine Kd.C_drewN ?_ _) | (with_reducible refine Kd.C_drew ?_))); (case side2 => exact (Kd.R_reads' HO_583001.out).2.1); (case side3 => repeat (first | exact (Kd.R_reads' HO_583002.out).2.2 | (with_reducible refine Kd.C_alloc ?_ _) | (with_reducible refine Kd.C_drewN ?_ _) | (with_reducible refine Kd.C_drew ?_))); (case side4 => exact (Kd.R_reads' HO_583002.out).2.1); (case side5 => repeat (first | exact (Kd.R_reads' HO_583003.out).2.2 | (with_reducible refine Kd.C_alloc ?_ _) | (with_reducible refine Kd.C_drewN ?_ _) | (with_reducible refine Kd.C_drew ?_))); (case side6 => exact (Kd.R_reads' HO_583003.out).2.1); (case side7 => repeat (first | exact (Kd.R_reads' HO_583004.out).2.2 | (with_reducible refine Kd.C_alloc ?_ _) | (with_reducible refine Kd.C_drewN ?_ _) | (with_reducible refine Kd.C_drew ?_))); (case side8 => exact (Kd.R_reads' HO_583004.out).2.1); rintro e w183 ⟨rfl, hb⟩; refine ⟨_, rfl, ?_⟩; replace HO_550001 := kr_ HO_550001 hb; replace HO_550002 := kr_ HO_550002 hb; replace HO_550003 := kr_ HO_550003 hb; replace HO_550004 := kr_ HO_550004 hb; replace HO_566001 := kr_ HO_566001 hb; replace HO_566002 := kr_ HO_566002 hb; replace HO_566003 := kr_ HO_566003 hb; replace HO_566004 := kr_ HO_566004 hb; replace HO_583001 := kr_ HO_583001 hb; replace HO_583002 := kr_ HO_583002 hb; replace HO_583003 := kr_ HO_583003 hb; replace HO_583004 := kr_ HO_583004 hb; replace HO_644001 := kr_ HO_644001 hb; replace HO_644002 := kr_ HO_644002 hb; replace HO_644003 := kr_ HO_644003 hb; replace HO_644004 := kr_ HO_644004 hb; replace BK516 := bkb_ BK516 hb; replace BK549 := bkb_ BK549 hb; replace BK565 := bkb_ BK565 hb; replace BK582 := bkb_ BK582 hb; replace BK643 := bkb_ BK643 hb; replace HB := bst_ hb; clear hb))
            go_ret
            exact ⟨rr_, bwl_⟩
     ·rw [if_neg c71] at H
      exact absurd H (by simp)
end Go.Proofs.YtkoeeajciciphaaGreatDoor.QFnExactStartAgain
