import Derived.Test.YtlcgonaapmmnkaaDoorSq
import Derived.Test.YtlcgonaapmmnkaaDoorQFnLogsx0
import Derived.Test.YtlcgonaapmmnkaaDoorQFnLogsx3
import Derived.Test.YtlcgonaapmmnkaaDoorQFnLogsx4
import Derived.Test.YtlcgonaapmmnkaaDoorQFnLogsx6
import Derived.Test.YtlcgonaapmmnkaaDoorQFnLogsx8
import Derived.Test.YtlcgonaapmmnkaaDoorQFnLogsx9
namespace Go.Proofs.YtlcgonaapmmnkaaDoor.QFnLogs
open Sq (fl pu_ gl_ b20_ b21_ b30_ b31_ b32_ od_ rr_ be_)
open Base (bwl_ bst_ bsz_ bkb_ nbl_ nbr_ kbl_ bkm_)
open Go.RowKit Go.Proofs.YtlcgonaapmmnkaaDoorW.PrintWords Go.Proofs.YtlcgonaapmmnkaaDoorW.PrintLast Go.Proofs.YtlcgonaapmmnkaaDoorW.PrintMore
attribute [local go_sem] max2_int min2_int max_two min_two max_three min_three max_four min_four
set_option linter.unusedVariables false
set_option linter.unusedSimpArgs false
def impl_ReadFrames.l0 : Nat → ByteArray → List (S26) → Int → Option ((List (S26)) × Int)
 | 0, _, _, _ => none
 | k + 1, x0, x4, x5 => if 0 ≤ x5 then (if x5 ≤ (x0.size : Int) then ((impl_readFrame.f k (x0.extract (x5 : Int).toNat x0.size)).bind fun bt178 => (if bt178.2.2.2 = 0 then (some (x4, x5)) else (if x4.length < 3518437208883 then (impl_ReadFrames.l0 k x0 (x4 ++ [(⟨bt178.1, bt178.2.1, bt178.2.2.1⟩ : S26)]) (wrap64 (x5 + bt178.2.2.2))) else (none)))) else (none)) else (none)
def impl_ReadFrames.f (k : Nat) (a0 : ByteArray) : Option ((List (S26)) × Int) := impl_ReadFrames.l0 k a0 (([] : List (S26))) 0
theorem impl_ReadFrames.mono_l : ∀ k, (∀ y0 y1 y2, LeO (impl_ReadFrames.l0 k y0 y1 y2) (impl_ReadFrames.l0 (k + 1) y0 y1 y2))
 | 0 => fun _ _ _ r h => by simp [impl_ReadFrames.l0] at h
 | k + 1 => by
  have ih0 := impl_ReadFrames.mono_l k
  ·intro y0 y1 y2
   unfold impl_ReadFrames.l0
   repeat' first
   | (with_reducible exact ih0 _ _ _)
   | (with_reducible exact impl_readFrame.mono _ _)
   | (with_reducible exact LeO.refl _)
   | (with_reducible exact LeO.none _)
   | (with_reducible refine LeO.ite ?_ ?_)
   | (with_reducible refine LeO.bind ?_ (fun _ => ?_))
   | exact ih0 _ _ _
   | exact impl_readFrame.mono _ _
   | exact LeO.none _
   | refine LeO.ite ?_ ?_
   | refine LeO.bind ?_ (fun _ => ?_)
theorem impl_ReadFrames.mono : ∀ a0 k, LeO (impl_ReadFrames.f k a0) (impl_ReadFrames.f (k + 1) a0) := by
 intro a0 k
 have ih0 := impl_ReadFrames.mono_l k
 unfold impl_ReadFrames.f
 repeat' first
   | (with_reducible exact ih0 _ _ _)
   | (with_reducible exact impl_readFrame.mono _ _)
   | (with_reducible exact LeO.refl _)
   | (with_reducible exact LeO.none _)
   | (with_reducible refine LeO.ite ?_ ?_)
   | (with_reducible refine LeO.bind ?_ (fun _ => ?_))
   | exact ih0 _ _ _
   | exact impl_readFrame.mono _ _
   | exact LeO.none _
   | refine LeO.ite ?_ ?_
   | refine LeO.bind ?_ (fun _ => ?_)
set_option maxHeartbeats 8000000 in
set_option maxRecDepth 100000 in
theorem impl_ReadFrames.calls (k : Nat) (a0 : ByteArray) (r1 : List (S26)) (r2 : Int) (w : World) (h : impl_ReadFrames.f k a0 = some (r1, r2)) (hT : Go.Proofs.YtlcgonaapmmnkaaDoor.Base.Tb2 w) :
  Calls Tryd.prog 28 #[.string a0] w fun e w' => ∃ v0_ : Value, e = .returned (.tuple #[v0_, .int .i64 r2]) ∧ Kd.R k26 26 w' w.heap.size (fun _ => True) v0_ r1 ∧ Below w.heap.size w w' := by
 have HTB := Aside0.mk hT
 clear hT
 have hu26 := Tryd.underlying26
 have HB := Aside0.mk (Below.refl w.heap.size w)
 have H : (impl_ReadFrames.l0 k a0 (([] : List (S26))) 0) = some (r1, r2) := h
 clear h
 obtain ⟨y175, hy175⟩ : ∃ y_ : List (S26), y_ = (([] : List (S26))) := ⟨_, rfl⟩
 replace H : (impl_ReadFrames.l0 k a0 y175 0) = some (r1, r2) := by first | (rw [hy175]; with_reducible exact H) | (have H2_ := (Option.bind_some _ _).symm.trans H; rw [hy175]; with_reducible exact H2_) | (have H2_ := (Option.bind_some _ _).symm.trans H; with_reducible exact H2_) | with_reducible exact H | (rw [hy175]; exact H) | exact H
 have Ny175 := Aside0.mk hy175
 clear hy175
 have H' := Aside0.mk H
 clear H
 go_enter Tryd.func28, Tryd.ntmps28
 go_wp2_with (first | ((with_reducible refine gate_dst (N := 8) rfl ?_); refine Kd.R_lit k26 _ 26 ?hg (N := 8) ?hd (xs := ([] : List (S26))) (inner := []) (ok := fun _ => True) (okp := fun _ => True) ?hr ?hp (fun _ hk => hk) trivial (Below.refl _ _) (Nat.le_refl _) (by simp) ?_; (case hd => rfl); (case hg => rfl); (case hr => first | (go_simp; done) | (go_simp; rfl)); (case hp => exact (Reps.none _ _)); intro v176 w2 ho3 hb hg_ hnew_; clear hg_ hnew_; (first | rw [← Ny175.out] at ho3 | (simp only [Int.reduceToNat] at ho3; rw [← Ny175.out] at ho3)); have HO177 := Aside0.mk (Kd.R_lower ho3 (below_size bwl_)); replace HB := bst_ hb; clear hb ho3))
 go_loopg [4, 5] k (fun kq v4 v5 w' => ∃ (x4_1 : List (S26)) (x5_1 : Int), v5 = .int .i64 x5_1 ∧ Aside0 (impl_ReadFrames.l0 kq a0 x4_1 x5_1 = some (r1, r2)) ∧ Aside0 (kq ≤ k) ∧ Aside0 (Kd.R k26 26 w' w.heap.size (fun _ => True) v4 x4_1) ∧ Aside0 (Below w.heap.size w w'))
 case atStart => exact ⟨(y175), (0), (by first | rfl | (simp; done) | (simp [*]; done)), H', ⟨Nat.le_refl _⟩, ⟨by (with_reducible repeat (first | apply Kd.R_alloc | apply Kd.R_drewN | apply Kd.R_drew)); exact HO177.out⟩, ⟨bwl_⟩⟩
 case round =>
  clear H'
  obtain ⟨x4_1, x5_1, rfl, HA, HK1, HO_4, HB⟩ := hrel
  cases gk with
  | zero => exact absurd HA.out (by simp [impl_ReadFrames.l0])
  | succ k1 =>
   have H := HA.out
   clear HA
   simp only [impl_ReadFrames.l0] at H
   by_cases c4 : 0 ≤ x5_1
   ·rw [if_pos c4] at H
    have c4b0 := eq_true c4
    have c4b1 : decide (0 ≤ x5_1) = true := decide_eq_true c4
    clear c4
    by_cases c5 : x5_1 ≤ (a0.size : Int)
    ·rw [if_pos c5] at H
     have c5b0 := eq_true c5
     have c5b1 : decide (x5_1 ≤ (a0.size : Int)) = true := decide_eq_true c5
     clear c5
     replace H := Option.bind_eq_some_iff.mp H
     obtain ⟨⟨t178, t179, t180, t181⟩, A60, H⟩ := H
     (try dsimp only at H)
     have A6 := Aside0.mk A60
     clear A60
     by_cases c7 : t181 = 0
     ·rw [if_pos c7] at H
      have c7b0 : (t181 == 0) = true := beq_iff_eq.mpr c7
      have c7b1 : (t181 != 0) = false := bne_eq_false_iff_eq.mpr c7
      clear c7
      simp only [Option.some.injEq, Prod.mk.injEq] at H
      obtain ⟨rfl, rfl⟩ := H
      go_wp2_with (first | ((with_reducible refine gate_callee (f := 65) rfl ?_); refine gl_ (some 13) Tryd.func65 #[.string (a0.extract (x5_1 : Int).toNat a0.size)] ?_; (with_reducible refine (impl_readFrame.calls k1 (a0.extract (x5_1 : Int).toNat a0.size) t178 t179 t180 t181 _ A6.out ?side1).mono ?_); (case side1 => exact HTB.out.below bwl_); rintro e w8 ⟨rfl, hb⟩; refine ⟨_, rfl, ?_⟩; replace HO_4 := Aside0.mk (Kd.R_below (by (with_reducible repeat (first | apply Kd.R_alloc | apply Kd.R_drewN | apply Kd.R_drew)); exact HO_4.out) hb); replace HB := bst_ hb; clear hb) | ((with_reducible refine gate_dst (N := 6) rfl ?_); refine be_ 6 #[.int .i64 0, .string (⟨#[]⟩ : ByteArray), .string (⟨#[]⟩ : ByteArray)] 26 ?_; intro gb182 hg w9 hbox hb; replace HO_4 := Aside0.mk (Kd.R_below (Kd.R_elderB (by (with_reducible repeat (first | apply Kd.R_alloc | apply Kd.R_drewN | apply Kd.R_drew)); exact HO_4.out) gb182 (Nat.le_of_eq hg.symm)) hb); have BK182 := Aside0.mk (hbox); have GW182 := bsz_ hg; have GE182 := bsz_ hg; replace HB := bst_ hb; clear hb hbox hg; have hcz10_0 := b30_ BK182; have hcz10_1 := b31_ BK182; have hcz10_2 := b32_ BK182; have hfz10_0 := blk_frozen BK182.out 0; have hfz10_1 := blk_frozen BK182.out 1; have hfz10_2 := blk_frozen BK182.out 2))
      go_ret2
      exact ⟨_, by first | rfl | (simp [errW_none, errW_some] <;> rfl) | (simp [*, errW_none, errW_some] <;> rfl), by (with_reducible repeat (first | apply Kd.R_alloc | apply Kd.R_drewN | apply Kd.R_drew)); exact Kd.R_mono (Kd.R_far (p := ⟨gb182, 2, none⟩) (Kd.R_far (p := ⟨gb182, 1, none⟩) (Kd.R_far (p := ⟨gb182, 0, none⟩) (Kd.R_mono HO_4.out (fun k_ hk => (⟨hk, hk.2⟩ : _ ∧ k_ ≠ gb182))) (fun _ hk => hk.2) (.int .i64 t178)) (fun _ hk => hk.2) (.string t179)) (fun _ hk => hk.2) (.string t180)) (fun _ hk => trivial), bwl_⟩
     ·rw [if_neg c7] at H
      have c7b0 : (t181 == 0) = false := beq_eq_false_iff_ne.mpr c7
      have c7b1 : (t181 != 0) = true := bne_iff_ne.mpr c7
      by_cases c11 : x4_1.length < 3518437208883
      ·rw [if_pos c11] at H
       have LMc11 := Aside0.mk c11
       clear c11
       obtain ⟨y183, hy183⟩ : ∃ y_ : List (S26), y_ = (x4_1 ++ [(⟨t178, t179, t180⟩ : S26)]) := ⟨_, rfl⟩
       replace H : (impl_ReadFrames.l0 k1 a0 y183 (wrap64 (x5_1 + t181))) = some (r1, r2) := by first | (rw [hy183]; with_reducible exact H) | (have H2_ := (Option.bind_some _ _).symm.trans H; rw [hy183]; with_reducible exact H2_) | (have H2_ := (Option.bind_some _ _).symm.trans H; with_reducible exact H2_) | with_reducible exact H | (rw [hy183]; exact H) | exact H
       have Ny183 := Aside0.mk hy183
       clear hy183
       have H' := Aside0.mk H
       clear H
       go_wp2_with (first | ((with_reducible refine gate_callee (f := 65) rfl ?_); refine gl_ (some 13) Tryd.func65 #[.string (a0.extract (x5_1 : Int).toNat a0.size)] ?_; (with_reducible refine (impl_readFrame.calls k1 (a0.extract (x5_1 : Int).toNat a0.size) t178 t179 t180 t181 _ A6.out ?side1).mono ?_); (case side1 => exact HTB.out.below bwl_); rintro e w12 ⟨rfl, hb⟩; refine ⟨_, rfl, ?_⟩; replace HO_4 := Aside0.mk (Kd.R_below (by (with_reducible repeat (first | apply Kd.R_alloc | apply Kd.R_drewN | apply Kd.R_drew)); exact HO_4.out) hb); replace HB := bst_ hb; clear hb) | ((with_reducible refine gate_dst (N := 6) rfl ?_); refine be_ 6 #[.int .i64 0, .string (⟨#[]⟩ : ByteArray), .string (⟨#[]⟩ : ByteArray)] 26 ?_; intro gb182 hg w13 hbox hb; replace HO_4 := Aside0.mk (Kd.R_below (Kd.R_elderB (by (with_reducible repeat (first | apply Kd.R_alloc | apply Kd.R_drewN | apply Kd.R_drew)); exact HO_4.out) gb182 (Nat.le_of_eq hg.symm)) hb); have BK182 := Aside0.mk (hbox); have GW182 := bsz_ hg; have GE182 := bsz_ hg; replace HB := bst_ hb; clear hb hbox hg; have hcz14_0 := b30_ BK182; have hcz14_1 := b31_ BK182; have hcz14_2 := b32_ BK182; have hfz14_0 := blk_frozen BK182.out 0; have hfz14_1 := blk_frozen BK182.out 1; have hfz14_2 := blk_frozen BK182.out 2) | ((with_reducible refine gate_builtin (b := .append) (xs := #[.tmp 20, .tmp 22]) rfl ?_); at_builtin; refine Kd.R_append k26 (w0 := w) w.heap.size rfl (.tmp 20) (.tmp 22) 42 26 (.agg #[(.int .i64 0), (.string ⟨#[]⟩), (.string ⟨#[]⟩)]) 40 rfl Tryd.underlying42 info26 rfl (by decide) (by omega) u4 x4_1 (⟨t178, t179, t180⟩ : S26) [.int .i64 t178, .string t179, .string t180] (fun k_ => k_ ≠ gb182) (fun _ => False) rfl (by first | (go_simp; done) | (go_simp; rfl)) ?aP (fun _ hk => hk.elim) ?aF ?aO ?aB ?aS ?aL ?_; (case aP => exact k26_mkM _ _ _ (⟨t178, t179, t180⟩ : S26)); (case aB => exact bwl_); (case aF => exact (fun k_ hk => Kd.freshB (g := gb182) (o := .cells #[.int .i64 t178, .string t179, .string t180] 26 (0, 0)) (by (with_reducible repeat (first | refine blk_drewN ?_ _ | refine blk_drew ?_ | refine blk_alloc ?_ _)); refine blk_put (cs := #[.int .i64 t178, .string t179, .string (⟨#[]⟩ : ByteArray)]) ?_ 2 _ rfl; (with_reducible repeat (first | refine blk_drewN ?_ _ | refine blk_drew ?_ | refine blk_alloc ?_ _)); refine blk_put (cs := #[.int .i64 t178, .string (⟨#[]⟩ : ByteArray), .string (⟨#[]⟩ : ByteArray)]) ?_ 1 _ rfl; (with_reducible repeat (first | refine blk_drewN ?_ _ | refine blk_drew ?_ | refine blk_alloc ?_ _)); refine blk_put (cs := #[.int .i64 0, .string (⟨#[]⟩ : ByteArray), .string (⟨#[]⟩ : ByteArray)]) ?_ 0 _ rfl; (with_reducible repeat (first | refine blk_drewN ?_ _ | refine blk_drew ?_ | refine blk_alloc ?_ _)); exact BK182.out) k_ hk)); (case aO => exact (by (with_reducible repeat (first | apply Kd.R_alloc | apply Kd.R_drewN | apply Kd.R_drew)); exact Kd.R_mono (Kd.R_far (p := ⟨gb182, 2, none⟩) (Kd.R_far (p := ⟨gb182, 1, none⟩) (Kd.R_far (p := ⟨gb182, 0, none⟩) (Kd.R_mono HO_4.out (fun k_ hk => (⟨hk, hk.2⟩ : _ ∧ k_ ≠ gb182))) (fun _ hk => hk.2) (.int .i64 t178)) (fun _ hk => hk.2) (.string t179)) (fun _ hk => hk.2) (.string t180)) (fun _ hk => hk.1.2))); (case aS => exact (below_size bwl_)); (case aL => have := LMc11.out; omega); intro v184 w15 ho hb hg hat; rw [← Ny183.out] at ho; replace BK182 := Aside0.mk (blk_grown (g := gb182) (o := .cells #[.int .i64 t178, .string t179, .string t180] 26 (0, 0)) (by (with_reducible repeat (first | refine blk_drewN ?_ _ | refine blk_drew ?_ | refine blk_alloc ?_ _)); refine blk_put (cs := #[.int .i64 t178, .string t179, .string (⟨#[]⟩ : ByteArray)]) ?_ 2 _ rfl; (with_reducible repeat (first | refine blk_drewN ?_ _ | refine blk_drew ?_ | refine blk_alloc ?_ _)); refine blk_put (cs := #[.int .i64 t178, .string (⟨#[]⟩ : ByteArray), .string (⟨#[]⟩ : ByteArray)]) ?_ 1 _ rfl; (with_reducible repeat (first | refine blk_drewN ?_ _ | refine blk_drew ?_ | refine blk_alloc ?_ _)); refine blk_put (cs := #[.int .i64 0, .string (⟨#[]⟩ : ByteArray), .string (⟨#[]⟩ : ByteArray)]) ?_ 0 _ rfl; (with_reducible repeat (first | refine blk_drewN ?_ _ | refine blk_drew ?_ | refine blk_alloc ?_ _)); exact BK182.out) hg (Kd.R_away HO_4.out (fun _ hk => hk.2))); replace HB := Aside0.mk (hb); have HO185 := Aside0.mk (ho); clear HO_4; clear ho hb hg hat))
       go_roundg k1
       case measure => have := HK1.out; omega
       case rel => exact ⟨(y183), (wrap64 (x5_1 + t181)), (by first | rfl | (simp; done) | (simp [*]; done)), H', ⟨by have := HK1.out; omega⟩, ⟨by (with_reducible repeat (first | apply Kd.R_alloc | apply Kd.R_drewN | apply Kd.R_drew)); exact Kd.R_mono HO185.out (fun _ hk => trivial)⟩, ⟨bwl_⟩⟩
      ·rw [if_neg c11] at H
       exact absurd H (by simp)
    ·rw [if_neg c5] at H
     exact absurd H (by simp)
   ·rw [if_neg c4] at H
    exact absurd H (by simp)
def IsS32 (w0 W : World) (g : Nat) (f0 : ByteArray) (f1 : ByteArray) : Prop := W.heap[g]? = some (.cells #[.string f0, .string f1] 32 (0, 0)) ∧ w0.heap.size ≤ g
theorem IsS32.grown {w0 W : World} {g : Nat} {f0 : ByteArray} {f1 : ByteArray} {W1 : World} {row : Option Nat} (h : IsS32 w0 W g f0 f1) (hw : W.grownBy W1 row) (hne : some g ≠ row) : IsS32 w0 W1 g f0 f1 := by
 obtain ⟨hb, hg⟩ := h
 exact ⟨blk_grown hb hw hne, hg⟩
theorem IsS32.kept {w0 W : World} {g : Nat} {f0 : ByteArray} {f1 : ByteArray} {W1 : World} {S : Nat → Prop} (h : IsS32 w0 W g f0 f1) (hk : Kept W W1 S) (hne : ¬ S g) : IsS32 w0 W1 g f0 f1 := by
 obtain ⟨hb, hg⟩ := h
 exact ⟨blk_kept hb hk hne, hg⟩
theorem IsS32.below {w0 W : World} {g : Nat} {f0 : ByteArray} {f1 : ByteArray} {W1 : World} (h : IsS32 w0 W g f0 f1) (hw : Below W.heap.size W W1) : IsS32 w0 W1 g f0 f1 := h.grown (grown_of_below hw none) (by simp)
theorem IsS32.alloc {w0 W : World} {g : Nat} {f0 : ByteArray} {f1 : ByteArray} (h : IsS32 w0 W g f0 f1) (o : Obj) : IsS32 w0 (W.alloc o) g f0 f1 := h.below (below_alloc (Below.refl _ _) o)
theorem IsS32.drewN {w0 W : World} {g : Nat} {f0 : ByteArray} {f1 : ByteArray} (h : IsS32 w0 W g f0 f1) (m : Nat) : IsS32 w0 (W.drewN m) g f0 f1 := h
theorem IsS32.drew {w0 W : World} {g : Nat} {f0 : ByteArray} {f1 : ByteArray} (h : IsS32 w0 W g f0 f1) : IsS32 w0 W.drew g f0 f1 := h
theorem IsS32.at_ {w0 W : World} {g : Nat} {f0 : ByteArray} {f1 : ByteArray} {w' : World} {m : Nat} (hq : W.drewN m = w') (h : IsS32 w0 W g f0 f1) : IsS32 w0 w' g f0 f1 := by subst hq; exact IsS32.drewN h m
theorem IsS32.apart {w0 W : World} {g : Nat} {f0 : ByteArray} {f1 : ByteArray} {α : Type} {d : Kd α} {e : Nat} {base : Nat} {ok : Nat → Prop} {v : Value} {xs : List α} (h : IsS32 w0 W g f0 f1) (ho : d.R e W base ok v xs) (ht : ∀ q, q ∈ e :: d.E → q ≠ 32) : d.R e W base (fun k => ok k ∧ k ≠ g) v xs := by
 obtain ⟨hb, hg⟩ := h
 exact Kd.R_types ho hb ht
theorem IsS32.own_ne {w0 W : World} {g : Nat} {f0 : ByteArray} {f1 : ByteArray} {α : Type} {d : Kd α} {e : Nat} {base : Nat} {ok : Nat → Prop} {v : Value} {xs : List α} (h : IsS32 w0 W g f0 f1) (ho : d.R e W base ok v xs) (ht : e ≠ 32) : some g ≠ v.ownBlock := by
 obtain ⟨hb, hg⟩ := h
 exact Kd.R_ne ho hb ht
theorem IsS32.ge {w0 W : World} {g : Nat} {f0 : ByteArray} {f1 : ByteArray} (h : IsS32 w0 W g f0 f1) : w0.heap.size ≤ g := by
 obtain ⟨hb, hg⟩ := h
 exact hg
theorem IsS32.far {w0 W : World} {g : Nat} {f0 : ByteArray} {f1 : ByteArray} {p : Addr} (h : IsS32 w0 W g f0 f1) (hne : g ≠ p.block) (u : Value) : IsS32 w0 (W.setCell p u) g f0 f1 := by
 obtain ⟨hb, hg⟩ := h
 exact ⟨blk_far hb hne u, hg⟩
theorem cellS32_0 {W : World} {g : Nat} {f0 : ByteArray} {f1 : ByteArray} (h : W.heap[g]? = some (.cells #[.string f0, .string f1] 32 (0, 0))) : W.cell? ⟨g, 0, none⟩ = some (.string f0) := (blk_cell h 0).trans rfl
theorem IsS32.set_0 {w0 W : World} {g : Nat} {f0 : ByteArray} {f1 : ByteArray} (h : IsS32 w0 W g f0 f1) (x : ByteArray) : IsS32 w0 (W.setCell ⟨g, 0, none⟩ (.string x)) g x f1 := by
 obtain ⟨hb, hg⟩ := h
 exact ⟨by simpa using blk_set hb 0 (.string x), hg⟩
theorem cellS32_1 {W : World} {g : Nat} {f0 : ByteArray} {f1 : ByteArray} (h : W.heap[g]? = some (.cells #[.string f0, .string f1] 32 (0, 0))) : W.cell? ⟨g, 1, none⟩ = some (.string f1) := (blk_cell h 1).trans rfl
theorem IsS32.set_1 {w0 W : World} {g : Nat} {f0 : ByteArray} {f1 : ByteArray} (h : IsS32 w0 W g f0 f1) (x : ByteArray) : IsS32 w0 (W.setCell ⟨g, 1, none⟩ (.string x)) g f0 x := by
 obtain ⟨hb, hg⟩ := h
 exact ⟨by simpa using blk_set hb 1 (.string x), hg⟩
theorem isk32_x10 {P Q : Prop} (h : Aside0 P) (k : P → Q := by (intro h; repeat (first | (with_reducible first | exact h | apply IsS32.alloc | apply IsS32.drew | apply IsS32.drewN | apply IsS32.set_0 | apply IsS32.set_1 | refine IsS32.far ?_ (Aside0.out (by assumption)) _) | exact h))) : Q := k h.out
theorem bwi32_x10 {w W : World} (h : Below w.heap.size w W := by repeat (first | (with_reducible first | exact HB.out | apply below_alloc | apply pw_below_drewN | apply below_drew1 | refine below_set ?_ (Aside0.out (by assumption)) | refine below_set ?_ (IsS32.ge (Aside0.out (by assumption)))) | exact HB.out)) : Below w.heap.size w W := h
def spec_l27Ok.f (k : Nat) (s0_0 : ByteArray) (s0_1 : ByteArray) : Option (Bool × ByteArray × ByteArray) := (spec_l27Read.f k s0_1).bind fun bt186 => (if bt186.2 = (s0_1.size : Int) then (some (decide ((wrap64 ((s0_0.size : Int) + (s0_1.size : Int))) ≤ 4000), s0_0, s0_1)) else (some (false, s0_0, s0_1)))
theorem spec_l27Ok.mono : ∀ a0 a1 k, LeO (spec_l27Ok.f k a0 a1) (spec_l27Ok.f (k + 1) a0 a1) := by
 intro a0 a1 k
 unfold spec_l27Ok.f
 repeat' first
   | (with_reducible exact spec_l27Read.mono _ _)
   | (with_reducible exact LeO.refl _)
   | (with_reducible exact LeO.none _)
   | (with_reducible refine LeO.ite ?_ ?_)
   | (with_reducible refine LeO.bind ?_ (fun _ => ?_))
   | exact spec_l27Read.mono _ _
   | exact LeO.none _
   | refine LeO.ite ?_ ?_
   | refine LeO.bind ?_ (fun _ => ?_)
set_option maxHeartbeats 8000000 in
set_option maxRecDepth 100000 in
theorem spec_l27Ok.calls (k : Nat) (g : Nat) (s0_0 : ByteArray) (s0_1 : ByteArray) (r1 : Bool) (r2 : ByteArray) (r3 : ByteArray) (w0 w : World) (hI : IsS32 w0 w g s0_0 s0_1) (hB : Below w0.heap.size w0 w) (h : spec_l27Ok.f k s0_0 s0_1 = some (r1, r2, r3)) :
  Calls Tryd.prog 60 #[.pointer (some ⟨g, 0, none⟩)] w fun e w' => e = .returned (.bool r1) ∧ IsS32 w0 w' g r2 r3 ∧ Below w0.heap.size w0 w' ∧ KeepBut w w' g none := by
 have HI0 := Aside0.mk hI
 have HK := Aside0.mk (KeepBut.refl w g none)
 have HL := Aside0.mk hB.size
 clear hI
 have HW0 := Aside0.mk hB.size
 have HB := Aside0.mk hB
 clear hB
 have H : ((spec_l27Read.f k s0_1).bind fun bt186 => (if bt186.2 = (s0_1.size : Int) then (some (decide ((wrap64 ((s0_0.size : Int) + (s0_1.size : Int))) ≤ 4000), s0_0, s0_1)) else (some (false, s0_0, s0_1)))) = some (r1, r2, r3) := h
 clear h
 replace H := Option.bind_eq_some_iff.mp H
 obtain ⟨⟨t186, t187⟩, A20, H⟩ := H
 (try dsimp only at H)
 have A2 := Aside0.mk A20
 clear A20
 by_cases c3 : t187 = (s0_1.size : Int)
 ·rw [if_pos c3] at H
  have c3b0 : (t187 == (s0_1.size : Int)) = true := beq_iff_eq.mpr c3
  have c3b1 : (t187 != (s0_1.size : Int)) = false := bne_eq_false_iff_eq.mpr c3
  clear c3
  simp only [Option.some.injEq, Prod.mk.injEq] at H
  obtain ⟨rfl, rfl, rfl⟩ := H
  obtain ⟨HGz4, hgz4⟩ := HI0.out
  have hcz4_0 := cellS32_0 HGz4
  have hcz4_1 := cellS32_1 HGz4
  have hfz4_0 := blk_frozen HGz4 0
  have hfz4_1 := blk_frozen HGz4 1
  clear HGz4 hgz4
  go_enter Tryd.func60, Tryd.ntmps60
  go_wp2_with (first | (go_at_call 64; (with_reducible refine (spec_l27Read.calls k s0_1 t186 t187 _ A2.out).mono ?_); rintro e w5 ⟨v188, rfl, ho0, hb⟩; have HO189 := Aside0.mk (Kd.R_lower ho0 (keep_size (w := w) (g := g) (row := none) (kbl_ HK))); replace HK := Aside0.mk (KeepBut.trans (kbl_ HK) (KeepBut.of_below hb g none) (.inl rfl)); replace HB := Aside0.mk (below_step bwi32_x10 hb); replace HI0 := Aside0.mk (IsS32.below (isk32_x10 HI0) hb); clear hb ho0; obtain ⟨HGz6, hgz6⟩ := HI0.out; have hcz6_0 := cellS32_0 HGz6; have hcz6_1 := cellS32_1 HGz6; have hfz6_0 := blk_frozen HGz6 0; have hfz6_1 := blk_frozen HGz6 1; clear HGz6 hgz6))
  repeat (go_quiet (first | (go_at_call 64; (with_reducible refine (spec_l27Read.calls k s0_1 t186 t187 _ A2.out).mono ?_); rintro e w5 ⟨v188, rfl, ho0, hb⟩; have HO189 := Aside0.mk (Kd.R_lower ho0 (keep_size (w := w) (g := g) (row := none) (kbl_ HK))); replace HK := Aside0.mk (KeepBut.trans (kbl_ HK) (KeepBut.of_below hb g none) (.inl rfl)); replace HB := Aside0.mk (below_step bwi32_x10 hb); replace HI0 := Aside0.mk (IsS32.below (isk32_x10 HI0) hb); clear hb ho0; obtain ⟨HGz6, hgz6⟩ := HI0.out; have hcz6_0 := cellS32_0 HGz6; have hcz6_1 := cellS32_1 HGz6; have hfz6_0 := blk_frozen HGz6 0; have hfz6_1 := blk_frozen HGz6 1; clear HGz6 hgz6)); try go_wp2_with (first | (go_at_call 64; (with_reducible refine (spec_l27Read.calls k s0_1 t186 t187 _ A2.out).mono ?_); rintro e w5 ⟨v188, rfl, ho0, hb⟩; have HO189 := Aside0.mk (Kd.R_lower ho0 (keep_size (w := w) (g := g) (row := none) (kbl_ HK))); replace HK := Aside0.mk (KeepBut.trans (kbl_ HK) (KeepBut.of_below hb g none) (.inl rfl)); replace HB := Aside0.mk (below_step bwi32_x10 hb); replace HI0 := Aside0.mk (IsS32.below (isk32_x10 HI0) hb); clear hb ho0; obtain ⟨HGz6, hgz6⟩ := HI0.out; have hcz6_0 := cellS32_0 HGz6; have hcz6_1 := cellS32_1 HGz6; have hfz6_0 := blk_frozen HGz6 0; have hfz6_1 := blk_frozen HGz6 1; clear HGz6 hgz6)))
  go_ret
  exact ⟨rr_, isk32_x10 HI0, bwi32_x10, kbl_ HK⟩
 ·rw [if_neg c3] at H
  have c3b0 : (t187 == (s0_1.size : Int)) = false := beq_eq_false_iff_ne.mpr c3
  have c3b1 : (t187 != (s0_1.size : Int)) = true := bne_iff_ne.mpr c3
  simp only [Option.some.injEq, Prod.mk.injEq] at H
  obtain ⟨rfl, rfl, rfl⟩ := H
  obtain ⟨HGz7, hgz7⟩ := HI0.out
  have hcz7_0 := cellS32_0 HGz7
  have hcz7_1 := cellS32_1 HGz7
  have hfz7_0 := blk_frozen HGz7 0
  have hfz7_1 := blk_frozen HGz7 1
  clear HGz7 hgz7
  go_enter Tryd.func60, Tryd.ntmps60
  go_wp2_with (first | (go_at_call 64; (with_reducible refine (spec_l27Read.calls k s0_1 t186 t187 _ A2.out).mono ?_); rintro e w8 ⟨v188, rfl, ho0, hb⟩; have HO189 := Aside0.mk (Kd.R_lower ho0 (keep_size (w := w) (g := g) (row := none) (kbl_ HK))); replace HK := Aside0.mk (KeepBut.trans (kbl_ HK) (KeepBut.of_below hb g none) (.inl rfl)); replace HB := Aside0.mk (below_step bwi32_x10 hb); replace HI0 := Aside0.mk (IsS32.below (isk32_x10 HI0) hb); clear hb ho0; obtain ⟨HGz9, hgz9⟩ := HI0.out; have hcz9_0 := cellS32_0 HGz9; have hcz9_1 := cellS32_1 HGz9; have hfz9_0 := blk_frozen HGz9 0; have hfz9_1 := blk_frozen HGz9 1; clear HGz9 hgz9))
  repeat (go_quiet (first | (go_at_call 64; (with_reducible refine (spec_l27Read.calls k s0_1 t186 t187 _ A2.out).mono ?_); rintro e w8 ⟨v188, rfl, ho0, hb⟩; have HO189 := Aside0.mk (Kd.R_lower ho0 (keep_size (w := w) (g := g) (row := none) (kbl_ HK))); replace HK := Aside0.mk (KeepBut.trans (kbl_ HK) (KeepBut.of_below hb g none) (.inl rfl)); replace HB := Aside0.mk (below_step bwi32_x10 hb); replace HI0 := Aside0.mk (IsS32.below (isk32_x10 HI0) hb); clear hb ho0; obtain ⟨HGz9, hgz9⟩ := HI0.out; have hcz9_0 := cellS32_0 HGz9; have hcz9_1 := cellS32_1 HGz9; have hfz9_0 := blk_frozen HGz9 0; have hfz9_1 := blk_frozen HGz9 1; clear HGz9 hgz9)); try go_wp2_with (first | (go_at_call 64; (with_reducible refine (spec_l27Read.calls k s0_1 t186 t187 _ A2.out).mono ?_); rintro e w8 ⟨v188, rfl, ho0, hb⟩; have HO189 := Aside0.mk (Kd.R_lower ho0 (keep_size (w := w) (g := g) (row := none) (kbl_ HK))); replace HK := Aside0.mk (KeepBut.trans (kbl_ HK) (KeepBut.of_below hb g none) (.inl rfl)); replace HB := Aside0.mk (below_step bwi32_x10 hb); replace HI0 := Aside0.mk (IsS32.below (isk32_x10 HI0) hb); clear hb ho0; obtain ⟨HGz9, hgz9⟩ := HI0.out; have hcz9_0 := cellS32_0 HGz9; have hcz9_1 := cellS32_1 HGz9; have hfz9_0 := blk_frozen HGz9 0; have hfz9_1 := blk_frozen HGz9 1; clear HGz9 hgz9)))
  go_ret
  exact ⟨rr_, isk32_x10 HI0, bwi32_x10, kbl_ HK⟩
section
open Go.Proofs.YtlcgonaapmmnkaaDoor.Base
def spec_WriteEntry.f (k : Nat) (a0_0 : ByteArray) (a0_1 : ByteArray) (a1_0 : Int) (a1_1 : ByteArray) (a1_2 : ByteArray) : Option (ByteArray × ByteArray × Int) :=
 (spec_l27Ok.f k a0_0 a0_1).bind fun t => if t.1 = true then
  (spec_l27One.f k a1_0 a1_1 a1_2).bind fun u => if u.1 = true then
   (spec_l27Frame.g k u.2.1 u.2.2.1 u.2.2.2).bind fun fr => if t.2.2.size + fr.size ≤ 4611686018427387904 then
    (spec_l27Ok.f k t.2.1 (t.2.2 ++ fr)).bind fun v => if v.1 = true then some (v.2.1, v.2.2, 0) else some (⟨#[]⟩, ⟨#[]⟩, 5)
   else none
  else some (⟨#[]⟩, ⟨#[]⟩, 2)
 else some (⟨#[]⟩, ⟨#[]⟩, 1)
theorem spec_WriteEntry.mono : ∀ a0 a1 a2 a3 a4 k, LeO (spec_WriteEntry.f k a0 a1 a2 a3 a4) (spec_WriteEntry.f (k + 1) a0 a1 a2 a3 a4) := fun a0 a1 a2 a3 a4 k => LeO.bind (spec_l27Ok.mono a0 a1 k) (fun _ => LeO.ite (LeO.bind (spec_l27One.mono _ _ _ k) (fun _ => LeO.ite (LeO.bind (spec_l27Frame.g_mono _ _ _ k) (fun _ => LeO.ite (LeO.bind (spec_l27Ok.mono _ _ k) (fun _ => LeO.refl _)) (LeO.refl _))) (LeO.refl _))) (LeO.refl _))
set_option maxHeartbeats 8000000 in
set_option maxRecDepth 100000 in
theorem spec_WriteEntry.calls (k : Nat) (a0_0 : ByteArray) (a0_1 : ByteArray) (a1_0 : Int) (a1_1 : ByteArray) (a1_2 : ByteArray) (r1 : ByteArray) (r2 : ByteArray) (r3 : Int) (w : World) (h : spec_WriteEntry.f k a0_0 a0_1 a1_0 a1_1 a1_2 = some (r1, r2, r3)) :
  Calls Tryd.prog 32 #[.agg #[.string a0_0, .string a0_1], .agg #[.int .i64 a1_0, .string a1_1, .string a1_2]] w fun e w' => e = .returned (.tuple #[.agg #[.string r1, .string r2], .int .i64 r3]) ∧ Below w.heap.size w w' := by
 unfold spec_WriteEntry.f at h
 replace h := Option.bind_eq_some_iff.mp h
 obtain ⟨⟨t0, t1, t2⟩, hu, h⟩ := h
 try simp only [] at h
 have HU := Aside0.mk hu
 clear hu
 have hu32 := Tryd.underlying32
 cases t0 with
 | false =>
  simp only [Bool.false_eq_true, if_false, Option.some.injEq, Prod.mk.injEq] at h
  obtain ⟨rfl, rfl, rfl⟩ := h
  go_enter Tryd.func32, Tryd.ntmps32
  go_wp2_with (first | ((with_reducible refine gate_dst (N := 2) rfl ?_); refine be_ 2 #[.string a0_0, .string a0_1] 32 ?_; intro gp hg w1 hbox hb; have HP1 : Aside0 (IsS32 w w1 gp a0_0 a0_1) := ⟨⟨hbox, Nat.le_of_eq hg.symm⟩⟩; have HB1 := Aside0.mk hb; clear hbox hb hg) | ((with_reducible refine gate_dst (N := 3) rfl ?_); refine be_ 3 #[.int .i64 a1_0, .string a1_1, .string a1_2] 26 ?_; intro gx hg w2 hbox hb; have HX2 : Aside0 (IsS26 w w2 gx a1_0 a1_1 a1_2) := ⟨⟨hbox, by rw [hg]; exact HB1.out.size⟩⟩; have HP2 := Aside0.mk (HP1.out.below hb); have HB2 := Aside0.mk (below_step HB1.out hb); have GPX : Aside0 (gp ≠ gx) := ⟨Nat.ne_of_lt (by rw [hg]; exact blk_lt HP1.out.1)⟩; clear hbox hb hg) | ((with_reducible refine gate_dst (N := 4) rfl ?_); refine be_ 4 #[.string (⟨#[]⟩ : ByteArray), .string (⟨#[]⟩ : ByteArray)] 32 ?_; intro gr hg w3 hbox hb; have BR3 := Aside0.mk hbox; have HP3 := Aside0.mk (HP2.out.below hb); have HX3 := Aside0.mk (HX2.out.below hb); have HB3 := Aside0.mk (below_step HB2.out hb); have GE : Aside0 (w.heap.size ≤ gr) := ⟨by rw [hg]; exact HB2.out.size⟩; have GPR : Aside0 (gp ≠ gr) := ⟨Nat.ne_of_lt (by rw [hg]; exact blk_lt HP2.out.1)⟩; have GXR : Aside0 (gx ≠ gr) := ⟨Nat.ne_of_lt (by rw [hg]; exact blk_lt HX2.out.1)⟩; clear hbox hb hg) | (go_at_call 60; refine Calls.mono (spec_l27Ok.calls k gp a0_0 a0_1 _ _ _ w _ HP3.out HB3.out HU.out) ?_; rintro e w4 ⟨rfl, hI4, hB4, hK4⟩; have BR4 := Aside0.mk ((hK4.2 gr (blk_lt BR3.out) (Ne.symm GPR.out) (by simp)).trans BR3.out); have HX4 : Aside0 (IsS26 w w4 gx a1_0 a1_1 a1_2) := ⟨⟨(hK4.2 gx (blk_lt HX3.out.1) (Ne.symm GPX.out) (by simp)).trans HX3.out.1, HX3.out.2⟩⟩; have HP4 := Aside0.mk hI4; have HB4 := Aside0.mk hB4; clear hI4 hB4 hK4; have hc0 := cellS32_0 BR4.out; have hc1 := cellS32_1 BR4.out; have hf : ∀ o, w4.frozen? ⟨gr, o, none⟩ = false := (fun o => by simp [World.frozen?, BR4.out])) | (go_at_call 57; refine Calls.mono (spec_l27One.calls k gx a1_0 a1_1 a1_2 _ _ _ _ w _ HX4.out HB4.out HO.out) ?_; rintro e w5 ⟨rfl, hI5, hB5, hK5⟩; have BR5 := Aside0.mk ((hK5.2 gr (blk_lt BR4.out) (Ne.symm GXR.out) (by simp)).trans BR4.out); have HP5 : Aside0 (IsS32 w w5 gp t1 t2) := ⟨⟨(hK5.2 gp (blk_lt HP4.out.1) GPX.out (by simp)).trans HP4.out.1, HP4.out.2⟩⟩; have HX5 := Aside0.mk hI5; have HB5 := Aside0.mk hB5; clear hI5 hB5 hK5 hc0 hc1 hf; have hc0 := cellS32_0 BR5.out; have hc1 := cellS32_1 BR5.out; have hf : ∀ o, w5.frozen? ⟨gr, o, none⟩ = false := (fun o => by simp [World.frozen?, BR5.out])))
  refine bodyPost_ret (results_ct rfl _ _ gr 32 #[.string (⟨#[]⟩ : ByteArray), .string (⟨#[]⟩ : ByteArray)] (0, 0) _ rfl (by refine blk_put (cs := #[.string (⟨#[]⟩ : ByteArray), .string (⟨#[]⟩ : ByteArray)]) ?_ 1 _ rfl; refine blk_put (cs := #[.string (⟨#[]⟩ : ByteArray), .string (⟨#[]⟩ : ByteArray)]) ?_ 0 _ rfl; exact BR4.out) Tryd.underlying32 rfl (by kernel_rfl)) rfl ?_
  exact ⟨rfl, below_set (below_set HB4.out GE.out) GE.out⟩
 | true =>
  simp only [if_true] at h
  obtain ⟨⟨u0, u1, u2, u3⟩, ho, h⟩ := Option.bind_eq_some_iff.mp h
  try simp only [] at h
  have HO := Aside0.mk ho
  clear ho
  cases u0 with
  | false =>
   simp only [Bool.false_eq_true, if_false, Option.some.injEq, Prod.mk.injEq] at h
   obtain ⟨rfl, rfl, rfl⟩ := h
   go_enter Tryd.func32, Tryd.ntmps32
   go_wp2_with (first | ((with_reducible refine gate_dst (N := 2) rfl ?_); refine be_ 2 #[.string a0_0, .string a0_1] 32 ?_; intro gp hg w1 hbox hb; have HP1 : Aside0 (IsS32 w w1 gp a0_0 a0_1) := ⟨⟨hbox, Nat.le_of_eq hg.symm⟩⟩; have HB1 := Aside0.mk hb; clear hbox hb hg) | ((with_reducible refine gate_dst (N := 3) rfl ?_); refine be_ 3 #[.int .i64 a1_0, .string a1_1, .string a1_2] 26 ?_; intro gx hg w2 hbox hb; have HX2 : Aside0 (IsS26 w w2 gx a1_0 a1_1 a1_2) := ⟨⟨hbox, by rw [hg]; exact HB1.out.size⟩⟩; have HP2 := Aside0.mk (HP1.out.below hb); have HB2 := Aside0.mk (below_step HB1.out hb); have GPX : Aside0 (gp ≠ gx) := ⟨Nat.ne_of_lt (by rw [hg]; exact blk_lt HP1.out.1)⟩; clear hbox hb hg) | ((with_reducible refine gate_dst (N := 4) rfl ?_); refine be_ 4 #[.string (⟨#[]⟩ : ByteArray), .string (⟨#[]⟩ : ByteArray)] 32 ?_; intro gr hg w3 hbox hb; have BR3 := Aside0.mk hbox; have HP3 := Aside0.mk (HP2.out.below hb); have HX3 := Aside0.mk (HX2.out.below hb); have HB3 := Aside0.mk (below_step HB2.out hb); have GE : Aside0 (w.heap.size ≤ gr) := ⟨by rw [hg]; exact HB2.out.size⟩; have GPR : Aside0 (gp ≠ gr) := ⟨Nat.ne_of_lt (by rw [hg]; exact blk_lt HP2.out.1)⟩; have GXR : Aside0 (gx ≠ gr) := ⟨Nat.ne_of_lt (by rw [hg]; exact blk_lt HX2.out.1)⟩; clear hbox hb hg) | (go_at_call 60; refine Calls.mono (spec_l27Ok.calls k gp a0_0 a0_1 _ _ _ w _ HP3.out HB3.out HU.out) ?_; rintro e w4 ⟨rfl, hI4, hB4, hK4⟩; have BR4 := Aside0.mk ((hK4.2 gr (blk_lt BR3.out) (Ne.symm GPR.out) (by simp)).trans BR3.out); have HX4 : Aside0 (IsS26 w w4 gx a1_0 a1_1 a1_2) := ⟨⟨(hK4.2 gx (blk_lt HX3.out.1) (Ne.symm GPX.out) (by simp)).trans HX3.out.1, HX3.out.2⟩⟩; have HP4 := Aside0.mk hI4; have HB4 := Aside0.mk hB4; clear hI4 hB4 hK4; have hc0 := cellS32_0 BR4.out; have hc1 := cellS32_1 BR4.out; have hf : ∀ o, w4.frozen? ⟨gr, o, none⟩ = false := (fun o => by simp [World.frozen?, BR4.out])) | (go_at_call 57; refine Calls.mono (spec_l27One.calls k gx a1_0 a1_1 a1_2 _ _ _ _ w _ HX4.out HB4.out HO.out) ?_; rintro e w5 ⟨rfl, hI5, hB5, hK5⟩; have BR5 := Aside0.mk ((hK5.2 gr (blk_lt BR4.out) (Ne.symm GXR.out) (by simp)).trans BR4.out); have HP5 : Aside0 (IsS32 w w5 gp t1 t2) := ⟨⟨(hK5.2 gp (blk_lt HP4.out.1) GPX.out (by simp)).trans HP4.out.1, HP4.out.2⟩⟩; have HX5 := Aside0.mk hI5; have HB5 := Aside0.mk hB5; clear hI5 hB5 hK5 hc0 hc1 hf; have hc0 := cellS32_0 BR5.out; have hc1 := cellS32_1 BR5.out; have hf : ∀ o, w5.frozen? ⟨gr, o, none⟩ = false := (fun o => by simp [World.frozen?, BR5.out])))
   refine bodyPost_ret (results_ct rfl _ _ gr 32 #[.string (⟨#[]⟩ : ByteArray), .string (⟨#[]⟩ : ByteArray)] (0, 0) _ rfl (by refine blk_put (cs := #[.string (⟨#[]⟩ : ByteArray), .string (⟨#[]⟩ : ByteArray)]) ?_ 1 _ rfl; refine blk_put (cs := #[.string (⟨#[]⟩ : ByteArray), .string (⟨#[]⟩ : ByteArray)]) ?_ 0 _ rfl; exact BR5.out) Tryd.underlying32 rfl (by kernel_rfl)) rfl ?_
   exact ⟨rfl, below_set (below_set HB5.out GE.out) GE.out⟩
  | true =>
   simp only [if_true] at h
   obtain ⟨fr, hf_, h⟩ := Option.bind_eq_some_iff.mp h
   split at h
   case isFalse => cases h
   rename_i hz
   obtain ⟨⟨v0, v1, v2⟩, hv, h⟩ := Option.bind_eq_some_iff.mp h
   try simp only [] at h
   have HF := Aside0.mk hf_
   have HV := Aside0.mk hv
   have HR := Aside0.mk h
   clear hf_ hv h
   have q1 : ¬ 9223372036854775807 < t2.size + fr.size := by omega
   go_enter Tryd.func32, Tryd.ntmps32
   go_wp2_with (first | ((with_reducible refine gate_dst (N := 2) rfl ?_); refine be_ 2 #[.string a0_0, .string a0_1] 32 ?_; intro gp hg w1 hbox hb; have HP1 : Aside0 (IsS32 w w1 gp a0_0 a0_1) := ⟨⟨hbox, Nat.le_of_eq hg.symm⟩⟩; have HB1 := Aside0.mk hb; clear hbox hb hg) | ((with_reducible refine gate_dst (N := 3) rfl ?_); refine be_ 3 #[.int .i64 a1_0, .string a1_1, .string a1_2] 26 ?_; intro gx hg w2 hbox hb; have HX2 : Aside0 (IsS26 w w2 gx a1_0 a1_1 a1_2) := ⟨⟨hbox, by rw [hg]; exact HB1.out.size⟩⟩; have HP2 := Aside0.mk (HP1.out.below hb); have HB2 := Aside0.mk (below_step HB1.out hb); have GPX : Aside0 (gp ≠ gx) := ⟨Nat.ne_of_lt (by rw [hg]; exact blk_lt HP1.out.1)⟩; clear hbox hb hg) | ((with_reducible refine gate_dst (N := 4) rfl ?_); refine be_ 4 #[.string (⟨#[]⟩ : ByteArray), .string (⟨#[]⟩ : ByteArray)] 32 ?_; intro gr hg w3 hbox hb; have BR3 := Aside0.mk hbox; have HP3 := Aside0.mk (HP2.out.below hb); have HX3 := Aside0.mk (HX2.out.below hb); have HB3 := Aside0.mk (below_step HB2.out hb); have GE : Aside0 (w.heap.size ≤ gr) := ⟨by rw [hg]; exact HB2.out.size⟩; have GPR : Aside0 (gp ≠ gr) := ⟨Nat.ne_of_lt (by rw [hg]; exact blk_lt HP2.out.1)⟩; have GXR : Aside0 (gx ≠ gr) := ⟨Nat.ne_of_lt (by rw [hg]; exact blk_lt HX2.out.1)⟩; clear hbox hb hg) | (go_at_call 60; refine Calls.mono (spec_l27Ok.calls k gp a0_0 a0_1 _ _ _ w _ HP3.out HB3.out HU.out) ?_; rintro e w4 ⟨rfl, hI4, hB4, hK4⟩; have BR4 := Aside0.mk ((hK4.2 gr (blk_lt BR3.out) (Ne.symm GPR.out) (by simp)).trans BR3.out); have HX4 : Aside0 (IsS26 w w4 gx a1_0 a1_1 a1_2) := ⟨⟨(hK4.2 gx (blk_lt HX3.out.1) (Ne.symm GPX.out) (by simp)).trans HX3.out.1, HX3.out.2⟩⟩; have HP4 := Aside0.mk hI4; have HB4 := Aside0.mk hB4; clear hI4 hB4 hK4; have hc0 := cellS32_0 BR4.out; have hc1 := cellS32_1 BR4.out; have hf : ∀ o, w4.frozen? ⟨gr, o, none⟩ = false := (fun o => by simp [World.frozen?, BR4.out])) | (go_at_call 57; refine Calls.mono (spec_l27One.calls k gx a1_0 a1_1 a1_2 _ _ _ _ w _ HX4.out HB4.out HO.out) ?_; rintro e w5 ⟨rfl, hI5, hB5, hK5⟩; have BR5 := Aside0.mk ((hK5.2 gr (blk_lt BR4.out) (Ne.symm GXR.out) (by simp)).trans BR4.out); have HP5 : Aside0 (IsS32 w w5 gp t1 t2) := ⟨⟨(hK5.2 gp (blk_lt HP4.out.1) GPX.out (by simp)).trans HP4.out.1, HP4.out.2⟩⟩; have HX5 := Aside0.mk hI5; have HB5 := Aside0.mk hB5; clear hI5 hB5 hK5 hc0 hc1 hf; have hc0 := cellS32_0 BR5.out; have hc1 := cellS32_1 BR5.out; have hf : ∀ o, w5.frozen? ⟨gr, o, none⟩ = false := (fun o => by simp [World.frozen?, BR5.out])))
   have hp0 := cellS32_0 HP5.out.1
   have hp1 := cellS32_1 HP5.out.1
   have hx0 := cellS26_0 HX5.out.1
   have hx1 := cellS26_1 HX5.out.1
   have hx2 := cellS26_2 HX5.out.1
   clear hc0 hc1 hf
   have GPN : Aside0 (gp ≠ w5.heap.size) := ⟨Nat.ne_of_lt (blk_lt HP5.out.1)⟩
   have GXN : Aside0 (gx ≠ w5.heap.size) := ⟨Nat.ne_of_lt (blk_lt HX5.out.1)⟩
   have GRN : Aside0 (gr ≠ w5.heap.size) := ⟨Nat.ne_of_lt (blk_lt BR5.out)⟩
   have I2 := Aside0.mk (fun (W : World) (c0 : W.cell? ⟨gx, 0, none⟩ = some (.int .i64 u1)) (c1 : W.cell? ⟨gx, 1, none⟩ = some (.string u2)) (c2 : W.cell? ⟨gx, 2, none⟩ = some (.string u3)) => spec_l27Frame.at_ k ⟨gx, 0, none⟩ u1 u2 u3 fr W c0 c1 c2 HF.out)
   go_region_held3 (fun w' => w'.cell? ⟨gp, 0, none⟩ = some (.string t1) ∧ w'.cell? ⟨gp, 1, none⟩ = some (.string t2) ∧ w'.cell? ⟨gx, 0, none⟩ = some (.int .i64 u1) ∧ w'.cell? ⟨gx, 1, none⟩ = some (.string u2) ∧ w'.cell? ⟨gx, 2, none⟩ = some (.string u3) ∧ Below w.heap.size w w' ∧ w'.heap[gr]? = some (.cells #[.string (⟨#[]⟩ : ByteArray), .string (⟨#[]⟩ : ByteArray)] 32 (0, 0)))
    (first | exact ⟨by simpa using hp0, by simpa using hp1, by simpa using hx0, by simpa using hx1, by simpa using hx2, below_drew1 HB5.out, blk_drew BR5.out⟩ | (go_split_ands; exact ⟨pw_cell_below hb' (by assumption), pw_cell_below hb' (by assumption), pw_cell_below hb' (by assumption), pw_cell_below hb' (by assumption), pw_cell_below hb' (by assumption), below_step (by assumption) hb', blk_below (by assumption) hb'⟩) | (go_split_ands; exact ⟨pw_cell_below (below_alloc (Below.refl _ _) _) (by assumption), pw_cell_below (below_alloc (Below.refl _ _) _) (by assumption), pw_cell_below (below_alloc (Below.refl _ _) _) (by assumption), pw_cell_below (below_alloc (Below.refl _ _) _) (by assumption), pw_cell_below (below_alloc (Below.refl _ _) _) (by assumption), below_alloc (by assumption) _, blk_alloc (by assumption) _⟩) | (go_split_ands; exact ⟨pw_cell_below (below_alloc hb' _) (by assumption), pw_cell_below (below_alloc hb' _) (by assumption), pw_cell_below (below_alloc hb' _) (by assumption), pw_cell_below (below_alloc hb' _) (by assumption), pw_cell_below (below_alloc hb' _) (by assumption), below_step (by assumption) (below_alloc hb' _), blk_below (by assumption) (below_alloc hb' _)⟩) | (go_split_ands; exact ⟨(cell_far (by exact GPN.out) _).trans ((cell_far (by exact GPN.out) _).trans (by assumption)), (cell_far (by exact GPN.out) _).trans ((cell_far (by exact GPN.out) _).trans (by assumption)), (cell_far (by exact GXN.out) _).trans ((cell_far (by exact GXN.out) _).trans (by assumption)), (cell_far (by exact GXN.out) _).trans ((cell_far (by exact GXN.out) _).trans (by assumption)), (cell_far (by exact GXN.out) _).trans ((cell_far (by exact GXN.out) _).trans (by assumption)), below_set (below_set (by assumption) HB5.out.size) HB5.out.size, blk_far (blk_far (by assumption) GRN.out _) GRN.out _⟩) | go_keep | (trace_state; fail))
    (first | (go_at_call 58; go_split_ands; (with_reducible refine (I2.out _ (by assumption) (by assumption) (by assumption)).mono ?_); rintro e w' ⟨rfl, hb'⟩; try (have hn : w'.heap[w5.heap.size]? = some (.cells #[.string (⟨#[]⟩ : ByteArray), .string (⟨#[]⟩ : ByteArray)] 32 (0, 0)) := blk_below (blk_new w5.drew (.cells #[.string (⟨#[]⟩ : ByteArray), .string (⟨#[]⟩ : ByteArray)] 32)) hb'; have hn0 := cellS32_0 hn; have hn1 := cellS32_1 hn; have hnf : ∀ o, w'.frozen? ⟨w5.heap.size, o, none⟩ = false := (fun o => by simp [World.frozen?, hn]))))
   ·obtain ⟨-, -, -, -, -, hb6, hr6⟩ := by assumption
    have HB6 := Aside0.mk hb6
    have BR6 := Aside0.mk hr6
    have HO6 : Aside0 (IsS32 w _ w'.heap.size t1 (t2 ++ fr)) := ⟨⟨blk_new w' _, (below_step (below_drew1 HB5.out) hb').size⟩⟩
    have GRO : Aside0 (gr ≠ w'.heap.size) := ⟨Nat.ne_of_lt (Nat.lt_of_lt_of_le (blk_lt BR5.out) hb'.size)⟩
    clear hb6 hr6 hp0 hp1 hx0 hx1 hx2 hb'
    have HR2 := HR.out
    cases v0 with
    | false =>
     simp only [Bool.false_eq_true, if_false, Option.some.injEq, Prod.mk.injEq] at HR2
     obtain ⟨rfl, rfl, rfl⟩ := HR2
     go_wp2_with (go_at_call 60; refine Calls.mono (spec_l27Ok.calls k _ t1 (t2 ++ fr) _ _ _ w _ HO6.out HB6.out HV.out) ?_; rintro e w7 ⟨rfl, hI7, hB7, hK7⟩; have BR7 := Aside0.mk ((hK7.2 gr (blk_lt BR6.out) GRO.out (by simp)).trans BR6.out); have HB7 := Aside0.mk hB7; have hc0 := cellS32_0 BR7.out; have hc1 := cellS32_1 BR7.out; have hf : ∀ o, w7.frozen? ⟨gr, o, none⟩ = false := (fun o => by simp [World.frozen?, BR7.out]); have hd0 := cellS32_0 hI7.1; have hd1 := cellS32_1 hI7.1; clear hI7 hB7 hK7)
     refine bodyPost_ret (results_ct rfl _ _ gr 32 #[.string (⟨#[]⟩ : ByteArray), .string (⟨#[]⟩ : ByteArray)] (0, 0) _ rfl (by refine blk_put (cs := #[.string (⟨#[]⟩ : ByteArray), .string (⟨#[]⟩ : ByteArray)]) ?_ 1 _ rfl; refine blk_put (cs := #[.string (⟨#[]⟩ : ByteArray), .string (⟨#[]⟩ : ByteArray)]) ?_ 0 _ rfl; exact BR7.out) Tryd.underlying32 rfl (by kernel_rfl)) rfl ?_
     exact ⟨rfl, below_set (below_set HB7.out GE.out) GE.out⟩
    | true =>
     simp only [if_true, Option.some.injEq, Prod.mk.injEq] at HR2
     obtain ⟨rfl, rfl, rfl⟩ := HR2
     go_wp2_with (go_at_call 60; refine Calls.mono (spec_l27Ok.calls k _ t1 (t2 ++ fr) _ _ _ w _ HO6.out HB6.out HV.out) ?_; rintro e w7 ⟨rfl, hI7, hB7, hK7⟩; have BR7 := Aside0.mk ((hK7.2 gr (blk_lt BR6.out) GRO.out (by simp)).trans BR6.out); have HB7 := Aside0.mk hB7; have hc0 := cellS32_0 BR7.out; have hc1 := cellS32_1 BR7.out; have hf : ∀ o, w7.frozen? ⟨gr, o, none⟩ = false := (fun o => by simp [World.frozen?, BR7.out]); have hd0 := cellS32_0 hI7.1; have hd1 := cellS32_1 hI7.1; clear hI7 hB7 hK7)
     refine bodyPost_ret (results_ct rfl _ _ gr 32 #[.string v1, .string v2] (0, 0) _ rfl (by refine blk_put (cs := #[.string v1, .string (⟨#[]⟩ : ByteArray)]) ?_ 1 _ rfl; refine blk_put (cs := #[.string (⟨#[]⟩ : ByteArray), .string (⟨#[]⟩ : ByteArray)]) ?_ 0 _ rfl; exact BR7.out) Tryd.underlying32 rfl (by kernel_rfl)) rfl ?_
     exact ⟨rfl, below_set (below_set HB7.out GE.out) GE.out⟩
   ·obtain ⟨-, -, -, -, -, hb6, hr6⟩ := by assumption
    have HB6 := Aside0.mk hb6
    have BR6 := Aside0.mk hr6
    have HO6 : Aside0 (IsS32 w _ w5.heap.size t1 (t2 ++ fr)) := ⟨⟨blk_put (blk_put hn 0 _ rfl) 1 _ rfl, HB5.out.size⟩⟩
    have GRO := GRN
    clear hb6 hr6 hp0 hp1 hx0 hx1 hx2 hb' hn hn0 hn1 hnf
    have HR2 := HR.out
    cases v0 with
    | false =>
     simp only [Bool.false_eq_true, if_false, Option.some.injEq, Prod.mk.injEq] at HR2
     obtain ⟨rfl, rfl, rfl⟩ := HR2
     go_wp2_with (go_at_call 60; refine Calls.mono (spec_l27Ok.calls k _ t1 (t2 ++ fr) _ _ _ w _ HO6.out HB6.out HV.out) ?_; rintro e w7 ⟨rfl, hI7, hB7, hK7⟩; have BR7 := Aside0.mk ((hK7.2 gr (blk_lt BR6.out) GRO.out (by simp)).trans BR6.out); have HB7 := Aside0.mk hB7; have hc0 := cellS32_0 BR7.out; have hc1 := cellS32_1 BR7.out; have hf : ∀ o, w7.frozen? ⟨gr, o, none⟩ = false := (fun o => by simp [World.frozen?, BR7.out]); have hd0 := cellS32_0 hI7.1; have hd1 := cellS32_1 hI7.1; clear hI7 hB7 hK7)
     refine bodyPost_ret (results_ct rfl _ _ gr 32 #[.string (⟨#[]⟩ : ByteArray), .string (⟨#[]⟩ : ByteArray)] (0, 0) _ rfl (by refine blk_put (cs := #[.string (⟨#[]⟩ : ByteArray), .string (⟨#[]⟩ : ByteArray)]) ?_ 1 _ rfl; refine blk_put (cs := #[.string (⟨#[]⟩ : ByteArray), .string (⟨#[]⟩ : ByteArray)]) ?_ 0 _ rfl; exact BR7.out) Tryd.underlying32 rfl (by kernel_rfl)) rfl ?_
     exact ⟨rfl, below_set (below_set HB7.out GE.out) GE.out⟩
    | true =>
     simp only [if_true, Option.some.injEq, Prod.mk.injEq] at HR2
     obtain ⟨rfl, rfl, rfl⟩ := HR2
     go_wp2_with (go_at_call 60; refine Calls.mono (spec_l27Ok.calls k _ t1 (t2 ++ fr) _ _ _ w _ HO6.out HB6.out HV.out) ?_; rintro e w7 ⟨rfl, hI7, hB7, hK7⟩; have BR7 := Aside0.mk ((hK7.2 gr (blk_lt BR6.out) GRO.out (by simp)).trans BR6.out); have HB7 := Aside0.mk hB7; have hc0 := cellS32_0 BR7.out; have hc1 := cellS32_1 BR7.out; have hf : ∀ o, w7.frozen? ⟨gr, o, none⟩ = false := (fun o => by simp [World.frozen?, BR7.out]); have hd0 := cellS32_0 hI7.1; have hd1 := cellS32_1 hI7.1; clear hI7 hB7 hK7)
     refine bodyPost_ret (results_ct rfl _ _ gr 32 #[.string v1, .string v2] (0, 0) _ rfl (by refine blk_put (cs := #[.string v1, .string (⟨#[]⟩ : ByteArray)]) ?_ 1 _ rfl; refine blk_put (cs := #[.string (⟨#[]⟩ : ByteArray), .string (⟨#[]⟩ : ByteArray)]) ?_ 0 _ rfl; exact BR7.out) Tryd.underlying32 rfl (by kernel_rfl)) rfl ?_
     exact ⟨rfl, below_set (below_set HB7.out GE.out) GE.out⟩
end
def impl_validLog.f (k : Nat) (a0_0 : ByteArray) (a0_1 : ByteArray) : Option (Bool) := (impl_ReadFrames.f k a0_1).bind fun bt191 => (if bt191.2 = (a0_1.size : Int) then (some (decide ((wrap64 ((a0_0.size : Int) + (a0_1.size : Int))) ≤ 4000))) else (some false))
theorem impl_validLog.mono : ∀ a0 a1 k, LeO (impl_validLog.f k a0 a1) (impl_validLog.f (k + 1) a0 a1) := by
 intro a0 a1 k
 unfold impl_validLog.f
 repeat' first
   | (with_reducible exact impl_ReadFrames.mono _ _)
   | (with_reducible exact LeO.refl _)
   | (with_reducible exact LeO.none _)
   | (with_reducible refine LeO.ite ?_ ?_)
   | (with_reducible refine LeO.bind ?_ (fun _ => ?_))
   | exact impl_ReadFrames.mono _ _
   | exact LeO.none _
   | refine LeO.ite ?_ ?_
   | refine LeO.bind ?_ (fun _ => ?_)
set_option maxHeartbeats 8000000 in
set_option maxRecDepth 100000 in
theorem impl_validLog.calls (k : Nat) (a0_0 : ByteArray) (a0_1 : ByteArray) (r : Bool) (w : World) (h : impl_validLog.f k a0_0 a0_1 = some r) (hT : Go.Proofs.YtlcgonaapmmnkaaDoor.Base.Tb2 w) :
  Calls Tryd.prog 61 #[.agg #[.string a0_0, .string a0_1]] w fun e w' => e = .returned (.bool r) ∧ Below w.heap.size w w' := by
 have HTB := Aside0.mk hT
 clear hT
 have hu32 := Tryd.underlying32
 have HB := Aside0.mk (Below.refl w.heap.size w)
 have H : ((impl_ReadFrames.f k a0_1).bind fun bt191 => (if bt191.2 = (a0_1.size : Int) then (some (decide ((wrap64 ((a0_0.size : Int) + (a0_1.size : Int))) ≤ 4000))) else (some false))) = some r := h
 clear h
 replace H := Option.bind_eq_some_iff.mp H
 obtain ⟨⟨t191, t192⟩, A20, H⟩ := H
 (try dsimp only at H)
 have A2 := Aside0.mk A20
 clear A20
 by_cases c3 : t192 = (a0_1.size : Int)
 ·rw [if_pos c3] at H
  have c3b0 : (t192 == (a0_1.size : Int)) = true := beq_iff_eq.mpr c3
  have c3b1 : (t192 != (a0_1.size : Int)) = false := bne_eq_false_iff_eq.mpr c3
  clear c3
  obtain rfl := Option.some.inj H
  go_enter Tryd.func61, Tryd.ntmps61
  go_wp2_with (first | ((with_reducible refine gate_dst (N := 1) rfl ?_); (try (refine gate_guard (by rfl) ?_; dsimp only)); refine be_ 1 #[.string a0_0, .string a0_1] 32 ?_; intro gb190 hg w4 hbox hb; have BK190 := Aside0.mk (hbox); have GW190 := bsz_ hg; have GE190 := bsz_ hg; replace HB := bst_ hb; clear hb hbox hg; have hcz5_0 := b20_ BK190; have hcz5_1 := b21_ BK190; have hfz5_0 := blk_frozen BK190.out 0; have hfz5_1 := blk_frozen BK190.out 1) | ((with_reducible refine gate_callee (f := 28) rfl ?_); refine gl_ (some 8) Tryd.func28 #[.string a0_1] ?_; (with_reducible refine (impl_ReadFrames.calls k a0_1 t191 t192 _ A2.out ?side1).mono ?_); (case side1 => exact HTB.out.below bwl_); rintro e w6 ⟨v193, rfl, ho0, hb⟩; refine ⟨_, rfl, ?_⟩; have HO194 := Aside0.mk (Kd.R_lower ho0 (below_size bwl_)); replace BK190 := bkb_ BK190 hb; replace HB := bst_ hb; clear hb ho0; have hcz7_0 := b20_ BK190; have hcz7_1 := b21_ BK190; have hfz7_0 := blk_frozen BK190.out 0; have hfz7_1 := blk_frozen BK190.out 1))
  go_ret
  exact ⟨rr_, bwl_⟩
 ·rw [if_neg c3] at H
  have c3b0 : (t192 == (a0_1.size : Int)) = false := beq_eq_false_iff_ne.mpr c3
  have c3b1 : (t192 != (a0_1.size : Int)) = true := bne_iff_ne.mpr c3
  obtain rfl := Option.some.inj H
  go_enter Tryd.func61, Tryd.ntmps61
  go_wp2_with (first | ((with_reducible refine gate_dst (N := 1) rfl ?_); (try (refine gate_guard (by rfl) ?_; dsimp only)); refine be_ 1 #[.string a0_0, .string a0_1] 32 ?_; intro gb190 hg w8 hbox hb; have BK190 := Aside0.mk (hbox); have GW190 := bsz_ hg; have GE190 := bsz_ hg; replace HB := bst_ hb; clear hb hbox hg; have hcz9_0 := b20_ BK190; have hcz9_1 := b21_ BK190; have hfz9_0 := blk_frozen BK190.out 0; have hfz9_1 := blk_frozen BK190.out 1) | ((with_reducible refine gate_callee (f := 28) rfl ?_); refine gl_ (some 8) Tryd.func28 #[.string a0_1] ?_; (with_reducible refine (impl_ReadFrames.calls k a0_1 t191 t192 _ A2.out ?side1).mono ?_); (case side1 => exact HTB.out.below bwl_); rintro e w10 ⟨v193, rfl, ho0, hb⟩; refine ⟨_, rfl, ?_⟩; have HO194 := Aside0.mk (Kd.R_lower ho0 (below_size bwl_)); replace BK190 := bkb_ BK190 hb; replace HB := bst_ hb; clear hb ho0; have hcz11_0 := b20_ BK190; have hcz11_1 := b21_ BK190; have hfz11_0 := blk_frozen BK190.out 0; have hfz11_1 := blk_frozen BK190.out 1))
  go_ret
  exact ⟨rr_, bwl_⟩
def impl_WriteEntry.f (k : Nat) (a0_0 : ByteArray) (a0_1 : ByteArray) (a1_0 : Int) (a1_1 : ByteArray) (a1_2 : ByteArray) : Option (ByteArray × ByteArray × Int) := (impl_validLog.f k a0_0 a0_1).bind fun t198 => (if t198 = true then ((impl_ValidEntry.f k a1_0 a1_1 a1_2).bind fun t199 => (if t199 = true then ((impl_FrameOf.f k a1_0 a1_1 a1_2).bind fun t200 => (if a0_1.size + t200.size ≤ 9223372036854775807 then ((impl_validLog.f k a0_0 (a0_1 ++ t200)).bind fun t201 => (if t201 = true then (some (a0_0, a0_1 ++ t200, 0)) else (some ((⟨#[]⟩ : ByteArray), (⟨#[]⟩ : ByteArray), 5)))) else (none))) else (some ((⟨#[]⟩ : ByteArray), (⟨#[]⟩ : ByteArray), 2)))) else (some ((⟨#[]⟩ : ByteArray), (⟨#[]⟩ : ByteArray), 1)))
theorem impl_WriteEntry.mono : ∀ a0 a1 a2 a3 a4 k, LeO (impl_WriteEntry.f k a0 a1 a2 a3 a4) (impl_WriteEntry.f (k + 1) a0 a1 a2 a3 a4) := by
 intro a0 a1 a2 a3 a4 k
 unfold impl_WriteEntry.f
 repeat' first
   | (with_reducible exact impl_FrameOf.mono _ _ _ _)
   | (with_reducible exact impl_ValidEntry.mono _ _ _ _)
   | (with_reducible exact impl_validLog.mono _ _ _)
   | (with_reducible exact LeO.refl _)
   | (with_reducible exact LeO.none _)
   | (with_reducible refine LeO.ite ?_ ?_)
   | (with_reducible refine LeO.bind ?_ (fun _ => ?_))
   | exact impl_FrameOf.mono _ _ _ _
   | exact impl_ValidEntry.mono _ _ _ _
   | exact impl_validLog.mono _ _ _
   | exact LeO.none _
   | refine LeO.ite ?_ ?_
   | refine LeO.bind ?_ (fun _ => ?_)
set_option maxHeartbeats 8000000 in
set_option maxRecDepth 100000 in
theorem impl_WriteEntry.calls (k : Nat) (a0_0 : ByteArray) (a0_1 : ByteArray) (a1_0 : Int) (a1_1 : ByteArray) (a1_2 : ByteArray) (r1 : ByteArray) (r2 : ByteArray) (r3 : Int) (w : World) (h : impl_WriteEntry.f k a0_0 a0_1 a1_0 a1_1 a1_2 = some (r1, r2, r3)) (hT : Go.Proofs.YtlcgonaapmmnkaaDoor.Base.Tb2 w) :
  Calls Tryd.prog 33 #[.agg #[.string a0_0, .string a0_1], .agg #[.int .i64 a1_0, .string a1_1, .string a1_2]] w fun e w' => e = .returned (.tuple #[.agg #[.string r1, .string r2], .int .i64 r3]) ∧ Below w.heap.size w w' := by
 have HTB := Aside0.mk hT
 clear hT
 have hu32 := Tryd.underlying32
 have hu26 := Tryd.underlying26
 have HB := Aside0.mk (Below.refl w.heap.size w)
 have H : ((impl_validLog.f k a0_0 a0_1).bind fun t198 => (if t198 = true then ((impl_ValidEntry.f k a1_0 a1_1 a1_2).bind fun t199 => (if t199 = true then ((impl_FrameOf.f k a1_0 a1_1 a1_2).bind fun t200 => (if a0_1.size + t200.size ≤ 9223372036854775807 then ((impl_validLog.f k a0_0 (a0_1 ++ t200)).bind fun t201 => (if t201 = true then (some (a0_0, a0_1 ++ t200, 0)) else (some ((⟨#[]⟩ : ByteArray), (⟨#[]⟩ : ByteArray), 5)))) else (none))) else (some ((⟨#[]⟩ : ByteArray), (⟨#[]⟩ : ByteArray), 2)))) else (some ((⟨#[]⟩ : ByteArray), (⟨#[]⟩ : ByteArray), 1)))) = some (r1, r2, r3) := h
 clear h
 replace H := Option.bind_eq_some_iff.mp H
 obtain ⟨t198, A30, H⟩ := H
 (try dsimp only at H)
 have A3 := Aside0.mk A30
 clear A30
 by_cases c4 : t198 = true
 ·subst c4
  rw [if_pos rfl] at H
  replace H := Option.bind_eq_some_iff.mp H
  obtain ⟨t199, A50, H⟩ := H
  (try dsimp only at H)
  have A5 := Aside0.mk A50
  clear A50
  by_cases c6 : t199 = true
  ·subst c6
   rw [if_pos rfl] at H
   replace H := Option.bind_eq_some_iff.mp H
   obtain ⟨t200, A70, H⟩ := H
   (try dsimp only at H)
   have A7 := Aside0.mk A70
   clear A70
   by_cases c8 : a0_1.size + t200.size ≤ 9223372036854775807
   ·rw [if_pos c8] at H
    have c8b0 := eq_true c8
    have c8b1 : decide (a0_1.size + t200.size ≤ 9223372036854775807) = true := decide_eq_true c8
    try have c8b2 : (9223372036854775807 < a0_1.size + t200.size) = False := eq_false (Nat.not_lt.2 c8)
    replace H := Option.bind_eq_some_iff.mp H
    obtain ⟨t201, A90, H⟩ := H
    (try dsimp only at H)
    have A9 := Aside0.mk A90
    clear A90
    by_cases c10 : t201 = true
    ·subst c10
     rw [if_pos rfl] at H
     simp only [Option.some.injEq, Prod.mk.injEq] at H
     obtain ⟨rfl, rfl, rfl⟩ := H
     go_enter Tryd.func33, Tryd.ntmps33
     try go_wp2_with (first | ((with_reducible refine gate_dst (N := 2) rfl ?_); refine be_ 2 #[.string a0_0, .string a0_1] 32 ?_; intro gb195 hg w11 hbox hb; have BK195 := Aside0.mk (hbox); have GW195 := bsz_ hg; have GE195 := bsz_ hg; replace HB := bst_ hb; clear hb hbox hg) | ((with_reducible refine gate_dst (N := 3) rfl ?_); refine be_ 3 #[.int .i64 a1_0, .string a1_1, .string a1_2] 26 ?_; intro gb196 hg w12 hbox hb; have BK196 := Aside0.mk (hbox); have GW196 := bsz_ hg; have GE196 := bsz_ hg; replace HB := bst_ hb; have NB195_196 := nbl_ BK195 hg; have NB196_195 := nbr_ BK195 hg; replace BK195 := bkb_ BK195 hb; clear hb hbox hg) | ((with_reducible refine gate_dst (N := 4) rfl ?_); refine be_ 4 #[.string (⟨#[]⟩ : ByteArray), .string (⟨#[]⟩ : ByteArray)] 32 ?_; intro gb197 hg w13 hbox hb; have BK197 := Aside0.mk (hbox); have GW197 := bsz_ hg; have GE197 := bsz_ hg; replace HB := bst_ hb; have NB195_197 := nbl_ BK195 hg; have NB197_195 := nbr_ BK195 hg; replace BK195 := bkb_ BK195 hb; have NB196_197 := nbl_ BK196 hg; have NB197_196 := nbr_ BK196 hg; replace BK196 := bkb_ BK196 hb; clear hb hbox hg; have hnb14 := NB195_196.out; have hnc14 := NB196_195.out; have hnb15 := NB195_197.out; have hnc15 := NB197_195.out; have hcz16_0 := b20_ BK195; have hcz16_1 := b21_ BK195; have hfz16_0 := blk_frozen BK195.out 0; have hfz16_1 := blk_frozen BK195.out 1) | ((with_reducible refine gate_callee (f := 61) rfl ?_); refine gl_ (some 8) Tryd.func61 #[.agg #[.string a0_0, .string a0_1]] ?_; (with_reducible refine (impl_validLog.calls k a0_0 a0_1 true _ A3.out ?side1).mono ?_); (case side1 => exact HTB.out.below bwl_); rintro e w17 ⟨rfl, hb⟩; refine ⟨_, rfl, ?_⟩; replace BK195 := bkb_ BK195 hb; replace BK196 := bkb_ BK196 hb; replace BK197 := bkb_ BK197 hb; replace HB := bst_ hb; clear hb; have hnb18 := NB196_197.out; have hnc18 := NB197_196.out; have hcz19_0 := b30_ BK196; have hcz19_1 := b31_ BK196; have hcz19_2 := b32_ BK196; have hfz19_0 := blk_frozen BK196.out 0; have hfz19_1 := blk_frozen BK196.out 1; have hfz19_2 := blk_frozen BK196.out 2) | ((with_reducible refine gate_callee (f := 55) rfl ?_); refine gl_ (some 13) Tryd.func55 #[.agg #[.int .i64 a1_0, .string a1_1, .string a1_2]] ?_; (with_reducible refine (impl_ValidEntry.calls k a1_0 a1_1 a1_2 true _ A5.out).mono ?_); rintro e w20 ⟨rfl, hb⟩; refine ⟨_, rfl, ?_⟩; replace BK195 := bkb_ BK195 hb; replace BK196 := bkb_ BK196 hb; replace BK197 := bkb_ BK197 hb; replace HB := bst_ hb; clear hb))
     replace BK195 := Aside0.mk (blk_drew BK195.out)
     replace BK196 := Aside0.mk (blk_drew BK196.out)
     replace BK197 := Aside0.mk (blk_drew BK197.out)
     replace HB := Aside0.mk (below_drew1 HB.out)
     refine start_ (n := 7) (S := fun w' => w'.cell? ⟨gb195, 0, none⟩ = some (.string a0_0) ∧ w'.cell? ⟨gb195, 1, none⟩ = some (.string a0_1) ∧ w'.cell? ⟨gb196, 0, none⟩ = some (.int .i64 a1_0) ∧ w'.cell? ⟨gb196, 1, none⟩ = some (.string a1_1) ∧ w'.cell? ⟨gb196, 2, none⟩ = some (.string a1_2)) (ds := [6]) (fl 7 0) (by kernel_rfl) rfl rfl ⟨(blk_cell BK195.out 0).trans rfl, (blk_cell BK195.out 1).trans rfl, (blk_cell BK196.out 0).trans rfl, (blk_cell BK196.out 1).trans rfl, (blk_cell BK196.out 2).trans rfl⟩ (fun hHeld => ?_)
     generalize w20.drew = w21 at BK195 BK196 BK197 HB hHeld ⊢
     refine pu_ (i := 0) (N := some 16) (fl 7 1) (by kernel_rfl) ?_
     refine take_ (i := 1) (N := some 17) (v := ?_) (a' := ?_) (fl 7 3) rfl rfl (by kernel_rfl) (fun _ _ _ h => h) (Or.inl ⟨by rfl, ?_⟩) hHeld ?_ ?_
     rotate_left
     ·rintro w' ⟨s0, s1, s2, s3, s4⟩
      go_simp
      with_reducible rfl
     rotate_left
     ·simp only [Act.put, List.setIfInBounds_toArray, List.set_cons_zero, List.set_cons_succ, i64_w, i32_w]
      rfl
     refine take_ (i := 2) (N := some 18) (v := ?_) (a' := ?_) (fl 7 7) rfl rfl (by kernel_rfl) (fun _ _ _ h => h) (Or.inl ⟨by rfl, ?_⟩) hHeld ?_ ?_
     rotate_left
     ·rintro w' ⟨s0, s1, s2, s3, s4⟩
      go_simp
      with_reducible rfl
     rotate_left
     ·simp only [Act.put, List.setIfInBounds_toArray, List.set_cons_zero, List.set_cons_succ, i64_w, i32_w]
      rfl
     refine one_ (i := 3) (N := some 19) (fl 7 15) rfl rfl (by kernel_rfl) (by decide) (fun K hK => ?_)
     refine goes_ Tryd.func17 (by kernel_rfl) rfl #[.agg #[.int .i64 a1_0, .string a1_1, .string a1_2]] (by rfl) rfl rfl (by (try simp only [List.map_toArray, List.map_cons, List.map_nil]); first | done | rfl | (simp only [List.length_drop, List.length_take]; rfl) | (simp only [ByteArray.size_append, Int.natCast_add]; rfl)) ?_
     with_reducible refine (impl_FrameOf.calls k a1_0 a1_1 a1_2 t200 _ A7.out ?side1).mono ?_
     (case side1 => exact HTB.out.below bwl_)
     rintro e w22 ⟨rfl, hb⟩
     refine ⟨_, rfl, ?_⟩
     replace BK195 := bkb_ BK195 hb
     replace BK196 := bkb_ BK196 hb
     replace BK197 := bkb_ BK197 hb
     replace HB := bst_ hb
     (try clear hb);(try clear hb2);(try clear hk);(try clear hi)
     refine hK.out _ _ ⟨(blk_cell BK195.out 0).trans rfl, (blk_cell BK195.out 1).trans rfl, (blk_cell BK196.out 0).trans rfl, (blk_cell BK196.out 1).trans rfl, (blk_cell BK196.out 2).trans rfl⟩ (fun hHeld => ?_)
     clear hK K
     refine norm_ (a' := ?_) ?_ ?_
     rotate_left
     ·show Act.put _ (some 19) _ = _
      simp only [Act.put, List.setIfInBounds_toArray, List.set_cons_zero, List.set_cons_succ, i64_w, i32_w]
      rfl
     refine pu_ (i := 4) (N := some 20) (fl 7 31) (by kernel_rfl) ?_
     refine pu_ (i := 5) (N := some 21) (fl 7 63) (by kernel_rfl) ?_
     refine last_ (i := 6) (N := none) (fl 7 127) rfl rfl (by kernel_rfl) (by decide) (fun K hK => ?_)
     have hs23 : w22.cell? ⟨gb195, 1, none⟩ = some (.string a0_1) := (blk_cell BK195.out 1).trans rfl
     have hfs23 := blk_frozen BK195.out 1
     have hns23_1 := NB196_195.out
     have hns23_2 := NB197_195.out
     have hms23_1 := NB195_196.out
     have hms23_2 := NB195_197.out
     refine skip_ (w1 := ?_) (by rfl) rfl ?_ ?_
     rotate_left
     ·go_simp
      rfl
     refine hK.out _ _ ?_
     clear hK K
     refine done_ (by kernel_rfl) ?_
     have hcz24_0 := b20_ BK195
     have hcz24_1 := b21_ BK195
     have hfz24_0 := blk_frozen BK195.out 0
     have hfz24_1 := blk_frozen BK195.out 1
     try go_wp2_with (first | ((with_reducible refine gate_callee (f := 61) rfl ?_); refine gl_ (some 23) Tryd.func61 #[.agg #[.string a0_0, .string (a0_1 ++ t200)]] ?_; (with_reducible refine (impl_validLog.calls k a0_0 (a0_1 ++ t200) true _ A9.out ?side1).mono ?_); (case side1 => exact HTB.out.below bwl_); rintro e w25 ⟨rfl, hb⟩; refine ⟨_, rfl, ?_⟩; replace BK195 := Aside0.mk (blk_below (g := gb195) (o := .cells #[.string a0_0, .string (a0_1 ++ t200)] 32 (0, 0)) (by (with_reducible repeat (first | refine blk_drewN ?_ _ | refine blk_drew ?_ | refine blk_alloc ?_ _)); refine blk_put (cs := #[.string a0_0, .string a0_1]) ?_ 1 _ rfl; (with_reducible repeat (first | refine blk_drewN ?_ _ | refine blk_drew ?_ | refine blk_alloc ?_ _)); exact BK195.out) hb); replace BK196 := bkb_ BK196 hb; replace BK197 := bkb_ BK197 hb; replace HB := bst_ hb; clear hb; have hcz26_0 := b20_ BK195; have hcz26_1 := b21_ BK195; have hfz26_0 := blk_frozen BK195.out 0; have hfz26_1 := blk_frozen BK195.out 1; have hcz27_0 := b20_ BK197; have hcz27_1 := b21_ BK197; have hfz27_0 := blk_frozen BK197.out 0; have hfz27_1 := blk_frozen BK197.out 1))
     refine bodyPost_ret (results_ct rfl _ _ gb197 32 #[.string a0_0, .string (a0_1 ++ t200)] (0, 0) _ rfl (by (with_reducible repeat (first | refine blk_drewN ?_ _ | refine blk_drew ?_ | refine blk_alloc ?_ _)); refine blk_put (cs := #[.string a0_0, .string (⟨#[]⟩ : ByteArray)]) ?_ 1 _ rfl; (with_reducible repeat (first | refine blk_drewN ?_ _ | refine blk_drew ?_ | refine blk_alloc ?_ _)); refine blk_put (cs := #[.string (⟨#[]⟩ : ByteArray), .string (⟨#[]⟩ : ByteArray)]) ?_ 0 _ rfl; (with_reducible repeat (first | refine blk_drewN ?_ _ | refine blk_drew ?_ | refine blk_alloc ?_ _)); exact BK197.out) Tryd.underlying32 rfl (by kernel_rfl)) rfl ?_
     exact ⟨rr_, bwl_⟩
    ·replace c10 := Bool.eq_false_iff.mpr c10
     subst c10
     rw [if_neg (show ¬ (false = true) by decide)] at H
     simp only [Option.some.injEq, Prod.mk.injEq] at H
     obtain ⟨rfl, rfl, rfl⟩ := H
     go_enter Tryd.func33, Tryd.ntmps33
     try go_wp2_with (first | ((with_reducible refine gate_dst (N := 2) rfl ?_); refine be_ 2 #[.string a0_0, .string a0_1] 32 ?_; intro gb195 hg w28 hbox hb; have BK195 := Aside0.mk (hbox); have GW195 := bsz_ hg; have GE195 := bsz_ hg; replace HB := bst_ hb; clear hb hbox hg) | ((with_reducible refine gate_dst (N := 3) rfl ?_); refine be_ 3 #[.int .i64 a1_0, .string a1_1, .string a1_2] 26 ?_; intro gb196 hg w29 hbox hb; have BK196 := Aside0.mk (hbox); have GW196 := bsz_ hg; have GE196 := bsz_ hg; replace HB := bst_ hb; have NB195_196 := nbl_ BK195 hg; have NB196_195 := nbr_ BK195 hg; replace BK195 := bkb_ BK195 hb; clear hb hbox hg) | ((with_reducible refine gate_dst (N := 4) rfl ?_); refine be_ 4 #[.string (⟨#[]⟩ : ByteArray), .string (⟨#[]⟩ : ByteArray)] 32 ?_; intro gb197 hg w30 hbox hb; have BK197 := Aside0.mk (hbox); have GW197 := bsz_ hg; have GE197 := bsz_ hg; replace HB := bst_ hb; have NB195_197 := nbl_ BK195 hg; have NB197_195 := nbr_ BK195 hg; replace BK195 := bkb_ BK195 hb; have NB196_197 := nbl_ BK196 hg; have NB197_196 := nbr_ BK196 hg; replace BK196 := bkb_ BK196 hb; clear hb hbox hg; have hnb31 := NB195_196.out; have hnc31 := NB196_195.out; have hnb32 := NB195_197.out; have hnc32 := NB197_195.out; have hcz33_0 := b20_ BK195; have hcz33_1 := b21_ BK195; have hfz33_0 := blk_frozen BK195.out 0; have hfz33_1 := blk_frozen BK195.out 1) | ((with_reducible refine gate_callee (f := 61) rfl ?_); refine gl_ (some 8) Tryd.func61 #[.agg #[.string a0_0, .string a0_1]] ?_; (with_reducible refine (impl_validLog.calls k a0_0 a0_1 true _ A3.out ?side1).mono ?_); (case side1 => exact HTB.out.below bwl_); rintro e w34 ⟨rfl, hb⟩; refine ⟨_, rfl, ?_⟩; replace BK195 := bkb_ BK195 hb; replace BK196 := bkb_ BK196 hb; replace BK197 := bkb_ BK197 hb; replace HB := bst_ hb; clear hb; have hnb35 := NB196_197.out; have hnc35 := NB197_196.out; have hcz36_0 := b30_ BK196; have hcz36_1 := b31_ BK196; have hcz36_2 := b32_ BK196; have hfz36_0 := blk_frozen BK196.out 0; have hfz36_1 := blk_frozen BK196.out 1; have hfz36_2 := blk_frozen BK196.out 2) | ((with_reducible refine gate_callee (f := 55) rfl ?_); refine gl_ (some 13) Tryd.func55 #[.agg #[.int .i64 a1_0, .string a1_1, .string a1_2]] ?_; (with_reducible refine (impl_ValidEntry.calls k a1_0 a1_1 a1_2 true _ A5.out).mono ?_); rintro e w37 ⟨rfl, hb⟩; refine ⟨_, rfl, ?_⟩; replace BK195 := bkb_ BK195 hb; replace BK196 := bkb_ BK196 hb; replace BK197 := bkb_ BK197 hb; replace HB := bst_ hb; clear hb))
     replace BK195 := Aside0.mk (blk_drew BK195.out)
     replace BK196 := Aside0.mk (blk_drew BK196.out)
     replace BK197 := Aside0.mk (blk_drew BK197.out)
     replace HB := Aside0.mk (below_drew1 HB.out)
     refine start_ (n := 7) (S := fun w' => w'.cell? ⟨gb195, 0, none⟩ = some (.string a0_0) ∧ w'.cell? ⟨gb195, 1, none⟩ = some (.string a0_1) ∧ w'.cell? ⟨gb196, 0, none⟩ = some (.int .i64 a1_0) ∧ w'.cell? ⟨gb196, 1, none⟩ = some (.string a1_1) ∧ w'.cell? ⟨gb196, 2, none⟩ = some (.string a1_2)) (ds := [6]) (fl 7 0) (by kernel_rfl) rfl rfl ⟨(blk_cell BK195.out 0).trans rfl, (blk_cell BK195.out 1).trans rfl, (blk_cell BK196.out 0).trans rfl, (blk_cell BK196.out 1).trans rfl, (blk_cell BK196.out 2).trans rfl⟩ (fun hHeld => ?_)
     generalize w37.drew = w38 at BK195 BK196 BK197 HB hHeld ⊢
     refine pu_ (i := 0) (N := some 16) (fl 7 1) (by kernel_rfl) ?_
     refine take_ (i := 1) (N := some 17) (v := ?_) (a' := ?_) (fl 7 3) rfl rfl (by kernel_rfl) (fun _ _ _ h => h) (Or.inl ⟨by rfl, ?_⟩) hHeld ?_ ?_
     rotate_left
     ·rintro w' ⟨s0, s1, s2, s3, s4⟩
      go_simp
      with_reducible rfl
     rotate_left
     ·simp only [Act.put, List.setIfInBounds_toArray, List.set_cons_zero, List.set_cons_succ, i64_w, i32_w]
      rfl
     refine take_ (i := 2) (N := some 18) (v := ?_) (a' := ?_) (fl 7 7) rfl rfl (by kernel_rfl) (fun _ _ _ h => h) (Or.inl ⟨by rfl, ?_⟩) hHeld ?_ ?_
     rotate_left
     ·rintro w' ⟨s0, s1, s2, s3, s4⟩
      go_simp
      with_reducible rfl
     rotate_left
     ·simp only [Act.put, List.setIfInBounds_toArray, List.set_cons_zero, List.set_cons_succ, i64_w, i32_w]
      rfl
     refine one_ (i := 3) (N := some 19) (fl 7 15) rfl rfl (by kernel_rfl) (by decide) (fun K hK => ?_)
     refine goes_ Tryd.func17 (by kernel_rfl) rfl #[.agg #[.int .i64 a1_0, .string a1_1, .string a1_2]] (by rfl) rfl rfl (by (try simp only [List.map_toArray, List.map_cons, List.map_nil]); first | done | rfl | (simp only [List.length_drop, List.length_take]; rfl) | (simp only [ByteArray.size_append, Int.natCast_add]; rfl)) ?_
     with_reducible refine (impl_FrameOf.calls k a1_0 a1_1 a1_2 t200 _ A7.out ?side1).mono ?_
     (case side1 => exact HTB.out.below bwl_)
     rintro e w39 ⟨rfl, hb⟩
     refine ⟨_, rfl, ?_⟩
     replace BK195 := bkb_ BK195 hb
     replace BK196 := bkb_ BK196 hb
     replace BK197 := bkb_ BK197 hb
     replace HB := bst_ hb
     (try clear hb);(try clear hb2);(try clear hk);(try clear hi)
     refine hK.out _ _ ⟨(blk_cell BK195.out 0).trans rfl, (blk_cell BK195.out 1).trans rfl, (blk_cell BK196.out 0).trans rfl, (blk_cell BK196.out 1).trans rfl, (blk_cell BK196.out 2).trans rfl⟩ (fun hHeld => ?_)
     clear hK K
     refine norm_ (a' := ?_) ?_ ?_
     rotate_left
     ·show Act.put _ (some 19) _ = _
      simp only [Act.put, List.setIfInBounds_toArray, List.set_cons_zero, List.set_cons_succ, i64_w, i32_w]
      rfl
     refine pu_ (i := 4) (N := some 20) (fl 7 31) (by kernel_rfl) ?_
     refine pu_ (i := 5) (N := some 21) (fl 7 63) (by kernel_rfl) ?_
     refine last_ (i := 6) (N := none) (fl 7 127) rfl rfl (by kernel_rfl) (by decide) (fun K hK => ?_)
     have hs40 : w39.cell? ⟨gb195, 1, none⟩ = some (.string a0_1) := (blk_cell BK195.out 1).trans rfl
     have hfs40 := blk_frozen BK195.out 1
     have hns40_1 := NB196_195.out
     have hns40_2 := NB197_195.out
     have hms40_1 := NB195_196.out
     have hms40_2 := NB195_197.out
     refine skip_ (w1 := ?_) (by rfl) rfl ?_ ?_
     rotate_left
     ·go_simp
      rfl
     refine hK.out _ _ ?_
     clear hK K
     refine done_ (by kernel_rfl) ?_
     have hcz41_0 := b20_ BK195
     have hcz41_1 := b21_ BK195
     have hfz41_0 := blk_frozen BK195.out 0
     have hfz41_1 := blk_frozen BK195.out 1
     try go_wp2_with (first | ((with_reducible refine gate_callee (f := 61) rfl ?_); refine gl_ (some 23) Tryd.func61 #[.agg #[.string a0_0, .string (a0_1 ++ t200)]] ?_; (with_reducible refine (impl_validLog.calls k a0_0 (a0_1 ++ t200) false _ A9.out ?side1).mono ?_); (case side1 => exact HTB.out.below bwl_); rintro e w42 ⟨rfl, hb⟩; refine ⟨_, rfl, ?_⟩; replace BK195 := Aside0.mk (blk_below (g := gb195) (o := .cells #[.string a0_0, .string (a0_1 ++ t200)] 32 (0, 0)) (by (with_reducible repeat (first | refine blk_drewN ?_ _ | refine blk_drew ?_ | refine blk_alloc ?_ _)); refine blk_put (cs := #[.string a0_0, .string a0_1]) ?_ 1 _ rfl; (with_reducible repeat (first | refine blk_drewN ?_ _ | refine blk_drew ?_ | refine blk_alloc ?_ _)); exact BK195.out) hb); replace BK196 := bkb_ BK196 hb; replace BK197 := bkb_ BK197 hb; replace HB := bst_ hb; clear hb; have hcz43_0 := b20_ BK197; have hcz43_1 := b21_ BK197; have hfz43_0 := blk_frozen BK197.out 0; have hfz43_1 := blk_frozen BK197.out 1))
     refine bodyPost_ret (results_ct rfl _ _ gb197 32 #[.string (⟨#[]⟩ : ByteArray), .string (⟨#[]⟩ : ByteArray)] (0, 0) _ rfl (by (with_reducible repeat (first | refine blk_drewN ?_ _ | refine blk_drew ?_ | refine blk_alloc ?_ _)); refine blk_put (cs := #[.string (⟨#[]⟩ : ByteArray), .string (⟨#[]⟩ : ByteArray)]) ?_ 1 _ rfl; (with_reducible repeat (first | refine blk_drewN ?_ _ | refine blk_drew ?_ | refine blk_alloc ?_ _)); refine blk_put (cs := #[.string (⟨#[]⟩ : ByteArray), .string (⟨#[]⟩ : ByteArray)]) ?_ 0 _ rfl; (with_reducible repeat (first | refine blk_drewN ?_ _ | refine blk_drew ?_ | refine blk_alloc ?_ _)); exact BK197.out) Tryd.underlying32 rfl (by kernel_rfl)) rfl ?_
     exact ⟨rr_, bwl_⟩
   ·rw [if_neg c8] at H
    exact absurd H (by simp)
  ·replace c6 := Bool.eq_false_iff.mpr c6
   subst c6
   rw [if_neg (show ¬ (false = true) by decide)] at H
   simp only [Option.some.injEq, Prod.mk.injEq] at H
   obtain ⟨rfl, rfl, rfl⟩ := H
   go_enter Tryd.func33, Tryd.ntmps33
   go_wp2_with (first | ((with_reducible refine gate_dst (N := 2) rfl ?_); refine be_ 2 #[.string a0_0, .string a0_1] 32 ?_; intro gb195 hg w44 hbox hb; have BK195 := Aside0.mk (hbox); have GW195 := bsz_ hg; have GE195 := bsz_ hg; replace HB := bst_ hb; clear hb hbox hg) | ((with_reducible refine gate_dst (N := 3) rfl ?_); refine be_ 3 #[.int .i64 a1_0, .string a1_1, .string a1_2] 26 ?_; intro gb196 hg w45 hbox hb; have BK196 := Aside0.mk (hbox); have GW196 := bsz_ hg; have GE196 := bsz_ hg; replace HB := bst_ hb; have NB195_196 := nbl_ BK195 hg; have NB196_195 := nbr_ BK195 hg; replace BK195 := bkb_ BK195 hb; clear hb hbox hg) | ((with_reducible refine gate_dst (N := 4) rfl ?_); refine be_ 4 #[.string (⟨#[]⟩ : ByteArray), .string (⟨#[]⟩ : ByteArray)] 32 ?_; intro gb197 hg w46 hbox hb; have BK197 := Aside0.mk (hbox); have GW197 := bsz_ hg; have GE197 := bsz_ hg; replace HB := bst_ hb; have NB195_197 := nbl_ BK195 hg; have NB197_195 := nbr_ BK195 hg; replace BK195 := bkb_ BK195 hb; have NB196_197 := nbl_ BK196 hg; have NB197_196 := nbr_ BK196 hg; replace BK196 := bkb_ BK196 hb; clear hb hbox hg; have hnb47 := NB195_196.out; have hnc47 := NB196_195.out; have hnb48 := NB195_197.out; have hnc48 := NB197_195.out; have hcz49_0 := b20_ BK195; have hcz49_1 := b21_ BK195; have hfz49_0 := blk_frozen BK195.out 0; have hfz49_1 := blk_frozen BK195.out 1) | ((with_reducible refine gate_callee (f := 61) rfl ?_); refine gl_ (some 8) Tryd.func61 #[.agg #[.string a0_0, .string a0_1]] ?_; (with_reducible refine (impl_validLog.calls k a0_0 a0_1 true _ A3.out ?side1).mono ?_); (case side1 => exact HTB.out.below bwl_); rintro e w50 ⟨rfl, hb⟩; refine ⟨_, rfl, ?_⟩; replace BK195 := bkb_ BK195 hb; replace BK196 := bkb_ BK196 hb; replace BK197 := bkb_ BK197 hb; replace HB := bst_ hb; clear hb; have hnb51 := NB196_197.out; have hnc51 := NB197_196.out; have hcz52_0 := b30_ BK196; have hcz52_1 := b31_ BK196; have hcz52_2 := b32_ BK196; have hfz52_0 := blk_frozen BK196.out 0; have hfz52_1 := blk_frozen BK196.out 1; have hfz52_2 := blk_frozen BK196.out 2) | ((with_reducible refine gate_callee (f := 55) rfl ?_); refine gl_ (some 13) Tryd.func55 #[.agg #[.int .i64 a1_0, .string a1_1, .string a1_2]] ?_; (with_reducible refine (impl_ValidEntry.calls k a1_0 a1_1 a1_2 false _ A5.out).mono ?_); rintro e w53 ⟨rfl, hb⟩; refine ⟨_, rfl, ?_⟩; replace BK195 := bkb_ BK195 hb; replace BK196 := bkb_ BK196 hb; replace BK197 := bkb_ BK197 hb; replace HB := bst_ hb; clear hb; have hcz54_0 := b20_ BK197; have hcz54_1 := b21_ BK197; have hfz54_0 := blk_frozen BK197.out 0; have hfz54_1 := blk_frozen BK197.out 1))
   refine bodyPost_ret (results_ct rfl _ _ gb197 32 #[.string (⟨#[]⟩ : ByteArray), .string (⟨#[]⟩ : ByteArray)] (0, 0) _ rfl (by (with_reducible repeat (first | refine blk_drewN ?_ _ | refine blk_drew ?_ | refine blk_alloc ?_ _)); refine blk_put (cs := #[.string (⟨#[]⟩ : ByteArray), .string (⟨#[]⟩ : ByteArray)]) ?_ 1 _ rfl; (with_reducible repeat (first | refine blk_drewN ?_ _ | refine blk_drew ?_ | refine blk_alloc ?_ _)); refine blk_put (cs := #[.string (⟨#[]⟩ : ByteArray), .string (⟨#[]⟩ : ByteArray)]) ?_ 0 _ rfl; (with_reducible repeat (first | refine blk_drewN ?_ _ | refine blk_drew ?_ | refine blk_alloc ?_ _)); exact BK197.out) Tryd.underlying32 rfl (by kernel_rfl)) rfl ?_
   exact ⟨rr_, bwl_⟩
 ·replace c4 := Bool.eq_false_iff.mpr c4
  subst c4
  rw [if_neg (show ¬ (false = true) by decide)] at H
  simp only [Option.some.injEq, Prod.mk.injEq] at H
  obtain ⟨rfl, rfl, rfl⟩ := H
  go_enter Tryd.func33, Tryd.ntmps33
  go_wp2_with (first | ((with_reducible refine gate_dst (N := 2) rfl ?_); refine be_ 2 #[.string a0_0, .string a0_1] 32 ?_; intro gb195 hg w55 hbox hb; have BK195 := Aside0.mk (hbox); have GW195 := bsz_ hg; have GE195 := bsz_ hg; replace HB := bst_ hb; clear hb hbox hg) | ((with_reducible refine gate_dst (N := 3) rfl ?_); refine be_ 3 #[.int .i64 a1_0, .string a1_1, .string a1_2] 26 ?_; intro gb196 hg w56 hbox hb; have BK196 := Aside0.mk (hbox); have GW196 := bsz_ hg; have GE196 := bsz_ hg; replace HB := bst_ hb; have NB195_196 := nbl_ BK195 hg; have NB196_195 := nbr_ BK195 hg; replace BK195 := bkb_ BK195 hb; clear hb hbox hg) | ((with_reducible refine gate_dst (N := 4) rfl ?_); refine be_ 4 #[.string (⟨#[]⟩ : ByteArray), .string (⟨#[]⟩ : ByteArray)] 32 ?_; intro gb197 hg w57 hbox hb; have BK197 := Aside0.mk (hbox); have GW197 := bsz_ hg; have GE197 := bsz_ hg; replace HB := bst_ hb; have NB195_197 := nbl_ BK195 hg; have NB197_195 := nbr_ BK195 hg; replace BK195 := bkb_ BK195 hb; have NB196_197 := nbl_ BK196 hg; have NB197_196 := nbr_ BK196 hg; replace BK196 := bkb_ BK196 hb; clear hb hbox hg; have hnb58 := NB195_196.out; have hnc58 := NB196_195.out; have hnb59 := NB195_197.out; have hnc59 := NB197_195.out; have hcz60_0 := b20_ BK195; have hcz60_1 := b21_ BK195; have hfz60_0 := blk_frozen BK195.out 0; have hfz60_1 := blk_frozen BK195.out 1) | ((with_reducible refine gate_callee (f := 61) rfl ?_); refine gl_ (some 8) Tryd.func61 #[.agg #[.string a0_0, .string a0_1]] ?_; (with_reducible refine (impl_validLog.calls k a0_0 a0_1 false _ A3.out ?side1).mono ?_); (case side1 => exact HTB.out.below bwl_); rintro e w61 ⟨rfl, hb⟩; refine ⟨_, rfl, ?_⟩; replace BK195 := bkb_ BK195 hb; replace BK196 := bkb_ BK196 hb; replace BK197 := bkb_ BK197 hb; replace HB := bst_ hb; clear hb; have hnb62 := NB197_196.out; have hnc62 := NB196_197.out; have hcz63_0 := b20_ BK197; have hcz63_1 := b21_ BK197; have hfz63_0 := blk_frozen BK197.out 0; have hfz63_1 := blk_frozen BK197.out 1))
  refine bodyPost_ret (results_ct rfl _ _ gb197 32 #[.string (⟨#[]⟩ : ByteArray), .string (⟨#[]⟩ : ByteArray)] (0, 0) _ rfl (by (with_reducible repeat (first | refine blk_drewN ?_ _ | refine blk_drew ?_ | refine blk_alloc ?_ _)); refine blk_put (cs := #[.string (⟨#[]⟩ : ByteArray), .string (⟨#[]⟩ : ByteArray)]) ?_ 1 _ rfl; (with_reducible repeat (first | refine blk_drewN ?_ _ | refine blk_drew ?_ | refine blk_alloc ?_ _)); refine blk_put (cs := #[.string (⟨#[]⟩ : ByteArray), .string (⟨#[]⟩ : ByteArray)]) ?_ 0 _ rfl; (with_reducible repeat (first | refine blk_drewN ?_ _ | refine blk_drew ?_ | refine blk_alloc ?_ _)); exact BK197.out) Tryd.underlying32 rfl (by kernel_rfl)) rfl ?_
  exact ⟨rr_, bwl_⟩
def spec_l27All.f (k : Nat) (s0_0 : ByteArray) (s0_1 : ByteArray) : Option ((List (S26)) × Int × ByteArray × ByteArray) := (spec_l27Ok.f k s0_0 s0_1).bind fun bt202 => (if bt202.1 = true then ((spec_l27Read.f k bt202.2.1).bind fun bt205 => (if bt205.2 < (bt202.2.1.size : Int) then (some (([] : List (S26)), 6, bt202.2.1, bt202.2.2)) else ((spec_l27Read.f k bt202.2.2).bind fun bt209 => (if bt205.1.length + bt209.1.length < 3518437208883 then (some ((bt205.1 ++ bt209.1), 0, bt202.2.1, bt202.2.2)) else (none))))) else (some (([] : List (S26)), 1, bt202.2.1, bt202.2.2)))
theorem spec_l27All.mono : ∀ a0 a1 k, LeO (spec_l27All.f k a0 a1) (spec_l27All.f (k + 1) a0 a1) := by
 intro a0 a1 k
 unfold spec_l27All.f
 repeat' first
   | (with_reducible exact spec_l27Ok.mono _ _ _)
   | (with_reducible exact spec_l27Read.mono _ _)
   | (with_reducible exact LeO.refl _)
   | (with_reducible exact LeO.none _)
   | (with_reducible refine LeO.ite ?_ ?_)
   | (with_reducible refine LeO.bind ?_ (fun _ => ?_))
   | exact spec_l27Ok.mono _ _ _
   | exact spec_l27Read.mono _ _
   | exact LeO.none _
   | refine LeO.ite ?_ ?_
   | refine LeO.bind ?_ (fun _ => ?_)
set_option maxHeartbeats 8000000 in
set_option maxRecDepth 100000 in
theorem spec_l27All.calls (k : Nat) (g : Nat) (s0_0 : ByteArray) (s0_1 : ByteArray) (r1 : List (S26)) (r2 : Int) (r3 : ByteArray) (r4 : ByteArray) (w0 w : World) (hI : IsS32 w0 w g s0_0 s0_1) (hB : Below w0.heap.size w0 w) (h : spec_l27All.f k s0_0 s0_1 = some (r1, r2, r3, r4)) :
  Calls Tryd.prog 68 #[.pointer (some ⟨g, 0, none⟩)] w fun e w' => ∃ v0_ : Value, e = .returned (.tuple #[v0_, .int .i64 r2]) ∧ Kd.R k26 26 w' w.heap.size (fun _ => True) v0_ r1 ∧ IsS32 w0 w' g r3 r4 ∧ Below w0.heap.size w0 w' ∧ KeepBut w w' g none := by
 have HI0 := Aside0.mk hI
 have HK := Aside0.mk (KeepBut.refl w g none)
 have HL := Aside0.mk hB.size
 clear hI
 have HW0 := Aside0.mk hB.size
 have HB := Aside0.mk hB
 clear hB
 have H : ((spec_l27Ok.f k s0_0 s0_1).bind fun bt202 => (if bt202.1 = true then ((spec_l27Read.f k bt202.2.1).bind fun bt205 => (if bt205.2 < (bt202.2.1.size : Int) then (some (([] : List (S26)), 6, bt202.2.1, bt202.2.2)) else ((spec_l27Read.f k bt202.2.2).bind fun bt209 => (if bt205.1.length + bt209.1.length < 3518437208883 then (some ((bt205.1 ++ bt209.1), 0, bt202.2.1, bt202.2.2)) else (none))))) else (some (([] : List (S26)), 1, bt202.2.1, bt202.2.2)))) = some (r1, r2, r3, r4) := h
 clear h
 replace H := Option.bind_eq_some_iff.mp H
 obtain ⟨⟨t202, t203, t204⟩, A20, H⟩ := H
 (try dsimp only at H)
 have A2 := Aside0.mk A20
 clear A20
 by_cases c3 : t202 = true
 ·subst c3
  rw [if_pos rfl] at H
  replace H := Option.bind_eq_some_iff.mp H
  obtain ⟨⟨t205, t206⟩, A40, H⟩ := H
  (try dsimp only at H)
  have A4 := Aside0.mk A40
  clear A40
  by_cases c5 : t206 < (t203.size : Int)
  ·rw [if_pos c5] at H
   have c5b0 : decide (t206 < (t203.size : Int)) = true := decide_eq_true c5
   clear c5
   simp only [Option.some.injEq, Prod.mk.injEq] at H
   obtain ⟨rfl, rfl, rfl, rfl⟩ := H
   go_enter Tryd.func68, Tryd.ntmps68
   go_wp2_with (first | ((with_reducible refine gate_callee (f := 60) rfl ?_); refine gl_ (some 9) Tryd.func60 #[.pointer (some ⟨g, 0, none⟩)] ?_; (with_reducible refine (spec_l27Ok.calls k g s0_0 s0_1 true t203 t204 w0 _ ?side1 ?side2 A2.out).mono ?_); (case side1 => exact isk32_x10 HI0); (case side2 => exact bwi32_x10); rintro e w6 ⟨rfl, hi, hb, hk⟩; refine ⟨_, rfl, ?_⟩; replace HK := Aside0.mk (KeepBut.trans (kbl_ HK) hk (.inl rfl)); replace HB := Aside0.mk (hb); replace HI0 := Aside0.mk (hi); clear hb hk hi; obtain ⟨HGz7, hgz7⟩ := HI0.out; have hcz7_0 := cellS32_0 HGz7; have hcz7_1 := cellS32_1 HGz7; have hfz7_0 := blk_frozen HGz7 0; have hfz7_1 := blk_frozen HGz7 1; clear HGz7 hgz7) | ((with_reducible refine gate_callee (f := 64) rfl ?_); refine gl_ (some 16) Tryd.func64 #[.string t203] ?_; (with_reducible refine (spec_l27Read.calls k t203 t205 t206 _ A4.out).mono ?_); rintro e w8 ⟨v207, rfl, ho0, hb⟩; refine ⟨_, rfl, ?_⟩; have HO208 := Aside0.mk (Kd.R_lower ho0 (keep_size (w := w) (g := g) (row := none) (kbl_ HK))); replace HK := Aside0.mk (KeepBut.trans (kbl_ HK) (KeepBut.of_below hb g none) (.inl rfl)); replace HB := Aside0.mk (below_step bwi32_x10 hb); replace HI0 := Aside0.mk (IsS32.below (isk32_x10 HI0) hb); clear hb ho0; obtain ⟨HGz9, hgz9⟩ := HI0.out; have hcz9_0 := cellS32_0 HGz9; have hcz9_1 := cellS32_1 HGz9; have hfz9_0 := blk_frozen HGz9 0; have hfz9_1 := blk_frozen HGz9 1; clear HGz9 hgz9))
   go_ret2
   exact ⟨_, by first | rfl | (simp [errW_none, errW_some] <;> rfl) | (simp [*, errW_none, errW_some] <;> rfl), by first | exact Kd.R_nil _ _ _ _ _ | exact Kd.N_nil _ _ _ _ _ | exact Kd.V_nil _ _ _ _ _ | exact Kd.Q_nil _ _ _ _ _ | exact Kd.S_nil _ _ _ _ _, isk32_x10 HI0, bwi32_x10, kbl_ HK⟩
  ·rw [if_neg c5] at H
   have c5b0 : decide (t206 < (t203.size : Int)) = false := decide_eq_false c5
   clear c5
   replace H := Option.bind_eq_some_iff.mp H
   obtain ⟨⟨t209, t210⟩, A100, H⟩ := H
   (try dsimp only at H)
   have A10 := Aside0.mk A100
   clear A100
   by_cases c11 : t205.length + t209.length < 3518437208883
   ·rw [if_pos c11] at H
    have LMc11 := Aside0.mk c11
    clear c11
    obtain ⟨y213, hy213⟩ : ∃ y_ : List (S26), y_ = (t205 ++ t209) := ⟨_, rfl⟩
    replace H : (some (y213, 0, t203, t204)) = some (r1, r2, r3, r4) := by first | (rw [hy213]; with_reducible exact H) | (have H2_ := (Option.bind_some _ _).symm.trans H; rw [hy213]; with_reducible exact H2_) | (have H2_ := (Option.bind_some _ _).symm.trans H; with_reducible exact H2_) | with_reducible exact H | (rw [hy213]; exact H) | exact H
    have Ny213 := Aside0.mk hy213
    clear hy213
    simp only [Option.some.injEq, Prod.mk.injEq] at H
    obtain ⟨rfl, rfl, rfl, rfl⟩ := H
    go_enter Tryd.func68, Tryd.ntmps68
    go_wp2_with (first | ((with_reducible refine gate_callee (f := 60) rfl ?_); refine gl_ (some 9) Tryd.func60 #[.pointer (some ⟨g, 0, none⟩)] ?_; (with_reducible refine (spec_l27Ok.calls k g s0_0 s0_1 true t203 t204 w0 _ ?side1 ?side2 A2.out).mono ?_); (case side1 => exact isk32_x10 HI0); (case side2 => exact bwi32_x10); rintro e w12 ⟨rfl, hi, hb, hk⟩; refine ⟨_, rfl, ?_⟩; replace HK := Aside0.mk (KeepBut.trans (kbl_ HK) hk (.inl rfl)); replace HB := Aside0.mk (hb); replace HI0 := Aside0.mk (hi); clear hb hk hi; obtain ⟨HGz13, hgz13⟩ := HI0.out; have hcz13_0 := cellS32_0 HGz13; have hcz13_1 := cellS32_1 HGz13; have hfz13_0 := blk_frozen HGz13 0; have hfz13_1 := blk_frozen HGz13 1; clear HGz13 hgz13) | ((with_reducible refine gate_callee (f := 64) rfl ?_); refine gl_ (some 16) Tryd.func64 #[.string t203] ?_; (with_reducible refine (spec_l27Read.calls k t203 t205 t206 _ A4.out).mono ?_); rintro e w14 ⟨v207, rfl, ho0, hb⟩; refine ⟨_, rfl, ?_⟩; have HO208 := Aside0.mk (Kd.R_lower ho0 (keep_size (w := w) (g := g) (row := none) (kbl_ HK))); replace HK := Aside0.mk (KeepBut.trans (kbl_ HK) (KeepBut.of_below hb g none) (.inl rfl)); replace HB := Aside0.mk (below_step bwi32_x10 hb); replace HI0 := Aside0.mk (IsS32.below (isk32_x10 HI0) hb); clear hb ho0; obtain ⟨HGz15, hgz15⟩ := HI0.out; have hcz15_0 := cellS32_0 HGz15; have hcz15_1 := cellS32_1 HGz15; have hfz15_0 := blk_frozen HGz15 0; have hfz15_1 := blk_frozen HGz15 1; clear HGz15 hgz15) | ((with_reducible refine gate_callee (f := 64) rfl ?_); refine gl_ (some 31) Tryd.func64 #[.string t204] ?_; (with_reducible refine (spec_l27Read.calls k t204 t209 t210 _ A10.out).mono ?_); rintro e w16 ⟨v211, rfl, ho0, hb⟩; refine ⟨_, rfl, ?_⟩; have HO212 := Aside0.mk (Kd.R_lower (Kd.R_new' ho0 (Kd.R_lt (by (with_reducible repeat (first | apply Kd.R_alloc | apply Kd.R_drewN | apply Kd.R_drew)); exact HO208.out))) (keep_size (w := w) (g := g) (row := none) (kbl_ HK))); replace HO208 := Aside0.mk (Kd.R_elder' (by (with_reducible repeat (first | apply Kd.R_alloc | apply Kd.R_drewN | apply Kd.R_drew)); exact HO208.out) (Kd.R_base ho0) hb); replace HK := Aside0.mk (KeepBut.trans (kbl_ HK) (KeepBut.of_below hb g none) (.inl rfl)); replace HB := Aside0.mk (below_step bwi32_x10 hb); replace HI0 := Aside0.mk (IsS32.below (isk32_x10 HI0) hb); clear hb ho0; obtain ⟨Ao18, co18, eo18⟩ := Kd.R_slice HO212.out; subst eo18) | ((with_reducible refine gate_builtin (b := .append) (xs := #[.tmp 34, .tmp 35]) rfl ?_); at_builtin; refine Kd.R_append_rows k26 w.heap.size rfl (.tmp 34) (.tmp 35) 42 26 (.agg #[(.int .i64 0), (.string ⟨#[]⟩), (.string ⟨#[]⟩)]) 40 rfl Tryd.underlying42 info26 rfl (by decide) (by omega) v207 t205 t209 _ _ _ (fun k_ => some k_ ≠ (.slice Ao18 t209.length co18 : Value).ownBlock) (fun _ => False) rfl rfl ?aO ?aR (fun _ _ h => h) (fun _ h => h.elim) ?aF (Below.refl _ _) ?aS ?aL ?_; (case aR => repeat (first | exact (Kd.R_reads' HO212.out).2.2 | (with_reducible refine Kd.C_alloc ?_ _) | (with_reducible refine Kd.C_drewN ?_ _) | (with_reducible refine Kd.C_drew ?_))); (case aF => exact (fun k_ hk => Kd.fresh' (Kd.R_lt (by (with_reducible repeat (first | apply Kd.R_alloc | apply Kd.R_drewN | apply Kd.R_drew)); exact HO212.out)) k_ hk)); (case aO => exact (by (with_reducible repeat (first | apply Kd.R_alloc | apply Kd.R_drewN | apply Kd.R_drew)); exact Kd.R_mono HO208.out (fun _ hk => hk.2))); (case aS => exact (keep_size (w := w) (g := g) (row := none) (kbl_ HK))); (case aL => have := LMc11.out; omega); intro v214 w17 ho hb hg hat; rw [← Ny213.out] at ho; replace HO212 := Aside0.mk (Kd.R_after (ok := (fun _ => True)) (by (with_reducible repeat (first | apply Kd.R_alloc | apply Kd.R_drewN | apply Kd.R_drew)); exact HO212.out) hg hat); replace HB := Aside0.mk (below_weaken bwi32_x10 HL.out hb); replace HI0 := Aside0.mk (IsS32.grown (isk32_x10 HI0) hg (IsS32.own_ne HI0.out HO208.out (by decide))); replace HK := Aside0.mk (KeepBut.trans (kbl_ HK) (KeepBut.of_grown hg g) (Kd.R_base2 HO208.out)); have HO215 := Aside0.mk (ho); clear HO208; clear ho hb hg hat))
    go_ret2
    exact ⟨_, by first | rfl | (simp [errW_none, errW_some] <;> rfl) | (simp [*, errW_none, errW_some] <;> rfl), by (with_reducible repeat (first | apply Kd.R_alloc | apply Kd.R_drewN | apply Kd.R_drew)); exact Kd.R_mono HO215.out (fun _ hk => trivial), isk32_x10 HI0, bwi32_x10, kbl_ HK⟩
   ·rw [if_neg c11] at H
    exact absurd H (by simp)
 ·replace c3 := Bool.eq_false_iff.mpr c3
  subst c3
  rw [if_neg (show ¬ (false = true) by decide)] at H
  simp only [Option.some.injEq, Prod.mk.injEq] at H
  obtain ⟨rfl, rfl, rfl, rfl⟩ := H
  go_enter Tryd.func68, Tryd.ntmps68
  go_wp2_with (first | ((with_reducible refine gate_callee (f := 60) rfl ?_); refine gl_ (some 9) Tryd.func60 #[.pointer (some ⟨g, 0, none⟩)] ?_; (with_reducible refine (spec_l27Ok.calls k g s0_0 s0_1 false t203 t204 w0 _ ?side1 ?side2 A2.out).mono ?_); (case side1 => exact isk32_x10 HI0); (case side2 => exact bwi32_x10); rintro e w19 ⟨rfl, hi, hb, hk⟩; refine ⟨_, rfl, ?_⟩; replace HK := Aside0.mk (KeepBut.trans (kbl_ HK) hk (.inl rfl)); replace HB := Aside0.mk (hb); replace HI0 := Aside0.mk (hi); clear hb hk hi))
  go_ret2
  exact ⟨_, by first | rfl | (simp [errW_none, errW_some] <;> rfl) | (simp [*, errW_none, errW_some] <;> rfl), by first | exact Kd.R_nil _ _ _ _ _ | exact Kd.N_nil _ _ _ _ _ | exact Kd.V_nil _ _ _ _ _ | exact Kd.Q_nil _ _ _ _ _ | exact Kd.S_nil _ _ _ _ _, isk32_x10 HI0, bwi32_x10, kbl_ HK⟩
end Go.Proofs.YtlcgonaapmmnkaaDoor.QFnLogs
