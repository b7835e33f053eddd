import Derived.Test.YtihiodhlmnhfdaaDoorSq
import Derived.Test.YtihiodhlmnhfdaaDoorQFnExactNewDeskx0
import Derived.Test.YtihiodhlmnhfdaaDoorQFnExactNewDeskx2
import Derived.Test.YtihiodhlmnhfdaaDoorQFnExactNewDeskx3
import Derived.Test.YtihiodhlmnhfdaaDoorQFnExactNewDeskx4
import Derived.Test.YtihiodhlmnhfdaaDoorQFnExactNewDeskx5
namespace Go.Proofs.YtihiodhlmnhfdaaDoor.QFnExactNewDesk
open Sq (fl pu_ gl_ b20_ b21_ b30_ b31_ b32_ od_ rr_ be_)
open Go.RowKit Go.Proofs.YtihiodhlmnhfdaaDoorW.PrintWords Go.Proofs.YtihiodhlmnhfdaaDoorW.PrintLast Go.Proofs.YtihiodhlmnhfdaaDoorW.PrintMore
attribute [local go_sem] max2_int min2_int max_two min_two max_three min_three max_four min_four
set_option linter.unusedVariables false
set_option linter.unusedSimpArgs false
section
open Go.Proofs.YtihiodhlmnhfdaaDoor.Base
set_option maxHeartbeats 8000000 in
set_option maxRecDepth 100000 in
theorem railNamed1 (x : S68) (B0 : Nat) (nm : ByteArray) (w : World) (hB0 : B0 < w.heap.size) (hc0 : w.cell? ⟨B0, 0, none⟩ = some (.string nm)) :
  Calls Tryd.prog 76 #[.agg #[.string x.f0, .string x.f1, .int .i64 x.f2], .pointer (some ⟨B0, 0, none⟩)] w fun e w' => e = .returned (.bool (x.f0.toList == nm.toList)) ∧ Below w.heap.size w w' := by
 go_enter Tryd.func76, Tryd.ntmps76
 go_wp2
 go_ret
 exact ⟨rfl, (Below.refl _ _).alloc (Nat.le_refl _) _⟩
set_option maxHeartbeats 8000000 in
set_option maxRecDepth 100000 in
theorem railNamedIndex (A0 : Option Addr) (c0 : Nat) (l0 : List S68) (B0 : Nat) (nm : ByteArray) (w : World) (hr0 : Kd.C k68 w A0 l0.length l0) (hB0 : B0 < w.heap.size) (hc0 : w.cell? ⟨B0, 0, none⟩ = some (.string nm)) :
  Calls Tryd.prog 75 #[.slice A0 l0.length c0, .func (.func 76) #[] #[.pointer (some ⟨B0, 0, none⟩)]] w fun e w' => e = .returned (.int .i64 (idxOf (fun x : S68 => x.f0.toList == nm.toList) l0)) ∧ Below w.heap.size w w' := by
 have hm := Kd.C_max hr0
 have HR0 := Aside0.mk hr0
 have HC0 := Aside0.mk hc0
 have HB0 := Aside0.mk hB0
 clear hr0 hc0 hB0
 have eg : ∀ args w, (callFunc 76 args).run Tryd.prog w = .ok (.enter 76 args) w := enters_of Tryd.func76 (by kernel_rfl) rfl
 go_enter Tryd.func75, Tryd.ntmps75
 go_wp2
 go_loopw [5, 8] (fun _ v8 w' => ∃ i : Nat, v8 = .int .i64 i ∧ i ≤ l0.length ∧ Aside0 (∀ j (hj : j < l0.length), j < i → (fun x : S68 => x.f0.toList == nm.toList) l0[j] = false) ∧ Aside0 (Below w.heap.size w w')) (fun _ v8 _ => l0.length - (intOf v8).toNat)
 case atStart => exact ⟨0, rfl, Nat.zero_le _, ⟨fun j _ hj => absurd hj (Nat.not_lt_zero _)⟩, ⟨Below.refl _ _⟩⟩
 case round =>
  obtain ⟨i, rfl, hi, hf, hw⟩ := hrel
  have HRw := Aside0.mk (Kd.C_below HR0.out hw.out)
  by_cases hlt : i < l0.length
  ·have p1 : (0 : Int) ≤ (i : Int) := Int.natCast_nonneg i
   have p2 : (i : Int) < (l0.length : Int) := Int.ofNat_lt.2 hlt
   obtain ⟨ad, rfl, d0, d1, d2⟩ := at_T68 HRw.out (i : Int) p1 p2
   rw [Int.toNat_natCast] at d0 d1 d2
   have I1 := Aside0.mk (railNamed1 (rd_T68 l0 i) B0 nm wr (by have := hw.out.size; have := HB0.out; omega) ((hw.out.cell (p := ⟨B0, 0, none⟩) HB0.out).trans HC0.out))
   generalize hv : ((rd_T68 l0 i).f0.toList == nm.toList) = v at I1
   have HV := Aside0.mk hv
   clear hv
   cases v with
   | true =>
    go_wp2_with (go_at_fn 76; (with_reducible refine I1.out.mono ?_); rintro e w' ⟨rfl, hb'⟩)
    go_ret
    have hh : idxOf (fun x : S68 => x.f0.toList == nm.toList) l0 = i := idx_hit hlt (by rw [← rdRail l0 i hlt]; exact HV.out) (fun j hj => hf.out j (by omega) hj)
    exact ⟨by rw [hh]; rfl, below_then hw.out hw.out.size hb'⟩
   | false =>
    go_wp2_with (go_at_fn 76; (with_reducible refine I1.out.mono ?_); rintro e w' ⟨rfl, hb'⟩)
    go_roundw
    case rel => exact ⟨i + 1, by go_num, by omega, ⟨fun j hj hji => by
     by_cases e : j = i
     ·subst e; rw [← rdRail l0 j hlt]; exact HV.out
     ·exact hf.out j hj (by omega)⟩, ⟨below_then hw.out hw.out.size hb'⟩⟩
    case measure => simp [intOf]; omega
  ·go_wp2
   go_ret
   have hh : idxOf (fun x : S68 => x.f0.toList == nm.toList) l0 = -1 := idx_miss (fun j hj => hf.out j hj (by omega))
   exact ⟨by rw [hh]; rfl, hw.out⟩
set_option maxHeartbeats 8000000 in
set_option maxRecDepth 100000 in
theorem railNamed_calls (A : Option Addr) (c : Nat) (xs : List S68) (v1 v2 : Value) (nm : ByteArray) (w : World) (hr : Kd.C k68 w A xs.length xs) :
  Calls Tryd.prog 63 #[.agg #[.slice A xs.length c, v1, v2], .string nm] w fun e w' => e = .returned (.int .i64 (railIdx xs nm)) ∧ Below w.heap.size w w' := by
 have hm := Kd.C_max hr
 have I1 : Aside0 (∀ W B0, Below w.heap.size w W → B0 < W.heap.size → W.cell? ⟨B0, 0, none⟩ = some (.string nm) → Calls Tryd.prog 75 #[.slice A xs.length c, .func (.func 76) #[] #[.pointer (some ⟨B0, 0, none⟩)]] W fun e w' => e = .returned (.int .i64 (railIdx xs nm)) ∧ Below W.heap.size W w') := ⟨fun W B0 hb h0 g0 => railNamedIndex A c xs B0 nm W (Kd.C_below hr hb) h0 g0⟩
 clear hr
 generalize railIdx xs nm = ix at *
 have hu := Tryd.underlying26
 go_enter Tryd.func63, Tryd.ntmps63
 go_upto_region 1 with (first | ((with_reducible refine gate_dst (N := 2) rfl ?_); refine be_ 2 #[.slice A xs.length c, v1, v2] 26 ?_; intro gb hgb w2 hbox hb; have BK := Aside0.mk hbox; have HB := Aside0.mk hb; have GB := Aside0.mk (Nat.le_of_eq hgb.symm); clear hbox hb hgb; have b20 := (blk_cell BK.out 0).trans rfl) | fail)
 have z2 := HB.out.size
 have b21 : (w2.alloc (.cells #[.string nm] 9)).cell? ⟨gb, 0, none⟩ = some (.slice A xs.length c) := (blk_cell (blk_alloc BK.out _) 0).trans rfl
 go_wp2_with (first | (go_at_call 75; (with_reducible refine (I1.out _ _ ?hb1 ?hs0 ?hc0).mono ?_); (case hb1 => first | exact below_alloc (below_alloc HB.out _) _ | exact below_alloc HB.out _); (case hs0 => (simp <;> omega)); (case hc0 => first | exact q0 | exact q1 | simp [World.cell?_alloc_new]); rintro e w4 ⟨rfl, hb⟩; have HB4 := Aside0.mk (below_step (by first | exact below_alloc (below_alloc HB.out _) _ | exact below_alloc HB.out _) hb); clear hb) | fail)
 go_ret
 exact ⟨rfl, HB4.out⟩
set_option maxHeartbeats 8000000 in
set_option maxRecDepth 100000 in
theorem belayOf1 (x : S71) (B0 : Nat) (nm : ByteArray) (w : World) (hB0 : B0 < w.heap.size) (hc0 : w.cell? ⟨B0, 0, none⟩ = some (.string nm)) :
  Calls Tryd.prog 78 #[.agg #[.string x.f0, .string x.f1, .int .i64 x.f2], .pointer (some ⟨B0, 0, none⟩)] w fun e w' => e = .returned (.bool (x.f0.toList == nm.toList)) ∧ Below w.heap.size w w' := by
 go_enter Tryd.func78, Tryd.ntmps78
 go_wp2
 go_ret
 exact ⟨rfl, (Below.refl _ _).alloc (Nat.le_refl _) _⟩
set_option maxHeartbeats 8000000 in
set_option maxRecDepth 100000 in
theorem belayOfIndex (A0 : Option Addr) (c0 : Nat) (l0 : List S71) (B0 : Nat) (nm : ByteArray) (w : World) (hr0 : Kd.C k71 w A0 l0.length l0) (hB0 : B0 < w.heap.size) (hc0 : w.cell? ⟨B0, 0, none⟩ = some (.string nm)) :
  Calls Tryd.prog 77 #[.slice A0 l0.length c0, .func (.func 78) #[] #[.pointer (some ⟨B0, 0, none⟩)]] w fun e w' => e = .returned (.int .i64 (idxOf (fun x : S71 => x.f0.toList == nm.toList) l0)) ∧ Below w.heap.size w w' := by
 have hm := Kd.C_max hr0
 have HR0 := Aside0.mk hr0
 have HC0 := Aside0.mk hc0
 have HB0 := Aside0.mk hB0
 clear hr0 hc0 hB0
 have eg : ∀ args w, (callFunc 78 args).run Tryd.prog w = .ok (.enter 78 args) w := enters_of Tryd.func78 (by kernel_rfl) rfl
 go_enter Tryd.func77, Tryd.ntmps77
 go_wp2
 go_loopw [5, 8] (fun _ v8 w' => ∃ i : Nat, v8 = .int .i64 i ∧ i ≤ l0.length ∧ Aside0 (∀ j (hj : j < l0.length), j < i → (fun x : S71 => x.f0.toList == nm.toList) l0[j] = false) ∧ Aside0 (Below w.heap.size w w')) (fun _ v8 _ => l0.length - (intOf v8).toNat)
 case atStart => exact ⟨0, rfl, Nat.zero_le _, ⟨fun j _ hj => absurd hj (Nat.not_lt_zero _)⟩, ⟨Below.refl _ _⟩⟩
 case round =>
  obtain ⟨i, rfl, hi, hf, hw⟩ := hrel
  have HRw := Aside0.mk (Kd.C_below HR0.out hw.out)
  by_cases hlt : i < l0.length
  ·have p1 : (0 : Int) ≤ (i : Int) := Int.natCast_nonneg i
   have p2 : (i : Int) < (l0.length : Int) := Int.ofNat_lt.2 hlt
   obtain ⟨ad, rfl, d0, d1, d2⟩ := at_T71 HRw.out (i : Int) p1 p2
   rw [Int.toNat_natCast] at d0 d1 d2
   have I1 := Aside0.mk (belayOf1 (rd_T71 l0 i) B0 nm wr (by have := hw.out.size; have := HB0.out; omega) ((hw.out.cell (p := ⟨B0, 0, none⟩) HB0.out).trans HC0.out))
   generalize hv : ((rd_T71 l0 i).f0.toList == nm.toList) = v at I1
   have HV := Aside0.mk hv
   clear hv
   cases v with
   | true =>
    go_wp2_with (go_at_fn 78; (with_reducible refine I1.out.mono ?_); rintro e w' ⟨rfl, hb'⟩)
    go_ret
    have hh : idxOf (fun x : S71 => x.f0.toList == nm.toList) l0 = i := idx_hit hlt (by rw [← rdBelay l0 i hlt]; exact HV.out) (fun j hj => hf.out j (by omega) hj)
    exact ⟨by rw [hh]; rfl, below_then hw.out hw.out.size hb'⟩
   | false =>
    go_wp2_with (go_at_fn 78; (with_reducible refine I1.out.mono ?_); rintro e w' ⟨rfl, hb'⟩)
    go_roundw
    case rel => exact ⟨i + 1, by go_num, by omega, ⟨fun j hj hji => by
     by_cases e : j = i
     ·subst e; rw [← rdBelay l0 j hlt]; exact HV.out
     ·exact hf.out j hj (by omega)⟩, ⟨below_then hw.out hw.out.size hb'⟩⟩
    case measure => simp [intOf]; omega
  ·go_wp2
   go_ret
   have hh : idxOf (fun x : S71 => x.f0.toList == nm.toList) l0 = -1 := idx_miss (fun j hj => hf.out j hj (by omega))
   exact ⟨by rw [hh]; rfl, hw.out⟩
set_option maxHeartbeats 8000000 in
set_option maxRecDepth 100000 in
theorem belayOf_calls (A : Option Addr) (c : Nat) (xs : List S71) (v0 v1 : Value) (nm : ByteArray) (w : World) (hr : Kd.C k71 w A xs.length xs) :
  Calls Tryd.prog 65 #[.agg #[v0, v1, .slice A xs.length c], .string nm] w fun e w' => e = .returned (.int .i64 (beLn xs nm)) ∧ Below w.heap.size w w' := by
 have hm := Kd.C_max hr
 have I1 : Aside0 (∀ W B0, Below w.heap.size w W → B0 < W.heap.size → W.cell? ⟨B0, 0, none⟩ = some (.string nm) → Calls Tryd.prog 77 #[.slice A xs.length c, .func (.func 78) #[] #[.pointer (some ⟨B0, 0, none⟩)]] W fun e w' => e = .returned (.int .i64 (beLn xs nm)) ∧ Below W.heap.size W w') := ⟨fun W B0 hb h0 g0 => belayOfIndex A c xs B0 nm W (Kd.C_below hr hb) h0 g0⟩
 clear hr
 generalize beLn xs nm = ix at *
 have hu := Tryd.underlying26
 go_enter Tryd.func65, Tryd.ntmps65
 go_upto_region 1 with (first | ((with_reducible refine gate_dst (N := 2) rfl ?_); refine be_ 2 #[v0, v1, .slice A xs.length c] 26 ?_; intro gb hgb w2 hbox hb; have BK := Aside0.mk hbox; have HB := Aside0.mk hb; have GB := Aside0.mk (Nat.le_of_eq hgb.symm); clear hbox hb hgb; have b20 := (blk_cell BK.out 2).trans rfl) | fail)
 have z2 := HB.out.size
 have b21 : (w2.alloc (.cells #[.string nm] 9)).cell? ⟨gb, 2, none⟩ = some (.slice A xs.length c) := (blk_cell (blk_alloc BK.out _) 2).trans rfl
 go_wp2_with (first | (go_at_call 77; (with_reducible refine (I1.out _ _ ?hb1 ?hs0 ?hc0).mono ?_); (case hb1 => first | exact below_alloc (below_alloc HB.out _) _ | exact below_alloc HB.out _); (case hs0 => (simp <;> omega)); (case hc0 => first | exact q0 | exact q1 | simp [World.cell?_alloc_new]); rintro e w4 ⟨rfl, hb⟩; have HB4 := Aside0.mk (below_step (by first | exact below_alloc (below_alloc HB.out _) _ | exact below_alloc HB.out _) hb); clear hb) | fail)
 go_ret
 exact ⟨rfl, HB4.out⟩
set_option maxHeartbeats 8000000 in
set_option maxRecDepth 100000 in
theorem belayAt1 (x : S71) (B0 : Nat) (rl : ByteArray) (B1 : Nat) (pn : Int) (w : World) (hB0 : B0 < w.heap.size) (hc0 : w.cell? ⟨B0, 0, none⟩ = some (.string rl)) (hB1 : B1 < w.heap.size) (hc1 : w.cell? ⟨B1, 0, none⟩ = some (.int .i64 pn)) :
  Calls Tryd.prog 79 #[.agg #[.string x.f0, .string x.f1, .int .i64 x.f2], .pointer (some ⟨B0, 0, none⟩), .pointer (some ⟨B1, 0, none⟩)] w fun e w' => e = .returned (.bool (x.f1.toList == rl.toList && x.f2 == pn)) ∧ Below w.heap.size w w' := by
 generalize e1 : (x.f1.toList == rl.toList) = s1
 generalize e2 : (x.f2 == pn) = s2
 cases s1 <;> cases s2
 all_goals
  go_enter Tryd.func79, Tryd.ntmps79
  go_wp2
  go_ret
  exact ⟨rfl, (Below.refl _ _).alloc (Nat.le_refl _) _⟩
set_option maxHeartbeats 8000000 in
set_option maxRecDepth 100000 in
theorem belayAtIndex (A0 : Option Addr) (c0 : Nat) (l0 : List S71) (B0 : Nat) (rl : ByteArray) (B1 : Nat) (pn : Int) (w : World) (hr0 : Kd.C k71 w A0 l0.length l0) (hB0 : B0 < w.heap.size) (hc0 : w.cell? ⟨B0, 0, none⟩ = some (.string rl)) (hB1 : B1 < w.heap.size) (hc1 : w.cell? ⟨B1, 0, none⟩ = some (.int .i64 pn)) :
  Calls Tryd.prog 77 #[.slice A0 l0.length c0, .func (.func 79) #[] #[.pointer (some ⟨B0, 0, none⟩), .pointer (some ⟨B1, 0, none⟩)]] w fun e w' => e = .returned (.int .i64 (idxOf (fun x : S71 => x.f1.toList == rl.toList && x.f2 == pn) l0)) ∧ Below w.heap.size w w' := by
 have hm := Kd.C_max hr0
 have HR0 := Aside0.mk hr0
 have HC0 := Aside0.mk hc0
 have HB0 := Aside0.mk hB0
 have HC1 := Aside0.mk hc1
 have HB1 := Aside0.mk hB1
 clear hr0 hc0 hB0 hc1 hB1
 have eg : ∀ args w, (callFunc 79 args).run Tryd.prog w = .ok (.enter 79 args) w := enters_of Tryd.func79 (by kernel_rfl) rfl
 go_enter Tryd.func77, Tryd.ntmps77
 go_wp2
 go_loopw [5, 8] (fun _ v8 w' => ∃ i : Nat, v8 = .int .i64 i ∧ i ≤ l0.length ∧ Aside0 (∀ j (hj : j < l0.length), j < i → (fun x : S71 => x.f1.toList == rl.toList && x.f2 == pn) l0[j] = false) ∧ Aside0 (Below w.heap.size w w')) (fun _ v8 _ => l0.length - (intOf v8).toNat)
 case atStart => exact ⟨0, rfl, Nat.zero_le _, ⟨fun j _ hj => absurd hj (Nat.not_lt_zero _)⟩, ⟨Below.refl _ _⟩⟩
 case round =>
  obtain ⟨i, rfl, hi, hf, hw⟩ := hrel
  have HRw := Aside0.mk (Kd.C_below HR0.out hw.out)
  by_cases hlt : i < l0.length
  ·have p1 : (0 : Int) ≤ (i : Int) := Int.natCast_nonneg i
   have p2 : (i : Int) < (l0.length : Int) := Int.ofNat_lt.2 hlt
   obtain ⟨ad, rfl, d0, d1, d2⟩ := at_T71 HRw.out (i : Int) p1 p2
   rw [Int.toNat_natCast] at d0 d1 d2
   have I1 := Aside0.mk (belayAt1 (rd_T71 l0 i) B0 rl B1 pn wr (by have := hw.out.size; have := HB0.out; omega) ((hw.out.cell (p := ⟨B0, 0, none⟩) HB0.out).trans HC0.out) (by have := hw.out.size; have := HB1.out; omega) ((hw.out.cell (p := ⟨B1, 0, none⟩) HB1.out).trans HC1.out))
   generalize hv : ((rd_T71 l0 i).f1.toList == rl.toList && (rd_T71 l0 i).f2 == pn) = v at I1
   have HV := Aside0.mk hv
   clear hv
   cases v with
   | true =>
    go_wp2_with (go_at_fn 79; (with_reducible refine I1.out.mono ?_); rintro e w' ⟨rfl, hb'⟩)
    go_ret
    have hh : idxOf (fun x : S71 => x.f1.toList == rl.toList && x.f2 == pn) l0 = i := idx_hit hlt (by rw [← rdBelay l0 i hlt]; exact HV.out) (fun j hj => hf.out j (by omega) hj)
    exact ⟨by rw [hh]; rfl, below_then hw.out hw.out.size hb'⟩
   | false =>
    go_wp2_with (go_at_fn 79; (with_reducible refine I1.out.mono ?_); rintro e w' ⟨rfl, hb'⟩)
    go_roundw
    case rel => exact ⟨i + 1, by go_num, by omega, ⟨fun j hj hji => by
     by_cases e : j = i
     ·subst e; rw [← rdBelay l0 j hlt]; exact HV.out
     ·exact hf.out j hj (by omega)⟩, ⟨below_then hw.out hw.out.size hb'⟩⟩
    case measure => simp [intOf]; omega
  ·go_wp2
   go_ret
   have hh : idxOf (fun x : S71 => x.f1.toList == rl.toList && x.f2 == pn) l0 = -1 := idx_miss (fun j hj => hf.out j hj (by omega))
   exact ⟨by rw [hh]; rfl, hw.out⟩
set_option maxHeartbeats 8000000 in
set_option maxRecDepth 100000 in
theorem belayAt_calls (A : Option Addr) (c : Nat) (xs : List S71) (v0 v1 : Value) (rl : ByteArray) (pn : Int) (w : World) (hr : Kd.C k71 w A xs.length xs) :
  Calls Tryd.prog 66 #[.agg #[v0, v1, .slice A xs.length c], .string rl, .int .i64 pn] w fun e w' => e = .returned (.int .i64 (beAt xs rl pn)) ∧ Below w.heap.size w w' := by
 have hm := Kd.C_max hr
 have I1 : Aside0 (∀ W B0 B1, Below w.heap.size w W → B0 < W.heap.size → W.cell? ⟨B0, 0, none⟩ = some (.string rl) → B1 < W.heap.size → W.cell? ⟨B1, 0, none⟩ = some (.int .i64 pn) → Calls Tryd.prog 77 #[.slice A xs.length c, .func (.func 79) #[] #[.pointer (some ⟨B0, 0, none⟩), .pointer (some ⟨B1, 0, none⟩)]] W fun e w' => e = .returned (.int .i64 (beAt xs rl pn)) ∧ Below W.heap.size W w') := ⟨fun W B0 B1 hb h0 g0 h1 g1 => belayAtIndex A c xs B0 rl B1 pn W (Kd.C_below hr hb) h0 g0 h1 g1⟩
 clear hr
 generalize beAt xs rl pn = ix at *
 have hu := Tryd.underlying26
 go_enter Tryd.func66, Tryd.ntmps66
 go_upto_region 1 with (first | ((with_reducible refine gate_dst (N := 3) rfl ?_); refine be_ 3 #[v0, v1, .slice A xs.length c] 26 ?_; intro gb hgb w2 hbox hb; have BK := Aside0.mk hbox; have HB := Aside0.mk hb; have GB := Aside0.mk (Nat.le_of_eq hgb.symm); clear hbox hb hgb; have b20 := (blk_cell BK.out 2).trans rfl) | fail)
 have z2 := HB.out.size
 have b21 : ((w2.alloc (.cells #[.string rl] 9)).alloc (.cells #[.int .i64 pn] 2)).cell? ⟨gb, 2, none⟩ = some (.slice A xs.length c) := (blk_cell (blk_alloc (blk_alloc BK.out _) _) 2).trans rfl
 have q0 : ((w2.alloc (.cells #[.string rl] 9)).alloc (.cells #[.int .i64 pn] 2)).cell? ⟨w2.heap.size, 0, none⟩ = some (.string rl) := ((below_alloc (Below.refl (w2.alloc (.cells #[.string rl] 9)).heap.size (w2.alloc (.cells #[.string rl] 9))) _).cell (p := ⟨w2.heap.size, 0, none⟩) (by simp)).trans ((World.cell?_alloc_new _ _ _ _).trans rfl)
 have q1 : ((w2.alloc (.cells #[.string rl] 9)).alloc (.cells #[.int .i64 pn] 2)).cell? ⟨w2.heap.size + 1, 0, none⟩ = some (.int .i64 pn) := by
  have := World.cell?_alloc_new (w2.alloc (.cells #[.string rl] 9)) #[.int .i64 pn] 2 0
  rw [show (w2.alloc (.cells #[.string rl] 9)).heap.size = w2.heap.size + 1 from by simp] at this
  exact this
 go_wp2_with (first | (go_at_call 77; (with_reducible refine (I1.out _ _ _ ?hb1 ?hs0 ?hc0 ?hs1 ?hc1).mono ?_); (case hb1 => first | exact below_alloc (below_alloc HB.out _) _ | exact below_alloc HB.out _); (case hs0 => (simp <;> omega)); (case hc0 => first | exact q0 | exact q1 | simp [World.cell?_alloc_new]); (case hs1 => (simp <;> omega)); (case hc1 => first | exact q0 | exact q1 | simp [World.cell?_alloc_new]); rintro e w4 ⟨rfl, hb⟩; have HB4 := Aside0.mk (below_step (by first | exact below_alloc (below_alloc HB.out _) _ | exact below_alloc HB.out _) hb); clear hb) | fail)
 go_ret
 exact ⟨rfl, HB4.out⟩
theorem has_idx (l : List ByteArray) (s : ByteArray) (hm : l.length ≤ 9223372036854775807) : ∀ m i : Nat, l.length - i = m → i ≤ l.length → ∃ v : Int, Ev (fun k => slices_Index_string_string.l0 k l s (l.length : Int) (i : Int)) v ∧ decide (v ≥ 0) = (l.drop i).any (fun x => x.toList == s.toList) := by
 intro m
 induction m with
 | zero =>
  intro i h hi
  refine ⟨-1, Ev.const fun k => ?_, ?_⟩
  ·simp only [slices_Index_string_string.l0]
   rw [if_neg (by omega)]
  ·rw [List.drop_of_length_le (by omega)]; rfl
 | succ m ih =>
  intro i h hi
  have hlt : i < l.length := by omega
  rw [List.drop_eq_getElem_cons hlt, List.any_cons]
  by_cases e : s.toList = (l[i]).toList
  ·refine ⟨i, Ev.const fun k => ?_, ?_⟩
   ·simp only [slices_Index_string_string.l0]
    rw [if_pos (by omega), if_pos (by omega), if_pos (by omega), rdLine l i hlt, if_pos e]
   ·rw [e]; simp
  ·obtain ⟨v, hv, hd⟩ := ih (i + 1) (by omega) (by omega)
   refine ⟨v, Ev.step (f := fun k => slices_Index_string_string.l0 k l s (l.length : Int) ((i + 1 : Nat) : Int)) (fun k => ?_) hv, ?_⟩
   ·simp only [slices_Index_string_string.l0]
    rw [if_pos (by omega), if_pos (by omega), if_pos (by omega), rdLine l i hlt, if_neg e, w64 (by omega) (by omega)]
    rfl
   ·rw [hd, show ((l[i]).toList == s.toList) = false by simpa using fun h => e h.symm]; rfl
theorem has_c (A : Option Addr) (c : Nat) (l : List ByteArray) (nm : ByteArray) (w : World) (hr : Kd.C Kd.string w A l.length l) (hc : l.length ≤ c) : Calls Tryd.prog 59 #[.slice A l.length c, .string nm] w fun e w' => e = .returned (.bool (hasLn l nm)) ∧ Below w.heap.size w w' := by
 obtain ⟨v, hv, hd⟩ := has_idx l nm (Kd.C_max hr) (l.length - 0) 0 rfl (Nat.zero_le _)
 obtain ⟨k, hk⟩ := Ev.pick hv
 have hk := hk k (Nat.le_refl _)
 refine (slices_Contains_string_string.calls k A c l nm (hasLn l nm) w hr hc ?_).mono fun e w' ⟨he, hd⟩ => ⟨he, Drawn0.below hd⟩
 have h1 : slices_Index_string_string.f k l nm = some v := hk
 unfold slices_Contains_string_string.f
 rw [h1, Option.bind_some, hd]
 rfl
theorem iname_c (nm : ByteArray) : ∀ w, Calls Tryd.prog 58 #[.string nm] w fun e w' => e = .returned (.bool (isNameB nm)) ∧ Below w.heap.size w w' := fun w => by
 obtain ⟨k, hk⟩ := (name_impl nm).rounds
 exact (impl_IsName.calls k nm _ w hk).mono fun e w' ⟨he, hd⟩ => ⟨he, Drawn0.below hd⟩
theorem within_c (a b c : Int) : ∀ w, Calls Tryd.prog 62 #[.int .i64 a, .int .i64 b, .int .i64 c] w fun e w' => e = .returned (.bool (decide (b ≤ a ∧ a ≤ c))) ∧ Below w.heap.size w w' := fun w => by
 refine (impl_within.calls a b c _ w ?_).mono fun e w' ⟨he, hd⟩ => ⟨he, Drawn0.below hd⟩
 unfold impl_within.f
 by_cases hh : a ≥ b
 ·rw [if_pos hh]; congr 1; apply Bool.eq_iff_iff.mpr; simp; omega
 ·rw [if_neg hh]; congr 1; symm; simp; omega
set_option maxHeartbeats 8000000 in
set_option maxRecDepth 100000 in
theorem hasPin_calls (A : Option Addr) (c : Nat) (xs : List S68) (v1 v2 : Value) (rl : ByteArray) (pn m2 : Int) (w : World) (hr : Kd.C k68 w A xs.length xs) (h0 : 0 ≤ railIdx xs rl) (hm2 : (rd_T68 xs (railIdx xs rl)).f2 = m2) :
  Calls Tryd.prog 64 #[.agg #[.slice A xs.length c, v1, v2], .string rl, .int .i64 pn] w fun e w' => e = .returned (.bool (decide (1 ≤ pn ∧ pn ≤ m2))) ∧ Below w.heap.size w w' := by
 have hm := Kd.C_max hr
 have I1 : Aside0 (∀ W, Below w.heap.size w W → Calls Tryd.prog 63 #[.agg #[.slice A xs.length c, v1, v2], .string rl] W fun e w' => e = .returned (.int .i64 (railIdx xs rl)) ∧ Below W.heap.size W w') := ⟨fun W hb => railNamed_calls A c xs v1 v2 rl W (Kd.C_below hr hb)⟩
 have I2 := Aside0.mk (within_c pn 1 m2)
 have HR := Aside0.mk hr
 clear hr
 have hir := idx_range (fun x : S68 => x.f0.toList == rl.toList) xs
 obtain ⟨ix, hix⟩ : ∃ ix, railIdx xs rl = ix := ⟨_, rfl⟩
 rw [hix] at I1 h0 hm2
 unfold railIdx at hix
 rw [hix] at hir
 clear hix
 have hlt : ix < (xs.length : Int) := by rcases hir with h | h <;> omega
 obtain ⟨ad, ea, -, -, x2⟩ := at_T68 HR.out ix h0 hlt
 subst ea
 rw [hm2] at x2
 have H0 := eq_true h0
 have X2 := Aside0.mk x2
 clear x2 hir
 generalize decide (1 ≤ pn ∧ pn ≤ m2) = d at *
 have hu := Tryd.underlying26
 go_enter Tryd.func64, Tryd.ntmps64
 go_wp2_with (first | ((with_reducible refine gate_dst (N := 3) rfl ?_); refine be_ 3 #[.slice (some ad) xs.length c, v1, v2] 26 ?_; intro gb hgb w2 hbox hb; have BK := Aside0.mk hbox; have HB := Aside0.mk hb; have GB := Aside0.mk (Nat.le_of_eq hgb.symm); clear hbox hb hgb; have b20 := (blk_cell BK.out 0).trans rfl; have b21 := (blk_cell BK.out 1).trans rfl; have b22 := (blk_cell BK.out 2).trans rfl) | (go_at_call 63; (with_reducible refine (I1.out _ HB.out).mono ?_); rintro e w3 ⟨rfl, hb⟩; have HB3 := Aside0.mk (below_step HB.out hb); have b30 := (blk_cell (blk_below BK.out hb) 0).trans rfl; have x23 := pw_cell_below HB3.out X2.out; clear hb) | (go_at_call 62; (with_reducible refine (I2.out _).mono ?_); rintro e w4 ⟨rfl, hb⟩; have HB4 := Aside0.mk (below_step HB3.out hb); clear hb) | fail)
 go_ret
 exact ⟨rfl, HB4.out⟩
set_option maxHeartbeats 8000000 in
set_option maxRecDepth 100000 in
theorem addLine_calls (g : Nat) (v0 v1 v2 : Value) (R : RT) (nm : ByteArray) (w0 w : World) (hX : Rg w0 w g v0 v1 v2 R) (hcap : R.2.1.length ≤ 60) :
  Calls Tryd.prog 41 #[.pointer (some ⟨g, 0, none⟩), .string nm] w fun e w' => e = .returned (.int .i64 (addLineP R nm).1) ∧ RgTo w0 w w' g v0 v1 v2 (addLineP R nm).2 := by
 have I1 := Aside0.mk (iname_c nm)
 obtain ⟨-, ⟨A, c, e⟩, -⟩ := hX.form
 subst e
 have I2 : Aside0 (∀ W, Below w.heap.size w W → Calls Tryd.prog 59 #[.slice A R.2.1.length c, .string nm] W fun e w' => e = .returned (.bool (hasLn R.2.1 nm)) ∧ Below W.heap.size W w') := ⟨fun W hb => has_c A c R.2.1 nm W (Kd.R_reads' (hX.step hb).r1).2.2 (Kd.R_reads' hX.r1).2.1⟩
 have HX := Aside0.mk hX
 clear hX
 have LM := Aside0.mk hcap
 unfold addLineP
 generalize isNameB nm = q at *
 generalize hasLn R.2.1 nm = u at *
 cases q with
 | false =>
  go_enter Tryd.func41, Tryd.ntmps41
  go_wp2_with (first | (go_at_call 58; (with_reducible refine (I1.out _).mono ?_); rintro e w3 ⟨rfl, hb⟩; have HB3 := Aside0.mk hb; have c13 := (HX.out.step hb).c1; clear hb) | fail)
  go_ret
  try simp only [if_true, if_false, Bool.false_eq_true]
  exact ⟨rfl, HX.out.same HB3.out⟩
 | true =>
  cases u with
  | true =>
   go_enter Tryd.func41, Tryd.ntmps41
   go_wp2_with (first | (go_at_call 58; (with_reducible refine (I1.out _).mono ?_); rintro e w3 ⟨rfl, hb⟩; have HB3 := Aside0.mk hb; have c13 := (HX.out.step hb).c1; clear hb) | (go_at_call 59; (with_reducible refine (I2.out _ HB3.out).mono ?_); rintro e w4 ⟨rfl, hb⟩; have HB4 := Aside0.mk (below_step HB3.out hb); have c14 := (HX.out.step HB4.out).c1; have X4 := Aside0.mk (HX.out.step HB4.out); clear hb) | fail)
   go_ret
   try simp only [if_true, if_false, Bool.false_eq_true]
   exact ⟨rfl, HX.out.same HB4.out⟩
  | false =>
   by_cases h6 : 60 ≤ (R.2.1.length : Int)
   ·have h6' : ((R.2.1.length : Int) == 60) = true := by have := LM.out; simpa using (by omega : (R.2.1.length : Int) = 60)
    go_enter Tryd.func41, Tryd.ntmps41
    go_wp2_with (first | (go_at_call 58; (with_reducible refine (I1.out _).mono ?_); rintro e w3 ⟨rfl, hb⟩; have HB3 := Aside0.mk hb; have c13 := (HX.out.step hb).c1; clear hb) | (go_at_call 59; (with_reducible refine (I2.out _ HB3.out).mono ?_); rintro e w4 ⟨rfl, hb⟩; have HB4 := Aside0.mk (below_step HB3.out hb); have c14 := (HX.out.step HB4.out).c1; have X4 := Aside0.mk (HX.out.step HB4.out); clear hb) | fail)
    go_ret
    try simp only [if_true, if_false, Bool.false_eq_true]
    try rw [if_pos h6]
    exact ⟨rfl, HX.out.same HB4.out⟩
   ·have h6' : ((R.2.1.length : Int) == 60) = false := by simpa using (by omega : ¬ (R.2.1.length : Int) = 60)
    go_enter Tryd.func41, Tryd.ntmps41
    go_wp2_with (first | (go_at_call 58; (with_reducible refine (I1.out _).mono ?_); rintro e w3 ⟨rfl, hb⟩; have HB3 := Aside0.mk hb; have c13 := (HX.out.step hb).c1; clear hb) | (go_at_call 59; (with_reducible refine (I2.out _ HB3.out).mono ?_); rintro e w4 ⟨rfl, hb⟩; have HB4 := Aside0.mk (below_step HB3.out hb); have c14 := (HX.out.step HB4.out).c1; have X4 := Aside0.mk (HX.out.step HB4.out); clear hb) | ((with_reducible refine gate_builtin (b := .append) (xs := #[.tmp 27, .tmp 29]) rfl ?_); at_builtin; refine Kd.R_append Kd.string (w0 := w0) w0.heap.size rfl (.tmp 27) (.tmp 29) 23 9 (.string ⟨#[]⟩) 16 rfl Tryd.underlying23 info9 rfl (by decide) (by omega) (.slice A R.2.1.length c) R.2.1 nm [.string nm] (fun _ => True) (fun _ => False) rfl rfl ?bP (fun _ hk => hk.elim) ?bF ?bO ?bB ?bS ?bL ?_; (case bP => exact rfl); (case bB => exact X4.out.low); (case bF => exact (fun _ _ => trivial)); (case bO => exact X4.out.r1); (case bS => exact X4.out.low.size); (case bL => have := LM.out; omega); intro v7 w7 ho hb hg hat; obtain ⟨A7, c7, e7⟩ := Kd.R_slice ho; subst e7; have e1 : (R.2.1 ++ [nm]).length = R.2.1.length + 1 := (by simp); rw [e1] at ho hat; clear e1; have hR7 := Aside0.mk (HX.out.app1 HB4.out ho hg hb hat); have cc : w7.cell? ⟨g, 1, none⟩ = some (.slice A R.2.1.length c) := (blk_cell (blk_grown X4.out.blk hg (Kd.R_ne X4.out.r1 X4.out.blk (by decide))) 1).trans rfl; have ff : w7.frozen? ⟨g, 1, none⟩ = false := blk_frozen (blk_grown X4.out.blk hg (Kd.R_ne X4.out.r1 X4.out.blk (by decide))) 1; clear ho hb hg hat) | fail)
    go_ret
    try simp only [if_true, if_false, Bool.false_eq_true]
    try rw [if_neg h6]
    exact ⟨rfl, hR7.out⟩
set_option maxHeartbeats 8000000 in
set_option maxRecDepth 100000 in
theorem addRail_calls (g : Nat) (v0 v1 v2 : Value) (R : RT) (r : S68) (w0 w : World) (hX : Rg w0 w g v0 v1 v2 R) (hcap : R.1.length ≤ 10) :
  Calls Tryd.prog 43 #[.pointer (some ⟨g, 0, none⟩), .agg #[.string r.f0, .string r.f1, .int .i64 r.f2]] w fun e w' => e = .returned (.int .i64 (addRailP R r).1) ∧ RgTo w0 w w' g v0 v1 v2 (addRailP R r).2 := by
 have I1 := Aside0.mk (iname_c r.f0)
 have I2 := Aside0.mk (within_c r.f2 1 30)
 obtain ⟨⟨A, c, e⟩, ⟨A1, c1, e1⟩, ⟨A2, c2, e2⟩⟩ := hX.form
 subst e
 subst e1
 subst e2
 have I3 : Aside0 (∀ W, Below w.heap.size w W → Calls Tryd.prog 63 #[.agg #[.slice A R.1.length c, .slice A1 R.2.1.length c1, .slice A2 R.2.2.length c2], .string r.f0] W fun e w' => e = .returned (.int .i64 (railIdx R.1 r.f0)) ∧ Below W.heap.size W w') := ⟨fun W hb => railNamed_calls A c R.1 _ _ r.f0 W (Kd.R_reads' (hX.step hb).r0).2.2⟩
 have HX := Aside0.mk hX
 clear hX
 have LM := Aside0.mk hcap
 obtain ⟨f0, f1, f2⟩ := r
 simp only at I1 I2 I3 ⊢
 unfold addRailP
 simp only
 generalize isNameB f0 = q at *
 obtain ⟨ix, hix⟩ : ∃ ix, railIdx R.1 f0 = ix := ⟨_, rfl⟩
 rw [hix] at I3 ⊢
 clear hix
 generalize hd : decide (1 ≤ f2 ∧ f2 ≤ 30) = d at *
 clear hd
 have hu := Tryd.underlying68
 cases q with
 | false =>
  go_enter Tryd.func43, Tryd.ntmps43
  go_wp2_with (first | ((with_reducible refine gate_dst (N := 3) rfl ?_); refine be_ 3 #[.string f0, .string f1, .int .i64 f2] 68 ?_; intro gb hgb w2 hbox hb; have BK2 := Aside0.mk hbox; have HB2 := Aside0.mk hb; have GB := Aside0.mk (Nat.le_of_eq hgb.symm); clear hbox hb hgb; have b20 := (blk_cell BK2.out 0).trans rfl; have b21 := (blk_cell BK2.out 1).trans rfl; have b22 := (blk_cell BK2.out 2).trans rfl) | (go_at_call 58; (with_reducible refine (I1.out _).mono ?_); rintro e w3 ⟨rfl, hb⟩; have BK3 := Aside0.mk (blk_below BK2.out hb); have HB3 := Aside0.mk (below_step HB2.out hb); clear hb; have b30 := (blk_cell BK3.out 0).trans rfl; have b31 := (blk_cell BK3.out 1).trans rfl; have b32 := (blk_cell BK3.out 2).trans rfl) | fail)
  go_ret
  try simp only [if_true, if_false, Bool.false_eq_true]
  exact ⟨rfl, HX.out.same HB3.out⟩
 | true =>
  generalize hsd : sideB f1 = sd
  have HSD := Aside0.mk hsd
  cases sd with
  | false =>
   unfold sideB at hsd
   simp only [Bool.or_eq_false_iff] at hsd
   obtain ⟨⟨e1, e2⟩, e3⟩ := hsd
   go_enter Tryd.func43, Tryd.ntmps43
   go_wp2_with (first | ((with_reducible refine gate_dst (N := 3) rfl ?_); refine be_ 3 #[.string f0, .string f1, .int .i64 f2] 68 ?_; intro gb hgb w2 hbox hb; have BK2 := Aside0.mk hbox; have HB2 := Aside0.mk hb; have GB := Aside0.mk (Nat.le_of_eq hgb.symm); clear hbox hb hgb; have b20 := (blk_cell BK2.out 0).trans rfl; have b21 := (blk_cell BK2.out 1).trans rfl; have b22 := (blk_cell BK2.out 2).trans rfl) | (go_at_call 58; (with_reducible refine (I1.out _).mono ?_); rintro e w3 ⟨rfl, hb⟩; have BK3 := Aside0.mk (blk_below BK2.out hb); have HB3 := Aside0.mk (below_step HB2.out hb); clear hb; have b30 := (blk_cell BK3.out 0).trans rfl; have b31 := (blk_cell BK3.out 1).trans rfl; have b32 := (blk_cell BK3.out 2).trans rfl) | fail)
   go_ret
   try simp only [if_true, if_false, Bool.false_eq_true]
   exact ⟨rfl, HX.out.same HB3.out⟩
  | true =>
   clear hsd
   cases d with
   | false =>
    go_enter Tryd.func43, Tryd.ntmps43
    go_upto_region 3 with (first | ((with_reducible refine gate_dst (N := 3) rfl ?_); refine be_ 3 #[.string f0, .string f1, .int .i64 f2] 68 ?_; intro gb hgb w2 hbox hb; have BK2 := Aside0.mk hbox; have HB2 := Aside0.mk hb; have GB := Aside0.mk (Nat.le_of_eq hgb.symm); clear hbox hb hgb; have b20 := (blk_cell BK2.out 0).trans rfl; have b21 := (blk_cell BK2.out 1).trans rfl; have b22 := (blk_cell BK2.out 2).trans rfl) | (go_at_call 58; (with_reducible refine (I1.out _).mono ?_); rintro e w3 ⟨rfl, hb⟩; have BK3 := Aside0.mk (blk_below BK2.out hb); have HB3 := Aside0.mk (below_step HB2.out hb); clear hb; have b30 := (blk_cell BK3.out 0).trans rfl; have b31 := (blk_cell BK3.out 1).trans rfl; have b32 := (blk_cell BK3.out 2).trans rfl) | fail)
    go_cut [10] (fun v10 wc => v10 = .bool false ∧ wc = w3)
    case first =>
     generalize e1 : (f1.toList == [112]) = s1
     generalize e2 : (f1.toList == [115]) = s2
     generalize e3 : (f1.toList == [109]) = s3
     have HE := Aside0.mk (And.intro e1 (And.intro e2 e3))
     cases s1 <;> cases s2 <;> cases s3
     case false.false.false => exact absurd HSD.out (by unfold sideB; rw [HE.out.1, HE.out.2.1, HE.out.2.2]; simp)
     all_goals
      go_wp2
      go_meet
      exact ⟨rfl, rfl⟩
    case rest =>
     obtain ⟨rfl, hw⟩ := hcut
     replace hw := hw.symm
     subst hw
     go_wp2_with (first | ((with_reducible refine gate_dst (N := 3) rfl ?_); refine be_ 3 #[.string f0, .string f1, .int .i64 f2] 68 ?_; intro gb hgb w2 hbox hb; have BK2 := Aside0.mk hbox; have HB2 := Aside0.mk hb; have GB := Aside0.mk (Nat.le_of_eq hgb.symm); clear hbox hb hgb; have b20 := (blk_cell BK2.out 0).trans rfl; have b21 := (blk_cell BK2.out 1).trans rfl; have b22 := (blk_cell BK2.out 2).trans rfl) | (go_at_call 58; (with_reducible refine (I1.out _).mono ?_); rintro e w3 ⟨rfl, hb⟩; have BK3 := Aside0.mk (blk_below BK2.out hb); have HB3 := Aside0.mk (below_step HB2.out hb); clear hb; have b30 := (blk_cell BK3.out 0).trans rfl; have b31 := (blk_cell BK3.out 1).trans rfl; have b32 := (blk_cell BK3.out 2).trans rfl) | (go_at_call 62; (with_reducible refine (I2.out _).mono ?_); rintro e w4 ⟨rfl, hb⟩; have BK4 := Aside0.mk (blk_below BK3.out hb); have HB4 := Aside0.mk (below_step HB3.out hb); clear hb; have b40 := (blk_cell BK4.out 0).trans rfl; have b41 := (blk_cell BK4.out 1).trans rfl; have b42 := (blk_cell BK4.out 2).trans rfl; have X4 := Aside0.mk (HX.out.step HB4.out); have c40 := X4.out.c0; have c41 := X4.out.c1; have c42 := X4.out.c2) | fail)
     go_ret
     try simp only [if_true, if_false, Bool.false_eq_true]
     exact ⟨rfl, HX.out.same HB4.out⟩
   | true =>
    by_cases h5 : 0 ≤ ix
    ·have h5' := eq_true h5
     go_enter Tryd.func43, Tryd.ntmps43
     go_upto_region 3 with (first | ((with_reducible refine gate_dst (N := 3) rfl ?_); refine be_ 3 #[.string f0, .string f1, .int .i64 f2] 68 ?_; intro gb hgb w2 hbox hb; have BK2 := Aside0.mk hbox; have HB2 := Aside0.mk hb; have GB := Aside0.mk (Nat.le_of_eq hgb.symm); clear hbox hb hgb; have b20 := (blk_cell BK2.out 0).trans rfl; have b21 := (blk_cell BK2.out 1).trans rfl; have b22 := (blk_cell BK2.out 2).trans rfl) | (go_at_call 58; (with_reducible refine (I1.out _).mono ?_); rintro e w3 ⟨rfl, hb⟩; have BK3 := Aside0.mk (blk_below BK2.out hb); have HB3 := Aside0.mk (below_step HB2.out hb); clear hb; have b30 := (blk_cell BK3.out 0).trans rfl; have b31 := (blk_cell BK3.out 1).trans rfl; have b32 := (blk_cell BK3.out 2).trans rfl) | fail)
     go_cut [10] (fun v10 wc => v10 = .bool false ∧ wc = w3)
     case first =>
      generalize e1 : (f1.toList == [112]) = s1
      generalize e2 : (f1.toList == [115]) = s2
      generalize e3 : (f1.toList == [109]) = s3
      have HE := Aside0.mk (And.intro e1 (And.intro e2 e3))
      cases s1 <;> cases s2 <;> cases s3
      case false.false.false => exact absurd HSD.out (by unfold sideB; rw [HE.out.1, HE.out.2.1, HE.out.2.2]; simp)
      all_goals
       go_wp2
       go_meet
       exact ⟨rfl, rfl⟩
     case rest =>
      obtain ⟨rfl, hw⟩ := hcut
      replace hw := hw.symm
      subst hw
      go_upto_region 7 with (first | ((with_reducible refine gate_dst (N := 3) rfl ?_); refine be_ 3 #[.string f0, .string f1, .int .i64 f2] 68 ?_; intro gb hgb w2 hbox hb; have BK2 := Aside0.mk hbox; have HB2 := Aside0.mk hb; have GB := Aside0.mk (Nat.le_of_eq hgb.symm); clear hbox hb hgb; have b20 := (blk_cell BK2.out 0).trans rfl; have b21 := (blk_cell BK2.out 1).trans rfl; have b22 := (blk_cell BK2.out 2).trans rfl) | (go_at_call 58; (with_reducible refine (I1.out _).mono ?_); rintro e w3 ⟨rfl, hb⟩; have BK3 := Aside0.mk (blk_below BK2.out hb); have HB3 := Aside0.mk (below_step HB2.out hb); clear hb; have b30 := (blk_cell BK3.out 0).trans rfl; have b31 := (blk_cell BK3.out 1).trans rfl; have b32 := (blk_cell BK3.out 2).trans rfl) | (go_at_call 62; (with_reducible refine (I2.out _).mono ?_); rintro e w4 ⟨rfl, hb⟩; have BK4 := Aside0.mk (blk_below BK3.out hb); have HB4 := Aside0.mk (below_step HB3.out hb); clear hb; have b40 := (blk_cell BK4.out 0).trans rfl; have b41 := (blk_cell BK4.out 1).trans rfl; have b42 := (blk_cell BK4.out 2).trans rfl; have X4 := Aside0.mk (HX.out.step HB4.out); have c40 := X4.out.c0; have c41 := X4.out.c1; have c42 := X4.out.c2) | fail)
      refine start_ (n := 8) (S := fun w' => w'.cell? ⟨g, 0, none⟩ = some (.slice A R.1.length c) ∧ w'.cell? ⟨g, 1, none⟩ = some (.slice A1 R.2.1.length c1) ∧ w'.cell? ⟨g, 2, none⟩ = some (.slice A2 R.2.2.length c2) ∧ w'.cell? ⟨gb, 0, none⟩ = some (.string f0)) (ds := [5]) (fl 8 0) (by kernel_rfl) rfl rfl ⟨c40, c41, c42, b40⟩ (fun hHeld => ?_)
      refine pu_ (i := 0) (N := some 30) (fl 8 1) (by kernel_rfl) ?_
      refine pu_ (i := 1) (N := some 31) (fl 8 3) (by kernel_rfl) ?_
      refine pu_ (i := 3) (N := some 33) (fl 8 11) (by kernel_rfl) ?_
      refine take_ (i := 2) (N := some 32) (v := ?_) (a' := ?_) (fl 8 15) rfl rfl (by kernel_rfl) (fun _ _ _ h => h) (Or.inl ⟨by rfl, ?_⟩) hHeld ?_ ?_
      rotate_left
      ·rintro w' ⟨s0, s1, s2, s3⟩
       go_simp
       with_reducible rfl
      rotate_left
      ·simp only [Act.put, List.setIfInBounds_toArray, List.set_cons_zero, List.set_cons_succ, i64_w, i32_w]
       rfl
      refine take_ (i := 4) (N := some 34) (v := ?_) (a' := ?_) (fl 8 31) rfl rfl (by kernel_rfl) (fun _ _ _ h => h) (Or.inl ⟨by rfl, ?_⟩) hHeld ?_ ?_
      rotate_left
      ·rintro w' ⟨s0, s1, s2, s3⟩
       go_simp
       with_reducible rfl
      rotate_left
      ·simp only [Act.put, List.setIfInBounds_toArray, List.set_cons_zero, List.set_cons_succ, i64_w, i32_w]
       rfl
      refine last_ (i := 5) (N := some 35) (fl 8 63) rfl rfl (by kernel_rfl) (by decide) (fun K hK => ?_)
      refine goes_ Tryd.func63 (by kernel_rfl) rfl #[.agg #[.slice A R.1.length c, .slice A1 R.2.1.length c1, .slice A2 R.2.2.length c2], .string f0] (by rfl) rfl rfl (by simp only [List.map_toArray, List.map_cons, List.map_nil]; rfl) ?_
      with_reducible refine (I3.out _ (below_step HB4.out (below_drew1 (Below.refl w4.heap.size w4)))).mono ?_
      rintro e w5 ⟨rfl, hb⟩
      refine ⟨_, rfl, ?_⟩
      have hx5 := Aside0.mk (below_step (below_drew1 (Below.refl w4.heap.size w4)) hb)
      have HB5 := Aside0.mk (below_step HB4.out hx5.out)
      have BK5 := Aside0.mk (blk_below BK4.out hx5.out)
      clear hb
      refine hK.out _ _ ?_
      clear hK K
      refine norm_ (a' := ?_) ?_ ?_
      rotate_left
      ·show Act.put _ (some 35) _ = _
       simp only [Act.put, List.setIfInBounds_toArray, List.set_cons_zero, List.set_cons_succ, i64_w, i32_w]
       rfl
      refine pu_ (i := 6) (N := some 36) (fl 8 127) (by kernel_rfl) ?_
      refine pu_ (i := 7) (N := some 29) (fl 8 255) (by kernel_rfl) ?_
      refine done_ (by kernel_rfl) ?_
      have b50 := (blk_cell BK5.out 0).trans rfl
      have b51 := (blk_cell BK5.out 1).trans rfl
      have b52 := (blk_cell BK5.out 2).trans rfl
      have X5 := Aside0.mk (HX.out.step HB5.out)
      have c50 := X5.out.c0
      go_wp2
      go_ret
      try simp only [if_true, if_false, Bool.false_eq_true]
      exact ⟨rfl, HX.out.same HB5.out⟩
    ·have h5' := eq_false h5
     by_cases h8 : 10 ≤ (R.1.length : Int)
     ·have h8e : ((R.1.length : Int) == 10) = true := by have := LM.out; simpa using (by omega : (R.1.length : Int) = 10)
      have h8' := eq_true h8
      go_enter Tryd.func43, Tryd.ntmps43
      go_upto_region 3 with (first | ((with_reducible refine gate_dst (N := 3) rfl ?_); refine be_ 3 #[.string f0, .string f1, .int .i64 f2] 68 ?_; intro gb hgb w2 hbox hb; have BK2 := Aside0.mk hbox; have HB2 := Aside0.mk hb; have GB := Aside0.mk (Nat.le_of_eq hgb.symm); clear hbox hb hgb; have b20 := (blk_cell BK2.out 0).trans rfl; have b21 := (blk_cell BK2.out 1).trans rfl; have b22 := (blk_cell BK2.out 2).trans rfl) | (go_at_call 58; (with_reducible refine (I1.out _).mono ?_); rintro e w3 ⟨rfl, hb⟩; have BK3 := Aside0.mk (blk_below BK2.out hb); have HB3 := Aside0.mk (below_step HB2.out hb); clear hb; have b30 := (blk_cell BK3.out 0).trans rfl; have b31 := (blk_cell BK3.out 1).trans rfl; have b32 := (blk_cell BK3.out 2).trans rfl) | fail)
      go_cut [10] (fun v10 wc => v10 = .bool false ∧ wc = w3)
      case first =>
       generalize e1 : (f1.toList == [112]) = s1
       generalize e2 : (f1.toList == [115]) = s2
       generalize e3 : (f1.toList == [109]) = s3
       have HE := Aside0.mk (And.intro e1 (And.intro e2 e3))
       cases s1 <;> cases s2 <;> cases s3
       case false.false.false => exact absurd HSD.out (by unfold sideB; rw [HE.out.1, HE.out.2.1, HE.out.2.2]; simp)
       all_goals
        go_wp2
        go_meet
        exact ⟨rfl, rfl⟩
      case rest =>
       obtain ⟨rfl, hw⟩ := hcut
       replace hw := hw.symm
       subst hw
       go_upto_region 7 with (first | ((with_reducible refine gate_dst (N := 3) rfl ?_); refine be_ 3 #[.string f0, .string f1, .int .i64 f2] 68 ?_; intro gb hgb w2 hbox hb; have BK2 := Aside0.mk hbox; have HB2 := Aside0.mk hb; have GB := Aside0.mk (Nat.le_of_eq hgb.symm); clear hbox hb hgb; have b20 := (blk_cell BK2.out 0).trans rfl; have b21 := (blk_cell BK2.out 1).trans rfl; have b22 := (blk_cell BK2.out 2).trans rfl) | (go_at_call 58; (with_reducible refine (I1.out _).mono ?_); rintro e w3 ⟨rfl, hb⟩; have BK3 := Aside0.mk (blk_below BK2.out hb); have HB3 := Aside0.mk (below_step HB2.out hb); clear hb; have b30 := (blk_cell BK3.out 0).trans rfl; have b31 := (blk_cell BK3.out 1).trans rfl; have b32 := (blk_cell BK3.out 2).trans rfl) | (go_at_call 62; (with_reducible refine (I2.out _).mono ?_); rintro e w4 ⟨rfl, hb⟩; have BK4 := Aside0.mk (blk_below BK3.out hb); have HB4 := Aside0.mk (below_step HB3.out hb); clear hb; have b40 := (blk_cell BK4.out 0).trans rfl; have b41 := (blk_cell BK4.out 1).trans rfl; have b42 := (blk_cell BK4.out 2).trans rfl; have X4 := Aside0.mk (HX.out.step HB4.out); have c40 := X4.out.c0; have c41 := X4.out.c1; have c42 := X4.out.c2) | fail)
       refine start_ (n := 8) (S := fun w' => w'.cell? ⟨g, 0, none⟩ = some (.slice A R.1.length c) ∧ w'.cell? ⟨g, 1, none⟩ = some (.slice A1 R.2.1.length c1) ∧ w'.cell? ⟨g, 2, none⟩ = some (.slice A2 R.2.2.length c2) ∧ w'.cell? ⟨gb, 0, none⟩ = some (.string f0)) (ds := [5]) (fl 8 0) (by kernel_rfl) rfl rfl ⟨c40, c41, c42, b40⟩ (fun hHeld => ?_)
       refine pu_ (i := 0) (N := some 30) (fl 8 1) (by kernel_rfl) ?_
       refine pu_ (i := 1) (N := some 31) (fl 8 3) (by kernel_rfl) ?_
       refine pu_ (i := 3) (N := some 33) (fl 8 11) (by kernel_rfl) ?_
       refine take_ (i := 2) (N := some 32) (v := ?_) (a' := ?_) (fl 8 15) rfl rfl (by kernel_rfl) (fun _ _ _ h => h) (Or.inl ⟨by rfl, ?_⟩) hHeld ?_ ?_
       rotate_left
       ·rintro w' ⟨s0, s1, s2, s3⟩
        go_simp
        with_reducible rfl
       rotate_left
       ·simp only [Act.put, List.setIfInBounds_toArray, List.set_cons_zero, List.set_cons_succ, i64_w, i32_w]
        rfl
       refine take_ (i := 4) (N := some 34) (v := ?_) (a' := ?_) (fl 8 31) rfl rfl (by kernel_rfl) (fun _ _ _ h => h) (Or.inl ⟨by rfl, ?_⟩) hHeld ?_ ?_
       rotate_left
       ·rintro w' ⟨s0, s1, s2, s3⟩
        go_simp
        with_reducible rfl
       rotate_left
       ·simp only [Act.put, List.setIfInBounds_toArray, List.set_cons_zero, List.set_cons_succ, i64_w, i32_w]
        rfl
       refine last_ (i := 5) (N := some 35) (fl 8 63) rfl rfl (by kernel_rfl) (by decide) (fun K hK => ?_)
       refine goes_ Tryd.func63 (by kernel_rfl) rfl #[.agg #[.slice A R.1.length c, .slice A1 R.2.1.length c1, .slice A2 R.2.2.length c2], .string f0] (by rfl) rfl rfl (by simp only [List.map_toArray, List.map_cons, List.map_nil]; rfl) ?_
       with_reducible refine (I3.out _ (below_step HB4.out (below_drew1 (Below.refl w4.heap.size w4)))).mono ?_
       rintro e w5 ⟨rfl, hb⟩
       refine ⟨_, rfl, ?_⟩
       have hx5 := Aside0.mk (below_step (below_drew1 (Below.refl w4.heap.size w4)) hb)
       have HB5 := Aside0.mk (below_step HB4.out hx5.out)
       have BK5 := Aside0.mk (blk_below BK4.out hx5.out)
       clear hb
       refine hK.out _ _ ?_
       clear hK K
       refine norm_ (a' := ?_) ?_ ?_
       rotate_left
       ·show Act.put _ (some 35) _ = _
        simp only [Act.put, List.setIfInBounds_toArray, List.set_cons_zero, List.set_cons_succ, i64_w, i32_w]
        rfl
       refine pu_ (i := 6) (N := some 36) (fl 8 127) (by kernel_rfl) ?_
       refine pu_ (i := 7) (N := some 29) (fl 8 255) (by kernel_rfl) ?_
       refine done_ (by kernel_rfl) ?_
       have b50 := (blk_cell BK5.out 0).trans rfl
       have b51 := (blk_cell BK5.out 1).trans rfl
       have b52 := (blk_cell BK5.out 2).trans rfl
       have X5 := Aside0.mk (HX.out.step HB5.out)
       have c50 := X5.out.c0
       go_wp2
       go_ret
       try simp only [if_true, if_false, Bool.false_eq_true]
       try rw [if_pos h8]
       exact ⟨rfl, HX.out.same HB5.out⟩
     ·have h8e : ((R.1.length : Int) == 10) = false := by simpa using (by omega : ¬ (R.1.length : Int) = 10)
      have h8' := eq_false h8
      go_enter Tryd.func43, Tryd.ntmps43
      go_upto_region 3 with (first | ((with_reducible refine gate_dst (N := 3) rfl ?_); refine be_ 3 #[.string f0, .string f1, .int .i64 f2] 68 ?_; intro gb hgb w2 hbox hb; have BK2 := Aside0.mk hbox; have HB2 := Aside0.mk hb; have GB := Aside0.mk (Nat.le_of_eq hgb.symm); clear hbox hb hgb; have b20 := (blk_cell BK2.out 0).trans rfl; have b21 := (blk_cell BK2.out 1).trans rfl; have b22 := (blk_cell BK2.out 2).trans rfl) | (go_at_call 58; (with_reducible refine (I1.out _).mono ?_); rintro e w3 ⟨rfl, hb⟩; have BK3 := Aside0.mk (blk_below BK2.out hb); have HB3 := Aside0.mk (below_step HB2.out hb); clear hb; have b30 := (blk_cell BK3.out 0).trans rfl; have b31 := (blk_cell BK3.out 1).trans rfl; have b32 := (blk_cell BK3.out 2).trans rfl) | fail)
      go_cut [10] (fun v10 wc => v10 = .bool false ∧ wc = w3)
      case first =>
       generalize e1 : (f1.toList == [112]) = s1
       generalize e2 : (f1.toList == [115]) = s2
       generalize e3 : (f1.toList == [109]) = s3
       have HE := Aside0.mk (And.intro e1 (And.intro e2 e3))
       cases s1 <;> cases s2 <;> cases s3
       case false.false.false => exact absurd HSD.out (by unfold sideB; rw [HE.out.1, HE.out.2.1, HE.out.2.2]; simp)
       all_goals
        go_wp2
        go_meet
        exact ⟨rfl, rfl⟩
      case rest =>
       obtain ⟨rfl, hw⟩ := hcut
       replace hw := hw.symm
       subst hw
       go_upto_region 7 with (first | ((with_reducible refine gate_dst (N := 3) rfl ?_); refine be_ 3 #[.string f0, .string f1, .int .i64 f2] 68 ?_; intro gb hgb w2 hbox hb; have BK2 := Aside0.mk hbox; have HB2 := Aside0.mk hb; have GB := Aside0.mk (Nat.le_of_eq hgb.symm); clear hbox hb hgb; have b20 := (blk_cell BK2.out 0).trans rfl; have b21 := (blk_cell BK2.out 1).trans rfl; have b22 := (blk_cell BK2.out 2).trans rfl) | (go_at_call 58; (with_reducible refine (I1.out _).mono ?_); rintro e w3 ⟨rfl, hb⟩; have BK3 := Aside0.mk (blk_below BK2.out hb); have HB3 := Aside0.mk (below_step HB2.out hb); clear hb; have b30 := (blk_cell BK3.out 0).trans rfl; have b31 := (blk_cell BK3.out 1).trans rfl; have b32 := (blk_cell BK3.out 2).trans rfl) | (go_at_call 62; (with_reducible refine (I2.out _).mono ?_); rintro e w4 ⟨rfl, hb⟩; have BK4 := Aside0.mk (blk_below BK3.out hb); have HB4 := Aside0.mk (below_step HB3.out hb); clear hb; have b40 := (blk_cell BK4.out 0).trans rfl; have b41 := (blk_cell BK4.out 1).trans rfl; have b42 := (blk_cell BK4.out 2).trans rfl; have X4 := Aside0.mk (HX.out.step HB4.out); have c40 := X4.out.c0; have c41 := X4.out.c1; have c42 := X4.out.c2) | fail)
       refine start_ (n := 8) (S := fun w' => w'.cell? ⟨g, 0, none⟩ = some (.slice A R.1.length c) ∧ w'.cell? ⟨g, 1, none⟩ = some (.slice A1 R.2.1.length c1) ∧ w'.cell? ⟨g, 2, none⟩ = some (.slice A2 R.2.2.length c2) ∧ w'.cell? ⟨gb, 0, none⟩ = some (.string f0)) (ds := [5]) (fl 8 0) (by kernel_rfl) rfl rfl ⟨c40, c41, c42, b40⟩ (fun hHeld => ?_)
       refine pu_ (i := 0) (N := some 30) (fl 8 1) (by kernel_rfl) ?_
       refine pu_ (i := 1) (N := some 31) (fl 8 3) (by kernel_rfl) ?_
       refine pu_ (i := 3) (N := some 33) (fl 8 11) (by kernel_rfl) ?_
       refine take_ (i := 2) (N := some 32) (v := ?_) (a' := ?_) (fl 8 15) rfl rfl (by kernel_rfl) (fun _ _ _ h => h) (Or.inl ⟨by rfl, ?_⟩) hHeld ?_ ?_
       rotate_left
       ·rintro w' ⟨s0, s1, s2, s3⟩
        go_simp
        with_reducible rfl
       rotate_left
       ·simp only [Act.put, List.setIfInBounds_toArray, List.set_cons_zero, List.set_cons_succ, i64_w, i32_w]
        rfl
       refine take_ (i := 4) (N := some 34) (v := ?_) (a' := ?_) (fl 8 31) rfl rfl (by kernel_rfl) (fun _ _ _ h => h) (Or.inl ⟨by rfl, ?_⟩) hHeld ?_ ?_
       rotate_left
       ·rintro w' ⟨s0, s1, s2, s3⟩
        go_simp
        with_reducible rfl
       rotate_left
       ·simp only [Act.put, List.setIfInBounds_toArray, List.set_cons_zero, List.set_cons_succ, i64_w, i32_w]
        rfl
       refine last_ (i := 5) (N := some 35) (fl 8 63) rfl rfl (by kernel_rfl) (by decide) (fun K hK => ?_)
       refine goes_ Tryd.func63 (by kernel_rfl) rfl #[.agg #[.slice A R.1.length c, .slice A1 R.2.1.length c1, .slice A2 R.2.2.length c2], .string f0] (by rfl) rfl rfl (by simp only [List.map_toArray, List.map_cons, List.map_nil]; rfl) ?_
       with_reducible refine (I3.out _ (below_step HB4.out (below_drew1 (Below.refl w4.heap.size w4)))).mono ?_
       rintro e w5 ⟨rfl, hb⟩
       refine ⟨_, rfl, ?_⟩
       have hx5 := Aside0.mk (below_step (below_drew1 (Below.refl w4.heap.size w4)) hb)
       have HB5 := Aside0.mk (below_step HB4.out hx5.out)
       have BK5 := Aside0.mk (blk_below BK4.out hx5.out)
       clear hb
       refine hK.out _ _ ?_
       clear hK K
       refine norm_ (a' := ?_) ?_ ?_
       rotate_left
       ·show Act.put _ (some 35) _ = _
        simp only [Act.put, List.setIfInBounds_toArray, List.set_cons_zero, List.set_cons_succ, i64_w, i32_w]
        rfl
       refine pu_ (i := 6) (N := some 36) (fl 8 127) (by kernel_rfl) ?_
       refine pu_ (i := 7) (N := some 29) (fl 8 255) (by kernel_rfl) ?_
       refine done_ (by kernel_rfl) ?_
       have b50 := (blk_cell BK5.out 0).trans rfl
       have b51 := (blk_cell BK5.out 1).trans rfl
       have b52 := (blk_cell BK5.out 2).trans rfl
       have X5 := Aside0.mk (HX.out.step HB5.out)
       have c50 := X5.out.c0
       go_upto_region 11 with (fail)
       have hne : some gb ≠ (Value.slice A R.1.length c).ownBlock := fun e => by have := Kd.R_lt HX.out.r0 gb e.symm; have := GB.out; omega
       refine start_ (n := 11) (S := fun w' => w'.cell? ⟨g, 0, none⟩ = some (.slice A R.1.length c) ∧ w'.cell? ⟨gb, 0, none⟩ = some (.string f0) ∧ w'.cell? ⟨gb, 1, none⟩ = some (.string f1) ∧ w'.cell? ⟨gb, 2, none⟩ = some (.int .i64 f2)) (ds := [10]) (fl 11 0) (by kernel_rfl) rfl rfl ⟨c50, b50, b51, b52⟩ (fun hHeld => ?_)
       refine pu_ (i := 0) (N := some 44) (fl 11 1) (by kernel_rfl) ?_
       refine pu_ (i := 1) (N := some 45) (fl 11 3) (by kernel_rfl) ?_
       refine pu_ (i := 2) (N := some 46) (fl 11 7) (by kernel_rfl) ?_
       refine pu_ (i := 3) (N := some 47) (fl 11 15) (by kernel_rfl) ?_
       refine take_ (i := 4) (N := some 48) (v := ?_) (a' := ?_) (fl 11 31) rfl rfl (by kernel_rfl) (fun _ _ _ h => h) (Or.inl ⟨by rfl, ?_⟩) hHeld ?_ ?_
       rotate_left
       ·rintro w' ⟨s0, s1, s2, s3⟩
        go_simp
        with_reducible rfl
       rotate_left
       ·simp only [Act.put, List.setIfInBounds_toArray, List.set_cons_zero, List.set_cons_succ, i64_w, i32_w]
        rfl
       refine take_ (i := 5) (N := some 49) (v := ?_) (a' := ?_) (fl 11 63) rfl rfl (by kernel_rfl) (fun _ _ _ h => h) (Or.inl ⟨by rfl, ?_⟩) hHeld ?_ ?_
       rotate_left
       ·rintro w' ⟨s0, s1, s2, s3⟩
        go_simp
        with_reducible rfl
       rotate_left
       ·simp only [Act.put, List.setIfInBounds_toArray, List.set_cons_zero, List.set_cons_succ, i64_w, i32_w]
        rfl
       refine one_ (i := 6) (N := some 50) (fl 11 127) rfl rfl (by kernel_rfl) (by decide) (fun K hK => ?_)
       refine value_ (w1 := ?_) (v := ?_) (by rfl) rfl ?_ ?_
       rotate_left 2
       ·go_simp
        constructor
        ·rfl
        ·rfl
       refine hK.out _ _ ⟨pw_cell_below (below_alloc (Below.refl _ _) _) hHeld.1, pw_cell_below (below_alloc (Below.refl _ _) _) hHeld.2.1, pw_cell_below (below_alloc (Below.refl _ _) _) hHeld.2.2.1, pw_cell_below (below_alloc (Below.refl _ _) _) hHeld.2.2.2⟩ (fun hHeld => ?_)
       clear hK K
       refine norm_ (a' := ?_) ?_ ?_
       rotate_left
       ·show Act.put _ (some 50) _ = _
        simp only [Act.put, List.setIfInBounds_toArray, List.set_cons_zero, List.set_cons_succ, i64_w, i32_w]
        rfl
       refine one_ (i := 7) (N := some 51) (fl 11 255) rfl rfl (by kernel_rfl) (by decide) (fun K hK => ?_)
       rw [show ((w5.alloc (.cells #[.string f0, .string f1, .int .i64 f2] 68)).drew : World) = w5.drew.alloc (.cells #[.string f0, .string f1, .int .i64 f2] 68) from rfl]
       refine Kd.R_append_step k68 (w0 := w0) w0.heap.size (by rfl) (.tmp 48) (.tmp 50) 22 68 (.agg #[.string ⟨#[]⟩, .string ⟨#[]⟩, .int .i64 0]) 40 (by rfl) Tryd.underlying22 info68 rfl (by decide) (by omega) (.slice A R.1.length c) R.1 ⟨f0, f1, f2⟩ [.string f0, .string f1, .int .i64 f2] (fun _ => True) (fun _ => False) (by rfl) (by rfl) ?bP (fun _ hk => hk.elim) (fun _ _ => trivial) (Kd.R_drew X5.out.r0) (below_drew1 X5.out.low) X5.out.low.size (by have := LM.out; omega) ?_
       case bP => exact k68_mkM _ _ _ (⟨f0, f1, f2⟩ : S68)
       intro v9 w9 ho hb hg hat
       obtain ⟨A7, c7, e7⟩ := Kd.R_slice ho
       subst e7
       have eL : (R.1 ++ [(⟨f0, f1, f2⟩ : S68)]).length = R.1.length + 1 := (by simp)
       rw [eL] at ho hat
       have hrg := blk_grown (blk_drew X5.out.blk) hg (Kd.R_ne X5.out.r0 X5.out.blk (by decide))
       have cc := (blk_cell hrg 0).trans rfl
       have ff := blk_frozen hrg 0
       have hbx := blk_grown (blk_drew BK5.out) hg hne
       have hR7 := Aside0.mk (HX.out.app0 (below_drew1 HB5.out) ho hg hb hat)
       refine hK.out _ _ ⟨cc, (blk_cell hbx 0).trans rfl, (blk_cell hbx 1).trans rfl, (blk_cell hbx 2).trans rfl⟩ (fun hHeld => ?_)
       clear hK K
       refine norm_ (a' := ?_) ?_ ?_
       rotate_left
       ·show Act.put _ (some 51) _ = _
        simp only [Act.put, List.setIfInBounds_toArray, List.set_cons_zero, List.set_cons_succ, i64_w, i32_w]
        rfl
       refine pu_ (i := 8) (N := some 52) (fl 11 511) (by kernel_rfl) ?_
       refine pu_ (i := 9) (N := some 53) (fl 11 1023) (by kernel_rfl) ?_
       refine last_ (i := 10) (N := none) (fl 11 2047) rfl rfl (by kernel_rfl) (by decide) (fun K hK => ?_)
       refine skip_ (w1 := ?_) (by rfl) rfl ?_ ?_
       rotate_left
       ·go_simp
        rfl
       refine hK.out _ _ ?_
       clear hK K
       refine done_ (by kernel_rfl) ?_
       go_wp2
       go_ret
       try simp only [if_true, if_false, Bool.false_eq_true]
       try rw [if_neg h8]
       exact ⟨rfl, hR7.out⟩
set_option maxHeartbeats 8000000 in
set_option maxRecDepth 100000 in
theorem addBelay_calls (g : Nat) (v0 v1 v2 : Value) (R : RT) (b : S71) (w0 w : World) (hX : Rg w0 w g v0 v1 v2 R) (hlen : R.2.2.length ≤ 1000000) :
  Calls Tryd.prog 44 #[.pointer (some ⟨g, 0, none⟩), .agg #[.string b.f0, .string b.f1, .int .i64 b.f2]] w fun e w' => e = .returned (.int .i64 (addBelayP R b).1) ∧ RgTo w0 w w' g v0 v1 v2 (addBelayP R b).2 := by
 have LM := Aside0.mk hlen
 clear hlen
 obtain ⟨⟨A, c, e⟩, ⟨A1, c1, e1⟩, ⟨A2, c2, e2⟩⟩ := hX.form
 subst e
 subst e1
 subst e2
 obtain ⟨f0, f1, f2⟩ := b
 simp only
 have I1 : Aside0 (∀ W, Below w.heap.size w W → Calls Tryd.prog 63 #[.agg #[.slice A R.1.length c, .slice A1 R.2.1.length c1, .slice A2 R.2.2.length c2], .string f1] W fun e w' => e = .returned (.int .i64 (railIdx R.1 f1)) ∧ Below W.heap.size W w') := ⟨fun W hb => railNamed_calls A c R.1 _ _ f1 W (Kd.R_reads' (hX.step hb).r0).2.2⟩
 have I2 : Aside0 (∀ W, Below w.heap.size w W → Calls Tryd.prog 59 #[.slice A1 R.2.1.length c1, .string f0] W fun e w' => e = .returned (.bool (hasLn R.2.1 f0)) ∧ Below W.heap.size W w') := ⟨fun W hb => has_c A1 c1 R.2.1 f0 W (Kd.R_reads' (hX.step hb).r1).2.2 (Kd.R_reads' hX.r1).2.1⟩
 have I4 : Aside0 (∀ W, Below w.heap.size w W → Calls Tryd.prog 65 #[.agg #[.slice A R.1.length c, .slice A1 R.2.1.length c1, .slice A2 R.2.2.length c2], .string f0] W fun e w' => e = .returned (.int .i64 (beLn R.2.2 f0)) ∧ Below W.heap.size W w') := ⟨fun W hb => belayOf_calls A2 c2 R.2.2 _ _ f0 W (Kd.R_reads' (hX.step hb).r2).2.2⟩
 have I5 : Aside0 (∀ W, Below w.heap.size w W → Calls Tryd.prog 66 #[.agg #[.slice A R.1.length c, .slice A1 R.2.1.length c1, .slice A2 R.2.2.length c2], .string f1, .int .i64 f2] W fun e w' => e = .returned (.int .i64 (beAt R.2.2 f1 f2)) ∧ Below W.heap.size W w') := ⟨fun W hb => belayAt_calls A2 c2 R.2.2 _ _ f1 f2 W (Kd.R_reads' (hX.step hb).r2).2.2⟩
 have I3 : Aside0 (∀ W, Below w.heap.size w W → 0 ≤ railIdx R.1 f1 → Calls Tryd.prog 64 #[.agg #[.slice A R.1.length c, .slice A1 R.2.1.length c1, .slice A2 R.2.2.length c2], .string f1, .int .i64 f2] W fun e w' => e = .returned (.bool (decide (1 ≤ f2 ∧ f2 ≤ (rd_T68 R.1 (railIdx R.1 f1)).f2))) ∧ Below W.heap.size W w') := ⟨fun W hb h0 => hasPin_calls A c R.1 _ _ f1 f2 _ W (Kd.R_reads' (hX.step hb).r0).2.2 h0 rfl⟩
 have HX := Aside0.mk hX
 clear hX
 unfold addBelayP
 simp only
 obtain ⟨ix, hix⟩ : ∃ ix, railIdx R.1 f1 = ix := ⟨_, rfl⟩
 rw [hix] at I1 I3 ⊢
 clear hix
 generalize decide (1 ≤ f2 ∧ f2 ≤ (rd_T68 R.1 ix).f2) = d at *
 generalize hasLn R.2.1 f0 = ln at *
 generalize beLn R.2.2 f0 = iz at *
 generalize beAt R.2.2 f1 f2 = ia at *
 have hu := Tryd.underlying71
 by_cases h1 : 0 ≤ ix
 ·have h1' := eq_true h1
  have H1 := Aside0.mk h1
  have h1n := eq_false (by omega : ¬ ix < 0)
  rw [if_pos h1]
  cases ln with
  | false =>
   go_enter Tryd.func44, Tryd.ntmps44
   go_upto_region 1 with (first | ((with_reducible refine gate_dst (N := 3) rfl ?_); refine be_ 3 #[.string f0, .string f1, .int .i64 f2] 71 ?_; intro gb hgb w2 hbox hb; have BK2 := Aside0.mk hbox; have HB2 := Aside0.mk hb; have GB := Aside0.mk (Nat.le_of_eq hgb.symm); clear hbox hb hgb; have b20 := (blk_cell BK2.out 0).trans rfl; have b21 := (blk_cell BK2.out 1).trans rfl; have b22 := (blk_cell BK2.out 2).trans rfl; have X2 := Aside0.mk (HX.out.step HB2.out); have c20 := X2.out.c0; have c21 := X2.out.c1; have c22 := X2.out.c2) | fail)
   refine start_ (n := 18) (S := fun w' => w'.cell? ⟨g, 0, none⟩ = some (.slice A R.1.length c) ∧ w'.cell? ⟨g, 1, none⟩ = some (.slice A1 R.2.1.length c1) ∧ w'.cell? ⟨g, 2, none⟩ = some (.slice A2 R.2.2.length c2) ∧ w'.cell? ⟨gb, 0, none⟩ = some (.string f0) ∧ w'.cell? ⟨gb, 1, none⟩ = some (.string f1)) (ds := [14]) (fl 18 0) (by kernel_rfl) rfl rfl ⟨c20, c21, c22, b20, b21⟩ (fun hHeld => ?_)
   refine pu_ (i := 0) (N := some 6) (fl 18 1) (by kernel_rfl) ?_
   refine pu_ (i := 1) (N := some 7) (fl 18 3) (by kernel_rfl) ?_
   refine pu_ (i := 3) (N := some 9) (fl 18 11) (by kernel_rfl) ?_
   refine take_ (i := 2) (N := some 8) (v := ?_) (a' := ?_) (fl 18 15) rfl rfl (by kernel_rfl) (fun _ _ _ h => h) (Or.inl ⟨by rfl, ?_⟩) hHeld ?_ ?_
   rotate_left
   ·rintro w' ⟨s0, s1, s2, s3, s4⟩
    go_simp
    with_reducible rfl
   rotate_left
   ·simp only [Act.put, List.setIfInBounds_toArray, List.set_cons_zero, List.set_cons_succ, i64_w, i32_w]
    rfl
   refine take_ (i := 4) (N := some 10) (v := ?_) (a' := ?_) (fl 18 31) rfl rfl (by kernel_rfl) (fun _ _ _ h => h) (Or.inl ⟨by rfl, ?_⟩) hHeld ?_ ?_
   rotate_left
   ·rintro w' ⟨s0, s1, s2, s3, s4⟩
    go_simp
    with_reducible rfl
   rotate_left
   ·simp only [Act.put, List.setIfInBounds_toArray, List.set_cons_zero, List.set_cons_succ, i64_w, i32_w]
    rfl
   refine one_ (i := 5) (N := some 11) (fl 18 63) rfl rfl (by kernel_rfl) (by decide) (fun K hK => ?_)
   refine goes_ Tryd.func63 (by kernel_rfl) rfl #[.agg #[.slice A R.1.length c, .slice A1 R.2.1.length c1, .slice A2 R.2.2.length c2], .string f1] (by rfl) rfl rfl (by simp only [List.map_toArray, List.map_cons, List.map_nil]; rfl) ?_
   with_reducible refine (I1.out _ (below_step HB2.out (below_drew1 (Below.refl w2.heap.size w2)))).mono ?_
   rintro e w3 ⟨rfl, hb⟩
   refine ⟨_, rfl, ?_⟩
   have hx3 := Aside0.mk (below_step (below_drew1 (Below.refl w2.heap.size w2)) hb)
   have HB3 := Aside0.mk (below_step HB2.out hx3.out)
   clear hb
   refine hK.out _ _ ⟨pw_cell_below hx3.out c20, pw_cell_below hx3.out c21, pw_cell_below hx3.out c22, pw_cell_below hx3.out b20, pw_cell_below hx3.out b21⟩ (fun hHeld => ?_)
   clear hK K
   refine norm_ (a' := ?_) ?_ ?_
   rotate_left
   ·show Act.put _ (some 11) _ = _
    simp only [Act.put, List.setIfInBounds_toArray, List.set_cons_zero, List.set_cons_succ, i64_w, i32_w]
    rfl
   refine pu_ (i := 6) (N := some 12) (fl 18 127) (by kernel_rfl) ?_
   refine pu_ (i := 7) (N := some 13) (fl 18 255) (by kernel_rfl) ?_
   refine pu_ (i := 8) (N := some 14) (fl 18 511) (by kernel_rfl) ?_
   refine pu_ (i := 9) (N := some 15) (fl 18 1023) (by kernel_rfl) ?_
   refine pu_ (i := 10) (N := some 16) (fl 18 2047) (by kernel_rfl) ?_
   refine pu_ (i := 12) (N := some 18) (fl 18 6143) (by kernel_rfl) ?_
   refine take_ (i := 11) (N := some 17) (v := ?_) (a' := ?_) (fl 18 8191) rfl rfl (by kernel_rfl) (fun _ _ _ h => h) (Or.inl ⟨by rfl, ?_⟩) hHeld ?_ ?_
   rotate_left
   ·rintro w' ⟨s0, s1, s2, s3, s4⟩
    go_simp
    with_reducible rfl
   rotate_left
   ·simp only [Act.put, List.setIfInBounds_toArray, List.set_cons_zero, List.set_cons_succ, i64_w, i32_w]
    rfl
   refine take_ (i := 13) (N := some 19) (v := ?_) (a' := ?_) (fl 18 16383) rfl rfl (by kernel_rfl) (fun _ _ _ h => h) (Or.inl ⟨by rfl, ?_⟩) hHeld ?_ ?_
   rotate_left
   ·rintro w' ⟨s0, s1, s2, s3, s4⟩
    go_simp
    with_reducible rfl
   rotate_left
   ·simp only [Act.put, List.setIfInBounds_toArray, List.set_cons_zero, List.set_cons_succ, i64_w, i32_w]
    rfl
   refine last_ (i := 14) (N := some 20) (fl 18 32767) rfl rfl (by kernel_rfl) (by decide) (fun K hK => ?_)
   refine goes_ Tryd.func59 (by kernel_rfl) rfl #[.slice A1 R.2.1.length c1, .string f0] (by rfl) rfl rfl (by simp only [List.map_toArray, List.map_cons, List.map_nil]; rfl) ?_
   with_reducible refine (I2.out _ HB3.out).mono ?_
   rintro e w4 ⟨rfl, hb⟩
   refine ⟨_, rfl, ?_⟩
   have hx4 := Aside0.mk (below_step hx3.out hb)
   have HB4 := Aside0.mk (below_step HB2.out hx4.out)
   have BK4 := Aside0.mk (blk_below BK2.out hx4.out)
   clear hb
   refine hK.out _ _ ?_
   clear hK K
   refine norm_ (a' := ?_) ?_ ?_
   rotate_left
   ·show Act.put _ (some 20) _ = _
    simp only [Act.put, List.setIfInBounds_toArray, List.set_cons_zero, List.set_cons_succ, i64_w, i32_w]
    rfl
   refine pu_ (i := 15) (N := some 21) (fl 18 65535) (by kernel_rfl) ?_
   refine pu_ (i := 16) (N := some 22) (fl 18 131071) (by kernel_rfl) ?_
   refine pu_ (i := 17) (N := some 5) (fl 18 262143) (by kernel_rfl) ?_
   refine done_ (by kernel_rfl) ?_
   have b40 := (blk_cell BK4.out 0).trans rfl
   have b41 := (blk_cell BK4.out 1).trans rfl
   have b42 := (blk_cell BK4.out 2).trans rfl
   have X4 := Aside0.mk (HX.out.step HB4.out)
   have c40 := X4.out.c0
   have c41 := X4.out.c1
   have c42 := X4.out.c2
   go_wp2
   go_ret
   try simp only [if_true, if_false, Bool.false_eq_true]
   exact ⟨rfl, HX.out.same HB4.out⟩
  | true =>
   cases d with
   | false =>
    go_enter Tryd.func44, Tryd.ntmps44
    go_upto_region 1 with (first | ((with_reducible refine gate_dst (N := 3) rfl ?_); refine be_ 3 #[.string f0, .string f1, .int .i64 f2] 71 ?_; intro gb hgb w2 hbox hb; have BK2 := Aside0.mk hbox; have HB2 := Aside0.mk hb; have GB := Aside0.mk (Nat.le_of_eq hgb.symm); clear hbox hb hgb; have b20 := (blk_cell BK2.out 0).trans rfl; have b21 := (blk_cell BK2.out 1).trans rfl; have b22 := (blk_cell BK2.out 2).trans rfl; have X2 := Aside0.mk (HX.out.step HB2.out); have c20 := X2.out.c0; have c21 := X2.out.c1; have c22 := X2.out.c2) | fail)
    refine start_ (n := 18) (S := fun w' => w'.cell? ⟨g, 0, none⟩ = some (.slice A R.1.length c) ∧ w'.cell? ⟨g, 1, none⟩ = some (.slice A1 R.2.1.length c1) ∧ w'.cell? ⟨g, 2, none⟩ = some (.slice A2 R.2.2.length c2) ∧ w'.cell? ⟨gb, 0, none⟩ = some (.string f0) ∧ w'.cell? ⟨gb, 1, none⟩ = some (.string f1)) (ds := [14]) (fl 18 0) (by kernel_rfl) rfl rfl ⟨c20, c21, c22, b20, b21⟩ (fun hHeld => ?_)
    refine pu_ (i := 0) (N := some 6) (fl 18 1) (by kernel_rfl) ?_
    refine pu_ (i := 1) (N := some 7) (fl 18 3) (by kernel_rfl) ?_
    refine pu_ (i := 3) (N := some 9) (fl 18 11) (by kernel_rfl) ?_
    refine take_ (i := 2) (N := some 8) (v := ?_) (a' := ?_) (fl 18 15) rfl rfl (by kernel_rfl) (fun _ _ _ h => h) (Or.inl ⟨by rfl, ?_⟩) hHeld ?_ ?_
    rotate_left
    ·rintro w' ⟨s0, s1, s2, s3, s4⟩
     go_simp
     with_reducible rfl
    rotate_left
    ·simp only [Act.put, List.setIfInBounds_toArray, List.set_cons_zero, List.set_cons_succ, i64_w, i32_w]
     rfl
    refine take_ (i := 4) (N := some 10) (v := ?_) (a' := ?_) (fl 18 31) rfl rfl (by kernel_rfl) (fun _ _ _ h => h) (Or.inl ⟨by rfl, ?_⟩) hHeld ?_ ?_
    rotate_left
    ·rintro w' ⟨s0, s1, s2, s3, s4⟩
     go_simp
     with_reducible rfl
    rotate_left
    ·simp only [Act.put, List.setIfInBounds_toArray, List.set_cons_zero, List.set_cons_succ, i64_w, i32_w]
     rfl
    refine one_ (i := 5) (N := some 11) (fl 18 63) rfl rfl (by kernel_rfl) (by decide) (fun K hK => ?_)
    refine goes_ Tryd.func63 (by kernel_rfl) rfl #[.agg #[.slice A R.1.length c, .slice A1 R.2.1.length c1, .slice A2 R.2.2.length c2], .string f1] (by rfl) rfl rfl (by simp only [List.map_toArray, List.map_cons, List.map_nil]; rfl) ?_
    with_reducible refine (I1.out _ (below_step HB2.out (below_drew1 (Below.refl w2.heap.size w2)))).mono ?_
    rintro e w3 ⟨rfl, hb⟩
    refine ⟨_, rfl, ?_⟩
    have hx3 := Aside0.mk (below_step (below_drew1 (Below.refl w2.heap.size w2)) hb)
    have HB3 := Aside0.mk (below_step HB2.out hx3.out)
    clear hb
    refine hK.out _ _ ⟨pw_cell_below hx3.out c20, pw_cell_below hx3.out c21, pw_cell_below hx3.out c22, pw_cell_below hx3.out b20, pw_cell_below hx3.out b21⟩ (fun hHeld => ?_)
    clear hK K
    refine norm_ (a' := ?_) ?_ ?_
    rotate_left
    ·show Act.put _ (some 11) _ = _
     simp only [Act.put, List.setIfInBounds_toArray, List.set_cons_zero, List.set_cons_succ, i64_w, i32_w]
     rfl
    refine pu_ (i := 6) (N := some 12) (fl 18 127) (by kernel_rfl) ?_
    refine pu_ (i := 7) (N := some 13) (fl 18 255) (by kernel_rfl) ?_
    refine pu_ (i := 8) (N := some 14) (fl 18 511) (by kernel_rfl) ?_
    refine pu_ (i := 9) (N := some 15) (fl 18 1023) (by kernel_rfl) ?_
    refine pu_ (i := 10) (N := some 16) (fl 18 2047) (by kernel_rfl) ?_
    refine pu_ (i := 12) (N := some 18) (fl 18 6143) (by kernel_rfl) ?_
    refine take_ (i := 11) (N := some 17) (v := ?_) (a' := ?_) (fl 18 8191) rfl rfl (by kernel_rfl) (fun _ _ _ h => h) (Or.inl ⟨by rfl, ?_⟩) hHeld ?_ ?_
    rotate_left
    ·rintro w' ⟨s0, s1, s2, s3, s4⟩
     go_simp
     with_reducible rfl
    rotate_left
    ·simp only [Act.put, List.setIfInBounds_toArray, List.set_cons_zero, List.set_cons_succ, i64_w, i32_w]
     rfl
    refine take_ (i := 13) (N := some 19) (v := ?_) (a' := ?_) (fl 18 16383) rfl rfl (by kernel_rfl) (fun _ _ _ h => h) (Or.inl ⟨by rfl, ?_⟩) hHeld ?_ ?_
    rotate_left
    ·rintro w' ⟨s0, s1, s2, s3, s4⟩
     go_simp
     with_reducible rfl
    rotate_left
    ·simp only [Act.put, List.setIfInBounds_toArray, List.set_cons_zero, List.set_cons_succ, i64_w, i32_w]
     rfl
    refine last_ (i := 14) (N := some 20) (fl 18 32767) rfl rfl (by kernel_rfl) (by decide) (fun K hK => ?_)
    refine goes_ Tryd.func59 (by kernel_rfl) rfl #[.slice A1 R.2.1.length c1, .string f0] (by rfl) rfl rfl (by simp only [List.map_toArray, List.map_cons, List.map_nil]; rfl) ?_
    with_reducible refine (I2.out _ HB3.out).mono ?_
    rintro e w4 ⟨rfl, hb⟩
    refine ⟨_, rfl, ?_⟩
    have hx4 := Aside0.mk (below_step hx3.out hb)
    have HB4 := Aside0.mk (below_step HB2.out hx4.out)
    have BK4 := Aside0.mk (blk_below BK2.out hx4.out)
    clear hb
    refine hK.out _ _ ?_
    clear hK K
    refine norm_ (a' := ?_) ?_ ?_
    rotate_left
    ·show Act.put _ (some 20) _ = _
     simp only [Act.put, List.setIfInBounds_toArray, List.set_cons_zero, List.set_cons_succ, i64_w, i32_w]
     rfl
    refine pu_ (i := 15) (N := some 21) (fl 18 65535) (by kernel_rfl) ?_
    refine pu_ (i := 16) (N := some 22) (fl 18 131071) (by kernel_rfl) ?_
    refine pu_ (i := 17) (N := some 5) (fl 18 262143) (by kernel_rfl) ?_
    refine done_ (by kernel_rfl) ?_
    have b40 := (blk_cell BK4.out 0).trans rfl
    have b41 := (blk_cell BK4.out 1).trans rfl
    have b42 := (blk_cell BK4.out 2).trans rfl
    have X4 := Aside0.mk (HX.out.step HB4.out)
    have c40 := X4.out.c0
    have c41 := X4.out.c1
    have c42 := X4.out.c2
    go_upto_region 3 with (fail)
    refine start_ (n := 10) (S := fun w' => w'.cell? ⟨g, 0, none⟩ = some (.slice A R.1.length c) ∧ w'.cell? ⟨g, 1, none⟩ = some (.slice A1 R.2.1.length c1) ∧ w'.cell? ⟨g, 2, none⟩ = some (.slice A2 R.2.2.length c2) ∧ w'.cell? ⟨gb, 1, none⟩ = some (.string f1) ∧ w'.cell? ⟨gb, 2, none⟩ = some (.int .i64 f2)) (ds := [7]) (fl 10 0) (by kernel_rfl) rfl rfl ⟨c40, c41, c42, b41, b42⟩ (fun hHeld => ?_)
    refine pu_ (i := 0) (N := some 24) (fl 10 1) (by kernel_rfl) ?_
    refine pu_ (i := 1) (N := some 25) (fl 10 3) (by kernel_rfl) ?_
    refine pu_ (i := 3) (N := some 27) (fl 10 11) (by kernel_rfl) ?_
    refine pu_ (i := 5) (N := some 29) (fl 10 43) (by kernel_rfl) ?_
    refine take_ (i := 2) (N := some 26) (v := ?_) (a' := ?_) (fl 10 47) rfl rfl (by kernel_rfl) (fun _ _ _ h => h) (Or.inl ⟨by rfl, ?_⟩) hHeld ?_ ?_
    rotate_left
    ·rintro w' ⟨s0, s1, s2, s3, s4⟩
     go_simp
     with_reducible rfl
    rotate_left
    ·simp only [Act.put, List.setIfInBounds_toArray, List.set_cons_zero, List.set_cons_succ, i64_w, i32_w]
     rfl
    refine take_ (i := 4) (N := some 28) (v := ?_) (a' := ?_) (fl 10 63) rfl rfl (by kernel_rfl) (fun _ _ _ h => h) (Or.inl ⟨by rfl, ?_⟩) hHeld ?_ ?_
    rotate_left
    ·rintro w' ⟨s0, s1, s2, s3, s4⟩
     go_simp
     with_reducible rfl
    rotate_left
    ·simp only [Act.put, List.setIfInBounds_toArray, List.set_cons_zero, List.set_cons_succ, i64_w, i32_w]
     rfl
    refine take_ (i := 6) (N := some 30) (v := ?_) (a' := ?_) (fl 10 127) rfl rfl (by kernel_rfl) (fun _ _ _ h => h) (Or.inl ⟨by rfl, ?_⟩) hHeld ?_ ?_
    rotate_left
    ·rintro w' ⟨s0, s1, s2, s3, s4⟩
     go_simp
     with_reducible rfl
    rotate_left
    ·simp only [Act.put, List.setIfInBounds_toArray, List.set_cons_zero, List.set_cons_succ, i64_w, i32_w]
     rfl
    refine last_ (i := 7) (N := some 31) (fl 10 255) rfl rfl (by kernel_rfl) (by decide) (fun K hK => ?_)
    refine goes_ Tryd.func64 (by kernel_rfl) rfl #[.agg #[.slice A R.1.length c, .slice A1 R.2.1.length c1, .slice A2 R.2.2.length c2], .string f1, .int .i64 f2] (by rfl) rfl rfl (by simp only [List.map_toArray, List.map_cons, List.map_nil]; rfl) ?_
    with_reducible refine (I3.out _ (below_step HB4.out (below_drew1 (Below.refl w4.heap.size w4))) H1.out).mono ?_
    rintro e w5 ⟨rfl, hb⟩
    refine ⟨_, rfl, ?_⟩
    have hx5 := Aside0.mk (below_step (below_drew1 (Below.refl w4.heap.size w4)) hb)
    have HB5 := Aside0.mk (below_step HB4.out hx5.out)
    have BK5 := Aside0.mk (blk_below BK4.out hx5.out)
    clear hb
    refine hK.out _ _ ?_
    clear hK K
    refine norm_ (a' := ?_) ?_ ?_
    rotate_left
    ·show Act.put _ (some 31) _ = _
     simp only [Act.put, List.setIfInBounds_toArray, List.set_cons_zero, List.set_cons_succ, i64_w, i32_w]
     rfl
    refine pu_ (i := 8) (N := some 32) (fl 10 511) (by kernel_rfl) ?_
    refine pu_ (i := 9) (N := some 23) (fl 10 1023) (by kernel_rfl) ?_
    refine done_ (by kernel_rfl) ?_
    have b50 := (blk_cell BK5.out 0).trans rfl
    have b51 := (blk_cell BK5.out 1).trans rfl
    have b52 := (blk_cell BK5.out 2).trans rfl
    have X5 := Aside0.mk (HX.out.step HB5.out)
    have c50 := X5.out.c0
    have c51 := X5.out.c1
    have c52 := X5.out.c2
    go_wp2
    go_ret
    try simp only [if_true, if_false, Bool.false_eq_true]
    exact ⟨rfl, HX.out.same HB5.out⟩
   | true =>
    by_cases h5 : 0 ≤ iz
    ·have h5' := eq_true h5
     go_enter Tryd.func44, Tryd.ntmps44
     go_upto_region 1 with (first | ((with_reducible refine gate_dst (N := 3) rfl ?_); refine be_ 3 #[.string f0, .string f1, .int .i64 f2] 71 ?_; intro gb hgb w2 hbox hb; have BK2 := Aside0.mk hbox; have HB2 := Aside0.mk hb; have GB := Aside0.mk (Nat.le_of_eq hgb.symm); clear hbox hb hgb; have b20 := (blk_cell BK2.out 0).trans rfl; have b21 := (blk_cell BK2.out 1).trans rfl; have b22 := (blk_cell BK2.out 2).trans rfl; have X2 := Aside0.mk (HX.out.step HB2.out); have c20 := X2.out.c0; have c21 := X2.out.c1; have c22 := X2.out.c2) | fail)
     refine start_ (n := 18) (S := fun w' => w'.cell? ⟨g, 0, none⟩ = some (.slice A R.1.length c) ∧ w'.cell? ⟨g, 1, none⟩ = some (.slice A1 R.2.1.length c1) ∧ w'.cell? ⟨g, 2, none⟩ = some (.slice A2 R.2.2.length c2) ∧ w'.cell? ⟨gb, 0, none⟩ = some (.string f0) ∧ w'.cell? ⟨gb, 1, none⟩ = some (.string f1)) (ds := [14]) (fl 18 0) (by kernel_rfl) rfl rfl ⟨c20, c21, c22, b20, b21⟩ (fun hHeld => ?_)
     refine pu_ (i := 0) (N := some 6) (fl 18 1) (by kernel_rfl) ?_
     refine pu_ (i := 1) (N := some 7) (fl 18 3) (by kernel_rfl) ?_
     refine pu_ (i := 3) (N := some 9) (fl 18 11) (by kernel_rfl) ?_
     refine take_ (i := 2) (N := some 8) (v := ?_) (a' := ?_) (fl 18 15) rfl rfl (by kernel_rfl) (fun _ _ _ h => h) (Or.inl ⟨by rfl, ?_⟩) hHeld ?_ ?_
     rotate_left
     ·rintro w' ⟨s0, s1, s2, s3, s4⟩
      go_simp
      with_reducible rfl
     rotate_left
     ·simp only [Act.put, List.setIfInBounds_toArray, List.set_cons_zero, List.set_cons_succ, i64_w, i32_w]
      rfl
     refine take_ (i := 4) (N := some 10) (v := ?_) (a' := ?_) (fl 18 31) rfl rfl (by kernel_rfl) (fun _ _ _ h => h) (Or.inl ⟨by rfl, ?_⟩) hHeld ?_ ?_
     rotate_left
     ·rintro w' ⟨s0, s1, s2, s3, s4⟩
      go_simp
      with_reducible rfl
     rotate_left
     ·simp only [Act.put, List.setIfInBounds_toArray, List.set_cons_zero, List.set_cons_succ, i64_w, i32_w]
      rfl
     refine one_ (i := 5) (N := some 11) (fl 18 63) rfl rfl (by kernel_rfl) (by decide) (fun K hK => ?_)
     refine goes_ Tryd.func63 (by kernel_rfl) rfl #[.agg #[.slice A R.1.length c, .slice A1 R.2.1.length c1, .slice A2 R.2.2.length c2], .string f1] (by rfl) rfl rfl (by simp only [List.map_toArray, List.map_cons, List.map_nil]; rfl) ?_
     with_reducible refine (I1.out _ (below_step HB2.out (below_drew1 (Below.refl w2.heap.size w2)))).mono ?_
     rintro e w3 ⟨rfl, hb⟩
     refine ⟨_, rfl, ?_⟩
     have hx3 := Aside0.mk (below_step (below_drew1 (Below.refl w2.heap.size w2)) hb)
     have HB3 := Aside0.mk (below_step HB2.out hx3.out)
     clear hb
     refine hK.out _ _ ⟨pw_cell_below hx3.out c20, pw_cell_below hx3.out c21, pw_cell_below hx3.out c22, pw_cell_below hx3.out b20, pw_cell_below hx3.out b21⟩ (fun hHeld => ?_)
     clear hK K
     refine norm_ (a' := ?_) ?_ ?_
     rotate_left
     ·show Act.put _ (some 11) _ = _
      simp only [Act.put, List.setIfInBounds_toArray, List.set_cons_zero, List.set_cons_succ, i64_w, i32_w]
      rfl
     refine pu_ (i := 6) (N := some 12) (fl 18 127) (by kernel_rfl) ?_
     refine pu_ (i := 7) (N := some 13) (fl 18 255) (by kernel_rfl) ?_
     refine pu_ (i := 8) (N := some 14) (fl 18 511) (by kernel_rfl) ?_
     refine pu_ (i := 9) (N := some 15) (fl 18 1023) (by kernel_rfl) ?_
     refine pu_ (i := 10) (N := some 16) (fl 18 2047) (by kernel_rfl) ?_
     refine pu_ (i := 12) (N := some 18) (fl 18 6143) (by kernel_rfl) ?_
     refine take_ (i := 11) (N := some 17) (v := ?_) (a' := ?_) (fl 18 8191) rfl rfl (by kernel_rfl) (fun _ _ _ h => h) (Or.inl ⟨by rfl, ?_⟩) hHeld ?_ ?_
     rotate_left
     ·rintro w' ⟨s0, s1, s2, s3, s4⟩
      go_simp
      with_reducible rfl
     rotate_left
     ·simp only [Act.put, List.setIfInBounds_toArray, List.set_cons_zero, List.set_cons_succ, i64_w, i32_w]
      rfl
     refine take_ (i := 13) (N := some 19) (v := ?_) (a' := ?_) (fl 18 16383) rfl rfl (by kernel_rfl) (fun _ _ _ h => h) (Or.inl ⟨by rfl, ?_⟩) hHeld ?_ ?_
     rotate_left
     ·rintro w' ⟨s0, s1, s2, s3, s4⟩
      go_simp
      with_reducible rfl
     rotate_left
     ·simp only [Act.put, List.setIfInBounds_toArray, List.set_cons_zero, List.set_cons_succ, i64_w, i32_w]
      rfl
     refine last_ (i := 14) (N := some 20) (fl 18 32767) rfl rfl (by kernel_rfl) (by decide) (fun K hK => ?_)
     refine goes_ Tryd.func59 (by kernel_rfl) rfl #[.slice A1 R.2.1.length c1, .string f0] (by rfl) rfl rfl (by simp only [List.map_toArray, List.map_cons, List.map_nil]; rfl) ?_
     with_reducible refine (I2.out _ HB3.out).mono ?_
     rintro e w4 ⟨rfl, hb⟩
     refine ⟨_, rfl, ?_⟩
     have hx4 := Aside0.mk (below_step hx3.out hb)
     have HB4 := Aside0.mk (below_step HB2.out hx4.out)
     have BK4 := Aside0.mk (blk_below BK2.out hx4.out)
     clear hb
     refine hK.out _ _ ?_
     clear hK K
     refine norm_ (a' := ?_) ?_ ?_
     rotate_left
     ·show Act.put _ (some 20) _ = _
      simp only [Act.put, List.setIfInBounds_toArray, List.set_cons_zero, List.set_cons_succ, i64_w, i32_w]
      rfl
     refine pu_ (i := 15) (N := some 21) (fl 18 65535) (by kernel_rfl) ?_
     refine pu_ (i := 16) (N := some 22) (fl 18 131071) (by kernel_rfl) ?_
     refine pu_ (i := 17) (N := some 5) (fl 18 262143) (by kernel_rfl) ?_
     refine done_ (by kernel_rfl) ?_
     have b40 := (blk_cell BK4.out 0).trans rfl
     have b41 := (blk_cell BK4.out 1).trans rfl
     have b42 := (blk_cell BK4.out 2).trans rfl
     have X4 := Aside0.mk (HX.out.step HB4.out)
     have c40 := X4.out.c0
     have c41 := X4.out.c1
     have c42 := X4.out.c2
     go_upto_region 3 with (fail)
     refine start_ (n := 10) (S := fun w' => w'.cell? ⟨g, 0, none⟩ = some (.slice A R.1.length c) ∧ w'.cell? ⟨g, 1, none⟩ = some (.slice A1 R.2.1.length c1) ∧ w'.cell? ⟨g, 2, none⟩ = some (.slice A2 R.2.2.length c2) ∧ w'.cell? ⟨gb, 1, none⟩ = some (.string f1) ∧ w'.cell? ⟨gb, 2, none⟩ = some (.int .i64 f2)) (ds := [7]) (fl 10 0) (by kernel_rfl) rfl rfl ⟨c40, c41, c42, b41, b42⟩ (fun hHeld => ?_)
     refine pu_ (i := 0) (N := some 24) (fl 10 1) (by kernel_rfl) ?_
     refine pu_ (i := 1) (N := some 25) (fl 10 3) (by kernel_rfl) ?_
     refine pu_ (i := 3) (N := some 27) (fl 10 11) (by kernel_rfl) ?_
     refine pu_ (i := 5) (N := some 29) (fl 10 43) (by kernel_rfl) ?_
     refine take_ (i := 2) (N := some 26) (v := ?_) (a' := ?_) (fl 10 47) rfl rfl (by kernel_rfl) (fun _ _ _ h => h) (Or.inl ⟨by rfl, ?_⟩) hHeld ?_ ?_
     rotate_left
     ·rintro w' ⟨s0, s1, s2, s3, s4⟩
      go_simp
      with_reducible rfl
     rotate_left
     ·simp only [Act.put, List.setIfInBounds_toArray, List.set_cons_zero, List.set_cons_succ, i64_w, i32_w]
      rfl
     refine take_ (i := 4) (N := some 28) (v := ?_) (a' := ?_) (fl 10 63) rfl rfl (by kernel_rfl) (fun _ _ _ h => h) (Or.inl ⟨by rfl, ?_⟩) hHeld ?_ ?_
     rotate_left
     ·rintro w' ⟨s0, s1, s2, s3, s4⟩
      go_simp
      with_reducible rfl
     rotate_left
     ·simp only [Act.put, List.setIfInBounds_toArray, List.set_cons_zero, List.set_cons_succ, i64_w, i32_w]
      rfl
     refine take_ (i := 6) (N := some 30) (v := ?_) (a' := ?_) (fl 10 127) rfl rfl (by kernel_rfl) (fun _ _ _ h => h) (Or.inl ⟨by rfl, ?_⟩) hHeld ?_ ?_
     rotate_left
     ·rintro w' ⟨s0, s1, s2, s3, s4⟩
      go_simp
      with_reducible rfl
     rotate_left
     ·simp only [Act.put, List.setIfInBounds_toArray, List.set_cons_zero, List.set_cons_succ, i64_w, i32_w]
      rfl
     refine last_ (i := 7) (N := some 31) (fl 10 255) rfl rfl (by kernel_rfl) (by decide) (fun K hK => ?_)
     refine goes_ Tryd.func64 (by kernel_rfl) rfl #[.agg #[.slice A R.1.length c, .slice A1 R.2.1.length c1, .slice A2 R.2.2.length c2], .string f1, .int .i64 f2] (by rfl) rfl rfl (by simp only [List.map_toArray, List.map_cons, List.map_nil]; rfl) ?_
     with_reducible refine (I3.out _ (below_step HB4.out (below_drew1 (Below.refl w4.heap.size w4))) H1.out).mono ?_
     rintro e w5 ⟨rfl, hb⟩
     refine ⟨_, rfl, ?_⟩
     have hx5 := Aside0.mk (below_step (below_drew1 (Below.refl w4.heap.size w4)) hb)
     have HB5 := Aside0.mk (below_step HB4.out hx5.out)
     have BK5 := Aside0.mk (blk_below BK4.out hx5.out)
     clear hb
     refine hK.out _ _ ?_
     clear hK K
     refine norm_ (a' := ?_) ?_ ?_
     rotate_left
     ·show Act.put _ (some 31) _ = _
      simp only [Act.put, List.setIfInBounds_toArray, List.set_cons_zero, List.set_cons_succ, i64_w, i32_w]
      rfl
     refine pu_ (i := 8) (N := some 32) (fl 10 511) (by kernel_rfl) ?_
     refine pu_ (i := 9) (N := some 23) (fl 10 1023) (by kernel_rfl) ?_
     refine done_ (by kernel_rfl) ?_
     have b50 := (blk_cell BK5.out 0).trans rfl
     have b51 := (blk_cell BK5.out 1).trans rfl
     have b52 := (blk_cell BK5.out 2).trans rfl
     have X5 := Aside0.mk (HX.out.step HB5.out)
     have c50 := X5.out.c0
     have c51 := X5.out.c1
     have c52 := X5.out.c2
     go_upto_region 5 with (fail)
     refine start_ (n := 8) (S := fun w' => w'.cell? ⟨g, 0, none⟩ = some (.slice A R.1.length c) ∧ w'.cell? ⟨g, 1, none⟩ = some (.slice A1 R.2.1.length c1) ∧ w'.cell? ⟨g, 2, none⟩ = some (.slice A2 R.2.2.length c2) ∧ w'.cell? ⟨gb, 0, none⟩ = some (.string f0)) (ds := [5]) (fl 8 0) (by kernel_rfl) rfl rfl ⟨c50, c51, c52, b50⟩ (fun hHeld => ?_)
     refine pu_ (i := 0) (N := some 34) (fl 8 1) (by kernel_rfl) ?_
     refine pu_ (i := 1) (N := some 35) (fl 8 3) (by kernel_rfl) ?_
     refine pu_ (i := 3) (N := some 37) (fl 8 11) (by kernel_rfl) ?_
     refine take_ (i := 2) (N := some 36) (v := ?_) (a' := ?_) (fl 8 15) rfl rfl (by kernel_rfl) (fun _ _ _ h => h) (Or.inl ⟨by rfl, ?_⟩) hHeld ?_ ?_
     rotate_left
     ·rintro w' ⟨s0, s1, s2, s3⟩
      go_simp
      with_reducible rfl
     rotate_left
     ·simp only [Act.put, List.setIfInBounds_toArray, List.set_cons_zero, List.set_cons_succ, i64_w, i32_w]
      rfl
     refine take_ (i := 4) (N := some 38) (v := ?_) (a' := ?_) (fl 8 31) rfl rfl (by kernel_rfl) (fun _ _ _ h => h) (Or.inl ⟨by rfl, ?_⟩) hHeld ?_ ?_
     rotate_left
     ·rintro w' ⟨s0, s1, s2, s3⟩
      go_simp
      with_reducible rfl
     rotate_left
     ·simp only [Act.put, List.setIfInBounds_toArray, List.set_cons_zero, List.set_cons_succ, i64_w, i32_w]
      rfl
     refine last_ (i := 5) (N := some 39) (fl 8 63) rfl rfl (by kernel_rfl) (by decide) (fun K hK => ?_)
     refine goes_ Tryd.func65 (by kernel_rfl) rfl #[.agg #[.slice A R.1.length c, .slice A1 R.2.1.length c1, .slice A2 R.2.2.length c2], .string f0] (by rfl) rfl rfl (by simp only [List.map_toArray, List.map_cons, List.map_nil]; rfl) ?_
     with_reducible refine (I4.out _ (below_step HB5.out (below_drew1 (Below.refl w5.heap.size w5)))).mono ?_
     rintro e w6 ⟨rfl, hb⟩
     refine ⟨_, rfl, ?_⟩
     have hx5 := Aside0.mk (below_step (below_drew1 (Below.refl w5.heap.size w5)) hb)
     have HB6 := Aside0.mk (below_step HB5.out hx5.out)
     have BK6 := Aside0.mk (blk_below BK5.out hx5.out)
     clear hb
     refine hK.out _ _ ?_
     clear hK K
     refine norm_ (a' := ?_) ?_ ?_
     rotate_left
     ·show Act.put _ (some 39) _ = _
      simp only [Act.put, List.setIfInBounds_toArray, List.set_cons_zero, List.set_cons_succ, i64_w, i32_w]
      rfl
     refine pu_ (i := 6) (N := some 40) (fl 8 127) (by kernel_rfl) ?_
     refine pu_ (i := 7) (N := some 33) (fl 8 255) (by kernel_rfl) ?_
     refine done_ (by kernel_rfl) ?_
     have b60 := (blk_cell BK6.out 0).trans rfl
     have b61 := (blk_cell BK6.out 1).trans rfl
     have b62 := (blk_cell BK6.out 2).trans rfl
     have X6 := Aside0.mk (HX.out.step HB6.out)
     have c60 := X6.out.c0
     have c61 := X6.out.c1
     have c62 := X6.out.c2
     go_wp2
     go_ret
     try simp only [if_true, if_false, Bool.false_eq_true]
     exact ⟨rfl, HX.out.same HB6.out⟩
    ·have h5' := eq_false h5
     by_cases h7 : 0 ≤ ia
     ·have h7' := eq_true h7
      go_enter Tryd.func44, Tryd.ntmps44
      go_upto_region 1 with (first | ((with_reducible refine gate_dst (N := 3) rfl ?_); refine be_ 3 #[.string f0, .string f1, .int .i64 f2] 71 ?_; intro gb hgb w2 hbox hb; have BK2 := Aside0.mk hbox; have HB2 := Aside0.mk hb; have GB := Aside0.mk (Nat.le_of_eq hgb.symm); clear hbox hb hgb; have b20 := (blk_cell BK2.out 0).trans rfl; have b21 := (blk_cell BK2.out 1).trans rfl; have b22 := (blk_cell BK2.out 2).trans rfl; have X2 := Aside0.mk (HX.out.step HB2.out); have c20 := X2.out.c0; have c21 := X2.out.c1; have c22 := X2.out.c2) | fail)
      refine start_ (n := 18) (S := fun w' => w'.cell? ⟨g, 0, none⟩ = some (.slice A R.1.length c) ∧ w'.cell? ⟨g, 1, none⟩ = some (.slice A1 R.2.1.length c1) ∧ w'.cell? ⟨g, 2, none⟩ = some (.slice A2 R.2.2.length c2) ∧ w'.cell? ⟨gb, 0, none⟩ = some (.string f0) ∧ w'.cell? ⟨gb, 1, none⟩ = some (.string f1)) (ds := [14]) (fl 18 0) (by kernel_rfl) rfl rfl ⟨c20, c21, c22, b20, b21⟩ (fun hHeld => ?_)
      refine pu_ (i := 0) (N := some 6) (fl 18 1) (by kernel_rfl) ?_
      refine pu_ (i := 1) (N := some 7) (fl 18 3) (by kernel_rfl) ?_
      refine pu_ (i := 3) (N := some 9) (fl 18 11) (by kernel_rfl) ?_
      refine take_ (i := 2) (N := some 8) (v := ?_) (a' := ?_) (fl 18 15) rfl rfl (by kernel_rfl) (fun _ _ _ h => h) (Or.inl ⟨by rfl, ?_⟩) hHeld ?_ ?_
      rotate_left
      ·rintro w' ⟨s0, s1, s2, s3, s4⟩
       go_simp
       with_reducible rfl
      rotate_left
      ·simp only [Act.put, List.setIfInBounds_toArray, List.set_cons_zero, List.set_cons_succ, i64_w, i32_w]
       rfl
      refine take_ (i := 4) (N := some 10) (v := ?_) (a' := ?_) (fl 18 31) rfl rfl (by kernel_rfl) (fun _ _ _ h => h) (Or.inl ⟨by rfl, ?_⟩) hHeld ?_ ?_
      rotate_left
      ·rintro w' ⟨s0, s1, s2, s3, s4⟩
       go_simp
       with_reducible rfl
      rotate_left
      ·simp only [Act.put, List.setIfInBounds_toArray, List.set_cons_zero, List.set_cons_succ, i64_w, i32_w]
       rfl
      refine one_ (i := 5) (N := some 11) (fl 18 63) rfl rfl (by kernel_rfl) (by decide) (fun K hK => ?_)
      refine goes_ Tryd.func63 (by kernel_rfl) rfl #[.agg #[.slice A R.1.length c, .slice A1 R.2.1.length c1, .slice A2 R.2.2.length c2], .string f1] (by rfl) rfl rfl (by simp only [List.map_toArray, List.map_cons, List.map_nil]; rfl) ?_
      with_reducible refine (I1.out _ (below_step HB2.out (below_drew1 (Below.refl w2.heap.size w2)))).mono ?_
      rintro e w3 ⟨rfl, hb⟩
      refine ⟨_, rfl, ?_⟩
      have hx3 := Aside0.mk (below_step (below_drew1 (Below.refl w2.heap.size w2)) hb)
      have HB3 := Aside0.mk (below_step HB2.out hx3.out)
      clear hb
      refine hK.out _ _ ⟨pw_cell_below hx3.out c20, pw_cell_below hx3.out c21, pw_cell_below hx3.out c22, pw_cell_below hx3.out b20, pw_cell_below hx3.out b21⟩ (fun hHeld => ?_)
      clear hK K
      refine norm_ (a' := ?_) ?_ ?_
      rotate_left
      ·show Act.put _ (some 11) _ = _
       simp only [Act.put, List.setIfInBounds_toArray, List.set_cons_zero, List.set_cons_succ, i64_w, i32_w]
       rfl
      refine pu_ (i := 6) (N := some 12) (fl 18 127) (by kernel_rfl) ?_
      refine pu_ (i := 7) (N := some 13) (fl 18 255) (by kernel_rfl) ?_
      refine pu_ (i := 8) (N := some 14) (fl 18 511) (by kernel_rfl) ?_
      refine pu_ (i := 9) (N := some 15) (fl 18 1023) (by kernel_rfl) ?_
      refine pu_ (i := 10) (N := some 16) (fl 18 2047) (by kernel_rfl) ?_
      refine pu_ (i := 12) (N := some 18) (fl 18 6143) (by kernel_rfl) ?_
      refine take_ (i := 11) (N := some 17) (v := ?_) (a' := ?_) (fl 18 8191) rfl rfl (by kernel_rfl) (fun _ _ _ h => h) (Or.inl ⟨by rfl, ?_⟩) hHeld ?_ ?_
      rotate_left
      ·rintro w' ⟨s0, s1, s2, s3, s4⟩
       go_simp
       with_reducible rfl
      rotate_left
      ·simp only [Act.put, List.setIfInBounds_toArray, List.set_cons_zero, List.set_cons_succ, i64_w, i32_w]
       rfl
      refine take_ (i := 13) (N := some 19) (v := ?_) (a' := ?_) (fl 18 16383) rfl rfl (by kernel_rfl) (fun _ _ _ h => h) (Or.inl ⟨by rfl, ?_⟩) hHeld ?_ ?_
      rotate_left
      ·rintro w' ⟨s0, s1, s2, s3, s4⟩
       go_simp
       with_reducible rfl
      rotate_left
      ·simp only [Act.put, List.setIfInBounds_toArray, List.set_cons_zero, List.set_cons_succ, i64_w, i32_w]
       rfl
      refine last_ (i := 14) (N := some 20) (fl 18 32767) rfl rfl (by kernel_rfl) (by decide) (fun K hK => ?_)
      refine goes_ Tryd.func59 (by kernel_rfl) rfl #[.slice A1 R.2.1.length c1, .string f0] (by rfl) rfl rfl (by simp only [List.map_toArray, List.map_cons, List.map_nil]; rfl) ?_
      with_reducible refine (I2.out _ HB3.out).mono ?_
      rintro e w4 ⟨rfl, hb⟩
      refine ⟨_, rfl, ?_⟩
      have hx4 := Aside0.mk (below_step hx3.out hb)
      have HB4 := Aside0.mk (below_step HB2.out hx4.out)
      have BK4 := Aside0.mk (blk_below BK2.out hx4.out)
      clear hb
      refine hK.out _ _ ?_
      clear hK K
      refine norm_ (a' := ?_) ?_ ?_
      rotate_left
      ·show Act.put _ (some 20) _ = _
       simp only [Act.put, List.setIfInBounds_toArray, List.set_cons_zero, List.set_cons_succ, i64_w, i32_w]
       rfl
      refine pu_ (i := 15) (N := some 21) (fl 18 65535) (by kernel_rfl) ?_
      refine pu_ (i := 16) (N := some 22) (fl 18 131071) (by kernel_rfl) ?_
      refine pu_ (i := 17) (N := some 5) (fl 18 262143) (by kernel_rfl) ?_
      refine done_ (by kernel_rfl) ?_
      have b40 := (blk_cell BK4.out 0).trans rfl
      have b41 := (blk_cell BK4.out 1).trans rfl
      have b42 := (blk_cell BK4.out 2).trans rfl
      have X4 := Aside0.mk (HX.out.step HB4.out)
      have c40 := X4.out.c0
      have c41 := X4.out.c1
      have c42 := X4.out.c2
      go_upto_region 3 with (fail)
      refine start_ (n := 10) (S := fun w' => w'.cell? ⟨g, 0, none⟩ = some (.slice A R.1.length c) ∧ w'.cell? ⟨g, 1, none⟩ = some (.slice A1 R.2.1.length c1) ∧ w'.cell? ⟨g, 2, none⟩ = some (.slice A2 R.2.2.length c2) ∧ w'.cell? ⟨gb, 1, none⟩ = some (.string f1) ∧ w'.cell? ⟨gb, 2, none⟩ = some (.int .i64 f2)) (ds := [7]) (fl 10 0) (by kernel_rfl) rfl rfl ⟨c40, c41, c42, b41, b42⟩ (fun hHeld => ?_)
      refine pu_ (i := 0) (N := some 24) (fl 10 1) (by kernel_rfl) ?_
      refine pu_ (i := 1) (N := some 25) (fl 10 3) (by kernel_rfl) ?_
      refine pu_ (i := 3) (N := some 27) (fl 10 11) (by kernel_rfl) ?_
      refine pu_ (i := 5) (N := some 29) (fl 10 43) (by kernel_rfl) ?_
      refine take_ (i := 2) (N := some 26) (v := ?_) (a' := ?_) (fl 10 47) rfl rfl (by kernel_rfl) (fun _ _ _ h => h) (Or.inl ⟨by rfl, ?_⟩) hHeld ?_ ?_
      rotate_left
      ·rintro w' ⟨s0, s1, s2, s3, s4⟩
       go_simp
       with_reducible rfl
      rotate_left
      ·simp only [Act.put, List.setIfInBounds_toArray, List.set_cons_zero, List.set_cons_succ, i64_w, i32_w]
       rfl
      refine take_ (i := 4) (N := some 28) (v := ?_) (a' := ?_) (fl 10 63) rfl rfl (by kernel_rfl) (fun _ _ _ h => h) (Or.inl ⟨by rfl, ?_⟩) hHeld ?_ ?_
      rotate_left
      ·rintro w' ⟨s0, s1, s2, s3, s4⟩
       go_simp
       with_reducible rfl
      rotate_left
      ·simp only [Act.put, List.setIfInBounds_toArray, List.set_cons_zero, List.set_cons_succ, i64_w, i32_w]
       rfl
      refine take_ (i := 6) (N := some 30) (v := ?_) (a' := ?_) (fl 10 127) rfl rfl (by kernel_rfl) (fun _ _ _ h => h) (Or.inl ⟨by rfl, ?_⟩) hHeld ?_ ?_
      rotate_left
      ·rintro w' ⟨s0, s1, s2, s3, s4⟩
       go_simp
       with_reducible rfl
      rotate_left
      ·simp only [Act.put, List.setIfInBounds_toArray, List.set_cons_zero, List.set_cons_succ, i64_w, i32_w]
       rfl
      refine last_ (i := 7) (N := some 31) (fl 10 255) rfl rfl (by kernel_rfl) (by decide) (fun K hK => ?_)
      refine goes_ Tryd.func64 (by kernel_rfl) rfl #[.agg #[.slice A R.1.length c, .slice A1 R.2.1.length c1, .slice A2 R.2.2.length c2], .string f1, .int .i64 f2] (by rfl) rfl rfl (by simp only [List.map_toArray, List.map_cons, List.map_nil]; rfl) ?_
      with_reducible refine (I3.out _ (below_step HB4.out (below_drew1 (Below.refl w4.heap.size w4))) H1.out).mono ?_
      rintro e w5 ⟨rfl, hb⟩
      refine ⟨_, rfl, ?_⟩
      have hx5 := Aside0.mk (below_step (below_drew1 (Below.refl w4.heap.size w4)) hb)
      have HB5 := Aside0.mk (below_step HB4.out hx5.out)
      have BK5 := Aside0.mk (blk_below BK4.out hx5.out)
      clear hb
      refine hK.out _ _ ?_
      clear hK K
      refine norm_ (a' := ?_) ?_ ?_
      rotate_left
      ·show Act.put _ (some 31) _ = _
       simp only [Act.put, List.setIfInBounds_toArray, List.set_cons_zero, List.set_cons_succ, i64_w, i32_w]
       rfl
      refine pu_ (i := 8) (N := some 32) (fl 10 511) (by kernel_rfl) ?_
      refine pu_ (i := 9) (N := some 23) (fl 10 1023) (by kernel_rfl) ?_
      refine done_ (by kernel_rfl) ?_
      have b50 := (blk_cell BK5.out 0).trans rfl
      have b51 := (blk_cell BK5.out 1).trans rfl
      have b52 := (blk_cell BK5.out 2).trans rfl
      have X5 := Aside0.mk (HX.out.step HB5.out)
      have c50 := X5.out.c0
      have c51 := X5.out.c1
      have c52 := X5.out.c2
      go_upto_region 5 with (fail)
      refine start_ (n := 8) (S := fun w' => w'.cell? ⟨g, 0, none⟩ = some (.slice A R.1.length c) ∧ w'.cell? ⟨g, 1, none⟩ = some (.slice A1 R.2.1.length c1) ∧ w'.cell? ⟨g, 2, none⟩ = some (.slice A2 R.2.2.length c2) ∧ w'.cell? ⟨gb, 0, none⟩ = some (.string f0)) (ds := [5]) (fl 8 0) (by kernel_rfl) rfl rfl ⟨c50, c51, c52, b50⟩ (fun hHeld => ?_)
      refine pu_ (i := 0) (N := some 34) (fl 8 1) (by kernel_rfl) ?_
      refine pu_ (i := 1) (N := some 35) (fl 8 3) (by kernel_rfl) ?_
      refine pu_ (i := 3) (N := some 37) (fl 8 11) (by kernel_rfl) ?_
      refine take_ (i := 2) (N := some 36) (v := ?_) (a' := ?_) (fl 8 15) rfl rfl (by kernel_rfl) (fun _ _ _ h => h) (Or.inl ⟨by rfl, ?_⟩) hHeld ?_ ?_
      rotate_left
      ·rintro w' ⟨s0, s1, s2, s3⟩
       go_simp
       with_reducible rfl
      rotate_left
      ·simp only [Act.put, List.setIfInBounds_toArray, List.set_cons_zero, List.set_cons_succ, i64_w, i32_w]
       rfl
      refine take_ (i := 4) (N := some 38) (v := ?_) (a' := ?_) (fl 8 31) rfl rfl (by kernel_rfl) (fun _ _ _ h => h) (Or.inl ⟨by rfl, ?_⟩) hHeld ?_ ?_
      rotate_left
      ·rintro w' ⟨s0, s1, s2, s3⟩
       go_simp
       with_reducible rfl
      rotate_left
      ·simp only [Act.put, List.setIfInBounds_toArray, List.set_cons_zero, List.set_cons_succ, i64_w, i32_w]
       rfl
      refine last_ (i := 5) (N := some 39) (fl 8 63) rfl rfl (by kernel_rfl) (by decide) (fun K hK => ?_)
      refine goes_ Tryd.func65 (by kernel_rfl) rfl #[.agg #[.slice A R.1.length c, .slice A1 R.2.1.length c1, .slice A2 R.2.2.length c2], .string f0] (by rfl) rfl rfl (by simp only [List.map_toArray, List.map_cons, List.map_nil]; rfl) ?_
      with_reducible refine (I4.out _ (below_step HB5.out (below_drew1 (Below.refl w5.heap.size w5)))).mono ?_
      rintro e w6 ⟨rfl, hb⟩
      refine ⟨_, rfl, ?_⟩
      have hx5 := Aside0.mk (below_step (below_drew1 (Below.refl w5.heap.size w5)) hb)
      have HB6 := Aside0.mk (below_step HB5.out hx5.out)
      have BK6 := Aside0.mk (blk_below BK5.out hx5.out)
      clear hb
      refine hK.out _ _ ?_
      clear hK K
      refine norm_ (a' := ?_) ?_ ?_
      rotate_left
      ·show Act.put _ (some 39) _ = _
       simp only [Act.put, List.setIfInBounds_toArray, List.set_cons_zero, List.set_cons_succ, i64_w, i32_w]
       rfl
      refine pu_ (i := 6) (N := some 40) (fl 8 127) (by kernel_rfl) ?_
      refine pu_ (i := 7) (N := some 33) (fl 8 255) (by kernel_rfl) ?_
      refine done_ (by kernel_rfl) ?_
      have b60 := (blk_cell BK6.out 0).trans rfl
      have b61 := (blk_cell BK6.out 1).trans rfl
      have b62 := (blk_cell BK6.out 2).trans rfl
      have X6 := Aside0.mk (HX.out.step HB6.out)
      have c60 := X6.out.c0
      have c61 := X6.out.c1
      have c62 := X6.out.c2
      go_upto_region 7 with (fail)
      refine start_ (n := 10) (S := fun w' => w'.cell? ⟨g, 0, none⟩ = some (.slice A R.1.length c) ∧ w'.cell? ⟨g, 1, none⟩ = some (.slice A1 R.2.1.length c1) ∧ w'.cell? ⟨g, 2, none⟩ = some (.slice A2 R.2.2.length c2) ∧ w'.cell? ⟨gb, 1, none⟩ = some (.string f1) ∧ w'.cell? ⟨gb, 2, none⟩ = some (.int .i64 f2)) (ds := [7]) (fl 10 0) (by kernel_rfl) rfl rfl ⟨c60, c61, c62, b61, b62⟩ (fun hHeld => ?_)
      refine pu_ (i := 0) (N := some 42) (fl 10 1) (by kernel_rfl) ?_
      refine pu_ (i := 1) (N := some 43) (fl 10 3) (by kernel_rfl) ?_
      refine pu_ (i := 3) (N := some 45) (fl 10 11) (by kernel_rfl) ?_
      refine pu_ (i := 5) (N := some 47) (fl 10 43) (by kernel_rfl) ?_
      refine take_ (i := 2) (N := some 44) (v := ?_) (a' := ?_) (fl 10 47) rfl rfl (by kernel_rfl) (fun _ _ _ h => h) (Or.inl ⟨by rfl, ?_⟩) hHeld ?_ ?_
      rotate_left
      ·rintro w' ⟨s0, s1, s2, s3, s4⟩
       go_simp
       with_reducible rfl
      rotate_left
      ·simp only [Act.put, List.setIfInBounds_toArray, List.set_cons_zero, List.set_cons_succ, i64_w, i32_w]
       rfl
      refine take_ (i := 4) (N := some 46) (v := ?_) (a' := ?_) (fl 10 63) rfl rfl (by kernel_rfl) (fun _ _ _ h => h) (Or.inl ⟨by rfl, ?_⟩) hHeld ?_ ?_
      rotate_left
      ·rintro w' ⟨s0, s1, s2, s3, s4⟩
       go_simp
       with_reducible rfl
      rotate_left
      ·simp only [Act.put, List.setIfInBounds_toArray, List.set_cons_zero, List.set_cons_succ, i64_w, i32_w]
       rfl
      refine take_ (i := 6) (N := some 48) (v := ?_) (a' := ?_) (fl 10 127) rfl rfl (by kernel_rfl) (fun _ _ _ h => h) (Or.inl ⟨by rfl, ?_⟩) hHeld ?_ ?_
      rotate_left
      ·rintro w' ⟨s0, s1, s2, s3, s4⟩
       go_simp
       with_reducible rfl
      rotate_left
      ·simp only [Act.put, List.setIfInBounds_toArray, List.set_cons_zero, List.set_cons_succ, i64_w, i32_w]
       rfl
      refine last_ (i := 7) (N := some 49) (fl 10 255) rfl rfl (by kernel_rfl) (by decide) (fun K hK => ?_)
      refine goes_ Tryd.func66 (by kernel_rfl) rfl #[.agg #[.slice A R.1.length c, .slice A1 R.2.1.length c1, .slice A2 R.2.2.length c2], .string f1, .int .i64 f2] (by rfl) rfl rfl (by simp only [List.map_toArray, List.map_cons, List.map_nil]; rfl) ?_
      with_reducible refine (I5.out _ (below_step HB6.out (below_drew1 (Below.refl w6.heap.size w6)))).mono ?_
      rintro e w7 ⟨rfl, hb⟩
      refine ⟨_, rfl, ?_⟩
      have hx5 := Aside0.mk (below_step (below_drew1 (Below.refl w6.heap.size w6)) hb)
      have HB7 := Aside0.mk (below_step HB6.out hx5.out)
      have BK7 := Aside0.mk (blk_below BK6.out hx5.out)
      clear hb
      refine hK.out _ _ ?_
      clear hK K
      refine norm_ (a' := ?_) ?_ ?_
      rotate_left
      ·show Act.put _ (some 49) _ = _
       simp only [Act.put, List.setIfInBounds_toArray, List.set_cons_zero, List.set_cons_succ, i64_w, i32_w]
       rfl
      refine pu_ (i := 8) (N := some 50) (fl 10 511) (by kernel_rfl) ?_
      refine pu_ (i := 9) (N := some 41) (fl 10 1023) (by kernel_rfl) ?_
      refine done_ (by kernel_rfl) ?_
      have b70 := (blk_cell BK7.out 0).trans rfl
      have b71 := (blk_cell BK7.out 1).trans rfl
      have b72 := (blk_cell BK7.out 2).trans rfl
      have X7 := Aside0.mk (HX.out.step HB7.out)
      have c70 := X7.out.c0
      have c71 := X7.out.c1
      have c72 := X7.out.c2
      go_wp2
      go_ret
      try simp only [if_true, if_false, Bool.false_eq_true]
      exact ⟨rfl, HX.out.same HB7.out⟩
     ·have h7' := eq_false h7
      go_enter Tryd.func44, Tryd.ntmps44
      go_upto_region 1 with (first | ((with_reducible refine gate_dst (N := 3) rfl ?_); refine be_ 3 #[.string f0, .string f1, .int .i64 f2] 71 ?_; intro gb hgb w2 hbox hb; have BK2 := Aside0.mk hbox; have HB2 := Aside0.mk hb; have GB := Aside0.mk (Nat.le_of_eq hgb.symm); clear hbox hb hgb; have b20 := (blk_cell BK2.out 0).trans rfl; have b21 := (blk_cell BK2.out 1).trans rfl; have b22 := (blk_cell BK2.out 2).trans rfl; have X2 := Aside0.mk (HX.out.step HB2.out); have c20 := X2.out.c0; have c21 := X2.out.c1; have c22 := X2.out.c2) | fail)
      refine start_ (n := 18) (S := fun w' => w'.cell? ⟨g, 0, none⟩ = some (.slice A R.1.length c) ∧ w'.cell? ⟨g, 1, none⟩ = some (.slice A1 R.2.1.length c1) ∧ w'.cell? ⟨g, 2, none⟩ = some (.slice A2 R.2.2.length c2) ∧ w'.cell? ⟨gb, 0, none⟩ = some (.string f0) ∧ w'.cell? ⟨gb, 1, none⟩ = some (.string f1)) (ds := [14]) (fl 18 0) (by kernel_rfl) rfl rfl ⟨c20, c21, c22, b20, b21⟩ (fun hHeld => ?_)
      refine pu_ (i := 0) (N := some 6) (fl 18 1) (by kernel_rfl) ?_
      refine pu_ (i := 1) (N := some 7) (fl 18 3) (by kernel_rfl) ?_
      refine pu_ (i := 3) (N := some 9) (fl 18 11) (by kernel_rfl) ?_
      refine take_ (i := 2) (N := some 8) (v := ?_) (a' := ?_) (fl 18 15) rfl rfl (by kernel_rfl) (fun _ _ _ h => h) (Or.inl ⟨by rfl, ?_⟩) hHeld ?_ ?_
      rotate_left
      ·rintro w' ⟨s0, s1, s2, s3, s4⟩
       go_simp
       with_reducible rfl
      rotate_left
      ·simp only [Act.put, List.setIfInBounds_toArray, List.set_cons_zero, List.set_cons_succ, i64_w, i32_w]
       rfl
      refine take_ (i := 4) (N := some 10) (v := ?_) (a' := ?_) (fl 18 31) rfl rfl (by kernel_rfl) (fun _ _ _ h => h) (Or.inl ⟨by rfl, ?_⟩) hHeld ?_ ?_
      rotate_left
      ·rintro w' ⟨s0, s1, s2, s3, s4⟩
       go_simp
       with_reducible rfl
      rotate_left
      ·simp only [Act.put, List.setIfInBounds_toArray, List.set_cons_zero, List.set_cons_succ, i64_w, i32_w]
       rfl
      refine one_ (i := 5) (N := some 11) (fl 18 63) rfl rfl (by kernel_rfl) (by decide) (fun K hK => ?_)
      refine goes_ Tryd.func63 (by kernel_rfl) rfl #[.agg #[.slice A R.1.length c, .slice A1 R.2.1.length c1, .slice A2 R.2.2.length c2], .string f1] (by rfl) rfl rfl (by simp only [List.map_toArray, List.map_cons, List.map_nil]; rfl) ?_
      with_reducible refine (I1.out _ (below_step HB2.out (below_drew1 (Below.refl w2.heap.size w2)))).mono ?_
      rintro e w3 ⟨rfl, hb⟩
      refine ⟨_, rfl, ?_⟩
      have hx3 := Aside0.mk (below_step (below_drew1 (Below.refl w2.heap.size w2)) hb)
      have HB3 := Aside0.mk (below_step HB2.out hx3.out)
      clear hb
      refine hK.out _ _ ⟨pw_cell_below hx3.out c20, pw_cell_below hx3.out c21, pw_cell_below hx3.out c22, pw_cell_below hx3.out b20, pw_cell_below hx3.out b21⟩ (fun hHeld => ?_)
      clear hK K
      refine norm_ (a' := ?_) ?_ ?_
      rotate_left
      ·show Act.put _ (some 11) _ = _
       simp only [Act.put, List.setIfInBounds_toArray, List.set_cons_zero, List.set_cons_succ, i64_w, i32_w]
       rfl
      refine pu_ (i := 6) (N := some 12) (fl 18 127) (by kernel_rfl) ?_
      refine pu_ (i := 7) (N := some 13) (fl 18 255) (by kernel_rfl) ?_
      refine pu_ (i := 8) (N := some 14) (fl 18 511) (by kernel_rfl) ?_
      refine pu_ (i := 9) (N := some 15) (fl 18 1023) (by kernel_rfl) ?_
      refine pu_ (i := 10) (N := some 16) (fl 18 2047) (by kernel_rfl) ?_
      refine pu_ (i := 12) (N := some 18) (fl 18 6143) (by kernel_rfl) ?_
      refine take_ (i := 11) (N := some 17) (v := ?_) (a' := ?_) (fl 18 8191) rfl rfl (by kernel_rfl) (fun _ _ _ h => h) (Or.inl ⟨by rfl, ?_⟩) hHeld ?_ ?_
      rotate_left
      ·rintro w' ⟨s0, s1, s2, s3, s4⟩
       go_simp
       with_reducible rfl
      rotate_left
      ·simp only [Act.put, List.setIfInBounds_toArray, List.set_cons_zero, List.set_cons_succ, i64_w, i32_w]
       rfl
      refine take_ (i := 13) (N := some 19) (v := ?_) (a' := ?_) (fl 18 16383) rfl rfl (by kernel_rfl) (fun _ _ _ h => h) (Or.inl ⟨by rfl, ?_⟩) hHeld ?_ ?_
      rotate_left
      ·rintro w' ⟨s0, s1, s2, s3, s4⟩
       go_simp
       with_reducible rfl
      rotate_left
      ·simp only [Act.put, List.setIfInBounds_toArray, List.set_cons_zero, List.set_cons_succ, i64_w, i32_w]
       rfl
      refine last_ (i := 14) (N := some 20) (fl 18 32767) rfl rfl (by kernel_rfl) (by decide) (fun K hK => ?_)
      refine goes_ Tryd.func59 (by kernel_rfl) rfl #[.slice A1 R.2.1.length c1, .string f0] (by rfl) rfl rfl (by simp only [List.map_toArray, List.map_cons, List.map_nil]; rfl) ?_
      with_reducible refine (I2.out _ HB3.out).mono ?_
      rintro e w4 ⟨rfl, hb⟩
      refine ⟨_, rfl, ?_⟩
      have hx4 := Aside0.mk (below_step hx3.out hb)
      have HB4 := Aside0.mk (below_step HB2.out hx4.out)
      have BK4 := Aside0.mk (blk_below BK2.out hx4.out)
      clear hb
      refine hK.out _ _ ?_
      clear hK K
      refine norm_ (a' := ?_) ?_ ?_
      rotate_left
      ·show Act.put _ (some 20) _ = _
       simp only [Act.put, List.setIfInBounds_toArray, List.set_cons_zero, List.set_cons_succ, i64_w, i32_w]
       rfl
      refine pu_ (i := 15) (N := some 21) (fl 18 65535) (by kernel_rfl) ?_
      refine pu_ (i := 16) (N := some 22) (fl 18 131071) (by kernel_rfl) ?_
      refine pu_ (i := 17) (N := some 5) (fl 18 262143) (by kernel_rfl) ?_
      refine done_ (by kernel_rfl) ?_
      have b40 := (blk_cell BK4.out 0).trans rfl
      have b41 := (blk_cell BK4.out 1).trans rfl
      have b42 := (blk_cell BK4.out 2).trans rfl
      have X4 := Aside0.mk (HX.out.step HB4.out)
      have c40 := X4.out.c0
      have c41 := X4.out.c1
      have c42 := X4.out.c2
      go_upto_region 3 with (fail)
      refine start_ (n := 10) (S := fun w' => w'.cell? ⟨g, 0, none⟩ = some (.slice A R.1.length c) ∧ w'.cell? ⟨g, 1, none⟩ = some (.slice A1 R.2.1.length c1) ∧ w'.cell? ⟨g, 2, none⟩ = some (.slice A2 R.2.2.length c2) ∧ w'.cell? ⟨gb, 1, none⟩ = some (.string f1) ∧ w'.cell? ⟨gb, 2, none⟩ = some (.int .i64 f2)) (ds := [7]) (fl 10 0) (by kernel_rfl) rfl rfl ⟨c40, c41, c42, b41, b42⟩ (fun hHeld => ?_)
      refine pu_ (i := 0) (N := some 24) (fl 10 1) (by kernel_rfl) ?_
      refine pu_ (i := 1) (N := some 25) (fl 10 3) (by kernel_rfl) ?_
      refine pu_ (i := 3) (N := some 27) (fl 10 11) (by kernel_rfl) ?_
      refine pu_ (i := 5) (N := some 29) (fl 10 43) (by kernel_rfl) ?_
      refine take_ (i := 2) (N := some 26) (v := ?_) (a' := ?_) (fl 10 47) rfl rfl (by kernel_rfl) (fun _ _ _ h => h) (Or.inl ⟨by rfl, ?_⟩) hHeld ?_ ?_
      rotate_left
      ·rintro w' ⟨s0, s1, s2, s3, s4⟩
       go_simp
       with_reducible rfl
      rotate_left
      ·simp only [Act.put, List.setIfInBounds_toArray, List.set_cons_zero, List.set_cons_succ, i64_w, i32_w]
       rfl
      refine take_ (i := 4) (N := some 28) (v := ?_) (a' := ?_) (fl 10 63) rfl rfl (by kernel_rfl) (fun _ _ _ h => h) (Or.inl ⟨by rfl, ?_⟩) hHeld ?_ ?_
      rotate_left
      ·rintro w' ⟨s0, s1, s2, s3, s4⟩
       go_simp
       with_reducible rfl
      rotate_left
      ·simp only [Act.put, List.setIfInBounds_toArray, List.set_cons_zero, List.set_cons_succ, i64_w, i32_w]
       rfl
      refine take_ (i := 6) (N := some 30) (v := ?_) (a' := ?_) (fl 10 127) rfl rfl (by kernel_rfl) (fun _ _ _ h => h) (Or.inl ⟨by rfl, ?_⟩) hHeld ?_ ?_
      rotate_left
      ·rintro w' ⟨s0, s1, s2, s3, s4⟩
       go_simp
       with_reducible rfl
      rotate_left
      ·simp only [Act.put, List.setIfInBounds_toArray, List.set_cons_zero, List.set_cons_succ, i64_w, i32_w]
       rfl
      refine last_ (i := 7) (N := some 31) (fl 10 255) rfl rfl (by kernel_rfl) (by decide) (fun K hK => ?_)
      refine goes_ Tryd.func64 (by kernel_rfl) rfl #[.agg #[.slice A R.1.length c, .slice A1 R.2.1.length c1, .slice A2 R.2.2.length c2], .string f1, .int .i64 f2] (by rfl) rfl rfl (by simp only [List.map_toArray, List.map_cons, List.map_nil]; rfl) ?_
      with_reducible refine (I3.out _ (below_step HB4.out (below_drew1 (Below.refl w4.heap.size w4))) H1.out).mono ?_
      rintro e w5 ⟨rfl, hb⟩
      refine ⟨_, rfl, ?_⟩
      have hx5 := Aside0.mk (below_step (below_drew1 (Below.refl w4.heap.size w4)) hb)
      have HB5 := Aside0.mk (below_step HB4.out hx5.out)
      have BK5 := Aside0.mk (blk_below BK4.out hx5.out)
      clear hb
      refine hK.out _ _ ?_
      clear hK K
      refine norm_ (a' := ?_) ?_ ?_
      rotate_left
      ·show Act.put _ (some 31) _ = _
       simp only [Act.put, List.setIfInBounds_toArray, List.set_cons_zero, List.set_cons_succ, i64_w, i32_w]
       rfl
      refine pu_ (i := 8) (N := some 32) (fl 10 511) (by kernel_rfl) ?_
      refine pu_ (i := 9) (N := some 23) (fl 10 1023) (by kernel_rfl) ?_
      refine done_ (by kernel_rfl) ?_
      have b50 := (blk_cell BK5.out 0).trans rfl
      have b51 := (blk_cell BK5.out 1).trans rfl
      have b52 := (blk_cell BK5.out 2).trans rfl
      have X5 := Aside0.mk (HX.out.step HB5.out)
      have c50 := X5.out.c0
      have c51 := X5.out.c1
      have c52 := X5.out.c2
      go_upto_region 5 with (fail)
      refine start_ (n := 8) (S := fun w' => w'.cell? ⟨g, 0, none⟩ = some (.slice A R.1.length c) ∧ w'.cell? ⟨g, 1, none⟩ = some (.slice A1 R.2.1.length c1) ∧ w'.cell? ⟨g, 2, none⟩ = some (.slice A2 R.2.2.length c2) ∧ w'.cell? ⟨gb, 0, none⟩ = some (.string f0)) (ds := [5]) (fl 8 0) (by kernel_rfl) rfl rfl ⟨c50, c51, c52, b50⟩ (fun hHeld => ?_)
      refine pu_ (i := 0) (N := some 34) (fl 8 1) (by kernel_rfl) ?_
      refine pu_ (i := 1) (N := some 35) (fl 8 3) (by kernel_rfl) ?_
      refine pu_ (i := 3) (N := some 37) (fl 8 11) (by kernel_rfl) ?_
      refine take_ (i := 2) (N := some 36) (v := ?_) (a' := ?_) (fl 8 15) rfl rfl (by kernel_rfl) (fun _ _ _ h => h) (Or.inl ⟨by rfl, ?_⟩) hHeld ?_ ?_
      rotate_left
      ·rintro w' ⟨s0, s1, s2, s3⟩
       go_simp
       with_reducible rfl
      rotate_left
      ·simp only [Act.put, List.setIfInBounds_toArray, List.set_cons_zero, List.set_cons_succ, i64_w, i32_w]
       rfl
      refine take_ (i := 4) (N := some 38) (v := ?_) (a' := ?_) (fl 8 31) rfl rfl (by kernel_rfl) (fun _ _ _ h => h) (Or.inl ⟨by rfl, ?_⟩) hHeld ?_ ?_
      rotate_left
      ·rintro w' ⟨s0, s1, s2, s3⟩
       go_simp
       with_reducible rfl
      rotate_left
      ·simp only [Act.put, List.setIfInBounds_toArray, List.set_cons_zero, List.set_cons_succ, i64_w, i32_w]
       rfl
      refine last_ (i := 5) (N := some 39) (fl 8 63) rfl rfl (by kernel_rfl) (by decide) (fun K hK => ?_)
      refine goes_ Tryd.func65 (by kernel_rfl) rfl #[.agg #[.slice A R.1.length c, .slice A1 R.2.1.length c1, .slice A2 R.2.2.length c2], .string f0] (by rfl) rfl rfl (by simp only [List.map_toArray, List.map_cons, List.map_nil]; rfl) ?_
      with_reducible refine (I4.out _ (below_step HB5.out (below_drew1 (Below.refl w5.heap.size w5)))).mono ?_
      rintro e w6 ⟨rfl, hb⟩
      refine ⟨_, rfl, ?_⟩
      have hx5 := Aside0.mk (below_step (below_drew1 (Below.refl w5.heap.size w5)) hb)
      have HB6 := Aside0.mk (below_step HB5.out hx5.out)
      have BK6 := Aside0.mk (blk_below BK5.out hx5.out)
      clear hb
      refine hK.out _ _ ?_
      clear hK K
      refine norm_ (a' := ?_) ?_ ?_
      rotate_left
      ·show Act.put _ (some 39) _ = _
       simp only [Act.put, List.setIfInBounds_toArray, List.set_cons_zero, List.set_cons_succ, i64_w, i32_w]
       rfl
      refine pu_ (i := 6) (N := some 40) (fl 8 127) (by kernel_rfl) ?_
      refine pu_ (i := 7) (N := some 33) (fl 8 255) (by kernel_rfl) ?_
      refine done_ (by kernel_rfl) ?_
      have b60 := (blk_cell BK6.out 0).trans rfl
      have b61 := (blk_cell BK6.out 1).trans rfl
      have b62 := (blk_cell BK6.out 2).trans rfl
      have X6 := Aside0.mk (HX.out.step HB6.out)
      have c60 := X6.out.c0
      have c61 := X6.out.c1
      have c62 := X6.out.c2
      go_upto_region 7 with (fail)
      refine start_ (n := 10) (S := fun w' => w'.cell? ⟨g, 0, none⟩ = some (.slice A R.1.length c) ∧ w'.cell? ⟨g, 1, none⟩ = some (.slice A1 R.2.1.length c1) ∧ w'.cell? ⟨g, 2, none⟩ = some (.slice A2 R.2.2.length c2) ∧ w'.cell? ⟨gb, 1, none⟩ = some (.string f1) ∧ w'.cell? ⟨gb, 2, none⟩ = some (.int .i64 f2)) (ds := [7]) (fl 10 0) (by kernel_rfl) rfl rfl ⟨c60, c61, c62, b61, b62⟩ (fun hHeld => ?_)
      refine pu_ (i := 0) (N := some 42) (fl 10 1) (by kernel_rfl) ?_
      refine pu_ (i := 1) (N := some 43) (fl 10 3) (by kernel_rfl) ?_
      refine pu_ (i := 3) (N := some 45) (fl 10 11) (by kernel_rfl) ?_
      refine pu_ (i := 5) (N := some 47) (fl 10 43) (by kernel_rfl) ?_
      refine take_ (i := 2) (N := some 44) (v := ?_) (a' := ?_) (fl 10 47) rfl rfl (by kernel_rfl) (fun _ _ _ h => h) (Or.inl ⟨by rfl, ?_⟩) hHeld ?_ ?_
      rotate_left
      ·rintro w' ⟨s0, s1, s2, s3, s4⟩
       go_simp
       with_reducible rfl
      rotate_left
      ·simp only [Act.put, List.setIfInBounds_toArray, List.set_cons_zero, List.set_cons_succ, i64_w, i32_w]
       rfl
      refine take_ (i := 4) (N := some 46) (v := ?_) (a' := ?_) (fl 10 63) rfl rfl (by kernel_rfl) (fun _ _ _ h => h) (Or.inl ⟨by rfl, ?_⟩) hHeld ?_ ?_
      rotate_left
      ·rintro w' ⟨s0, s1, s2, s3, s4⟩
       go_simp
       with_reducible rfl
      rotate_left
      ·simp only [Act.put, List.setIfInBounds_toArray, List.set_cons_zero, List.set_cons_succ, i64_w, i32_w]
       rfl
      refine take_ (i := 6) (N := some 48) (v := ?_) (a' := ?_) (fl 10 127) rfl rfl (by kernel_rfl) (fun _ _ _ h => h) (Or.inl ⟨by rfl, ?_⟩) hHeld ?_ ?_
      rotate_left
      ·rintro w' ⟨s0, s1, s2, s3, s4⟩
       go_simp
       with_reducible rfl
      rotate_left
      ·simp only [Act.put, List.setIfInBounds_toArray, List.set_cons_zero, List.set_cons_succ, i64_w, i32_w]
       rfl
      refine last_ (i := 7) (N := some 49) (fl 10 255) rfl rfl (by kernel_rfl) (by decide) (fun K hK => ?_)
      refine goes_ Tryd.func66 (by kernel_rfl) rfl #[.agg #[.slice A R.1.length c, .slice A1 R.2.1.length c1, .slice A2 R.2.2.length c2], .string f1, .int .i64 f2] (by rfl) rfl rfl (by simp only [List.map_toArray, List.map_cons, List.map_nil]; rfl) ?_
      with_reducible refine (I5.out _ (below_step HB6.out (below_drew1 (Below.refl w6.heap.size w6)))).mono ?_
      rintro e w7 ⟨rfl, hb⟩
      refine ⟨_, rfl, ?_⟩
      have hx5 := Aside0.mk (below_step (below_drew1 (Below.refl w6.heap.size w6)) hb)
      have HB7 := Aside0.mk (below_step HB6.out hx5.out)
      have BK7 := Aside0.mk (blk_below BK6.out hx5.out)
      clear hb
      refine hK.out _ _ ?_
      clear hK K
      refine norm_ (a' := ?_) ?_ ?_
      rotate_left
      ·show Act.put _ (some 49) _ = _
       simp only [Act.put, List.setIfInBounds_toArray, List.set_cons_zero, List.set_cons_succ, i64_w, i32_w]
       rfl
      refine pu_ (i := 8) (N := some 50) (fl 10 511) (by kernel_rfl) ?_
      refine pu_ (i := 9) (N := some 41) (fl 10 1023) (by kernel_rfl) ?_
      refine done_ (by kernel_rfl) ?_
      have b70 := (blk_cell BK7.out 0).trans rfl
      have b71 := (blk_cell BK7.out 1).trans rfl
      have b72 := (blk_cell BK7.out 2).trans rfl
      have X7 := Aside0.mk (HX.out.step HB7.out)
      have c70 := X7.out.c0
      have c71 := X7.out.c1
      have c72 := X7.out.c2
      go_upto_region 9 with (fail)
      have hne : some gb ≠ (Value.slice A2 R.2.2.length c2).ownBlock := fun e => by have := Kd.R_lt HX.out.r2 gb e.symm; have := GB.out; omega
      refine start_ (n := 11) (S := fun w' => w'.cell? ⟨g, 2, none⟩ = some (.slice A2 R.2.2.length c2) ∧ w'.cell? ⟨gb, 0, none⟩ = some (.string f0) ∧ w'.cell? ⟨gb, 1, none⟩ = some (.string f1) ∧ w'.cell? ⟨gb, 2, none⟩ = some (.int .i64 f2)) (ds := [10]) (fl 11 0) (by kernel_rfl) rfl rfl ⟨c72, b70, b71, b72⟩ (fun hHeld => ?_)
      refine pu_ (i := 0) (N := some 51) (fl 11 1) (by kernel_rfl) ?_
      refine pu_ (i := 1) (N := some 52) (fl 11 3) (by kernel_rfl) ?_
      refine pu_ (i := 2) (N := some 53) (fl 11 7) (by kernel_rfl) ?_
      refine pu_ (i := 3) (N := some 54) (fl 11 15) (by kernel_rfl) ?_
      refine take_ (i := 4) (N := some 55) (v := ?_) (a' := ?_) (fl 11 31) rfl rfl (by kernel_rfl) (fun _ _ _ h => h) (Or.inl ⟨by rfl, ?_⟩) hHeld ?_ ?_
      rotate_left
      ·rintro w' ⟨s0, s1, s2, s3⟩
       go_simp
       with_reducible rfl
      rotate_left
      ·simp only [Act.put, List.setIfInBounds_toArray, List.set_cons_zero, List.set_cons_succ, i64_w, i32_w]
       rfl
      refine take_ (i := 5) (N := some 56) (v := ?_) (a' := ?_) (fl 11 63) rfl rfl (by kernel_rfl) (fun _ _ _ h => h) (Or.inl ⟨by rfl, ?_⟩) hHeld ?_ ?_
      rotate_left
      ·rintro w' ⟨s0, s1, s2, s3⟩
       go_simp
       with_reducible rfl
      rotate_left
      ·simp only [Act.put, List.setIfInBounds_toArray, List.set_cons_zero, List.set_cons_succ, i64_w, i32_w]
       rfl
      refine one_ (i := 6) (N := some 57) (fl 11 127) rfl rfl (by kernel_rfl) (by decide) (fun K hK => ?_)
      refine value_ (w1 := ?_) (v := ?_) (by rfl) rfl ?_ ?_
      rotate_left 2
      ·go_simp
       constructor
       ·rfl
       ·rfl
      refine hK.out _ _ ⟨pw_cell_below (below_alloc (Below.refl _ _) _) hHeld.1, pw_cell_below (below_alloc (Below.refl _ _) _) hHeld.2.1, pw_cell_below (below_alloc (Below.refl _ _) _) hHeld.2.2.1, pw_cell_below (below_alloc (Below.refl _ _) _) hHeld.2.2.2⟩ (fun hHeld => ?_)
      clear hK K
      refine norm_ (a' := ?_) ?_ ?_
      rotate_left
      ·show Act.put _ (some 57) _ = _
       simp only [Act.put, List.setIfInBounds_toArray, List.set_cons_zero, List.set_cons_succ, i64_w, i32_w]
       rfl
      refine one_ (i := 7) (N := some 58) (fl 11 255) rfl rfl (by kernel_rfl) (by decide) (fun K hK => ?_)
      rw [show ((w7.alloc (.cells #[.string f0, .string f1, .int .i64 f2] 71)).drew : World) = w7.drew.alloc (.cells #[.string f0, .string f1, .int .i64 f2] 71) from rfl]
      refine Kd.R_append_step k71 (w0 := w0) w0.heap.size (by rfl) (.tmp 55) (.tmp 57) 24 71 (.agg #[.string ⟨#[]⟩, .string ⟨#[]⟩, .int .i64 0]) 40 (by rfl) Tryd.underlying24 info71 rfl (by decide) (by omega) (.slice A2 R.2.2.length c2) R.2.2 ⟨f0, f1, f2⟩ [.string f0, .string f1, .int .i64 f2] (fun _ => True) (fun _ => False) (by rfl) (by rfl) ?bP (fun _ hk => hk.elim) (fun _ _ => trivial) (Kd.R_drew X7.out.r2) (below_drew1 X7.out.low) X7.out.low.size (by have := LM.out; omega) ?_
      case bP => exact k71_mkM _ _ _ (⟨f0, f1, f2⟩ : S71)
      intro v9 w9 ho hb hg hat
      obtain ⟨A7, c7, e7⟩ := Kd.R_slice ho
      subst e7
      have eL : (R.2.2 ++ [(⟨f0, f1, f2⟩ : S71)]).length = R.2.2.length + 1 := (by simp)
      rw [eL] at ho hat
      have hrg := blk_grown (blk_drew X7.out.blk) hg (Kd.R_ne X7.out.r2 X7.out.blk (by decide))
      have cc := (blk_cell hrg 2).trans rfl
      have ff := blk_frozen hrg 2
      have hbx := blk_grown (blk_drew BK7.out) hg hne
      have hR7 := Aside0.mk (HX.out.app2 (below_drew1 HB7.out) ho hg hb hat)
      refine hK.out _ _ ⟨cc, (blk_cell hbx 0).trans rfl, (blk_cell hbx 1).trans rfl, (blk_cell hbx 2).trans rfl⟩ (fun hHeld => ?_)
      clear hK K
      refine norm_ (a' := ?_) ?_ ?_
      rotate_left
      ·show Act.put _ (some 58) _ = _
       simp only [Act.put, List.setIfInBounds_toArray, List.set_cons_zero, List.set_cons_succ, i64_w, i32_w]
       rfl
      refine pu_ (i := 8) (N := some 59) (fl 11 511) (by kernel_rfl) ?_
      refine pu_ (i := 9) (N := some 60) (fl 11 1023) (by kernel_rfl) ?_
      refine last_ (i := 10) (N := none) (fl 11 2047) rfl rfl (by kernel_rfl) (by decide) (fun K hK => ?_)
      refine skip_ (w1 := ?_) (by rfl) rfl ?_ ?_
      rotate_left
      ·go_simp
       rfl
      refine hK.out _ _ ?_
      clear hK K
      refine done_ (by kernel_rfl) ?_
      go_wp2
      go_ret
      try simp only [if_true, if_false, Bool.false_eq_true]
      exact ⟨rfl, hR7.out⟩
 ·have h1' := eq_false h1
  have h1n := eq_true (by omega : ix < 0)
  rw [if_neg h1]
  go_enter Tryd.func44, Tryd.ntmps44
  go_upto_region 1 with (first | ((with_reducible refine gate_dst (N := 3) rfl ?_); refine be_ 3 #[.string f0, .string f1, .int .i64 f2] 71 ?_; intro gb hgb w2 hbox hb; have BK2 := Aside0.mk hbox; have HB2 := Aside0.mk hb; have GB := Aside0.mk (Nat.le_of_eq hgb.symm); clear hbox hb hgb; have b20 := (blk_cell BK2.out 0).trans rfl; have b21 := (blk_cell BK2.out 1).trans rfl; have b22 := (blk_cell BK2.out 2).trans rfl; have X2 := Aside0.mk (HX.out.step HB2.out); have c20 := X2.out.c0; have c21 := X2.out.c1; have c22 := X2.out.c2) | fail)
  refine start_ (n := 18) (S := fun w' => w'.cell? ⟨g, 0, none⟩ = some (.slice A R.1.length c) ∧ w'.cell? ⟨g, 1, none⟩ = some (.slice A1 R.2.1.length c1) ∧ w'.cell? ⟨g, 2, none⟩ = some (.slice A2 R.2.2.length c2) ∧ w'.cell? ⟨gb, 0, none⟩ = some (.string f0) ∧ w'.cell? ⟨gb, 1, none⟩ = some (.string f1)) (ds := [5]) (fl 18 0) (by kernel_rfl) rfl rfl ⟨c20, c21, c22, b20, b21⟩ (fun hHeld => ?_)
  refine pu_ (i := 0) (N := some 6) (fl 18 1) (by kernel_rfl) ?_
  refine pu_ (i := 1) (N := some 7) (fl 18 3) (by kernel_rfl) ?_
  refine pu_ (i := 3) (N := some 9) (fl 18 11) (by kernel_rfl) ?_
  refine take_ (i := 2) (N := some 8) (v := ?_) (a' := ?_) (fl 18 15) rfl rfl (by kernel_rfl) (fun _ _ _ h => h) (Or.inl ⟨by rfl, ?_⟩) hHeld ?_ ?_
  rotate_left
  ·rintro w' ⟨s0, s1, s2, s3, s4⟩
   go_simp
   with_reducible rfl
  rotate_left
  ·simp only [Act.put, List.setIfInBounds_toArray, List.set_cons_zero, List.set_cons_succ, i64_w, i32_w]
   rfl
  refine take_ (i := 4) (N := some 10) (v := ?_) (a' := ?_) (fl 18 31) rfl rfl (by kernel_rfl) (fun _ _ _ h => h) (Or.inl ⟨by rfl, ?_⟩) hHeld ?_ ?_
  rotate_left
  ·rintro w' ⟨s0, s1, s2, s3, s4⟩
   go_simp
   with_reducible rfl
  rotate_left
  ·simp only [Act.put, List.setIfInBounds_toArray, List.set_cons_zero, List.set_cons_succ, i64_w, i32_w]
   rfl
  refine last_ (i := 5) (N := some 11) (fl 18 63) rfl rfl (by kernel_rfl) (by decide) (fun K hK => ?_)
  refine goes_ Tryd.func63 (by kernel_rfl) rfl #[.agg #[.slice A R.1.length c, .slice A1 R.2.1.length c1, .slice A2 R.2.2.length c2], .string f1] (by rfl) rfl rfl (by simp only [List.map_toArray, List.map_cons, List.map_nil]; rfl) ?_
  with_reducible refine (I1.out _ (below_step HB2.out (below_drew1 (Below.refl w2.heap.size w2)))).mono ?_
  rintro e w3 ⟨rfl, hb⟩
  refine ⟨_, rfl, ?_⟩
  have hx3 := Aside0.mk (below_step (below_drew1 (Below.refl w2.heap.size w2)) hb)
  have HB3 := Aside0.mk (below_step HB2.out hx3.out)
  clear hb
  refine hK.out _ _ ?_
  clear hK K
  refine norm_ (a' := ?_) ?_ ?_
  rotate_left
  ·show Act.put _ (some 11) _ = _
   simp only [Act.put, List.setIfInBounds_toArray, List.set_cons_zero, List.set_cons_succ, i64_w, i32_w]
   rfl
  refine pu_ (i := 6) (N := some 12) (fl 18 127) (by kernel_rfl) ?_
  refine pu_ (i := 7) (N := some 13) (fl 18 255) (by kernel_rfl) ?_
  refine pure_ (i := 8) (N := some 14) (v := undef) (a' := ?_) (fl 18 511) rfl rfl (by kernel_rfl) (fun _ _ _ h => h) (Or.inr ⟨by rfl, rfl⟩) ?_ ?_
  rotate_left
  ·simp only [Act.put, List.setIfInBounds_toArray, List.set_cons_zero, List.set_cons_succ, i64_w, i32_w]
   rfl
  refine pure_ (i := 9) (N := some 15) (v := undef) (a' := ?_) (fl 18 1023) rfl rfl (by kernel_rfl) (fun _ _ _ h => h) (Or.inr ⟨by rfl, rfl⟩) ?_ ?_
  rotate_left
  ·simp only [Act.put, List.setIfInBounds_toArray, List.set_cons_zero, List.set_cons_succ, i64_w, i32_w]
   rfl
  refine pure_ (i := 10) (N := some 16) (v := undef) (a' := ?_) (fl 18 2047) rfl rfl (by kernel_rfl) (fun _ _ _ h => h) (Or.inr ⟨by rfl, rfl⟩) ?_ ?_
  rotate_left
  ·simp only [Act.put, List.setIfInBounds_toArray, List.set_cons_zero, List.set_cons_succ, i64_w, i32_w]
   rfl
  refine pure_ (i := 11) (N := some 17) (v := undef) (a' := ?_) (fl 18 4095) rfl rfl (by kernel_rfl) (fun _ _ _ h => h) (Or.inr ⟨by rfl, rfl⟩) ?_ ?_
  rotate_left
  ·simp only [Act.put, List.setIfInBounds_toArray, List.set_cons_zero, List.set_cons_succ, i64_w, i32_w]
   rfl
  refine pure_ (i := 12) (N := some 18) (v := undef) (a' := ?_) (fl 18 8191) rfl rfl (by kernel_rfl) (fun _ _ _ h => h) (Or.inr ⟨by rfl, rfl⟩) ?_ ?_
  rotate_left
  ·simp only [Act.put, List.setIfInBounds_toArray, List.set_cons_zero, List.set_cons_succ, i64_w, i32_w]
   rfl
  refine pure_ (i := 13) (N := some 19) (v := undef) (a' := ?_) (fl 18 16383) rfl rfl (by kernel_rfl) (fun _ _ _ h => h) (Or.inr ⟨by rfl, rfl⟩) ?_ ?_
  rotate_left
  ·simp only [Act.put, List.setIfInBounds_toArray, List.set_cons_zero, List.set_cons_succ, i64_w, i32_w]
   rfl
  refine pure_ (i := 14) (N := some 20) (v := undef) (a' := ?_) (fl 18 32767) rfl rfl (by kernel_rfl) (fun _ _ _ h => h) (Or.inr ⟨by rfl, rfl⟩) ?_ ?_
  rotate_left
  ·simp only [Act.put, List.setIfInBounds_toArray, List.set_cons_zero, List.set_cons_succ, i64_w, i32_w]
   rfl
  refine pure_ (i := 15) (N := some 21) (v := undef) (a' := ?_) (fl 18 65535) rfl rfl (by kernel_rfl) (fun _ _ _ h => h) (Or.inr ⟨by rfl, rfl⟩) ?_ ?_
  rotate_left
  ·simp only [Act.put, List.setIfInBounds_toArray, List.set_cons_zero, List.set_cons_succ, i64_w, i32_w]
   rfl
  refine pu_ (i := 16) (N := some 22) (fl 18 131071) (by kernel_rfl) ?_
  refine pu_ (i := 17) (N := some 5) (fl 18 262143) (by kernel_rfl) ?_
  refine done_ (by kernel_rfl) ?_
  go_wp2
  go_ret
  try simp only [if_true, if_false, Bool.false_eq_true]
  exact ⟨rfl, HX.out.same HB3.out⟩
set_option maxHeartbeats 8000000 in
set_option maxRecDepth 100000 in
theorem addRow_calls (g gw cw : Nat) (v0 v1 v2 : Value) (R : RT) (ws : List ByteArray) (w0 w : World) (hX : Rg w0 w g v0 v1 v2 R) (hlen : R.2.2.length ≤ 1000000) (hcap : R.1.length ≤ 10 ∧ R.2.1.length ≤ 60) (hw : Kd.C Kd.string w (some ⟨gw, 0, none⟩) ws.length ws) (hn0 : 0 < ws.length) (hcw : ws.length ≤ cw) (hsz : ∀ x ∈ ws, x.size ≤ 140737488351232) (hT : Tb2 w) :
  Calls Tryd.prog 23 #[.pointer (some ⟨g, 0, none⟩), .slice (some ⟨gw, 0, none⟩) ws.length cw] w fun e w' => e = .returned (.int .i64 (addRowP R ws).1) ∧ RgTo w0 w w' g v0 v1 v2 (addRowP R ws).2 := by
 have hmw := Kd.C_max hw
 have HX := Aside0.mk hX
 have HL := Aside0.mk hlen
 have HZ := Aside0.mk hsz
 have HW := Aside0.mk hw
 have HCP := Aside0.mk hcap
 have HTB := Aside0.mk hT
 clear hX hlen hsz hw hcap hT
 have q0 : (0 : Int) < (ws.length : Int) := by omega
 unfold addRowP
 obtain ⟨t0, ht0⟩ : ∃ t0, wd ws 0 = t0 := ⟨_, rfl⟩
 have hz0 := HZ.out (wd ws 0) (wd_mem (i := 0) (by omega))
 rw [ht0] at hz0
 try rw [ht0]
 have T0 := Aside0.mk ht0
 have Z0 := Aside0.mk hz0
 clear ht0 hz0
 obtain ⟨aw, eaw, cw0⟩ := Kd.at_string HW.out 0 (by omega) (by omega)
 cases eaw
 rw [show rdOf ByteArray.empty ws 0 = t0 from T0.out] at cw0
 simp only [Int.reduceToNat, Int.toNat_zero] at cw0
 rw [add_plain] at cw0
 unfold isLineW isRailW isBelayW
 generalize el : (t0.toList == [108, 105, 110, 101]) = bl
 generalize er : (t0.toList == [114, 97, 105, 108]) = br
 generalize eb : (t0.toList == [98, 101, 108, 97, 121]) = bb
 have nl : (t0.toList != [108, 105, 110, 101]) = !bl := by rw [← el]; rfl
 have nr : (t0.toList != [114, 97, 105, 108]) = !br := by rw [← er]; rfl
 have nb : (t0.toList != [98, 101, 108, 97, 121]) = !bb := by rw [← eb]; rfl
 cases bl with
 | true =>
  have e9 : t0.toList = [108, 105, 110, 101] := by simpa using el
  have er' : br = false := by rw [← er, e9]; rfl
  have eb' : bb = false := by rw [← eb, e9]; rfl
  subst er'
  subst eb'
  clear e9
  simp only [Bool.not_true, Bool.not_false] at nl nr nb
  rw [if_pos rfl]
  by_cases h2 : (ws.length : Int) = 2
  ·rw [if_pos h2]
   obtain ⟨t1, ht1⟩ : ∃ t1, wd ws 1 = t1 := ⟨_, rfl⟩
   have hz1 := HZ.out (wd ws 1) (wd_mem (i := 1) (by omega))
   rw [ht1] at hz1
   try rw [ht1]
   have T1 := Aside0.mk ht1
   have Z1 := Aside0.mk hz1
   clear ht1 hz1
   obtain ⟨aw, eaw, cw1⟩ := Kd.at_string HW.out 1 (by omega) (by omega)
   cases eaw
   rw [show rdOf ByteArray.empty ws 1 = t1 from T1.out] at cw1
   simp only [Int.reduceToNat, Int.toNat_zero] at cw1
   rw [add_plain] at cw1
   have A1 := Aside0.mk (addLine_calls g v0 v1 v2 R t1 w0 w HX.out HCP.out.2)
   have q2 : ((ws.length : Int) != 2) = false := by simpa using h2
   have q2e : ((ws.length : Int) == 2) = true := by simpa using h2
   have q1 : (1 : Int) < (ws.length : Int) := by omega
   clear h2
   go_enter Tryd.func23, Tryd.ntmps23
   go_wp2_with (first | (go_at_call 41; (with_reducible refine A1.out.mono ?_); rintro e w5 ⟨rfl, hT⟩; have HT := Aside0.mk hT; clear hT) | fail)
   go_ret
   try simp only [if_true, if_false, Bool.false_eq_true]
   exact ⟨rfl, HT.out⟩
  ·rw [if_neg h2]
   have q2 : ((ws.length : Int) != 2) = true := by simpa using h2
   clear h2
   go_enter Tryd.func23, Tryd.ntmps23
   go_wp2
   go_ret
   try simp only [if_true, if_false, Bool.false_eq_true]
   exact ⟨rfl, HX.out.same (Below.refl _ _)⟩
 | false =>
  rw [if_neg (by simp)]
  cases br with
  | true =>
   simp only [Bool.not_true, Bool.not_false] at nl nr
   rw [if_pos (by simp)]
   by_cases h4 : (ws.length : Int) = 4
   ·rw [if_pos h4]
    obtain ⟨t1, ht1⟩ : ∃ t1, wd ws 1 = t1 := ⟨_, rfl⟩
    have hz1 := HZ.out (wd ws 1) (wd_mem (i := 1) (by omega))
    rw [ht1] at hz1
    try rw [ht1]
    have T1 := Aside0.mk ht1
    have Z1 := Aside0.mk hz1
    clear ht1 hz1
    obtain ⟨t2, ht2⟩ : ∃ t2, wd ws 2 = t2 := ⟨_, rfl⟩
    have hz2 := HZ.out (wd ws 2) (wd_mem (i := 2) (by omega))
    rw [ht2] at hz2
    try rw [ht2]
    have T2 := Aside0.mk ht2
    have Z2 := Aside0.mk hz2
    clear ht2 hz2
    obtain ⟨t3, ht3⟩ : ∃ t3, wd ws 3 = t3 := ⟨_, rfl⟩
    have hz3 := HZ.out (wd ws 3) (wd_mem (i := 3) (by omega))
    rw [ht3] at hz3
    try rw [ht3]
    have T3 := Aside0.mk ht3
    have Z3 := Aside0.mk hz3
    clear ht3 hz3
    obtain ⟨aw, eaw, cw1⟩ := Kd.at_string HW.out 1 (by omega) (by omega)
    cases eaw
    rw [show rdOf ByteArray.empty ws 1 = t1 from T1.out] at cw1
    simp only [Int.reduceToNat, Int.toNat_zero] at cw1
    rw [add_plain] at cw1
    obtain ⟨aw, eaw, cw2⟩ := Kd.at_string HW.out 2 (by omega) (by omega)
    cases eaw
    rw [show rdOf ByteArray.empty ws 2 = t2 from T2.out] at cw2
    simp only [Int.reduceToNat, Int.toNat_zero] at cw2
    rw [add_plain] at cw2
    obtain ⟨aw, eaw, cw3⟩ := Kd.at_string HW.out 3 (by omega) (by omega)
    cases eaw
    rw [show rdOf ByteArray.empty ws 3 = t3 from T3.out] at cw3
    simp only [Int.reduceToNat, Int.toNat_zero] at cw3
    rw [add_plain] at cw3
    have q4 : ((ws.length : Int) != 4) = false := by simpa using h4
    have q1 : (1 : Int) < (ws.length : Int) := by omega
    have q2 : (2 : Int) < (ws.length : Int) := by omega
    have q3 : (3 : Int) < (ws.length : Int) := by omega
    clear h4
    obtain ⟨K2, hK2⟩ := Ev.pick (num_impl t3 Z3.out)
    have N1 := Aside0.mk (fun W hT => impl_ReadDecimal.calls K2 t3 (numV t3).1 (numV t3).2 W (hK2 K2 (Nat.le_refl _)) hT)
    clear hK2
    generalize (numV t3).1 = n at N1 ⊢
    generalize (numV t3).2 = ok at N1 ⊢
    cases ok with
    | false =>
     go_enter Tryd.func23, Tryd.ntmps23
     go_wp2_with (first | (go_at_call 42; (with_reducible refine (N1.out _ HTB.out).mono ?_); rintro e w5 ⟨rfl, hb⟩; have HB5 := Aside0.mk hb; have cw01 := pw_cell_below hb cw0; have cw11 := pw_cell_below hb cw1; have cw21 := pw_cell_below hb cw2; clear hb) | fail)
     go_ret
     try simp only [if_true, if_false, Bool.false_eq_true]
     exact ⟨rfl, HX.out.same HB5.out⟩
    | true =>
     have A2 : Aside0 (∀ W, Below w.heap.size w W → Calls Tryd.prog 43 #[.pointer (some ⟨g, 0, none⟩), .agg #[.string t1, .string t2, .int .i64 n]] W fun e w' => e = .returned (.int .i64 (addRailP R ⟨t1, t2, n⟩).1) ∧ RgTo w0 W w' g v0 v1 v2 (addRailP R ⟨t1, t2, n⟩).2) := ⟨fun W hb => addRail_calls g v0 v1 v2 R ⟨t1, t2, n⟩ w0 W (HX.out.step hb) HCP.out.1⟩
     go_enter Tryd.func23, Tryd.ntmps23
     go_upto_region 11 with (first | (go_at_call 42; (with_reducible refine (N1.out _ HTB.out).mono ?_); rintro e w5 ⟨rfl, hb⟩; have HB5 := Aside0.mk hb; have cw01 := pw_cell_below hb cw0; have cw11 := pw_cell_below hb cw1; have cw21 := pw_cell_below hb cw2; clear hb) | fail)
     refine start_ (n := 11) (S := fun w' => w'.cell? ⟨gw, 1, none⟩ = some (.string t1) ∧ w'.cell? ⟨gw, 2, none⟩ = some (.string t2)) (ds := [9]) (fl 11 0) (by kernel_rfl) rfl rfl ⟨cw11, cw21⟩ (fun hHeld => ?_)
     refine pu_ (i := 0) (N := some 70) (fl 11 1) (by kernel_rfl) ?_
     refine pu_ (i := 1) (N := some 71) (fl 11 3) (by kernel_rfl) ?_
     refine pu_ (i := 2) (N := some 72) (fl 11 7) (by kernel_rfl) ?_
     refine pu_ (i := 4) (N := some 74) (fl 11 23) (by kernel_rfl) ?_
     refine pu_ (i := 5) (N := some 75) (fl 11 55) (by kernel_rfl) ?_
     refine pu_ (i := 7) (N := some 77) (fl 11 183) (by kernel_rfl) ?_
     refine take_ (i := 3) (N := some 73) (v := ?_) (a' := ?_) (fl 11 191) rfl rfl (by kernel_rfl) (fun _ _ _ h => h) (Or.inl ⟨by rfl, ?_⟩) hHeld ?_ ?_
     rotate_left
     ·rintro w' ⟨s0, s1⟩
      go_simp
      with_reducible rfl
     rotate_left
     ·simp only [Act.put, List.setIfInBounds_toArray, List.set_cons_zero, List.set_cons_succ, i64_w, i32_w]
      rfl
     refine take_ (i := 6) (N := some 76) (v := ?_) (a' := ?_) (fl 11 255) rfl rfl (by kernel_rfl) (fun _ _ _ h => h) (Or.inl ⟨by rfl, ?_⟩) hHeld ?_ ?_
     rotate_left
     ·rintro w' ⟨s0, s1⟩
      go_simp
      with_reducible rfl
     rotate_left
     ·simp only [Act.put, List.setIfInBounds_toArray, List.set_cons_zero, List.set_cons_succ, i64_w, i32_w]
      rfl
     refine pu_ (i := 8) (N := some 78) (fl 11 511) (by kernel_rfl) ?_
     refine last_ (i := 9) (N := some 79) (fl 11 1023) rfl rfl (by kernel_rfl) (by decide) (fun K hK => ?_)
     refine goes_ Tryd.func43 (by kernel_rfl) rfl #[.pointer (some ⟨g, 0, none⟩), .agg #[.string t1, .string t2, .int .i64 n]] (by rfl) rfl rfl (by simp only [List.map_toArray, List.map_cons, List.map_nil]; rfl) ?_
     with_reducible refine (A2.out _ (below_drew1 HB5.out)).mono ?_
     rintro e w6 ⟨rfl, hT⟩
     refine ⟨_, rfl, ?_⟩
     have HT := Aside0.mk (RgTo.from (below_drew1 HB5.out) hT)
     refine hK.out _ _ ?_
     clear hK K
     refine norm_ (a' := ?_) ?_ ?_
     rotate_left
     ·show Act.put _ (some 79) _ = _
      simp only [Act.put, List.setIfInBounds_toArray, List.set_cons_zero, List.set_cons_succ, i64_w, i32_w]
      rfl
     refine pu_ (i := 10) (N := some 4) (fl 11 2047) (by kernel_rfl) ?_
     refine done_ (by kernel_rfl) ?_
     go_wp2
     go_ret
     try simp only [if_true, if_false, Bool.false_eq_true]
     exact ⟨rfl, HT.out⟩
   ·rw [if_neg h4]
    have q4 : ((ws.length : Int) != 4) = true := by simpa using h4
    clear h4
    go_enter Tryd.func23, Tryd.ntmps23
    go_wp2
    go_ret
    try simp only [if_true, if_false, Bool.false_eq_true]
    exact ⟨rfl, HX.out.same (Below.refl _ _)⟩
  | false =>
   cases bb with
   | true =>
    simp only [Bool.not_true, Bool.not_false] at nl nr nb
    rw [if_pos (by simp)]
    by_cases h4 : (ws.length : Int) = 4
    ·rw [if_pos h4]
     obtain ⟨t1, ht1⟩ : ∃ t1, wd ws 1 = t1 := ⟨_, rfl⟩
     have hz1 := HZ.out (wd ws 1) (wd_mem (i := 1) (by omega))
     rw [ht1] at hz1
     try rw [ht1]
     have T1 := Aside0.mk ht1
     have Z1 := Aside0.mk hz1
     clear ht1 hz1
     obtain ⟨t2, ht2⟩ : ∃ t2, wd ws 2 = t2 := ⟨_, rfl⟩
     have hz2 := HZ.out (wd ws 2) (wd_mem (i := 2) (by omega))
     rw [ht2] at hz2
     try rw [ht2]
     have T2 := Aside0.mk ht2
     have Z2 := Aside0.mk hz2
     clear ht2 hz2
     obtain ⟨t3, ht3⟩ : ∃ t3, wd ws 3 = t3 := ⟨_, rfl⟩
     have hz3 := HZ.out (wd ws 3) (wd_mem (i := 3) (by omega))
     rw [ht3] at hz3
     try rw [ht3]
     have T3 := Aside0.mk ht3
     have Z3 := Aside0.mk hz3
     clear ht3 hz3
     obtain ⟨aw, eaw, cw1⟩ := Kd.at_string HW.out 1 (by omega) (by omega)
     cases eaw
     rw [show rdOf ByteArray.empty ws 1 = t1 from T1.out] at cw1
     simp only [Int.reduceToNat, Int.toNat_zero] at cw1
     rw [add_plain] at cw1
     obtain ⟨aw, eaw, cw2⟩ := Kd.at_string HW.out 2 (by omega) (by omega)
     cases eaw
     rw [show rdOf ByteArray.empty ws 2 = t2 from T2.out] at cw2
     simp only [Int.reduceToNat, Int.toNat_zero] at cw2
     rw [add_plain] at cw2
     obtain ⟨aw, eaw, cw3⟩ := Kd.at_string HW.out 3 (by omega) (by omega)
     cases eaw
     rw [show rdOf ByteArray.empty ws 3 = t3 from T3.out] at cw3
     simp only [Int.reduceToNat, Int.toNat_zero] at cw3
     rw [add_plain] at cw3
     have q4 : ((ws.length : Int) != 4) = false := by simpa using h4
     have q1 : (1 : Int) < (ws.length : Int) := by omega
     have q2 : (2 : Int) < (ws.length : Int) := by omega
     have q3 : (3 : Int) < (ws.length : Int) := by omega
     clear h4
     obtain ⟨K2, hK2⟩ := Ev.pick (num_impl t3 Z3.out)
     have N1 := Aside0.mk (fun W hT => impl_ReadDecimal.calls K2 t3 (numV t3).1 (numV t3).2 W (hK2 K2 (Nat.le_refl _)) hT)
     clear hK2
     generalize (numV t3).1 = n at N1 ⊢
     generalize (numV t3).2 = ok at N1 ⊢
     cases ok with
     | false =>
      go_enter Tryd.func23, Tryd.ntmps23
      go_wp2_with (first | (go_at_call 42; (with_reducible refine (N1.out _ HTB.out).mono ?_); rintro e w5 ⟨rfl, hb⟩; have HB5 := Aside0.mk hb; have cw01 := pw_cell_below hb cw0; have cw11 := pw_cell_below hb cw1; have cw21 := pw_cell_below hb cw2; clear hb) | fail)
      go_ret
      try simp only [if_true, if_false, Bool.false_eq_true]
      exact ⟨rfl, HX.out.same HB5.out⟩
     | true =>
      have A2 : Aside0 (∀ W, Below w.heap.size w W → Calls Tryd.prog 44 #[.pointer (some ⟨g, 0, none⟩), .agg #[.string t1, .string t2, .int .i64 n]] W fun e w' => e = .returned (.int .i64 (addBelayP R ⟨t1, t2, n⟩).1) ∧ RgTo w0 W w' g v0 v1 v2 (addBelayP R ⟨t1, t2, n⟩).2) := ⟨fun W hb => addBelay_calls g v0 v1 v2 R ⟨t1, t2, n⟩ w0 W (HX.out.step hb) HL.out⟩
      go_enter Tryd.func23, Tryd.ntmps23
      go_upto_region 12 with (first | (go_at_call 42; (with_reducible refine (N1.out _ HTB.out).mono ?_); rintro e w5 ⟨rfl, hb⟩; have HB5 := Aside0.mk hb; have cw01 := pw_cell_below hb cw0; have cw11 := pw_cell_below hb cw1; have cw21 := pw_cell_below hb cw2; clear hb) | fail)
      refine start_ (n := 11) (S := fun w' => w'.cell? ⟨gw, 1, none⟩ = some (.string t1) ∧ w'.cell? ⟨gw, 2, none⟩ = some (.string t2)) (ds := [9]) (fl 11 0) (by kernel_rfl) rfl rfl ⟨cw11, cw21⟩ (fun hHeld => ?_)
      refine pu_ (i := 0) (N := some 80) (fl 11 1) (by kernel_rfl) ?_
      refine pu_ (i := 1) (N := some 81) (fl 11 3) (by kernel_rfl) ?_
      refine pu_ (i := 2) (N := some 82) (fl 11 7) (by kernel_rfl) ?_
      refine pu_ (i := 4) (N := some 84) (fl 11 23) (by kernel_rfl) ?_
      refine pu_ (i := 5) (N := some 85) (fl 11 55) (by kernel_rfl) ?_
      refine pu_ (i := 7) (N := some 87) (fl 11 183) (by kernel_rfl) ?_
      refine take_ (i := 3) (N := some 83) (v := ?_) (a' := ?_) (fl 11 191) rfl rfl (by kernel_rfl) (fun _ _ _ h => h) (Or.inl ⟨by rfl, ?_⟩) hHeld ?_ ?_
      rotate_left
      ·rintro w' ⟨s0, s1⟩
       go_simp
       with_reducible rfl
      rotate_left
      ·simp only [Act.put, List.setIfInBounds_toArray, List.set_cons_zero, List.set_cons_succ, i64_w, i32_w]
       rfl
      refine take_ (i := 6) (N := some 86) (v := ?_) (a' := ?_) (fl 11 255) rfl rfl (by kernel_rfl) (fun _ _ _ h => h) (Or.inl ⟨by rfl, ?_⟩) hHeld ?_ ?_
      rotate_left
      ·rintro w' ⟨s0, s1⟩
       go_simp
       with_reducible rfl
      rotate_left
      ·simp only [Act.put, List.setIfInBounds_toArray, List.set_cons_zero, List.set_cons_succ, i64_w, i32_w]
       rfl
      refine pu_ (i := 8) (N := some 88) (fl 11 511) (by kernel_rfl) ?_
      refine last_ (i := 9) (N := some 89) (fl 11 1023) rfl rfl (by kernel_rfl) (by decide) (fun K hK => ?_)
      refine goes_ Tryd.func44 (by kernel_rfl) rfl #[.pointer (some ⟨g, 0, none⟩), .agg #[.string t1, .string t2, .int .i64 n]] (by rfl) rfl rfl (by simp only [List.map_toArray, List.map_cons, List.map_nil]; rfl) ?_
      with_reducible refine (A2.out _ (below_drew1 HB5.out)).mono ?_
      rintro e w6 ⟨rfl, hT⟩
      refine ⟨_, rfl, ?_⟩
      have HT := Aside0.mk (RgTo.from (below_drew1 HB5.out) hT)
      refine hK.out _ _ ?_
      clear hK K
      refine norm_ (a' := ?_) ?_ ?_
      rotate_left
      ·show Act.put _ (some 89) _ = _
       simp only [Act.put, List.setIfInBounds_toArray, List.set_cons_zero, List.set_cons_succ, i64_w, i32_w]
       rfl
      refine pu_ (i := 10) (N := some 4) (fl 11 2047) (by kernel_rfl) ?_
      refine done_ (by kernel_rfl) ?_
      go_wp2
      go_ret
      try simp only [if_true, if_false, Bool.false_eq_true]
      exact ⟨rfl, HT.out⟩
    ·rw [if_neg h4]
     have q4 : ((ws.length : Int) != 4) = true := by simpa using h4
     clear h4
     go_enter Tryd.func23, Tryd.ntmps23
     go_wp2
     go_ret
     try simp only [if_true, if_false, Bool.false_eq_true]
     exact ⟨rfl, HX.out.same (Below.refl _ _)⟩
   | false =>
    simp only [Bool.not_true, Bool.not_false] at nl nr nb
    rw [if_neg (by simp)]
    go_enter Tryd.func23, Tryd.ntmps23
    go_wp2
    go_ret
    try simp only [if_true, if_false, Bool.false_eq_true]
    exact ⟨rfl, HX.out.same (Below.refl _ _)⟩
theorem ite_cap {p : Prop} [Decidable p] {a b : Int × RT} {n m : Nat} (ha : a.2.1.length ≤ n ∧ a.2.2.1.length ≤ m) (hb : b.2.1.length ≤ n ∧ b.2.2.1.length ≤ m) : (if p then a else b).2.1.length ≤ n ∧ (if p then a else b).2.2.1.length ≤ m := by split <;> assumption
theorem row_cap (R : RT) (ws : List ByteArray) (h : R.1.length ≤ 10 ∧ R.2.1.length ≤ 60) : (rowP R ws).2.1.length ≤ 10 ∧ (rowP R ws).2.2.1.length ≤ 60 := by
 have ha : ∀ r, (addRailP R r).2.1.length ≤ 10 ∧ (addRailP R r).2.2.1.length ≤ 60 := fun r => by
  unfold addRailP
  repeat' split
  all_goals (first | exact h | exact ⟨by show (R.1 ++ [r]).length ≤ 10; rw [List.length_append, List.length_singleton]; omega, h.2⟩)
 have hl : ∀ r, (addLineP R r).2.1.length ≤ 10 ∧ (addLineP R r).2.2.1.length ≤ 60 := fun r => by
  unfold addLineP
  repeat' split
  all_goals (first | exact h | exact ⟨h.1, by show (R.2.1 ++ [r]).length ≤ 60; rw [List.length_append, List.length_singleton]; omega⟩)
 have hb : ∀ r, (addBelayP R r).2.1.length ≤ 10 ∧ (addBelayP R r).2.2.1.length ≤ 60 := fun r => by
  unfold addBelayP
  repeat' split
  all_goals exact h
 unfold rowP addRowP
 exact ite_cap h (ite_cap h (ite_cap (ite_cap (hl _) h) (ite_cap (ite_cap (ite_cap (ite_cap (ha _) (hb _)) h) h) h)))
set_option maxHeartbeats 8000000 in
set_option maxRecDepth 100000 in
theorem iParseRig_calls (s : ByteArray) (w : World) (hs : s.size ≤ 1048576) (hTb : Tb2 w) :
  Calls Tryd.prog 10 #[.string s] w fun e w' => ∃ v0 v1 v2 vn : Value, e = .returned (.tuple #[.agg #[v0, v1, v2], vn, .int .i64 (rigA s).2.2]) ∧ RigOut w w' v0 v1 v2 vn (rigA s) := by
 have hu := Tryd.underlying26
 have HTB := Aside0.mk hTb
 clear hTb
 unfold rigA
 by_cases h3 : 3000 < s.size
 ·rw [if_pos h3]
  have p3 : (3000 : Int) < (s.size : Int) := by omega
  go_enter Tryd.func10, Tryd.ntmps10
  go_wp2_with (first | ((with_reducible refine gate_dst (N := 2) rfl ?_); refine be_ 2 #[.slice none 0 0, .slice none 0 0, .slice none 0 0] 26 ?_; intro gc hg w2 hbox hb; have CG := Aside0.mk hbox; have HB := Aside0.mk hb; have GC := Aside0.mk (Nat.le_of_eq hg.symm); clear hbox hb hg; have d0 := (blk_cell CG.out 0).trans rfl; have d1 := (blk_cell CG.out 1).trans rfl; have d2 := (blk_cell CG.out 2).trans rfl; have df : ∀ o, w2.frozen? ⟨gc, o, none⟩ = false := fun o => blk_frozen CG.out o) | fail)
  refine bodyPost_ret (results_ctt rfl _ _ gc 26 #[.slice none 0 0, .slice none 0 0, .slice none 0 0] (0, 0) _ rfl (rig_blk CG.out) Tryd.underlying26 rfl (by kernel_rfl)) rfl ?_
  exact ⟨_, _, _, _, rfl, rig_three (Kd.R_nil _ _ _ _ _) rfl (by decide) CG.out, rig_three (Kd.R_nil _ _ _ _ _) rfl (by decide) CG.out, rig_three (Kd.R_nil _ _ _ _ _) rfl (by decide) CG.out, rig_three (Kd.R_nil _ _ _ _ _) rfl (by decide) CG.out, rig_low HB.out GC.out⟩
 ·rw [if_neg h3]
  have p3 : ¬ (3000 : Int) < (s.size : Int) := by omega
  have I1 := Aside0.mk (fun W hT => strings_Split.calls s (⟨#[10]⟩ : ByteArray) (S1 10 s) W (split_impl s 10 hs) hT)
  have hz : ∀ x ∈ S1 10 s, x.size ≤ 1048576 := fun x hx => by have := S1_size 10 s.size s (Nat.le_refl _) x hx; omega
  have hcnt := S1_len 10 s
  generalize S1 10 s = ls at *
  obtain ⟨rt, hrt⟩ : ∃ rt, rowsP ls 0 ([], [], []) [] = rt := ⟨_, rfl⟩
  rw [hrt]
  have HRT := Aside0.mk hrt
  have HZ := Aside0.mk hz
  have HC := Aside0.mk hcnt
  have P3 := Aside0.mk h3
  clear hrt hz hcnt h3
  go_enter Tryd.func10, Tryd.ntmps10
  go_upto_region 4 with (first | ((with_reducible refine gate_dst (N := 2) rfl ?_); refine be_ 2 #[.slice none 0 0, .slice none 0 0, .slice none 0 0] 26 ?_; intro gc hg w2 hbox hb; have CG := Aside0.mk hbox; have HB := Aside0.mk hb; have GC := Aside0.mk (Nat.le_of_eq hg.symm); clear hbox hb hg; have d0 := (blk_cell CG.out 0).trans rfl; have d1 := (blk_cell CG.out 1).trans rfl; have d2 := (blk_cell CG.out 2).trans rfl; have df : ∀ o, w2.frozen? ⟨gc, o, none⟩ = false := fun o => blk_frozen CG.out o) | ((with_reducible refine gate_dst (N := 5) rfl ?_); refine be_ 5 #[.slice none 0 0, .slice none 0 0, .slice none 0 0] 26 ?_; intro g hg w4 hbox hb; have BG := Aside0.mk hbox; have HB4 := Aside0.mk hb; have GG := Aside0.mk (Nat.le_of_eq hg.symm); clear hbox hb hg; have e0 := (blk_cell BG.out 0).trans rfl; have e1 := (blk_cell BG.out 1).trans rfl; have e2 := (blk_cell BG.out 2).trans rfl; have ef : ∀ o, w4.frozen? ⟨g, o, none⟩ = false := fun o => blk_frozen BG.out o) | fail)
  obtain ⟨w5, hw5⟩ : ∃ w5, w5 = (((w4.setCell ⟨g, 0, none⟩ (.slice none 0 0)).setCell ⟨g, 1, none⟩ (.slice none 0 0)).setCell ⟨g, 2, none⟩ (.slice none 0 0)) := ⟨_, rfl⟩
  have hX5 : Aside0 (Rg w w5 g (.slice none 0 0) (.slice none 0 0) (.slice none 0 0) ([], [], [])) := ⟨hw5 ▸ ⟨rig_blk BG.out, Nat.le_trans (below_size HB.out) GG.out, rig_three (Kd.R_nil _ _ _ _ _) rfl (by decide) BG.out, rig_three (Kd.R_nil _ _ _ _ _) rfl (by decide) BG.out, rig_three (Kd.R_nil _ _ _ _ _) rfl (by decide) BG.out, rig_low (below_step HB.out HB4.out) (Nat.le_trans (below_size HB.out) GG.out)⟩⟩
  have NG : Aside0 (gc ≠ g) := ⟨fun e => by have h1 := blk_lt CG.out; have h2 := GG.out; omega⟩
  have CG5 : Aside0 (w5.heap[gc]? = some (.cells #[.slice none 0 0, .slice none 0 0, .slice none 0 0] 26 (0, 0))) := ⟨by rw [hw5]; exact blk_far (blk_far (blk_far (blk_below CG.out HB4.out) NG.out _) NG.out _) NG.out _⟩
  rw [← hw5]
  clear hw5 d0 d1 d2 df e0 e1 e2 ef
  go_upto_region 6 with (first | ((with_reducible refine gate_dst (N := 16) rfl ?_); refine Kd.R_lit k50 (w0 := w5) w5.heap.size 50 ?hg (N := 16) ?hd (xs := ([] : List S50)) (inner := []) (ok := fun _ => True) (okp := fun _ => True) ?hr ?hp (fun _ hk => hk) trivial (Below.refl _ _) (Nat.le_refl _) (by simp) ?_; (case hd => rfl); (case hg => rfl); (case hr => first | (go_simp; done) | (go_simp; rfl)); (case hp => exact (Reps.none _ _)); intro vn w6 hn hb hg_ hn_; clear hg_ hn_; have HN := Aside0.mk (And.intro hn hb); clear hn hb) | (go_at_call 21; (with_reducible refine (I1.out _ ?ht).mono ?_); (case ht => exact HTB.out.below (below_step hX5.out.low HN.out.2)); rintro e w7 ⟨vr, rfl, ho, hb⟩; obtain ⟨Ar, cr, er⟩ := Kd.R_slice ho; subst er; have HV := Aside0.mk (And.intro ho hb); clear ho hb) | fail)
  have hPR : Aside0 (PR w w7 g gc (.slice none 0 0) (.slice none 0 0) (.slice none 0 0) vn (.slice Ar ls.length cr) ([], [], []) [] ls) := ⟨⟨hX5.out.step (below_step HN.out.2 HV.out.2), blk_below CG5.out (below_step HN.out.2 HV.out.2), GC.out, NG.out, Kd.R_of_own (Kd.own_of_R (Kd.R_lower HV.out.1 (below_size (below_step hX5.out.low HN.out.2)))) (fun _ hk => hk), fun k hk e => absurd e (by simp [Value.ownBlock]), Kd.R_below (Kd.R_lower HN.out.1 (below_size hX5.out.low)) HV.out.2⟩⟩
  have hll : ls.length ≤ 3001 := by have h1 := HC.out; have h2 := P3.out; omega
  clear CG HB GC BG HB4 GG hX5 NG CG5 HN HV HC P3
  go_wp2
  go_loopw [6, 7, 8, 9, 10, 20] (fun v6 v7 v8 v9 v10 v20 w' => ∃ (i : Nat) (u0 u1 u2 : Value) (R : RT) (ns : List S50), v20 = .int .i64 (i : Int) ∧ i ≤ ls.length ∧ Aside0 (PR w w' g gc u0 u1 u2 v6 (.slice Ar ls.length cr) R ns ls) ∧ Aside0 (R.2.2.length ≤ i ∧ ns.length ≤ i) ∧ Aside0 (R.1.length ≤ 10 ∧ R.2.1.length ≤ 60) ∧ Aside0 (rowsP (ls.drop i) i R ns = rt)) (fun v6 v7 v8 v9 v10 v20 _ => ls.length - (intOf v20).toNat)
  case atStart => exact ⟨0, _, _, _, _, _, rfl, Nat.zero_le _, hPR, ⟨by simp, by simp⟩, ⟨by simp, by simp⟩, HRT⟩
  case round =>
   obtain ⟨i, u0, u1, u2, R, ns, rfl, hi, hp, hl, hcp, hr⟩ := hrel
   clear hPR HRT
   by_cases hlt : i < ls.length
   ·have hr2 := hr.out
    rw [List.drop_eq_getElem_cons hlt] at hr2
    unfold rowsP at hr2
    have hzi := HZ.out _ (List.getElem_mem hlt)
    obtain ⟨gr, cr9, er9, -⟩ := Kd.R_form hp.out.rr (by omega)
    (first | cases er9 | (injection er9 with ea_ en_ ec_; (first | subst ea_ | (injection ea_ with ea_; subst ea_)); subst ec_; clear en_))
    have hcr := (Kd.R_reads' hp.out.rr).2.2
    obtain ⟨ar, ear, cwi⟩ := Kd.at_string hcr (i : Int) (by omega) (by omega)
    cases ear
    rw [rdLine ls i hlt] at cwi
    simp only [Int.toNat_natCast] at cwi
    rw [add_plain] at cwi
    obtain ⟨K2, hK2⟩ := Ev.pick (words_impl ls[i] hzi)
    have I2 := Aside0.mk (fun W hT => impl_SplitWords.calls K2 ls[i] (wordsOf ls[i]) W (hK2 K2 (Nat.le_refl _)) hT)
    have HT7 := Aside0.mk (HTB.out.below hp.out.rg.low)
    have hrl := row_len R (wordsOf ls[i])
    have hnl := note_len ns i (rowP R (wordsOf ls[i])).1
    have HC2 := Aside0.mk (row_cap R (wordsOf ls[i]) hcp.out)
    have HPOS : Aside0 (∀ x ∈ wordsOf ls[i], 0 < x.size) := ⟨fun x hx => words_pos hx⟩
    have HZW : Aside0 (∀ x ∈ wordsOf ls[i], x.size ≤ 140737488351232) := ⟨fun x hx => by have := words_size hx; omega⟩
    clear hK2 hzi hcr
    generalize wordsOf ls[i] = ws at *
    generalize ls[i] = row at *
    obtain ⟨An, cn, en⟩ := Kd.R_slice hp.out.nn
    subst en
    have q1 : (0 : Int) ≤ (i : Int) := Int.natCast_nonneg i
    have q2 : (i : Int) < (ls.length : Int) := Int.ofNat_lt.2 hlt
    by_cases h0 : (ws.length : Int) = 0
    ·have e1 : rowP R ws = (0, R) := by unfold rowP; rw [if_pos h0]
     rw [e1] at hr2 hrl hnl HC2
     have z0 : ws.length = 0 := by omega
     have HR2 := Aside0.mk hr2
     have HL2 := Aside0.mk (And.intro hrl hnl)
     unfold noteP at HR2 HL2
     rw [if_pos rfl] at HR2 HL2
     clear hr2 hrl hnl e1 hr
     have q0b : ((ws.length : Int) == 0) = true := by simpa using h0
     clear h0 z0
     go_wp2_with (first | (go_at_call 22; (with_reducible refine (I2.out _ HT7.out).mono ?_); rintro e w7 ⟨vw, rfl, ho, hb⟩; obtain ⟨Aw, cw, ew⟩ := Kd.R_slice ho; subst ew; have HO := Aside0.mk ho; have hp7 := Aside0.mk (hp.out.step hb); have HB7 := Aside0.mk hb; clear ho hb) | fail)
     go_roundw
     case rel => exact ⟨i + 1, _, _, _, _, _, by go_num, by omega, hp7, ⟨by have := hl.out; have := HL2.out; omega, by have := hl.out; have := HL2.out; omega⟩, HC2, HR2⟩
     case measure => simp [intOf]; omega
    ·have hn0 : 0 < ws.length := by omega
     have q0b : ((ws.length : Int) == 0) = false := by simpa using h0
     have q0 : (0 : Int) < (ws.length : Int) := by omega
     have hw0 : 0 < (wd ws 0).size := by
      have e := rdLine ws 0 hn0
      exact (show wd ws 0 = ws[0] from e) ▸ HPOS.out _ (List.getElem_mem hn0)
     obtain ⟨t0, ht0⟩ : ∃ t0, wd ws 0 = t0 := ⟨_, rfl⟩
     rw [ht0] at hw0
     have T0 := Aside0.mk ht0
     have hx0 : ∀ h : 0 < t0.size, ((t0[0]'h).toNat : Int) = bt t0 0 := by simpa using bt_at t0 0
     have qi : (0 : Int) < (t0.size : Int) := by omega
     by_cases h35 : bt t0 0 = 35
     ·have e1 : rowP R ws = (0, R) := by unfold rowP; rw [if_neg h0, ht0, if_pos h35]
      rw [e1] at hr2 hrl hnl HC2
      have HR2 := Aside0.mk hr2
      have HL2 := Aside0.mk (And.intro hrl hnl)
      unfold noteP at HR2 HL2
      rw [if_pos rfl] at HR2 HL2
      have p35 : (bt t0 0 == 35) = true := by simpa using h35
      clear hr2 hrl hnl e1 hr h0 h35 ht0
      go_upto_region 9 with (first | (go_at_call 22; (with_reducible refine (I2.out _ HT7.out).mono ?_); rintro e w7 ⟨vw, rfl, ho, hb⟩; obtain ⟨gw, cw, ew, -⟩ := Kd.R_form ho hn0; subst ew; have HO := Aside0.mk ho; have hp7 := Aside0.mk (hp.out.step hb); have HB7 := Aside0.mk hb; clear ho hb) | fail)
      obtain ⟨aw, eaw, cw0⟩ := Kd.at_string (Kd.R_reads' HO.out).2.2 0 (by omega) (by omega)
      cases eaw
      rw [show rdOf ByteArray.empty ws 0 = t0 from T0.out] at cw0
      simp only [Int.reduceToNat, Int.toNat_zero] at cw0
      rw [add_plain] at cw0
      go_wp2
      go_roundw
      case rel => exact ⟨i + 1, _, _, _, _, _, by go_num, by omega, hp7, ⟨by have := hl.out; have := HL2.out; omega, by have := hl.out; have := HL2.out; omega⟩, HC2, HR2⟩
      case measure => simp [intOf]; omega
     ·have e1 : rowP R ws = addRowP R ws := by unfold rowP; rw [if_neg h0, ht0, if_neg h35]
      rw [e1] at hr2 hrl hnl HC2
      have p35 : (bt t0 0 == 35) = false := by simpa using h35
      have I3 : Aside0 (∀ W gw cw, Below wr.heap.size wr W → Kd.R Kd.string 9 W wr.heap.size (fun _ => True) (.slice (some ⟨gw, 0, none⟩) ws.length cw) ws → Calls Tryd.prog 23 #[.pointer (some ⟨g, 0, none⟩), .slice (some ⟨gw, 0, none⟩) ws.length cw] W fun e w' => e = .returned (.int .i64 (addRowP R ws).1) ∧ RgTo w W w' g u0 u1 u2 (addRowP R ws).2) := ⟨fun W gw cw hb ho => addRow_calls g gw cw u0 u1 u2 R ws w W (hp.out.rg.step hb) (by have := hl.out.1; omega) hcp.out (Kd.R_reads' ho).2.2 hn0 (Kd.R_reads' ho).2.1 HZW.out (HT7.out.below hb)⟩
      obtain ⟨pr, hpr⟩ : ∃ pr, addRowP R ws = pr := ⟨_, rfl⟩
      rw [hpr] at hr2 hrl hnl HC2 I3
      clear hpr e1
      obtain ⟨kk, R2⟩ := pr
      simp only at hr2 hrl hnl HC2 I3
      have HR2 := Aside0.mk hr2
      have HL2 := Aside0.mk (And.intro hrl hnl)
      clear hr2 hrl hnl hr h0 h35 ht0
      unfold noteP at HR2 HL2
      by_cases hk : kk = 0
      ·subst hk
       rw [if_pos rfl] at HR2 HL2
       go_upto_region 9 with (first | (go_at_call 22; (with_reducible refine (I2.out _ HT7.out).mono ?_); rintro e w7 ⟨vw, rfl, ho, hb⟩; obtain ⟨gw, cw, ew, -⟩ := Kd.R_form ho hn0; subst ew; have HO := Aside0.mk ho; have hp7 := Aside0.mk (hp.out.step hb); have HB7 := Aside0.mk hb; clear ho hb) | fail)
       obtain ⟨aw, eaw, cw0⟩ := Kd.at_string (Kd.R_reads' HO.out).2.2 0 (by omega) (by omega)
       cases eaw
       rw [show rdOf ByteArray.empty ws 0 = t0 from T0.out] at cw0
       simp only [Int.reduceToNat, Int.toNat_zero] at cw0
       rw [add_plain] at cw0
       go_wp2_with (first | (go_at_call 23; (with_reducible refine (I3.out _ _ _ HB7.out HO.out).mono ?_); rintro e w8 ⟨rfl, hT⟩; obtain ⟨x0, x1, x2, hq8⟩ := hp7.out.row hT; have hp8 := Aside0.mk hq8; clear hT hq8) | fail)
       go_roundw
       case rel => exact ⟨i + 1, _, _, _, _, _, by go_num, by omega, hp8, ⟨by have := hl.out; have := HL2.out; omega, by have := hl.out; have := HL2.out; omega⟩, HC2, HR2⟩
       case measure => simp [intOf]; omega
      ·rw [if_neg hk] at HR2 HL2
       have k1 : (kk == 0) = false := by simpa using hk
       have k2 : (kk != 0) = true := by simpa using hk
       clear hk
       by_cases hn : (ns.length : Int) < 20
       ·rw [if_pos hn] at HR2 HL2
        go_upto_region 9 with (first | (go_at_call 22; (with_reducible refine (I2.out _ HT7.out).mono ?_); rintro e w7 ⟨vw, rfl, ho, hb⟩; obtain ⟨gw, cw, ew, -⟩ := Kd.R_form ho hn0; subst ew; have HO := Aside0.mk ho; have hp7 := Aside0.mk (hp.out.step hb); have HB7 := Aside0.mk hb; clear ho hb) | fail)
        obtain ⟨aw, eaw, cw0⟩ := Kd.at_string (Kd.R_reads' HO.out).2.2 0 (by omega) (by omega)
        cases eaw
        rw [show rdOf ByteArray.empty ws 0 = t0 from T0.out] at cw0
        simp only [Int.reduceToNat, Int.toNat_zero] at cw0
        rw [add_plain] at cw0
        go_wp2_with (first | (go_at_call 23; (with_reducible refine (I3.out _ _ _ HB7.out HO.out).mono ?_); rintro e w8 ⟨rfl, hT⟩; obtain ⟨x0, x1, x2, hq8⟩ := hp7.out.row hT; have hp8 := Aside0.mk hq8; clear hT hq8) | ((with_reducible refine gate_builtin (b := .append) (xs := #[.tmp 46, .tmp 51]) rfl ?_); at_builtin; refine Kd.R_append k50 (w0 := w) w.heap.size rfl (.tmp 46) (.tmp 51) 37 50 (.agg #[.int .i64 0, .int .i64 0]) 16 rfl Tryd.underlying37 infoN rfl (by decide) (by omega) (.slice An ns.length cn) ns ⟨(i : Int) + 1, kk⟩ [.int .i64 ((i : Int) + 1), .int .i64 kk] (fun _ => True) (fun _ => False) rfl rfl ?bP (fun _ hk => hk.elim) ?bF ?bO ?bB ?bS ?bL ?_; (case bP => exact k50_mkM _ _ _ _); (case bB => exact hp8.out.rg.low); (case bF => exact (fun _ _ => trivial)); (case bO => exact hp8.out.nn); (case bS => exact hp8.out.rg.low.size); (case bL => have := hl.out.2; omega); intro v9 w9 ho hb hg hat; have hp9 := Aside0.mk (hp8.out.note (Below.refl _ _) ho hg hb); clear ho hb hg hat) | fail)
        go_roundw
        case rel => exact ⟨i + 1, _, _, _, _, _, by go_num, by omega, hp9, ⟨by have := hl.out; have := HL2.out; omega, by have := hl.out; have := HL2.out; omega⟩, HC2, HR2⟩
        case measure => simp [intOf]; omega
       ·rw [if_neg hn] at HR2 HL2
        go_upto_region 9 with (first | (go_at_call 22; (with_reducible refine (I2.out _ HT7.out).mono ?_); rintro e w7 ⟨vw, rfl, ho, hb⟩; obtain ⟨gw, cw, ew, -⟩ := Kd.R_form ho hn0; subst ew; have HO := Aside0.mk ho; have hp7 := Aside0.mk (hp.out.step hb); have HB7 := Aside0.mk hb; clear ho hb) | fail)
        obtain ⟨aw, eaw, cw0⟩ := Kd.at_string (Kd.R_reads' HO.out).2.2 0 (by omega) (by omega)
        cases eaw
        rw [show rdOf ByteArray.empty ws 0 = t0 from T0.out] at cw0
        simp only [Int.reduceToNat, Int.toNat_zero] at cw0
        rw [add_plain] at cw0
        go_wp2_with (first | (go_at_call 23; (with_reducible refine (I3.out _ _ _ HB7.out HO.out).mono ?_); rintro e w8 ⟨rfl, hT⟩; obtain ⟨x0, x1, x2, hq8⟩ := hp7.out.row hT; have hp8 := Aside0.mk hq8; clear hT hq8) | fail)
        go_roundw
        case rel => exact ⟨i + 1, _, _, _, _, _, by go_num, by omega, hp8, ⟨by have := hl.out; have := HL2.out; omega, by have := hl.out; have := HL2.out; omega⟩, HC2, HR2⟩
        case measure => simp [intOf]; omega
   ·have hr2 := hr.out
    rw [List.drop_of_length_le (by omega)] at hr2
    unfold rowsP at hr2
    subst hr2
    obtain ⟨⟨A7, c7, e7⟩, ⟨A8, c8, e8⟩, ⟨A9, c9, e9⟩⟩ := hp.out.rg.form
    subst e7
    subst e8
    subst e9
    have c0 := hp.out.rg.c0
    have c1 := hp.out.rg.c1
    have c2 := hp.out.rg.c2
    have d0 := (blk_cell hp.out.cg 0).trans rfl
    have d1 := (blk_cell hp.out.cg 1).trans rfl
    have d2 := (blk_cell hp.out.cg 2).trans rfl
    have df : ∀ o, wr.frozen? ⟨gc, o, none⟩ = false := fun o => blk_frozen hp.out.cg o
    go_wp2
    refine bodyPost_ret (results_ctt rfl _ _ gc 26 #[.slice A7 _ c7, .slice A8 _ c8, .slice A9 _ c9] (0, 0) _ rfl (rig_blk hp.out.cg) Tryd.underlying26 rfl (by kernel_rfl)) rfl ?_
    exact ⟨_, _, _, _, rfl, hp.out.out 0⟩
def impl_ParseRig.f (a0 : ByteArray) : Option (List S68 × List ByteArray × List S71 × List S50 × Int) := if a0.size ≤ 1048576 then some ((rigA a0).1.1, (rigA a0).1.2.1, (rigA a0).1.2.2, (rigA a0).2.1, (rigA a0).2.2) else none
theorem impl_ParseRig.calls (a0 : ByteArray) (r1 : List S68) (r2 : List ByteArray) (r3 : List S71) (r4 : List S50) (r5 : Int) (w : World) (h : impl_ParseRig.f a0 = some (r1, r2, r3, r4, r5)) (hT : Go.Proofs.YtihiodhlmnhfdaaDoor.Base.Tb2 w) :
  Calls Tryd.prog 10 #[.string a0] w fun e w' => ∃ v1_ v2_ v3_ v4_ : Value, e = .returned (.tuple #[.agg #[v1_, v2_, v3_], v4_, .int .i64 r5]) ∧ Kd.R k68 68 w' w.heap.size (fun _ => True) v1_ r1 ∧ Kd.R Kd.string 9 w' w.heap.size (fun _ => True) v2_ r2 ∧ Kd.R k71 71 w' w.heap.size (fun _ => True) v3_ r3 ∧ Kd.R k50 50 w' w.heap.size (fun _ => True) v4_ r4 ∧ Below w.heap.size w w' := by
 unfold impl_ParseRig.f at h
 split at h
 ·rename_i hs
  simp only [Option.some.injEq, Prod.mk.injEq] at h
  obtain ⟨rfl, rfl, rfl, rfl, rfl⟩ := h
  exact iParseRig_calls a0 w hs hT
 ·cases h
end
end Go.Proofs.YtihiodhlmnhfdaaDoor.QFnExactNewDesk
