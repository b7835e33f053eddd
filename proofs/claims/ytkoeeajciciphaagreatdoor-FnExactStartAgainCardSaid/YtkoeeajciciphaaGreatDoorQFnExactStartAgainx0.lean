import Derived.Test.YtkoeeajciciphaaGreatDoorS4
import Derived.Test.YtkoeeajciciphaaGreatDoorProg
import Derived.Below
import Derived.Deep.Draws
import Derived.Deep.AppendLies
import Derived.Maps.AppendAt
import Derived.OwnWalk
import Derived.Laws.BytesArg
import Derived.Laws.MakeOwn
import Derived.Laws.OwnMore
import Derived.Deep.OwnRows
import Derived.Tactics
import Derived.Lib.ConvBytes
import Derived.Laws.Slices
import Derived.WalkKit
import Derived.KernelRfl
import Derived.RowKit3
import Derived.Deep.LoopGhost
import Derived.Deep.QuietTactic
import Derived.BigQuiet
import Derived.WideLaws
import Derived.Deep.DeepCutAuto
import Derived.Deep.CutBlock
import Derived.Deep.RegionHeld3
import Derived.Laws.Rows
import Derived.Lib.AppendStr
import Derived.ArgAppend
import Derived.Laws.IdiomCopy
import Derived.OrdersHeld
import Derived.Laws.BitsLemmas
import Derived.RowKit
import Derived.Test.YtkoeeajciciphaaGreatDoorBase
import Derived.Shelf.Abstract
import Derived.Shelf.SlSortCmp.Insertion
import Derived.Deep.Cut
import Derived.Lib.ItoaLen
import Derived.Test.YtkoeeajciciphaaGreatDoorDefs
import Derived.Test.YtkoeeajciciphaaGreatDoorDoor
import Derived.Test.YtkoeeajciciphaaGreatDoorShelf
import Derived.Test.YtkoeeajciciphaaGreatDoorWWords
import Derived.Test.YtkoeeajciciphaaGreatDoorWLast
import Derived.Test.YtkoeeajciciphaaGreatDoorWTab
import Derived.Test.YtkoeeajciciphaaGreatDoorWFour
import Derived.Test.YtkoeeajciciphaaGreatDoorWQPut
import Derived.Test.YtkoeeajciciphaaGreatDoorWApart
import Derived.Test.YtkoeeajciciphaaGreatDoorWArr
import Derived.Test.YtkoeeajciciphaaGreatDoorWZeros
import Derived.Test.YtkoeeajciciphaaGreatDoorWFoot
import Derived.Test.YtkoeeajciciphaaGreatDoorWKept
import Derived.Test.YtkoeeajciciphaaGreatDoorWShare
import Derived.Test.YtkoeeajciciphaaGreatDoorWN
import Derived.Test.YtkoeeajciciphaaGreatDoorWFootNe
import Derived.Test.YtkoeeajciciphaaGreatDoorWAt
import Derived.Test.YtkoeeajciciphaaGreatDoorWEqStruct
import Derived.Test.YtkoeeajciciphaaGreatDoorWRepsOne
import Derived.Test.YtkoeeajciciphaaGreatDoorWInv
import Derived.Test.YtkoeeajciciphaaGreatDoorWInvWords
import Derived.Test.YtkoeeajciciphaaGreatDoorWGuard
import Derived.Test.YtkoeeajciciphaaGreatDoorWNEv
import Derived.Test.YtkoeeajciciphaaGreatDoorWMore
import Derived.Test.YtkoeeajciciphaaGreatDoorSq
namespace Go.Proofs.YtkoeeajciciphaaGreatDoor.QFnExactStartAgain
open Sq
open Go.RowKit Go.Proofs.YtkoeeajciciphaaGreatDoorW.PrintWords Go.Proofs.YtkoeeajciciphaaGreatDoorW.PrintLast Go.Proofs.YtkoeeajciciphaaGreatDoorW.PrintMore
attribute [local go_sem] max2_int min2_int max_two min_two max_three min_three max_four min_four
set_option linter.unusedVariables false
set_option linter.unusedSimpArgs false
set_option maxHeartbeats 8000000
set_option maxRecDepth 100000
theorem info5 : (Tryz.prog.info? 5).map (fun i => (i.zero, i.size, i.bytes)) = some (some (.int .u8 0), 1, 1) := by kernel_rfl
theorem info9 : (Tryz.prog.info? 9).map (fun i => (i.zero, i.size, i.bytes)) = some (some (.string ⟨#[]⟩), 1, 16) := by kernel_rfl
theorem info69 : (Tryz.prog.info? 69).map (fun i => (i.zero, i.size, i.bytes)) = some (some (.agg #[(.string ⟨#[]⟩), (.int .i64 0)]), 2, 24) := by kernel_rfl
theorem info97 : (Tryz.prog.info? 97).map (fun i => (i.zero, i.size, i.bytes)) = some (some (.agg #[(.string ⟨#[]⟩), (.string ⟨#[]⟩), (.int .i64 0)]), 3, 40) := by kernel_rfl
theorem info101 : (Tryz.prog.info? 101).map (fun i => (i.zero, i.size, i.bytes)) = some (some (.agg #[(.string ⟨#[]⟩), (.string ⟨#[]⟩), (.int .i64 0)]), 3, 40) := by kernel_rfl
theorem info132 : (Tryz.prog.info? 132).map (fun i => (i.zero, i.size, i.bytes)) = some (some (.agg #[(.int .i64 0), (.string ⟨#[]⟩), (.string ⟨#[]⟩)]), 3, 40) := by kernel_rfl
open Sq (fl pu_ gl_ b20_ b21_ b30_ b31_ b32_ od_ rr_ be_)
open Base (bwl_ bst_ bsz_ bkb_ nbl_ nbr_ kbl_ bkm_)
structure S119 where
 f0 : ByteArray
 f1 : ByteArray
 f2 : Int
def z119 : S119 := ⟨(⟨#[]⟩ : ByteArray), (⟨#[]⟩ : ByteArray), (0 : Int)⟩
def k119 : Kd S119 := Kd.iso (Kd.pair Kd.string (Kd.pair Kd.string (Kd.int .i64))) (fun x : S119 => (x.f0, x.f1, x.f2))
theorem k119_open {w : World} {x : S119} {cs : List Value} (h : k119.K w x cs) : cs = [.string x.f0, .string x.f1, .int .i64 x.f2] := by
 obtain ⟨_, _, rfl, rfl, ⟨_, _, rfl, rfl, rfl⟩⟩ := h
 exact rfl
def rd_T119 (xs : List S119) (i : Int) : S119 := xs.getD i.toNat z119
theorem at_T119 {w : World} {A : Option Addr} {n : Nat} {xs : List S119} (h : Kd.C k119 w A n xs) (i : Int) (h0 : 0 ≤ i) (h1 : i < n) : ∃ ad , A = some ad ∧ w.cell? (ad.add (i.toNat * 3)) = some (.string (rd_T119 xs i).f0) ∧ w.cell? ⟨(ad.add (i.toNat * 3)).block, (ad.add (i.toNat * 3)).off + 1, none⟩ = some (.string (rd_T119 xs i).f1) ∧ w.cell? ⟨(ad.add (i.toNat * 3)).block, (ad.add (i.toNat * 3)).off + 2, none⟩ = some (.int .i64 (rd_T119 xs i).f2) := by
 obtain ⟨ad, c, e, _, hK, hc0⟩ := Kd.C_get h z119 i h0 h1
 have hc : ∀ j u, c[j]? = some u → w.cell? (ad.add (i.toNat * 3 + j)) = some u := hc0
 obtain rfl := k119_open hK
 exact ⟨ad, e, hc 0 _ rfl, by rw [← add_field _ _ 1 (by omega)]; exact hc 1 _ rfl, by rw [← add_field _ _ 2 (by omega)]; exact hc 2 _ rfl⟩
structure S121 where
 f0 : ByteArray
 f1 : ByteArray
 f2 : Int
def z121 : S121 := ⟨(⟨#[]⟩ : ByteArray), (⟨#[]⟩ : ByteArray), (0 : Int)⟩
def k121 : Kd S121 := Kd.iso (Kd.pair Kd.string (Kd.pair Kd.string (Kd.int .i64))) (fun x : S121 => (x.f0, x.f1, x.f2))
theorem k121_open {w : World} {x : S121} {cs : List Value} (h : k121.K w x cs) : cs = [.string x.f0, .string x.f1, .int .i64 x.f2] := by
 obtain ⟨_, _, rfl, rfl, ⟨_, _, rfl, rfl, rfl⟩⟩ := h
 exact rfl
def rd_T121 (xs : List S121) (i : Int) : S121 := xs.getD i.toNat z121
theorem at_T121 {w : World} {A : Option Addr} {n : Nat} {xs : List S121} (h : Kd.C k121 w A n xs) (i : Int) (h0 : 0 ≤ i) (h1 : i < n) : ∃ ad , A = some ad ∧ w.cell? (ad.add (i.toNat * 3)) = some (.string (rd_T121 xs i).f0) ∧ w.cell? ⟨(ad.add (i.toNat * 3)).block, (ad.add (i.toNat * 3)).off + 1, none⟩ = some (.string (rd_T121 xs i).f1) ∧ w.cell? ⟨(ad.add (i.toNat * 3)).block, (ad.add (i.toNat * 3)).off + 2, none⟩ = some (.int .i64 (rd_T121 xs i).f2) := by
 obtain ⟨ad, c, e, _, hK, hc0⟩ := Kd.C_get h z121 i h0 h1
 have hc : ∀ j u, c[j]? = some u → w.cell? (ad.add (i.toNat * 3 + j)) = some u := hc0
 obtain rfl := k121_open hK
 exact ⟨ad, e, hc 0 _ rfl, by rw [← add_field _ _ 1 (by omega)]; exact hc 1 _ rfl, by rw [← add_field _ _ 2 (by omega)]; exact hc 2 _ rfl⟩
structure S88 where
 f0 : ByteArray
 f1 : Int
def z88 : S88 := ⟨(⟨#[]⟩ : ByteArray), (0 : Int)⟩
def k88 : Kd S88 := Kd.iso (Kd.pair Kd.string (Kd.int .i64)) (fun x : S88 => (x.f0, x.f1))
theorem k88_open {w : World} {x : S88} {cs : List Value} (h : k88.K w x cs) : cs = [.string x.f0, .int .i64 x.f1] := by
 obtain ⟨_, _, rfl, rfl, rfl⟩ := h
 exact rfl
def rd_T88 (xs : List S88) (i : Int) : S88 := xs.getD i.toNat z88
theorem at_T88 {w : World} {A : Option Addr} {n : Nat} {xs : List S88} (h : Kd.C k88 w A n xs) (i : Int) (h0 : 0 ≤ i) (h1 : i < n) : ∃ ad , A = some ad ∧ w.cell? (ad.add (i.toNat * 2)) = some (.string (rd_T88 xs i).f0) ∧ w.cell? ⟨(ad.add (i.toNat * 2)).block, (ad.add (i.toNat * 2)).off + 1, none⟩ = some (.int .i64 (rd_T88 xs i).f1) := by
 obtain ⟨ad, c, e, _, hK, hc0⟩ := Kd.C_get h z88 i h0 h1
 have hc : ∀ j u, c[j]? = some u → w.cell? (ad.add (i.toNat * 2 + j)) = some u := hc0
 obtain rfl := k88_open hK
 exact ⟨ad, e, hc 0 _ rfl, by rw [← add_field _ _ 1 (by omega)]; exact hc 1 _ rfl⟩
structure S97 where
 f0 : ByteArray
 f1 : ByteArray
 f2 : Int
def z97 : S97 := ⟨(⟨#[]⟩ : ByteArray), (⟨#[]⟩ : ByteArray), (0 : Int)⟩
def k97 : Kd S97 := Kd.iso (Kd.pair Kd.string (Kd.pair Kd.string (Kd.int .i64))) (fun x : S97 => (x.f0, x.f1, x.f2))
theorem k97_open {w : World} {x : S97} {cs : List Value} (h : k97.K w x cs) : cs = [.string x.f0, .string x.f1, .int .i64 x.f2] := by
 obtain ⟨_, _, rfl, rfl, ⟨_, _, rfl, rfl, rfl⟩⟩ := h
 exact rfl
theorem k97_openM {w : World} {base : Nat} {ok : Nat → Prop} {x : S97} {cs : List Value} (h : k97.M w base ok x cs) : cs = [.string x.f0, .string x.f1, .int .i64 x.f2] := by
 obtain ⟨_, _, rfl, rfl, ⟨_, _, rfl, rfl, rfl⟩⟩ := h
 exact rfl
theorem k97_mkM (w : World) (base : Nat) (ok : Nat → Prop) (x : S97)  : k97.M w base ok x [.string x.f0, .string x.f1, .int .i64 x.f2] := ⟨[.string x.f0], [.string x.f1, .int .i64 x.f2], rfl, rfl, ⟨[.string x.f1], [.int .i64 x.f2], rfl, rfl, rfl⟩⟩
def rd_T97 (xs : List S97) (i : Int) : S97 := xs.getD i.toNat z97
theorem at_T97 {w : World} {A : Option Addr} {n : Nat} {xs : List S97} (h : Kd.C k97 w A n xs) (i : Int) (h0 : 0 ≤ i) (h1 : i < n) : ∃ ad , A = some ad ∧ w.cell? (ad.add (i.toNat * 3)) = some (.string (rd_T97 xs i).f0) ∧ w.cell? ⟨(ad.add (i.toNat * 3)).block, (ad.add (i.toNat * 3)).off + 1, none⟩ = some (.string (rd_T97 xs i).f1) ∧ w.cell? ⟨(ad.add (i.toNat * 3)).block, (ad.add (i.toNat * 3)).off + 2, none⟩ = some (.int .i64 (rd_T97 xs i).f2) := by
 obtain ⟨ad, c, e, _, hK, hc0⟩ := Kd.C_get h z97 i h0 h1
 have hc : ∀ j u, c[j]? = some u → w.cell? (ad.add (i.toNat * 3 + j)) = some u := hc0
 obtain rfl := k97_open hK
 exact ⟨ad, e, hc 0 _ rfl, by rw [← add_field _ _ 1 (by omega)]; exact hc 1 _ rfl, by rw [← add_field _ _ 2 (by omega)]; exact hc 2 _ rfl⟩
structure S101 where
 f0 : ByteArray
 f1 : ByteArray
 f2 : Int
def z101 : S101 := ⟨(⟨#[]⟩ : ByteArray), (⟨#[]⟩ : ByteArray), (0 : Int)⟩
def k101 : Kd S101 := Kd.iso (Kd.pair Kd.string (Kd.pair Kd.string (Kd.int .i64))) (fun x : S101 => (x.f0, x.f1, x.f2))
theorem k101_open {w : World} {x : S101} {cs : List Value} (h : k101.K w x cs) : cs = [.string x.f0, .string x.f1, .int .i64 x.f2] := by
 obtain ⟨_, _, rfl, rfl, ⟨_, _, rfl, rfl, rfl⟩⟩ := h
 exact rfl
theorem k101_openM {w : World} {base : Nat} {ok : Nat → Prop} {x : S101} {cs : List Value} (h : k101.M w base ok x cs) : cs = [.string x.f0, .string x.f1, .int .i64 x.f2] := by
 obtain ⟨_, _, rfl, rfl, ⟨_, _, rfl, rfl, rfl⟩⟩ := h
 exact rfl
theorem k101_mkM (w : World) (base : Nat) (ok : Nat → Prop) (x : S101)  : k101.M w base ok x [.string x.f0, .string x.f1, .int .i64 x.f2] := ⟨[.string x.f0], [.string x.f1, .int .i64 x.f2], rfl, rfl, ⟨[.string x.f1], [.int .i64 x.f2], rfl, rfl, rfl⟩⟩
def rd_T101 (xs : List S101) (i : Int) : S101 := xs.getD i.toNat z101
theorem at_T101 {w : World} {A : Option Addr} {n : Nat} {xs : List S101} (h : Kd.C k101 w A n xs) (i : Int) (h0 : 0 ≤ i) (h1 : i < n) : ∃ ad , A = some ad ∧ w.cell? (ad.add (i.toNat * 3)) = some (.string (rd_T101 xs i).f0) ∧ w.cell? ⟨(ad.add (i.toNat * 3)).block, (ad.add (i.toNat * 3)).off + 1, none⟩ = some (.string (rd_T101 xs i).f1) ∧ w.cell? ⟨(ad.add (i.toNat * 3)).block, (ad.add (i.toNat * 3)).off + 2, none⟩ = some (.int .i64 (rd_T101 xs i).f2) := by
 obtain ⟨ad, c, e, _, hK, hc0⟩ := Kd.C_get h z101 i h0 h1
 have hc : ∀ j u, c[j]? = some u → w.cell? (ad.add (i.toNat * 3 + j)) = some u := hc0
 obtain rfl := k101_open hK
 exact ⟨ad, e, hc 0 _ rfl, by rw [← add_field _ _ 1 (by omega)]; exact hc 1 _ rfl, by rw [← add_field _ _ 2 (by omega)]; exact hc 2 _ rfl⟩
structure S69 where
 f0 : ByteArray
 f1 : Int
def z69 : S69 := ⟨(⟨#[]⟩ : ByteArray), (0 : Int)⟩
def k69 : Kd S69 := Kd.iso (Kd.pair Kd.string (Kd.int .i64)) (fun x : S69 => (x.f0, x.f1))
theorem k69_open {w : World} {x : S69} {cs : List Value} (h : k69.K w x cs) : cs = [.string x.f0, .int .i64 x.f1] := by
 obtain ⟨_, _, rfl, rfl, rfl⟩ := h
 exact rfl
theorem k69_openM {w : World} {base : Nat} {ok : Nat → Prop} {x : S69} {cs : List Value} (h : k69.M w base ok x cs) : cs = [.string x.f0, .int .i64 x.f1] := by
 obtain ⟨_, _, rfl, rfl, rfl⟩ := h
 exact rfl
theorem k69_mkM (w : World) (base : Nat) (ok : Nat → Prop) (x : S69)  : k69.M w base ok x [.string x.f0, .int .i64 x.f1] := ⟨[.string x.f0], [.int .i64 x.f1], rfl, rfl, rfl⟩
def rd_T69 (xs : List S69) (i : Int) : S69 := xs.getD i.toNat z69
theorem at_T69 {w : World} {A : Option Addr} {n : Nat} {xs : List S69} (h : Kd.C k69 w A n xs) (i : Int) (h0 : 0 ≤ i) (h1 : i < n) : ∃ ad , A = some ad ∧ w.cell? (ad.add (i.toNat * 2)) = some (.string (rd_T69 xs i).f0) ∧ w.cell? ⟨(ad.add (i.toNat * 2)).block, (ad.add (i.toNat * 2)).off + 1, none⟩ = some (.int .i64 (rd_T69 xs i).f1) := by
 obtain ⟨ad, c, e, _, hK, hc0⟩ := Kd.C_get h z69 i h0 h1
 have hc : ∀ j u, c[j]? = some u → w.cell? (ad.add (i.toNat * 2 + j)) = some u := hc0
 obtain rfl := k69_open hK
 exact ⟨ad, e, hc 0 _ rfl, by rw [← add_field _ _ 1 (by omega)]; exact hc 1 _ rfl⟩
structure S132 where
 f0 : Int
 f1 : ByteArray
 f2 : ByteArray
def k132 : Kd S132 := Kd.iso (Kd.pair (Kd.int .i64) (Kd.pair Kd.string Kd.string)) (fun x : S132 => (x.f0, x.f1, x.f2))
theorem k132_mkM (w : World) (base : Nat) (ok : Nat → Prop) (x : S132)  : k132.M w base ok x [.int .i64 x.f0, .string x.f1, .string x.f2] := ⟨[.int .i64 x.f0], [.string x.f1, .string x.f2], rfl, rfl, ⟨[.string x.f1], [.string x.f2], rfl, rfl, rfl⟩⟩
def laws_szRail.f (a0_0 : ByteArray) (a0_1 : ByteArray) (a0_2 : Int) (a1 : Int) : Option (Int) := if (wrap64 (a1 - (a0_0.size : Int))) < 0 then (some (-1)) else (if (wrap64 ((wrap64 (a1 - (a0_0.size : Int))) - (a0_1.size : Int))) < 0 then (some (-1)) else (some (wrap64 ((wrap64 (a1 - (a0_0.size : Int))) - (a0_1.size : Int)))))
theorem laws_szRail.calls (a0_0 : ByteArray) (a0_1 : ByteArray) (a0_2 : Int) (a1 : Int) (r : Int) (w : World) (h : laws_szRail.f a0_0 a0_1 a0_2 a1 = some r) :
  Calls Tryz.prog 81 #[.agg #[.string a0_0, .string a0_1, .int .i64 a0_2], .int .i64 a1] w fun e w' => e = .returned (.int .i64 r) ∧ Below w.heap.size w w' := by
 have hu119 := Tryz.underlying119
 have HB := Aside0.mk (Below.refl w.heap.size w)
 have H := h
 clear h
 unfold laws_szRail.f at H
 revert H
 refine if_ ?_ ?_ <;> intro c3b0 H
 ·obtain rfl := Option.some.inj H
  go_enter Tryz.func81, Tryz.ntmps81
  go_wp2_with (first | ((with_reducible refine gd_ 2 rfl ?_); refine bx_ #[.string a0_0, .string a0_1, .int .i64 a0_2] ?_; intro gb101 hg w4 BK101 hb; have GW101 := bsz_ hg; replace HB := bst_ hb; clear hb hg; have hcz5_0 := c3_ BK101))
  go_ret
  exact ⟨rr_, bwl_⟩
 ·revert H
  refine if_ ?_ ?_ <;> intro c6b0 H
  ·obtain rfl := Option.some.inj H
   go_enter Tryz.func81, Tryz.ntmps81
   go_wp2_with (first | ((with_reducible refine gd_ 2 rfl ?_); refine bx_ #[.string a0_0, .string a0_1, .int .i64 a0_2] ?_; intro gb101 hg w7 BK101 hb; have GW101 := bsz_ hg; replace HB := bst_ hb; clear hb hg; have hcz8_0 := c3_ BK101))
   go_ret
   exact ⟨rr_, bwl_⟩
  ·obtain rfl := Option.some.inj H
   go_enter Tryz.func81, Tryz.ntmps81
   go_wp2_with (first | ((with_reducible refine gd_ 2 rfl ?_); refine bx_ #[.string a0_0, .string a0_1, .int .i64 a0_2] ?_; intro gb101 hg w9 BK101 hb; have GW101 := bsz_ hg; replace HB := bst_ hb; clear hb hg; have hcz10_0 := c3_ BK101))
   go_ret
   exact ⟨rr_, bwl_⟩
def laws_szRailS.l0 : Nat → List (S119) → Int → Int → Option (Int)
 | 0, _, _, _ => none
 | k + 1, x0, x1, x5 => if x5 < (x0.length : Int) then (if 0 ≤ x5 then ((laws_szRail.f ((rd_T119 x0 x5).f0) ((rd_T119 x0 x5).f1) ((rd_T119 x0 x5).f2) x1).bind fun t103 => (if t103 < 0 then (some (-1)) else (laws_szRailS.l0 k x0 t103 (wrap64 (x5 + 1))))) else (none)) else (some x1)
def laws_szRailS.f (k : Nat) (l0 : List (S119)) (a1 : Int) : Option (Int) := if (wrap64 (a1 - (l0.length : Int))) < 0 then (some (-1)) else (laws_szRailS.l0 k l0 (wrap64 (a1 - (l0.length : Int))) 0)
theorem laws_szRailS.mono_l : ∀ k, (∀ y0 y1 y2, LeO (laws_szRailS.l0 k y0 y1 y2) (laws_szRailS.l0 (k + 1) y0 y1 y2))
 | 0 => fun _ _ _ r h => by simp [laws_szRailS.l0] at h
 | k + 1 => by
  have ih0 := laws_szRailS.mono_l k
  ·intro y0 y1 y2
   unfold laws_szRailS.l0
   exact mo_
theorem laws_szRailS.mono : ∀ a0 a1 k, LeO (laws_szRailS.f k a0 a1) (laws_szRailS.f (k + 1) a0 a1) := by
 intro a0 a1 k
 have ih0 := laws_szRailS.mono_l k
 unfold laws_szRailS.f
 exact mo_
theorem laws_szRailS.calls (k : Nat) (A0 : Option Addr) (c0 : Nat) (l0 : List (S119)) (a1 : Int) (r : Int) (w : World) (hr0 : Kd.C k119 w A0 l0.length l0) (hc0 : l0.length ≤ c0) (h : laws_szRailS.f k l0 a1 = some r) :
  Calls Tryz.prog 48 #[.slice A0 l0.length c0, .int .i64 a1] w fun e w' => e = .returned (.int .i64 r) ∧ Below w.heap.size w w' := by
 have hu119 := Tryz.underlying119
 have HR0 := Aside0.mk hr0
 have HC0 := Aside0.mk hc0
 clear hr0 hc0
 have HB := Aside0.mk (Below.refl w.heap.size w)
 have H := h
 clear h
 unfold laws_szRailS.f at H
 revert H
 refine if_ ?_ ?_ <;> intro c3b0 H
 ·obtain rfl := Option.some.inj H
  go_enter Tryz.func48, Tryz.ntmps48
  go_wp2
  go_ret
  exact ⟨rr_, bwl_⟩
 ·have H' := Aside0.mk H
  clear H
  go_enter Tryz.func48, Tryz.ntmps48
  go_wp2
  go_loopg [1, 5] k (fun kq v1 v5 w' => ∃ (x1_1 : Int) (x5_1 : Int), v1 = .int .i64 x1_1 ∧ v5 = .int .i64 x5_1 ∧ Aside0 (laws_szRailS.l0 kq l0 x1_1 x5_1 = some r) ∧ Aside0 (kq ≤ k) ∧ Aside0 (Below w.heap.size w w'))
  case atStart => exact ⟨(wrap64 (a1 - (l0.length : Int))), (0), re_, re_, H', ⟨Nat.le_refl _⟩, ⟨bwl_⟩⟩
  case round =>
   clear H'
   (try clear c3b0)
   obtain ⟨x1_1, x5_1, rfl, rfl, HA, HK1, HB⟩ := hrel
   cases gk with
   | zero => exact absurd HA.out (by simp [laws_szRailS.l0])
   | succ k1 =>
    have H := HA.out
    clear HA
    simp only [laws_szRailS.l0] at H
    revert H
    refine if_ ?_ ?_ <;> intro c4b0 H
    ·revert H
     refine in_ ?_
     intro c5b0 H
     revert H
     refine bn_ ?_
     intro t103 A6 H
     revert H
     refine if_ ?_ ?_ <;> intro c7b0 H
     ·obtain rfl := Option.some.inj H
      obtain ⟨ad102, e102, hx102⟩ := at_T119 (Kd.C_below HR0.out HB.out) x5_1 od_ od_
      cases e102
      have p102 := pq_ x5_1 (l0.length : Int)
      go_wp2_with (first | ((with_reducible refine gc_ 81 rfl ?_); refine cl_ Tryz.func81 (laws_szRail.calls _ _ _ _ _ _ A6.out) ?_; intro w8 hb; replace HB := bst_ hb; clear hb))
      go_ret
      exact ⟨rr_, bwl_⟩
     ·have H' := Aside0.mk H
      clear H
      obtain ⟨ad102, e102, hx102⟩ := at_T119 (Kd.C_below HR0.out HB.out) x5_1 od_ od_
      cases e102
      have p102 := pq_ x5_1 (l0.length : Int)
      go_wp2_with (first | ((with_reducible refine gc_ 81 rfl ?_); refine cl_ Tryz.func81 (laws_szRail.calls _ _ _ _ _ _ A6.out) ?_; intro w9 hb; replace HB := bst_ hb; clear hb))
      go_roundg k1
      case measure => have := HK1.out; omega
      case rel => exact ⟨(t103), (wrap64 (x5_1 + 1)), re_, re_, H', ⟨by have := HK1.out; omega⟩, ⟨bwl_⟩⟩
    ·obtain rfl := Option.some.inj H
     go_wp2
     go_ret
     exact ⟨rr_, bwl_⟩
def laws_szStringS.l0 : Nat → List ByteArray → Int → Int → Option (Int)
 | 0, _, _, _ => none
 | k + 1, x0, x1, x5 => if x5 < (x0.length : Int) then (if 0 ≤ x5 then (if (wrap64 (x1 - ((rdOf ByteArray.empty x0 x5).size : Int))) < 0 then (some (-1)) else (laws_szStringS.l0 k x0 (wrap64 (x1 - ((rdOf ByteArray.empty x0 x5).size : Int))) (wrap64 (x5 + 1)))) else (none)) else (some x1)
def laws_szStringS.f (k : Nat) (l0 : List ByteArray) (a1 : Int) : Option (Int) := if (wrap64 (a1 - (l0.length : Int))) < 0 then (some (-1)) else (laws_szStringS.l0 k l0 (wrap64 (a1 - (l0.length : Int))) 0)
theorem laws_szStringS.mono_l : ∀ k, (∀ y0 y1 y2, LeO (laws_szStringS.l0 k y0 y1 y2) (laws_szStringS.l0 (k + 1) y0 y1 y2))
 | 0 => fun _ _ _ r h => by simp [laws_szStringS.l0] at h
 | k + 1 => by
  have ih0 := laws_szStringS.mono_l k
  ·intro y0 y1 y2
   unfold laws_szStringS.l0
   exact mo_
theorem laws_szStringS.mono : ∀ a0 a1 k, LeO (laws_szStringS.f k a0 a1) (laws_szStringS.f (k + 1) a0 a1) := by
 intro a0 a1 k
 have ih0 := laws_szStringS.mono_l k
 unfold laws_szStringS.f
 exact mo_
theorem laws_szStringS.calls (k : Nat) (A0 : Option Addr) (c0 : Nat) (l0 : List ByteArray) (a1 : Int) (r : Int) (w : World) (hr0 : Kd.C Kd.string w A0 l0.length l0) (hc0 : l0.length ≤ c0) (h : laws_szStringS.f k l0 a1 = some r) :
  Calls Tryz.prog 49 #[.slice A0 l0.length c0, .int .i64 a1] w fun e w' => e = .returned (.int .i64 r) ∧ Drawn0 w w' := by
 have HR0 := Aside0.mk hr0
 have HC0 := Aside0.mk hc0
 clear hr0 hc0
 have H := h
 clear h
 unfold laws_szStringS.f at H
 revert H
 refine if_ ?_ ?_ <;> intro c3b0 H
 ·obtain rfl := Option.some.inj H
  go_enter Tryz.func49, Tryz.ntmps49
  go_wp2
  go_ret
  exact ⟨re_, dw_⟩
 ·have H' := Aside0.mk H
  clear H
  go_enter Tryz.func49, Tryz.ntmps49
  go_wp2
  go_loopg [1, 5] k (fun kq v1 v5 w' => ∃ (x1_1 : Int) (x5_1 : Int), v1 = .int .i64 x1_1 ∧ v5 = .int .i64 x5_1 ∧ Aside0 (laws_szStringS.l0 kq l0 x1_1 x5_1 = some r) ∧ Aside0 (kq ≤ k) ∧ Drawn0 w w')
  case atStart => exact ⟨(wrap64 (a1 - (l0.length : Int))), (0), re_, re_, H', ⟨Nat.le_refl _⟩, dw_⟩
  case round =>
   clear H'
   (try clear c3b0)
   obtain ⟨x1_1, x5_1, rfl, rfl, HA, HK1, ⟨m1, rfl⟩⟩ := hrel
   cases gk with
   | zero => exact absurd HA.out (by simp [laws_szStringS.l0])
   | succ k1 =>
    have H := HA.out
    clear HA
    simp only [laws_szStringS.l0] at H
    revert H
    refine if_ ?_ ?_ <;> intro c4b0 H
    ·revert H
     refine in_ ?_
     intro c5b0 H
     revert H
     refine if_ ?_ ?_ <;> intro c6b0 H
     ·obtain rfl := Option.some.inj H
      have p104 : 0 ≤ (x5_1 : Int) := od_
      have q104 : x5_1 < (l0.length : Int) := od_
      obtain ⟨ad104, e104, hx104_0⟩ := Kd.at_string HR0.out x5_1 p104 q104
      cases e104
      replace p104 := eq_true p104
      replace q104 := eq_true q104
      go_wp2
      go_ret
      exact ⟨re_, dw_⟩
     ·have H' := Aside0.mk H
      clear H
      have p104 : 0 ≤ (x5_1 : Int) := od_
      have q104 : x5_1 < (l0.length : Int) := od_
      obtain ⟨ad104, e104, hx104_0⟩ := Kd.at_string HR0.out x5_1 p104 q104
      cases e104
      replace p104 := eq_true p104
      replace q104 := eq_true q104
      go_wp2
      go_roundg k1
      case measure => have := HK1.out; omega
      case rel => exact ⟨(wrap64 (x1_1 - ((rdOf ByteArray.empty l0 x5_1).size : Int))), (wrap64 (x5_1 + 1)), re_, re_, H', ⟨by have := HK1.out; omega⟩, dw_⟩
    ·obtain rfl := Option.some.inj H
     go_wp2
     go_ret
     exact ⟨re_, dw_⟩
def laws_szBelay.f (a0_0 : ByteArray) (a0_1 : ByteArray) (a0_2 : Int) (a1 : Int) : Option (Int) := if (wrap64 (a1 - (a0_0.size : Int))) < 0 then (some (-1)) else (if (wrap64 ((wrap64 (a1 - (a0_0.size : Int))) - (a0_1.size : Int))) < 0 then (some (-1)) else (some (wrap64 ((wrap64 (a1 - (a0_0.size : Int))) - (a0_1.size : Int)))))
theorem laws_szBelay.calls (a0_0 : ByteArray) (a0_1 : ByteArray) (a0_2 : Int) (a1 : Int) (r : Int) (w : World) (h : laws_szBelay.f a0_0 a0_1 a0_2 a1 = some r) :
  Calls Tryz.prog 82 #[.agg #[.string a0_0, .string a0_1, .int .i64 a0_2], .int .i64 a1] w fun e w' => e = .returned (.int .i64 r) ∧ Below w.heap.size w w' := by
 have hu121 := Tryz.underlying121
 have HB := Aside0.mk (Below.refl w.heap.size w)
 have H := h
 clear h
 unfold laws_szBelay.f at H
 revert H
 refine if_ ?_ ?_ <;> intro c3b0 H
 ·obtain rfl := Option.some.inj H
  go_enter Tryz.func82, Tryz.ntmps82
  go_wp2_with (first | ((with_reducible refine gd_ 2 rfl ?_); refine bx_ #[.string a0_0, .string a0_1, .int .i64 a0_2] ?_; intro gb105 hg w4 BK105 hb; have GW105 := bsz_ hg; replace HB := bst_ hb; clear hb hg; have hcz5_0 := c3_ BK105))
  go_ret
  exact ⟨rr_, bwl_⟩
 ·revert H
  refine if_ ?_ ?_ <;> intro c6b0 H
  ·obtain rfl := Option.some.inj H
   go_enter Tryz.func82, Tryz.ntmps82
   go_wp2_with (first | ((with_reducible refine gd_ 2 rfl ?_); refine bx_ #[.string a0_0, .string a0_1, .int .i64 a0_2] ?_; intro gb105 hg w7 BK105 hb; have GW105 := bsz_ hg; replace HB := bst_ hb; clear hb hg; have hcz8_0 := c3_ BK105))
   go_ret
   exact ⟨rr_, bwl_⟩
  ·obtain rfl := Option.some.inj H
   go_enter Tryz.func82, Tryz.ntmps82
   go_wp2_with (first | ((with_reducible refine gd_ 2 rfl ?_); refine bx_ #[.string a0_0, .string a0_1, .int .i64 a0_2] ?_; intro gb105 hg w9 BK105 hb; have GW105 := bsz_ hg; replace HB := bst_ hb; clear hb hg; have hcz10_0 := c3_ BK105))
   go_ret
   exact ⟨rr_, bwl_⟩
def laws_szBelayS.l0 : Nat → List (S121) → Int → Int → Option (Int)
 | 0, _, _, _ => none
 | k + 1, x0, x1, x5 => if x5 < (x0.length : Int) then (if 0 ≤ x5 then ((laws_szBelay.f ((rd_T121 x0 x5).f0) ((rd_T121 x0 x5).f1) ((rd_T121 x0 x5).f2) x1).bind fun t107 => (if t107 < 0 then (some (-1)) else (laws_szBelayS.l0 k x0 t107 (wrap64 (x5 + 1))))) else (none)) else (some x1)
def laws_szBelayS.f (k : Nat) (l0 : List (S121)) (a1 : Int) : Option (Int) := if (wrap64 (a1 - (l0.length : Int))) < 0 then (some (-1)) else (laws_szBelayS.l0 k l0 (wrap64 (a1 - (l0.length : Int))) 0)
theorem laws_szBelayS.mono_l : ∀ k, (∀ y0 y1 y2, LeO (laws_szBelayS.l0 k y0 y1 y2) (laws_szBelayS.l0 (k + 1) y0 y1 y2))
 | 0 => fun _ _ _ r h => by simp [laws_szBelayS.l0] at h
 | k + 1 => by
  have ih0 := laws_szBelayS.mono_l k
  ·intro y0 y1 y2
   unfold laws_szBelayS.l0
   exact mo_
theorem laws_szBelayS.mono : ∀ a0 a1 k, LeO (laws_szBelayS.f k a0 a1) (laws_szBelayS.f (k + 1) a0 a1) := by
 intro a0 a1 k
 have ih0 := laws_szBelayS.mono_l k
 unfold laws_szBelayS.f
 exact mo_
theorem laws_szBelayS.calls (k : Nat) (A0 : Option Addr) (c0 : Nat) (l0 : List (S121)) (a1 : Int) (r : Int) (w : World) (hr0 : Kd.C k121 w A0 l0.length l0) (hc0 : l0.length ≤ c0) (h : laws_szBelayS.f k l0 a1 = some r) :
  Calls Tryz.prog 50 #[.slice A0 l0.length c0, .int .i64 a1] w fun e w' => e = .returned (.int .i64 r) ∧ Below w.heap.size w w' := by
 have hu121 := Tryz.underlying121
 have HR0 := Aside0.mk hr0
 have HC0 := Aside0.mk hc0
 clear hr0 hc0
 have HB := Aside0.mk (Below.refl w.heap.size w)
 have H := h
 clear h
 unfold laws_szBelayS.f at H
 revert H
 refine if_ ?_ ?_ <;> intro c3b0 H
 ·obtain rfl := Option.some.inj H
  go_enter Tryz.func50, Tryz.ntmps50
  go_wp2
  go_ret
  exact ⟨rr_, bwl_⟩
 ·have H' := Aside0.mk H
  clear H
  go_enter Tryz.func50, Tryz.ntmps50
  go_wp2
  go_loopg [1, 5] k (fun kq v1 v5 w' => ∃ (x1_1 : Int) (x5_1 : Int), v1 = .int .i64 x1_1 ∧ v5 = .int .i64 x5_1 ∧ Aside0 (laws_szBelayS.l0 kq l0 x1_1 x5_1 = some r) ∧ Aside0 (kq ≤ k) ∧ Aside0 (Below w.heap.size w w'))
  case atStart => exact ⟨(wrap64 (a1 - (l0.length : Int))), (0), re_, re_, H', ⟨Nat.le_refl _⟩, ⟨bwl_⟩⟩
  case round =>
   clear H'
   (try clear c3b0)
   obtain ⟨x1_1, x5_1, rfl, rfl, HA, HK1, HB⟩ := hrel
   cases gk with
   | zero => exact absurd HA.out (by simp [laws_szBelayS.l0])
   | succ k1 =>
    have H := HA.out
    clear HA
    simp only [laws_szBelayS.l0] at H
    revert H
    refine if_ ?_ ?_ <;> intro c4b0 H
    ·revert H
     refine in_ ?_
     intro c5b0 H
     revert H
     refine bn_ ?_
     intro t107 A6 H
     revert H
     refine if_ ?_ ?_ <;> intro c7b0 H
     ·obtain rfl := Option.some.inj H
      obtain ⟨ad106, e106, hx106⟩ := at_T121 (Kd.C_below HR0.out HB.out) x5_1 od_ od_
      cases e106
      have p106 := pq_ x5_1 (l0.length : Int)
      go_wp2_with (first | ((with_reducible refine gc_ 82 rfl ?_); refine cl_ Tryz.func82 (laws_szBelay.calls _ _ _ _ _ _ A6.out) ?_; intro w8 hb; replace HB := bst_ hb; clear hb))
      go_ret
      exact ⟨rr_, bwl_⟩
     ·have H' := Aside0.mk H
      clear H
      obtain ⟨ad106, e106, hx106⟩ := at_T121 (Kd.C_below HR0.out HB.out) x5_1 od_ od_
      cases e106
      have p106 := pq_ x5_1 (l0.length : Int)
      go_wp2_with (first | ((with_reducible refine gc_ 82 rfl ?_); refine cl_ Tryz.func82 (laws_szBelay.calls _ _ _ _ _ _ A6.out) ?_; intro w9 hb; replace HB := bst_ hb; clear hb))
      go_roundg k1
      case measure => have := HK1.out; omega
      case rel => exact ⟨(t107), (wrap64 (x5_1 + 1)), re_, re_, H', ⟨by have := HK1.out; omega⟩, ⟨bwl_⟩⟩
    ·obtain rfl := Option.some.inj H
     go_wp2
     go_ret
     exact ⟨rr_, bwl_⟩
def laws_szRig.f (k : Nat) (l0_0 : List (S119)) (l0_1 : List ByteArray) (l0_2 : List (S121)) (a1 : Int) : Option (Int) := (laws_szRailS.f k l0_0 a1).bind fun t109 => (if t109 < 0 then (some (-1)) else ((laws_szStringS.f k l0_1 t109).bind fun t110 => (if t110 < 0 then (some (-1)) else ((laws_szBelayS.f k l0_2 t110).bind fun t111 => (if t111 < 0 then (some (-1)) else (some t111))))))
theorem laws_szRig.mono : ∀ a0 a1 a2 a3 k, LeO (laws_szRig.f k a0 a1 a2 a3) (laws_szRig.f (k + 1) a0 a1 a2 a3) := by
 intro a0 a1 a2 a3 k
 unfold laws_szRig.f
 have m0 := @laws_szBelayS.mono
 have m1 := @laws_szRailS.mono
 have m2 := @laws_szStringS.mono
 exact mo_
theorem laws_szRig.calls (k : Nat) (A0_0 : Option Addr) (c0_0 : Nat) (l0_0 : List (S119)) (A0_1 : Option Addr) (c0_1 : Nat) (l0_1 : List ByteArray) (A0_2 : Option Addr) (c0_2 : Nat) (l0_2 : List (S121)) (a1 : Int) (r : Int) (w : World) (hr0_0 : Kd.C k119 w A0_0 l0_0.length l0_0) (hc0_0 : l0_0.length ≤ c0_0) (hr0_1 : Kd.C Kd.string w A0_1 l0_1.length l0_1) (hc0_1 : l0_1.length ≤ c0_1) (hr0_2 : Kd.C k121 w A0_2 l0_2.length l0_2) (hc0_2 : l0_2.length ≤ c0_2) (h : laws_szRig.f k l0_0 l0_1 l0_2 a1 = some r) :
  Calls Tryz.prog 17 #[.agg #[.slice A0_0 l0_0.length c0_0, .slice A0_1 l0_1.length c0_1, .slice A0_2 l0_2.length c0_2], .int .i64 a1] w fun e w' => e = .returned (.int .i64 r) ∧ Below w.heap.size w w' := by
 have hu26 := Tryz.underlying26
 have HR0_0 := Aside0.mk hr0_0
 have HC0_0 := Aside0.mk hc0_0
 clear hr0_0 hc0_0
 have HR0_1 := Aside0.mk hr0_1
 have HC0_1 := Aside0.mk hc0_1
 clear hr0_1 hc0_1
 have HR0_2 := Aside0.mk hr0_2
 have HC0_2 := Aside0.mk hc0_2
 clear hr0_2 hc0_2
 have HB := Aside0.mk (Below.refl w.heap.size w)
 have H := h
 clear h
 unfold laws_szRig.f at H
 revert H
 refine bn_ ?_
 intro t109 A3 H
 revert H
 refine if_ ?_ ?_ <;> intro c4b0 H
 ·obtain rfl := Option.some.inj H
  go_enter Tryz.func17, Tryz.ntmps17
  go_wp2_with (first | ((with_reducible refine gd_ 2 rfl ?_); refine bx_ #[.slice A0_0 l0_0.length c0_0, .slice A0_1 l0_1.length c0_1, .slice A0_2 l0_2.length c0_2] ?_; intro gb108 hg w5 BK108 hb; have GW108 := bsz_ hg; replace HB := bst_ hb; clear hb hg; have hcz6_0 := c3_ BK108) | ((with_reducible refine gc_ 48 rfl ?_); refine cl_ Tryz.func48 (laws_szRailS.calls _ _ _ _ _ _ _ (kc_ HR0_0) HC0_0.out A3.out) ?_; intro w7 hb; replace BK108 := bkb_ BK108 hb; replace HB := bst_ hb; clear hb))
  go_ret
  exact ⟨rr_, bwl_⟩
 ·revert H
  refine bn_ ?_
  intro t110 A8 H
  revert H
  refine if_ ?_ ?_ <;> intro c9b0 H
  ·obtain rfl := Option.some.inj H
   go_enter Tryz.func17, Tryz.ntmps17
   go_wp2_with (first | ((with_reducible refine gd_ 2 rfl ?_); refine bx_ #[.slice A0_0 l0_0.length c0_0, .slice A0_1 l0_1.length c0_1, .slice A0_2 l0_2.length c0_2] ?_; intro gb108 hg w10 BK108 hb; have GW108 := bsz_ hg; replace HB := bst_ hb; clear hb hg; have hcz11_0 := c3_ BK108) | ((with_reducible refine gc_ 48 rfl ?_); refine cl_ Tryz.func48 (laws_szRailS.calls _ _ _ _ _ _ _ (kc_ HR0_0) HC0_0.out A3.out) ?_; intro w12 hb; replace BK108 := bkb_ BK108 hb; replace HB := bst_ hb; clear hb; have hcz13_0 := c3_ BK108) | ((with_reducible refine gc_ 49 rfl ?_); refine cl_ Tryz.func49 (laws_szStringS.calls _ _ _ _ _ _ _ (kc_ HR0_1) HC0_1.out A8.out) ?_; rintro _ ⟨nd, rfl⟩))
   go_ret
   exact ⟨rr_, bwl_⟩
  ·revert H
   refine bn_ ?_
   intro t111 A14 H
   revert H
   refine if_ ?_ ?_ <;> intro c15b0 H
   ·obtain rfl := Option.some.inj H
    go_enter Tryz.func17, Tryz.ntmps17
    go_wp2_with (first | ((with_reducible refine gd_ 2 rfl ?_); refine bx_ #[.slice A0_0 l0_0.length c0_0, .slice A0_1 l0_1.length c0_1, .slice A0_2 l0_2.length c0_2] ?_; intro gb108 hg w16 BK108 hb; have GW108 := bsz_ hg; replace HB := bst_ hb; clear hb hg; have hcz17_0 := c3_ BK108) | ((with_reducible refine gc_ 48 rfl ?_); refine cl_ Tryz.func48 (laws_szRailS.calls _ _ _ _ _ _ _ (kc_ HR0_0) HC0_0.out A3.out) ?_; intro w18 hb; replace BK108 := bkb_ BK108 hb; replace HB := bst_ hb; clear hb; have hcz19_0 := c3_ BK108) | ((with_reducible refine gc_ 49 rfl ?_); refine cl_ Tryz.func49 (laws_szStringS.calls _ _ _ _ _ _ _ (kc_ HR0_1) HC0_1.out A8.out) ?_; rintro _ ⟨nd, rfl⟩) | ((with_reducible refine gc_ 50 rfl ?_); refine ck_ Tryz.func50 (laws_szBelayS.calls _ _ _ _ _ _ _ ?side1 ?side2 A14.out) ?_; (case side1 => repeat (first | exact (Kd.C_below HR0_2.out bwl_) | (with_reducible refine Kd.C_alloc ?_ _) | (with_reducible refine Kd.C_drewN ?_ _) | (with_reducible refine Kd.C_drew ?_))); (case side2 => exact HC0_2.out); rintro e w20 ⟨rfl, hb⟩; refine ⟨_, rfl, ?_⟩; replace BK108 := bkb_ BK108 hb; replace HB := bst_ hb; clear hb))
    go_ret
    exact ⟨rr_, bwl_⟩
   ·obtain rfl := Option.some.inj H
    go_enter Tryz.func17, Tryz.ntmps17
    go_wp2_with (first | ((with_reducible refine gd_ 2 rfl ?_); refine bx_ #[.slice A0_0 l0_0.length c0_0, .slice A0_1 l0_1.length c0_1, .slice A0_2 l0_2.length c0_2] ?_; intro gb108 hg w21 BK108 hb; have GW108 := bsz_ hg; replace HB := bst_ hb; clear hb hg; have hcz22_0 := c3_ BK108) | ((with_reducible refine gc_ 48 rfl ?_); refine cl_ Tryz.func48 (laws_szRailS.calls _ _ _ _ _ _ _ (kc_ HR0_0) HC0_0.out A3.out) ?_; intro w23 hb; replace BK108 := bkb_ BK108 hb; replace HB := bst_ hb; clear hb; have hcz24_0 := c3_ BK108) | ((with_reducible refine gc_ 49 rfl ?_); refine cl_ Tryz.func49 (laws_szStringS.calls _ _ _ _ _ _ _ (kc_ HR0_1) HC0_1.out A8.out) ?_; rintro _ ⟨nd, rfl⟩) | ((with_reducible refine gc_ 50 rfl ?_); refine ck_ Tryz.func50 (laws_szBelayS.calls _ _ _ _ _ _ _ ?side1 ?side2 A14.out) ?_; (case side1 => repeat (first | exact (Kd.C_below HR0_2.out bwl_) | (with_reducible refine Kd.C_alloc ?_ _) | (with_reducible refine Kd.C_drewN ?_ _) | (with_reducible refine Kd.C_drew ?_))); (case side2 => exact HC0_2.out); rintro e w25 ⟨rfl, hb⟩; refine ⟨_, rfl, ?_⟩; replace BK108 := bkb_ BK108 hb; replace HB := bst_ hb; clear hb))
    go_ret
    exact ⟨rr_, bwl_⟩
def laws_szCoil.f (a0_0 : ByteArray) (a0_1 : Int) (a1 : Int) : Option (Int) := if (wrap64 (a1 - (a0_0.size : Int))) < 0 then (some (-1)) else (some (wrap64 (a1 - (a0_0.size : Int))))
theorem laws_szCoil.calls (a0_0 : ByteArray) (a0_1 : Int) (a1 : Int) (r : Int) (w : World) (h : laws_szCoil.f a0_0 a0_1 a1 = some r) :
  Calls Tryz.prog 51 #[.agg #[.string a0_0, .int .i64 a0_1], .int .i64 a1] w fun e w' => e = .returned (.int .i64 r) ∧ Below w.heap.size w w' := by
 have hu88 := Tryz.underlying88
 have HB := Aside0.mk (Below.refl w.heap.size w)
 have H := h
 clear h
 unfold laws_szCoil.f at H
 revert H
 refine if_ ?_ ?_ <;> intro c3b0 H
 ·obtain rfl := Option.some.inj H
  go_enter Tryz.func51, Tryz.ntmps51
  go_wp2_with (first | ((with_reducible refine gd_ 2 rfl ?_); refine bx_ #[.string a0_0, .int .i64 a0_1] ?_; intro gb112 hg w4 BK112 hb; have GW112 := bsz_ hg; replace HB := bst_ hb; clear hb hg; have hcz5_0 := c2_ BK112))
  go_ret
  exact ⟨rr_, bwl_⟩
 ·obtain rfl := Option.some.inj H
  go_enter Tryz.func51, Tryz.ntmps51
  go_wp2_with (first | ((with_reducible refine gd_ 2 rfl ?_); refine bx_ #[.string a0_0, .int .i64 a0_1] ?_; intro gb112 hg w6 BK112 hb; have GW112 := bsz_ hg; replace HB := bst_ hb; clear hb hg; have hcz7_0 := c2_ BK112))
  go_ret
  exact ⟨rr_, bwl_⟩
def laws_szCoilS.l0 : Nat → List (S88) → Int → Int → Option (Int)
 | 0, _, _, _ => none
 | k + 1, x0, x1, x5 => if x5 < (x0.length : Int) then (if 0 ≤ x5 then ((laws_szCoil.f ((rd_T88 x0 x5).f0) ((rd_T88 x0 x5).f1) x1).bind fun t114 => (if t114 < 0 then (some (-1)) else (laws_szCoilS.l0 k x0 t114 (wrap64 (x5 + 1))))) else (none)) else (some x1)
def laws_szCoilS.f (k : Nat) (l0 : List (S88)) (a1 : Int) : Option (Int) := if (wrap64 (a1 - (l0.length : Int))) < 0 then (some (-1)) else (laws_szCoilS.l0 k l0 (wrap64 (a1 - (l0.length : Int))) 0)
theorem laws_szCoilS.mono_l : ∀ k, (∀ y0 y1 y2, LeO (laws_szCoilS.l0 k y0 y1 y2) (laws_szCoilS.l0 (k + 1) y0 y1 y2))
 | 0 => fun _ _ _ r h => by simp [laws_szCoilS.l0] at h
 | k + 1 => by
  have ih0 := laws_szCoilS.mono_l k
  ·intro y0 y1 y2
   unfold laws_szCoilS.l0
   exact mo_
theorem laws_szCoilS.mono : ∀ a0 a1 k, LeO (laws_szCoilS.f k a0 a1) (laws_szCoilS.f (k + 1) a0 a1) := by
 intro a0 a1 k
 have ih0 := laws_szCoilS.mono_l k
 unfold laws_szCoilS.f
 exact mo_
theorem laws_szCoilS.calls (k : Nat) (A0 : Option Addr) (c0 : Nat) (l0 : List (S88)) (a1 : Int) (r : Int) (w : World) (hr0 : Kd.C k88 w A0 l0.length l0) (hc0 : l0.length ≤ c0) (h : laws_szCoilS.f k l0 a1 = some r) :
  Calls Tryz.prog 18 #[.slice A0 l0.length c0, .int .i64 a1] w fun e w' => e = .returned (.int .i64 r) ∧ Below w.heap.size w w' := by
 have hu88 := Tryz.underlying88
 have HR0 := Aside0.mk hr0
 have HC0 := Aside0.mk hc0
 clear hr0 hc0
 have HB := Aside0.mk (Below.refl w.heap.size w)
 have H := h
 clear h
 unfold laws_szCoilS.f at H
 revert H
 refine if_ ?_ ?_ <;> intro c3b0 H
 ·obtain rfl := Option.some.inj H
  go_enter Tryz.func18, Tryz.ntmps18
  go_wp2
  go_ret
  exact ⟨rr_, bwl_⟩
 ·have H' := Aside0.mk H
  clear H
  go_enter Tryz.func18, Tryz.ntmps18
  go_wp2
  go_loopg [1, 5] k (fun kq v1 v5 w' => ∃ (x1_1 : Int) (x5_1 : Int), v1 = .int .i64 x1_1 ∧ v5 = .int .i64 x5_1 ∧ Aside0 (laws_szCoilS.l0 kq l0 x1_1 x5_1 = some r) ∧ Aside0 (kq ≤ k) ∧ Aside0 (Below w.heap.size w w'))
  case atStart => exact ⟨(wrap64 (a1 - (l0.length : Int))), (0), re_, re_, H', ⟨Nat.le_refl _⟩, ⟨bwl_⟩⟩
  case round =>
   clear H'
   (try clear c3b0)
   obtain ⟨x1_1, x5_1, rfl, rfl, HA, HK1, HB⟩ := hrel
   cases gk with
   | zero => exact absurd HA.out (by simp [laws_szCoilS.l0])
   | succ k1 =>
    have H := HA.out
    clear HA
    simp only [laws_szCoilS.l0] at H
    revert H
    refine if_ ?_ ?_ <;> intro c4b0 H
    ·revert H
     refine in_ ?_
     intro c5b0 H
     revert H
     refine bn_ ?_
     intro t114 A6 H
     revert H
     refine if_ ?_ ?_ <;> intro c7b0 H
     ·obtain rfl := Option.some.inj H
      obtain ⟨ad113, e113, hx113⟩ := at_T88 (Kd.C_below HR0.out HB.out) x5_1 od_ od_
      cases e113
      have p113 := pq_ x5_1 (l0.length : Int)
      go_wp2_with (first | ((with_reducible refine gc_ 51 rfl ?_); refine cl_ Tryz.func51 (laws_szCoil.calls _ _ _ _ _ A6.out) ?_; intro w8 hb; replace HB := bst_ hb; clear hb))
      go_ret
      exact ⟨rr_, bwl_⟩
     ·have H' := Aside0.mk H
      clear H
      obtain ⟨ad113, e113, hx113⟩ := at_T88 (Kd.C_below HR0.out HB.out) x5_1 od_ od_
      cases e113
      have p113 := pq_ x5_1 (l0.length : Int)
      go_wp2_with (first | ((with_reducible refine gc_ 51 rfl ?_); refine cl_ Tryz.func51 (laws_szCoil.calls _ _ _ _ _ A6.out) ?_; intro w9 hb; replace HB := bst_ hb; clear hb))
      go_roundg k1
      case measure => have := HK1.out; omega
      case rel => exact ⟨(t114), (wrap64 (x5_1 + 1)), re_, re_, H', ⟨by have := HK1.out; omega⟩, ⟨bwl_⟩⟩
    ·obtain rfl := Option.some.inj H
     go_wp2
     go_ret
     exact ⟨rr_, bwl_⟩
def laws_szLog.f (a0_0 : ByteArray) (a0_1 : ByteArray) (a1 : Int) : Option (Int) := if (wrap64 (a1 - (a0_0.size : Int))) < 0 then (some (-1)) else (if (wrap64 ((wrap64 (a1 - (a0_0.size : Int))) - (a0_1.size : Int))) < 0 then (some (-1)) else (some (wrap64 ((wrap64 (a1 - (a0_0.size : Int))) - (a0_1.size : Int)))))
theorem laws_szLog.calls (a0_0 : ByteArray) (a0_1 : ByteArray) (a1 : Int) (r : Int) (w : World) (h : laws_szLog.f a0_0 a0_1 a1 = some r) :
  Calls Tryz.prog 19 #[.agg #[.string a0_0, .string a0_1], .int .i64 a1] w fun e w' => e = .returned (.int .i64 r) ∧ Below w.heap.size w w' := by
 have hu29 := Tryz.underlying29
 have HB := Aside0.mk (Below.refl w.heap.size w)
 have H := h
 clear h
 unfold laws_szLog.f at H
 revert H
 refine if_ ?_ ?_ <;> intro c3b0 H
 ·obtain rfl := Option.some.inj H
  go_enter Tryz.func19, Tryz.ntmps19
  go_wp2_with (first | ((with_reducible refine gd_ 2 rfl ?_); refine bx_ #[.string a0_0, .string a0_1] ?_; intro gb115 hg w4 BK115 hb; have GW115 := bsz_ hg; replace HB := bst_ hb; clear hb hg; have hcz5_0 := c2_ BK115))
  go_ret
  exact ⟨rr_, bwl_⟩
 ·revert H
  refine if_ ?_ ?_ <;> intro c6b0 H
  ·obtain rfl := Option.some.inj H
   go_enter Tryz.func19, Tryz.ntmps19
   go_wp2_with (first | ((with_reducible refine gd_ 2 rfl ?_); refine bx_ #[.string a0_0, .string a0_1] ?_; intro gb115 hg w7 BK115 hb; have GW115 := bsz_ hg; replace HB := bst_ hb; clear hb hg; have hcz8_0 := c2_ BK115))
   go_ret
   exact ⟨rr_, bwl_⟩
  ·obtain rfl := Option.some.inj H
   go_enter Tryz.func19, Tryz.ntmps19
   go_wp2_with (first | ((with_reducible refine gd_ 2 rfl ?_); refine bx_ #[.string a0_0, .string a0_1] ?_; intro gb115 hg w9 BK115 hb; have GW115 := bsz_ hg; replace HB := bst_ hb; clear hb hg; have hcz10_0 := c2_ BK115))
   go_ret
   exact ⟨rr_, bwl_⟩
def laws_szDesk.f (k : Nat) (a0_0 : Int) (l0_1 : List (S119)) (l0_2 : List ByteArray) (l0_3 : List (S121)) (l0_4 : List (S88)) (a0_5 : ByteArray) (a0_6 : ByteArray) (a1 : Int) : Option (Int) := (laws_szRig.f k l0_1 l0_2 l0_3 a1).bind fun t117 => (if t117 < 0 then (some (-1)) else ((laws_szCoilS.f k l0_4 t117).bind fun t118 => (if t118 < 0 then (some (-1)) else ((laws_szLog.f a0_5 a0_6 t118).bind fun t119 => (if t119 < 0 then (some (-1)) else (some t119))))))
theorem laws_szDesk.mono : ∀ a0 a1 a2 a3 a4 a5 a6 a7 k, LeO (laws_szDesk.f k a0 a1 a2 a3 a4 a5 a6 a7) (laws_szDesk.f (k + 1) a0 a1 a2 a3 a4 a5 a6 a7) := by
 intro a0 a1 a2 a3 a4 a5 a6 a7 k
 unfold laws_szDesk.f
 have m0 := @laws_szCoilS.mono
 have m1 := @laws_szRig.mono
 exact mo_
theorem laws_szDesk.calls (k : Nat) (a0_0 : Int) (A0_1 : Option Addr) (c0_1 : Nat) (l0_1 : List (S119)) (A0_2 : Option Addr) (c0_2 : Nat) (l0_2 : List ByteArray) (A0_3 : Option Addr) (c0_3 : Nat) (l0_3 : List (S121)) (A0_4 : Option Addr) (c0_4 : Nat) (l0_4 : List (S88)) (a0_5 : ByteArray) (a0_6 : ByteArray) (a1 : Int) (r : Int) (w : World) (hr0_1 : Kd.C k119 w A0_1 l0_1.length l0_1) (hc0_1 : l0_1.length ≤ c0_1) (hr0_2 : Kd.C Kd.string w A0_2 l0_2.length l0_2) (hc0_2 : l0_2.length ≤ c0_2) (hr0_3 : Kd.C k121 w A0_3 l0_3.length l0_3) (hc0_3 : l0_3.length ≤ c0_3) (hr0_4 : Kd.C k88 w A0_4 l0_4.length l0_4) (hc0_4 : l0_4.length ≤ c0_4) (h : laws_szDesk.f k a0_0 l0_1 l0_2 l0_3 l0_4 a0_5 a0_6 a1 = some r) :
  Calls Tryz.prog 6 #[.agg #[.int .i64 a0_0, .slice A0_1 l0_1.length c0_1, .slice A0_2 l0_2.length c0_2, .slice A0_3 l0_3.length c0_3, .slice A0_4 l0_4.length c0_4, .string a0_5, .string a0_6], .int .i64 a1] w fun e w' => e = .returned (.int .i64 r) ∧ Below w.heap.size w w' := by
 have hu31 := Tryz.underlying31
 have hu26 := Tryz.underlying26
 have hu29 := Tryz.underlying29
 have HR0_1 := Aside0.mk hr0_1
 have HC0_1 := Aside0.mk hc0_1
 clear hr0_1 hc0_1
 have HR0_2 := Aside0.mk hr0_2
 have HC0_2 := Aside0.mk hc0_2
 clear hr0_2 hc0_2
 have HR0_3 := Aside0.mk hr0_3
 have HC0_3 := Aside0.mk hc0_3
 clear hr0_3 hc0_3
 have HR0_4 := Aside0.mk hr0_4
 have HC0_4 := Aside0.mk hc0_4
 clear hr0_4 hc0_4
 have HB := Aside0.mk (Below.refl w.heap.size w)
 have H := h
 clear h
 unfold laws_szDesk.f at H
 revert H
 refine bn_ ?_
 intro t117 A3 H
 revert H
 refine if_ ?_ ?_ <;> intro c4b0 H
 ·obtain rfl := Option.some.inj H
  go_enter Tryz.func6, Tryz.ntmps6
  go_wp2_with (first | ((with_reducible refine gd_ 2 rfl ?_); refine bx_ #[.int .i64 a0_0, .slice A0_1 l0_1.length c0_1, .slice A0_2 l0_2.length c0_2, .slice A0_3 l0_3.length c0_3, .slice A0_4 l0_4.length c0_4, .string a0_5, .string a0_6] ?_; intro gb116 hg w5 BK116 hb; have GW116 := bsz_ hg; replace HB := bst_ hb; clear hb hg; have hcz6_0 := c7_ BK116) | ((with_reducible refine gc_ 17 rfl ?_); refine cl_ Tryz.func17 (laws_szRig.calls _ _ _ _ _ _ _ _ _ _ _ _ _ (kc_ HR0_1) HC0_1.out (kc_ HR0_2) HC0_2.out (kc_ HR0_3) HC0_3.out A3.out) ?_; intro w7 hb; replace BK116 := bkb_ BK116 hb; replace HB := bst_ hb; clear hb))
  go_ret
  exact ⟨rr_, bwl_⟩
 ·revert H
  refine bn_ ?_
  intro t118 A8 H
  revert H
  refine if_ ?_ ?_ <;> intro c9b0 H
  ·obtain rfl := Option.some.inj H
   go_enter Tryz.func6, Tryz.ntmps6
   go_wp2_with (first | ((with_reducible refine gd_ 2 rfl ?_); refine bx_ #[.int .i64 a0_0, .slice A0_1 l0_1.length c0_1, .slice A0_2 l0_2.length c0_2, .slice A0_3 l0_3.length c0_3, .slice A0_4 l0_4.length c0_4, .string a0_5, .string a0_6] ?_; intro gb116 hg w10 BK116 hb; have GW116 := bsz_ hg; replace HB := bst_ hb; clear hb hg; have hcz11_0 := c7_ BK116) | ((with_reducible refine gc_ 17 rfl ?_); refine cl_ Tryz.func17 (laws_szRig.calls _ _ _ _ _ _ _ _ _ _ _ _ _ (kc_ HR0_1) HC0_1.out (kc_ HR0_2) HC0_2.out (kc_ HR0_3) HC0_3.out A3.out) ?_; intro w12 hb; replace BK116 := bkb_ BK116 hb; replace HB := bst_ hb; clear hb; have hcz13_0 := c7_ BK116) | ((with_reducible refine gc_ 18 rfl ?_); refine cl_ Tryz.func18 (laws_szCoilS.calls _ _ _ _ _ _ _ (kc_ HR0_4) HC0_4.out A8.out) ?_; intro w14 hb; replace BK116 := bkb_ BK116 hb; replace HB := bst_ hb; clear hb))
   go_ret
   exact ⟨rr_, bwl_⟩
  ·revert H
   refine bn_ ?_
   intro t119 A15 H
   revert H
   refine if_ ?_ ?_ <;> intro c16b0 H
   ·obtain rfl := Option.some.inj H
    go_enter Tryz.func6, Tryz.ntmps6
    go_wp2_with (first | ((with_reducible refine gd_ 2 rfl ?_); refine bx_ #[.int .i64 a0_0, .slice A0_1 l0_1.length c0_1, .slice A0_2 l0_2.length c0_2, .slice A0_3 l0_3.length c0_3, .slice A0_4 l0_4.length c0_4, .string a0_5, .string a0_6] ?_; intro gb116 hg w17 BK116 hb; have GW116 := bsz_ hg; replace HB := bst_ hb; clear hb hg; have hcz18_0 := c7_ BK116) | ((with_reducible refine gc_ 17 rfl ?_); refine cl_ Tryz.func17 (laws_szRig.calls _ _ _ _ _ _ _ _ _ _ _ _ _ (kc_ HR0_1) HC0_1.out (kc_ HR0_2) HC0_2.out (kc_ HR0_3) HC0_3.out A3.out) ?_; intro w19 hb; replace BK116 := bkb_ BK116 hb; replace HB := bst_ hb; clear hb; have hcz20_0 := c7_ BK116) | ((with_reducible refine gc_ 18 rfl ?_); refine cl_ Tryz.func18 (laws_szCoilS.calls _ _ _ _ _ _ _ (kc_ HR0_4) HC0_4.out A8.out) ?_; intro w21 hb; replace BK116 := bkb_ BK116 hb; replace HB := bst_ hb; clear hb; have hcz22_0 := c7_ BK116) | ((with_reducible refine gc_ 19 rfl ?_); refine cl_ Tryz.func19 (laws_szLog.calls _ _ _ _ _ A15.out) ?_; intro w23 hb; replace BK116 := bkb_ BK116 hb; replace HB := bst_ hb; clear hb))
    go_ret
    exact ⟨rr_, bwl_⟩
   ·obtain rfl := Option.some.inj H
    go_enter Tryz.func6, Tryz.ntmps6
    go_wp2_with (first | ((with_reducible refine gd_ 2 rfl ?_); refine bx_ #[.int .i64 a0_0, .slice A0_1 l0_1.length c0_1, .slice A0_2 l0_2.length c0_2, .slice A0_3 l0_3.length c0_3, .slice A0_4 l0_4.length c0_4, .string a0_5, .string a0_6] ?_; intro gb116 hg w24 BK116 hb; have GW116 := bsz_ hg; replace HB := bst_ hb; clear hb hg; have hcz25_0 := c7_ BK116) | ((with_reducible refine gc_ 17 rfl ?_); refine cl_ Tryz.func17 (laws_szRig.calls _ _ _ _ _ _ _ _ _ _ _ _ _ (kc_ HR0_1) HC0_1.out (kc_ HR0_2) HC0_2.out (kc_ HR0_3) HC0_3.out A3.out) ?_; intro w26 hb; replace BK116 := bkb_ BK116 hb; replace HB := bst_ hb; clear hb; have hcz27_0 := c7_ BK116) | ((with_reducible refine gc_ 18 rfl ?_); refine cl_ Tryz.func18 (laws_szCoilS.calls _ _ _ _ _ _ _ (kc_ HR0_4) HC0_4.out A8.out) ?_; intro w28 hb; replace BK116 := bkb_ BK116 hb; replace HB := bst_ hb; clear hb; have hcz29_0 := c7_ BK116) | ((with_reducible refine gc_ 19 rfl ?_); refine cl_ Tryz.func19 (laws_szLog.calls _ _ _ _ _ A15.out) ?_; intro w30 hb; replace BK116 := bkb_ BK116 hb; replace HB := bst_ hb; clear hb))
    go_ret
    exact ⟨rr_, bwl_⟩
def laws_toRail.f (a0_0 : ByteArray) (a0_1 : ByteArray) (a0_2 : Int) : Option (ByteArray × ByteArray × Int) := some (a0_0, a0_1, a0_2)
theorem laws_toRail.calls (a0_0 : ByteArray) (a0_1 : ByteArray) (a0_2 : Int) (r1 : ByteArray) (r2 : ByteArray) (r3 : Int) (w : World) (h : laws_toRail.f a0_0 a0_1 a0_2 = some (r1, r2, r3)) :
  Calls Tryz.prog 88 #[.agg #[.string a0_0, .string a0_1, .int .i64 a0_2]] w fun e w' => e = .returned (.agg #[.string r1, .string r2, .int .i64 r3]) ∧ Below w.heap.size w w' := by
 have hu119 := Tryz.underlying119
 have hu97 := Tryz.underlying97
 have HB := Aside0.mk (Below.refl w.heap.size w)
 have H := h
 clear h
 unfold laws_toRail.f at H
 simp only [Option.some.injEq, Prod.mk.injEq] at H
 obtain ⟨rfl, rfl, rfl⟩ := H
 go_enter Tryz.func88, Tryz.ntmps88
 go_wp2_with (first | ((with_reducible refine gd_ 1 rfl ?_); refine bx_ #[.string a0_0, .string a0_1, .int .i64 a0_2] ?_; intro gb120 hg w2 BK120 hb; have GW120 := bsz_ hg; replace HB := bst_ hb; clear hb hg) | ((with_reducible refine gd_ 2 rfl ?_); refine bx_ #[.string (⟨#[]⟩ : ByteArray), .string (⟨#[]⟩ : ByteArray), .int .i64 0] ?_; intro gb121 hg w3 BK121 hb; have GW121 := bsz_ hg; replace HB := bst_ hb; have NB120_121 := nbl_ BK120 hg; have NB121_120 := nbr_ BK120 hg; replace BK120 := bkb_ BK120 hb; clear hb hg) | ((with_reducible refine gd_ 3 rfl ?_); refine bx_ #[.string (⟨#[]⟩ : ByteArray), .string (⟨#[]⟩ : ByteArray), .int .i64 0] ?_; intro gb122 hg w4 BK122 hb; have GW122 := bsz_ hg; replace HB := bst_ hb; have NB120_122 := nbl_ BK120 hg; have NB122_120 := nbr_ BK120 hg; replace BK120 := bkb_ BK120 hb; have NB121_122 := nbl_ BK121 hg; have NB122_121 := nbr_ BK121 hg; replace BK121 := bkb_ BK121 hb; clear hb hg; have hnb5 := NB120_121.out; have hnc5 := NB121_120.out; have hnb6 := NB120_122.out; have hnc6 := NB122_120.out; have hcz7_0 := c3_ BK120; have hnb8 := NB122_121.out; have hnc8 := NB121_122.out; have hcz9_0 := c3_ BK122; have hcz9_1 := c3_ BK121))
 refine bodyPost_ret (results_cell_row rfl _ _ gb121 97 #[.string a0_0, .string a0_1, .int .i64 a0_2] (0, 0) _ rfl (kbp_ BK121) Tryz.underlying97 rfl (by kernel_rfl)) rfl ?_
 exact ⟨rr_, bwl_⟩
def laws_toRailS.l0 : Nat → List (S119) → List (S97) → Int → Option ((List (S97)))
 | 0, _, _, _ => none
 | k + 1, x0, x3, x4 => if x4 < (x0.length : Int) then (if 0 ≤ x4 then ((laws_toRail.f ((rd_T119 x0 x4).f0) ((rd_T119 x0 x4).f1) ((rd_T119 x0 x4).f2)).bind fun bt127 => (if x4 < (x3.length : Int) then (laws_toRailS.l0 k x0 (x3.set (x4 : Int).toNat (⟨bt127.1, bt127.2.1, bt127.2.2⟩ : S97)) (wrap64 (x4 + 1))) else (none))) else (none)) else (some x3)
def laws_toRailS.f (k : Nat) (l0 : List (S119)) : Option ((List (S97))) := if 0 ≤ (l0.length : Int) then (if ((l0.length : Int) : Int).toNat ≤ 7036874417766 then (laws_toRailS.l0 k l0 (List.replicate ((l0.length : Int) : Int).toNat z97) 0) else (none)) else (none)
theorem laws_toRailS.mono_l : ∀ k, (∀ y0 y1 y2, LeO (laws_toRailS.l0 k y0 y1 y2) (laws_toRailS.l0 (k + 1) y0 y1 y2))
 | 0 => fun _ _ _ r h => by simp [laws_toRailS.l0] at h
 | k + 1 => by
  have ih0 := laws_toRailS.mono_l k
  ·intro y0 y1 y2
   unfold laws_toRailS.l0
   exact mo_
theorem laws_toRailS.mono : ∀ a0 k, LeO (laws_toRailS.f k a0) (laws_toRailS.f (k + 1) a0) := by
 intro a0 k
 have ih0 := laws_toRailS.mono_l k
 unfold laws_toRailS.f
 exact mo_
theorem laws_toRailS.calls (k : Nat) (A0 : Option Addr) (c0 : Nat) (l0 : List (S119)) (r : List (S97)) (w : World) (hr0 : Kd.C k119 w A0 l0.length l0) (hc0 : l0.length ≤ c0) (h : laws_toRailS.f k l0 = some r) :
  Calls Tryz.prog 56 #[.slice A0 l0.length c0] w fun e w' => ∃ v0_ : Value, e = .returned (v0_) ∧ Kd.R k97 97 w' w.heap.size (fun _ => True) v0_ r ∧ Below w.heap.size w w' := by
 have hu119 := Tryz.underlying119
 have hu97 := Tryz.underlying97
 have HR0 := Aside0.mk hr0
 have HC0 := Aside0.mk hc0
 clear hr0 hc0
 have HB := Aside0.mk (Below.refl w.heap.size w)
 have H := h
 clear h
 unfold laws_toRailS.f at H
 by_cases c2 : 0 ≤ (l0.length : Int)
 ·rw [if_pos c2] at H
  have c2b0 := eq_true c2
  have c2b1 : decide (0 ≤ (l0.length : Int)) = true := decide_eq_true c2
  clear c2
  by_cases c3 : ((l0.length : Int) : Int).toNat ≤ 7036874417766
  ·rw [if_pos c3] at H
   have c3b0 := eq_true c3
   have c3b1 : decide (((l0.length : Int) : Int).toNat ≤ 7036874417766) = true := decide_eq_true c3
   clear c3
   obtain ⟨y123, hy123⟩ : ∃ y_ : List (S97), y_ = (List.replicate ((l0.length : Int) : Int).toNat z97) := ⟨_, rfl⟩
   replace H : (laws_toRailS.l0 k l0 y123 0) = some r := by first | (rw [hy123]; with_reducible exact H) | (have H2_ := (Option.bind_some _ _).symm.trans H; rw [hy123]; with_reducible exact H2_) | (have H2_ := (Option.bind_some _ _).symm.trans H; with_reducible exact H2_) | with_reducible exact H | (rw [hy123]; exact H) | exact H
   have Ny123 := Aside0.mk hy123
   clear hy123
   have H' := Aside0.mk H
   clear H
   go_enter Tryz.func56, Tryz.ntmps56
   go_wp2_with (first | ((with_reducible refine gd_ 7 rfl ?_); refine Kd.R_make k97 _ 97 rfl (N := 7) rfl 34 _ _ rfl (l0.length : Int) rfl rfl Tryz.underlying34 (.agg #[(.string ⟨#[]⟩), (.string ⟨#[]⟩), (.int .i64 0)]) 40 info97 rfl (by decide) (by omega) z97 (ok := fun _ => True) (okp := fun _ => True) (k97_mkM _ _ _ z97 ) (fun _ hk => hk) trivial (od_) (Nat.le_trans (Nat.mul_le_mul_right _ (od_ : (l0.length : Int).toNat ≤ 7036874417766)) (by omega)) (Below.refl _ _) (Nat.le_refl _) ?_; intro v124 w4 ho5 hb hg_ hnew_; clear hg_ hnew_; (first | rw [← Ny123.out] at ho5 | (simp only [Int.reduceToNat] at ho5; rw [← Ny123.out] at ho5)); have HO125 := kl_ ho5; replace HB := bst_ hb; clear hb ho5))
   go_loopg [4] k (fun kq v4 w' => ∃ (x3_1 : List (S97)) (x4_1 : Int), v4 = .int .i64 x4_1 ∧ Aside0 (laws_toRailS.l0 kq l0 x3_1 x4_1 = some r) ∧ Aside0 (kq ≤ k) ∧ Aside0 (Kd.R k97 97 w' w.heap.size (fun _ => True) v124 x3_1) ∧ Aside0 (Below w.heap.size w w'))
   case atStart => exact ⟨(y123), (0), re_, H', ⟨Nat.le_refl _⟩, ⟨ks_ HO125⟩, ⟨bwl_⟩⟩
   case round =>
    clear H'
    (try clear c2);(try clear c2b0);(try clear c2b1);(try clear c3);(try clear c3b0);(try clear c3b1)
    obtain ⟨x3_1, x4_1, rfl, HA, HK1, HO_3, HB⟩ := hrel
    cases gk with
    | zero => exact absurd HA.out (by simp [laws_toRailS.l0])
    | succ k1 =>
     have H := HA.out
     clear HA
     simp only [laws_toRailS.l0] at H
     revert H
     refine if_ ?_ ?_ <;> intro c6b0 H
     ·revert H
      refine in_ ?_
      intro c7b0 H
      revert H
      refine bn_ ?_
      rintro ⟨t127, t128, t129⟩ A8 H
      revert H
      refine in_ ?_
      intro c9b0 H
      obtain ⟨y130, hy130⟩ : ∃ y_ : List (S97), y_ = (x3_1.set (x4_1 : Int).toNat (⟨t127, t128, t129⟩ : S97)) := ⟨_, rfl⟩
      replace H : (laws_toRailS.l0 k1 l0 y130 (wrap64 (x4_1 + 1))) = some r := by first | (rw [hy130]; with_reducible exact H) | (have H2_ := (Option.bind_some _ _).symm.trans H; rw [hy130]; with_reducible exact H2_) | (have H2_ := (Option.bind_some _ _).symm.trans H; with_reducible exact H2_) | with_reducible exact H | (rw [hy130]; exact H) | exact H
      have Ny130 := Aside0.mk hy130
      clear hy130
      have H' := Aside0.mk H
      clear H
      obtain ⟨ad126, e126, hx126⟩ := at_T119 (Kd.C_below HR0.out HB.out) x4_1 od_ od_
      cases e126
      have p126 := pq_ x4_1 (l0.length : Int)
      go_wp2_with (first | ((with_reducible refine gc_ 88 rfl ?_); refine cl_ Tryz.func88 (laws_toRail.calls _ _ _ _ _ _ _ A8.out) ?_; intro w11 hb; replace HO_3 := kr_ HO_3 hb; replace HB := bst_ hb; clear hb; have p10 : 0 ≤ (x4_1 : Int) := od_; have q10 : (x4_1 : Int) < ((x3_1.length : Int) : Int) := od_; obtain ⟨go10, co10, eo10, gb10, gl10, cl10, HG10⟩ := Kd.R_form HO_3.out (by omega); (first | cases eo10 | (injection eo10 with ea_ en_ ec_; (first | subst ea_ | (injection ea_ with ea_; subst ea_)); subst ec_; clear en_)); have GB10 := Aside0.mk gb10; have GG10 := Aside0.mk HG10; clear gb10 gl10 HG10; obtain ⟨ce10, hcl10, hM10, hcc10, hfr10⟩ := Kd.R_elem HO_3.out z97 (x4_1 : Int) p10 q10; obtain rfl := k97_openM hM10; have hx10_0 : w11.cell? ⟨go10, (x4_1 : Int).toNat * 3, none⟩ = some (.string ((rd_T97 x3_1 x4_1).f0)) := hcc10 0 _ rfl; have hx10_1 : w11.cell? ⟨go10, (x4_1 : Int).toNat * 3 + 1, none⟩ = some (.string ((rd_T97 x3_1 x4_1).f1)) := hcc10 1 _ rfl; have hx10_2 : w11.cell? ⟨go10, (x4_1 : Int).toNat * 3 + 2, none⟩ = some (.int .i64 ((rd_T97 x3_1 x4_1).f2)) := hcc10 2 _ rfl; have hf10_0 : w11.frozen? ⟨go10, (x4_1 : Int).toNat * 3, none⟩ = false := hfr10 0; have hf10_1 : w11.frozen? ⟨go10, (x4_1 : Int).toNat * 3 + 1, none⟩ = false := hfr10 1; have hf10_2 : w11.frozen? ⟨go10, (x4_1 : Int).toNat * 3 + 2, none⟩ = false := hfr10 2; clear hcl10 hcc10 hfr10 hM10; replace p10 := eq_true p10; replace q10 := eq_true q10; have HX12 := Aside0.mk (show Kd.R k97 97 w11 w.heap.size (fun _ => True) (.slice (some ⟨go10, 0, none⟩) x3_1.length co10) x3_1 from (ks_ HO_3)); obtain ⟨ce12, hcl12, hM12, hcc12, hfr12⟩ := Kd.R_elem HX12.out z97 (x4_1 : Int) (od_) (by have h_ : (x4_1 : Int) < ((x3_1.length : Int) : Int) := od_; first | exact h_ | (have e_ := (Kd.R_reads' HO_3.out).1; omega) | simpa using h_); obtain rfl := k97_openM hM12; have HP12 := Kd.R_seg HX12.out (x4_1 : Int) (od_) (by have h_ : (x4_1 : Int) < ((x3_1.length : Int) : Int) := od_; first | exact h_ | (have e_ := (Kd.R_reads' HO_3.out).1; omega) | simpa using h_) (seg := [.string t127, .string t128, .int .i64 t129]) (j := 0) hcl12 hcc12 (show 3 ≤ 3 from by decide) (x' := (⟨t127, t128, t129⟩ : S97)) (k97_mkM _ _ _ (⟨t127, t128, t129⟩ : S97) ) (fun _ hk => hk); have hx12_0 := hcc12 0 _ rfl; (try simp only [show (k97).sz = 3 from rfl, Nat.mul_one, Nat.add_zero] at hx12_0); have hf12_0 := hfr12 0; (try simp only [show (k97).sz = 3 from rfl, Nat.mul_one, Nat.add_zero] at hf12_0); have hx12_1 := hcc12 1 _ rfl; (try simp only [show (k97).sz = 3 from rfl, Nat.mul_one, Nat.add_zero] at hx12_1); have hf12_1 := hfr12 1; (try simp only [show (k97).sz = 3 from rfl, Nat.mul_one, Nat.add_zero] at hf12_1); have hx12_2 := hcc12 2 _ rfl; (try simp only [show (k97).sz = 3 from rfl, Nat.mul_one, Nat.add_zero] at hx12_2); have hf12_2 := hfr12 2; (try simp only [show (k97).sz = 3 from rfl, Nat.mul_one, Nat.add_zero] at hf12_2); clear hcl12 hcc12 hfr12 hM12) | ((with_reducible refine gate_store (t := 97) (p := 21) rfl ?_); refine store_event (t := 97) (p := 21) (v := ?vo_w13) (w1 := (((w11.setCell ⟨go10, (x4_1 : Int).toNat * 3, none⟩ (.string t127)).setCell ⟨go10, (x4_1 : Int).toNat * 3 + 1, none⟩ (.string t128)).setCell ⟨go10, (x4_1 : Int).toNat * 3 + 2, none⟩ (.int .i64 t129))) ?hg ?ho ?hn ?hr ?_; (case ho => rfl); (case hg => rfl); (case hn => rfl); (case hr => first | (go_simp; done) | (go_simp; rfl)); intro w13 hw; have hg : w11.grownBy w13 (some go10) := (by rw [hw]; exact HP12.2); have hp_ : Kd.R k97 97 w13 w.heap.size (fun _ => True) (.slice (some ⟨go10, 0, none⟩) x3_1.length co10) y130 := (by rw [hw, Ny130.out]; exact HP12.1); clear HP12; replace HO_3 := Aside0.mk (hp_); replace HB := Aside0.mk ((by rw [hw]; exact below_set (below_set (below_set (HB.out) GB10.out) GB10.out) GB10.out : Below w.heap.size w w13)); clear hg hw hp_))
      go_roundg k1
      case measure => have := HK1.out; omega
      case rel => exact ⟨(y130), (wrap64 (x4_1 + 1)), re_, H', ⟨by have := HK1.out; omega⟩, ⟨ks_ HO_3⟩, ⟨bwl_⟩⟩
     ·obtain rfl := Option.some.inj H
      go_wp2
      go_ret
      exact ⟨_, rr_, ks_ HO_3, bwl_⟩
  ·rw [if_neg c3] at H
   exact absurd H (by simp)
 ·rw [if_neg c2] at H
  exact absurd H (by simp)
def laws_toStringS.l0 : Nat → List ByteArray → List ByteArray → Int → Option (List ByteArray)
 | 0, _, _, _ => none
 | k + 1, x0, x3, x4 => if x4 < (x0.length : Int) then (if 0 ≤ x4 then (if x4 < (x3.length : Int) then (laws_toStringS.l0 k x0 (x3.set (x4 : Int).toNat (rdOf ByteArray.empty x0 x4)) (wrap64 (x4 + 1))) else (none)) else (none)) else (some x3)
def laws_toStringS.f (k : Nat) (l0 : List ByteArray) : Option (List ByteArray) := if 0 ≤ (l0.length : Int) then (if ((l0.length : Int) : Int).toNat ≤ 17592186044416 then (laws_toStringS.l0 k l0 (List.replicate ((l0.length : Int) : Int).toNat (⟨#[]⟩ : ByteArray)) 0) else (none)) else (none)
theorem laws_toStringS.mono_l : ∀ k, (∀ y0 y1 y2, LeO (laws_toStringS.l0 k y0 y1 y2) (laws_toStringS.l0 (k + 1) y0 y1 y2))
 | 0 => fun _ _ _ r h => by simp [laws_toStringS.l0] at h
 | k + 1 => by
  have ih0 := laws_toStringS.mono_l k
  ·intro y0 y1 y2
   unfold laws_toStringS.l0
   exact mo_
theorem laws_toStringS.mono : ∀ a0 k, LeO (laws_toStringS.f k a0) (laws_toStringS.f (k + 1) a0) := by
 intro a0 k
 have ih0 := laws_toStringS.mono_l k
 unfold laws_toStringS.f
 exact mo_
theorem laws_toStringS.calls (k : Nat) (A0 : Option Addr) (c0 : Nat) (l0 : List ByteArray) (r : List ByteArray) (w : World) (hr0 : Kd.C Kd.string w A0 l0.length l0) (hc0 : l0.length ≤ c0) (h : laws_toStringS.f k l0 = some r) :
  Calls Tryz.prog 57 #[.slice A0 l0.length c0] w fun e w' => ∃ v0_ : Value, e = .returned (v0_) ∧ Kd.R Kd.string 9 w' w.heap.size (fun _ => True) v0_ r ∧ Below w.heap.size w w' := by
 have HR0 := Aside0.mk hr0
 have HC0 := Aside0.mk hc0
 clear hr0 hc0
 have HB := Aside0.mk (Below.refl w.heap.size w)
 have H := h
 clear h
 unfold laws_toStringS.f at H
 by_cases c2 : 0 ≤ (l0.length : Int)
 ·rw [if_pos c2] at H
  have c2b0 := eq_true c2
  have c2b1 : decide (0 ≤ (l0.length : Int)) = true := decide_eq_true c2
  clear c2
  by_cases c3 : ((l0.length : Int) : Int).toNat ≤ 17592186044416
  ·rw [if_pos c3] at H
   have c3b0 := eq_true c3
   have c3b1 : decide (((l0.length : Int) : Int).toNat ≤ 17592186044416) = true := decide_eq_true c3
   clear c3
   obtain ⟨y131, hy131⟩ : ∃ y_ : List ByteArray, y_ = (List.replicate ((l0.length : Int) : Int).toNat (⟨#[]⟩ : ByteArray)) := ⟨_, rfl⟩
   replace H : (laws_toStringS.l0 k l0 y131 0) = some r := by first | (rw [hy131]; with_reducible exact H) | (have H2_ := (Option.bind_some _ _).symm.trans H; rw [hy131]; with_reducible exact H2_) | (have H2_ := (Option.bind_some _ _).symm.trans H; with_reducible exact H2_) | with_reducible exact H | (rw [hy131]; exact H) | exact H
   have Ny131 := Aside0.mk hy131
   clear hy131
   have H' := Aside0.mk H
   clear H
   go_enter Tryz.func57, Tryz.ntmps57
   go_wp2_with (first | ((with_reducible refine gd_ 7 rfl ?_); refine Kd.R_make Kd.string _ 9 rfl (N := 7) rfl 23 _ _ rfl (l0.length : Int) rfl rfl Tryz.underlying23 (.string ⟨#[]⟩) 16 info9 rfl (by decide) (by omega) (⟨#[]⟩ : ByteArray) (ok := fun _ => True) (okp := fun _ => True) rfl (fun _ hk => hk) trivial (od_) (Nat.le_trans (Nat.mul_le_mul_right _ (od_ : (l0.length : Int).toNat ≤ 17592186044416)) (by omega)) (Below.refl _ _) (Nat.le_refl _) ?_; intro v132 w4 ho5 hb hg_ hnew_; clear hg_ hnew_; (first | rw [← Ny131.out] at ho5 | (simp only [Int.reduceToNat] at ho5; rw [← Ny131.out] at ho5)); have HO133 := kl_ ho5; replace HB := bst_ hb; clear hb ho5))
   go_loopg [4] k (fun kq v4 w' => ∃ (x3_1 : List ByteArray) (x4_1 : Int), v4 = .int .i64 x4_1 ∧ Aside0 (laws_toStringS.l0 kq l0 x3_1 x4_1 = some r) ∧ Aside0 (kq ≤ k) ∧ Aside0 (Kd.R Kd.string 9 w' w.heap.size (fun _ => True) v132 x3_1) ∧ Aside0 (Below w.heap.size w w'))
   case atStart => exact ⟨(y131), (0), re_, H', ⟨Nat.le_refl _⟩, ⟨ks_ HO133⟩, ⟨bwl_⟩⟩
   case round =>
    clear H'
    (try clear c2);(try clear c2b0);(try clear c2b1);(try clear c3);(try clear c3b0);(try clear c3b1)
    obtain ⟨x3_1, x4_1, rfl, HA, HK1, HO_3, HB⟩ := hrel
    cases gk with
    | zero => exact absurd HA.out (by simp [laws_toStringS.l0])
    | succ k1 =>
     have H := HA.out
     clear HA
     simp only [laws_toStringS.l0] at H
     revert H
     refine if_ ?_ ?_ <;> intro c6b0 H
     ·revert H
      refine in_ ?_
      intro c7b0 H
      revert H
      refine in_ ?_
      intro c8b0 H
      obtain ⟨y135, hy135⟩ : ∃ y_ : List ByteArray, y_ = (x3_1.set (x4_1 : Int).toNat (rdOf ByteArray.empty l0 x4_1)) := ⟨_, rfl⟩
      replace H : (laws_toStringS.l0 k1 l0 y135 (wrap64 (x4_1 + 1))) = some r := by first | (rw [hy135]; with_reducible exact H) | (have H2_ := (Option.bind_some _ _).symm.trans H; rw [hy135]; with_reducible exact H2_) | (have H2_ := (Option.bind_some _ _).symm.trans H; with_reducible exact H2_) | with_reducible exact H | (rw [hy135]; exact H) | exact H
      have Ny135 := Aside0.mk hy135
      clear hy135
      have H' := Aside0.mk H
      clear H
      have p134 : 0 ≤ (x4_1 : Int) := od_
      have q134 : x4_1 < (l0.length : Int) := od_
      obtain ⟨ad134, e134, hx134_0⟩ := Kd.at_string HR0.out x4_1 p134 q134
      cases e134
      replace hx134_0 := (HB.out.cell (World.block_lt_of_cell? w _ hx134_0)).trans hx134_0
      replace p134 := eq_true p134
      replace q134 := eq_true q134
      have p9 : 0 ≤ (x4_1 : Int) := od_
      have q9 : (x4_1 : Int) < ((x3_1.length : Int) : Int) := od_
      obtain ⟨go9, co9, eo9, gb9, gl9, cl9, HG9⟩ := Kd.R_form HO_3.out (by omega)
      (first | cases eo9 | (injection eo9 with ea_ en_ ec_; (first | subst ea_ | (injection ea_ with ea_; subst ea_)); subst ec_; clear en_))
      have GB9 := Aside0.mk gb9
      have GG9 := Aside0.mk HG9
      clear gb9 gl9 HG9
      obtain ⟨hx9_0, hf9_0⟩ := Kd.R_celln (⟨#[]⟩ : ByteArray) HO_3.out (x4_1 : Int) p9 q9
      replace p9 := eq_true p9
      replace q9 := eq_true q9
      have HP10 := Kd.R_putg HO_3.out (x4_1 : Int) (rdOf ByteArray.empty l0 x4_1)
      go_wp2_with (first | ((with_reducible refine gate_store (t := 9) (p := 20) rfl ?_); refine store_event (t := 9) (p := 20) (v := ?vo_w11) (w1 := (wr.setCell ⟨go9, (x4_1 : Int).toNat, none⟩ (.string (rdOf ByteArray.empty l0 x4_1)))) ?hg ?ho ?hn ?hr ?_; (case ho => rfl); (case hg => rfl); (case hn => rfl); (case hr => first | (go_simp; done) | (go_simp; rfl)); intro w11 hw; have hg : wr.grownBy w11 (some go9) := (by rw [hw]; exact HP10.2); have hp_ : Kd.R Kd.string 9 w11 w.heap.size (fun _ => True) (.slice (some ⟨go9, 0, none⟩) x3_1.length co9) y135 := (by rw [hw, Ny135.out]; exact HP10.1); clear HP10; replace HO_3 := Aside0.mk (hp_); replace HB := Aside0.mk ((by rw [hw]; exact below_set (HB.out) GB9.out : Below w.heap.size w w11)); clear hg hw hp_))
      go_roundg k1
      case measure => have := HK1.out; omega
      case rel => exact ⟨(y135), (wrap64 (x4_1 + 1)), re_, H', ⟨by have := HK1.out; omega⟩, ⟨ks_ HO_3⟩, ⟨bwl_⟩⟩
     ·obtain rfl := Option.some.inj H
      go_wp2
      go_ret
      exact ⟨_, rr_, ks_ HO_3, bwl_⟩
  ·rw [if_neg c3] at H
   exact absurd H (by simp)
 ·rw [if_neg c2] at H
  exact absurd H (by simp)
def laws_toBelay.f (a0_0 : ByteArray) (a0_1 : ByteArray) (a0_2 : Int) : Option (ByteArray × ByteArray × Int) := some (a0_0, a0_1, a0_2)
theorem laws_toBelay.calls (a0_0 : ByteArray) (a0_1 : ByteArray) (a0_2 : Int) (r1 : ByteArray) (r2 : ByteArray) (r3 : Int) (w : World) (h : laws_toBelay.f a0_0 a0_1 a0_2 = some (r1, r2, r3)) :
  Calls Tryz.prog 89 #[.agg #[.string a0_0, .string a0_1, .int .i64 a0_2]] w fun e w' => e = .returned (.agg #[.string r1, .string r2, .int .i64 r3]) ∧ Below w.heap.size w w' := by
 have hu121 := Tryz.underlying121
 have hu101 := Tryz.underlying101
 have HB := Aside0.mk (Below.refl w.heap.size w)
 have H := h
 clear h
 unfold laws_toBelay.f at H
 simp only [Option.some.injEq, Prod.mk.injEq] at H
 obtain ⟨rfl, rfl, rfl⟩ := H
 go_enter Tryz.func89, Tryz.ntmps89
 go_wp2_with (first | ((with_reducible refine gd_ 1 rfl ?_); refine bx_ #[.string a0_0, .string a0_1, .int .i64 a0_2] ?_; intro gb136 hg w2 BK136 hb; have GW136 := bsz_ hg; replace HB := bst_ hb; clear hb hg) | ((with_reducible refine gd_ 2 rfl ?_); refine bx_ #[.string (⟨#[]⟩ : ByteArray), .string (⟨#[]⟩ : ByteArray), .int .i64 0] ?_; intro gb137 hg w3 BK137 hb; have GW137 := bsz_ hg; replace HB := bst_ hb; have NB136_137 := nbl_ BK136 hg; have NB137_136 := nbr_ BK136 hg; replace BK136 := bkb_ BK136 hb; clear hb hg) | ((with_reducible refine gd_ 3 rfl ?_); refine bx_ #[.string (⟨#[]⟩ : ByteArray), .string (⟨#[]⟩ : ByteArray), .int .i64 0] ?_; intro gb138 hg w4 BK138 hb; have GW138 := bsz_ hg; replace HB := bst_ hb; have NB136_138 := nbl_ BK136 hg; have NB138_136 := nbr_ BK136 hg; replace BK136 := bkb_ BK136 hb; have NB137_138 := nbl_ BK137 hg; have NB138_137 := nbr_ BK137 hg; replace BK137 := bkb_ BK137 hb; clear hb hg; have hnb5 := NB136_137.out; have hnc5 := NB137_136.out; have hnb6 := NB136_138.out; have hnc6 := NB138_136.out; have hcz7_0 := c3_ BK136; have hnb8 := NB138_137.out; have hnc8 := NB137_138.out; have hcz9_0 := c3_ BK138; have hcz9_1 := c3_ BK137))
 refine bodyPost_ret (results_cell_row rfl _ _ gb137 101 #[.string a0_0, .string a0_1, .int .i64 a0_2] (0, 0) _ rfl (kbp_ BK137) Tryz.underlying101 rfl (by kernel_rfl)) rfl ?_
 exact ⟨rr_, bwl_⟩
def laws_toBelayS.l0 : Nat → List (S121) → List (S101) → Int → Option ((List (S101)))
 | 0, _, _, _ => none
 | k + 1, x0, x3, x4 => if x4 < (x0.length : Int) then (if 0 ≤ x4 then ((laws_toBelay.f ((rd_T121 x0 x4).f0) ((rd_T121 x0 x4).f1) ((rd_T121 x0 x4).f2)).bind fun bt143 => (if x4 < (x3.length : Int) then (laws_toBelayS.l0 k x0 (x3.set (x4 : Int).toNat (⟨bt143.1, bt143.2.1, bt143.2.2⟩ : S101)) (wrap64 (x4 + 1))) else (none))) else (none)) else (some x3)
def laws_toBelayS.f (k : Nat) (l0 : List (S121)) : Option ((List (S101))) := if 0 ≤ (l0.length : Int) then (if ((l0.length : Int) : Int).toNat ≤ 7036874417766 then (laws_toBelayS.l0 k l0 (List.replicate ((l0.length : Int) : Int).toNat z101) 0) else (none)) else (none)
theorem laws_toBelayS.mono_l : ∀ k, (∀ y0 y1 y2, LeO (laws_toBelayS.l0 k y0 y1 y2) (laws_toBelayS.l0 (k + 1) y0 y1 y2))
 | 0 => fun _ _ _ r h => by simp [laws_toBelayS.l0] at h
 | k + 1 => by
  have ih0 := laws_toBelayS.mono_l k
  ·intro y0 y1 y2
   unfold laws_toBelayS.l0
   exact mo_
theorem laws_toBelayS.mono : ∀ a0 k, LeO (laws_toBelayS.f k a0) (laws_toBelayS.f (k + 1) a0) := by
 intro a0 k
 have ih0 := laws_toBelayS.mono_l k
 unfold laws_toBelayS.f
 exact mo_
theorem laws_toBelayS.calls (k : Nat) (A0 : Option Addr) (c0 : Nat) (l0 : List (S121)) (r : List (S101)) (w : World) (hr0 : Kd.C k121 w A0 l0.length l0) (hc0 : l0.length ≤ c0) (h : laws_toBelayS.f k l0 = some r) :
  Calls Tryz.prog 58 #[.slice A0 l0.length c0] w fun e w' => ∃ v0_ : Value, e = .returned (v0_) ∧ Kd.R k101 101 w' w.heap.size (fun _ => True) v0_ r ∧ Below w.heap.size w w' := by
 have hu121 := Tryz.underlying121
 have hu101 := Tryz.underlying101
 have HR0 := Aside0.mk hr0
 have HC0 := Aside0.mk hc0
 clear hr0 hc0
 have HB := Aside0.mk (Below.refl w.heap.size w)
 have H := h
 clear h
 unfold laws_toBelayS.f at H
 by_cases c2 : 0 ≤ (l0.length : Int)
 ·rw [if_pos c2] at H
  have c2b0 := eq_true c2
  have c2b1 : decide (0 ≤ (l0.length : Int)) = true := decide_eq_true c2
  clear c2
  by_cases c3 : ((l0.length : Int) : Int).toNat ≤ 7036874417766
  ·rw [if_pos c3] at H
   have c3b0 := eq_true c3
   have c3b1 : decide (((l0.length : Int) : Int).toNat ≤ 7036874417766) = true := decide_eq_true c3
   clear c3
   obtain ⟨y139, hy139⟩ : ∃ y_ : List (S101), y_ = (List.replicate ((l0.length : Int) : Int).toNat z101) := ⟨_, rfl⟩
   replace H : (laws_toBelayS.l0 k l0 y139 0) = some r := by first | (rw [hy139]; with_reducible exact H) | (have H2_ := (Option.bind_some _ _).symm.trans H; rw [hy139]; with_reducible exact H2_) | (have H2_ := (Option.bind_some _ _).symm.trans H; with_reducible exact H2_) | with_reducible exact H | (rw [hy139]; exact H) | exact H
   have Ny139 := Aside0.mk hy139
   clear hy139
   have H' := Aside0.mk H
   clear H
   go_enter Tryz.func58, Tryz.ntmps58
   go_wp2_with (first | ((with_reducible refine gd_ 7 rfl ?_); refine Kd.R_make k101 _ 101 rfl (N := 7) rfl 35 _ _ rfl (l0.length : Int) rfl rfl Tryz.underlying35 (.agg #[(.string ⟨#[]⟩), (.string ⟨#[]⟩), (.int .i64 0)]) 40 info101 rfl (by decide) (by omega) z101 (ok := fun _ => True) (okp := fun _ => True) (k101_mkM _ _ _ z101 ) (fun _ hk => hk) trivial (od_) (Nat.le_trans (Nat.mul_le_mul_right _ (od_ : (l0.length : Int).toNat ≤ 7036874417766)) (by omega)) (Below.refl _ _) (Nat.le_refl _) ?_; intro v140 w4 ho5 hb hg_ hnew_; clear hg_ hnew_; (first | rw [← Ny139.out] at ho5 | (simp only [Int.reduceToNat] at ho5; rw [← Ny139.out] at ho5)); have HO141 := kl_ ho5; replace HB := bst_ hb; clear hb ho5))
   go_loopg [4] k (fun kq v4 w' => ∃ (x3_1 : List (S101)) (x4_1 : Int), v4 = .int .i64 x4_1 ∧ Aside0 (laws_toBelayS.l0 kq l0 x3_1 x4_1 = some r) ∧ Aside0 (kq ≤ k) ∧ Aside0 (Kd.R k101 101 w' w.heap.size (fun _ => True) v140 x3_1) ∧ Aside0 (Below w.heap.size w w'))
   case atStart => exact ⟨(y139), (0), re_, H', ⟨Nat.le_refl _⟩, ⟨ks_ HO141⟩, ⟨bwl_⟩⟩
   case round =>
    clear H'
    (try clear c2);(try clear c2b0);(try clear c2b1);(try clear c3);(try clear c3b0);(try clear c3b1)
    obtain ⟨x3_1, x4_1, rfl, HA, HK1, HO_3, HB⟩ := hrel
    cases gk with
    | zero => exact absurd HA.out (by simp [laws_toBelayS.l0])
    | succ k1 =>
     have H := HA.out
     clear HA
     simp only [laws_toBelayS.l0] at H
     revert H
     refine if_ ?_ ?_ <;> intro c6b0 H
     ·revert H
      refine in_ ?_
      intro c7b0 H
      revert H
      refine bn_ ?_
      rintro ⟨t143, t144, t145⟩ A8 H
      revert H
      refine in_ ?_
      intro c9b0 H
      obtain ⟨y146, hy146⟩ : ∃ y_ : List (S101), y_ = (x3_1.set (x4_1 : Int).toNat (⟨t143, t144, t145⟩ : S101)) := ⟨_, rfl⟩
      replace H : (laws_toBelayS.l0 k1 l0 y146 (wrap64 (x4_1 + 1))) = some r := by first | (rw [hy146]; with_reducible exact H) | (have H2_ := (Option.bind_some _ _).symm.trans H; rw [hy146]; with_reducible exact H2_) | (have H2_ := (Option.bind_some _ _).symm.trans H; with_reducible exact H2_) | with_reducible exact H | (rw [hy146]; exact H) | exact H
      have Ny146 := Aside0.mk hy146
      clear hy146
      have H' := Aside0.mk H
      clear H
      obtain ⟨ad142, e142, hx142⟩ := at_T121 (Kd.C_below HR0.out HB.out) x4_1 od_ od_
      cases e142
      have p142 := pq_ x4_1 (l0.length : Int)
      go_wp2_with (first | ((with_reducible refine gc_ 89 rfl ?_); refine cl_ Tryz.func89 (laws_toBelay.calls _ _ _ _ _ _ _ A8.out) ?_; intro w11 hb; replace HO_3 := kr_ HO_3 hb; replace HB := bst_ hb; clear hb; have p10 : 0 ≤ (x4_1 : Int) := od_; have q10 : (x4_1 : Int) < ((x3_1.length : Int) : Int) := od_; obtain ⟨go10, co10, eo10, gb10, gl10, cl10, HG10⟩ := Kd.R_form HO_3.out (by omega); (first | cases eo10 | (injection eo10 with ea_ en_ ec_; (first | subst ea_ | (injection ea_ with ea_; subst ea_)); subst ec_; clear en_)); have GB10 := Aside0.mk gb10; have GG10 := Aside0.mk HG10; clear gb10 gl10 HG10; obtain ⟨ce10, hcl10, hM10, hcc10, hfr10⟩ := Kd.R_elem HO_3.out z101 (x4_1 : Int) p10 q10; obtain rfl := k101_openM hM10; have hx10_0 : w11.cell? ⟨go10, (x4_1 : Int).toNat * 3, none⟩ = some (.string ((rd_T101 x3_1 x4_1).f0)) := hcc10 0 _ rfl; have hx10_1 : w11.cell? ⟨go10, (x4_1 : Int).toNat * 3 + 1, none⟩ = some (.string ((rd_T101 x3_1 x4_1).f1)) := hcc10 1 _ rfl; have hx10_2 : w11.cell? ⟨go10, (x4_1 : Int).toNat * 3 + 2, none⟩ = some (.int .i64 ((rd_T101 x3_1 x4_1).f2)) := hcc10 2 _ rfl; have hf10_0 : w11.frozen? ⟨go10, (x4_1 : Int).toNat * 3, none⟩ = false := hfr10 0; have hf10_1 : w11.frozen? ⟨go10, (x4_1 : Int).toNat * 3 + 1, none⟩ = false := hfr10 1; have hf10_2 : w11.frozen? ⟨go10, (x4_1 : Int).toNat * 3 + 2, none⟩ = false := hfr10 2; clear hcl10 hcc10 hfr10 hM10; replace p10 := eq_true p10; replace q10 := eq_true q10; have HX12 := Aside0.mk (show Kd.R k101 101 w11 w.heap.size (fun _ => True) (.slice (some ⟨go10, 0, none⟩) x3_1.length co10) x3_1 from (ks_ HO_3)); obtain ⟨ce12, hcl12, hM12, hcc12, hfr12⟩ := Kd.R_elem HX12.out z101 (x4_1 : Int) (od_) (by have h_ : (x4_1 : Int) < ((x3_1.length : Int) : Int) := od_; first | exact h_ | (have e_ := (Kd.R_reads' HO_3.out).1; omega) | simpa using h_); obtain rfl := k101_openM hM12; have HP12 := Kd.R_seg HX12.out (x4_1 : Int) (od_) (by have h_ : (x4_1 : Int) < ((x3_1.length : Int) : Int) := od_; first | exact h_ | (have e_ := (Kd.R_reads' HO_3.out).1; omega) | simpa using h_) (seg := [.string t143, .string t144, .int .i64 t145]) (j := 0) hcl12 hcc12 (show 3 ≤ 3 from by decide) (x' := (⟨t143, t144, t145⟩ : S101)) (k101_mkM _ _ _ (⟨t143, t144, t145⟩ : S101) ) (fun _ hk => hk); have hx12_0 := hcc12 0 _ rfl; (try simp only [show (k101).sz = 3 from rfl, Nat.mul_one, Nat.add_zero] at hx12_0); have hf12_0 := hfr12 0; (try simp only [show (k101).sz = 3 from rfl, Nat.mul_one, Nat.add_zero] at hf12_0); have hx12_1 := hcc12 1 _ rfl; (try simp only [show (k101).sz = 3 from rfl, Nat.mul_one, Nat.add_zero] at hx12_1); have hf12_1 := hfr12 1; (try simp only [show (k101).sz = 3 from rfl, Nat.mul_one, Nat.add_zero] at hf12_1); have hx12_2 := hcc12 2 _ rfl; (try simp only [show (k101).sz = 3 from rfl, Nat.mul_one, Nat.add_zero] at hx12_2); have hf12_2 := hfr12 2; (try simp only [show (k101).sz = 3 from rfl, Nat.mul_one, Nat.add_zero] at hf12_2); clear hcl12 hcc12 hfr12 hM12) | ((with_reducible refine gate_store (t := 101) (p := 21) rfl ?_); refine store_event (t := 101) (p := 21) (v := ?vo_w13) (w1 := (((w11.setCell ⟨go10, (x4_1 : Int).toNat * 3, none⟩ (.string t143)).setCell ⟨go10, (x4_1 : Int).toNat * 3 + 1, none⟩ (.string t144)).setCell ⟨go10, (x4_1 : Int).toNat * 3 + 2, none⟩ (.int .i64 t145))) ?hg ?ho ?hn ?hr ?_; (case ho => rfl); (case hg => rfl); (case hn => rfl); (case hr => first | (go_simp; done) | (go_simp; rfl)); intro w13 hw; have hg : w11.grownBy w13 (some go10) := (by rw [hw]; exact HP12.2); have hp_ : Kd.R k101 101 w13 w.heap.size (fun _ => True) (.slice (some ⟨go10, 0, none⟩) x3_1.length co10) y146 := (by rw [hw, Ny146.out]; exact HP12.1); clear HP12; replace HO_3 := Aside0.mk (hp_); replace HB := Aside0.mk ((by rw [hw]; exact below_set (below_set (below_set (HB.out) GB10.out) GB10.out) GB10.out : Below w.heap.size w w13)); clear hg hw hp_))
      go_roundg k1
      case measure => have := HK1.out; omega
      case rel => exact ⟨(y146), (wrap64 (x4_1 + 1)), re_, H', ⟨by have := HK1.out; omega⟩, ⟨ks_ HO_3⟩, ⟨bwl_⟩⟩
     ·obtain rfl := Option.some.inj H
      go_wp2
      go_ret
      exact ⟨_, rr_, ks_ HO_3, bwl_⟩
  ·rw [if_neg c3] at H
   exact absurd H (by simp)
 ·rw [if_neg c2] at H
  exact absurd H (by simp)
def laws_toRig.f (k : Nat) (l0_0 : List (S119)) (l0_1 : List ByteArray) (l0_2 : List (S121)) : Option ((List (S97)) × List ByteArray × (List (S101))) := (laws_toRailS.f k l0_0).bind fun t150 => ((laws_toStringS.f k l0_1).bind fun t153 => ((laws_toBelayS.f k l0_2).bind fun t156 => (some (t150, t153, t156))))
theorem laws_toRig.mono : ∀ a0 a1 a2 k, LeO (laws_toRig.f k a0 a1 a2) (laws_toRig.f (k + 1) a0 a1 a2) := by
 intro a0 a1 a2 k
 unfold laws_toRig.f
 have m0 := @laws_toBelayS.mono
 have m1 := @laws_toRailS.mono
 have m2 := @laws_toStringS.mono
 exact mo_
theorem laws_toRig.calls (k : Nat) (A0_0 : Option Addr) (c0_0 : Nat) (l0_0 : List (S119)) (A0_1 : Option Addr) (c0_1 : Nat) (l0_1 : List ByteArray) (A0_2 : Option Addr) (c0_2 : Nat) (l0_2 : List (S121)) (r1 : List (S97)) (r2 : List ByteArray) (r3 : List (S101)) (w : World) (hr0_0 : Kd.C k119 w A0_0 l0_0.length l0_0) (hc0_0 : l0_0.length ≤ c0_0) (hr0_1 : Kd.C Kd.string w A0_1 l0_1.length l0_1) (hc0_1 : l0_1.length ≤ c0_1) (hr0_2 : Kd.C k121 w A0_2 l0_2.length l0_2) (hc0_2 : l0_2.length ≤ c0_2) (h : laws_toRig.f k l0_0 l0_1 l0_2 = some (r1, r2, r3)) :
  Calls Tryz.prog 21 #[.agg #[.slice A0_0 l0_0.length c0_0, .slice A0_1 l0_1.length c0_1, .slice A0_2 l0_2.length c0_2]] w fun e w' => ∃ v0_ v1_ v2_ : Value, e = .returned (.agg #[v0_, v1_, v2_]) ∧ Kd.R k97 97 w' w.heap.size (fun _ => True) v0_ r1 ∧ Kd.R Kd.string 9 w' w.heap.size (fun _ => True) v1_ r2 ∧ Kd.R k101 101 w' w.heap.size (fun _ => True) v2_ r3 ∧ Below w.heap.size w w' := by
 have hu26 := Tryz.underlying26
 have hu37 := Tryz.underlying37
 have HR0_0 := Aside0.mk hr0_0
 have HC0_0 := Aside0.mk hc0_0
 clear hr0_0 hc0_0
 have HR0_1 := Aside0.mk hr0_1
 have HC0_1 := Aside0.mk hc0_1
 clear hr0_1 hc0_1
 have HR0_2 := Aside0.mk hr0_2
 have HC0_2 := Aside0.mk hc0_2
 clear hr0_2 hc0_2
 have HB := Aside0.mk (Below.refl w.heap.size w)
 have H := h
 clear h
 unfold laws_toRig.f at H
 revert H
 refine bn_ ?_
 intro t150 A2 H
 revert H
 refine bn_ ?_
 intro t153 A3 H
 revert H
 refine bn_ ?_
 intro t156 A4 H
 simp only [Option.some.injEq, Prod.mk.injEq] at H
 obtain ⟨rfl, rfl, rfl⟩ := H
 go_enter Tryz.func21, Tryz.ntmps21
 go_wp2_with (first | ((with_reducible refine gd_ 1 rfl ?_); refine bx_ #[.slice A0_0 l0_0.length c0_0, .slice A0_1 l0_1.length c0_1, .slice A0_2 l0_2.length c0_2] ?_; intro gb147 hg w5 BK147 hb; have GW147 := bsz_ hg; replace HB := bst_ hb; clear hb hg) | ((with_reducible refine gd_ 2 rfl ?_); refine bx_ #[.slice none 0 0, .slice none 0 0, .slice none 0 0] ?_; intro gb148 hg w6 BK148 hb; have GW148 := bsz_ hg; replace HB := bst_ hb; have NB147_148 := nbl_ BK147 hg; have NB148_147 := nbr_ BK147 hg; replace BK147 := bkb_ BK147 hb; clear hb hg) | ((with_reducible refine gd_ 3 rfl ?_); refine bx_ #[.slice none 0 0, .slice none 0 0, .slice none 0 0] ?_; intro gb149 hg w7 BK149 hb; have GW149 := bsz_ hg; replace HB := bst_ hb; have NB147_149 := nbl_ BK147 hg; have NB149_147 := nbr_ BK147 hg; replace BK147 := bkb_ BK147 hb; have NB148_149 := nbl_ BK148 hg; have NB149_148 := nbr_ BK148 hg; replace BK148 := bkb_ BK148 hb; clear hb hg; have hnb8 := NB147_148.out; have hnc8 := NB148_147.out; have hnb9 := NB147_149.out; have hnc9 := NB149_147.out; have hcz10_0 := c3_ BK147) | ((with_reducible refine gc_ 56 rfl ?_); refine ck_ Tryz.func56 (laws_toRailS.calls _ _ _ _ _ _ (kc_ HR0_0) HC0_0.out A2.out) ?_; rintro e w11 ⟨v151, rfl, ho0, hb⟩; refine ⟨_, rfl, ?_⟩; have HO152 := kl_ ho0; replace BK147 := bkb_ BK147 hb; replace BK148 := bkb_ BK148 hb; replace BK149 := bkb_ BK149 hb; replace HB := bst_ hb; clear hb ho0; obtain ⟨Ao12, co12, eo12⟩ := Kd.R_slice HO152.out; subst eo12; have hnb13 := NB149_148.out; have hnc13 := NB148_149.out; have hcz14_0 := c3_ BK149; have hcz14_1 := c3_ BK147) | ((with_reducible refine gc_ 57 rfl ?_); refine ck_ Tryz.func57 (laws_toStringS.calls _ _ _ _ _ _ (Kd.C_below HR0_1.out bwl_) HC0_1.out A3.out) ?_; rintro e w16 ⟨v154, rfl, ho0, hb⟩; refine ⟨_, rfl, ?_⟩; replace HO152 := krs_ HO152 hb; have HO155 := kl_ ho0; replace BK147 := bkb_ BK147 hb; replace BK148 := bkb_ BK148 hb; replace BK149 := kb3_ BK149 hb; replace HB := bst_ hb; clear hb ho0; obtain ⟨Ao17, co17, eo17⟩ := Kd.R_slice HO155.out; subst eo17; have hcz18_0 := c3_ BK149; have hcz18_1 := c3_ BK147) | ((with_reducible refine gc_ 58 rfl ?_); refine ck_ Tryz.func58 (laws_toBelayS.calls _ _ _ _ _ _ (Kd.C_below HR0_2.out bwl_) HC0_2.out A4.out) ?_; rintro e w20 ⟨v157, rfl, ho0, hb⟩; refine ⟨_, rfl, ?_⟩; replace HO152 := krs_ HO152 hb; replace HO155 := krs_ HO155 hb; have HO158 := kl_ ho0; replace BK147 := bkb_ BK147 hb; replace BK148 := bkb_ BK148 hb; replace BK149 := kb3_ BK149 hb; replace HB := bst_ hb; clear hb ho0; obtain ⟨Ao21, co21, eo21⟩ := Kd.R_slice HO158.out; subst eo21; have hcz22_0 := c3_ BK149; have hcz22_1 := c3_ BK148))
 refine bodyPost_ret (results_cell_row rfl _ _ gb148 37 #[.slice Ao12 t150.length co12, .slice Ao17 t153.length co17, .slice Ao21 t156.length co21] (0, 0) _ rfl (kbp_ BK148) Tryz.underlying37 rfl (by kernel_rfl)) rfl ?_
 exact ⟨_, _, _, rr_, kt_ HO152, kt_ HO155, kt_ HO158, bwl_⟩
def laws_toCoil.f (a0_0 : ByteArray) (a0_1 : Int) : Option (ByteArray × Int) := some (a0_0, a0_1)
theorem laws_toCoil.calls (a0_0 : ByteArray) (a0_1 : Int) (r1 : ByteArray) (r2 : Int) (w : World) (h : laws_toCoil.f a0_0 a0_1 = some (r1, r2)) :
  Calls Tryz.prog 59 #[.agg #[.string a0_0, .int .i64 a0_1]] w fun e w' => e = .returned (.agg #[.string r1, .int .i64 r2]) ∧ Below w.heap.size w w' := by
 have hu88 := Tryz.underlying88
 have hu69 := Tryz.underlying69
 have HB := Aside0.mk (Below.refl w.heap.size w)
 have H := h
 clear h
 unfold laws_toCoil.f at H
 simp only [Option.some.injEq, Prod.mk.injEq] at H
 obtain ⟨rfl, rfl⟩ := H
 go_enter Tryz.func59, Tryz.ntmps59
 go_wp2_with (first | ((with_reducible refine gd_ 1 rfl ?_); refine bx_ #[.string a0_0, .int .i64 a0_1] ?_; intro gb159 hg w2 BK159 hb; have GW159 := bsz_ hg; replace HB := bst_ hb; clear hb hg) | ((with_reducible refine gd_ 2 rfl ?_); refine bx_ #[.string (⟨#[]⟩ : ByteArray), .int .i64 0] ?_; intro gb160 hg w3 BK160 hb; have GW160 := bsz_ hg; replace HB := bst_ hb; have NB159_160 := nbl_ BK159 hg; have NB160_159 := nbr_ BK159 hg; replace BK159 := bkb_ BK159 hb; clear hb hg) | ((with_reducible refine gd_ 3 rfl ?_); refine bx_ #[.string (⟨#[]⟩ : ByteArray), .int .i64 0] ?_; intro gb161 hg w4 BK161 hb; have GW161 := bsz_ hg; replace HB := bst_ hb; have NB159_161 := nbl_ BK159 hg; have NB161_159 := nbr_ BK159 hg; replace BK159 := bkb_ BK159 hb; have NB160_161 := nbl_ BK160 hg; have NB161_160 := nbr_ BK160 hg; replace BK160 := bkb_ BK160 hb; clear hb hg; have hnb5 := NB159_160.out; have hnc5 := NB160_159.out; have hnb6 := NB159_161.out; have hnc6 := NB161_159.out; have hcz7_0 := c2_ BK159; have hnb8 := NB161_160.out; have hnc8 := NB160_161.out; have hcz9_0 := c2_ BK161; have hcz9_1 := c2_ BK160))
 refine bodyPost_ret (results_cell_row rfl _ _ gb160 69 #[.string a0_0, .int .i64 a0_1] (0, 0) _ rfl (kbp_ BK160) Tryz.underlying69 rfl (by kernel_rfl)) rfl ?_
 exact ⟨rr_, bwl_⟩
def laws_toCoilS.l0 : Nat → List (S88) → List (S69) → Int → Option ((List (S69)))
 | 0, _, _, _ => none
 | k + 1, x0, x3, x4 => if x4 < (x0.length : Int) then (if 0 ≤ x4 then ((laws_toCoil.f ((rd_T88 x0 x4).f0) ((rd_T88 x0 x4).f1)).bind fun bt166 => (if x4 < (x3.length : Int) then (laws_toCoilS.l0 k x0 (x3.set (x4 : Int).toNat (⟨bt166.1, bt166.2⟩ : S69)) (wrap64 (x4 + 1))) else (none))) else (none)) else (some x3)
def laws_toCoilS.f (k : Nat) (l0 : List (S88)) : Option ((List (S69))) := if 0 ≤ (l0.length : Int) then (if ((l0.length : Int) : Int).toNat ≤ 11728124029610 then (laws_toCoilS.l0 k l0 (List.replicate ((l0.length : Int) : Int).toNat z69) 0) else (none)) else (none)
theorem laws_toCoilS.mono_l : ∀ k, (∀ y0 y1 y2, LeO (laws_toCoilS.l0 k y0 y1 y2) (laws_toCoilS.l0 (k + 1) y0 y1 y2))
 | 0 => fun _ _ _ r h => by simp [laws_toCoilS.l0] at h
 | k + 1 => by
  have ih0 := laws_toCoilS.mono_l k
  ·intro y0 y1 y2
   unfold laws_toCoilS.l0
   exact mo_
theorem laws_toCoilS.mono : ∀ a0 k, LeO (laws_toCoilS.f k a0) (laws_toCoilS.f (k + 1) a0) := by
 intro a0 k
 have ih0 := laws_toCoilS.mono_l k
 unfold laws_toCoilS.f
 exact mo_
theorem laws_toCoilS.calls (k : Nat) (A0 : Option Addr) (c0 : Nat) (l0 : List (S88)) (r : List (S69)) (w : World) (hr0 : Kd.C k88 w A0 l0.length l0) (hc0 : l0.length ≤ c0) (h : laws_toCoilS.f k l0 = some r) :
  Calls Tryz.prog 22 #[.slice A0 l0.length c0] w fun e w' => ∃ v0_ : Value, e = .returned (v0_) ∧ Kd.R k69 69 w' w.heap.size (fun _ => True) v0_ r ∧ Below w.heap.size w w' := by
 have hu88 := Tryz.underlying88
 have hu69 := Tryz.underlying69
 have HR0 := Aside0.mk hr0
 have HC0 := Aside0.mk hc0
 clear hr0 hc0
 have HB := Aside0.mk (Below.refl w.heap.size w)
 have H := h
 clear h
 unfold laws_toCoilS.f at H
 by_cases c2 : 0 ≤ (l0.length : Int)
 ·rw [if_pos c2] at H
  have c2b0 := eq_true c2
  have c2b1 : decide (0 ≤ (l0.length : Int)) = true := decide_eq_true c2
  clear c2
  by_cases c3 : ((l0.length : Int) : Int).toNat ≤ 11728124029610
  ·rw [if_pos c3] at H
   have c3b0 := eq_true c3
   have c3b1 : decide (((l0.length : Int) : Int).toNat ≤ 11728124029610) = true := decide_eq_true c3
   clear c3
   obtain ⟨y162, hy162⟩ : ∃ y_ : List (S69), y_ = (List.replicate ((l0.length : Int) : Int).toNat z69) := ⟨_, rfl⟩
   replace H : (laws_toCoilS.l0 k l0 y162 0) = some r := by first | (rw [hy162]; with_reducible exact H) | (have H2_ := (Option.bind_some _ _).symm.trans H; rw [hy162]; with_reducible exact H2_) | (have H2_ := (Option.bind_some _ _).symm.trans H; with_reducible exact H2_) | with_reducible exact H | (rw [hy162]; exact H) | exact H
   have Ny162 := Aside0.mk hy162
   clear hy162
   have H' := Aside0.mk H
   clear H
   go_enter Tryz.func22, Tryz.ntmps22
   go_wp2_with (first | ((with_reducible refine gd_ 7 rfl ?_); refine Kd.R_make k69 _ 69 rfl (N := 7) rfl 38 _ _ rfl (l0.length : Int) rfl rfl Tryz.underlying38 (.agg #[(.string ⟨#[]⟩), (.int .i64 0)]) 24 info69 rfl (by decide) (by omega) z69 (ok := fun _ => True) (okp := fun _ => True) (k69_mkM _ _ _ z69 ) (fun _ hk => hk) trivial (od_) (Nat.le_trans (Nat.mul_le_mul_right _ (od_ : (l0.length : Int).toNat ≤ 11728124029610)) (by omega)) (Below.refl _ _) (Nat.le_refl _) ?_; intro v163 w4 ho5 hb hg_ hnew_; clear hg_ hnew_; (first | rw [← Ny162.out] at ho5 | (simp only [Int.reduceToNat] at ho5; rw [← Ny162.out] at ho5)); have HO164 := kl_ ho5; replace HB := bst_ hb; clear hb ho5))
   go_loopg [4] k (fun kq v4 w' => ∃ (x3_1 : List (S69)) (x4_1 : Int), v4 = .int .i64 x4_1 ∧ Aside0 (laws_toCoilS.l0 kq l0 x3_1 x4_1 = some r) ∧ Aside0 (kq ≤ k) ∧ Aside0 (Kd.R k69 69 w' w.heap.size (fun _ => True) v163 x3_1) ∧ Aside0 (Below w.heap.size w w'))
   case atStart => exact ⟨(y162), (0), re_, H', ⟨Nat.le_refl _⟩, ⟨ks_ HO164⟩, ⟨bwl_⟩⟩
   case round =>
    clear H'
    (try clear c2);(try clear c2b0);(try clear c2b1);(try clear c3);(try clear c3b0);(try clear c3b1)
    obtain ⟨x3_1, x4_1, rfl, HA, HK1, HO_3, HB⟩ := hrel
    cases gk with
    | zero => exact absurd HA.out (by simp [laws_toCoilS.l0])
    | succ k1 =>
     have H := HA.out
     clear HA
     simp only [laws_toCoilS.l0] at H
     revert H
     refine if_ ?_ ?_ <;> intro c6b0 H
     ·revert H
      refine in_ ?_
      intro c7b0 H
      revert H
      refine bn_ ?_
      rintro ⟨t166, t167⟩ A8 H
      revert H
      refine in_ ?_
      intro c9b0 H
      obtain ⟨y168, hy168⟩ : ∃ y_ : List (S69), y_ = (x3_1.set (x4_1 : Int).toNat (⟨t166, t167⟩ : S69)) := ⟨_, rfl⟩
      replace H : (laws_toCoilS.l0 k1 l0 y168 (wrap64 (x4_1 + 1))) = some r := by first | (rw [hy168]; with_reducible exact H) | (have H2_ := (Option.bind_some _ _).symm.trans H; rw [hy168]; with_reducible exact H2_) | (have H2_ := (Option.bind_some _ _).symm.trans H; with_reducible exact H2_) | with_reducible exact H | (rw [hy168]; exact H) | exact H
      have Ny168 := Aside0.mk hy168
      clear hy168
      have H' := Aside0.mk H
      clear H
      obtain ⟨ad165, e165, hx165⟩ := at_T88 (Kd.C_below HR0.out HB.out) x4_1 od_ od_
      cases e165
      have p165 := pq_ x4_1 (l0.length : Int)
      go_wp2_with (first | ((with_reducible refine gc_ 59 rfl ?_); refine cl_ Tryz.func59 (laws_toCoil.calls _ _ _ _ _ A8.out) ?_; intro w11 hb; replace HO_3 := kr_ HO_3 hb; replace HB := bst_ hb; clear hb; have p10 : 0 ≤ (x4_1 : Int) := od_; have q10 : (x4_1 : Int) < ((x3_1.length : Int) : Int) := od_; obtain ⟨go10, co10, eo10, gb10, gl10, cl10, HG10⟩ := Kd.R_form HO_3.out (by omega); (first | cases eo10 | (injection eo10 with ea_ en_ ec_; (first | subst ea_ | (injection ea_ with ea_; subst ea_)); subst ec_; clear en_)); have GB10 := Aside0.mk gb10; have GG10 := Aside0.mk HG10; clear gb10 gl10 HG10; obtain ⟨ce10, hcl10, hM10, hcc10, hfr10⟩ := Kd.R_elem HO_3.out z69 (x4_1 : Int) p10 q10; obtain rfl := k69_openM hM10; have hx10_0 : w11.cell? ⟨go10, (x4_1 : Int).toNat * 2, none⟩ = some (.string ((rd_T69 x3_1 x4_1).f0)) := hcc10 0 _ rfl; have hx10_1 : w11.cell? ⟨go10, (x4_1 : Int).toNat * 2 + 1, none⟩ = some (.int .i64 ((rd_T69 x3_1 x4_1).f1)) := hcc10 1 _ rfl; have hf10_0 : w11.frozen? ⟨go10, (x4_1 : Int).toNat * 2, none⟩ = false := hfr10 0; have hf10_1 : w11.frozen? ⟨go10, (x4_1 : Int).toNat * 2 + 1, none⟩ = false := hfr10 1; clear hcl10 hcc10 hfr10 hM10; replace p10 := eq_true p10; replace q10 := eq_true q10; have HX12 := Aside0.mk (show Kd.R k69 69 w11 w.heap.size (fun _ => True) (.slice (some ⟨go10, 0, none⟩) x3_1.length co10) x3_1 from (ks_ HO_3)); obtain ⟨ce12, hcl12, hM12, hcc12, hfr12⟩ := Kd.R_elem HX12.out z69 (x4_1 : Int) (od_) (by have h_ : (x4_1 : Int) < ((x3_1.length : Int) : Int) := od_; first | exact h_ | (have e_ := (Kd.R_reads' HO_3.out).1; omega) | simpa using h_); obtain rfl := k69_openM hM12; have HP12 := Kd.R_seg HX12.out (x4_1 : Int) (od_) (by have h_ : (x4_1 : Int) < ((x3_1.length : Int) : Int) := od_; first | exact h_ | (have e_ := (Kd.R_reads' HO_3.out).1; omega) | simpa using h_) (seg := [.string t166, .int .i64 t167]) (j := 0) hcl12 hcc12 (show 2 ≤ 2 from by decide) (x' := (⟨t166, t167⟩ : S69)) (k69_mkM _ _ _ (⟨t166, t167⟩ : S69) ) (fun _ hk => hk); have hx12_0 := hcc12 0 _ rfl; (try simp only [show (k69).sz = 2 from rfl, Nat.mul_one, Nat.add_zero] at hx12_0); have hf12_0 := hfr12 0; (try simp only [show (k69).sz = 2 from rfl, Nat.mul_one, Nat.add_zero] at hf12_0); have hx12_1 := hcc12 1 _ rfl; (try simp only [show (k69).sz = 2 from rfl, Nat.mul_one, Nat.add_zero] at hx12_1); have hf12_1 := hfr12 1; (try simp only [show (k69).sz = 2 from rfl, Nat.mul_one, Nat.add_zero] at hf12_1); clear hcl12 hcc12 hfr12 hM12) | ((with_reducible refine gate_store (t := 69) (p := 21) rfl ?_); refine store_event (t := 69) (p := 21) (v := ?vo_w13) (w1 := ((w11.setCell ⟨go10, (x4_1 : Int).toNat * 2, none⟩ (.string t166)).setCell ⟨go10, (x4_1 : Int).toNat * 2 + 1, none⟩ (.int .i64 t167))) ?hg ?ho ?hn ?hr ?_; (case ho => rfl); (case hg => rfl); (case hn => rfl); (case hr => first | (go_simp; done) | (go_simp; rfl)); intro w13 hw; have hg : w11.grownBy w13 (some go10) := (by rw [hw]; exact HP12.2); have hp_ : Kd.R k69 69 w13 w.heap.size (fun _ => True) (.slice (some ⟨go10, 0, none⟩) x3_1.length co10) y168 := (by rw [hw, Ny168.out]; exact HP12.1); clear HP12; replace HO_3 := Aside0.mk (hp_); replace HB := Aside0.mk ((by rw [hw]; exact below_set (below_set (HB.out) GB10.out) GB10.out : Below w.heap.size w w13)); clear hg hw hp_))
      go_roundg k1
      case measure => have := HK1.out; omega
      case rel => exact ⟨(y168), (wrap64 (x4_1 + 1)), re_, H', ⟨by have := HK1.out; omega⟩, ⟨ks_ HO_3⟩, ⟨bwl_⟩⟩
     ·obtain rfl := Option.some.inj H
      go_wp2
      go_ret
      exact ⟨_, rr_, ks_ HO_3, bwl_⟩
  ·rw [if_neg c3] at H
   exact absurd H (by simp)
 ·rw [if_neg c2] at H
  exact absurd H (by simp)
def laws_toLog.f (a0_0 : ByteArray) (a0_1 : ByteArray) : Option (ByteArray × ByteArray) := some (a0_0, a0_1)
theorem laws_toLog.calls (a0_0 : ByteArray) (a0_1 : ByteArray) (r1 : ByteArray) (r2 : ByteArray) (w : World) (h : laws_toLog.f a0_0 a0_1 = some (r1, r2)) :
  Calls Tryz.prog 23 #[.agg #[.string a0_0, .string a0_1]] w fun e w' => e = .returned (.agg #[.string r1, .string r2]) ∧ Below w.heap.size w w' := by
 have hu29 := Tryz.underlying29
 have hu39 := Tryz.underlying39
 have HB := Aside0.mk (Below.refl w.heap.size w)
 have H := h
 clear h
 unfold laws_toLog.f at H
 simp only [Option.some.injEq, Prod.mk.injEq] at H
 obtain ⟨rfl, rfl⟩ := H
 go_enter Tryz.func23, Tryz.ntmps23
 go_wp2_with (first | ((with_reducible refine gd_ 1 rfl ?_); refine bx_ #[.string a0_0, .string a0_1] ?_; intro gb169 hg w2 BK169 hb; have GW169 := bsz_ hg; replace HB := bst_ hb; clear hb hg) | ((with_reducible refine gd_ 2 rfl ?_); refine bx_ #[.string (⟨#[]⟩ : ByteArray), .string (⟨#[]⟩ : ByteArray)] ?_; intro gb170 hg w3 BK170 hb; have GW170 := bsz_ hg; replace HB := bst_ hb; have NB169_170 := nbl_ BK169 hg; have NB170_169 := nbr_ BK169 hg; replace BK169 := bkb_ BK169 hb; clear hb hg) | ((with_reducible refine gd_ 3 rfl ?_); refine bx_ #[.string (⟨#[]⟩ : ByteArray), .string (⟨#[]⟩ : ByteArray)] ?_; intro gb171 hg w4 BK171 hb; have GW171 := bsz_ hg; replace HB := bst_ hb; have NB169_171 := nbl_ BK169 hg; have NB171_169 := nbr_ BK169 hg; replace BK169 := bkb_ BK169 hb; have NB170_171 := nbl_ BK170 hg; have NB171_170 := nbr_ BK170 hg; replace BK170 := bkb_ BK170 hb; clear hb hg; have hnb5 := NB169_170.out; have hnc5 := NB170_169.out; have hnb6 := NB169_171.out; have hnc6 := NB171_169.out; have hcz7_0 := c2_ BK169; have hnb8 := NB171_170.out; have hnc8 := NB170_171.out; have hcz9_0 := c2_ BK171; have hcz9_1 := c2_ BK170))
 refine bodyPost_ret (results_cell_row rfl _ _ gb170 39 #[.string a0_0, .string a0_1] (0, 0) _ rfl (kbp_ BK170) Tryz.underlying39 rfl (by kernel_rfl)) rfl ?_
 exact ⟨rr_, bwl_⟩
def laws_toDesk.f (k : Nat) (a0_0 : Int) (l0_1 : List (S119)) (l0_2 : List ByteArray) (l0_3 : List (S121)) (l0_4 : List (S88)) (a0_5 : ByteArray) (a0_6 : ByteArray) : Option (Int × (List (S97)) × List ByteArray × (List (S101)) × (List (S69)) × ByteArray × ByteArray) := (laws_toRig.f k l0_1 l0_2 l0_3).bind fun bt175 => ((laws_toCoilS.f k l0_4).bind fun t184 => ((laws_toLog.f a0_5 a0_6).bind fun bt187 => (some (a0_0, bt175.1, bt175.2.1, bt175.2.2, t184, bt187.1, bt187.2))))
theorem laws_toDesk.mono : ∀ a0 a1 a2 a3 a4 a5 a6 k, LeO (laws_toDesk.f k a0 a1 a2 a3 a4 a5 a6) (laws_toDesk.f (k + 1) a0 a1 a2 a3 a4 a5 a6) := by
 intro a0 a1 a2 a3 a4 a5 a6 k
 unfold laws_toDesk.f
 have m0 := @laws_toCoilS.mono
 have m1 := @laws_toRig.mono
 exact mo_
theorem laws_toDesk.calls (k : Nat) (a0_0 : Int) (A0_1 : Option Addr) (c0_1 : Nat) (l0_1 : List (S119)) (A0_2 : Option Addr) (c0_2 : Nat) (l0_2 : List ByteArray) (A0_3 : Option Addr) (c0_3 : Nat) (l0_3 : List (S121)) (A0_4 : Option Addr) (c0_4 : Nat) (l0_4 : List (S88)) (a0_5 : ByteArray) (a0_6 : ByteArray) (r1 : Int) (r2 : List (S97)) (r3 : List ByteArray) (r4 : List (S101)) (r5 : List (S69)) (r6 : ByteArray) (r7 : ByteArray) (w : World) (hr0_1 : Kd.C k119 w A0_1 l0_1.length l0_1) (hc0_1 : l0_1.length ≤ c0_1) (hr0_2 : Kd.C Kd.string w A0_2 l0_2.length l0_2) (hc0_2 : l0_2.length ≤ c0_2) (hr0_3 : Kd.C k121 w A0_3 l0_3.length l0_3) (hc0_3 : l0_3.length ≤ c0_3) (hr0_4 : Kd.C k88 w A0_4 l0_4.length l0_4) (hc0_4 : l0_4.length ≤ c0_4) (h : laws_toDesk.f k a0_0 l0_1 l0_2 l0_3 l0_4 a0_5 a0_6 = some (r1, r2, r3, r4, r5, r6, r7)) :
  Calls Tryz.prog 8 #[.agg #[.int .i64 a0_0, .slice A0_1 l0_1.length c0_1, .slice A0_2 l0_2.length c0_2, .slice A0_3 l0_3.length c0_3, .slice A0_4 l0_4.length c0_4, .string a0_5, .string a0_6]] w fun e w' => ∃ v1_ v2_ v3_ v4_ : Value, e = .returned (.agg #[.int .i64 r1, v1_, v2_, v3_, v4_, .string r6, .string r7]) ∧ Kd.R k97 97 w' w.heap.size (fun _ => True) v1_ r2 ∧ Kd.R Kd.string 9 w' w.heap.size (fun _ => True) v2_ r3 ∧ Kd.R k101 101 w' w.heap.size (fun _ => True) v3_ r4 ∧ Kd.R k69 69 w' w.heap.size (fun _ => True) v4_ r5 ∧ Below w.heap.size w w' := by
 have hu31 := Tryz.underlying31
 have hu41 := Tryz.underlying41
 have hu26 := Tryz.underlying26
 have hu37 := Tryz.underlying37
 have hu29 := Tryz.underlying29
 have hu39 := Tryz.underlying39
 have HR0_1 := Aside0.mk hr0_1
 have HC0_1 := Aside0.mk hc0_1
 clear hr0_1 hc0_1
 have HR0_2 := Aside0.mk hr0_2
 have HC0_2 := Aside0.mk hc0_2
 clear hr0_2 hc0_2
 have HR0_3 := Aside0.mk hr0_3
 have HC0_3 := Aside0.mk hc0_3
 clear hr0_3 hc0_3
 have HR0_4 := Aside0.mk hr0_4
 have HC0_4 := Aside0.mk hc0_4
 clear hr0_4 hc0_4
 have HB := Aside0.mk (Below.refl w.heap.size w)
 have H := h
 clear h
 unfold laws_toDesk.f at H
 revert H
 refine bn_ ?_
 rintro ⟨t175, t178, t181⟩ A2 H
 revert H
 refine bn_ ?_
 intro t184 A3 H
 revert H
 refine bn_ ?_
 rintro ⟨t187, t188⟩ A4 H
 simp only [Option.some.injEq, Prod.mk.injEq] at H
 obtain ⟨rfl, rfl, rfl, rfl, rfl, rfl, rfl⟩ := H
 go_enter Tryz.func8, Tryz.ntmps8
 go_wp2_with (first | ((with_reducible refine gd_ 1 rfl ?_); refine bx_ #[.int .i64 a0_0, .slice A0_1 l0_1.length c0_1, .slice A0_2 l0_2.length c0_2, .slice A0_3 l0_3.length c0_3, .slice A0_4 l0_4.length c0_4, .string a0_5, .string a0_6] ?_; intro gb172 hg w5 BK172 hb; have GW172 := bsz_ hg; replace HB := bst_ hb; clear hb hg) | ((with_reducible refine gd_ 2 rfl ?_); refine bx_ #[.int .i64 0, .slice none 0 0, .slice none 0 0, .slice none 0 0, .slice none 0 0, .string (⟨#[]⟩ : ByteArray), .string (⟨#[]⟩ : ByteArray)] ?_; intro gb173 hg w6 BK173 hb; have GW173 := bsz_ hg; replace HB := bst_ hb; have NB172_173 := nbl_ BK172 hg; have NB173_172 := nbr_ BK172 hg; replace BK172 := bkb_ BK172 hb; clear hb hg) | ((with_reducible refine gd_ 3 rfl ?_); refine bx_ #[.int .i64 0, .slice none 0 0, .slice none 0 0, .slice none 0 0, .slice none 0 0, .string (⟨#[]⟩ : ByteArray), .string (⟨#[]⟩ : ByteArray)] ?_; intro gb174 hg w7 BK174 hb; have GW174 := bsz_ hg; replace HB := bst_ hb; have NB172_174 := nbl_ BK172 hg; have NB174_172 := nbr_ BK172 hg; replace BK172 := bkb_ BK172 hb; have NB173_174 := nbl_ BK173 hg; have NB174_173 := nbr_ BK173 hg; replace BK173 := bkb_ BK173 hb; clear hb hg; have hnb8 := NB172_173.out; have hnc8 := NB173_172.out; have hnb9 := NB172_174.out; have hnc9 := NB174_172.out; have hcz10_0 := c7_ BK172; have hnb11 := NB174_173.out; have hnc11 := NB173_174.out; have hcz12_0 := c7_ BK174) | ((with_reducible refine gc_ 21 rfl ?_); refine ck_ Tryz.func21 (laws_toRig.calls _ _ _ _ _ _ _ _ _ _ _ _ _ _ (Kd.C_below HR0_1.out bwl_) HC0_1.out (Kd.C_below HR0_2.out bwl_) HC0_2.out (Kd.C_below HR0_3.out bwl_) HC0_3.out A2.out) ?_; rintro e w13 ⟨v176, v179, v182, rfl, ho0, ho1, ho2, hb⟩; refine ⟨_, rfl, ?_⟩; have HO177 := kl_ ho0; have HO180 := kl_ ho1; have HO183 := kl_ ho2; replace BK172 := bkb_ BK172 hb; replace BK173 := bkb_ BK173 hb; replace BK174 := kb7_ BK174 hb; replace HB := bst_ hb; clear hb ho0 ho1 ho2; obtain ⟨Ao14, co14, eo14⟩ := Kd.R_slice HO177.out; subst eo14; have hcz15_0 := c7_ BK174; obtain ⟨Ao16, co16, eo16⟩ := Kd.R_slice HO180.out; subst eo16; obtain ⟨Ao17, co17, eo17⟩ := Kd.R_slice HO183.out; subst eo17; have hcz18_0 := c7_ BK172) | ((with_reducible refine gc_ 22 rfl ?_); refine ck_ Tryz.func22 (laws_toCoilS.calls _ _ _ _ _ _ (Kd.C_below HR0_4.out bwl_) HC0_4.out A3.out) ?_; rintro e w19 ⟨v185, rfl, ho0, hb⟩; refine ⟨_, rfl, ?_⟩; replace HO177 := krs_ HO177 hb; replace HO180 := krs_ HO180 hb; replace HO183 := krs_ HO183 hb; have HO186 := kl_ ho0; replace BK172 := bkb_ BK172 hb; replace BK173 := bkb_ BK173 hb; replace BK174 := kb7_ BK174 hb; replace HB := bst_ hb; clear hb ho0; obtain ⟨Ao20, co20, eo20⟩ := Kd.R_slice HO186.out; subst eo20; have hcz21_0 := c7_ BK174; have hcz21_1 := c7_ BK172) | ((with_reducible refine gc_ 23 rfl ?_); refine cl_ Tryz.func23 (laws_toLog.calls _ _ _ _ _ A4.out) ?_; intro w23 hb; replace HO177 := krs_ HO177 hb; replace HO180 := krs_ HO180 hb; replace HO183 := krs_ HO183 hb; replace HO186 := krs_ HO186 hb; replace BK172 := bkb_ BK172 hb; replace BK173 := bkb_ BK173 hb; replace BK174 := kb7_ BK174 hb; replace HB := bst_ hb; clear hb; have hcz24_0 := c7_ BK174; have hcz24_1 := c7_ BK173))
 refine bodyPost_ret (results_cell_row rfl _ _ gb173 41 #[.int .i64 a0_0, .slice Ao14 t175.length co14, .slice Ao16 t178.length co16, .slice Ao17 t181.length co17, .slice Ao20 t184.length co20, .string t187, .string t188] (0, 0) _ rfl (kbp_ BK173) Tryz.underlying41 rfl (by kernel_rfl)) rfl ?_
 exact ⟨_, _, _, _, rr_, kt_ HO177, kt_ HO180, kt_ HO183, kt_ HO186, bwl_⟩
def laws_eqRail.f (a0_0 : ByteArray) (a0_1 : ByteArray) (a0_2 : Int) (a1_0 : ByteArray) (a1_1 : ByteArray) (a1_2 : Int) : Option (Bool) := if a0_0.toList = a1_0.toList then (if a0_1.toList = a1_1.toList then (if a0_2 = a1_2 then (some true) else (none)) else (none)) else (none)
theorem laws_eqRail.calls (a0_0 : ByteArray) (a0_1 : ByteArray) (a0_2 : Int) (a1_0 : ByteArray) (a1_1 : ByteArray) (a1_2 : Int) (r : Bool) (w : World) (h : laws_eqRail.f a0_0 a0_1 a0_2 a1_0 a1_1 a1_2 = some r) :
  Calls Tryz.prog 97 #[.agg #[.string a0_0, .string a0_1, .int .i64 a0_2], .agg #[.string a1_0, .string a1_1, .int .i64 a1_2]] w fun e w' => e = .returned (.bool r) ∧ Below w.heap.size w w' := by
 have hu97 := Tryz.underlying97
 have HB := Aside0.mk (Below.refl w.heap.size w)
 have H := h
 clear h
 unfold laws_eqRail.f at H
 revert H
 refine ke_ ?_
 intro c3b0 H
 revert H
 refine ke_ ?_
 intro c4b0 H
 revert H
 refine ke_ ?_
 intro c5b0 H
 obtain rfl := Option.some.inj H
 go_enter Tryz.func97, Tryz.ntmps97
 go_wp2_with (first | ((with_reducible refine gd_ 2 rfl ?_); refine bx_ #[.string a0_0, .string a0_1, .int .i64 a0_2] ?_; intro gb189 hg w6 BK189 hb; have GW189 := bsz_ hg; replace HB := bst_ hb; clear hb hg) | ((with_reducible refine gd_ 3 rfl ?_); refine bx_ #[.string a1_0, .string a1_1, .int .i64 a1_2] ?_; intro gb190 hg w7 BK190 hb; have GW190 := bsz_ hg; replace HB := bst_ hb; have NB189_190 := nbl_ BK189 hg; have NB190_189 := nbr_ BK189 hg; replace BK189 := bkb_ BK189 hb; clear hb hg; have hnb8 := NB189_190.out; have hnc8 := NB190_189.out; have hcz9_0 := c3_ BK189; have hcz9_1 := c3_ BK190))
 go_ret
 exact ⟨rr_, bwl_⟩
end Go.Proofs.YtkoeeajciciphaaGreatDoor.QFnExactStartAgain
