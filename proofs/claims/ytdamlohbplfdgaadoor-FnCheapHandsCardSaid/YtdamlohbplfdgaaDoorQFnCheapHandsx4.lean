/- Functions and contracts of one law, printed by this session's own program (contracts by hand among them). -/
import Derived.Test.YtdamlohbplfdgaaDoorQFnCheapHandsx0
import Derived.Test.YtdamlohbplfdgaaDoorQFnCheapHandsx1
import Derived.Test.YtdamlohbplfdgaaDoorQFnCheapHandsx3
namespace Go.Proofs.YtdamlohbplfdgaaDoor.QFnCheapHands
open Go.RowKit Go.Proofs.YtdamlohbplfdgaaDoorW.PrintWords Go.Proofs.YtdamlohbplfdgaaDoorW.PrintLast Go.Proofs.YtdamlohbplfdgaaDoorW.PrintMore
attribute [local go_sem] max2_int min2_int max_two min_two max_three min_three max_four min_four   -- for this text's walks alone
set_option linter.unusedVariables false
set_option linter.unusedSimpArgs false

/-! ### impl_CheapestHands: function 7, by hand -/
section
open Go.Proofs.YtdamlohbplfdgaaDoor.Base
def extraW (lim : Int) (l : List Int) : Int := l.foldl (fun a m => wrap64 (a + mx 0 (wrap64 (m - lim)))) 0
theorem extra_impl (f0 : ByteArray) (l : List Int) (f2 lim : Int) (h : l.length ≤ 35184372088832) : Ev (fun k => impl_extraMinutes.f k f0 l f2 lim) (extraW lim l) := by
  have := for_to l.length (fun k (s : Int) i => impl_extraMinutes.l0 k lim s l l.length i) (fun i => extraW lim (l.take i)) (extraW lim l) (fun i hi => ⟨0, fun k _ => ?_⟩) (Ev.const fun k => ?_) l.length 0 (by omega)
  · exact this
  · simp only [impl_extraMinutes.l0]
    rw [if_pos (by omega), if_pos (by omega), if_pos (by omega), rd_nat l i hi, List.take_succ_eq_append_getElem hi, w64 (x := (i : Int) + 1) (by omega) (by omega)]
    unfold extraW
    rw [List.foldl_append]
    rfl
  · simp only [impl_extraMinutes.l0]
    rw [if_neg (by omega), List.take_of_length_le (Nat.le_refl _)]
theorem mx_zero {x : Int} (h : 0 ≤ x) : mx 0 x = x := by unfold mx; split <;> omega
theorem extra_zero : ∀ (l : List Int) (a : Int), (∀ x ∈ l, 0 ≤ x ∧ x ≤ 1440) → l.foldl (fun a m => wrap64 (a + mx 0 (wrap64 (m - 0)))) a = l.foldl (fun a m => wrap64 (a + m)) a
  | [], _, _ => rfl
  | x :: xs, a, h => by
    have hx := h x (by simp)
    rw [List.foldl_cons, List.foldl_cons, Int.sub_zero, w64 (x := x) (by omega) (by omega), mx_zero hx.1]
    exact extra_zero xs _ (fun y hy => h y (by simp [hy]))

def payW (wage : Int) (l : List Int) (lim ex : Int) : Int := wrap64 (Int.tdiv (wrap64 (wrap64 (wrap64 (wage * extraW 0 l) * 100) + wrap64 (wrap64 (wage * extraW lim l) * ex))) 6000)
theorem pay_impl (f0 : ByteArray) (f1 : List Int) (f2 lim ex : Int) (h : f1.length ≤ 35184372088832) : Ev (fun k => impl_payOf.f k f0 f1 f2 lim ex) (payW f2 f1 lim ex) := by
  obtain ⟨K, hK⟩ := Ev.pick (extra_impl f0 f1 f2 0 h)
  obtain ⟨J, hJ⟩ := Ev.pick (extra_impl f0 f1 f2 lim h)
  refine Ev.intro (K + J) fun k hk => ?_
  unfold impl_payOf.f
  rw [hK k (by omega), hJ k (by omega)]
  rfl

/-- What lies in memory while the closure goes through the sets: the variables that it captured, the best set so far, the list. -/
structure Xt (l : List S33) (need : Int) (A : Option Addr) (c gm gl gb gs ge : Nat) (w0 w : World) (v : Value) (s : List Int × Int) : Prop where
  hm : w.heap[gm]? = some (.cells #[.int .i64 need] 2 (0, 0))
  hl : w.heap[gl]? = some (.cells #[.int .i64 s.2] 2 (0, 0))
  hb : w.heap[gb]? = some (.cells #[v] 27 (0, 0))
  hs : w.heap[gs]? = some (.cells #[.slice A l.length c] 24 (0, 0))
  he : w.heap[ge]? = some (.cells #[.func (.func 19) #[] #[.pointer (some ⟨gm, 0, none⟩), .pointer (some ⟨gl, 0, none⟩), .pointer (some ⟨gb, 0, none⟩), .pointer (some ⟨gs, 0, none⟩), .pointer (some ⟨ge, 0, none⟩)]] 47 (0, 0))
  nm : gm ≠ gl
  bl : w0.heap.size ≤ gl
  bb : w0.heap.size ≤ gb
  row : Kd.R (Kd.int .i64) 2 w w0.heap.size (fun k => k ≠ gl) v s.1
  low : Below w0.heap.size w0 w
  list : Kd.C k33 w0 A l.length l
  lc : l.length ≤ c
section
variable {l : List S33} {need : Int} {A : Option Addr} {c gm gl gb gs ge : Nat} {w0 w w5 : World} {v v5 : Value} {s : List Int × Int}
theorem Xt.lt_l (h : Xt l need A c gm gl gb gs ge w0 w v s) : gl < w.heap.size := blk_lt h.hl
theorem Xt.lt_b (h : Xt l need A c gm gl gb gs ge w0 w v s) : gb < w.heap.size := blk_lt h.hb
theorem Xt.ne (h : Xt l need A c gm gl gb gs ge w0 w v s) : gl ≠ gb := blk_ne h.hl h.hb (by decide)
theorem Xt.step (h : Xt l need A c gm gl gb gs ge w0 w v s) (hb : Below w.heap.size w w5) : Xt l need A c gm gl gb gs ge w0 w5 v s :=
  ⟨blk_below h.hm hb, blk_below h.hl hb, blk_below h.hb hb, blk_below h.hs hb, blk_below h.he hb, h.nm, h.bl, h.bb, Kd.R_below h.row hb, h.low.trans (hb.mono (by have := h.lt_l; have := h.bl; omega)),
    h.list, h.lc⟩
theorem Xt.put (h : Xt l need A c gm gl gb gs ge w0 w v s) (hb : Below w.heap.size w w5) {set : List Int} (hr : Kd.R (Kd.int .i64) 2 w5 w.heap.size (fun _ => True) v5 set) (p : Int) :
    Xt l need A c gm gl gb gs ge w0 ((w5.setCell ⟨gb, 0, none⟩ v5).setCell ⟨gl, 0, none⟩ (.int .i64 p)) v5 (set, p) ∧ Kept w ((w5.setCell ⟨gb, 0, none⟩ v5).setCell ⟨gl, 0, none⟩ (.int .i64 p)) (fun k => k = gl ∨ k = gb) := by
  have h5 := h.step hb
  have hk : Kept w ((w5.setCell ⟨gb, 0, none⟩ v5).setCell ⟨gl, 0, none⟩ (.int .i64 p)) (fun k => k = gl ∨ k = gb) := ((Kept.of_below hb _).setCell (.inl (.inr rfl)) _).setCell (.inl (.inl rfl)) _
  have n1 : gm ≠ gb := blk_ne h5.hm h5.hb (by decide)
  have n3 : gs ≠ gb := blk_ne h5.hs h5.hb (by decide)
  have n4 : gs ≠ gl := blk_ne h5.hs h5.hl (by decide)
  have n5 : ge ≠ gb := blk_ne h5.he h5.hb (by decide)
  have n6 : ge ≠ gl := blk_ne h5.he h5.hl (by decide)
  have hr1 : Kd.R (Kd.int .i64) 2 w5 w.heap.size (fun k => w.heap.size ≤ k) v5 set := Kd.R_mono (Kd.R_bound hr) (fun k hk => hk.2.1)
  have b1 := h.lt_l
  have b2 := h.lt_b
  have b3 := h.bl
  refine ⟨⟨?_, ?_, ?_, ?_, ?_, h.nm, h.bl, h.bb, ?_, ?_, h.list, h.lc⟩, hk⟩
  · exact blk_far (blk_far h5.hm n1 _) h.nm _
  · exact one_setCell (blk_far h5.hl h.ne _)
  · exact blk_far (one_setCell h5.hb) h.ne.symm _
  · exact blk_far (blk_far h5.hs n3 _) n4 _
  · exact blk_far (blk_far h5.he n5 _) n6 _
  · exact Kd.R_mono (Kd.R_lower (Kd.R_far (p := ⟨gl, 0, none⟩) (Kd.R_far (p := ⟨gb, 0, none⟩) hr1 (fun k hk => by show k ≠ gb; omega) _) (fun k hk => by show k ≠ gl; omega) _) (by omega)) (fun k hk => by omega)
  · exact (h5.low.setCell (p := ⟨gb, 0, none⟩) h.bb _).setCell (p := ⟨gl, 0, none⟩) h.bl _
theorem sx_step {F B u0 u1 u2 : Value} {a0 a1 a2 : Addr} {W W' : World} (h : W.cell? ⟨ge, 0, none⟩ = some F ∧ W.cell? ⟨gs, 0, none⟩ = some B ∧ W.cell? a0 = some u0 ∧ W.cell? a1 = some u1 ∧ W.cell? a2 = some u2 ∧ Below w0.heap.size w0 W) (hb : Below W.heap.size W W') :
    W'.cell? ⟨ge, 0, none⟩ = some F ∧ W'.cell? ⟨gs, 0, none⟩ = some B ∧ W'.cell? a0 = some u0 ∧ W'.cell? a1 = some u1 ∧ W'.cell? a2 = some u2 ∧ Below w0.heap.size w0 W' :=
  ⟨pw_cell_below hb h.1, pw_cell_below hb h.2.1, pw_cell_below hb h.2.2.1, pw_cell_below hb h.2.2.2.1, pw_cell_below hb h.2.2.2.2.1, below_step h.2.2.2.2.2 hb⟩
theorem set_kept {S : Nat → Prop} {A' : Option Addr} {n c' : Nat} {xs : List Int} (h : Kd.R (Kd.int .i64) 2 w5 w.heap.size (fun _ => True) (.slice A' n c') xs) (hS : ∀ k, S k → k < w.heap.size) : ∀ W', Kept w5 W' S → Kd.C (Kd.int .i64) W' A' n xs :=
  Kd.C_kept_own (Kd.R_mono (Kd.R_bound h) (fun k hk => hk.2.1)) (fun k hk hs => by have := hS k hs; have : w.heap.size ≤ k := hk; omega)
end
set_option maxHeartbeats 8000000 in
set_option maxRecDepth 100000 in
/-- The closure goes through all sets that begin with a set. -/
theorem sets_calls (k : Nat) (l : List S33) (M P : Nat → Int) (need : Int) (A : Option Addr) (c gm gl gb gs ge : Nat) (w0 : World) (hn : l.length ≤ 10)
    (hM : ∀ i : Nat, i < l.length → impl_extraMinutes.f k (rd_T33 l (i : Int)).f0 (rd_T33 l (i : Int)).f1 (rd_T33 l (i : Int)).f2 0 = some (M i) ∧ 0 ≤ M i ∧ M i ≤ 100000)
    (hP : ∀ i : Nat, i < l.length → impl_payOf.f k (rd_T33 l (i : Int)).f0 (rd_T33 l (i : Int)).f1 (rd_T33 l (i : Int)).f2 1440 0 = some (P i) ∧ 0 ≤ P i ∧ P i ≤ 100000000) :
    ∀ (d : Nat) (As : Option Addr) (cs : Nat) (set : List Int) (m p : Int) (v : Value) (s : List Int × Int) (w : World) (f : Nat), f + d = l.length → set.length + d ≤ l.length → 0 ≤ m → m ≤ 100000 * (f : Int) → 0 ≤ p → p ≤ 100000000 * (f : Int) → Xt l need A c gm gl gb gs ge w0 w v s →
      (∀ W', Kept w W' (fun k => k = gl ∨ k = gb) → Kd.C (Kd.int .i64) W' As set.length set) → set.length ≤ cs →
    Calls Tryd.prog 19 #[.slice As set.length cs, .int .i64 (f : Int), .int .i64 m, .int .i64 p, .pointer (some ⟨gm, 0, none⟩), .pointer (some ⟨gl, 0, none⟩), .pointer (some ⟨gb, 0, none⟩), .pointer (some ⟨gs, 0, none⟩), .pointer (some ⟨ge, 0, none⟩)] w
      fun e w' => e = .returned (.tuple #[]) ∧ (∃ v', Xt l need A c gm gl gb gs ge w0 w' v' (setsI M P need l.length d set m p (bestS need set m p s))) ∧ Kept w w' (fun k => k = gl ∨ k = gb) := by
  intro d
  induction d using Nat.strongRecOn with
  | _ d ih =>
  intro As cs set m p v s w f hd hsd hm0 hm1 hp0 hp1 hX hset hcs
  have IH := Aside0.mk ih
  have HX := Aside0.mk hX
  have HS := Aside0.mk hset
  have HCS := Aside0.mk hcs
  have HN := Aside0.mk (And.intro hn (And.intro hd (And.intro hsd (And.intro hm0 (And.intro hm1 (And.intro hp0 hp1))))))
  have cm := cell_of_one hX.hm
  have cz := cell_of_one hX.hl
  have HM := Aside0.mk hM
  have HP := Aside0.mk hP
  clear ih hset hcs hd hsd hm0 hm1 hp0 hp1 hX hn hM hP
  go_enter Tryd.func19, Tryd.ntmps19
  go_upto_region 0 with (fail)
  go_cut [26] (fun v26 wc => v26 = .bool (decide (need ≤ m ∧ (s.2 < 0 ∨ p < s.2))) ∧ wc = w)
  case first =>
    by_cases h1 : need ≤ m
    · by_cases h2 : s.2 < 0
      · have HE : Aside0 (decide (need ≤ m ∧ (s.2 < 0 ∨ p < s.2)) = true) := ⟨decide_eq_true (by omega)⟩
        go_wp2
        go_meet
        exact ⟨by rw [HE.out], rfl⟩
      · by_cases h3 : p < s.2
        · have HE : Aside0 (decide (need ≤ m ∧ (s.2 < 0 ∨ p < s.2)) = true) := ⟨decide_eq_true (by omega)⟩
          go_wp2
          go_meet
          exact ⟨by rw [HE.out], rfl⟩
        · have HE : Aside0 (decide (need ≤ m ∧ (s.2 < 0 ∨ p < s.2)) = false) := ⟨decide_eq_false (by omega)⟩
          go_wp2
          go_meet
          exact ⟨by rw [HE.out], rfl⟩
    · have HE : Aside0 (decide (need ≤ m ∧ (s.2 < 0 ∨ p < s.2)) = false) := ⟨decide_eq_false (by omega)⟩
      go_wp2
      go_meet
      exact ⟨by rw [HE.out], rfl⟩
  case rest =>
    obtain ⟨rfl, hw⟩ := hcut
    replace hw := hw.symm
    subst hw
    generalize hq : decide (need ≤ m ∧ (s.2 < 0 ∨ p < s.2)) = q
    have HQ := Aside0.mk hq
    clear hq
    go_upto_if 26 with (fail)
    go_cut [] (fun wc => ∃ v1, Aside0 (Xt l need A c gm gl gb gs ge w0 wc v1 (bestS need set m p s)) ∧ Aside0 (Kept w wc (fun k => k = gl ∨ k = gb)))
    case first =>
      cases q with
      | false =>
        have HE : Aside0 (bestS need set m p s = s) := ⟨if_neg (of_decide_eq_false HQ.out)⟩
        go_wp2
        go_meet
        exact ⟨v, ⟨by rw [HE.out]; exact HX.out⟩, ⟨Kept.refl _ _⟩⟩
      | true =>
        have HE : Aside0 (bestS need set m p s = (set, p)) := ⟨if_pos (of_decide_eq_true HQ.out)⟩
        have HR := Aside0.mk (HS.out w (Kept.refl _ _))
        have LM : Aside0 (set.length ≤ 10) := ⟨by have := HN.out; omega⟩
        clear IH HQ
        go_wp2_with (first
          | ((with_reducible refine gate_dst (N := 27) rfl ?_); refine Kd.R_lit (Kd.int .i64) _ 2 ?hg (N := 27) ?hd (xs := ([] : List Int)) (inner := []) (ok := fun _ => True) (okp := fun _ => True) ?hr ?hp (fun _ hk => hk) trivial (Below.refl _ _) (Nat.le_refl _) (by simp) ?_; (case hd => rfl); (case hg => rfl); (case hr => first | (go_simp; done) | (go_simp; rfl)); (case hp => exact (Reps.none _ _)); intro v3 w3 ho hb hg_ hnew_; clear hg_ hnew_; have HO3 := Aside0.mk ho; have HB3 := Aside0.mk hb; clear ho hb)
          | ((with_reducible refine gate_builtin (b := .append) (xs := #[.tmp 27, .tmp 28]) rfl ?_); at_builtin; refine Kd.R_append_rows (Kd.int .i64) (w0 := w) w.heap.size rfl (.tmp 27) (.tmp 28) 27 2 (.int .i64 0) 8 rfl Tryd.underlying27 info2 rfl (by decide) (by omega) v3 ([] : List Int) set _ _ _ (fun _ => True) (fun _ => False) rfl rfl ?aO ?aR (fun _ _ h => h) (fun _ h => h.elim) ?aF ?aB ?aS ?aL ?_; (case aR => exact (Kd.C_below HR.out HB3.out)); (case aB => exact HB3.out); (case aF => exact (fun _ _ => trivial)); (case aO => exact HO3.out); (case aS => exact HB3.out.size); (case aL => have := LM.out; simp only [List.length_nil]; omega); intro v5 w5 ho hb hg hat; rw [List.nil_append] at ho; obtain ⟨A5, c5, e5⟩ := Kd.R_slice ho; subst e5; have HO5 := Aside0.mk ho; have HB5 := Aside0.mk hb; clear ho hb hg hat; have X5 := Aside0.mk (HX.out.step HB5.out); have cb5 := cell_of_one X5.out.hb; have fb5 := free_of_one X5.out.hb; have cz5 := cell_of_one X5.out.hl; have fz5 := free_of_one X5.out.hl; have ne5 := X5.out.ne; have ne6 := X5.out.ne.symm))
        go_meet
        have hput := HX.out.put HB5.out HO5.out p
        exact ⟨_, ⟨by rw [HE.out]; exact hput.1⟩, ⟨hput.2⟩⟩
    case rest =>
      obtain ⟨v1, X1, K1⟩ := hcut
      clear HQ cm cz HX
      go_wp2
      go_loopg [13] d (fun dq v13 w' => ∃ (i : Nat) (v2 : Value) (s2 : List Int × Int), v13 = .int .i64 (i : Int) ∧ Aside0 (i + dq = l.length) ∧ Aside0 (dq ≤ d) ∧ Aside0 (Xt l need A c gm gl gb gs ge w0 w' v2 s2) ∧ Aside0 (Kept w w' (fun k => k = gl ∨ k = gb)) ∧ Aside0 (setsI M P need l.length dq set m p s2 = setsI M P need l.length d set m p (bestS need set m p s)))
      case atStart => exact ⟨f, v1, _, rfl, ⟨HN.out.2.1⟩, ⟨Nat.le_refl _⟩, X1, K1, ⟨rfl⟩⟩
      case round =>
        obtain ⟨i, v2, s2, rfl, hi, hdq, X2, K2, E2⟩ := hrel
        clear X1 K1
        have cs2 := cell_of_one X2.out.hs
        cases gk with
        | zero =>
          have p2 : ¬ (i : Int) < (l.length : Int) := by have := hi.out; omega
          go_wp2
          go_end0
          exact ⟨rfl, ⟨v2, by rw [← E2.out]; exact X2.out⟩, K2.out⟩
        | succ dq =>
          have hlt : i < l.length := by have := hi.out; omega
          have p1 : (0 : Int) ≤ (i : Int) := Int.natCast_nonneg i
          have p2 : (i : Int) < (l.length : Int) := Int.ofNat_lt.2 hlt
          obtain ⟨ad, A1, c1, ea, x0, x1, x2, l1, g1⟩ := at_T33 X2.out.list (i : Int) p1 p2
          rw [Int.toNat_natCast] at x0 x1 x2
          subst ea
          obtain ⟨hm1, hm2, hm3⟩ := HM.out i hlt
          obtain ⟨hp1, hp2, hp3⟩ := HP.out i hlt
          generalize (rd_T33 l (i : Int)).f0 = f0 at *
          generalize (rd_T33 l (i : Int)).f1 = f1 at *
          generalize (rd_T33 l (i : Int)).f2 = f2 at *
          have CM := Aside0.mk hm1
          have CP := Aside0.mk hp1
          have G1 := Aside0.mk g1
          have L1 := Aside0.mk l1
          have Y0 := Aside0.mk x0
          have Y1 := Aside0.mk x1
          have Y2 := Aside0.mk x2
          have HR := Aside0.mk (HS.out wr K2.out)
          have LM : Aside0 (set.length ≤ 10) := ⟨by have := HN.out; omega⟩
          clear hm1 hp1 g1 l1 x0 x1 x2
          go_upto_block 1 with (fail)
          go_cut [] (fun wx => ∃ v', Aside0 (Xt l need (some ad) c gm gl gb gs ge w0 wx v' (setsI M P need l.length dq (set ++ [(i : Int)]) (m + M i) (p + P i) (bestS need (set ++ [(i : Int)]) (m + M i) (p + P i) s2))) ∧ Aside0 (Kept wr wx (fun k => k = gl ∨ k = gb)))
          case first =>
            go_upto_region 6 with (first
              | ((with_reducible refine gate_dst (N := 38) rfl ?_); refine Kd.R_lit (Kd.int .i64) _ 2 ?hg (N := 38) ?hd (xs := ([] : List Int)) (inner := []) (ok := fun _ => True) (okp := fun _ => True) ?hr ?hp (fun _ hk => hk) trivial (Below.refl _ _) (Nat.le_refl _) (by simp) ?_; (case hd => rfl); (case hg => rfl); (case hr => first | (go_simp; done) | (go_simp; rfl)); (case hp => exact (Reps.none _ _)); intro v3 w3 ho hb hg_ hnew_; clear hg_ hnew_; have HO3 := Aside0.mk ho; have HB3 := Aside0.mk hb; clear ho hb)
              | ((with_reducible refine gate_builtin (b := .append) (xs := #[.tmp 38, .tmp 39]) rfl ?_); at_builtin; refine Kd.R_append_rows (Kd.int .i64) (w0 := wr) wr.heap.size rfl (.tmp 38) (.tmp 39) 27 2 (.int .i64 0) 8 rfl Tryd.underlying27 info2 rfl (by decide) (by omega) v3 ([] : List Int) set _ _ _ (fun _ => True) (fun _ => False) rfl rfl ?aO ?aR (fun _ _ h => h) (fun _ h => h.elim) ?aF ?aB ?aS ?aL ?_; (case aR => exact (Kd.C_below HR.out HB3.out)); (case aB => exact HB3.out); (case aF => exact (fun _ _ => trivial)); (case aO => exact HO3.out); (case aS => exact HB3.out.size); (case aL => have := LM.out; simp only [List.length_nil]; omega); intro v5 w5 ho hb hg hat; rw [List.nil_append] at ho; have HO5 := Aside0.mk ho; have HB5 := Aside0.mk hb; clear ho hb hg hat)
              | ((with_reducible refine gate_builtin (b := .append) (xs := #[.tmp 40, .tmp 42]) rfl ?_); at_builtin; refine Kd.R_append (Kd.int .i64) (w0 := wr) wr.heap.size rfl (.tmp 40) (.tmp 42) 27 2 (.int .i64 0) 8 rfl Tryd.underlying27 info2 rfl (by decide) (by omega) v5 set (i : Int) [.int .i64 (i : Int)] (fun _ => True) (fun _ => False) rfl rfl ?bP (fun _ hk => hk.elim) ?bF ?bO ?bB ?bS ?bL ?_; (case bP => exact rfl); (case bB => exact HB5.out); (case bF => exact (fun _ _ => trivial)); (case bO => exact HO5.out); (case bS => exact HB5.out.size); (case bL => have := LM.out; omega); intro v7 w7 ho hb hg hat; obtain ⟨A7, c7, e7, l7, r7⟩ := Kd.R_reads ho; subst e7; have HO7 := Aside0.mk ho; have HB7 := Aside0.mk hb; have L7 := Aside0.mk l7; clear ho hb hg hat l7 r7))
            have X7 := Aside0.mk (X2.out.step HB7.out)
            have K7 := Aside0.mk (K2.out.below HB7.out)
            have C7 := Aside0.mk (set_kept (S := fun k => k = gl ∨ k = gb) HO7.out (by intro k hk; have := X2.out.lt_l; have := X2.out.lt_b; omega))
            clear HO3 HB3 HO5 HB5
            have z1 := cell_of_one X7.out.he
            have z2 := cell_of_one X7.out.hs
            have z3 := pw_cell_below X7.out.low Y0.out
            have z4 := pw_cell_below X7.out.low Y1.out
            have z5 := pw_cell_below X7.out.low Y2.out
            have LW := Aside0.mk X7.out.low
            have BD : Aside0 ((i + 1) + dq = l.length ∧ (set ++ [(i : Int)]).length + dq ≤ l.length ∧ 0 ≤ m + M i ∧ m + M i ≤ 100000 * ((i + 1 : Nat) : Int) ∧ 0 ≤ p + P i ∧ p + P i ≤ 100000000 * ((i + 1 : Nat) : Int)) := ⟨by
              have h1 := HN.out
              have h2 := hi.out
              have h3 := hdq.out
              rw [List.length_append, List.length_singleton]
              omega⟩
            have IHd : Aside0 (∀ W, Below w7.heap.size w7 W → Calls Tryd.prog 19 #[.slice A7 (set.length + 1) c7, .int .i64 ((i : Int) + 1), .int .i64 (m + M i), .int .i64 (p + P i), .pointer (some ⟨gm, 0, none⟩), .pointer (some ⟨gl, 0, none⟩), .pointer (some ⟨gb, 0, none⟩), .pointer (some ⟨gs, 0, none⟩), .pointer (some ⟨ge, 0, none⟩)] W
                fun e w' => e = .returned (.tuple #[]) ∧ (∃ v', Xt l need (some ad) c gm gl gb gs ge w0 w' v' (setsI M P need l.length dq (set ++ [(i : Int)]) (m + M i) (p + P i) (bestS need (set ++ [(i : Int)]) (m + M i) (p + P i) s2))) ∧ Kept W w' (fun k => k = gl ∨ k = gb)) := ⟨fun W hx => by
              have h := IH.out dq (by have := hdq.out; omega) A7 c7 (set ++ [(i : Int)]) (m + M i) (p + P i) v2 s2 W (i + 1) BD.out.1 BD.out.2.1 BD.out.2.2.1 BD.out.2.2.2.1 BD.out.2.2.2.2.1 BD.out.2.2.2.2.2 (X7.out.step hx) (fun W' hk => C7.out W' ((Kept.of_below hx _).then_ hk (fun _ h => .inl h))) L7.out
              have e1 : (set ++ [(i : Int)]).length = set.length + 1 := by simp
              have e2 : ((i + 1 : Nat) : Int) = (i : Int) + 1 := by omega
              rw [e1, e2] at h
              exact h⟩
            have q1 : IntKind.i64.wrap ((i : Int) + 1) = ((i + 1 : Nat) : Int) := (IntWalk.i64_in _ (by have := HN.out; omega)).trans (by omega)
            have q2 : IntKind.i64.wrap (m + M i) = m + M i := IntWalk.i64_in _ (by have := BD.out; have := HN.out; omega)
            have q3 : IntKind.i64.wrap (p + P i) = p + P i := IntWalk.i64_in _ (by have := BD.out; have := HN.out; omega)
            have eg : ∀ args w, (callFunc 19 args).run Tryd.prog w = .ok (.enter 19 args) w := enters_of Tryd.func19 (by kernel_rfl) rfl
            clear hm2 hm3 hp2 hp3 HM HP IH
            go_region_held3 (fun w' => w'.cell? ⟨ge, 0, none⟩ = some (.func (.func 19) #[] #[.pointer (some ⟨gm, 0, none⟩), .pointer (some ⟨gl, 0, none⟩), .pointer (some ⟨gb, 0, none⟩), .pointer (some ⟨gs, 0, none⟩), .pointer (some ⟨ge, 0, none⟩)]) ∧ w'.cell? ⟨gs, 0, none⟩ = some (.slice (some ad) l.length c) ∧ w'.cell? (ad.add (i * 3)) = some (.string f0) ∧ w'.cell? ⟨(ad.add (i * 3)).block, (ad.add (i * 3)).off + 1, none⟩ = some (.slice A1 f1.length c1) ∧ w'.cell? ⟨(ad.add (i * 3)).block, (ad.add (i * 3)).off + 2, none⟩ = some (.int .i64 f2) ∧ Below w0.heap.size w0 w')
              (first | assumption | exact ⟨by simpa using z1, by simpa using z2, by simpa using z3, by simpa using z4, by simpa using z5, below_drew1 LW.out⟩ | (go_split_ands; exact sx_step ⟨by assumption, by assumption, by assumption, by assumption, by assumption, by assumption⟩ hb') | exact ⟨cell_of_one hX'.he, cell_of_one hX'.hs, pw_cell_below hX'.low Y0.out, pw_cell_below hX'.low Y1.out, pw_cell_below hX'.low Y2.out, hX'.low⟩)
              (first | (go_at_call 20; go_split_ands; (refine (impl_extraMinutes.calls k _ _ _ _ _ _ _ _ (Kd.C_below G1.out (by assumption)) L1.out CM.out).mono ?_); rintro e w' ⟨rfl, hb'⟩; have hx1 := Aside0.mk (below_step (below_drew1 (Below.refl _ w7)) hb')) | (go_at_call 21; go_split_ands; (refine (impl_payOf.calls k _ _ _ _ _ _ _ _ _ (Kd.C_below G1.out (by assumption)) L1.out CP.out).mono ?_); rintro e w' ⟨rfl, hb'⟩; have hx2 := Aside0.mk (below_step hx1.out hb')) | (go_at_call 19; (with_reducible refine (IHd.out _ hx2.out).mono ?_); rintro e w' ⟨rfl, ⟨v', hX'⟩, hK'⟩))
            all_goals
              go_wp2
              go_meet
              exact ⟨v', ⟨hX'⟩, ⟨(Kept.of_below (below_step HB7.out hx2.out) _).then_ hK' (fun _ h => .inl h)⟩⟩
          case rest =>
            obtain ⟨v', X', K'⟩ := hcut
            have hw1 : wrap64 ((i : Int) + 1) = (i : Int) + 1 := w64 (by omega) (by have := HN.out; omega)
            have EE : Aside0 (l.length - (dq + 1) = i) := ⟨by have := hi.out; omega⟩
            have HI : Aside0 ((i + 1) + dq = l.length) := ⟨by have := hi.out; omega⟩
            have HD : Aside0 (dq ≤ d) := ⟨by have := hdq.out; omega⟩
            have HW := Aside0.mk hw1
            clear hw1
            go_wp2
            go_roundg dq
            case measure => omega
            case rel => exact ⟨i + 1, v', _, by first | go_num | (simp; done) | (simp; exact HW.out), HI, HD, X', ⟨K2.out.then_ K'.out (fun _ h => .inl h)⟩, ⟨by rw [← E2.out]; simp only [setsI]; rw [EE.out]⟩⟩
theorem hand_MP {l : List S33} (hv : handsOk (hdI l) l.length = true) : ∃ k, ∀ i : Nat, i < l.length →
    (impl_extraMinutes.f k (rd_T33 l (i : Int)).f0 (rd_T33 l (i : Int)).f1 (rd_T33 l (i : Int)).f2 0 = some (sumW (rd_T33 l (i : Int)).f1) ∧ 0 ≤ sumW (rd_T33 l (i : Int)).f1 ∧ sumW (rd_T33 l (i : Int)).f1 ≤ 100000) ∧
    (impl_payOf.f k (rd_T33 l (i : Int)).f0 (rd_T33 l (i : Int)).f1 (rd_T33 l (i : Int)).f2 1440 0 = some (payS (rd_T33 l (i : Int)).f2 (rd_T33 l (i : Int)).f1 1440 0) ∧ 0 ≤ payS (rd_T33 l (i : Int)).f2 (rd_T33 l (i : Int)).f1 1440 0 ∧ payS (rd_T33 l (i : Int)).f2 (rd_T33 l (i : Int)).f1 1440 0 ≤ 100000000) := by
  have hall : ∀ i, i < l.length → fitH (hdI l) i = true := fun i hi => by
    unfold handsOk at hv
    rw [Bool.and_eq_true, List.all_eq_true] at hv
    exact hv.1 i (List.mem_range.2 hi)
  have key : ∀ n, n ≤ l.length → ∃ K, ∀ k, K ≤ k → ∀ i : Nat, i < n → impl_extraMinutes.f k (rd_T33 l (i : Int)).f0 (rd_T33 l (i : Int)).f1 (rd_T33 l (i : Int)).f2 0 = some (sumW (rd_T33 l (i : Int)).f1) ∧ impl_payOf.f k (rd_T33 l (i : Int)).f0 (rd_T33 l (i : Int)).f1 (rd_T33 l (i : Int)).f2 1440 0 = some (payS (rd_T33 l (i : Int)).f2 (rd_T33 l (i : Int)).f1 1440 0) := by
    intro n
    induction n with
    | zero => exact fun _ => ⟨0, fun k _ i hi => absurd hi (Nat.not_lt_zero _)⟩
    | succ n ih =>
      intro hn
      obtain ⟨K, hK⟩ := ih (by omega)
      have hf := hall n (by omega)
      have hh : handV (rd_T33 l (n : Int)).f0 (rd_T33 l (n : Int)).f1 (rd_T33 l (n : Int)).f2 = true := by
        unfold fitH at hf
        exact (Bool.and_eq_true _ _ ▸ hf).1
      obtain ⟨h1, h2, h3, h4⟩ := handV_shift hh
      have e0 : extraW 0 (rd_T33 l (n : Int)).f1 = sumW (rd_T33 l (n : Int)).f1 := extra_zero _ 0 h1
      obtain ⟨J, hJ⟩ := Ev.pick (extra_impl (rd_T33 l (n : Int)).f0 (rd_T33 l (n : Int)).f1 (rd_T33 l (n : Int)).f2 0 (by omega))
      obtain ⟨I, hI⟩ := Ev.pick (pay_impl (rd_T33 l (n : Int)).f0 (rd_T33 l (n : Int)).f1 (rd_T33 l (n : Int)).f2 1440 0 (by omega))
      have e1 : payW (rd_T33 l (n : Int)).f2 (rd_T33 l (n : Int)).f1 1440 0 = payS (rd_T33 l (n : Int)).f2 (rd_T33 l (n : Int)).f1 1440 0 := by
        unfold payW payS
        rw [e0]; rfl
      refine ⟨K + J + I, fun k hk i hi => ?_⟩
      by_cases e : i = n
      · subst e
        exact ⟨by rw [hJ k (by omega), e0], by rw [hI k (by omega), e1]⟩
      · exact hK k (by omega) i (by omega)
  obtain ⟨K, hK⟩ := key l.length (Nat.le_refl _)
  refine ⟨K, fun i hi => ?_⟩
  have hf := hall i hi
  have hh : handV (rd_T33 l (i : Int)).f0 (rd_T33 l (i : Int)).f1 (rd_T33 l (i : Int)).f2 = true := by
    unfold fitH at hf
    exact (Bool.and_eq_true _ _ ▸ hf).1
  obtain ⟨h1, h2, h3, h4⟩ := handV_shift hh
  have s1 := (sumW_rg h1 h2).2
  have s2 := (payS_rg (lim := 1440) h1 h2 h3 h4).2
  have h := hK K (Nat.le_refl _) i hi
  exact ⟨⟨h.1, by omega, by omega⟩, ⟨h.2, by omega, by omega⟩⟩
def impl_CheapestHands.f (l0 : List S33) (a1 : Int) : Option (List Int × Int × Int) :=
  if handsOk (hdI l0) l0.length = true then (if decide (0 ≤ a1 ∧ a1 ≤ 20000) = true then some (cheapAns (setsI (fun i => sumW (rd_T33 l0 (i : Int)).f1) (fun i => payS (rd_T33 l0 (i : Int)).f2 (rd_T33 l0 (i : Int)).f1 1440 0) a1 l0.length l0.length [] 0 0 (bestS a1 [] 0 0 ([], -1)))) else some ([], 0, 2)) else some ([], 0, 1)
set_option maxHeartbeats 8000000 in
set_option maxRecDepth 100000 in
theorem impl_CheapestHands.calls (A0 : Option Addr) (c0 : Nat) (l0 : List (S33)) (a1 : Int) (r1 : List Int) (r2 : Int) (r3 : Int) (w : World) (hr0 : Kd.C k33 w A0 l0.length l0) (hc0 : l0.length ≤ c0) (h : impl_CheapestHands.f l0 a1 = some (r1, r2, r3)) :
    Calls Tryd.prog 7 #[.slice A0 l0.length c0, .int .i64 a1] w fun e w' => ∃ v0_ : Value, e = .returned (.tuple #[v0_, .int .i64 r2, .int .i64 r3]) ∧ Kd.R (Kd.int .i64) 2 w' w.heap.size (fun _ => True) v0_ r1 ∧ Below w.heap.size w w' := by
  have HR0 := Aside0.mk hr0
  have HC0 := Aside0.mk hc0
  have H := Aside0.mk h
  clear hr0 hc0 h
  have V1 : Aside0 (∀ W, Below w.heap.size w W → Calls Tryd.prog 17 #[.slice A0 l0.length c0] W fun e w' => e = .returned (.bool (handsOk (hdI l0) l0.length)) ∧ Below W.heap.size W w') := ⟨fun W hb => impl_ValidHands.calls A0 c0 l0 _ W (Kd.C_below HR0.out hb) HC0.out rfl⟩
  have V2 : Aside0 (∀ W, Calls Tryd.prog 18 #[.int .i64 a1, .int .i64 0, .int .i64 20000] W fun e w' => e = .returned (.bool (decide (0 ≤ a1 ∧ a1 ≤ 20000))) ∧ Below W.heap.size W w') := ⟨fun W => (impl_within.calls a1 0 20000 _ W (within_eq a1 0 20000)).mono fun e w' ⟨he, hd⟩ => ⟨he, Drawn0.below hd⟩⟩
  unfold impl_CheapestHands.f at H
  generalize hv : handsOk (hdI l0) l0.length = bv at V1 H
  generalize hq : decide (0 ≤ a1 ∧ a1 ≤ 20000) = bq at V2 H
  have HV := Aside0.mk hv
  have HQ := Aside0.mk hq
  clear hv hq
  cases bv with
  | false =>
    have H2 := H.out
    rw [if_neg (by simp)] at H2
    simp only [Option.some.injEq, Prod.mk.injEq] at H2
    obtain ⟨rfl, rfl, rfl⟩ := H2
    go_enter Tryd.func7, Tryd.ntmps7
    go_wp2_with (first
      | ((with_reducible refine gate_dst (N := 2) rfl ?_); refine box_event ?hg (N := 2) ?hd (cs := #[.slice A0 l0.length c0]) (t := 24) ?hr ?_; (case hd => rfl); (case hg => rfl); (case hr => first | (go_simp; done) | (go_simp; rfl)); intro gs hgs w1 hbox hb; have BS := Aside0.mk hbox; have HB := Aside0.mk hb; have GS := Aside0.mk (Nat.le_of_eq hgs.symm); clear hbox hb hgs)
      | ((with_reducible refine gate_dst (N := 3) rfl ?_); refine box_event ?hg (N := 3) ?hd (cs := #[.int .i64 a1]) (t := 2) ?hr ?_; (case hd => rfl); (case hg => rfl); (case hr => first | (go_simp; done) | (go_simp; rfl)); intro gm hgm w2 hbox hb; have BS2 := Aside0.mk (blk_below BS.out hb); have BM2 := Aside0.mk hbox; have HB2 := Aside0.mk (below_step HB.out hb); have GM := Aside0.mk (show w.heap.size ≤ gm from by rw [hgm]; exact HB.out.size); clear hbox hb hgm BS HB; have cs2 := cell_of_one BS2.out)
      | (go_at_call 17; (with_reducible refine (V1.out _ ?hb1).mono ?_); (case hb1 => exact HB2.out); rintro e w3 ⟨rfl, hb⟩; have BS3 := Aside0.mk (blk_below BS2.out hb); have BM3 := Aside0.mk (blk_below BM2.out hb); have HB3 := Aside0.mk (below_step HB2.out hb); clear hb BS2 BM2 HB2 cs2; have cm3 := cell_of_one BM3.out))
    go_ret3
    exact ⟨_, rfl, Kd.R_nil _ _ _ _ _, HB3.out⟩
  | true =>
    cases bq with
    | false =>
      have H2 := H.out
      rw [if_pos (by rfl), if_neg (by simp)] at H2
      simp only [Option.some.injEq, Prod.mk.injEq] at H2
      obtain ⟨rfl, rfl, rfl⟩ := H2
      go_enter Tryd.func7, Tryd.ntmps7
      go_wp2_with (first
      | ((with_reducible refine gate_dst (N := 2) rfl ?_); refine box_event ?hg (N := 2) ?hd (cs := #[.slice A0 l0.length c0]) (t := 24) ?hr ?_; (case hd => rfl); (case hg => rfl); (case hr => first | (go_simp; done) | (go_simp; rfl)); intro gs hgs w1 hbox hb; have BS := Aside0.mk hbox; have HB := Aside0.mk hb; have GS := Aside0.mk (Nat.le_of_eq hgs.symm); clear hbox hb hgs)
      | ((with_reducible refine gate_dst (N := 3) rfl ?_); refine box_event ?hg (N := 3) ?hd (cs := #[.int .i64 a1]) (t := 2) ?hr ?_; (case hd => rfl); (case hg => rfl); (case hr => first | (go_simp; done) | (go_simp; rfl)); intro gm hgm w2 hbox hb; have BS2 := Aside0.mk (blk_below BS.out hb); have BM2 := Aside0.mk hbox; have HB2 := Aside0.mk (below_step HB.out hb); have GM := Aside0.mk (show w.heap.size ≤ gm from by rw [hgm]; exact HB.out.size); clear hbox hb hgm BS HB; have cs2 := cell_of_one BS2.out)
      | (go_at_call 17; (with_reducible refine (V1.out _ ?hb1).mono ?_); (case hb1 => exact HB2.out); rintro e w3 ⟨rfl, hb⟩; have BS3 := Aside0.mk (blk_below BS2.out hb); have BM3 := Aside0.mk (blk_below BM2.out hb); have HB3 := Aside0.mk (below_step HB2.out hb); clear hb BS2 BM2 HB2 cs2; have cm3 := cell_of_one BM3.out)
      | (go_at_call 18; (with_reducible refine (V2.out _).mono ?_); rintro e w4 ⟨rfl, hb⟩; have BS4 := Aside0.mk (blk_below BS3.out hb); have BM4 := Aside0.mk (blk_below BM3.out hb); have HB4 := Aside0.mk (below_step HB3.out hb); clear hb BS3 BM3 HB3 cm3))
      go_ret3
      exact ⟨_, rfl, Kd.R_nil _ _ _ _ _, HB4.out⟩
    | true =>
      have H2 := H.out
      rw [if_pos (by rfl), if_pos (by rfl)] at H2
      have HA := Aside0.mk H2
      clear H H2
      have hmf : ∀ (fn : Fn) (first cap : Array Value) (w : World), (Instr.makeFunc fn first cap).run Tryd.prog w = .ok (.func fn first cap) w := fun _ _ _ _ => rfl
      have hsf := fun (a : Addr) (c : Array Value) (w : World) => run_store Tryd.prog w a (.func (.func 19) #[] c) .plain rfl
      go_enter Tryd.func7, Tryd.ntmps7
      go_upto_region 9 with (first
      | ((with_reducible refine gate_dst (N := 2) rfl ?_); refine box_event ?hg (N := 2) ?hd (cs := #[.slice A0 l0.length c0]) (t := 24) ?hr ?_; (case hd => rfl); (case hg => rfl); (case hr => first | (go_simp; done) | (go_simp; rfl)); intro gs hgs w1 hbox hb; have BS := Aside0.mk hbox; have HB := Aside0.mk hb; have GS := Aside0.mk (Nat.le_of_eq hgs.symm); clear hbox hb hgs)
      | ((with_reducible refine gate_dst (N := 3) rfl ?_); refine box_event ?hg (N := 3) ?hd (cs := #[.int .i64 a1]) (t := 2) ?hr ?_; (case hd => rfl); (case hg => rfl); (case hr => first | (go_simp; done) | (go_simp; rfl)); intro gm hgm w2 hbox hb; have BS2 := Aside0.mk (blk_below BS.out hb); have BM2 := Aside0.mk hbox; have HB2 := Aside0.mk (below_step HB.out hb); have GM := Aside0.mk (show w.heap.size ≤ gm from by rw [hgm]; exact HB.out.size); clear hbox hb hgm BS HB; have cs2 := cell_of_one BS2.out)
      | (go_at_call 17; (with_reducible refine (V1.out _ ?hb1).mono ?_); (case hb1 => exact HB2.out); rintro e w3 ⟨rfl, hb⟩; have BS3 := Aside0.mk (blk_below BS2.out hb); have BM3 := Aside0.mk (blk_below BM2.out hb); have HB3 := Aside0.mk (below_step HB2.out hb); clear hb BS2 BM2 HB2 cs2; have cm3 := cell_of_one BM3.out)
      | (go_at_call 18; (with_reducible refine (V2.out _).mono ?_); rintro e w4 ⟨rfl, hb⟩; have BS4 := Aside0.mk (blk_below BS3.out hb); have BM4 := Aside0.mk (blk_below BM3.out hb); have HB4 := Aside0.mk (below_step HB3.out hb); clear hb BS3 BM3 HB3 cm3)
      | ((with_reducible refine gate_dst (N := 16) rfl ?_); refine Kd.R_lit (Kd.int .i64) _ 2 ?hg (N := 16) ?hd (xs := ([] : List Int)) (inner := []) (ok := fun _ => True) (okp := fun _ => True) ?hr ?hp (fun _ hk => hk) trivial (Below.refl _ _) (Nat.le_refl _) (by simp) ?_; (case hd => rfl); (case hg => rfl); (case hr => first | (go_simp; done) | (go_simp; rfl)); (case hp => exact (Reps.none _ _)); intro v5 w5 ho hb hg_ hnew_; clear hg_ hnew_; obtain ⟨A5, c5, e5⟩ := Kd.R_slice ho; subst e5; have HO5 := Aside0.mk ho; have BS5 := Aside0.mk (blk_below BS4.out hb); have BM5 := Aside0.mk (blk_below BM4.out hb); have HB5 := Aside0.mk (below_step HB4.out hb); have LW5 := Aside0.mk HB4.out.size; clear ho hb BS4 BM4 HB4))
      have hsz1 : ∀ (W : World) (o : Obj), (W.alloc o).heap.size = W.heap.size + 1 := fun W o => by simp
      have X9 : Aside0 (Xt l0 a1 A0 c0 gm (w5.heap.size + 1) w5.heap.size gs (w5.heap.size + 1 + 1) w (((w5.alloc (.cells #[.slice A5 0 c5] 27)).alloc (.cells #[.int .i64 (-1)] 2)).alloc (.cells #[(.func (.func 19) #[] #[.pointer (some ⟨gm, 0, none⟩), .pointer (some ⟨w5.heap.size + 1, 0, none⟩), .pointer (some ⟨w5.heap.size, 0, none⟩), .pointer (some ⟨gs, 0, none⟩), .pointer (some ⟨w5.heap.size + 1 + 1, 0, none⟩)])] 47)) (.slice A5 0 c5) ([], -1)) := ⟨by
        have b1 := blk_alloc (blk_alloc (blk_new w5 (.cells #[.slice A5 0 c5] 27)) (.cells #[.int .i64 (-1)] 2)) (.cells #[(.func (.func 19) #[] #[.pointer (some ⟨gm, 0, none⟩), .pointer (some ⟨w5.heap.size + 1, 0, none⟩), .pointer (some ⟨w5.heap.size, 0, none⟩), .pointer (some ⟨gs, 0, none⟩), .pointer (some ⟨w5.heap.size + 1 + 1, 0, none⟩)])] 47)
        have b2 := blk_alloc (blk_new (w5.alloc (.cells #[.slice A5 0 c5] 27)) (.cells #[.int .i64 (-1)] 2)) (.cells #[(.func (.func 19) #[] #[.pointer (some ⟨gm, 0, none⟩), .pointer (some ⟨w5.heap.size + 1, 0, none⟩), .pointer (some ⟨w5.heap.size, 0, none⟩), .pointer (some ⟨gs, 0, none⟩), .pointer (some ⟨w5.heap.size + 1 + 1, 0, none⟩)])] 47)
        have b3 := blk_new ((w5.alloc (.cells #[.slice A5 0 c5] 27)).alloc (.cells #[.int .i64 (-1)] 2)) (.cells #[(.func (.func 19) #[] #[.pointer (some ⟨gm, 0, none⟩), .pointer (some ⟨w5.heap.size + 1, 0, none⟩), .pointer (some ⟨w5.heap.size, 0, none⟩), .pointer (some ⟨gs, 0, none⟩), .pointer (some ⟨w5.heap.size + 1 + 1, 0, none⟩)])] 47)
        rw [hsz1] at b2
        rw [hsz1, hsz1] at b3
        have hz := HB5.out.size
        have hgm := blk_lt BM5.out
        have hro : Kd.R (Kd.int .i64) 2 w5 w4.heap.size (fun k => k < w5.heap.size) (.slice A5 0 c5) [] := Kd.R_mono (Kd.R_bound HO5.out) (fun k hk => hk.2.2.1)
        exact ⟨blk_alloc (blk_alloc (blk_alloc BM5.out _) _) _, b2, b1, blk_alloc (blk_alloc (blk_alloc BS5.out _) _) _, b3, by omega, by omega, by omega, Kd.R_mono (Kd.R_alloc (Kd.R_alloc (Kd.R_alloc (Kd.R_lower hro LW5.out) _) _) _) (fun k hk => by omega), below_alloc (below_alloc (below_alloc HB5.out _) _) _, HR0.out, HC0.out⟩⟩
      obtain ⟨k, hk⟩ := hand_MP HV.out
      have hlen : l0.length ≤ 10 := by
        have h := HV.out
        unfold handsOk at h
        rw [Bool.and_eq_true, decide_eq_true_eq] at h
        exact h.2
      have I9 := Aside0.mk (sets_calls k l0 (fun i => sumW (rd_T33 l0 (i : Int)).f1) (fun i => payS (rd_T33 l0 (i : Int)).f2 (rd_T33 l0 (i : Int)).f1 1440 0) a1 A0 c0 gm (w5.heap.size + 1) w5.heap.size gs (w5.heap.size + 1 + 1) w hlen (fun i hi => (hk i hi).1) (fun i hi => (hk i hi).2) l0.length none 0 [] 0 0 _ _ _ 0 (Nat.zero_add _) (by simp) (Int.le_refl _) (by simp) (Int.le_refl _) (by simp) X9.out (fun W' _ => Kd.C_nil _ W') (Nat.le_refl _))
      clear hk hlen X9
      generalize setsI (fun i => sumW (rd_T33 l0 (i : Int)).f1) (fun i => payS (rd_T33 l0 (i : Int)).f2 (rd_T33 l0 (i : Int)).f1 1440 0) a1 l0.length l0.length [] 0 0 (bestS a1 [] 0 0 ([], -1)) = S at I9 HA
      have J9 : Aside0 (Calls Tryd.prog 19 #[.slice none 0 0, .int .i64 0, .int .i64 0, .int .i64 0, .pointer (some ⟨gm, 0, none⟩), .pointer (some ⟨w5.heap.size + 1, 0, none⟩), .pointer (some ⟨w5.heap.size, 0, none⟩), .pointer (some ⟨gs, 0, none⟩), .pointer (some ⟨w5.heap.size + 1 + 1, 0, none⟩)] (((w5.alloc (.cells #[.slice A5 0 c5] 27)).alloc (.cells #[.int .i64 (-1)] 2)).alloc (.cells #[(.func (.func 19) #[] #[.pointer (some ⟨gm, 0, none⟩), .pointer (some ⟨w5.heap.size + 1, 0, none⟩), .pointer (some ⟨w5.heap.size, 0, none⟩), .pointer (some ⟨gs, 0, none⟩), .pointer (some ⟨w5.heap.size + 1 + 1, 0, none⟩)])] 47))
          fun e w' => e = .returned (.tuple #[]) ∧ (∃ v', Xt l0 a1 A0 c0 gm (w5.heap.size + 1) w5.heap.size gs (w5.heap.size + 1 + 1) w w' v' S) ∧ Kept (((w5.alloc (.cells #[.slice A5 0 c5] 27)).alloc (.cells #[.int .i64 (-1)] 2)).alloc (.cells #[(.func (.func 19) #[] #[.pointer (some ⟨gm, 0, none⟩), .pointer (some ⟨w5.heap.size + 1, 0, none⟩), .pointer (some ⟨w5.heap.size, 0, none⟩), .pointer (some ⟨gs, 0, none⟩), .pointer (some ⟨w5.heap.size + 1 + 1, 0, none⟩)])] 47)) w' (fun k => k = w5.heap.size + 1 ∨ k = w5.heap.size)) := ⟨I9.out⟩
      clear I9 hsz1
      have eg : ∀ args w, (callFunc 19 args).run Tryd.prog w = .ok (.enter 19 args) w := enters_of Tryd.func19 (by kernel_rfl) rfl
      have H2 := HA.out
      unfold cheapAns at H2
      by_cases h0 : S.2 < 0
      · rw [if_pos h0] at H2
        simp only [Option.some.injEq, Prod.mk.injEq] at H2
        obtain ⟨rfl, rfl, rfl⟩ := H2
        go_wp2_with (first | (first | go_at_call 19 | go_at_fn 19); (with_reducible refine J9.out.mono ?_); rintro e w10 ⟨rfl, ⟨v10, X10⟩, K10⟩; have XX := Aside0.mk X10; have cl10 := cell_of_one X10.hl; clear X10 K10)
        go_ret3
        exact ⟨_, rfl, Kd.R_nil _ _ _ _ _, XX.out.low⟩
      · rw [if_neg h0] at H2
        simp only [Option.some.injEq, Prod.mk.injEq] at H2
        obtain ⟨rfl, rfl, rfl⟩ := H2
        go_wp2_with (first | (first | go_at_call 19 | go_at_fn 19); (with_reducible refine J9.out.mono ?_); rintro e w10 ⟨rfl, ⟨v10, X10⟩, K10⟩; obtain ⟨A10, c10, e10⟩ := Kd.R_slice X10.row; subst e10; have XX := Aside0.mk X10; have cl10 := cell_of_one X10.hl; have cb10 := cell_of_one X10.hb; clear X10 K10)
        repeat (go_quiet (fail); try go_wp2)
        go_ret3
        exact ⟨_, rfl, Kd.R_mono (by (with_reducible repeat (first | apply Kd.R_alloc | apply Kd.R_drewN | apply Kd.R_drew)); exact XX.out.row) (fun _ _ => trivial), pw_below_drewN XX.out.low _⟩
end


/-! ### spec_A2Some: function 8 -/
def spec_A2Some.l0 : Nat → Int → List Int → Int → List Int → Int → Int → Option (List Int)
  | 0, _, _, _, _, _, _ => none
  | k + 1, x1, x6, x7, x180000, x180001, x180002 => if x7 < x1 then ((spec_l00Src_one.f x180000 x180001 x180002 2).bind fun bt183 => (if bt183.1 = true then (if x6.length < 17592186044416 then (spec_A2Some.l0 k x1 (x6 ++ [x7]) (wrap64 (x7 + 1)) x180000 bt183.2.1 bt183.2.2) else (none)) else (spec_A2Some.l0 k x1 x6 (wrap64 (x7 + 1)) x180000 bt183.2.1 bt183.2.2))) else (some x6)
def spec_A2Some.f (k : Nat) (l0 : List Int) (a1 : Int) : Option (List Int) := (spec_l00From.f l0).bind fun bt176 => (spec_A2Some.l0 k a1 (([] : List Int)) 0 bt176.1 bt176.2.1 bt176.2.2)
theorem spec_A2Some.mono_l : ∀ k, (∀ y0 y1 y2 y3 y4 y5, LeO (spec_A2Some.l0 k y0 y1 y2 y3 y4 y5) (spec_A2Some.l0 (k + 1) y0 y1 y2 y3 y4 y5))
  | 0 => fun _ _ _ _ _ _ r h => by simp [spec_A2Some.l0] at h
  | k + 1 => by
    have ih0 := spec_A2Some.mono_l k
    · intro y0 y1 y2 y3 y4 y5
      unfold spec_A2Some.l0
      repeat' first
      | (with_reducible exact ih0 _ _ _ _ _ _)
      | (with_reducible exact LeO.refl _)
      | (with_reducible exact LeO.none _)
      | (with_reducible refine LeO.ite ?_ ?_)
      | (with_reducible refine LeO.bind ?_ (fun _ => ?_))
      | exact ih0 _ _ _ _ _ _
      | exact LeO.none _
      | refine LeO.ite ?_ ?_
      | refine LeO.bind ?_ (fun _ => ?_)
theorem spec_A2Some.mono : ∀ a0 a1 k, LeO (spec_A2Some.f k a0 a1) (spec_A2Some.f (k + 1) a0 a1) := by
  intro a0 a1 k
  have ih0 := spec_A2Some.mono_l k
  unfold spec_A2Some.f
  repeat' first
      | (with_reducible exact ih0 _ _ _ _ _ _)
      | (with_reducible exact LeO.refl _)
      | (with_reducible exact LeO.none _)
      | (with_reducible refine LeO.ite ?_ ?_)
      | (with_reducible refine LeO.bind ?_ (fun _ => ?_))
      | exact ih0 _ _ _ _ _ _
      | exact LeO.none _
      | refine LeO.ite ?_ ?_
      | refine LeO.bind ?_ (fun _ => ?_)
set_option maxHeartbeats 8000000 in
set_option maxRecDepth 100000 in
theorem spec_A2Some.calls (k : Nat) (A0 : Option Addr) (c0 : Nat) (l0 : List Int) (a1 : Int) (r : List Int) (w : World) (hr0 : Kd.C (Kd.int .u8) w A0 l0.length l0) (hc0 : l0.length ≤ c0) (h : spec_A2Some.f k l0 a1 = some r) :
    Calls Tryd.prog 8 #[.slice A0 l0.length c0, .int .i64 a1] w fun e w' => ∃ v0_ : Value, e = .returned (v0_) ∧ Kd.R (Kd.int .i64) 2 w' w.heap.size (fun _ => True) v0_ r ∧ Below w.heap.size w w' := by
  have HR0 := Aside0.mk hr0
  have HC0 := Aside0.mk hc0
  clear hr0 hc0
  have HB := Aside0.mk (Below.refl w.heap.size w)
  have H : ((spec_l00From.f l0).bind fun bt176 => (spec_A2Some.l0 k a1 (([] : List Int)) 0 bt176.1 bt176.2.1 bt176.2.2)) = some r := h
  clear h
  replace H := Option.bind_eq_some_iff.mp H
  obtain ⟨⟨t176, t177, t178⟩, A30, H⟩ := H
  replace H : (spec_A2Some.l0 k a1 (([] : List Int)) 0 t176 t177 t178) = some r := H
  have A3 := Aside0.mk A30
  clear A30
  obtain ⟨y180, hy180⟩ : ∃ y_ : List Int, y_ = (([] : List Int)) := ⟨_, rfl⟩
  replace H : (spec_A2Some.l0 k a1 y180 0 t176 t177 t178) = some r := by first | (rw [hy180]; with_reducible exact H) | (have H2_ := (Option.bind_some _ _).symm.trans H; rw [hy180]; with_reducible exact H2_) | (have H2_ := (Option.bind_some _ _).symm.trans H; with_reducible exact H2_) | with_reducible exact H | (rw [hy180]; exact H) | exact H
  have Ny180 := Aside0.mk hy180
  clear hy180
  have H' := Aside0.mk H
  clear H
  go_enter Tryd.func8, Tryd.ntmps8
  go_wp2_with (first | ((with_reducible refine gate_callee (f := 16) rfl ?_); refine goesL_ (some 9) rfl rfl Tryd.func16 (by kernel_rfl) rfl #[.slice A0 l0.length c0] rfl (by (try simp only [List.map_toArray, List.map_cons, List.map_nil]); first | done | rfl | (simp only [List.length_drop, List.length_take]; rfl) | (simp only [ByteArray.size_append, Int.natCast_add]; rfl)) ?_; (with_reducible refine (spec_l00From.calls _ _ l0 t176 t177 t178 w _ ?side1 ?side2 ?side3 A3.out).mono ?_); (case side1 => repeat (first | (with_reducible first | exact HB.out | apply below_alloc | apply pw_below_drewN | apply below_drew1) | exact HB.out)); (case side2 => exact HR0.out); (case side3 => exact HC0.out); rintro e w4 ⟨g179, rfl, hi, hb, hb2⟩; refine ⟨_, rfl, ?_⟩; have n0_ := Aside0.mk (hb); have n1_ := Aside0.mk (hi); clear HB; have HB := n0_; have HI179 := n1_; clear n0_ n1_; (try clear hb); (try clear hb2); (try clear hk); (try clear hi)) | ((with_reducible refine gate_dst (N := 10) rfl ?_); refine Kd.R_lit (Kd.int .i64) _ 2 ?hg (N := 10) ?hd (xs := ([] : List Int)) (inner := []) (ok := fun _ => True) (okp := fun _ => True) ?hr ?hp (fun _ hk => hk) trivial (Below.refl _ _) (Nat.le_refl _) (by simp) ?_; (case hd => rfl); (case hg => rfl); (case hr => first | (go_simp; done) | (go_simp; rfl)); (case hp => exact (Reps.none _ _)); intro v181 w5 ho6 hb hg_ hnew_; clear hg_ hnew_; (first | rw [← Ny180.out] at ho6 | (simp only [Int.reduceToNat] at ho6; rw [← Ny180.out] at ho6)); have n0_ := Aside0.mk (Kd.R_lower ho6 (below_size (by repeat (first | (with_reducible first | exact HB.out | apply below_alloc | apply pw_below_drewN | apply below_drew1 | refine below_set ?_ (IsS59.ge HI179.out)) | exact HB.out)))); have n1_ := Aside0.mk (IsS59.below (by repeat (first | (with_reducible first | exact HI179.out | apply IsS59.alloc | apply IsS59.drewN | apply IsS59.drew | apply IsS59.set_1 | apply IsS59.set_2) | exact HI179.out)) hb); have n2_ := Aside0.mk (below_step (by repeat (first | (with_reducible first | exact HB.out | apply below_alloc | apply pw_below_drewN | apply below_drew1 | refine below_set ?_ (IsS59.ge HI179.out)) | exact HB.out)) hb); clear HI179; clear HB; have HO182 := n0_; have HI179 := n1_; have HB := n2_; clear n0_ n1_ n2_; clear hb ho6))
  go_loopg [6, 7] k (fun kq v6 v7 w' => ∃ (x6_1 : List Int) (x7_1 : Int) (x180001_1 : Int) (x180002_1 : Int), v7 = .int .i64 x7_1 ∧ Aside0 (spec_A2Some.l0 kq a1 x6_1 x7_1 t176 x180001_1 x180002_1 = some r) ∧ Aside0 (kq ≤ k) ∧ Aside0 (Kd.R (Kd.int .i64) 2 w' w.heap.size (fun _ => True) v6 x6_1) ∧ Aside0 (IsS59 w w' g179 t176 x180001_1 x180002_1) ∧ Aside0 (Below w.heap.size w w'))
  case atStart => exact ⟨(y180), (0), (t177), (t178), (by first | rfl | (simp; done) | (simp [*]; done)), H', ⟨Nat.le_refl _⟩, ⟨by (with_reducible repeat (first | apply Kd.R_alloc | apply Kd.R_drewN | apply Kd.R_drew)); exact HO182.out⟩, ⟨by repeat (first | (with_reducible first | exact HI179.out | apply IsS59.alloc | apply IsS59.drewN | apply IsS59.drew | apply IsS59.set_1 | apply IsS59.set_2) | exact HI179.out)⟩, ⟨by repeat (first | (with_reducible first | exact HB.out | apply below_alloc | apply pw_below_drewN | apply below_drew1 | refine below_set ?_ (IsS59.ge HI179.out)) | exact HB.out)⟩⟩
  case round =>
    clear H'
    try clear c1
    try clear p2
    obtain ⟨x6_1, x7_1, x180001_1, x180002_1, rfl, HA, HK1, HO_6, HI179, HB⟩ := hrel
    cases gk with
    | zero => exact absurd HA.out (by simp [spec_A2Some.l0])
    | succ k1 =>
      have H := HA.out
      clear HA
      simp only [spec_A2Some.l0] at H
      by_cases c7 : x7_1 < a1
      · rw [if_pos c7] at H
        have c7b0 : decide (x7_1 < a1) = true := decide_eq_true c7
        clear c7
        replace H := Option.bind_eq_some_iff.mp H
        obtain ⟨⟨t183, t184, t185⟩, A80, H⟩ := H
        replace H : (if t183 = true then (if x6_1.length < 17592186044416 then (spec_A2Some.l0 k1 a1 (x6_1 ++ [x7_1]) (wrap64 (x7_1 + 1)) t176 t184 t185) else (none)) else (spec_A2Some.l0 k1 a1 x6_1 (wrap64 (x7_1 + 1)) t176 t184 t185)) = some r := H
        have A8 := Aside0.mk A80
        clear A80
        by_cases c9 : t183 = true
        · subst c9
          have H1 : (if x6_1.length < 17592186044416 then (spec_A2Some.l0 k1 a1 (x6_1 ++ [x7_1]) (wrap64 (x7_1 + 1)) t176 t184 t185) else (none)) = some r := by rw [if_pos rfl] at H; exact H
          clear H
          have H := H1
          clear H1
          by_cases c10 : x6_1.length < 17592186044416
          · rw [if_pos c10] at H
            have LMc10 := Aside0.mk c10
            clear c10
            obtain ⟨y186, hy186⟩ : ∃ y_ : List Int, y_ = (x6_1 ++ [x7_1]) := ⟨_, rfl⟩
            replace H : (spec_A2Some.l0 k1 a1 y186 (wrap64 (x7_1 + 1)) t176 t184 t185) = some r := by first | (rw [hy186]; with_reducible exact H) | (have H2_ := (Option.bind_some _ _).symm.trans H; rw [hy186]; with_reducible exact H2_) | (have H2_ := (Option.bind_some _ _).symm.trans H; with_reducible exact H2_) | with_reducible exact H | (rw [hy186]; exact H) | exact H
            have Ny186 := Aside0.mk hy186
            clear hy186
            have H' := Aside0.mk H
            clear H
            go_wp2_with (first | ((with_reducible refine gate_callee (f := 22) rfl ?_); refine goesL_ (some 17) rfl rfl Tryd.func22 (by kernel_rfl) rfl #[.pointer (some ⟨g179, 0, none⟩), .int .i64 2] rfl (by (try simp only [List.map_toArray, List.map_cons, List.map_nil]); first | done | rfl | (simp only [List.length_drop, List.length_take]; rfl) | (simp only [ByteArray.size_append, Int.natCast_add]; rfl)) ?_; (with_reducible refine (spec_l00Src_one.calls g179 t176 x180001_1 x180002_1 2 true t184 t185 w _ ?side1 ?side2 A8.out).mono ?_); (case side1 => repeat (first | (with_reducible first | exact HI179.out | apply IsS59.alloc | apply IsS59.drewN | apply IsS59.drew | apply IsS59.set_1 | apply IsS59.set_2) | exact HI179.out)); (case side2 => repeat (first | (with_reducible first | exact HB.out | apply below_alloc | apply pw_below_drewN | apply below_drew1 | refine below_set ?_ (IsS59.ge HI179.out)) | exact HB.out)); rintro e w11 ⟨rfl, hi, hb, hk⟩; refine ⟨_, rfl, ?_⟩; have n0_ := Aside0.mk (Kd.R_mono (Kd.R_keep (IsS59.apart (show IsS59 w _ g179 t176 x180001_1 x180002_1 from by repeat (first | (with_reducible first | exact HI179.out | apply IsS59.alloc | apply IsS59.drewN | apply IsS59.drew | apply IsS59.set_1 | apply IsS59.set_2) | exact HI179.out)) (by (with_reducible repeat (first | apply Kd.R_alloc | apply Kd.R_drewN | apply Kd.R_drew)); exact HO_6.out) (by decide)) hk (fun _ h => h.2)) (fun _ h => h.1)); have n1_ := Aside0.mk (hb); have n2_ := Aside0.mk (hi); clear HO_6; clear HB; clear HI179; have HO_6 := n0_; have HB := n1_; have HI179 := n2_; clear n0_ n1_ n2_; (try clear hb); (try clear hb2); (try clear hk); (try clear hi)) | ((with_reducible refine gate_builtin (b := .append) (xs := #[.tmp 18, .tmp 20]) rfl ?_); at_builtin; refine Kd.R_append (Kd.int .i64) (w0 := w) w.heap.size rfl (.tmp 18) (.tmp 20) 27 2 (.int .i64 0) 8 rfl Tryd.underlying27 info2 rfl (by decide) (by omega) u6 x6_1 x7_1 [.int .i64 x7_1] (fun _ => True) (fun _ => False) rfl rfl ?aP (fun _ hk => hk.elim) ?aF ?aO ?aB ?aS ?aL ?_; (case aP => exact rfl); (case aB => exact (by repeat (first | (with_reducible first | exact HB.out | apply below_alloc | apply pw_below_drewN | apply below_drew1 | refine below_set ?_ (IsS59.ge HI179.out)) | exact HB.out))); (case aF => exact (fun _ _ => trivial)); (case aO => exact (by (with_reducible repeat (first | apply Kd.R_alloc | apply Kd.R_drewN | apply Kd.R_drew)); exact HO_6.out)); (case aS => exact (below_size (by repeat (first | (with_reducible first | exact HB.out | apply below_alloc | apply pw_below_drewN | apply below_drew1 | refine below_set ?_ (IsS59.ge HI179.out)) | exact HB.out)))); (case aL => have := LMc10.out; omega); intro v187 w12 ho hb hg hat; rw [← Ny186.out] at ho; have n0_ := Aside0.mk (IsS59.grown (by repeat (first | (with_reducible first | exact HI179.out | apply IsS59.alloc | apply IsS59.drewN | apply IsS59.drew | apply IsS59.set_1 | apply IsS59.set_2) | exact HI179.out)) hg (IsS59.own_ne HI179.out HO_6.out (by decide))); have n1_ := Aside0.mk (hb); have n2_ := Aside0.mk (ho); clear HI179; clear HB; clear HO_6; have HI179 := n0_; have HB := n1_; have HO188 := n2_; clear n0_ n1_ n2_; clear ho hb hg hat))
            go_roundg k1
            case measure => have := HK1.out; omega
            case rel => exact ⟨(y186), (wrap64 (x7_1 + 1)), (t184), (t185), (by first | rfl | (simp; done) | (simp [*]; done)), H', ⟨by have := HK1.out; omega⟩, ⟨by (with_reducible repeat (first | apply Kd.R_alloc | apply Kd.R_drewN | apply Kd.R_drew)); exact HO188.out⟩, ⟨by repeat (first | (with_reducible first | exact HI179.out | apply IsS59.alloc | apply IsS59.drewN | apply IsS59.drew | apply IsS59.set_1 | apply IsS59.set_2) | exact HI179.out)⟩, ⟨by repeat (first | (with_reducible first | exact HB.out | apply below_alloc | apply pw_below_drewN | apply below_drew1 | refine below_set ?_ (IsS59.ge HI179.out)) | exact HB.out)⟩⟩
          · rw [if_neg c10] at H
            exact absurd H (by simp)
        · replace c9 := Bool.eq_false_iff.mpr c9
          subst c9
          have H1 : (spec_A2Some.l0 k1 a1 x6_1 (wrap64 (x7_1 + 1)) t176 t184 t185) = some r := by rw [if_neg (show ¬ (false = true) by decide)] at H; exact H
          clear H
          have H := H1
          clear H1
          have H' := Aside0.mk H
          clear H
          go_wp2_with (first | ((with_reducible refine gate_callee (f := 22) rfl ?_); refine goesL_ (some 17) rfl rfl Tryd.func22 (by kernel_rfl) rfl #[.pointer (some ⟨g179, 0, none⟩), .int .i64 2] rfl (by (try simp only [List.map_toArray, List.map_cons, List.map_nil]); first | done | rfl | (simp only [List.length_drop, List.length_take]; rfl) | (simp only [ByteArray.size_append, Int.natCast_add]; rfl)) ?_; (with_reducible refine (spec_l00Src_one.calls g179 t176 x180001_1 x180002_1 2 false t184 t185 w _ ?side1 ?side2 A8.out).mono ?_); (case side1 => repeat (first | (with_reducible first | exact HI179.out | apply IsS59.alloc | apply IsS59.drewN | apply IsS59.drew | apply IsS59.set_1 | apply IsS59.set_2) | exact HI179.out)); (case side2 => repeat (first | (with_reducible first | exact HB.out | apply below_alloc | apply pw_below_drewN | apply below_drew1 | refine below_set ?_ (IsS59.ge HI179.out)) | exact HB.out)); rintro e w13 ⟨rfl, hi, hb, hk⟩; refine ⟨_, rfl, ?_⟩; have n0_ := Aside0.mk (Kd.R_mono (Kd.R_keep (IsS59.apart (show IsS59 w _ g179 t176 x180001_1 x180002_1 from by repeat (first | (with_reducible first | exact HI179.out | apply IsS59.alloc | apply IsS59.drewN | apply IsS59.drew | apply IsS59.set_1 | apply IsS59.set_2) | exact HI179.out)) (by (with_reducible repeat (first | apply Kd.R_alloc | apply Kd.R_drewN | apply Kd.R_drew)); exact HO_6.out) (by decide)) hk (fun _ h => h.2)) (fun _ h => h.1)); have n1_ := Aside0.mk (hb); have n2_ := Aside0.mk (hi); clear HO_6; clear HB; clear HI179; have HO_6 := n0_; have HB := n1_; have HI179 := n2_; clear n0_ n1_ n2_; (try clear hb); (try clear hb2); (try clear hk); (try clear hi)))
          go_roundg k1
          case measure => have := HK1.out; omega
          case rel => exact ⟨(x6_1), (wrap64 (x7_1 + 1)), (t184), (t185), (by first | rfl | (simp; done) | (simp [*]; done)), H', ⟨by have := HK1.out; omega⟩, ⟨by (with_reducible repeat (first | apply Kd.R_alloc | apply Kd.R_drewN | apply Kd.R_drew)); exact HO_6.out⟩, ⟨by repeat (first | (with_reducible first | exact HI179.out | apply IsS59.alloc | apply IsS59.drewN | apply IsS59.drew | apply IsS59.set_1 | apply IsS59.set_2) | exact HI179.out)⟩, ⟨by repeat (first | (with_reducible first | exact HB.out | apply below_alloc | apply pw_below_drewN | apply below_drew1 | refine below_set ?_ (IsS59.ge HI179.out)) | exact HB.out)⟩⟩
      · rw [if_neg c7] at H
        have c7b0 : decide (x7_1 < a1) = false := decide_eq_false c7
        clear c7
        obtain rfl := Option.some.inj H
        go_wp2
        go_ret
        exact ⟨_, by first | rfl | (simp [errW_none, errW_some] <;> rfl) | (simp [*, errW_none, errW_some] <;> rfl), by (with_reducible repeat (first | apply Kd.R_alloc | apply Kd.R_drewN | apply Kd.R_drew)); exact HO_6.out, by repeat (first | (with_reducible first | exact HB.out | apply below_alloc | apply pw_below_drewN | apply below_drew1 | refine below_set ?_ (IsS59.ge HI179.out)) | exact HB.out)⟩

/-! ### laws_a2Sum: function 9 -/
def laws_a2Sum.l0 : Nat → List Int → Int → Int → Option (Int)
  | 0, _, _, _ => none
  | k + 1, x0, x3, x4 => if x4 < (x0.length : Int) then (if 0 ≤ x4 then (laws_a2Sum.l0 k x0 (wrap64 (x3 + (rd x0 x4))) (wrap64 (x4 + 1))) else (none)) else (some x3)
def laws_a2Sum.f (k : Nat) (l0 : List Int) : Option (Int) := laws_a2Sum.l0 k l0 0 0
theorem laws_a2Sum.mono_l : ∀ k, (∀ y0 y1 y2, LeO (laws_a2Sum.l0 k y0 y1 y2) (laws_a2Sum.l0 (k + 1) y0 y1 y2))
  | 0 => fun _ _ _ r h => by simp [laws_a2Sum.l0] at h
  | k + 1 => by
    have ih0 := laws_a2Sum.mono_l k
    · intro y0 y1 y2
      unfold laws_a2Sum.l0
      repeat' first
      | (with_reducible exact ih0 _ _ _)
      | (with_reducible exact LeO.refl _)
      | (with_reducible exact LeO.none _)
      | (with_reducible refine LeO.ite ?_ ?_)
      | (with_reducible refine LeO.bind ?_ (fun _ => ?_))
      | exact ih0 _ _ _
      | exact LeO.none _
      | refine LeO.ite ?_ ?_
      | refine LeO.bind ?_ (fun _ => ?_)
theorem laws_a2Sum.mono : ∀ a0 k, LeO (laws_a2Sum.f k a0) (laws_a2Sum.f (k + 1) a0) := by
  intro a0 k
  have ih0 := laws_a2Sum.mono_l k
  unfold laws_a2Sum.f
  repeat' first
      | (with_reducible exact ih0 _ _ _)
      | (with_reducible exact LeO.refl _)
      | (with_reducible exact LeO.none _)
      | (with_reducible refine LeO.ite ?_ ?_)
      | (with_reducible refine LeO.bind ?_ (fun _ => ?_))
      | exact ih0 _ _ _
      | exact LeO.none _
      | refine LeO.ite ?_ ?_
      | refine LeO.bind ?_ (fun _ => ?_)
set_option maxHeartbeats 8000000 in
set_option maxRecDepth 100000 in
theorem laws_a2Sum.calls (k : Nat) (A0 : Option Addr) (c0 : Nat) (l0 : List Int) (r : Int) (w : World) (hr0 : Kd.C (Kd.int .i64) w A0 l0.length l0) (hc0 : l0.length ≤ c0) (h : laws_a2Sum.f k l0 = some r) :
    Calls Tryd.prog 9 #[.slice A0 l0.length c0] w fun e w' => e = .returned (.int .i64 r) ∧ Drawn0 w w' := by
  have HR0 := Aside0.mk hr0
  have HC0 := Aside0.mk hc0
  clear hr0 hc0
  have H : (laws_a2Sum.l0 k l0 0 0) = some r := h
  clear h
  have H' := Aside0.mk H
  clear H
  go_enter Tryd.func9, Tryd.ntmps9
  go_wp2
  go_loopg [3, 4] k (fun kq v3 v4 w' => ∃ (x3_1 : Int) (x4_1 : Int), v3 = .int .i64 x3_1 ∧ v4 = .int .i64 x4_1 ∧ Aside0 (laws_a2Sum.l0 kq l0 x3_1 x4_1 = some r) ∧ Aside0 (kq ≤ k) ∧ Drawn0 w w')
  case atStart => exact ⟨(0), (0), (by first | rfl | (simp; done) | (simp [*]; done)), (by first | rfl | (simp; done) | (simp [*]; done)), H', ⟨Nat.le_refl _⟩, by repeat (first | exact Drawn0.refl _ | apply Drawn0.step)⟩
  case round =>
    clear H'
    obtain ⟨x3_1, x4_1, rfl, rfl, HA, HK1, ⟨m1, rfl⟩⟩ := hrel
    cases gk with
    | zero => exact absurd HA.out (by simp [laws_a2Sum.l0])
    | succ k1 =>
      have H := HA.out
      clear HA
      simp only [laws_a2Sum.l0] at H
      by_cases c2 : x4_1 < (l0.length : Int)
      · rw [if_pos c2] at H
        have c2b0 : decide (x4_1 < (l0.length : Int)) = true := decide_eq_true c2
        clear c2
        by_cases c3 : 0 ≤ x4_1
        · rw [if_pos c3] at H
          have c3b0 : decide (0 ≤ x4_1) = true := decide_eq_true c3
          clear c3
          have H' := Aside0.mk H
          clear H
          have p189 : 0 ≤ (x4_1 : Int) := of_decide_eq_true (by first | (with_reducible assumption) | assumption)
          have q189 : x4_1 < (l0.length : Int) := of_decide_eq_true (by first | (with_reducible assumption) | assumption)
          obtain ⟨ad189, e189, hx189_0⟩ := Kd.at_int HR0.out x4_1 p189 q189
          cases e189
          replace p189 := eq_true p189
          replace q189 := eq_true q189
          go_wp2
          go_roundg k1
          case measure => have := HK1.out; omega
          case rel => exact ⟨(wrap64 (x3_1 + (rd l0 x4_1))), (wrap64 (x4_1 + 1)), (by first | rfl | (simp; done) | (simp [*]; done)), (by first | rfl | (simp; done) | (simp [*]; done)), H', ⟨by have := HK1.out; omega⟩, by repeat (first | exact Drawn0.refl _ | apply Drawn0.step)⟩
        · rw [if_neg c3] at H
          exact absurd H (by simp)
      · rw [if_neg c2] at H
        have c2b0 : decide (x4_1 < (l0.length : Int)) = false := decide_eq_false c2
        clear c2
        obtain rfl := Option.some.inj H
        go_wp2
        go_ret
        exact ⟨by first | rfl | (simp; done) | (simp [*]; done), by repeat (first | exact Drawn0.refl _ | apply Drawn0.step)⟩

/-! ### laws_a2Rises: function 10 -/
def laws_a2Rises.l0 : Nat → List Int → Int → Int → Option (Bool)
  | 0, _, _, _ => none
  | k + 1, x0, x1, x5 => if x5 < (x0.length : Int) then (if 0 ≤ x5 then (if (rd x0 x5) < 0 then (some false) else (if (rd x0 x5) ≥ x1 then (some false) else (if x5 > 0 then (if 0 ≤ (wrap64 (x5 - 1)) then (if (wrap64 (x5 - 1)) < (x0.length : Int) then (if (rd x0 (wrap64 (x5 - 1))) ≥ (rd x0 x5) then (some false) else (laws_a2Rises.l0 k x0 x1 (wrap64 (x5 + 1)))) else (none)) else (none)) else (laws_a2Rises.l0 k x0 x1 (wrap64 (x5 + 1)))))) else (none)) else (some true)
def laws_a2Rises.f (k : Nat) (l0 : List Int) (a1 : Int) : Option (Bool) := laws_a2Rises.l0 k l0 a1 0
theorem laws_a2Rises.mono_l : ∀ k, (∀ y0 y1 y2, LeO (laws_a2Rises.l0 k y0 y1 y2) (laws_a2Rises.l0 (k + 1) y0 y1 y2))
  | 0 => fun _ _ _ r h => by simp [laws_a2Rises.l0] at h
  | k + 1 => by
    have ih0 := laws_a2Rises.mono_l k
    · intro y0 y1 y2
      unfold laws_a2Rises.l0
      repeat' first
      | (with_reducible exact ih0 _ _ _)
      | (with_reducible exact LeO.refl _)
      | (with_reducible exact LeO.none _)
      | (with_reducible refine LeO.ite ?_ ?_)
      | (with_reducible refine LeO.bind ?_ (fun _ => ?_))
      | exact ih0 _ _ _
      | exact LeO.none _
      | refine LeO.ite ?_ ?_
      | refine LeO.bind ?_ (fun _ => ?_)
theorem laws_a2Rises.mono : ∀ a0 a1 k, LeO (laws_a2Rises.f k a0 a1) (laws_a2Rises.f (k + 1) a0 a1) := by
  intro a0 a1 k
  have ih0 := laws_a2Rises.mono_l k
  unfold laws_a2Rises.f
  repeat' first
      | (with_reducible exact ih0 _ _ _)
      | (with_reducible exact LeO.refl _)
      | (with_reducible exact LeO.none _)
      | (with_reducible refine LeO.ite ?_ ?_)
      | (with_reducible refine LeO.bind ?_ (fun _ => ?_))
      | exact ih0 _ _ _
      | exact LeO.none _
      | refine LeO.ite ?_ ?_
      | refine LeO.bind ?_ (fun _ => ?_)
set_option maxHeartbeats 8000000 in
set_option maxRecDepth 100000 in
theorem laws_a2Rises.calls (k : Nat) (A0 : Option Addr) (c0 : Nat) (l0 : List Int) (a1 : Int) (r : Bool) (w : World) (hr0 : Kd.C (Kd.int .i64) w A0 l0.length l0) (hc0 : l0.length ≤ c0) (h : laws_a2Rises.f k l0 a1 = some r) :
    Calls Tryd.prog 10 #[.slice A0 l0.length c0, .int .i64 a1] w fun e w' => e = .returned (.bool r) ∧ Drawn0 w w' := by
  have HR0 := Aside0.mk hr0
  have HC0 := Aside0.mk hc0
  clear hr0 hc0
  have H : (laws_a2Rises.l0 k l0 a1 0) = some r := h
  clear h
  have H' := Aside0.mk H
  clear H
  go_enter Tryd.func10, Tryd.ntmps10
  go_wp2
  repeat (go_quiet (fail); try go_wp2)
  go_loopg [5] k (fun kq v5 w' => ∃ (x5_1 : Int), v5 = .int .i64 x5_1 ∧ Aside0 (laws_a2Rises.l0 kq l0 a1 x5_1 = some r) ∧ Aside0 (kq ≤ k) ∧ Drawn0 w w')
  case atStart => exact ⟨(0), (by first | rfl | (simp; done) | (simp [*]; done)), H', ⟨Nat.le_refl _⟩, by repeat (first | exact Drawn0.refl _ | apply Drawn0.step)⟩
  case round =>
    clear H'
    try clear c1
    try clear p2
    obtain ⟨x5_1, rfl, HA, HK1, ⟨m1, rfl⟩⟩ := hrel
    cases gk with
    | zero => exact absurd HA.out (by simp [laws_a2Rises.l0])
    | succ k1 =>
      have H := HA.out
      clear HA
      simp only [laws_a2Rises.l0] at H
      by_cases c3 : x5_1 < (l0.length : Int)
      · rw [if_pos c3] at H
        have c3b0 : decide (x5_1 < (l0.length : Int)) = true := decide_eq_true c3
        clear c3
        by_cases c4 : 0 ≤ x5_1
        · rw [if_pos c4] at H
          have c4b0 : decide (0 ≤ x5_1) = true := decide_eq_true c4
          clear c4
          by_cases c5 : (rd l0 x5_1) < 0
          · rw [if_pos c5] at H
            have c5b0 : decide ((rd l0 x5_1) < 0) = true := decide_eq_true c5
            clear c5
            obtain rfl := Option.some.inj H
            have p190 : 0 ≤ (x5_1 : Int) := of_decide_eq_true (by first | (with_reducible assumption) | assumption)
            have q190 : x5_1 < (l0.length : Int) := of_decide_eq_true (by first | (with_reducible assumption) | assumption)
            obtain ⟨ad190, e190, hx190_0⟩ := Kd.at_int HR0.out x5_1 p190 q190
            cases e190
            replace p190 := eq_true p190
            replace q190 := eq_true q190
            go_wp2
            repeat (go_quiet (fail); try go_wp2)
            go_ret
            exact ⟨by first | rfl | (simp; done) | (simp [*]; done), by repeat (first | exact Drawn0.refl _ | apply Drawn0.step)⟩
          · rw [if_neg c5] at H
            have c5b0 : decide ((rd l0 x5_1) < 0) = false := decide_eq_false c5
            clear c5
            by_cases c6 : (rd l0 x5_1) ≥ a1
            · rw [if_pos c6] at H
              have c6b0 : decide (a1 ≤ (rd l0 x5_1)) = true := decide_eq_true c6
              clear c6
              obtain rfl := Option.some.inj H
              have p190 : 0 ≤ (x5_1 : Int) := of_decide_eq_true (by first | (with_reducible assumption) | assumption)
              have q190 : x5_1 < (l0.length : Int) := of_decide_eq_true (by first | (with_reducible assumption) | assumption)
              obtain ⟨ad190, e190, hx190_0⟩ := Kd.at_int HR0.out x5_1 p190 q190
              cases e190
              replace p190 := eq_true p190
              replace q190 := eq_true q190
              have p191 : 0 ≤ (x5_1 : Int) := of_decide_eq_true (by first | (with_reducible assumption) | assumption)
              have q191 : x5_1 < (l0.length : Int) := of_decide_eq_true (by first | (with_reducible assumption) | assumption)
              obtain ⟨ad191, e191, hx191_0⟩ := Kd.at_int HR0.out x5_1 p191 q191
              obtain rfl : ad190 = ad191 := (by injection e191)
              replace p191 := eq_true p191
              replace q191 := eq_true q191
              go_wp2
              repeat (go_quiet (fail); try go_wp2)
              go_ret
              exact ⟨by first | rfl | (simp; done) | (simp [*]; done), by repeat (first | exact Drawn0.refl _ | apply Drawn0.step)⟩
            · rw [if_neg c6] at H
              have c6b0 : decide (a1 ≤ (rd l0 x5_1)) = false := decide_eq_false c6
              clear c6
              by_cases c7 : x5_1 > 0
              · rw [if_pos c7] at H
                have c7b0 : decide (0 < x5_1) = true := decide_eq_true c7
                clear c7
                obtain ⟨ji8, hji8⟩ : ∃ j_ : Int, (wrap64 (x5_1 - 1)) = j_ := ⟨_, rfl⟩
                replace H : (if 0 ≤ (ji8) then (if (ji8) < (l0.length : Int) then (if (rd l0 (ji8)) ≥ (rd l0 x5_1) then (some false) else (laws_a2Rises.l0 k1 l0 a1 (wrap64 (x5_1 + 1)))) else (none)) else (none)) = some r := by first | (rw [hji8] at H; exact H) | (simp only [hji8] at H ⊢; exact H)
                have hji8w : (IntKind.i64.wrap (x5_1 - 1)) = ji8 := (i64_w _).trans hji8
                by_cases c9 : 0 ≤ (ji8)
                · rw [if_pos c9] at H
                  have c9b0 : decide (0 ≤ (ji8)) = true := decide_eq_true c9
                  clear c9
                  by_cases c10 : (ji8) < (l0.length : Int)
                  · rw [if_pos c10] at H
                    have c10b0 : decide ((ji8) < (l0.length : Int)) = true := decide_eq_true c10
                    clear c10
                    by_cases c11 : (rd l0 (ji8)) ≥ (rd l0 x5_1)
                    · rw [if_pos c11] at H
                      have c11b0 : decide ((rd l0 x5_1) ≤ (rd l0 (ji8))) = true := decide_eq_true c11
                      clear c11
                      obtain rfl := Option.some.inj H
                      have p190 : 0 ≤ (x5_1 : Int) := of_decide_eq_true (by first | (with_reducible assumption) | assumption)
                      have q190 : x5_1 < (l0.length : Int) := of_decide_eq_true (by first | (with_reducible assumption) | assumption)
                      obtain ⟨ad190, e190, hx190_0⟩ := Kd.at_int HR0.out x5_1 p190 q190
                      cases e190
                      replace p190 := eq_true p190
                      replace q190 := eq_true q190
                      have p191 : 0 ≤ (x5_1 : Int) := of_decide_eq_true (by first | (with_reducible assumption) | assumption)
                      have q191 : x5_1 < (l0.length : Int) := of_decide_eq_true (by first | (with_reducible assumption) | assumption)
                      obtain ⟨ad191, e191, hx191_0⟩ := Kd.at_int HR0.out x5_1 p191 q191
                      obtain rfl : ad190 = ad191 := (by injection e191)
                      replace p191 := eq_true p191
                      replace q191 := eq_true q191
                      have p192 : 0 ≤ ((ji8) : Int) := of_decide_eq_true (by first | (with_reducible assumption) | assumption)
                      have q192 : (ji8) < (l0.length : Int) := of_decide_eq_true (by first | (with_reducible assumption) | assumption)
                      obtain ⟨ad192, e192, hx192_0⟩ := Kd.at_int HR0.out (ji8) p192 q192
                      obtain rfl : ad190 = ad192 := (by injection e192)
                      replace p192 := eq_true p192
                      replace q192 := eq_true q192
                      have p193 : 0 ≤ (x5_1 : Int) := of_decide_eq_true (by first | (with_reducible assumption) | assumption)
                      have q193 : x5_1 < (l0.length : Int) := of_decide_eq_true (by first | (with_reducible assumption) | assumption)
                      obtain ⟨ad193, e193, hx193_0⟩ := Kd.at_int HR0.out x5_1 p193 q193
                      obtain rfl : ad190 = ad193 := (by injection e193)
                      replace p193 := eq_true p193
                      replace q193 := eq_true q193
                      go_wp2
                      repeat (go_quiet (fail); try go_wp2)
                      go_ret
                      exact ⟨by first | rfl | (simp; done) | (simp only [← hji8] <;> (first | rfl | simp)) | (simp [*]; done), by repeat (first | exact Drawn0.refl _ | apply Drawn0.step)⟩
                    · rw [if_neg c11] at H
                      have c11b0 : decide ((rd l0 x5_1) ≤ (rd l0 (ji8))) = false := decide_eq_false c11
                      clear c11
                      have H' := Aside0.mk H
                      clear H
                      have p190 : 0 ≤ (x5_1 : Int) := of_decide_eq_true (by first | (with_reducible assumption) | assumption)
                      have q190 : x5_1 < (l0.length : Int) := of_decide_eq_true (by first | (with_reducible assumption) | assumption)
                      obtain ⟨ad190, e190, hx190_0⟩ := Kd.at_int HR0.out x5_1 p190 q190
                      cases e190
                      replace p190 := eq_true p190
                      replace q190 := eq_true q190
                      have p191 : 0 ≤ (x5_1 : Int) := of_decide_eq_true (by first | (with_reducible assumption) | assumption)
                      have q191 : x5_1 < (l0.length : Int) := of_decide_eq_true (by first | (with_reducible assumption) | assumption)
                      obtain ⟨ad191, e191, hx191_0⟩ := Kd.at_int HR0.out x5_1 p191 q191
                      obtain rfl : ad190 = ad191 := (by injection e191)
                      replace p191 := eq_true p191
                      replace q191 := eq_true q191
                      have p192 : 0 ≤ ((ji8) : Int) := of_decide_eq_true (by first | (with_reducible assumption) | assumption)
                      have q192 : (ji8) < (l0.length : Int) := of_decide_eq_true (by first | (with_reducible assumption) | assumption)
                      obtain ⟨ad192, e192, hx192_0⟩ := Kd.at_int HR0.out (ji8) p192 q192
                      obtain rfl : ad190 = ad192 := (by injection e192)
                      replace p192 := eq_true p192
                      replace q192 := eq_true q192
                      have p193 : 0 ≤ (x5_1 : Int) := of_decide_eq_true (by first | (with_reducible assumption) | assumption)
                      have q193 : x5_1 < (l0.length : Int) := of_decide_eq_true (by first | (with_reducible assumption) | assumption)
                      obtain ⟨ad193, e193, hx193_0⟩ := Kd.at_int HR0.out x5_1 p193 q193
                      obtain rfl : ad190 = ad193 := (by injection e193)
                      replace p193 := eq_true p193
                      replace q193 := eq_true q193
                      go_wp2
                      repeat (go_quiet (fail); try go_wp2)
                      go_roundg k1
                      case measure => have := HK1.out; omega
                      case rel => exact ⟨(wrap64 (x5_1 + 1)), (by first | rfl | (simp; done) | (simp [*]; done)), H', ⟨by have := HK1.out; omega⟩, by repeat (first | exact Drawn0.refl _ | apply Drawn0.step)⟩
                  · rw [if_neg c10] at H
                    exact absurd H (by simp)
                · rw [if_neg c9] at H
                  exact absurd H (by simp)
              · rw [if_neg c7] at H
                have c7b0 : decide (0 < x5_1) = false := decide_eq_false c7
                clear c7
                have H' := Aside0.mk H
                clear H
                have p190 : 0 ≤ (x5_1 : Int) := of_decide_eq_true (by first | (with_reducible assumption) | assumption)
                have q190 : x5_1 < (l0.length : Int) := of_decide_eq_true (by first | (with_reducible assumption) | assumption)
                obtain ⟨ad190, e190, hx190_0⟩ := Kd.at_int HR0.out x5_1 p190 q190
                cases e190
                replace p190 := eq_true p190
                replace q190 := eq_true q190
                have p191 : 0 ≤ (x5_1 : Int) := of_decide_eq_true (by first | (with_reducible assumption) | assumption)
                have q191 : x5_1 < (l0.length : Int) := of_decide_eq_true (by first | (with_reducible assumption) | assumption)
                obtain ⟨ad191, e191, hx191_0⟩ := Kd.at_int HR0.out x5_1 p191 q191
                obtain rfl : ad190 = ad191 := (by injection e191)
                replace p191 := eq_true p191
                replace q191 := eq_true q191
                go_wp2
                repeat (go_quiet (fail); try go_wp2)
                go_roundg k1
                case measure => have := HK1.out; omega
                case rel => exact ⟨(wrap64 (x5_1 + 1)), (by first | rfl | (simp; done) | (simp [*]; done)), H', ⟨by have := HK1.out; omega⟩, by repeat (first | exact Drawn0.refl _ | apply Drawn0.step)⟩
        · rw [if_neg c4] at H
          exact absurd H (by simp)
      · rw [if_neg c3] at H
        have c3b0 : decide (x5_1 < (l0.length : Int)) = false := decide_eq_false c3
        clear c3
        obtain rfl := Option.some.inj H
        go_wp2
        repeat (go_quiet (fail); try go_wp2)
        go_ret
        exact ⟨by first | rfl | (simp; done) | (simp [*]; done), by repeat (first | exact Drawn0.refl _ | apply Drawn0.step)⟩

end Go.Proofs.YtdamlohbplfdgaaDoor.QFnCheapHands
