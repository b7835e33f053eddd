import Derived.Test.YtkoeeajciciphaaGreatDoorSq
import Derived.Test.YtkoeeajciciphaaGreatDoorBase
namespace Go.Proofs.YtkoeeajciciphaaGreatDoor.Sq
open Base (bwl_ bst_ bsz_ bkb_ nbl_ nbr_ kbl_)
open Go.RowKit Go.Proofs.YtkoeeajciciphaaGreatDoorW.PrintWords Go.Proofs.YtkoeeajciciphaaGreatDoorW.PrintLast
section
variable {α β : Type} {p G : Prop} [Decidable p] {x y : Option α} {r : α}
theorem bn_ {x : Option α} {f : α → Option β} {r : β} (h : ∀ t, Aside0 (x = some t) → f t = some r → G) (H : x.bind f = some r) : G := by
  obtain ⟨t, h1, H⟩ := Option.bind_eq_some_iff.mp H
  exact h t ⟨h1⟩ H
theorem if_ (h1 : decide p = true → x = some r → G) (h2 : decide p = false → y = some r → G) (H : (if p then x else y) = some r) : G := by
  by_cases c : p
  · exact h1 (decide_eq_true c) (by rwa [if_pos c] at H)
  · exact h2 (decide_eq_false c) (by rwa [if_neg c] at H)
theorem in_ (h1 : decide p = true → x = some r → G) : (if p then x else none) = some r → G := if_ h1 fun _ h => by simp at h
theorem io_ (h2 : decide p = false → y = some r → G) : (if p then none else y) = some r → G := if_ (fun _ h => by simp at h) h2
theorem ib_ {b : Bool} (h1 : b = true → x = some r → G) (h2 : b = false → y = some r → G) (H : (if b = true then x else y) = some r) : G := by
  cases b
  · exact h2 rfl (by simpa using H)
  · exact h1 rfl (by simpa using H)
theorem ie_ [BEq β] [LawfulBEq β] {a b : β} [Decidable (a = b)] (h1 : (a == b) = true ∧ (a != b) = false → x = some r → G) (h2 : (a == b) = false ∧ (a != b) = true → y = some r → G) (H : (if a = b then x else y) = some r) : G := by
  by_cases c : a = b
  · exact h1 ⟨beq_iff_eq.mpr c, bne_eq_false_iff_eq.mpr c⟩ (by rwa [if_pos c] at H)
  · exact h2 ⟨beq_eq_false_iff_ne.mpr c, bne_iff_ne.mpr c⟩ (by rwa [if_neg c] at H)
theorem ke_ [BEq β] [LawfulBEq β] {a b : β} [Decidable (a = b)] (h1 : (a == b) = true ∧ (a != b) = false → x = some r → G) : (if a = b then x else none) = some r → G := ie_ h1 fun _ h => by simp at h
end
theorem mo_ {P : Prop} (h : P := by
  repeat' first
    | (with_reducible exact LeO.refl _)
    | (with_reducible exact LeO.none _)
    | (with_reducible refine LeO.ite ?_ ?_)
    | (with_reducible refine LeO.bind ?_ (fun _ => ?_))
    | (with_reducible apply ih0) | (with_reducible apply ih1) | (with_reducible apply ih2) | (with_reducible apply ih3) | (with_reducible apply ih4)
    | (with_reducible apply m0) | (with_reducible apply m1) | (with_reducible apply m2) | (with_reducible apply m3) | (with_reducible apply m4) | (with_reducible apply m5) | (with_reducible apply m6) | (with_reducible apply m7) | (with_reducible apply m8) | (with_reducible apply m9)
    | apply ih0 | apply ih1 | apply ih2 | apply ih3 | apply ih4
    | apply m0 | apply m1 | apply m2 | apply m3 | apply m4 | apply m5 | apply m6 | apply m7 | apply m8 | apply m9
    | exact LeO.none _
    | refine LeO.ite ?_ ?_
    | refine LeO.bind ?_ (fun _ => ?_)) : P := h
theorem re_ {α : Sort _} {a b : α} (h : a = b := by first | rfl | (simp; done) | (simp [*]; done)) : a = b := h
theorem dw_ {w w' : World} (h : Drawn0 w w' := by repeat (first | exact Drawn0.refl _ | apply Drawn0.step)) : Drawn0 w w' := h
section
variable {w : World} {g : Nat} {t : TypeId} {v0 v1 v2 v3 v4 v5 v6 v7 : Value}
theorem c1_ (h : Aside0 (w.heap[g]? = some (.cells #[v0] t (0, 0)))) : w.cell? ⟨g, 0, none⟩ = some v0 ∧ w.frozen? ⟨g, 0, none⟩ = false := ⟨(blk_cell h.out 0).trans rfl, blk_frozen h.out 0⟩
theorem c2_ (h : Aside0 (w.heap[g]? = some (.cells #[v0, v1] t (0, 0)))) : (w.cell? ⟨g, 0, none⟩ = some v0 ∧ w.cell? ⟨g, 1, none⟩ = some v1) ∧ w.frozen? ⟨g, 0, none⟩ = false ∧ w.frozen? ⟨g, 1, none⟩ = false := ⟨⟨(blk_cell h.out 0).trans rfl, (blk_cell h.out 1).trans rfl⟩, blk_frozen h.out 0, blk_frozen h.out 1⟩
theorem c3_ (h : Aside0 (w.heap[g]? = some (.cells #[v0, v1, v2] t (0, 0)))) : (w.cell? ⟨g, 0, none⟩ = some v0 ∧ w.cell? ⟨g, 1, none⟩ = some v1 ∧ w.cell? ⟨g, 2, none⟩ = some v2) ∧ w.frozen? ⟨g, 0, none⟩ = false ∧ w.frozen? ⟨g, 1, none⟩ = false ∧ w.frozen? ⟨g, 2, none⟩ = false :=
  ⟨⟨(blk_cell h.out 0).trans rfl, (blk_cell h.out 1).trans rfl, (blk_cell h.out 2).trans rfl⟩, blk_frozen h.out 0, blk_frozen h.out 1, blk_frozen h.out 2⟩
theorem c7_ (h : Aside0 (w.heap[g]? = some (.cells #[v0, v1, v2, v3, v4, v5, v6] t (0, 0)))) : (w.cell? ⟨g, 0, none⟩ = some v0 ∧ w.cell? ⟨g, 1, none⟩ = some v1 ∧ w.cell? ⟨g, 2, none⟩ = some v2 ∧ w.cell? ⟨g, 3, none⟩ = some v3 ∧ w.cell? ⟨g, 4, none⟩ = some v4 ∧ w.cell? ⟨g, 5, none⟩ = some v5 ∧ w.cell? ⟨g, 6, none⟩ = some v6) ∧ ∀ i, w.frozen? ⟨g, i, none⟩ = false :=
  ⟨⟨(blk_cell h.out 0).trans rfl, (blk_cell h.out 1).trans rfl, (blk_cell h.out 2).trans rfl, (blk_cell h.out 3).trans rfl, (blk_cell h.out 4).trans rfl, (blk_cell h.out 5).trans rfl, (blk_cell h.out 6).trans rfl⟩, fun i => blk_frozen h.out i⟩
end
section
variable {P : Program} {ops : Array Oper} {Q : Exit → Act → World → Prop}
theorem cl_ {rest : List Oper} {oi : Oper} {a : Act} {w : World} {N : Option Tmp} {f : FuncId} {fn : Func} {as : Array Operand} {ts : Array TypeId} {args : Array Value} {V : Value} {R : World → Prop}
    (hf : P.funcs[f]? = some fn) (hc : Calls P f args w fun e w' => e = .returned V ∧ R w') (h : ∀ w', R w' → wpList P ops Q rest (a.put N V) w')
    (hd : oi.dst = N := by exact rfl) (hg : oi.guard = none := by exact rfl) (hname : (fn.name == "runtime.NumGoroutine") = false := by kernel_rfl) (hb : fn.body.isSome = true := by exact rfl) (hop : oi.op = .call { callee := .value (.func f), args := as, argTypes := ts } := by exact rfl)
    (hargs : as.map a.eval = args := by ((try simp only [List.map_toArray, List.map_cons, List.map_nil]); first | done | rfl | (simp only [List.length_drop, List.length_take]; rfl) | (simp only [ByteArray.size_append, Int.natCast_add]; rfl))) : wpList P ops Q (oi :: rest) a w :=
  goesL_ N hd hg hf hname hb args hop hargs (hc.mono fun _ w' ⟨he, hr⟩ => ⟨V, he, h w' hr⟩)
theorem ck_ {rest : List Oper} {oi : Oper} {a : Act} {w : World} {N : Option Tmp} {f : FuncId} {fn : Func} {as : Array Operand} {ts : Array TypeId} {args : Array Value} {R : Ending → World → Prop}
    (hf : P.funcs[f]? = some fn) (hc : Calls P f args w R) (h : ∀ e w', R e w' → ∃ v, e = .returned v ∧ wpList P ops Q rest (a.put N v) w')
    (hd : oi.dst = N := by exact rfl) (hg : oi.guard = none := by exact rfl) (hname : (fn.name == "runtime.NumGoroutine") = false := by kernel_rfl) (hb : fn.body.isSome = true := by exact rfl) (hop : oi.op = .call { callee := .value (.func f), args := as, argTypes := ts } := by exact rfl)
    (hargs : as.map a.eval = args := by ((try simp only [List.map_toArray, List.map_cons, List.map_nil]); first | done | rfl | (simp only [List.length_drop, List.length_take]; rfl) | (simp only [ByteArray.size_append, Int.natCast_add]; rfl))) : wpList P ops Q (oi :: rest) a w :=
  goesL_ N hd hg hf hname hb args hop hargs (hc.mono fun e w' hr => h e w' hr)
theorem ca_ {f : FuncId} {args : Array Value} {w : World} {V : Value} {R : World → Prop} {Q : Ending → World → Prop} (hc : Calls P f args w fun e w' => e = .returned V ∧ R w') (h : ∀ w', R w' → Q (.returned V) w') : Calls P f args w Q :=
  hc.mono fun _ w' ⟨he, hr⟩ => he ▸ h w' hr
end
theorem kc_ {α : Type} {k : Kd α} {w0 w : World} {A : Option Addr} {n : Nat} {xs : List α} (h : Aside0 (Kd.C k w0 A n xs))
    (hk : Kd.C k w0 A n xs → Kd.C k w A n xs := by (intro h_; repeat (first | (with_reducible first | exact h_ | exact (Kd.C_below h_ HB.out) | refine Kd.C_alloc ?_ _ | refine Kd.C_drewN ?_ _ | refine Kd.C_drew ?_) | exact (Kd.C_below h_ HB.out) | exact h_))) : Kd.C k w A n xs := hk h.out
theorem kr_ {α : Type} {k : Kd α} {e n : Nat} {ok : Nat → Prop} {v : Value} {xs : List α} {w0 w1 w2 : World} (h : Aside0 (Kd.R k e w0 n ok v xs)) (hb : Below w1.heap.size w1 w2)
    (hk : Kd.R k e w0 n ok v xs → Kd.R k e w1 n ok v xs := by (intro h_; (with_reducible repeat (first | apply Kd.R_alloc | apply Kd.R_drewN | apply Kd.R_drew)); exact h_)) : Aside0 (Kd.R k e w2 n ok v xs) := ⟨Kd.R_below (hk h.out) hb⟩
section
variable {P : Program} {ops : Array Oper} {Q : Exit → Act → World → Prop}
theorem gc_ {o : Oper} {rest : List Oper} {a : Act} {W : World} (f : FuncId) {as : Array Operand} {ts : Array TypeId} (_ho : o.op = .call { callee := .value (.func f), args := as, argTypes := ts }) (h : wpList P ops Q (o :: rest) a W) : wpList P ops Q (o :: rest) a W := h
theorem gd_ {o : Oper} {rest : List Oper} {a : Act} {W : World} (N : Tmp) (_hN : o.dst = some N) (h : wpList P ops Q (o :: rest) a W) : wpList P ops Q (o :: rest) a W := h
theorem bx_ {o : Oper} {rest : List Oper} {a : Act} {W : World} (cs : Array Value) {t : TypeId} {N : Tmp}
    (h : ∀ g, g = W.heap.size → ∀ w1, Aside0 (w1.heap[g]? = some (.cells cs t (0, 0))) → Below W.heap.size W w1 → wpList P ops Q rest (a.put o.dst (.pointer (some ⟨g, 0, none⟩))) w1)
    (hgd : o.guard = none := by exact rfl) (hd : o.dst = some N := by exact rfl) (hrun : (execOp a.eval o).run P W = .ok (.value (.pointer (some ⟨W.heap.size, 0, none⟩))) (W.alloc (.cells cs t (0, 0))) := by first | (go_simp; done) | (go_simp; rfl)) : wpList P ops Q (o :: rest) a W := box_event hgd hd hrun fun g hg w1 hb => h g hg w1 ⟨hb⟩
variable {md : Region.Mode} {S : World → Prop} {ds : List Nat}
theorem pk_ (i : Nat) (N : Option Tmp) {oi : Oper} {v : Value} {fuel : Nat} {l : Array Bool} {a a' : Act} {w : World} (l' : Array Bool) (h : wpAnyLast P md ops Q S ds fuel l' a' w) (hc : anyB md ops l l' i = true := by kernel_rfl)
    (hi : ops[i]? = some oi := by exact rfl) (hN : oi.dst = N := by exact rfl) (hQ : ∀ c a w, Q (.panic c) (a.put oi.dst v) w → Q (.panic c) a w := by exact fun _ _ _ h => h) (hy : Yields P ops oi v a := by (refine Or.inl ⟨by rfl, ?_⟩; intro w'; go_simp; with_reducible rfl))
    (ha : a.put N v = a' := by (simp only [Act.put, List.setIfInBounds_toArray, List.set_cons_zero, List.set_cons_succ, i64_w, i32_w]; rfl)) : wpAnyLast P md ops Q S ds (fuel + 1) l a w := pure_ l' hi hN hc hQ hy ha h
end
theorem kb_ {w0 w : World} {g : Nat} {o : Obj} (h : Aside0 (w0.heap[g]? = some o)) (hk : w0.heap[g]? = some o → w.heap[g]? = some o := by (intro h_; (with_reducible repeat (first | refine blk_drewN ?_ _ | refine blk_drew ?_ | refine blk_alloc ?_ _)); exact h_)) : w.heap[g]? = some o := hk h.out
theorem pq_ (x n : Int) (h0 : 0 ≤ x := by exact od_) (h1 : x < n := by exact od_) : (0 ≤ x) = True ∧ (x < n) = True := ⟨eq_true h0, eq_true h1⟩
theorem bt_ (s : ByteArray) (i : Int) (h0 : 0 ≤ i := by exact od_) (h1 : i < (s.size : Int) := by exact od_) : ((0 ≤ i) = True ∧ (i < (s.size : Int)) = True) ∧ ∀ h : i.toNat < s.size, ((s[i.toNat]'h).toNat : Int) = bt s i := ⟨⟨eq_true h0, eq_true h1⟩, bt_at s i⟩
def TyB (w : World) (g t : Nat) : Prop := ∃ cs, w.heap[g]? = some (.cells cs t (0, 0))
theorem TyB.of {w : World} {g t : Nat} {cs : Array Value} (h : Aside0 (w.heap[g]? = some (.cells cs t (0, 0)))) : TyB w g t := ⟨cs, h.out⟩
theorem TyB.alloc {w : World} {g t : Nat} {o : Obj} (h : TyB w g t) : TyB (w.alloc o) g t := h.elim fun cs h => ⟨cs, blk_alloc h _⟩
theorem TyB.drew {w : World} {g t : Nat} (h : TyB w g t) : TyB w.drew g t := h
theorem TyB.drewN {w : World} {g t n : Nat} (h : TyB w g t) : TyB (w.drewN n) g t := h
theorem TyB.set {w : World} {g t b i : Nat} {u : Value} (h : TyB w g t) : TyB (w.setCell ⟨b, i, none⟩ u) g t := by
  obtain ⟨cs, h⟩ := h
  by_cases e : g = b
  · subst e; exact ⟨_, blk_put h i u rfl⟩
  · exact ⟨cs, blk_far h e u⟩
theorem tb_ {w : World} {g t : Nat} (h : TyB w g t := by repeat (first | exact TyB.of (by with_reducible assumption) | (with_reducible first | apply TyB.alloc | apply TyB.drewN | apply TyB.drew | apply TyB.set))) : TyB w g t := h
theorem rset_ {α : Type} {k : Kd α} {e n : Nat} {ok : Nat → Prop} {v : Value} {xs : List α} {w : World} {g t i : Nat} {u : Value} (h : Kd.R k e w n ok v xs) (hT : TyB w g t) (ht : ∀ q, q ∈ e :: k.E → q ≠ t) : Kd.R k e (w.setCell ⟨g, i, none⟩ u) n ok v xs :=
  hT.elim fun _ hb => Kd.R_mono (Kd.R_far (p := ⟨g, i, none⟩) (Kd.R_types h hb ht) (fun _ hk => hk.2) u) (fun _ hk => hk.1)
theorem ks_ {α : Type} {k : Kd α} {e n : Nat} {ok : Nat → Prop} {v : Value} {xs : List α} {w0 w1 : World} (h : Aside0 (Kd.R k e w0 n ok v xs))
    (hk : Kd.R k e w0 n ok v xs → Kd.R k e w1 n ok v xs := by (intro h_; repeat (first | with_reducible exact h_ | (with_reducible first | apply Kd.R_alloc | apply Kd.R_drewN | apply Kd.R_drew) | refine rset_ ?_ tb_ (by decide) | refine Kd.R_far ?_ (fun _ hk => by first | exact hk.2 | exact hk.1.2 | exact hk.2.1 | exact hk.2.2 | exact hk.1.1.2 | exact hk.1.1.1.2) _ | exact h_))) : Kd.R k e w1 n ok v xs := hk h.out
theorem kt_ {α : Type} {k : Kd α} {e n : Nat} {ok : Nat → Prop} {v : Value} {xs : List α} {w0 w1 : World} (h : Aside0 (Kd.R k e w0 n ok v xs))
    (hk : Kd.R k e w0 n ok v xs → Kd.R k e w1 n ok v xs := by (intro h_; repeat (first | with_reducible exact h_ | (with_reducible first | apply Kd.R_alloc | apply Kd.R_drewN | apply Kd.R_drew) | refine rset_ ?_ tb_ (by decide) | refine Kd.R_far ?_ (fun _ hk => by first | exact hk.2 | exact hk.1.2 | exact hk.2.1 | exact hk.2.2 | exact hk.1.1.2 | exact hk.1.1.1.2) _ | exact h_))) : Kd.R k e w1 n (fun _ => True) v xs := Kd.R_mono (hk h.out) fun _ _ => trivial
theorem ke_' {α β : Type} {k : Kd α} {k' : Kd β} {e e' n : Nat} {ok okv : Nat → Prop} {v u : Value} {xs : List α} {ys : List β} {w0 w1 w2 w3 : World} (h : Aside0 (Kd.R k e w0 n ok v xs)) (h0 : Kd.R k' e' w3 w1.heap.size okv u ys) (hb : Below w1.heap.size w1 w2)
    (hk : Kd.R k e w0 n ok v xs → Kd.R k e w1 n ok v xs := by (intro h_; repeat (first | with_reducible exact h_ | (with_reducible first | apply Kd.R_alloc | apply Kd.R_drewN | apply Kd.R_drew) | refine rset_ ?_ tb_ (by decide) | refine Kd.R_far ?_ (fun _ hk => by first | exact hk.2 | exact hk.1.2 | exact hk.2.1 | exact hk.2.2 | exact hk.1.1.2 | exact hk.1.1.1.2) _ | exact h_))) : Aside0 (Kd.R k e w2 n (fun k => ok k ∧ some k ≠ u.ownBlock) v xs) := ⟨Kd.R_elder' (hk h.out) (Kd.R_base h0) hb⟩
theorem kn_ {α β : Type} {k : Kd α} {k' : Kd β} {e e' n : Nat} {ok oku : Nat → Prop} {v u : Value} {xs : List α} {ys : List β} {w0 w1 w2 : World} (h0 : Kd.R k' e' w2 w1.heap.size ok v ys) (h : Aside0 (Kd.R k e w0 n oku u xs))
    (hk : Kd.R k e w0 n oku u xs → Kd.R k e w1 n oku u xs := by (intro h_; repeat (first | with_reducible exact h_ | (with_reducible first | apply Kd.R_alloc | apply Kd.R_drewN | apply Kd.R_drew) | refine rset_ ?_ tb_ (by decide) | refine Kd.R_far ?_ (fun _ hk => by first | exact hk.2 | exact hk.1.2 | exact hk.2.1 | exact hk.2.2 | exact hk.1.1.2 | exact hk.1.1.1.2) _ | exact h_))) : Kd.R k' e' w2 w1.heap.size (fun k => ok k ∧ some k ≠ u.ownBlock) v ys := Kd.R_new' h0 (Kd.R_lt (hk h.out))
theorem kl_ {α : Type} {k : Kd α} {e : Nat} {ok : Nat → Prop} {v : Value} {xs : List α} {w W w1 : World} (h : Kd.R k e w1 W.heap.size ok v xs) (hb : Below w.heap.size w W := by exact bwl_) : Aside0 (Kd.R k e w1 w.heap.size ok v xs) := ⟨Kd.R_lower h (below_size hb)⟩
theorem krs_ {α : Type} {k : Kd α} {e n : Nat} {ok : Nat → Prop} {v : Value} {xs : List α} {w0 w1 w2 : World} (h : Aside0 (Kd.R k e w0 n ok v xs)) (hb : Below w1.heap.size w1 w2)
    (hk : Kd.R k e w0 n ok v xs → Kd.R k e w1 n ok v xs := by (intro h_; repeat (first | with_reducible exact h_ | (with_reducible first | apply Kd.R_alloc | apply Kd.R_drewN | apply Kd.R_drew) | refine rset_ ?_ tb_ (by decide) | refine Kd.R_far ?_ (fun _ hk => by first | exact hk.2 | exact hk.1.2 | exact hk.2.1 | exact hk.2.2 | exact hk.1.1.2 | exact hk.1.1.1.2) _ | exact h_))) : Aside0 (Kd.R k e w2 n ok v xs) := ⟨Kd.R_below (hk h.out) hb⟩
section
variable {v0 v1 v2 v3 v4 v5 v6 u : Value}
theorem s1_0 : (#[v0] : Array Value).setIfInBounds 0 u = #[u] := rfl
theorem s2_0 : (#[v0, v1] : Array Value).setIfInBounds 0 u = #[u, v1] := rfl
theorem s2_1 : (#[v0, v1] : Array Value).setIfInBounds 1 u = #[v0, u] := rfl
theorem s3_0 : (#[v0, v1, v2] : Array Value).setIfInBounds 0 u = #[u, v1, v2] := rfl
theorem s3_1 : (#[v0, v1, v2] : Array Value).setIfInBounds 1 u = #[v0, u, v2] := rfl
theorem s3_2 : (#[v0, v1, v2] : Array Value).setIfInBounds 2 u = #[v0, v1, u] := rfl
theorem s7_0 : (#[v0, v1, v2, v3, v4, v5, v6] : Array Value).setIfInBounds 0 u = #[u, v1, v2, v3, v4, v5, v6] := rfl
theorem s7_1 : (#[v0, v1, v2, v3, v4, v5, v6] : Array Value).setIfInBounds 1 u = #[v0, u, v2, v3, v4, v5, v6] := rfl
theorem s7_2 : (#[v0, v1, v2, v3, v4, v5, v6] : Array Value).setIfInBounds 2 u = #[v0, v1, u, v3, v4, v5, v6] := rfl
theorem s7_3 : (#[v0, v1, v2, v3, v4, v5, v6] : Array Value).setIfInBounds 3 u = #[v0, v1, v2, u, v4, v5, v6] := rfl
theorem s7_4 : (#[v0, v1, v2, v3, v4, v5, v6] : Array Value).setIfInBounds 4 u = #[v0, v1, v2, v3, u, v5, v6] := rfl
theorem s7_5 : (#[v0, v1, v2, v3, v4, v5, v6] : Array Value).setIfInBounds 5 u = #[v0, v1, v2, v3, v4, u, v6] := rfl
theorem s7_6 : (#[v0, v1, v2, v3, v4, v5, v6] : Array Value).setIfInBounds 6 u = #[v0, v1, v2, v3, v4, v5, u] := rfl
end
theorem se_ {cs cs' : Array Value} {i : Nat} {u : Value} (h : cs.setIfInBounds i u = cs' := by first | (with_reducible first | exact s1_0 | exact s2_0 | exact s2_1 | exact s3_0 | exact s3_1 | exact s3_2 | exact s7_0 | exact s7_1 | exact s7_2 | exact s7_3 | exact s7_4 | exact s7_5 | exact s7_6) | rfl) : cs.setIfInBounds i u = cs' := h
theorem kbp_ {w0 w : World} {g : Nat} {t : TypeId} {cs cs' : Array Value} (h : Aside0 (w0.heap[g]? = some (.cells cs t (0, 0)))) (hk : w0.heap[g]? = some (.cells cs t (0, 0)) → w.heap[g]? = some (.cells cs' t (0, 0)) := by (intro h_; repeat (first | with_reducible exact h_ | (with_reducible first | apply blk_drewN | apply blk_drew | apply blk_alloc) | with_reducible apply blk_put | with_reducible apply blk_far | exact Aside0.out (by assumption) | exact se_))) : w.heap[g]? = some (.cells cs' t (0, 0)) := hk h.out
theorem kb2_ {w0 w1 w2 : World} {g : Nat} {t : TypeId} {cs : Array Value} {u0 u1 : Value} (h : Aside0 (w0.heap[g]? = some (.cells cs t (0, 0)))) (hb : Below w1.heap.size w1 w2) (hk : w0.heap[g]? = some (.cells cs t (0, 0)) → w1.heap[g]? = some (.cells #[u0, u1] t (0, 0)) := by (intro h_; repeat (first | with_reducible exact h_ | (with_reducible first | apply blk_drewN | apply blk_drew | apply blk_alloc) | with_reducible apply blk_put | with_reducible apply blk_far | exact Aside0.out (by assumption) | exact se_))) : Aside0 (w2.heap[g]? = some (.cells #[u0, u1] t (0, 0))) := ⟨blk_below (hk h.out) hb⟩
theorem kb3_ {w0 w1 w2 : World} {g : Nat} {t : TypeId} {cs : Array Value} {u0 u1 u2 : Value} (h : Aside0 (w0.heap[g]? = some (.cells cs t (0, 0)))) (hb : Below w1.heap.size w1 w2) (hk : w0.heap[g]? = some (.cells cs t (0, 0)) → w1.heap[g]? = some (.cells #[u0, u1, u2] t (0, 0)) := by (intro h_; repeat (first | with_reducible exact h_ | (with_reducible first | apply blk_drewN | apply blk_drew | apply blk_alloc) | with_reducible apply blk_put | with_reducible apply blk_far | exact Aside0.out (by assumption) | exact se_))) : Aside0 (w2.heap[g]? = some (.cells #[u0, u1, u2] t (0, 0))) := ⟨blk_below (hk h.out) hb⟩
theorem kb7_ {w0 w1 w2 : World} {g : Nat} {t : TypeId} {cs : Array Value} {u0 u1 u2 u3 u4 u5 u6 : Value} (h : Aside0 (w0.heap[g]? = some (.cells cs t (0, 0)))) (hb : Below w1.heap.size w1 w2) (hk : w0.heap[g]? = some (.cells cs t (0, 0)) → w1.heap[g]? = some (.cells #[u0, u1, u2, u3, u4, u5, u6] t (0, 0)) := by (intro h_; repeat (first | with_reducible exact h_ | (with_reducible first | apply blk_drewN | apply blk_drew | apply blk_alloc) | with_reducible apply blk_put | with_reducible apply blk_far | exact Aside0.out (by assumption) | exact se_))) : Aside0 (w2.heap[g]? = some (.cells #[u0, u1, u2, u3, u4, u5, u6] t (0, 0))) := ⟨blk_below (hk h.out) hb⟩
section
variable {P : Program} {ops : Array Oper} {Q : Exit → Act → World → Prop} {o : Oper} {rest : List Oper} {a : Act} {W w1 : World}
theorem st_ {t : TypeId} {p : Tmp} {v : Operand} (h : ∀ w', w' = w1 → wpList P ops Q rest a w') (hgd : o.guard = none := by exact rfl) (ho : o.op = .store t (.tmp p) v := by exact rfl) (hN : o.dst = none := by exact rfl) (hrun : (execOp a.eval o).run P W = .ok .skip w1 := by first | (go_simp; done) | (go_simp; rfl)) : wpList P ops Q (o :: rest) a W := store_event hgd ho hN hrun h
theorem gs_ {t : TypeId} {p : Tmp} {v : Operand} (_ho : o.op = .store t (.tmp p) v) (h : wpList P ops Q (o :: rest) a W) : wpList P ops Q (o :: rest) a W := h
end
theorem kw2_ {w0 w w1 : World} {g : Nat} {t : TypeId} {cs : Array Value} {u0 u1 : Value} (h : Aside0 (w0.heap[g]? = some (.cells cs t (0, 0)))) (hw : w1 = w) (hk : w0.heap[g]? = some (.cells cs t (0, 0)) → w.heap[g]? = some (.cells #[u0, u1] t (0, 0)) := by (intro h_; repeat (first | with_reducible exact h_ | (with_reducible first | apply blk_drewN | apply blk_drew | apply blk_alloc) | with_reducible apply blk_put | with_reducible apply blk_far | exact Aside0.out (by assumption) | exact se_))) : Aside0 (w1.heap[g]? = some (.cells #[u0, u1] t (0, 0))) := ⟨hw ▸ hk h.out⟩
theorem kw7_ {w0 w w1 : World} {g : Nat} {t : TypeId} {cs : Array Value} {u0 u1 u2 u3 u4 u5 u6 : Value} (h : Aside0 (w0.heap[g]? = some (.cells cs t (0, 0)))) (hw : w1 = w) (hk : w0.heap[g]? = some (.cells cs t (0, 0)) → w.heap[g]? = some (.cells #[u0, u1, u2, u3, u4, u5, u6] t (0, 0)) := by (intro h_; repeat (first | with_reducible exact h_ | (with_reducible first | apply blk_drewN | apply blk_drew | apply blk_alloc) | with_reducible apply blk_put | with_reducible apply blk_far | exact Aside0.out (by assumption) | exact se_))) : Aside0 (w1.heap[g]? = some (.cells #[u0, u1, u2, u3, u4, u5, u6] t (0, 0))) := ⟨hw ▸ hk h.out⟩
theorem kwr_ {α : Type} {k : Kd α} {e n : Nat} {ok : Nat → Prop} {v : Value} {xs : List α} {w0 w1 w2 : World} (h : Aside0 (Kd.R k e w0 n ok v xs)) (hw : w2 = w1)
    (hk : Kd.R k e w0 n ok v xs → Kd.R k e w1 n ok v xs := by (intro h_; repeat (first | with_reducible exact h_ | (with_reducible first | apply Kd.R_alloc | apply Kd.R_drewN | apply Kd.R_drew) | refine rset_ ?_ tb_ (by decide) | refine Kd.R_far ?_ (fun _ hk => by first | exact hk.2 | exact hk.1.2 | exact hk.2.1 | exact hk.2.2 | exact hk.1.1.2 | exact hk.1.1.1.2) _ | exact h_))) : Aside0 (Kd.R k e w2 n ok v xs) := ⟨hw ▸ hk h.out⟩
theorem kwb_ {w w1 w2 : World} (hw : w2 = w1) (hb : Below w.heap.size w w1 := by exact bwl_) : Aside0 (Below w.heap.size w w2) := ⟨hw ▸ hb⟩
theorem sl_ {p q : Prop} (hp : p) (h : p → q := by (intro h; simpa using h)) : q := h hp
theorem rn_ {P : Prop} (h : P := by first | exact Kd.R_nil _ _ _ _ _ | exact Kd.N_nil _ _ _ _ _ | exact Kd.V_nil _ _ _ _ _ | exact Kd.Q_nil _ _ _ _ _ | exact Kd.S_nil _ _ _ _ _) : P := h
section
variable {P : Program} {ops : Array Oper} {Q : Exit → Act → World → Prop} {md : Region.Mode} {S : World → Prop} {ds : List Nat}
theorem tk_ (i : Nat) (N : Option Tmp) {oi : Oper} {v : Value} {fuel : Nat} {l : Array Bool} {a a' : Act} {w : World} (l' : Array Bool) (hS : S w) (h : wpAnyLast P md ops Q S ds fuel l' a' w)
    (hc : takeB md ops ds l l' i = true := by kernel_rfl) (hi : ops[i]? = some oi := by exact rfl) (hN : oi.dst = N := by exact rfl) (hQ : ∀ c a w, Q (.panic c) (a.put oi.dst v) w → Q (.panic c) a w := by exact fun _ _ _ h => h)
    (hy : YieldsIf P ops S oi v a := by (refine Or.inl ⟨by rfl, ?_⟩; intro w' hS; (try dsimp only at hS); go_simp; with_reducible rfl)) (ha : a.put N v = a' := by (simp only [Act.put, List.setIfInBounds_toArray, List.set_cons_zero, List.set_cons_succ, i64_w, i32_w]; rfl)) : wpAnyLast P md ops Q S ds (fuel + 1) l a w := take_ l' hi hN hc hQ hy hS ha h
end
end Go.Proofs.YtkoeeajciciphaaGreatDoor.Sq
