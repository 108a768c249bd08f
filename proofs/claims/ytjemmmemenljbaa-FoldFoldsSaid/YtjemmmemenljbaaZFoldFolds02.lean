import Derived.Test.YtjemmmemenljbaaZFoldFolds01
section
namespace Go.Proofs.YtjemmmemenljbaaW.PrintMore
open Go.RowKit Go.Proofs.YtjemmmemenljbaaW.PrintWords
namespace Kd
open Go.Proofs.YtjemmmemenljbaaW.PrintWords.Kd
end Kd
namespace Kd
open Go.Proofs.YtjemmmemenljbaaW.PrintWords.Kd
section
variable {α : Type} {d : Kd α} {e base g N : Nat} {ok : Nat → Prop} {W w1 : World} {u v : Value} {xs : List α}
end
end Kd
theorem max2_int (k k' : IntKind) (x y : Int) : Builtin.max2 (.int k x) (.int k' y) = pure (.int k (if x < y then y else x)) := by simp only [Builtin.max2, gt_iff_lt]
theorem min2_int (k k' : IntKind) (x y : Int) : Builtin.min2 (.int k x) (.int k' y) = pure (.int k (if y < x then y else x)) := by simp only [Builtin.min2]
theorem max_two (ats : Array TypeId) (ty : TypeId) (a b : Value) : Builtin.max_ ats ty #[a, b] = (Builtin.max2 a b >>= fun s => pure s) := by simp only [Builtin.max_, List.foldlM_cons, List.foldlM_nil]
theorem min_two (ats : Array TypeId) (ty : TypeId) (a b : Value) : Builtin.min_ ats ty #[a, b] = (Builtin.min2 a b >>= fun s => pure s) := by simp only [Builtin.min_, List.foldlM_cons, List.foldlM_nil]
theorem max_three (ats : Array TypeId) (ty : TypeId) (a b c : Value) : Builtin.max_ ats ty #[a, b, c] = (Builtin.max2 a b >>= fun s => Builtin.max2 s c >>= fun s => pure s) := by simp only [Builtin.max_, List.foldlM_cons, List.foldlM_nil]
theorem min_three (ats : Array TypeId) (ty : TypeId) (a b c : Value) : Builtin.min_ ats ty #[a, b, c] = (Builtin.min2 a b >>= fun s => Builtin.min2 s c >>= fun s => pure s) := by simp only [Builtin.min_, List.foldlM_cons, List.foldlM_nil]
theorem max_four (ats : Array TypeId) (ty : TypeId) (a b c d : Value) : Builtin.max_ ats ty #[a, b, c, d] = (Builtin.max2 a b >>= fun s => Builtin.max2 s c >>= fun s => Builtin.max2 s d >>= fun s => pure s) := by simp only [Builtin.max_, List.foldlM_cons, List.foldlM_nil]
theorem min_four (ats : Array TypeId) (ty : TypeId) (a b c d : Value) : Builtin.min_ ats ty #[a, b, c, d] = (Builtin.min2 a b >>= fun s => Builtin.min2 s c >>= fun s => Builtin.min2 s d >>= fun s => pure s) := by simp only [Builtin.min_, List.foldlM_cons, List.foldlM_nil]
end Go.Proofs.YtjemmmemenljbaaW.PrintMore
namespace Go.Proofs.YtjemmmemenljbaaW.PrintWords
open Go.RowKit
section
variable {P : Program} {ops : Array Oper} {rest : List Oper} {o : Oper} {a : Act} {Q : Exit → Act → World → Prop} {W : World}
theorem gate_callee {f : FuncId} {as : Array Operand} {ts : Array TypeId} (_ho : o.op = .call { callee := .value (.func f), args := as, argTypes := ts }) (h : wpList P ops Q (o :: rest) a W) : wpList P ops Q (o :: rest) a W := h
theorem gate_builtin {b : Builtin} {xs : Array Operand} {ts : Array TypeId} (_ho : o.op = .call { callee := .builtin b, args := xs, argTypes := ts }) (h : wpList P ops Q (o :: rest) a W) : wpList P ops Q (o :: rest) a W := h
end
def mx (a b : Int) : Int := if a < b then b else a
def shr (k : IntKind) (x y : Int) : Int := x / 2 ^ min y.toNat k.bits
theorem shr_small {k : IntKind} {x y j : Int} (h : shr k x y = j) (hy : y ≤ k.bits) : x / 2 ^ y.toNat = j := by rw [← h]; unfold shr; rw [Nat.min_eq_left (by omega)]
theorem drewN_self (w : World) (n : Nat) : w.drewN n = w.drewN n := rfl
namespace Kd
section
variable {α : Type} {d : Kd α} {e base : Nat} {ok : Nat → Prop} {W w1 : World} {v : Value} {xs : List α}
end
section
variable {α : Type} {d : Kd α} {e base g n cap : Nat} {ok oki okp : Nat → Prop} {W : World} {xs : List α} {i : Int} {c : List Value}
end
section
variable {α : Type} {d : Kd α} {e base b b' g N : Nat} {ok ok1 : Nat → Prop} {W W2 w1 : World} {u v : Value} {xs ys : List α} {S : Nat → Prop}
end
end Kd
end Go.Proofs.YtjemmmemenljbaaW.PrintWords
namespace Go.Proofs.YtjemmmemenljbaaW.PrintWords
open Go.RowKit
namespace Kd
def V {α : Type} (d : Kd α) (_e : Nat) (W : World) (_base : Nat) (ok : Nat → Prop) (v : Value) (xs : List α) : Prop := ∃ A c, v = .slice A xs.length c ∧ xs.length ≤ c ∧ F d W ok A xs.length xs
section
variable {α β : Type} {d : Kd α} {e base base' n m c g N' lo hi : Nat} {ok ok' S : Nat → Prop} {w W w1 : World} {A : Option Addr} {ad : Addr} {u v v1 : Value} {xs : List α}
theorem V_map (h : V d e W base ok v xs) (hF : ∀ A, F d W ok A xs.length xs → F d w1 ok' A xs.length xs) : V d e w1 base' ok' v xs := by
  obtain ⟨A, c, hv, hl, hf⟩ := h
  exact ⟨A, c, hv, hl, hF A hf⟩
theorem V_mk (hl : xs.length ≤ c) (hf : F d W ok A xs.length xs) : V d e W base ok (.slice A xs.length c) xs := ⟨A, c, rfl, hl, hf⟩
theorem V_at (h : V d e W base ok (.slice A n c) xs) : n = xs.length ∧ n ≤ c ∧ F d W ok A xs.length xs := by
  obtain ⟨A', c', hv, hl, hf⟩ := h
  injection hv with ha hn hc
  subst ha; subst hc
  exact ⟨hn, by rw [hn]; exact hl, hf⟩
theorem V_reads' (h : V d e W base ok (.slice A n c) xs) : n = xs.length ∧ n ≤ c ∧ d.C W A xs.length xs := ⟨(V_at h).1, (V_at h).2.1, F_now (V_at h).2.2⟩
theorem V_F (h : V d e W base ok (.slice A n c) xs) : F d W ok A n xs := by
  obtain ⟨hn, _, hf⟩ := V_at h
  rw [hn]
  exact hf
theorem R_V (h : d.R e W base ok v xs) : V d e W base' ok v xs := by
  obtain ⟨A, c, rfl⟩ := R_slice h
  exact ⟨A, c, rfl, (R_reads' h).2.1, R_F h⟩
theorem N_V (h : N d e W base ok v xs) : V d e W base' ok v xs := by
  obtain ⟨A, c, rfl⟩ := N_slice h
  exact ⟨A, c, rfl, (N_reads' h).2.1, N_F h⟩
theorem V_mono (h : V d e W base ok v xs) (hok : ∀ k, ok k → ok' k) : V d e W base ok' v xs := V_map h (fun _ hf => F_mono hf hok)
theorem V_below (h : V d e W base ok v xs) (hb : Below W.heap.size W w1) : V d e w1 base ok v xs := V_map h (fun _ hf => F_below hf hb)
theorem V_drew (h : V d e W base ok v xs) : V d e W.drew base ok v xs := V_map h (fun _ hf => F_drew hf)
theorem V_after (h : V d e W base (fun k => ok k ∧ some k ≠ u.ownBlock) v xs) (hg : W.grownBy w1 u.ownBlock) (hat : v1.ownBlock = u.ownBlock ∨ ∃ b, v1.ownBlock = some b ∧ W.heap.size ≤ b) : V d e w1 base (fun k => ok k ∧ some k ≠ v1.ownBlock) v xs := V_map h (fun _ hf => F_after hf hg hat)
theorem V_afterv (h : V d e W base (fun k => ok k ∧ some k ≠ v.ownBlock) u xs) (hg : W.grownBy w1 v.ownBlock) (hat : v1.ownBlock = v.ownBlock ∨ ∃ b, v1.ownBlock = some b ∧ W.heap.size ≤ b) : V d e w1 base (fun k => ok k ∧ some k ≠ v1.ownBlock) u xs := V_after h hg hat
theorem V_apart_nil (h : V d e W base ok v xs) : V d e W base (fun k => ok k ∧ some k ≠ (Value.slice none 0 0).ownBlock) v xs := V_map h (fun _ hf => F_apart_nil hf)
theorem V_elderB (h : V d e W base ok v xs) (a : Nat) (ha : W.heap.size ≤ a) : V d e W base (fun k => ok k ∧ k ≠ a) v xs := V_map h (fun _ hf => F_elderB hf a ha)
theorem V_get (h : V d e W base ok (.slice (some ad) n c) xs) (z : α) (i : Int) (h0 : 0 ≤ i) (h1 : i < n) :
    ∃ cs, cs.length = d.sz ∧ FK d W ok (xs.getD i.toNat z) cs ∧ ∀ j u, cs[j]? = some u → W.cell? (ad.add (i.toNat * d.sz + j)) = some u := by
  obtain ⟨ad', cs, he, hcl, hK, hcc, _⟩ := F_get (V_F h) z i h0 h1
  injection he with he
  subst he
  exact ⟨cs, hcl, hK, hcc⟩
theorem F_take (h : F d W ok A xs.length xs) (hm : m ≤ xs.length) : F d W ok A (xs.take m).length (xs.take m) := F_imp h (fun _ hC => C_take hC hm)
theorem F_cut (h : F d W ok A xs.length xs) (hm : m ≤ xs.length) (hc : xs.length ≤ c) : F d W ok (if c = m then A else A.map (·.add (m * d.sz))) (xs.drop m).length (xs.drop m) := F_imp h (fun _ hC => C_drop hC hm hc)
theorem R_newM {M : Nat → Prop} (h : d.R e w1 W.heap.size ok v xs) (hle : w.heap.size ≤ W.heap.size) (hM : ∀ k, w.heap.size ≤ k → M k) : d.R e w1 W.heap.size (fun k => M k ∧ ok k) v xs := R_mono (R_bound h) (fun k hk => ⟨hM k (Nat.le_trans hle hk.2.1), hk.1⟩)
end
end Kd
end Go.Proofs.YtjemmmemenljbaaW.PrintWords
end
section
namespace Go.Proofs.YtjemmmemenljbaaW.PrintWords
open Go.RowKit Go.Proofs.YtjemmmemenljbaaW.PrintWords Go.Proofs.YtjemmmemenljbaaW.PrintLast Go.Proofs.YtjemmmemenljbaaW.PrintMore
theorem blkA {P Q : Prop} (h : Q) (t : Q → P := by intro h_; (with_reducible repeat (first | refine Go.Proofs.YtjemmmemenljbaaW.PrintWords.blk_drewN ?_ _ | refine Go.Proofs.YtjemmmemenljbaaW.PrintWords.blk_drew ?_ | refine Go.Proofs.YtjemmmemenljbaaW.PrintWords.blk_alloc ?_ _)); exact h_) : P := t h
theorem rowA {P Q : Prop} (h : Q) (t : Q → P := by intro h_; (with_reducible repeat (first | apply Go.Proofs.YtjemmmemenljbaaW.PrintWords.Kd.R_alloc | apply Go.Proofs.YtjemmmemenljbaaW.PrintWords.Kd.R_drewN | apply Go.Proofs.YtjemmmemenljbaaW.PrintWords.Kd.R_drew)); exact h_) : P := t h
theorem belA {P Q : Prop} (h : Q) (t : Q → P := by intro h_; repeat (first | (with_reducible first | exact h_ | apply Go.Proofs.YtjemmmemenljbaaW.PrintWords.below_alloc | apply Go.Proofs.YtjemmmemenljbaaW.PrintWords.pw_below_drewN | apply Go.Proofs.YtjemmmemenljbaaW.PrintWords.below_drew1) | exact h_)) : P := t h
theorem belB {P Q G : Prop} (h : Q) (g : G) (t : Q → G → P := by intro h_ g_; repeat (first | (with_reducible first | exact h_ | apply Go.Proofs.YtjemmmemenljbaaW.PrintWords.below_alloc | apply Go.Proofs.YtjemmmemenljbaaW.PrintWords.pw_below_drewN | apply Go.Proofs.YtjemmmemenljbaaW.PrintWords.below_drew1 | refine Go.Proofs.YtjemmmemenljbaaW.PrintWords.below_set ?_ g_) | exact h_)) : P := t h g
theorem belC {P Q G G' : Prop} (h : Q) (g : G) (g' : G') (t : Q → G → G' → P := by intro h_ g_ k_; repeat (first | (with_reducible first | exact h_ | apply Go.Proofs.YtjemmmemenljbaaW.PrintWords.below_alloc | apply Go.Proofs.YtjemmmemenljbaaW.PrintWords.pw_below_drewN | apply Go.Proofs.YtjemmmemenljbaaW.PrintWords.below_drew1 | refine Go.Proofs.YtjemmmemenljbaaW.PrintWords.below_set ?_ g_ | refine Go.Proofs.YtjemmmemenljbaaW.PrintWords.below_set ?_ k_) | exact h_)) : P := t h g g'
theorem belD {P Q G G' G'' : Prop} (h : Q) (g : G) (g' : G') (g'' : G'') (t : Q → G → G' → G'' → P := by intro h_ g_ k_ l_; repeat (first | (with_reducible first | exact h_ | apply Go.Proofs.YtjemmmemenljbaaW.PrintWords.below_alloc | apply Go.Proofs.YtjemmmemenljbaaW.PrintWords.pw_below_drewN | apply Go.Proofs.YtjemmmemenljbaaW.PrintWords.below_drew1 | refine Go.Proofs.YtjemmmemenljbaaW.PrintWords.below_set ?_ g_ | refine Go.Proofs.YtjemmmemenljbaaW.PrintWords.below_set ?_ k_ | refine Go.Proofs.YtjemmmemenljbaaW.PrintWords.below_set ?_ l_) | exact h_)) : P := t h g g' g''
theorem argA {P : Prop} (t : P := by (try simp only [List.map_toArray, List.map_cons, List.map_nil]); first | done | rfl | (simp only [List.length_drop, List.length_take]; rfl)) : P := t
theorem asmA {P : Prop} (t : P := by first | (with_reducible assumption) | assumption) : P := t
theorem relA {P : Prop} (t : P := by first | rfl | (simp; done) | (simp [*]; done)) : P := t
theorem valA {P Q : Prop} (h : Q) (t : Q → P := by intro h_; (with_reducible repeat (first | apply Go.Proofs.YtjemmmemenljbaaW.PrintWords.Kd.V_alloc | apply Go.Proofs.YtjemmmemenljbaaW.PrintWords.Kd.V_drewN | apply Go.Proofs.YtjemmmemenljbaaW.PrintWords.Kd.V_drew)); exact h_) : P := t h
theorem nilA {P Q : Prop} (h : Q) (t : Q → P := by intro h_; (with_reducible repeat (first | apply Go.Proofs.YtjemmmemenljbaaW.PrintWords.Kd.N_alloc | apply Go.Proofs.YtjemmmemenljbaaW.PrintWords.Kd.N_drewN | apply Go.Proofs.YtjemmmemenljbaaW.PrintWords.Kd.N_drew)); exact h_) : P := t h
theorem celA {P Q : Prop} (h : Q) (t : Q → P := by intro h_; repeat (first | (with_reducible exact h_) | (with_reducible refine Go.Proofs.YtjemmmemenljbaaW.PrintWords.Kd.C_alloc ?_ _) | (with_reducible refine Go.Proofs.YtjemmmemenljbaaW.PrintWords.Kd.C_drewN ?_ _) | (with_reducible refine Go.Proofs.YtjemmmemenljbaaW.PrintWords.Kd.C_drew ?_) | exact h_)) : P := t h
section
variable {P : Program} {ops : Array Oper} {Q : Exit → Act → World → Prop} {md : Region.Mode} {S : World → Prop} {ds : List Nat} {oi : Oper} {v : Value} {fuel : Nat} {l l' : Array Bool} {a a' : Act} {w : World} {T : Bool × List (List Nat × List Nat)} {B : List Nat}
theorem pureD (i n : Nat) (hT : Aside0 (rtab md ops = T)) (h : wpAnyLast P md ops Q S ds fuel l' a' w)
    (_hl : l.setIfInBounds i true = l' := by simp only [List.setIfInBounds_toArray, List.set_cons_zero, List.set_cons_succ]; rfl)
    (hi : ops[i]? = some oi := by exact rfl) (hN : oi.dst = some n := by exact rfl) (hc : anyT T l.toList l'.toList i = true := by kernel_rfl)
    (hQ : ∀ c a w, Q (.panic c) (a.put oi.dst v) w → Q (.panic c) a w := by exact fun _ _ _ h => h)
    (hy : Yields P ops oi v a := by exact Or.inl ⟨by rfl, by intro w'; go_simp; with_reducible rfl⟩)
    (ha : a.put (some n) v = a' := by simp only [Act.put, List.setIfInBounds_toArray, List.set_cons_zero, List.set_cons_succ, i64_w, i32_w]; rfl) : wpAnyLast P md ops Q S ds (fuel + 1) l a w := pure_ l' hi hN (any_of hT.out hc) hQ hy ha h
theorem pureU (i n : Nat) (hT : Aside0 (rtab md ops = T)) (h : wpAnyLast P md ops Q S ds fuel l' a' w)
    (_hl : l.setIfInBounds i true = l' := by simp only [List.setIfInBounds_toArray, List.set_cons_zero, List.set_cons_succ]; rfl)
    (hi : ops[i]? = some oi := by exact rfl) (hN : oi.dst = some n := by exact rfl) (hc : anyT T l.toList l'.toList i = true := by kernel_rfl)
    (hQ : ∀ c a w, Q (.panic c) (a.put oi.dst undef) w → Q (.panic c) a w := by exact fun _ _ _ h => h)
    (hy : Yields P ops oi undef a := by exact Or.inr ⟨by rfl, rfl⟩)
    (ha : a.put (some n) undef = a' := by simp only [Act.put, List.setIfInBounds_toArray, List.set_cons_zero, List.set_cons_succ, i64_w, i32_w]; rfl) : wpAnyLast P md ops Q S ds (fuel + 1) l a w := pure_ l' hi hN (any_of hT.out hc) hQ hy ha h
theorem takeD (i n : Nat) (hT : Aside0 (rtab md ops = T)) (hB : Aside0 (waitsOk T.2 B = true)) (hS : S w) (h : wpAnyLast P md ops Q S ds fuel l' a' w)
    (_hl : l.setIfInBounds i true = l' := by simp only [List.setIfInBounds_toArray, List.set_cons_zero, List.set_cons_succ]; rfl)
    (hi : ops[i]? = some oi := by exact rfl) (hN : oi.dst = some n := by exact rfl) (hc : takeW T B ds l.toList l'.toList i = true := by kernel_rfl)
    (hQ : ∀ c a w, Q (.panic c) (a.put oi.dst v) w → Q (.panic c) a w := by exact fun _ _ _ h => h)
    (hy : YieldsIf P ops S oi v a := by exact Or.inl ⟨by rfl, by intro w' s_; repeat (have t_ := And.left s_; replace s_ := And.right s_); go_simp; with_reducible rfl⟩)
    (ha : a.put (some n) v = a' := by simp only [Act.put, List.setIfInBounds_toArray, List.set_cons_zero, List.set_cons_succ, i64_w, i32_w]; rfl) : wpAnyLast P md ops Q S ds (fuel + 1) l a w := take_ l' hi hN (take_ofW hT.out hB.out hc) hQ hy hS ha h
end
theorem cc1 {P Q : Prop} (h : Q) (t : Q → P := by intro h_; repeat (first | exact h_ | (with_reducible refine Go.Proofs.YtjemmmemenljbaaW.PrintWords.Kd.C_alloc ?_ _) | (with_reducible refine Go.Proofs.YtjemmmemenljbaaW.PrintWords.Kd.C_drewN ?_ _) | (with_reducible refine Go.Proofs.YtjemmmemenljbaaW.PrintWords.Kd.C_drew ?_))) : P := t h
theorem cb1 {P Q R : Prop} (h : Aside0 Q) (g : Aside0 R) (t : Q → R → P := by intro h_ g_; repeat (first | exact (Go.Proofs.YtjemmmemenljbaaW.PrintWords.Kd.C_below h_ g_) | (with_reducible refine Go.Proofs.YtjemmmemenljbaaW.PrintWords.Kd.C_alloc ?_ _) | (with_reducible refine Go.Proofs.YtjemmmemenljbaaW.PrintWords.Kd.C_drewN ?_ _) | (with_reducible refine Go.Proofs.YtjemmmemenljbaaW.PrintWords.Kd.C_drew ?_))) : P := t h.out g.out
theorem drA {P : Prop} (t : P := by first | exact ⟨rfl, _, World.drewN_drewN _ _ _⟩ | exact ⟨rfl, _, Eq.trans (World.drewN_drewN _ _ _) (congrArg (World.drewN _) (Nat.add_assoc _ _ _))⟩) : P := t
theorem ret1 {P : Prop} (t : P := by first | rfl | (simp [errW_none, errW_some] <;> rfl) | (simp [*, errW_none, errW_some] <;> rfl) | (exfalso; simp_all; done)) : P := t
theorem blkB {Q : Prop} {w w1 : World} {g : Nat} {o : Obj} (h : Aside0 Q) (hb : Below w.heap.size w w1) (t : Q → w.heap[g]? = some o := by intro h_; (with_reducible repeat (first | refine Go.Proofs.YtjemmmemenljbaaW.PrintWords.blk_drewN ?_ _ | refine Go.Proofs.YtjemmmemenljbaaW.PrintWords.blk_drew ?_ | refine Go.Proofs.YtjemmmemenljbaaW.PrintWords.blk_alloc ?_ _)); exact h_) : Aside0 (w1.heap[g]? = some o) := ⟨blk_below (t h.out) hb⟩
theorem neL {Q : Prop} {w : World} {g g' : Nat} {o : Obj} (hg : g' = w.heap.size) (h : Aside0 Q) (t : Q → w.heap[g]? = some o := by intro h_; (with_reducible repeat (first | refine Go.Proofs.YtjemmmemenljbaaW.PrintWords.blk_drewN ?_ _ | refine Go.Proofs.YtjemmmemenljbaaW.PrintWords.blk_drew ?_ | refine Go.Proofs.YtjemmmemenljbaaW.PrintWords.blk_alloc ?_ _)); exact h_) : Aside0 (g ≠ g') := ⟨hg ▸ Nat.ne_of_lt (blk_lt (t h.out))⟩
theorem neR {Q : Prop} {w : World} {g g' : Nat} {o : Obj} (hg : g' = w.heap.size) (h : Aside0 Q) (t : Q → w.heap[g]? = some o := by intro h_; (with_reducible repeat (first | refine Go.Proofs.YtjemmmemenljbaaW.PrintWords.blk_drewN ?_ _ | refine Go.Proofs.YtjemmmemenljbaaW.PrintWords.blk_drew ?_ | refine Go.Proofs.YtjemmmemenljbaaW.PrintWords.blk_alloc ?_ _)); exact h_) : Aside0 (g' ≠ g) := ⟨hg ▸ Nat.ne_of_gt (blk_lt (t h.out))⟩
theorem frB {Q : Prop} {w : World} {g : Nat} {o : Obj} (h : Aside0 Q) (k : Nat) (hk : w.heap.size ≤ k) (t : Q → w.heap[g]? = some o := by intro h_; (with_reducible repeat (first | refine Go.Proofs.YtjemmmemenljbaaW.PrintWords.blk_drewN ?_ _ | refine Go.Proofs.YtjemmmemenljbaaW.PrintWords.blk_drew ?_ | refine Go.Proofs.YtjemmmemenljbaaW.PrintWords.blk_alloc ?_ _)); exact h_) : k ≠ g := Kd.freshB (t h.out) k hk
theorem grB {Q : Prop} {w w1 : World} {row : Option Nat} {g : Nat} {o : Obj} (h : Aside0 Q) (hg : w.grownBy w1 row) (t : Q → w.heap[g]? = some o := by intro h_; (with_reducible repeat (first | refine Go.Proofs.YtjemmmemenljbaaW.PrintWords.blk_drewN ?_ _ | refine Go.Proofs.YtjemmmemenljbaaW.PrintWords.blk_drew ?_ | refine Go.Proofs.YtjemmmemenljbaaW.PrintWords.blk_alloc ?_ _)); exact h_) (hne : some g ≠ row) : Aside0 (w1.heap[g]? = some o) := ⟨blk_grown (t h.out) hg hne⟩
theorem bnA {α β : Type} {x : Option α} {f : α → Option β} {b : β} (H : x.bind f = some b) : ∃ a, Aside0 (x = some a) ∧ f a = some b := by
  obtain ⟨a, h, k⟩ := Option.bind_eq_some_iff.mp H
  exact ⟨a, ⟨h⟩, k⟩
theorem blk_eq {w : World} {g : Nat} {t : TypeId} {cs cs' : Array Value} (h : w.heap[g]? = some (.cells cs t (0, 0))) (e : cs = cs') : w.heap[g]? = some (.cells cs' t (0, 0)) := e ▸ h
theorem blkFar {w : World} {g g' : Nat} {t : TypeId} {cs : Array Value} {i : Nat} {u : Value} (hp : g ≠ g') (h : w.heap[g]? = some (.cells cs t (0, 0))) : (w.setCell ⟨g', i, none⟩ u).heap[g]? = some (.cells cs t (0, 0)) := blk_far h hp u
theorem putA {P Q : Prop} (h : Q) (t : Q → P := by intro h_; apply Go.Proofs.YtjemmmemenljbaaW.PrintWords.blk_eq; (case h => repeat (first | (with_reducible first | exact h_ | apply Go.Proofs.YtjemmmemenljbaaW.PrintWords.blk_drewN | apply Go.Proofs.YtjemmmemenljbaaW.PrintWords.blk_drew | apply Go.Proofs.YtjemmmemenljbaaW.PrintWords.blk_alloc | apply Go.Proofs.YtjemmmemenljbaaW.PrintWords.blk_set))); (case e => rfl)) : P := t h
theorem putB {P Q : Prop} {F0 : Prop} (h : Q) (n0 : F0) (t : Q → F0 → P := by intro h_ n0_; apply Go.Proofs.YtjemmmemenljbaaW.PrintWords.blk_eq; (case h => repeat (first | (with_reducible first | exact h_ | apply Go.Proofs.YtjemmmemenljbaaW.PrintWords.blk_drewN | apply Go.Proofs.YtjemmmemenljbaaW.PrintWords.blk_drew | apply Go.Proofs.YtjemmmemenljbaaW.PrintWords.blk_alloc | apply Go.Proofs.YtjemmmemenljbaaW.PrintWords.blk_set) | apply Go.Proofs.YtjemmmemenljbaaW.PrintWords.blkFar n0_)); (case e => rfl)) : P := t h n0
theorem nmA {P Q R : Prop} (hy : R) (H : Q) (t : R → Q → P := by intro hy_ H_; first | (rw [hy_]; with_reducible exact H_) | (have H2_ := (Option.bind_some _ _).symm.trans H_; rw [hy_]; with_reducible exact H2_) | (have H2_ := (Option.bind_some _ _).symm.trans H_; with_reducible exact H2_) | with_reducible exact H_ | (rw [hy_]; exact H_) | exact H_) : P := t hy H
theorem bs2 {Q G : Prop} {w W w2 : World} (h : Aside0 Q) (g : Aside0 G) (k : Below W.heap.size W w2) (t : Q → G → Below w.heap.size w W := by intro h_ g_; repeat (first | (with_reducible first | exact h_ | apply Go.Proofs.YtjemmmemenljbaaW.PrintWords.below_alloc | apply Go.Proofs.YtjemmmemenljbaaW.PrintWords.pw_below_drewN | apply Go.Proofs.YtjemmmemenljbaaW.PrintWords.below_drew1 | refine Go.Proofs.YtjemmmemenljbaaW.PrintWords.below_set ?_ g_) | exact h_)) : Aside0 (Below w.heap.size w w2) := ⟨below_step (t h.out g.out) k⟩
theorem bs3 {Q G G' : Prop} {w W w2 : World} (h : Aside0 Q) (g : Aside0 G) (g' : Aside0 G') (k : Below W.heap.size W w2) (t : Q → G → G' → Below w.heap.size w W := by intro h_ g_ k_; repeat (first | (with_reducible first | exact h_ | apply Go.Proofs.YtjemmmemenljbaaW.PrintWords.below_alloc | apply Go.Proofs.YtjemmmemenljbaaW.PrintWords.pw_below_drewN | apply Go.Proofs.YtjemmmemenljbaaW.PrintWords.below_drew1 | refine Go.Proofs.YtjemmmemenljbaaW.PrintWords.below_set ?_ g_ | refine Go.Proofs.YtjemmmemenljbaaW.PrintWords.below_set ?_ k_) | exact h_)) : Aside0 (Below w.heap.size w w2) := ⟨below_step (t h.out g.out g'.out) k⟩
theorem ifN {α : Type} {p : Prop} {_d : Decidable p} {A : Option α} {r : α} (H : (if p then A else none) = some r) : p ∧ A = some r := by
  by_cases h : p
  · rw [if_pos h] at H; exact ⟨h, H⟩
  · rw [if_neg h] at H; cases H
theorem cbx {w w1 : World} {p : Addr} {v : Value} (HB : Aside0 (Below w.heap.size w w1)) (h : w.cell? p = some v) : w1.cell? p = some v := (HB.out.cell (World.block_lt_of_cell? w _ h)).trans h
theorem ge1 {w W : World} {g : Nat} (hg : g = W.heap.size) (h : Below w.heap.size w W) : Aside0 (w.heap.size ≤ g) := ⟨hg ▸ below_size h⟩
theorem bst {Q : Prop} {w W w2 : World} (h : Aside0 Q) (k : Below W.heap.size W w2) (t : Q → Below w.heap.size w W := by intro h_; repeat (first | (with_reducible first | exact h_ | apply Go.Proofs.YtjemmmemenljbaaW.PrintWords.below_alloc | apply Go.Proofs.YtjemmmemenljbaaW.PrintWords.pw_below_drewN | apply Go.Proofs.YtjemmmemenljbaaW.PrintWords.below_drew1) | exact h_)) : Aside0 (Below w.heap.size w w2) := ⟨below_step (t h.out) k⟩
section
variable {P : Program} {ops : Array Oper} {o : Oper} {rest : List Oper} {a : Act} {W : World} {Q : Exit → Act → World → Prop}
theorem boxA (N : Tmp) (cs : Array Value) (t : TypeId) (h : ∀ g, g = W.heap.size → ∀ w1, w1.heap[g]? = some (.cells cs t (0, 0)) → Below W.heap.size W w1 → wpList P ops Q rest (a.put o.dst (.pointer (some ⟨g, 0, none⟩))) w1)
    (hgd : o.guard = none := by rfl) (hd : o.dst = some N := by rfl) (hr : (execOp a.eval o).run P W = .ok (.value (.pointer (some ⟨W.heap.size, 0, none⟩))) (W.alloc (.cells cs t (0, 0))) := by first | (go_simp; done) | (go_simp; rfl)) : wpList P ops Q (o :: rest) a W := box_event hgd hd hr h
end
theorem blk2 {w : World} {g : Nat} {t : TypeId} {v0 v1 : Value} (h : Aside0 (w.heap[g]? = some (.cells #[v0, v1] t (0, 0)))) : w.cell? ⟨g, 0, none⟩ = some v0 ∧ w.cell? ⟨g, 1, none⟩ = some v1 ∧ w.frozen? ⟨g, 0, none⟩ = false ∧ w.frozen? ⟨g, 1, none⟩ = false := ⟨(blk_cell h.out 0).trans rfl, (blk_cell h.out 1).trans rfl, blk_frozen h.out 0, blk_frozen h.out 1⟩
theorem blk3 {w : World} {g : Nat} {t : TypeId} {v0 v1 v2 : Value} (h : Aside0 (w.heap[g]? = some (.cells #[v0, v1, v2] t (0, 0)))) : w.cell? ⟨g, 0, none⟩ = some v0 ∧ w.cell? ⟨g, 1, none⟩ = some v1 ∧ w.cell? ⟨g, 2, none⟩ = some v2 ∧ w.frozen? ⟨g, 0, none⟩ = false ∧ w.frozen? ⟨g, 1, none⟩ = false ∧ w.frozen? ⟨g, 2, none⟩ = false := ⟨(blk_cell h.out 0).trans rfl, (blk_cell h.out 1).trans rfl, (blk_cell h.out 2).trans rfl, blk_frozen h.out 0, blk_frozen h.out 1, blk_frozen h.out 2⟩
theorem blk6 {w : World} {g : Nat} {t : TypeId} {v0 v1 v2 v3 v4 v5 : Value} (h : Aside0 (w.heap[g]? = some (.cells #[v0, v1, v2, v3, v4, v5] t (0, 0)))) : w.cell? ⟨g, 0, none⟩ = some v0 ∧ w.cell? ⟨g, 1, none⟩ = some v1 ∧ w.cell? ⟨g, 2, none⟩ = some v2 ∧ w.cell? ⟨g, 3, none⟩ = some v3 ∧ w.cell? ⟨g, 4, none⟩ = some v4 ∧ w.cell? ⟨g, 5, none⟩ = some v5 ∧ w.frozen? ⟨g, 0, none⟩ = false ∧ w.frozen? ⟨g, 1, none⟩ = false ∧ w.frozen? ⟨g, 2, none⟩ = false ∧ w.frozen? ⟨g, 3, none⟩ = false ∧ w.frozen? ⟨g, 4, none⟩ = false ∧ w.frozen? ⟨g, 5, none⟩ = false := ⟨(blk_cell h.out 0).trans rfl, (blk_cell h.out 1).trans rfl, (blk_cell h.out 2).trans rfl, (blk_cell h.out 3).trans rfl, (blk_cell h.out 4).trans rfl, (blk_cell h.out 5).trans rfl, blk_frozen h.out 0, blk_frozen h.out 1, blk_frozen h.out 2, blk_frozen h.out 3, blk_frozen h.out 4, blk_frozen h.out 5⟩
theorem blk7 {w : World} {g : Nat} {t : TypeId} {v0 v1 v2 v3 v4 v5 v6 : Value} (h : Aside0 (w.heap[g]? = some (.cells #[v0, v1, v2, v3, v4, v5, v6] t (0, 0)))) : w.cell? ⟨g, 0, none⟩ = some v0 ∧ w.cell? ⟨g, 1, none⟩ = some v1 ∧ w.cell? ⟨g, 2, none⟩ = some v2 ∧ w.cell? ⟨g, 3, none⟩ = some v3 ∧ w.cell? ⟨g, 4, none⟩ = some v4 ∧ w.cell? ⟨g, 5, none⟩ = some v5 ∧ w.cell? ⟨g, 6, none⟩ = some v6 ∧ w.frozen? ⟨g, 0, none⟩ = false ∧ w.frozen? ⟨g, 1, none⟩ = false ∧ w.frozen? ⟨g, 2, none⟩ = false ∧ w.frozen? ⟨g, 3, none⟩ = false ∧ w.frozen? ⟨g, 4, none⟩ = false ∧ w.frozen? ⟨g, 5, none⟩ = false ∧ w.frozen? ⟨g, 6, none⟩ = false := ⟨(blk_cell h.out 0).trans rfl, (blk_cell h.out 1).trans rfl, (blk_cell h.out 2).trans rfl, (blk_cell h.out 3).trans rfl, (blk_cell h.out 4).trans rfl, (blk_cell h.out 5).trans rfl, (blk_cell h.out 6).trans rfl, blk_frozen h.out 0, blk_frozen h.out 1, blk_frozen h.out 2, blk_frozen h.out 3, blk_frozen h.out 4, blk_frozen h.out 5, blk_frozen h.out 6⟩
end Go.Proofs.YtjemmmemenljbaaW.PrintWords
end
