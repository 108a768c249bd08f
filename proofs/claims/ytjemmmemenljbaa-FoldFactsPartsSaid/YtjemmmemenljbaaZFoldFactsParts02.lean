import Derived.Test.YtjemmmemenljbaaZFoldFactsParts01
import Derived.Laws.StructEq
section
namespace Go.Proofs.YtjemmmemenljbaaW.PrintWords
open Go.RowKit
section
variable {P : Program} {d : Nat} {xs ys : Array Value} {f : Field} {fs : List Field} {a b : Value} {r s : Bool} {w : World}
theorem eqf_last (hn : (f.name == "_") = false) (ha : (part f.type xs f.offset).run P w = .ok a w) (hb : (part f.type ys f.offset).run P w = .ok b w) (he : (Op.equalIn d f.type a b).run P w = .ok r w) : (Op.eqFields d xs ys [f]).run P w = .ok r w := by
  have hn' : f.name ≠ "_" := by simpa using hn
  simp only [Op.eqFields, if_pos hn', Sem.run_bind, ha, hb, he, Result.andThen_ok]
  cases r <;> simp
theorem eqf_cons (hn : (f.name == "_") = false) (ha : (part f.type xs f.offset).run P w = .ok a w) (hb : (part f.type ys f.offset).run P w = .ok b w) (he : (Op.equalIn d f.type a b).run P w = .ok r w) (hr : (Op.eqFields d xs ys fs).run P w = .ok s w) : (Op.eqFields d xs ys (f :: fs)).run P w = .ok (r && s) w := by
  have hn' : f.name ≠ "_" := by simpa using hn
  rw [Op.eqFields]
  simp only [if_pos hn', Sem.run_bind, ha, hb, he, Result.andThen_ok]
  cases r
  · simp
  · simpa using hr
theorem eqA_of {t : TypeId} {fs : Array Field} (hu : P.underlying t = some (.struct fs)) (hp : P.stoodInHeld t = false) (h : (Op.eqFields d xs ys fs.toList).run P w = .ok r w) : (Op.equalIn (d + 1) t (.agg xs) (.agg ys)).run P w = .ok r w := by
  have hf : P.fieldsOf t = fs := by simp [Program.fieldsOf, hu]
  rw [run_equalIn_struct (P := P) w d t xs ys (by rw [hf]; exact hu) hp, hf]
  exact h
end
end Go.Proofs.YtjemmmemenljbaaW.PrintWords
end
section
namespace Go.Proofs.YtjemmmemenljbaaW.PrintWords
theorem Reps.one {α : Type} {R : α → List Value → Prop} {ps : List α} {cs : List Value} {p : α} {v : Value} (hp : R p [v]) (h : Reps R 1 ps cs) : Reps R 1 (p :: ps) (v :: cs) := by
  refine ⟨by simp [h.1], fun j q hq => ?_⟩
  cases j with
  | zero =>
    simp only [List.getElem?_cons_zero, Option.some.injEq] at hq
    subst hq
    simpa using hp
  | succ j =>
    simp only [List.getElem?_cons_succ] at hq
    have h1 := h.2 j q hq
    simpa [Nat.mul_one] using h1
theorem Reps.front {α : Type} {R : α → List Value → Prop} {size : Nat} {ps : List α} {cs c all : List Value} {p : α} (hp : R p c) (hc : c.length = size) (h : Reps R size ps cs) (ha : c ++ cs = all) : Reps R size (p :: ps) all := by
  subst ha
  refine ⟨by rw [List.length_append, hc, h.1, List.length_cons, Nat.succ_mul, Nat.add_comm], fun j q hq => ?_⟩
  cases j with
  | zero =>
    simp only [List.getElem?_cons_zero, Option.some.injEq] at hq
    subst hq
    rw [Nat.zero_mul, List.drop_zero, List.take_append_of_le_length (by omega), List.take_of_length_le (by omega)]
    exact hp
  | succ j =>
    simp only [List.getElem?_cons_succ] at hq
    have h1 := h.2 j q hq
    rw [Nat.succ_mul, List.drop_append, List.drop_of_length_le (by rw [hc]; exact Nat.le_add_left _ _), List.nil_append, hc, Nat.add_sub_cancel]
    exact h1
theorem Reps.c2 {α : Type} {R : α → List Value → Prop} {ps : List α} {cs : List Value} {p : α} {va vb : Value} (hp : R p [va, vb]) (h : Reps R 2 ps cs) : Reps R 2 (p :: ps) (va :: vb :: cs) := Reps.front hp rfl h rfl
theorem Reps.c3 {α : Type} {R : α → List Value → Prop} {ps : List α} {cs : List Value} {p : α} {va vb vc : Value} (hp : R p [va, vb, vc]) (h : Reps R 3 ps cs) : Reps R 3 (p :: ps) (va :: vb :: vc :: cs) := Reps.front hp rfl h rfl
theorem Reps.c4 {α : Type} {R : α → List Value → Prop} {ps : List α} {cs : List Value} {p : α} {va vb vc vd : Value} (hp : R p [va, vb, vc, vd]) (h : Reps R 4 ps cs) : Reps R 4 (p :: ps) (va :: vb :: vc :: vd :: cs) := Reps.front hp rfl h rfl
theorem Reps.c5 {α : Type} {R : α → List Value → Prop} {ps : List α} {cs : List Value} {p : α} {va vb vc vd ve : Value} (hp : R p [va, vb, vc, vd, ve]) (h : Reps R 5 ps cs) : Reps R 5 (p :: ps) (va :: vb :: vc :: vd :: ve :: cs) := Reps.front hp rfl h rfl
theorem Reps.c6 {α : Type} {R : α → List Value → Prop} {ps : List α} {cs : List Value} {p : α} {va vb vc vd ve vf : Value} (hp : R p [va, vb, vc, vd, ve, vf]) (h : Reps R 6 ps cs) : Reps R 6 (p :: ps) (va :: vb :: vc :: vd :: ve :: vf :: cs) := Reps.front hp rfl h rfl
theorem Reps.c7 {α : Type} {R : α → List Value → Prop} {ps : List α} {cs : List Value} {p : α} {va vb vc vd ve vf vg : Value} (hp : R p [va, vb, vc, vd, ve, vf, vg]) (h : Reps R 7 ps cs) : Reps R 7 (p :: ps) (va :: vb :: vc :: vd :: ve :: vf :: vg :: cs) := Reps.front hp rfl h rfl
theorem Reps.c8 {α : Type} {R : α → List Value → Prop} {ps : List α} {cs : List Value} {p : α} {va vb vc vd ve vf vg vh : Value} (hp : R p [va, vb, vc, vd, ve, vf, vg, vh]) (h : Reps R 8 ps cs) : Reps R 8 (p :: ps) (va :: vb :: vc :: vd :: ve :: vf :: vg :: vh :: cs) := Reps.front hp rfl h rfl
theorem Reps.c9 {α : Type} {R : α → List Value → Prop} {ps : List α} {cs : List Value} {p : α} {va vb vc vd ve vf vg vh vi : Value} (hp : R p [va, vb, vc, vd, ve, vf, vg, vh, vi]) (h : Reps R 9 ps cs) : Reps R 9 (p :: ps) (va :: vb :: vc :: vd :: ve :: vf :: vg :: vh :: vi :: cs) := Reps.front hp rfl h rfl
theorem Reps.c10 {α : Type} {R : α → List Value → Prop} {ps : List α} {cs : List Value} {p : α} {va vb vc vd ve vf vg vh vi vj : Value} (hp : R p [va, vb, vc, vd, ve, vf, vg, vh, vi, vj]) (h : Reps R 10 ps cs) : Reps R 10 (p :: ps) (va :: vb :: vc :: vd :: ve :: vf :: vg :: vh :: vi :: vj :: cs) := Reps.front hp rfl h rfl
end Go.Proofs.YtjemmmemenljbaaW.PrintWords
end
section
namespace Go.Proofs.YtjemmmemenljbaaW.PrintLast
def up (b : Nat → Bool) (i : Nat) : Nat → Bool := fun j => if j = i then true else b j
section
variable {P : Program} {ops : Array Oper} {Q : Exit → Act → World → Prop} {md : Region.Mode} {T : Bool × List (List Nat × List Nat)} {B : List Nat} {O : List Nat} {b : Nat → Bool} {i j n : Nat}
end
end Go.Proofs.YtjemmmemenljbaaW.PrintLast
end
section
namespace Go.Proofs.YtjemmmemenljbaaW.PrintWords
open Go.RowKit
section
variable {P : Program} {ops : Array Oper} {rest : List Oper} {o : Oper} {a : Act} {Q : Exit → Act → World → Prop} {W : World}
theorem gate_guard (hw : Region.wanted o (yielded ops a.tmps) = true) (h : wpList P ops Q ({ o with guard := none } :: rest) a W) : wpList P ops Q (o :: rest) a W := by
  have h1 : Region.wanted { o with guard := none } (yielded ops a.tmps) = true := rfl
  unfold wpList at h ⊢
  rw [if_pos h1] at h
  rw [if_pos hw]
  exact h
end
end Go.Proofs.YtjemmmemenljbaaW.PrintWords
end
section
namespace Go.Proofs.YtjemmmemenljbaaW.PrintMore
open Go.RowKit Go.Proofs.YtjemmmemenljbaaW.PrintWords
namespace Kd
open Go.Proofs.YtjemmmemenljbaaW.PrintWords.Kd
end Kd
namespace Kd
open Go.Proofs.YtjemmmemenljbaaW.PrintWords.Kd
section
variable {α : Type} {d : Kd α} {e base g N : Nat} {ok : Nat → Prop} {W w1 : World} {u v : Value} {xs : List α}
end
end Kd
theorem max2_int (k k' : IntKind) (x y : Int) : Builtin.max2 (.int k x) (.int k' y) = pure (.int k (if x < y then y else x)) := by simp only [Builtin.max2, gt_iff_lt]
theorem min2_int (k k' : IntKind) (x y : Int) : Builtin.min2 (.int k x) (.int k' y) = pure (.int k (if y < x then y else x)) := by simp only [Builtin.min2]
theorem max_two (ats : Array TypeId) (ty : TypeId) (a b : Value) : Builtin.max_ ats ty #[a, b] = (Builtin.max2 a b >>= fun s => pure s) := by simp only [Builtin.max_, List.foldlM_cons, List.foldlM_nil]
theorem min_two (ats : Array TypeId) (ty : TypeId) (a b : Value) : Builtin.min_ ats ty #[a, b] = (Builtin.min2 a b >>= fun s => pure s) := by simp only [Builtin.min_, List.foldlM_cons, List.foldlM_nil]
theorem max_three (ats : Array TypeId) (ty : TypeId) (a b c : Value) : Builtin.max_ ats ty #[a, b, c] = (Builtin.max2 a b >>= fun s => Builtin.max2 s c >>= fun s => pure s) := by simp only [Builtin.max_, List.foldlM_cons, List.foldlM_nil]
theorem min_three (ats : Array TypeId) (ty : TypeId) (a b c : Value) : Builtin.min_ ats ty #[a, b, c] = (Builtin.min2 a b >>= fun s => Builtin.min2 s c >>= fun s => pure s) := by simp only [Builtin.min_, List.foldlM_cons, List.foldlM_nil]
theorem max_four (ats : Array TypeId) (ty : TypeId) (a b c d : Value) : Builtin.max_ ats ty #[a, b, c, d] = (Builtin.max2 a b >>= fun s => Builtin.max2 s c >>= fun s => Builtin.max2 s d >>= fun s => pure s) := by simp only [Builtin.max_, List.foldlM_cons, List.foldlM_nil]
theorem min_four (ats : Array TypeId) (ty : TypeId) (a b c d : Value) : Builtin.min_ ats ty #[a, b, c, d] = (Builtin.min2 a b >>= fun s => Builtin.min2 s c >>= fun s => Builtin.min2 s d >>= fun s => pure s) := by simp only [Builtin.min_, List.foldlM_cons, List.foldlM_nil]
end Go.Proofs.YtjemmmemenljbaaW.PrintMore
namespace Go.Proofs.YtjemmmemenljbaaW.PrintWords
open Go.RowKit
section
variable {P : Program} {ops : Array Oper} {rest : List Oper} {o : Oper} {a : Act} {Q : Exit → Act → World → Prop} {W : World}
theorem gate_callee {f : FuncId} {as : Array Operand} {ts : Array TypeId} (_ho : o.op = .call { callee := .value (.func f), args := as, argTypes := ts }) (h : wpList P ops Q (o :: rest) a W) : wpList P ops Q (o :: rest) a W := h
theorem gate_builtin {b : Builtin} {xs : Array Operand} {ts : Array TypeId} (_ho : o.op = .call { callee := .builtin b, args := xs, argTypes := ts }) (h : wpList P ops Q (o :: rest) a W) : wpList P ops Q (o :: rest) a W := h
end
def mx (a b : Int) : Int := if a < b then b else a
def shr (k : IntKind) (x y : Int) : Int := x / 2 ^ min y.toNat k.bits
theorem shr_small {k : IntKind} {x y j : Int} (h : shr k x y = j) (hy : y ≤ k.bits) : x / 2 ^ y.toNat = j := by rw [← h]; unfold shr; rw [Nat.min_eq_left (by omega)]
theorem drewN_self (w : World) (n : Nat) : w.drewN n = w.drewN n := rfl
namespace Kd
section
variable {α : Type} {d : Kd α} {e base : Nat} {ok : Nat → Prop} {W w1 : World} {v : Value} {xs : List α}
end
section
variable {α : Type} {d : Kd α} {e base g n cap : Nat} {ok oki okp : Nat → Prop} {W : World} {xs : List α} {i : Int} {c : List Value}
end
section
variable {α : Type} {d : Kd α} {e base b b' g N : Nat} {ok ok1 : Nat → Prop} {W W2 w1 : World} {u v : Value} {xs ys : List α} {S : Nat → Prop}
end
end Kd
end Go.Proofs.YtjemmmemenljbaaW.PrintWords
namespace Go.Proofs.YtjemmmemenljbaaW.PrintWords
open Go.RowKit
namespace Kd
def V {α : Type} (d : Kd α) (_e : Nat) (W : World) (_base : Nat) (ok : Nat → Prop) (v : Value) (xs : List α) : Prop := ∃ A c, v = .slice A xs.length c ∧ xs.length ≤ c ∧ F d W ok A xs.length xs
section
variable {α β : Type} {d : Kd α} {e base base' n m c g N' lo hi : Nat} {ok ok' S : Nat → Prop} {w W w1 : World} {A : Option Addr} {ad : Addr} {u v v1 : Value} {xs : List α}
theorem V_nil (d : Kd α) (e : Nat) (W : World) (base : Nat) (ok : Nat → Prop) : V d e W base ok (.slice none 0 0) [] := ⟨none, 0, rfl, Nat.le_refl _, F_nil d W ok⟩
end
end Kd
end Go.Proofs.YtjemmmemenljbaaW.PrintWords
end
section
namespace Go.Proofs.YtjemmmemenljbaaW.PrintWords
open Go.RowKit Go.Proofs.YtjemmmemenljbaaW.PrintWords Go.Proofs.YtjemmmemenljbaaW.PrintLast Go.Proofs.YtjemmmemenljbaaW.PrintMore
theorem blkA {P Q : Prop} (h : Q) (t : Q → P := by intro h_; (with_reducible repeat (first | refine Go.Proofs.YtjemmmemenljbaaW.PrintWords.blk_drewN ?_ _ | refine Go.Proofs.YtjemmmemenljbaaW.PrintWords.blk_drew ?_ | refine Go.Proofs.YtjemmmemenljbaaW.PrintWords.blk_alloc ?_ _)); exact h_) : P := t h
theorem rowA {P Q : Prop} (h : Q) (t : Q → P := by intro h_; (with_reducible repeat (first | apply Go.Proofs.YtjemmmemenljbaaW.PrintWords.Kd.R_alloc | apply Go.Proofs.YtjemmmemenljbaaW.PrintWords.Kd.R_drewN | apply Go.Proofs.YtjemmmemenljbaaW.PrintWords.Kd.R_drew)); exact h_) : P := t h
theorem belA {P Q : Prop} (h : Q) (t : Q → P := by intro h_; repeat (first | (with_reducible first | exact h_ | apply Go.Proofs.YtjemmmemenljbaaW.PrintWords.below_alloc | apply Go.Proofs.YtjemmmemenljbaaW.PrintWords.pw_below_drewN | apply Go.Proofs.YtjemmmemenljbaaW.PrintWords.below_drew1) | exact h_)) : P := t h
theorem belB {P Q G : Prop} (h : Q) (g : G) (t : Q → G → P := by intro h_ g_; repeat (first | (with_reducible first | exact h_ | apply Go.Proofs.YtjemmmemenljbaaW.PrintWords.below_alloc | apply Go.Proofs.YtjemmmemenljbaaW.PrintWords.pw_below_drewN | apply Go.Proofs.YtjemmmemenljbaaW.PrintWords.below_drew1 | refine Go.Proofs.YtjemmmemenljbaaW.PrintWords.below_set ?_ g_) | exact h_)) : P := t h g
theorem belC {P Q G G' : Prop} (h : Q) (g : G) (g' : G') (t : Q → G → G' → P := by intro h_ g_ k_; repeat (first | (with_reducible first | exact h_ | apply Go.Proofs.YtjemmmemenljbaaW.PrintWords.below_alloc | apply Go.Proofs.YtjemmmemenljbaaW.PrintWords.pw_below_drewN | apply Go.Proofs.YtjemmmemenljbaaW.PrintWords.below_drew1 | refine Go.Proofs.YtjemmmemenljbaaW.PrintWords.below_set ?_ g_ | refine Go.Proofs.YtjemmmemenljbaaW.PrintWords.below_set ?_ k_) | exact h_)) : P := t h g g'
theorem argA {P : Prop} (t : P := by (try simp only [List.map_toArray, List.map_cons, List.map_nil]); first | done | rfl | (simp only [List.length_drop, List.length_take]; rfl)) : P := t
theorem asmA {P : Prop} (t : P := by first | (with_reducible assumption) | assumption) : P := t
theorem relA {P : Prop} (t : P := by first | rfl | (simp; done) | (simp [*]; done)) : P := t
section
variable {P : Program} {ops : Array Oper} {Q : Exit → Act → World → Prop} {md : Region.Mode} {S : World → Prop} {ds : List Nat} {oi : Oper} {v : Value} {fuel : Nat} {l l' : Array Bool} {a a' : Act} {w : World} {T : Bool × List (List Nat × List Nat)} {B : List Nat}
theorem pureD (i n : Nat) (hT : Aside0 (rtab md ops = T)) (h : wpAnyLast P md ops Q S ds fuel l' a' w)
    (_hl : l.setIfInBounds i true = l' := by simp only [List.setIfInBounds_toArray, List.set_cons_zero, List.set_cons_succ]; rfl)
    (hi : ops[i]? = some oi := by exact rfl) (hN : oi.dst = some n := by exact rfl) (hc : anyT T l.toList l'.toList i = true := by kernel_rfl)
    (hQ : ∀ c a w, Q (.panic c) (a.put oi.dst v) w → Q (.panic c) a w := by exact fun _ _ _ h => h)
    (hy : Yields P ops oi v a := by exact Or.inl ⟨by rfl, by intro w'; go_simp; with_reducible rfl⟩)
    (ha : a.put (some n) v = a' := by simp only [Act.put, List.setIfInBounds_toArray, List.set_cons_zero, List.set_cons_succ, i64_w, i32_w]; rfl) : wpAnyLast P md ops Q S ds (fuel + 1) l a w := pure_ l' hi hN (any_of hT.out hc) hQ hy ha h
theorem takeD (i n : Nat) (hT : Aside0 (rtab md ops = T)) (hB : Aside0 (waitsOk T.2 B = true)) (hS : S w) (h : wpAnyLast P md ops Q S ds fuel l' a' w)
    (_hl : l.setIfInBounds i true = l' := by simp only [List.setIfInBounds_toArray, List.set_cons_zero, List.set_cons_succ]; rfl)
    (hi : ops[i]? = some oi := by exact rfl) (hN : oi.dst = some n := by exact rfl) (hc : takeW T B ds l.toList l'.toList i = true := by kernel_rfl)
    (hQ : ∀ c a w, Q (.panic c) (a.put oi.dst v) w → Q (.panic c) a w := by exact fun _ _ _ h => h)
    (hy : YieldsIf P ops S oi v a := by exact Or.inl ⟨by rfl, by intro w' s_; repeat (have t_ := And.left s_; replace s_ := And.right s_); go_simp; with_reducible rfl⟩)
    (ha : a.put (some n) v = a' := by simp only [Act.put, List.setIfInBounds_toArray, List.set_cons_zero, List.set_cons_succ, i64_w, i32_w]; rfl) : wpAnyLast P md ops Q S ds (fuel + 1) l a w := take_ l' hi hN (take_ofW hT.out hB.out hc) hQ hy hS ha h
end
theorem cb1 {P Q R : Prop} (h : Aside0 Q) (g : Aside0 R) (t : Q → R → P := by intro h_ g_; repeat (first | exact (Go.Proofs.YtjemmmemenljbaaW.PrintWords.Kd.C_below h_ g_) | (with_reducible refine Go.Proofs.YtjemmmemenljbaaW.PrintWords.Kd.C_alloc ?_ _) | (with_reducible refine Go.Proofs.YtjemmmemenljbaaW.PrintWords.Kd.C_drewN ?_ _) | (with_reducible refine Go.Proofs.YtjemmmemenljbaaW.PrintWords.Kd.C_drew ?_))) : P := t h.out g.out
theorem drA {P : Prop} (t : P := by first | exact ⟨rfl, _, World.drewN_drewN _ _ _⟩ | exact ⟨rfl, _, Eq.trans (World.drewN_drewN _ _ _) (congrArg (World.drewN _) (Nat.add_assoc _ _ _))⟩) : P := t
theorem ret1 {P : Prop} (t : P := by first | rfl | (simp [errW_none, errW_some] <;> rfl) | (simp [*, errW_none, errW_some] <;> rfl) | (exfalso; simp_all; done)) : P := t
theorem blkB {Q : Prop} {w w1 : World} {g : Nat} {o : Obj} (h : Aside0 Q) (hb : Below w.heap.size w w1) (t : Q → w.heap[g]? = some o := by intro h_; (with_reducible repeat (first | refine Go.Proofs.YtjemmmemenljbaaW.PrintWords.blk_drewN ?_ _ | refine Go.Proofs.YtjemmmemenljbaaW.PrintWords.blk_drew ?_ | refine Go.Proofs.YtjemmmemenljbaaW.PrintWords.blk_alloc ?_ _)); exact h_) : Aside0 (w1.heap[g]? = some o) := ⟨blk_below (t h.out) hb⟩
theorem neL {Q : Prop} {w : World} {g g' : Nat} {o : Obj} (hg : g' = w.heap.size) (h : Aside0 Q) (t : Q → w.heap[g]? = some o := by intro h_; (with_reducible repeat (first | refine Go.Proofs.YtjemmmemenljbaaW.PrintWords.blk_drewN ?_ _ | refine Go.Proofs.YtjemmmemenljbaaW.PrintWords.blk_drew ?_ | refine Go.Proofs.YtjemmmemenljbaaW.PrintWords.blk_alloc ?_ _)); exact h_) : Aside0 (g ≠ g') := ⟨hg ▸ Nat.ne_of_lt (blk_lt (t h.out))⟩
theorem neR {Q : Prop} {w : World} {g g' : Nat} {o : Obj} (hg : g' = w.heap.size) (h : Aside0 Q) (t : Q → w.heap[g]? = some o := by intro h_; (with_reducible repeat (first | refine Go.Proofs.YtjemmmemenljbaaW.PrintWords.blk_drewN ?_ _ | refine Go.Proofs.YtjemmmemenljbaaW.PrintWords.blk_drew ?_ | refine Go.Proofs.YtjemmmemenljbaaW.PrintWords.blk_alloc ?_ _)); exact h_) : Aside0 (g' ≠ g) := ⟨hg ▸ Nat.ne_of_gt (blk_lt (t h.out))⟩
theorem grB {Q : Prop} {w w1 : World} {row : Option Nat} {g : Nat} {o : Obj} (h : Aside0 Q) (hg : w.grownBy w1 row) (t : Q → w.heap[g]? = some o := by intro h_; (with_reducible repeat (first | refine Go.Proofs.YtjemmmemenljbaaW.PrintWords.blk_drewN ?_ _ | refine Go.Proofs.YtjemmmemenljbaaW.PrintWords.blk_drew ?_ | refine Go.Proofs.YtjemmmemenljbaaW.PrintWords.blk_alloc ?_ _)); exact h_) (hne : some g ≠ row) : Aside0 (w1.heap[g]? = some o) := ⟨blk_grown (t h.out) hg hne⟩
theorem bnA {α β : Type} {x : Option α} {f : α → Option β} {b : β} (H : x.bind f = some b) : ∃ a, Aside0 (x = some a) ∧ f a = some b := by
  obtain ⟨a, h, k⟩ := Option.bind_eq_some_iff.mp H
  exact ⟨a, ⟨h⟩, k⟩
theorem blk_eq {w : World} {g : Nat} {t : TypeId} {cs cs' : Array Value} (h : w.heap[g]? = some (.cells cs t (0, 0))) (e : cs = cs') : w.heap[g]? = some (.cells cs' t (0, 0)) := e ▸ h
theorem blkFar {w : World} {g g' : Nat} {t : TypeId} {cs : Array Value} {i : Nat} {u : Value} (hp : g ≠ g') (h : w.heap[g]? = some (.cells cs t (0, 0))) : (w.setCell ⟨g', i, none⟩ u).heap[g]? = some (.cells cs t (0, 0)) := blk_far h hp u
theorem putA {P Q : Prop} (h : Q) (t : Q → P := by intro h_; apply Go.Proofs.YtjemmmemenljbaaW.PrintWords.blk_eq; (case h => repeat (first | (with_reducible first | exact h_ | apply Go.Proofs.YtjemmmemenljbaaW.PrintWords.blk_drewN | apply Go.Proofs.YtjemmmemenljbaaW.PrintWords.blk_drew | apply Go.Proofs.YtjemmmemenljbaaW.PrintWords.blk_alloc | apply Go.Proofs.YtjemmmemenljbaaW.PrintWords.blk_set))); (case e => rfl)) : P := t h
theorem putB {P Q : Prop} {F0 : Prop} (h : Q) (n0 : F0) (t : Q → F0 → P := by intro h_ n0_; apply Go.Proofs.YtjemmmemenljbaaW.PrintWords.blk_eq; (case h => repeat (first | (with_reducible first | exact h_ | apply Go.Proofs.YtjemmmemenljbaaW.PrintWords.blk_drewN | apply Go.Proofs.YtjemmmemenljbaaW.PrintWords.blk_drew | apply Go.Proofs.YtjemmmemenljbaaW.PrintWords.blk_alloc | apply Go.Proofs.YtjemmmemenljbaaW.PrintWords.blk_set) | apply Go.Proofs.YtjemmmemenljbaaW.PrintWords.blkFar n0_)); (case e => rfl)) : P := t h n0
theorem nmA {P Q R : Prop} (hy : R) (H : Q) (t : R → Q → P := by intro hy_ H_; first | (rw [hy_]; with_reducible exact H_) | (have H2_ := (Option.bind_some _ _).symm.trans H_; rw [hy_]; with_reducible exact H2_) | (have H2_ := (Option.bind_some _ _).symm.trans H_; with_reducible exact H2_) | with_reducible exact H_ | (rw [hy_]; exact H_) | exact H_) : P := t hy H
theorem bs2 {Q G : Prop} {w W w2 : World} (h : Aside0 Q) (g : Aside0 G) (k : Below W.heap.size W w2) (t : Q → G → Below w.heap.size w W := by intro h_ g_; repeat (first | (with_reducible first | exact h_ | apply Go.Proofs.YtjemmmemenljbaaW.PrintWords.below_alloc | apply Go.Proofs.YtjemmmemenljbaaW.PrintWords.pw_below_drewN | apply Go.Proofs.YtjemmmemenljbaaW.PrintWords.below_drew1 | refine Go.Proofs.YtjemmmemenljbaaW.PrintWords.below_set ?_ g_) | exact h_)) : Aside0 (Below w.heap.size w w2) := ⟨below_step (t h.out g.out) k⟩
theorem bs3 {Q G G' : Prop} {w W w2 : World} (h : Aside0 Q) (g : Aside0 G) (g' : Aside0 G') (k : Below W.heap.size W w2) (t : Q → G → G' → Below w.heap.size w W := by intro h_ g_ k_; repeat (first | (with_reducible first | exact h_ | apply Go.Proofs.YtjemmmemenljbaaW.PrintWords.below_alloc | apply Go.Proofs.YtjemmmemenljbaaW.PrintWords.pw_below_drewN | apply Go.Proofs.YtjemmmemenljbaaW.PrintWords.below_drew1 | refine Go.Proofs.YtjemmmemenljbaaW.PrintWords.below_set ?_ g_ | refine Go.Proofs.YtjemmmemenljbaaW.PrintWords.below_set ?_ k_) | exact h_)) : Aside0 (Below w.heap.size w w2) := ⟨below_step (t h.out g.out g'.out) k⟩
theorem ifN {α : Type} {p : Prop} {_d : Decidable p} {A : Option α} {r : α} (H : (if p then A else none) = some r) : p ∧ A = some r := by
  by_cases h : p
  · rw [if_pos h] at H; exact ⟨h, H⟩
  · rw [if_neg h] at H; cases H
theorem cbx {w w1 : World} {p : Addr} {v : Value} (HB : Aside0 (Below w.heap.size w w1)) (h : w.cell? p = some v) : w1.cell? p = some v := (HB.out.cell (World.block_lt_of_cell? w _ h)).trans h
theorem ge1 {w W : World} {g : Nat} (hg : g = W.heap.size) (h : Below w.heap.size w W) : Aside0 (w.heap.size ≤ g) := ⟨hg ▸ below_size h⟩
theorem bst {Q : Prop} {w W w2 : World} (h : Aside0 Q) (k : Below W.heap.size W w2) (t : Q → Below w.heap.size w W := by intro h_; repeat (first | (with_reducible first | exact h_ | apply Go.Proofs.YtjemmmemenljbaaW.PrintWords.below_alloc | apply Go.Proofs.YtjemmmemenljbaaW.PrintWords.pw_below_drewN | apply Go.Proofs.YtjemmmemenljbaaW.PrintWords.below_drew1) | exact h_)) : Aside0 (Below w.heap.size w w2) := ⟨below_step (t h.out) k⟩
section
variable {P : Program} {ops : Array Oper} {o : Oper} {rest : List Oper} {a : Act} {W : World} {Q : Exit → Act → World → Prop}
theorem boxA (N : Tmp) (cs : Array Value) (t : TypeId) (h : ∀ g, g = W.heap.size → ∀ w1, w1.heap[g]? = some (.cells cs t (0, 0)) → Below W.heap.size W w1 → wpList P ops Q rest (a.put o.dst (.pointer (some ⟨g, 0, none⟩))) w1)
    (hgd : o.guard = none := by rfl) (hd : o.dst = some N := by rfl) (hr : (execOp a.eval o).run P W = .ok (.value (.pointer (some ⟨W.heap.size, 0, none⟩))) (W.alloc (.cells cs t (0, 0))) := by first | (go_simp; done) | (go_simp; rfl)) : wpList P ops Q (o :: rest) a W := box_event hgd hd hr h
end
theorem blk2 {w : World} {g : Nat} {t : TypeId} {v0 v1 : Value} (h : Aside0 (w.heap[g]? = some (.cells #[v0, v1] t (0, 0)))) : w.cell? ⟨g, 0, none⟩ = some v0 ∧ w.cell? ⟨g, 1, none⟩ = some v1 ∧ w.frozen? ⟨g, 0, none⟩ = false ∧ w.frozen? ⟨g, 1, none⟩ = false := ⟨(blk_cell h.out 0).trans rfl, (blk_cell h.out 1).trans rfl, blk_frozen h.out 0, blk_frozen h.out 1⟩
theorem blk3 {w : World} {g : Nat} {t : TypeId} {v0 v1 v2 : Value} (h : Aside0 (w.heap[g]? = some (.cells #[v0, v1, v2] t (0, 0)))) : w.cell? ⟨g, 0, none⟩ = some v0 ∧ w.cell? ⟨g, 1, none⟩ = some v1 ∧ w.cell? ⟨g, 2, none⟩ = some v2 ∧ w.frozen? ⟨g, 0, none⟩ = false ∧ w.frozen? ⟨g, 1, none⟩ = false ∧ w.frozen? ⟨g, 2, none⟩ = false := ⟨(blk_cell h.out 0).trans rfl, (blk_cell h.out 1).trans rfl, (blk_cell h.out 2).trans rfl, blk_frozen h.out 0, blk_frozen h.out 1, blk_frozen h.out 2⟩
theorem blk6 {w : World} {g : Nat} {t : TypeId} {v0 v1 v2 v3 v4 v5 : Value} (h : Aside0 (w.heap[g]? = some (.cells #[v0, v1, v2, v3, v4, v5] t (0, 0)))) : w.cell? ⟨g, 0, none⟩ = some v0 ∧ w.cell? ⟨g, 1, none⟩ = some v1 ∧ w.cell? ⟨g, 2, none⟩ = some v2 ∧ w.cell? ⟨g, 3, none⟩ = some v3 ∧ w.cell? ⟨g, 4, none⟩ = some v4 ∧ w.cell? ⟨g, 5, none⟩ = some v5 ∧ w.frozen? ⟨g, 0, none⟩ = false ∧ w.frozen? ⟨g, 1, none⟩ = false ∧ w.frozen? ⟨g, 2, none⟩ = false ∧ w.frozen? ⟨g, 3, none⟩ = false ∧ w.frozen? ⟨g, 4, none⟩ = false ∧ w.frozen? ⟨g, 5, none⟩ = false := ⟨(blk_cell h.out 0).trans rfl, (blk_cell h.out 1).trans rfl, (blk_cell h.out 2).trans rfl, (blk_cell h.out 3).trans rfl, (blk_cell h.out 4).trans rfl, (blk_cell h.out 5).trans rfl, blk_frozen h.out 0, blk_frozen h.out 1, blk_frozen h.out 2, blk_frozen h.out 3, blk_frozen h.out 4, blk_frozen h.out 5⟩
end Go.Proofs.YtjemmmemenljbaaW.PrintWords
end
