import Derived.Test.YtjemmmemenljbaaZFoldFactsParts09
section
namespace Go.Proofs.Ytjemmmemenljbaa.PFold
open Go.RowKit Go.Proofs.YtjemmmemenljbaaW.PrintWords Go.Proofs.YtjemmmemenljbaaW.PrintLast Go.Proofs.YtjemmmemenljbaaW.PrintMore
set_option linter.unusedVariables false
set_option linter.unusedSimpArgs false
set_option maxHeartbeats 8000000
set_option maxRecDepth 100000
def Fr.tail (f : Fr) : Fr := ⟨if f.c = 1 then f.A else f.A.map (·.add (1 * 7)), f.c - 1, f.l.drop 1, f.p⟩
def nextFs (f : Fr) (q : List Fr) : List Fr := sinkFs (if 1 < f.l.length then f.tail :: q else q)
theorem next_none (base h : Nat) (W : World) (k : HpRow W base h []) : Calls Try.prog 60 #[.pointer (some ⟨h, 0, none⟩)] W fun e w' => e = .returned (.tuple #[.agg #[.slice none 0 0, .int .u64 0, .bool false, .int .i64 0, .int .u64 0, .int .i64 0, .int .i64 0], .int .i64 0, .bool false]) ∧ Below W.heap.size W w' := by
  obtain ⟨v, hv, ho⟩ := k
  obtain ⟨A, c, rfl⟩ := own_slice ho
  have hq0 := (blk_cell hv 0).trans (show _ = some (Value.slice A 0 c) from rfl)
  have hlt := blk_lt hv
  clear hv ho
  go_enter Try.func60, Try.ntmps60
  go_wp2
  refine bodyPost_ret (results_ctt rfl _ _ W.heap.size 51 #[.slice none 0 0, .int .u64 0, .bool false, .int .i64 0, .int .u64 0, .int .i64 0, .int .i64 0] (0, 0) _ rfl (blk_new W _) Try.underlying51 rfl (by kernel_rfl)) rfl ?_
  exact ⟨rfl, (Below.refl _ _).alloc (Nat.le_refl _) _⟩
theorem own_setAt {w : World} {base e size g n cap : Nat} {xs : List Value} (h : w.ownsRow base e size (.slice (some ⟨g, 0, none⟩) n cap) n xs) (i : Nat) (u : Value) : (w.setCell ⟨g, i, none⟩ u).ownsRow base e size (.slice (some ⟨g, 0, none⟩) n cap) n (xs.set i u) := by
  obtain ⟨hl, h0 | ⟨g', cap', cur, hv, hb, hh, hn, hx, hs, ht⟩⟩ := h
  · cases h0.1
  · injection hv with h1 _ h3
    injection h1 with h1
    injection h1 with h1
    subst h1 h3
    exact ⟨by simpa using hl, .inr ⟨g, cap, cur.setIfInBounds i u, rfl, hb, blk_set hh i u, hn, hx, by simpa using hs, by rw [Array.toList_setIfInBounds, List.take_set, ht]⟩⟩
structure HpG (W : World) (base h g n c : Nat) (xs : List Value) : Prop where
  hv : W.heap[h]? = some (.cells #[.slice (some ⟨g, 0, none⟩) n c] 115 (0, 0))
  ho : W.ownsRow base 118 2 (.slice (some ⟨g, 0, none⟩) n c) n xs
  ne : h ≠ g
theorem HpG.below {W W' : World} {base h g n c : Nat} {xs : List Value} (k : HpG W base h g n c xs) (hb : Below W.heap.size W W') : HpG W' base h g n c xs := ⟨blk_below k.hv hb, own_move k.ho (fun g hg => hb.block g (own_lt k.ho g hg)), k.ne⟩
theorem HpG.drew {W : World} {base h g n c : Nat} {xs : List Value} (k : HpG W base h g n c xs) : HpG W.drew base h g n c xs := ⟨k.hv, own_move k.ho (fun _ _ => rfl), k.ne⟩
theorem HpG.set {W : World} {base h g n c i : Nat} {u : Value} {xs : List Value} (k : HpG W base h g n c xs) : HpG (W.setCell ⟨g, i, none⟩ u) base h g n c (xs.set i u) := ⟨blk_far k.hv k.ne u, own_setAt k.ho i u, k.ne⟩
theorem HpG.cut {W : World} {base h g n c m : Nat} {xs : List Value} (k : HpG W base h g n c xs) (hm : m ≤ n) : HpG (W.setCell ⟨h, 0, none⟩ (.slice (some ⟨g, 0, none⟩) m c)) base h g m c (xs.take (m * 2)) :=
  ⟨blk_put k.hv 0 _ rfl, own_setCell (own_take k.ho hm) (by simpa [Value.ownBlock] using k.ne) _, k.ne⟩
theorem HpG.row {W : World} {base h g n c : Nat} {xs : List Value} {fs : List Fr} (k : HpG W base h g n c xs) (hn : n = fs.length) (hx : xs = fs.flatMap Fr.cs) : HpRow W base h fs := by
  subst hn hx
  exact ⟨_, k.hv, k.ho⟩
theorem FK.set {base k i : Nat} {W W' : World} {u : Value} (h : FK base W W') {cells : Array Value} {t : Nat} (hk : W.heap[k]? = some (.cells cells t (0, 0))) (ht : t = 118 ∨ t = 115) (hb : base ≤ k) : FK base W (W'.setCell ⟨k, i, none⟩ u) :=
  ⟨⟨h.low.os, h.low.tape, h.low.output, by simpa [World.setCell] using h.low.size, fun j hj => (Below.heap_setCell W' _ u j (by show j ≠ k; omega)).trans (h.low.block j hj)⟩, fun j hj hn => (Below.heap_setCell W' _ u j (fun e => by
    have e2 : j = k := e
    subst e2
    rcases ht with rfl | rfl
    · exact (hn cells).1 hk
    · exact (hn cells).2 hk)).trans (h.rest j hj hn)⟩
theorem FK.drew {base : Nat} {W W' : World} (h : FK base W W') : FK base W W'.drew := ⟨⟨h.low.os, h.low.tape, h.low.output, h.low.size, h.low.block⟩, h.rest⟩
theorem far7 {w : World} {p : Addr} {r : Nat} {v a0 a1 a2 a3 a4 a5 a6 : Value} (h : p.block ≠ r) (k : w.cell? p = some v) : (((((((w.setCell ⟨r, 0, none⟩ a0).setCell ⟨r, 1, none⟩ a1).setCell ⟨r, 2, none⟩ a2).setCell ⟨r, 3, none⟩ a3).setCell ⟨r, 4, none⟩ a4).setCell ⟨r, 5, none⟩ a5).setCell ⟨r, 6, none⟩ a6).cell? p = some v := by
  have st : ∀ (W : World) (i : Nat) (u : Value), (W.setCell ⟨r, i, none⟩ u).cell? p = W.cell? p := fun W i u => World.cell?_of_block (Below.heap_setCell W _ u p.block h)
  rw [st, st, st, st, st, st, st]
  exact k
structure EqBut (r : Nat) (W W' : World) : Prop where
  os : W'.os = W.os
  tape : W'.tape = W.tape
  output : W'.output = W.output
  size : W'.heap.size = W.heap.size
  rest : ∀ k, k ≠ r → W'.heap[k]? = W.heap[k]?
theorem EqBut.refl (r : Nat) (W : World) : EqBut r W W := ⟨rfl, rfl, rfl, rfl, fun _ _ => rfl⟩
theorem EqBut.drew {r : Nat} {W W' : World} (h : EqBut r W W') : EqBut r W W'.drew := ⟨h.os, h.tape, h.output, h.size, h.rest⟩
theorem EqBut.set {r i : Nat} {u : Value} {W W' : World} (h : EqBut r W W') : EqBut r W (W'.setCell ⟨r, i, none⟩ u) := ⟨h.os, h.tape, h.output, by simpa [World.setCell] using h.size, fun k hk => (Below.heap_setCell W' _ u k hk).trans (h.rest k hk)⟩
theorem FK.eqBut {base r : Nat} {W W1 W2 : World} (h : FK base W W1) (k : EqBut r W1 W2) (hr : W.heap.size ≤ r) (hb : base ≤ W.heap.size) : FK base W W2 :=
  ⟨⟨k.os.trans h.low.os, k.tape.trans h.low.tape, k.output.trans h.low.output, by rw [k.size]; exact h.low.size, fun j hj => (k.rest j (by omega)).trans (h.low.block j hj)⟩, fun j hj hn => (k.rest j (by omega)).trans (h.rest j hj hn)⟩
theorem HpRow.eqBut {base h r : Nat} {W W' : World} {fs : List Fr} (k : HpRow W base h fs) (e : EqBut r W W') {cells : Array Value} (hr : W.heap[r]? = some (.cells cells 51 (0, 0))) : HpRow W' base h fs := by
  obtain ⟨v, hv, ho⟩ := k
  have hne : h ≠ r := blk_ne hv hr (by decide)
  exact ⟨v, (e.rest h hne).trans hv, own_move ho (fun g hg => e.rest g (fun hgr => own_ne ho hr (by decide) (by rw [← hgr]; exact hg.symm)))⟩
theorem Fr.tail_in {w : World} {f : Fr} (F : FrIn w f) (h : 1 < f.l.length) : FrIn w f.tail :=
  ⟨Kd.C_drop F.row (by omega) F.cap, by simp [Fr.tail]; omega, by simp [Fr.tail]; have := F.cap; omega, by simp [Fr.tail]; have := F.big; omega, fun y hy => F.isb y (List.mem_of_mem_drop hy), fun y hy => F.kln y (List.mem_of_mem_drop hy)⟩
theorem R_eqBut {α : Type} {d : Kd α} {e base r : Nat} {ok : Nat → Prop} {W W' : World} {v : Value} {xs : List α} (h : d.R e W base ok v xs) (q : EqBut r W W') (hr : r < base) : d.R e W' base (fun _ => True) v xs := Kd.R_mono (Kd.R_step (Kd.R_bound h) (fun k hk _ => q.rest k (by have := hk.2.1; omega))) (fun _ _ => trivial)
def mnext.T5 : Bool × List (List Nat × List Nat) := (true, [([], []), ([0], [0]), ([1], [1]), ([2], [2]), ([], []), ([4], [4]), ([5], [5]), ([3, 0, 1, 2, 3, 4, 5, 6], [3]), ([7, 0, 1, 2, 3, 4, 5, 6], [7]), ([8, 6, 0, 1, 2, 3, 4, 5, 6], [6, 8])])
def mnext.B5 : List Nat := [0, 1, 3, 7, 0, 16, 48, 127, 255, 511]
theorem mnext.tab5 : rtab .any (opsOf Try.f60 5) = mnext.T5 := by kernel_rfl
theorem mnext.bits5 : waitsOk mnext.T5.2 mnext.B5 = true := by kernel_rfl
def mnext.T7 : Bool × List (List Nat × List Nat) := (true, [([], []), ([0], [0]), ([1], [1]), ([2], [2]), ([], []), ([4], [4]), ([5], [5]), ([6], [6]), ([], []), ([7, 8], [7, 8]), ([9], [9]), ([3, 0, 1, 2, 3, 4, 5, 6, 7, 8, 9, 10], [3]), ([11, 10, 0, 1, 2, 3, 4, 5, 6, 7, 8, 9, 10], [10, 11])])
def mnext.B7 : List Nat := [0, 1, 3, 7, 0, 16, 48, 112, 0, 496, 1008, 2047, 4095]
theorem mnext.tab7 : rtab .any (opsOf Try.f60 7) = mnext.T7 := by kernel_rfl
theorem mnext.bits7 : waitsOk mnext.T7.2 mnext.B7 = true := by kernel_rfl
def mnext.T10 : Bool × List (List Nat × List Nat) := (true, [([], []), ([0], [0]), ([1], [1]), ([2], [2]), ([3], [3]), ([4], [4]), ([], []), ([6], [6]), ([7], [7]), ([8], [8]), ([9], [9]), ([5, 10], [5, 10]), ([], []), ([12], [12]), ([11, 5, 0, 1, 2, 3, 4, 5, 6, 7, 8, 9, 10, 11], [11]), ([13, 14, 0, 1, 2, 3, 4, 5, 6, 7, 8, 9, 10, 11, 12, 13, 14], [13]), ([15, 0, 1, 2, 3, 4, 5, 6, 7, 8, 9, 10, 11, 12, 13, 14, 15], [])])
def mnext.B10 : List Nat := [0, 1, 3, 7, 15, 31, 0, 64, 192, 448, 960, 2047, 0, 4096, 4095, 32767, 65535]
theorem mnext.tab10 : rtab .any (opsOf Try.f60 10) = mnext.T10 := by kernel_rfl
theorem mnext.bits10 : waitsOk mnext.T10.2 mnext.B10 = true := by kernel_rfl
theorem next_some (w0 : World) (h : Nat) (f : Fr) (q : List Fr) (hq : q.length ≤ 1) (W : World) (hw : Below w0.heap.size w0 W) (k : HpRow W w0.heap.size h (f :: q)) (hm : ∀ x ∈ f :: q, FrIn w0 x) (hbh : w0.heap.size ≤ h) :
    Calls Try.prog 60 #[.pointer (some ⟨h, 0, none⟩)] W fun e w' => ∃ v x, e = .returned (.tuple #[.agg #[v, .int .u64 x.f1.f0, .bool x.f1.f1, .int .i64 x.f1.f2.f0, .int .u64 x.f1.f2.f1, .int .i64 x.f1.f3, .int .i64 x.f1.f4], .int .i64 f.p, .bool true]) ∧ f.l.head? = some x ∧ Kd.R (Kd.int .u8) 5 w' W.heap.size (fun _ => True) v x.f0 ∧ FK w0.heap.size W w' ∧ HpRow w' w0.heap.size h (nextFs f q) := by
  obtain ⟨v, hv, ho⟩ := k
  obtain ⟨A, c, rfl⟩ := own_slice ho
  have hq0 := (blk_cell hv 0).trans (show _ = some (Value.slice A (f :: q).length c) from rfl)
  have hlt := blk_lt hv
  obtain ⟨g, rfl, hb, cur, hh⟩ : ∃ g, A = some ⟨g, 0, none⟩ ∧ w0.heap.size ≤ g ∧ ∃ cur, W.heap[g]? = some (.cells cur 118 (0, 0)) := by
    obtain ⟨_, h0 | ⟨g, cap, cur, hvv, hb, hh, _⟩⟩ := ho
    · exact absurd h0.2 (by simp)
    · injection hvv with hA _ _
      exact ⟨g, hA, hb, cur, hh⟩
  have hlg := blk_lt hh
  have hne : h ≠ g := blk_ne hv hh (by decide)
  have hti : ∀ i, i < (f :: q).length * 2 → W.cell? ⟨g, i, none⟩ = (((f :: q).flatMap Fr.cs))[i]? := fun i hi => by
    obtain ⟨_, h0 | ⟨g', cap, cur', hvv, _, hh', _, _, _, ht⟩⟩ := ho
    · cases h0.1
    · injection hvv with hA _ _
      injection hA with hA
      injection hA with hA
      subst hA
      rw [blk_cell hh' i, ← ht, List.getElem?_take, if_pos hi]
      simp
  have hg0 : W.cell? ⟨g, 0, none⟩ = some (.slice f.A f.l.length f.c) := (hti 0 (by simp only [List.length_cons]; omega)).trans rfl
  have hg1 : W.cell? ⟨g, 1, none⟩ = some (.int .i64 f.p) := (hti 1 (by simp only [List.length_cons]; omega)).trans rfl
  have F := hm f (by simp)
  have e1 : (((f :: q).length : Int) == 0) = false := beq_eq_false_iff_ne.2 (by simp only [List.length_cons]; omega)
  have e2 : decide ((0 : Int) < ((f :: q).length : Int)) = true := decide_eq_true (by simp only [List.length_cons]; omega)
  have e3 : ((0 : Int) < ((f :: q).length : Int)) = True := eq_true (by simp only [List.length_cons]; omega)
  have e4 : (0 < (f :: q).length) = True := eq_true (by simp)
  have HG0 := Lib.hid (show HpG W w0.heap.size h g (f :: q).length c ((f :: q).flatMap Fr.cs) from ⟨hv, ho, hne⟩)
  obtain ⟨n, hn'⟩ : ∃ n, n = (f :: q).length := ⟨_, rfl⟩
  rw [← hn'] at hq0 e1 e2 e3 e4 HG0
  have HV := Lib.hid hv; have HHH := Lib.hid hh; have HTI := Lib.hid hti; have HN := Lib.hid hn'; have HM := Lib.hid hm; have HF := Lib.hid F; have HW := Lib.hid hw; have HBH := Lib.hid hbh; have HBG := Lib.hid hb
  clear hv hh hti hn' hm ho F hw hbh hb
  have hpos := HF.out.pos
  obtain ⟨ad, B0, d0, hfA, hx0, hx1, hx2, hx3, hx4q, hx5, hx6q, hlc, hin0⟩ := at_T51 HF.out.row ((0 : Nat) : Int) (by omega) (by omega)
  rw [rd_ent hpos] at hx0 hx1 hx2 hx3 hx4q hx5 hx6q hlc hin0
  have hkl := HF.out.kln _ (List.getElem_mem hpos)
  have hhd : f.l.head? = some f.l[0] := List.head?_eq_getElem?.trans (List.getElem?_eq_getElem hpos)
  obtain ⟨x, hxe⟩ : ∃ x, x = f.l[0] := ⟨_, rfl⟩
  rw [← hxe] at hx0 hx1 hx2 hx3 hx4q hx5 hx6q hlc hin0 hkl hhd
  have ez : ∀ a : Addr, a.add (0 * 7) = a ∨ True := fun a => .inr trivial
  have ez2 : (ad.add (((0 : Nat) : Int).toNat * 7)).block = ad.block ∧ (ad.add (((0 : Nat) : Int).toNat * 7)).off = ad.off := ⟨by simp [Addr.add], by simp [Addr.add]⟩
  rw [ez2.1, ez2.2] at hx1 hx2 hx3 hx4q hx5 hx6q
  have hx0' : w0.cell? ad = some (.slice B0 x.f0.length d0) := by
    have e : ad.add (((0 : Nat) : Int).toNat * 7) = ad := by first | (simp; done) | (simp [Addr.add]; done) | (cases ad; simp [Addr.add]; done)
    rw [e] at hx0
    exact hx0
  have HFA := Lib.hid hfA; have HHD := Lib.hid hhd; have HIN0 := Lib.hid hin0
  have hadl := World.block_lt_of_cell? w0 _ hx0'
  clear hfA hhd hin0 hxe ez ez2 hx0
  go_enter Try.func60, Try.ntmps60
  go_upto_region 4 with (fail)
  have hB4 : Below W.heap.size W ((W.alloc (.cells #[.slice none 0 0, .int .u64 0, .bool false, .int .i64 0, .int .u64 0, .int .i64 0, .int .i64 0] 51 (0, 0))).alloc (.cells #[.slice f.A f.l.length f.c, .int .i64 f.p] 118 (0, 0))) := ((Below.refl _ _).alloc (Nat.le_refl _) _).alloc (by simp) _
  have hr4 := blk_alloc (blk_new W (.cells #[.slice none 0 0, .int .u64 0, .bool false, .int .i64 0, .int .u64 0, .int .i64 0, .int .i64 0] 51 (0, 0))) (.cells #[.slice f.A f.l.length f.c, .int .i64 f.p] 118 (0, 0))
  have hx4 := blk_new (W.alloc (.cells #[.slice none 0 0, .int .u64 0, .bool false, .int .i64 0, .int .u64 0, .int .i64 0, .int .i64 0] 51 (0, 0))) (.cells #[.slice f.A f.l.length f.c, .int .i64 f.p] 118 (0, 0))
  rw [show (W.alloc (.cells #[.slice none 0 0, .int .u64 0, .bool false, .int .i64 0, .int .u64 0, .int .i64 0, .int .i64 0] 51 (0, 0))).heap.size = W.heap.size + 1 from by simp] at hx4
  generalize ((W.alloc (.cells #[.slice none 0 0, .int .u64 0, .bool false, .int .i64 0, .int .u64 0, .int .i64 0, .int .i64 0] 51 (0, 0))).alloc (.cells #[.slice f.A f.l.length f.c, .int .i64 f.p] 118 (0, 0))) = W4 at hB4 hr4 hx4 ⊢
  obtain ⟨r, hr⟩ : ∃ r, r = W.heap.size := ⟨_, rfl⟩
  rw [← hr] at hr4 hx4 ⊢
  obtain ⟨bx, hbx⟩ : ∃ bx, bx = r + 1 := ⟨_, rfl⟩
  rw [← hbx] at hx4 ⊢
  have hk0 := (hB4.cell (World.block_lt_of_cell? W _ hq0)).trans hq0
  have hk1 := (hB4.cell (World.block_lt_of_cell? W _ hg0)).trans hg0
  have hk2 := (hB4.cell (World.block_lt_of_cell? W _ hg1)).trans hg1
  have hkx := (blk_cell hx4 0).trans (show _ = some (Value.slice f.A f.l.length f.c) from rfl)
  have hky := (blk_cell hx4 1).trans (show _ = some (Value.int .i64 f.p) from rfl)
  have hfh := blk_frozen (blk_below HV.out hB4) 0
  have hfg0 := blk_frozen (blk_below HHH.out hB4) 0
  have hfg1 := blk_frozen (blk_below HHH.out hB4) 1
  have HB4 := Lib.hid hB4; have HR4 := Lib.hid hr4; have HX4 := Lib.hid hx4; have HG4 := Lib.hid (HG0.out.below hB4)
  have n1 : (h = g) = False := eq_false hne
  have n2 : (g = h) = False := eq_false (fun e => hne e.symm)
  have n3 : (g = r) = False := eq_false (by omega)
  have n4 : (g = bx) = False := eq_false (by omega)
  have n5 : (h = r) = False := eq_false (by omega)
  have n6 : (h = bx) = False := eq_false (by omega)
  have n7 : (r = bx) = False := eq_false (by omega)
  have n8 : (bx = g) = False := eq_false (by omega)
  have n9 : (bx = h) = False := eq_false (by omega)
  have HRW := Lib.hid hr
  have hrg : r ≠ g := by omega
  have hrh : r ≠ h := by omega
  have hbg : bx ≠ g := by omega
  have hbh : bx ≠ h := by omega
  have hbr : bx ≠ r := by omega
  have hadr : ad.block ≠ r := by have := HW.out.size; omega
  clear hB4 hr4 hx4 hq0 hg0 hg1 hr hbx hlt hlg
  by_cases hlen : 1 < f.l.length
  focus
    have e5 : decide ((1 : Int) < (f.l.length : Int)) = true := decide_eq_true (by omega)
    have hcap := HF.out.cap
    have e6 : ((1 : Int) ≤ (f.l.length : Int)) = True := eq_true (by omega)
    have e7 : ((1 : Int) ≤ (f.c : Int)) = True := eq_true (by omega)
    have e12 : (f.c = 1) = False := eq_false (by omega)
    go_wp2
    refine start_ (n := 10) (S := fun w' => w'.cell? ⟨h, 0, none⟩ = some (.slice (some ⟨g, 0, none⟩) n c) ∧ w'.cell? ⟨bx, 0, none⟩ = some (.slice f.A f.l.length f.c)) (ds := [9]) #[false, false, false, false, false, false, false, false, false, false] (by kernel_rfl) rfl rfl ⟨hk0, hkx⟩ (fun hHeld => ?_)
    refine with_tabW mnext.tab5 mnext.bits5 (fun HT_ HW_ => ?_)
    refine pureD 0 28 HT_ ?_
    refine pureD 1 29 HT_ ?_
    refine pureD 2 30 HT_ ?_
    refine pureD 4 32 HT_ ?_
    refine takeD 3 31 HT_ HW_ hHeld ?_
    refine takeD 5 33 HT_ HW_ hHeld ?_
    refine pureD 6 34 HT_ ?_
    refine pureD 7 35 HT_ ?_
    refine pureD 8 36 HT_ ?_
    refine last_ (i := 9) (N := none) #[true, true, true, true, true, true, true, true, true, true] rfl rfl (one_of HT_.out (by kernel_rfl)) (by decide) (fun K hK => ?_)
    refine skip_ (w1 := ?_) (by rfl) rfl ?_ ?_
    rotate_left
    ·go_simp
     rfl
    refine hK.out _ _ ?_
    clear hK K
    refine done_ (done_of HT_.out (by kernel_rfl)) ?_
    have hin : ∀ y ∈ f.tail :: q, FrIn w0 y := fun y hy => by
      rcases List.mem_cons.1 hy with rfl | hy
      · exact Fr.tail_in HF.out hlen
      · exact HM.out y (List.mem_cons_of_mem _ hy)
    have hnx : nextFs f q = sinkFs (f.tail :: q) := by unfold nextFs; rw [if_pos hlen]
    have HFK5 := Lib.hid (((FK.of_below HB4.out HW.out.size).set HHH.out (.inl rfl) HBG.out (i := 0) (u := .slice (Option.map (fun x => ⟨x.block, x.off + 7, none⟩) f.A) (f.l.length - 1) (f.c - 1))).drew)
    go_wp2_with (go_at_call 83; go_loud (refine (sink_calls w0.heap.size h (f.tail :: q) (by simp; omega) _ (HpG.row (HG4.out.set.drew) (by have := HN.out; simp at this ⊢; omega) (by show ((f :: q).flatMap Fr.cs).set 0 _ = (f.tail :: q).flatMap Fr.cs; simp [Fr.cs, Fr.v, Fr.tail, e12, Addr.add])) (fun y hy => (hin y hy).below (HW.out.trans HFK5.out.low)) (HW.out.trans HFK5.out.low).size).mono ?_; rintro e w6 ⟨rfl, hfk, hhp, hgr⟩; have hg6 := hgr _ (HG4.out.set.drew).hv; have hr6 := blk_grown (by repeat (first | (with_reducible exact HR4.out) | apply blk_drew | apply blkFar hrg | apply blkFar hrh)) hg6 (by simpa [Value.ownBlock] using hrg); have hx6 := blk_grown (by repeat (first | (with_reducible exact HX4.out) | apply blk_drew | apply blkFar hbg | apply blkFar hbh)) hg6 (by simpa [Value.ownBlock] using hbg); have hm0 := (blk_cell hx6 0).trans (show _ = some (Value.slice f.A f.l.length f.c) from rfl); have hm1 := (blk_cell hx6 1).trans (show _ = some (Value.int .i64 f.p) from rfl); have HR6 := Lib.hid hr6; have HFK6 := Lib.hid (HFK5.out.trans hfk); have HW6 := Lib.hid (HW.out.trans (HFK5.out.trans hfk).low); have HH6 := Lib.hid (show HpRow w6 w0.heap.size h (nextFs f q) from hnx ▸ hhp); clear hfk hhp hgr hg6 hr6 hx6))
  rotate_left
  focus
    have e5 : decide ((1 : Int) < (f.l.length : Int)) = false := decide_eq_false (by omega)
    have hin : ∀ y ∈ q, FrIn w0 y := fun y hy => HM.out y (List.mem_cons_of_mem _ hy)
    have hnx : nextFs f q = sinkFs q := by unfold nextFs; rw [if_neg hlen]
    rcases q with _ | ⟨b, q2⟩
    focus
      obtain rfl : n = 1 := HN.out
      have hs0 := hk1
      have hwz : wrap64 0 = 0 := by simp [wrap64]
      have hs1 := hk2
      go_wp2
      refine start_ (n := 13) (S := fun w' => w'.cell? ⟨h, 0, none⟩ = some (.slice (some ⟨g, 0, none⟩) 1 c) ∧ w'.cell? ⟨g, 0, none⟩ = some (.slice f.A f.l.length f.c) ∧ w'.cell? ⟨g, 1, none⟩ = some (.int .i64 f.p)) (ds := [12]) #[false, false, false, false, false, false, false, false, false, false, false, false, false] (by kernel_rfl) rfl rfl ⟨hk0, hs0, hs1⟩ (fun hHeld => ?_)
      refine with_tabW mnext.tab7 mnext.bits7 (fun HT_ HW_ => ?_)
      refine pureD 0 43 HT_ ?_
      refine pureD 1 44 HT_ ?_
      refine pureD 2 45 HT_ ?_
      refine pureD 4 47 HT_ ?_
      refine pureD 5 48 HT_ ?_
      refine pureD 6 49 HT_ ?_
      refine pureD 8 51 HT_ ?_
      refine takeD 3 46 HT_ HW_ hHeld ?_
      refine takeD 7 50 HT_ HW_ hHeld ?_
      refine pureD 9 52 HT_ ?_
      refine takeD 10 53 HT_ HW_ hHeld ?_
      refine pureD 11 54 HT_ ?_
      refine last_ (i := 12) (N := none) #[true, true, true, true, true, true, true, true, true, true, true, true, true] rfl rfl (one_of HT_.out (by kernel_rfl)) (by decide) (fun K hK => ?_)
      refine skip_ (w1 := ?_) (by rfl) rfl ?_ ?_
      rotate_left
      ·go_simp
       rfl
      refine hK.out _ _ ?_
      clear hK K
      refine done_ (done_of HT_.out (by kernel_rfl)) ?_
      go_wp2_with (go_at_call 83; go_loud (refine (sink_calls w0.heap.size h ([] : List Fr) (by simp) _ (HpG.row (((HG4.out.set (i := 0) (u := .slice f.A f.l.length f.c)).set (i := 1) (u := .int .i64 f.p)).drew.cut (m := 0) (by decide)) rfl rfl) (fun y hy => (hin y hy).below (HW.out.trans ((((FK.of_below HB4.out HW.out.size).set (i := 0) (u := .slice f.A f.l.length f.c) HHH.out (.inl rfl) HBG.out).set (i := 1) (u := .int .i64 f.p) HHH.out (.inl rfl) HBG.out).drew.set HV.out (.inr rfl) HBH.out).low)) (HW.out.trans ((((FK.of_below HB4.out HW.out.size).set (i := 0) (u := .slice f.A f.l.length f.c) HHH.out (.inl rfl) HBG.out).set (i := 1) (u := .int .i64 f.p) HHH.out (.inl rfl) HBG.out).drew.set HV.out (.inr rfl) HBH.out).low).size).mono ?_; rintro e w6 ⟨rfl, hfk, hhp, hgr⟩; have hg6 := hgr _ (((HG4.out.set (i := 0) (u := .slice f.A f.l.length f.c)).set (i := 1) (u := .int .i64 f.p)).drew.cut (m := 0) (by decide)).hv; have hr6 := blk_grown (by repeat (first | (with_reducible exact HR4.out) | apply blk_drew | apply blkFar hrg | apply blkFar hrh)) hg6 (by simpa [Value.ownBlock] using hrg); have hx6 := blk_grown (by repeat (first | (with_reducible exact HX4.out) | apply blk_drew | apply blkFar hbg | apply blkFar hbh)) hg6 (by simpa [Value.ownBlock] using hbg); have hm0 := (blk_cell hx6 0).trans (show _ = some (Value.slice f.A f.l.length f.c) from rfl); have hm1 := (blk_cell hx6 1).trans (show _ = some (Value.int .i64 f.p) from rfl); have HR6 := Lib.hid hr6; have HFK6 := Lib.hid (((((FK.of_below HB4.out HW.out.size).set (i := 0) (u := .slice f.A f.l.length f.c) HHH.out (.inl rfl) HBG.out).set (i := 1) (u := .int .i64 f.p) HHH.out (.inl rfl) HBG.out).drew.set HV.out (.inr rfl) HBH.out).trans hfk); have HW6 := Lib.hid (HW.out.trans (((((FK.of_below HB4.out HW.out.size).set (i := 0) (u := .slice f.A f.l.length f.c) HHH.out (.inl rfl) HBG.out).set (i := 1) (u := .int .i64 f.p) HHH.out (.inl rfl) HBG.out).drew.set HV.out (.inr rfl) HBH.out).trans hfk).low); have HH6 := Lib.hid (show HpRow w6 w0.heap.size h (nextFs f []) from hnx ▸ hhp); clear hfk hhp hgr hg6 hr6 hx6))
    rotate_left
    focus
      obtain rfl : q2 = [] := by cases q2 with
        | nil => rfl
        | cons y z => simp at hq
      obtain rfl : n = 2 := HN.out
      have hwz : wrap64 1 = 1 := by simp [wrap64]
      have hc2 := own_le HG4.out.ho
      have hc3 : ((1 : Int) ≤ (c : Int)) = True := eq_true (by omega)
      have hc4 : decide ((1 : Int) ≤ (c : Int)) = true := decide_eq_true (by omega)
      have hs0 := (HB4.out.cell (World.block_lt_of_cell? W _ ((HTI.out 2 (by simp)).trans (show _ = some (Value.slice b.A b.l.length b.c) from rfl)))).trans ((HTI.out 2 (by simp)).trans (show _ = some (Value.slice b.A b.l.length b.c) from rfl))
      have hs1 := (HB4.out.cell (World.block_lt_of_cell? W _ ((HTI.out 3 (by simp)).trans (show _ = some (Value.int .i64 b.p) from rfl)))).trans ((HTI.out 3 (by simp)).trans (show _ = some (Value.int .i64 b.p) from rfl))
      go_wp2
      refine start_ (n := 13) (S := fun w' => w'.cell? ⟨h, 0, none⟩ = some (.slice (some ⟨g, 0, none⟩) 2 c) ∧ w'.cell? ⟨g, 2, none⟩ = some (.slice b.A b.l.length b.c) ∧ w'.cell? ⟨g, 3, none⟩ = some (.int .i64 b.p)) (ds := [12]) #[false, false, false, false, false, false, false, false, false, false, false, false, false] (by kernel_rfl) rfl rfl ⟨hk0, hs0, hs1⟩ (fun hHeld => ?_)
      refine with_tabW mnext.tab7 mnext.bits7 (fun HT_ HW_ => ?_)
      refine pureD 0 43 HT_ ?_
      refine pureD 1 44 HT_ ?_
      refine pureD 2 45 HT_ ?_
      refine pureD 4 47 HT_ ?_
      refine pureD 5 48 HT_ ?_
      refine pureD 6 49 HT_ ?_
      refine pureD 8 51 HT_ ?_
      refine takeD 3 46 HT_ HW_ hHeld ?_
      refine takeD 7 50 HT_ HW_ hHeld ?_
      refine pureD 9 52 HT_ ?_
      refine takeD 10 53 HT_ HW_ hHeld ?_
      refine pureD 11 54 HT_ ?_
      refine last_ (i := 12) (N := none) #[true, true, true, true, true, true, true, true, true, true, true, true, true] rfl rfl (one_of HT_.out (by kernel_rfl)) (by decide) (fun K hK => ?_)
      refine skip_ (w1 := ?_) (by rfl) rfl ?_ ?_
      rotate_left
      ·go_simp
       rfl
      refine hK.out _ _ ?_
      clear hK K
      refine done_ (done_of HT_.out (by kernel_rfl)) ?_
      go_wp2_with (go_at_call 83; go_loud (refine (sink_calls w0.heap.size h [b] (by simp) _ (HpG.row (((HG4.out.set (i := 0) (u := .slice b.A b.l.length b.c)).set (i := 1) (u := .int .i64 b.p)).drew.cut (m := 1) (by decide)) rfl rfl) (fun y hy => (hin y hy).below (HW.out.trans ((((FK.of_below HB4.out HW.out.size).set (i := 0) (u := .slice b.A b.l.length b.c) HHH.out (.inl rfl) HBG.out).set (i := 1) (u := .int .i64 b.p) HHH.out (.inl rfl) HBG.out).drew.set HV.out (.inr rfl) HBH.out).low)) (HW.out.trans ((((FK.of_below HB4.out HW.out.size).set (i := 0) (u := .slice b.A b.l.length b.c) HHH.out (.inl rfl) HBG.out).set (i := 1) (u := .int .i64 b.p) HHH.out (.inl rfl) HBG.out).drew.set HV.out (.inr rfl) HBH.out).low).size).mono ?_; rintro e w6 ⟨rfl, hfk, hhp, hgr⟩; have hg6 := hgr _ (((HG4.out.set (i := 0) (u := .slice b.A b.l.length b.c)).set (i := 1) (u := .int .i64 b.p)).drew.cut (m := 1) (by decide)).hv; have hr6 := blk_grown (by repeat (first | (with_reducible exact HR4.out) | apply blk_drew | apply blkFar hrg | apply blkFar hrh)) hg6 (by simpa [Value.ownBlock] using hrg); have hx6 := blk_grown (by repeat (first | (with_reducible exact HX4.out) | apply blk_drew | apply blkFar hbg | apply blkFar hbh)) hg6 (by simpa [Value.ownBlock] using hbg); have hm0 := (blk_cell hx6 0).trans (show _ = some (Value.slice f.A f.l.length f.c) from rfl); have hm1 := (blk_cell hx6 1).trans (show _ = some (Value.int .i64 f.p) from rfl); have HR6 := Lib.hid hr6; have HFK6 := Lib.hid (((((FK.of_below HB4.out HW.out.size).set (i := 0) (u := .slice b.A b.l.length b.c) HHH.out (.inl rfl) HBG.out).set (i := 1) (u := .int .i64 b.p) HHH.out (.inl rfl) HBG.out).drew.set HV.out (.inr rfl) HBH.out).trans hfk); have HW6 := Lib.hid (HW.out.trans (((((FK.of_below HB4.out HW.out.size).set (i := 0) (u := .slice b.A b.l.length b.c) HHH.out (.inl rfl) HBG.out).set (i := 1) (u := .int .i64 b.p) HHH.out (.inl rfl) HBG.out).drew.set HV.out (.inr rfl) HBH.out).trans hfk).low); have HH6 := Lib.hid (show HpRow w6 w0.heap.size h (nextFs f [b]) from hnx ▸ hhp); clear hfk hhp hgr hg6 hr6 hx6))
  all_goals
    have hfA := HFA.out
    have he0 := (HW6.out.cell (World.block_lt_of_cell? w0 _ hx0')).trans hx0'
    have he1 := (HW6.out.cell (World.block_lt_of_cell? w0 _ hx1)).trans hx1
    have he2 := (HW6.out.cell (World.block_lt_of_cell? w0 _ hx2)).trans hx2
    have he3 := (HW6.out.cell (World.block_lt_of_cell? w0 _ hx3)).trans hx3
    have he4 := (HW6.out.cell (World.block_lt_of_cell? w0 _ hx4q)).trans hx4q
    have he5 := (HW6.out.cell (World.block_lt_of_cell? w0 _ hx5)).trans hx5
    have he6 := (HW6.out.cell (World.block_lt_of_cell? w0 _ hx6q)).trans hx6q
    have HCL := Lib.hid (fun (Wq : World) (hq : Below w6.heap.size w6 Wq) => clone_calls B0 d0 x.f0 Wq (Kd.C_below HIN0.out (HW6.out.trans (⟨hq.os, hq.tape, hq.output, hq.size, fun k hk => hq.block k (Nat.lt_of_lt_of_le hk HW6.out.size)⟩ : Below w0.heap.size w6 Wq))) hkl)
    have e8 : decide ((0 : Int) < (f.l.length : Int)) = true := decide_eq_true (by omega)
    have e9 : ((0 : Int) < (f.l.length : Int)) = True := eq_true (by omega)
    have e10 : (0 < f.l.length) = True := eq_true hpos
    refine start_ (n := 17) (S := fun w' => w'.cell? ⟨bx, 0, none⟩ = some (.slice f.A f.l.length f.c) ∧ w'.cell? ⟨bx, 1, none⟩ = some (.int .i64 f.p) ∧ w'.cell? ad = some (.slice B0 x.f0.length d0) ∧ w'.cell? ⟨ad.block, ad.off + 1, none⟩ = some (.int .u64 x.f1.f0) ∧ w'.cell? ⟨ad.block, ad.off + 2, none⟩ = some (.bool x.f1.f1) ∧ w'.cell? ⟨ad.block, ad.off + 3, none⟩ = some (.int .i64 x.f1.f2.f0) ∧ w'.cell? ⟨ad.block, ad.off + 4, none⟩ = some (.int .u64 x.f1.f2.f1) ∧ w'.cell? ⟨ad.block, ad.off + 5, none⟩ = some (.int .i64 x.f1.f3) ∧ w'.cell? ⟨ad.block, ad.off + 6, none⟩ = some (.int .i64 x.f1.f4)) (ds := []) #[false, false, false, false, false, false, false, false, false, false, false, false, false, false, false, false, false] (by kernel_rfl) rfl rfl ⟨hm0, hm1, he0, he1, he2, he3, he4, he5, he6⟩ (fun hHeld => ?_)
    refine with_tabW mnext.tab10 mnext.bits10 (fun HT_ HW_ => ?_)
    refine pureD 0 66 HT_ ?_
    refine pureD 6 72 HT_ ?_
    refine pureD 12 78 HT_ ?_
    refine takeD 1 67 HT_ HW_ hHeld ?_
    refine pureD 2 68 HT_ ?_
    refine pureD 3 69 HT_ ?_
    refine takeD 4 70 HT_ HW_ hHeld ?_
    refine takeD 7 73 HT_ HW_ hHeld ?_
    refine pureD 8 74 HT_ ?_
    refine pureD 9 75 HT_ ?_
    refine takeD 10 76 HT_ HW_ hHeld ?_
    refine takeD 13 79 HT_ HW_ hHeld ?_
    refine one_ (i := 5) (N := some 71) #[true, true, true, true, true, true, true, true, true, true, true, false, true, true, false, false, false] rfl rfl (one_of HT_.out (by kernel_rfl)) (by decide) (fun K hK => ?_)
    refine goes_ Try.func84 (by kernel_rfl) rfl #[.slice B0 x.f0.length d0] (by rfl) rfl rfl (by simp only [List.map_toArray, List.map_cons, List.map_nil]; rfl) ?_
    refine (HCL.out _ (by first | exact Below.refl _ _ | exact below_drew1 (Below.refl _ _) | exact pw_below_drewN (Below.refl _ _) _)).mono ?_
    rintro e w7 ⟨vk, rfl, hvr, hwd⟩
    refine ⟨_, rfl, ?_⟩
    have hw7 : Below w6.heap.size w6 w7 := ⟨hwd.os, hwd.tape, hwd.output, hwd.size, hwd.block⟩
    have HVR := Lib.hid hvr
    have HW7 := Lib.hid hw7
    obtain ⟨Avk, cvk, evk⟩ := Kd.R_slice hvr
    subst evk
    have hz0 := blk_frozen (blk_below HR6.out hw7) 0
    have hz1 := blk_frozen (blk_below HR6.out hw7) 1
    have hz2 := blk_frozen (blk_below HR6.out hw7) 2
    have hz3 := blk_frozen (blk_below HR6.out hw7) 3
    have hz4 := blk_frozen (blk_below HR6.out hw7) 4
    have hz5 := blk_frozen (blk_below HR6.out hw7) 5
    have hz6 := blk_frozen (blk_below HR6.out hw7) 6
    have hy0 := (blk_cell (blk_below HR6.out hw7) 0).trans (show _ = some (Value.slice none 0 0) from rfl)
    have hy1 := (blk_cell (blk_below HR6.out hw7) 1).trans (show _ = some (Value.int .u64 0) from rfl)
    have hy2 := (blk_cell (blk_below HR6.out hw7) 2).trans (show _ = some (Value.bool false) from rfl)
    have hy3 := (blk_cell (blk_below HR6.out hw7) 3).trans (show _ = some (Value.int .i64 0) from rfl)
    have hy4 := (blk_cell (blk_below HR6.out hw7) 4).trans (show _ = some (Value.int .u64 0) from rfl)
    have hy5 := (blk_cell (blk_below HR6.out hw7) 5).trans (show _ = some (Value.int .i64 0) from rfl)
    have hy6 := (blk_cell (blk_below HR6.out hw7) 6).trans (show _ = some (Value.int .i64 0) from rfl)
    clear hvr hwd
    refine hK.out _ _ ⟨(hw7.cell (World.block_lt_of_cell? w6 _ hm0)).trans hm0, (hw7.cell (World.block_lt_of_cell? w6 _ hm1)).trans hm1, (hw7.cell (World.block_lt_of_cell? w6 _ he0)).trans he0, (hw7.cell (World.block_lt_of_cell? w6 _ he1)).trans he1, (hw7.cell (World.block_lt_of_cell? w6 _ he2)).trans he2, (hw7.cell (World.block_lt_of_cell? w6 _ he3)).trans he3, (hw7.cell (World.block_lt_of_cell? w6 _ he4)).trans he4, (hw7.cell (World.block_lt_of_cell? w6 _ he5)).trans he5, (hw7.cell (World.block_lt_of_cell? w6 _ he6)).trans he6⟩ (fun hHeld => ?_)
    clear hK K
    refine norm_ (a' := ?_) ?_ ?_
    rotate_left
    ·show Act.put _ (some 71) _ = _
     simp only [Act.put, List.setIfInBounds_toArray, List.set_cons_zero, List.set_cons_succ, i64_w, i32_w]
     rfl
    refine pureD 11 77 HT_ ?_
    refine one_ (i := 14) (N := none) #[true, true, true, true, true, true, true, true, true, true, true, true, true, true, true, false, false] rfl rfl (one_of HT_.out (by kernel_rfl)) (by decide) (fun K hK => ?_)
    refine skip_ (w1 := ?_) (by rfl) rfl ?_ ?_
    rotate_left
    ·go_simp
     rfl
    refine hK.out _ _ ⟨far7 hbr hHeld.1, far7 hbr hHeld.2.1, far7 hadr hHeld.2.2.1, far7 hadr hHeld.2.2.2.1, far7 hadr hHeld.2.2.2.2.1, far7 hadr hHeld.2.2.2.2.2.1, far7 hadr hHeld.2.2.2.2.2.2.1, far7 hadr hHeld.2.2.2.2.2.2.2.1, far7 hadr hHeld.2.2.2.2.2.2.2.2⟩ (fun hHeld => ?_)
    clear hK K
    refine pureD 15 3 HT_ ?_
    refine pureD 16 4 HT_ ?_
    refine done_ (done_of HT_.out (by kernel_rfl)) ?_
    go_wp2
    refine bodyPost_ret (results_ctt rfl _ _ r 51 #[.slice Avk x.f0.length cvk, .int .u64 x.f1.f0, .bool x.f1.f1, .int .i64 x.f1.f2.f0, .int .u64 x.f1.f2.f1, .int .i64 x.f1.f3, .int .i64 x.f1.f4] (0, 0) _ rfl (putA (blk_below HR6.out HW7.out)) Try.underlying51 rfl (by kernel_rfl)) rfl ?_
    have hr6 := blk_lt HR6.out
    refine ⟨_, x, rfl, HHD.out, Kd.R_lower (R_eqBut HVR.out (by with_reducible repeat (first | exact EqBut.refl _ _ | apply EqBut.drew | apply EqBut.set)) hr6) (Nat.le_trans (Nat.le_of_eq HRW.out.symm) (Nat.le_of_lt hr6)), FK.eqBut (HFK6.out.trans (FK.of_below HW7.out HW6.out.size)) (by with_reducible repeat (first | exact EqBut.refl _ _ | apply EqBut.drew | apply EqBut.set)) (Nat.le_of_eq HRW.out.symm) HW.out.size, (HH6.out.below HW7.out).eqBut (by with_reducible repeat (first | exact EqBut.refl _ _ | apply EqBut.drew | apply EqBut.set)) (blk_below HR6.out HW7.out)⟩
end Go.Proofs.Ytjemmmemenljbaa.PFold
end
