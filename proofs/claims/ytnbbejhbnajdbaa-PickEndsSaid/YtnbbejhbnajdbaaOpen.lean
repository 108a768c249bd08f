/- The words by which an argument of any kind that the statements use (whole numbers, bools, strings, slices, structs of these, nested) is opened: what it reads as, as a Lean value, with its bounds. No program in sight. -/
import Derived.Test.YtnbbejhbnajdbaaWWords
import Derived.Deep.Slices
import Derived.ChangeSame
import Derived.ChangeArms
import Derived.SizedLaws
import Derived.WideShapes
import Derived.ChangeOld
namespace Go.Proofs.Ytnbbejhbnajdbaa.Open
open Go.Proofs.YtnbbejhbnajdbaaW.PrintWords Go.ChangeShapes Go.WideShapes Go.Deep

/-- What a type's reading gives: a value of the kind, with its bounds. -/
def Opens {H α : Type} (enc : TypeId × Value → H) (P : Program) (W : World) (t : TypeId) (k : Kd α) (wf : α → Prop) : Prop :=
  ∀ (n : Nat) (cs : List Value) (d : DataW H) (ps : List MemPlace), DataW.trod enc P W 0 (fun _ => true) true n t cs = some (d, ps) → (d.weights P t).all (· ≤ reachBytes) = true → ∃ x, k.K W x cs ∧ wf x

def FieldsOpen {H α : Type} (enc : TypeId × Value → H) (P : Program) (W : World) (fs : List Field) (off : Nat) (k : Kd α) (wf : α → Prop) : Prop :=
  ∀ (n : Nat) (cs : List Value) (xs : List (DataW H × List MemPlace)), xs.length = fs.length → cs.length = k.sz →
    (∀ (i : Nat) (f : Field), fs[i]? = some f → DataW.trod enc P W 0 (fun _ => true) true n f.type ((cs.drop (f.offset - off)).take (P.cellsOf f.type)) = xs[i]?) →
    (DataW.weightsEach P (fs.map (·.type)) (xs.map (·.1))).all (· ≤ reachBytes) = true → ∃ x, k.K W x cs ∧ wf x

section
variable {H : Type} {enc : TypeId × Value → H} {P : Program} {W : World}

theorem Opens.int {t : TypeId} {ik : IntKind} (ht : P.underlying t = some (.int ik)) : Opens enc P W t (Kd.int ik) (fun x => (Lit.int ik x).wf = true) := by
  intro n cs d ps h _
  obtain ⟨x, rfl, _, hw⟩ := DataW.trod_int ht h
  exact ⟨x, rfl, hw⟩

theorem Opens.bool {t : TypeId} (ht : P.underlying t = some .bool) : Opens enc P W t Kd.bool (fun _ => True) := by
  intro n cs d ps h _
  obtain ⟨x, rfl, _⟩ := DataW.trod_bool ht h
  exact ⟨x, rfl, trivial⟩

theorem Opens.string {t : TypeId} (ht : P.underlying t = some .string) : Opens enc P W t Kd.string (fun s => s.size ≤ 140737488351232) := by
  intro n cs d ps h hw
  obtain ⟨s, rfl, hd, _⟩ := DataW.trod_string ht h
  obtain ⟨rfl, _⟩ := Prod.mk.inj hd
  refine ⟨s, rfl, ?_⟩
  simp only [DataW.weights, List.all_cons, List.all_nil, Bool.and_true, decide_eq_true_eq] at hw
  simpa [reachBytes] using hw

theorem all_weightsAll {e : TypeId} {ds : List (DataW H)} (h : (DataW.weightsAll P e ds).all (· ≤ reachBytes) = true) : ∀ d ∈ ds, (d.weights P e).all (· ≤ reachBytes) = true := by
  induction ds with
  | nil => intro d hd; cases hd
  | cons a r ih =>
    simp only [DataW.weightsAll, List.all_append, Bool.and_eq_true] at h
    intro d hd
    rcases List.mem_cons.1 hd with rfl | hd
    · exact h.1
    · exact ih h.2 d hd

theorem Opens.slice {α : Type} {t e B : Nat} {k : Kd α} {wf : α → Prop} (ht : P.underlying t = some (.slice e)) (hc : P.cellsOf e = k.sz) (hB : P.bytesOf e = B) (O : Opens enc P W e k wf) :
    Opens enc P W t (Kd.slice e k) (fun xs => xs.length * B ≤ 140737488351232 ∧ ∀ x ∈ xs, wf x) := by
  intro n cs d ps h hw
  rcases open_slice ht h with ⟨rfl, hx⟩ | ⟨a, len, cap, m, n', D, Pl, rfl, hb, hl, hm, hmm, hx, hel⟩
  · refine ⟨[], ⟨none, 0, rfl, Nat.le_refl _, ⟨rfl, by simp, fun h0 => by simp at h0⟩⟩, by simp, fun x hx => by cases hx⟩
  · obtain ⟨rfl, _⟩ := Prod.mk.inj hx
    simp only [if_true] at hmm
    subst hmm
    simp only [DataW.weights, ht, List.all_cons, List.all_append, Bool.and_eq_true, decide_eq_true_eq, List.length_map, List.length_range] at hw
    obtain ⟨hw0, hw1, hw2⟩ := hw
    have hex : ∀ i, i < len → ∃ x : α, ∃ cs', W.cells? 0 (a.add (i * P.cellsOf e)) (P.cellsOf e) = some cs' ∧ k.K W x cs' ∧ wf x := by
      intro i hi
      obtain ⟨cs', h1, h2⟩ := hel i (by omega)
      obtain ⟨x, hK, hwf⟩ := O n' cs' _ _ h2 (all_weightsAll hw1 (D i) (List.mem_map.2 ⟨i, by simpa using hi, rfl⟩))
      exact ⟨x, cs', h1, hK, hwf⟩
    have key : ∃ xs : List α, xs.length = len ∧ ∀ (i : Nat) (x : α), xs[i]? = some x → ∃ cs', W.cells? 0 (a.add (i * P.cellsOf e)) (P.cellsOf e) = some cs' ∧ k.K W x cs' ∧ wf x := by
      clear hw0 hw1 hw2 hel hl hm h hx
      induction len with
      | zero => exact ⟨[], rfl, fun i x h => by simp at h⟩
      | succ len ih =>
        obtain ⟨xs, hxl, hxs⟩ := ih (fun i hi => hex i (Nat.lt_succ_of_lt hi))
        obtain ⟨x, hx⟩ := hex len (Nat.lt_succ_self _)
        refine ⟨xs ++ [x], by simp [hxl], fun i y hy => ?_⟩
        rcases Nat.lt_or_ge i xs.length with hi | hi
        · rw [List.getElem?_append_left hi] at hy
          exact hxs i y hy
        · have hi' : i = xs.length := by
            have := (List.getElem?_eq_some_iff.1 hy).1
            rw [List.length_append, List.length_singleton] at this
            omega
          subst hi'
          have : x = y := by simpa using hy
          subst this
          rw [hxl]
          exact hx
    obtain ⟨xs, hxl, hxs⟩ := key
    refine ⟨xs, ⟨some a, m, by rw [hxl], by omega, ⟨rfl, ?_, ?_⟩⟩, ?_, ?_⟩
    · unfold maxLen at hm; omega
    · intro _
      refine ⟨a, rfl, fun j p hj => ?_⟩
      obtain ⟨cs', h1, hK, _⟩ := hxs j p hj
      refine ⟨cs', k.K_len hK, hK, fun i u hu => ?_⟩
      obtain ⟨_, hlen, hcell⟩ := World.cells?_some h1
      have hi : i < cs'.length := (List.getElem?_eq_some_iff.1 hu).1
      have := hcell i (by omega)
      rw [hu] at this
      rw [← this, Deep.add_add, hc]
    · rw [hxl]
      rw [hB] at hw0
      unfold reachBytes at hw0
      exact Nat.le_trans (Nat.mul_le_mul_right _ (by omega)) hw0
    · intro x hx
      obtain ⟨i, hi⟩ := List.getElem?_of_mem hx
      obtain ⟨_, _, _, hwf⟩ := hxs i x hi
      exact hwf

theorem FieldsOpen.one {α : Type} {f : Field} {off : Nat} {k : Kd α} {wf : α → Prop} (O : Opens enc P W f.type k wf) (hc : P.cellsOf f.type = k.sz) (ho : f.offset = off) : FieldsOpen enc P W [f] off k wf := by
  intro n cs xs hx hcs hf hw
  match xs, hx with
  | [(d, p)], _ =>
    have h := hf 0 f rfl
    rw [ho, Nat.sub_self, List.drop_zero, hc, ← hcs, List.take_length] at h
    refine O n cs d p h ?_
    simpa [DataW.weightsEach] using hw

theorem FieldsOpen.cons {α β : Type} {f : Field} {fs : List Field} {off : Nat} {k : Kd α} {ks : Kd β} {wf : α → Prop} {wfs : β → Prop} (O : Opens enc P W f.type k wf) (hc : P.cellsOf f.type = k.sz) (ho : f.offset = off)
    (hge : ∀ g ∈ fs, off + k.sz ≤ g.offset) (R : FieldsOpen enc P W fs (off + k.sz) ks wfs) : FieldsOpen enc P W (f :: fs) off (Kd.pair k ks) (fun x => wf x.1 ∧ wfs x.2) := by
  intro n cs xs hx hcs hf hw
  match xs, hx with
  | (d, p) :: xs, hx =>
    have hcs' : cs.length = k.sz + ks.sz := hcs
    have h := hf 0 f rfl
    rw [ho, Nat.sub_self, List.drop_zero, hc] at h
    simp only [List.map_cons, DataW.weightsEach, List.all_append, Bool.and_eq_true] at hw
    obtain ⟨x, hK, hwf⟩ := O n (cs.take k.sz) d p h hw.1
    obtain ⟨y, hKs, hwfs⟩ := R n (cs.drop k.sz) xs (by simpa using hx) (by rw [List.length_drop]; omega) (fun i g hg => by
      have := hf (i + 1) g (by simpa using hg)
      have hm := hge g (List.mem_of_getElem? hg)
      rw [List.drop_drop, show k.sz + (g.offset - (off + k.sz)) = g.offset - off from by omega]
      simpa using this) hw.2
    exact ⟨(x, y), ⟨cs.take k.sz, cs.drop k.sz, (List.take_append_drop _ _).symm, hK, hKs⟩, hwf, hwfs⟩

theorem Opens.struct {α β : Type} {t : TypeId} {fs : Array Field} {k : Kd α} {wf : α → Prop} {wf' : β → Prop} (f : β → α) (g : α → β) (hfg : ∀ y, f (g y) = y) (hwf : ∀ y, wf y → wf' (g y)) (ht : P.underlying t = some (.struct fs)) (hc : P.cellsOf t = k.sz)
    (R : FieldsOpen enc P W fs.toList 0 k wf) : Opens enc P W t (Kd.iso k f) wf' := by
  intro n cs d ps h hw
  obtain ⟨xs, n', _, hx, hcs, hlen, hf⟩ := DataW.trod_struct ht h
  obtain ⟨rfl, _⟩ := Prod.mk.inj hx
  simp only [DataW.weights, ht] at hw
  obtain ⟨y, hK, hy⟩ := R n' cs xs (by simpa using hlen) (hcs.trans hc) (fun i g hg => by simpa using hf i g (by simpa using hg)) hw
  exact ⟨g y, by show k.K W (f (g y)) cs; rw [hfg]; exact hK, hwf y hy⟩

theorem Opens.structT {α : Type} {t : TypeId} {fs : Array Field} {k : Kd α} {wf : α → Prop} (ht : P.underlying t = some (.struct fs)) (hc : P.cellsOf t = k.sz)
    (R : FieldsOpen enc P W fs.toList 0 k wf) : Opens enc P W t k wf := by
  intro n cs d ps h hw
  obtain ⟨xs, n', _, hx, hcs, hlen, hf⟩ := DataW.trod_struct ht h
  obtain ⟨rfl, _⟩ := Prod.mk.inj hx
  simp only [DataW.weights, ht] at hw
  exact R n' cs xs (by simpa using hlen) (hcs.trans hc) (fun i g hg => by simpa using hf i g (by simpa using hg)) hw

/-- An argument, opened. -/
theorem Opens.arg {α : Type} {t : TypeId} {k : Kd α} {wf : α → Prop} (O : Opens enc P W t k wf) {v : Value} {d : DataW H} {ps : List MemPlace} {ts : List TypeId} {ds : List (DataW H)} {j : Nat} (h : DataW.Trod enc P W 0 (fun _ => true) true t v d ps)
    (hsz : (DataW.weightsEach P ts ds).all (· ≤ reachBytes) = true) (ht : ts[j]? = some t) (hd : ds[j]? = some d) : ∃ x, k.K W x v.cells.toList ∧ wf x := by
  obtain ⟨n, h⟩ := h
  refine O n _ d ps h (List.all_eq_true.2 fun m hm => ?_)
  exact List.all_eq_true.1 hsz m (DataW.weights_mem_each ht hd m hm)

/-- A struct's value by its cells. -/
theorem agg_of {b0 : Nat} {r : Reach} {t : TypeId} {fs : Array Field} {v : Value} {cs : List Value} (hs : P.underlying t = some (.struct fs)) (hv : Value.okWide P W r b0 t v) (h : v.cells.toList = cs) : v = .agg cs.toArray := by
  obtain ⟨c, rfl, _⟩ := okWide_struct hs hv
  simp only [Value.cells] at h
  subst h
  rfl
/-- A slice's value by its one cell. -/
theorem slice_of {b0 : Nat} {r : Reach} {t e : TypeId} {v u : Value} (hs : P.underlying t = some (.slice e)) (hv : Value.okWide P W r b0 t v) (h : v.cells.toList = [u]) : v = u := by
  obtain ⟨a, len, cap, rfl⟩ := okWide_slice hs hv
  simpa [Value.cells] using h

/-- A plain value by its one cell. -/
theorem one_of {b0 : Nat} {r : Reach} {t : TypeId} {v u : Value} (hs : (∃ k, P.underlying t = some (.int k)) ∨ P.underlying t = some .bool ∨ P.underlying t = some .string) (hv : Value.okWide P W r b0 t v) (h : v.cells.toList = [u]) : v = u := by
  rcases hs with ⟨k, hs⟩ | hs | hs
  · obtain ⟨n, rfl⟩ := okWide_int hs hv
    simpa [Value.cells] using h
  · obtain ⟨n, rfl⟩ := okWide_bool hs hv
    simpa [Value.cells] using h
  · obtain ⟨n, rfl⟩ := okWide_string hs hv
    simpa [Value.cells] using h

theorem lt_of_trod {t : TypeId} {v : Value} {d : DataW H} {ps : List MemPlace} (h : DataW.Trod enc P W 0 (fun _ => true) true t v d ps) : ∀ x ∈ ps, x.block < W.heap.size := by
  obtain ⟨m, hm⟩ := h
  exact DataW.trod_lt m _ _ _ hm
end
end Go.Proofs.Ytnbbejhbnajdbaa.Open
