/- Rows of runs as their cells, one behind the other; slices.Clone, IndexFunc and ContainsFunc at rows of runs, and pick.After's two closures. -/
import Derived.Test.YtnbbejhbnajdbaaPPickx0
import Derived.Test.YtnbbejhbnajdbaaLib
import Derived.Lib.Hide
import Derived.Outline
import Derived.WalkMore
import Derived.Lib.SliceRun
import Derived.Lib.Walk
import Derived.Deep.RegionLaw
namespace Go.Proofs.Ytnbbejhbnajdbaa.PPick
open Go.RowKit Go.Proofs.YtnbbejhbnajdbaaW.PrintWords Go.Proofs.YtnbbejhbnajdbaaW.PrintLast Go.Proofs.YtnbbejhbnajdbaaW.PrintMore Go.Proofs.Ytnbbejhbnajdbaa.XLib

/-- A run's cells. -/
def cs (x : S26) : List Value := [.int .i64 x.f0, .int .i64 x.f1, .int .i64 x.f2, .bool x.f3]
def flat (l : List S26) : List Value := l.flatMap cs
theorem flat_len (l : List S26) : (flat l).length = l.length * 4 := by
  unfold flat
  induction l with
  | nil => rfl
  | cons a l ih => rw [List.flatMap_cons, List.length_append, ih, List.length_cons]; simp [cs]; omega
theorem flat_get (l : List S26) : ∀ q i : Nat, i < 4 → (flat l)[q * 4 + i]? = (l[q]?).bind fun x => (cs x)[i]? := by
  unfold flat
  induction l with
  | nil => intro q i _; simp
  | cons a l ih =>
    intro q i hi
    rw [List.flatMap_cons]
    cases q with
    | zero =>
      rw [Nat.zero_mul, Nat.zero_add, List.getElem?_append_left (by simpa [cs] using hi)]
      simp
    | succ q =>
      rw [List.getElem?_append_right (by simp [cs]; omega), show (q + 1) * 4 + i - (cs a).length = q * 4 + i by simp [cs]; omega, ih q i hi]
      simp
theorem flat_one (l : List S26) : ∀ u ∈ flat l, u.oneCell' = true := by
  intro u hu
  unfold flat at hu
  obtain ⟨x, _, hx⟩ := List.mem_flatMap.1 hu
  unfold cs at hx
  simp only [List.mem_cons, List.not_mem_nil, or_false] at hx
  rcases hx with rfl | rfl | rfl | rfl <;> rfl
theorem K_cs {w : World} {x : S26} {c : List Value} : k26.K w x c ↔ c = cs x := by
  constructor
  · rintro ⟨c0, c1, rfl, rfl, c2, c3, rfl, rfl, c4, c5, rfl, rfl, rfl⟩
    rfl
  · rintro rfl
    exact ⟨_, _, rfl, rfl, _, _, rfl, rfl, _, _, rfl, rfl, rfl⟩
theorem M_cs {w : World} {base : Nat} {ok : Nat → Prop} {x : S26} {c : List Value} : k26.M w base ok x c ↔ c = cs x := by
  constructor
  · rintro ⟨c0, c1, rfl, rfl, c2, c3, rfl, rfl, c4, c5, rfl, rfl, rfl⟩
    rfl
  · rintro rfl
    exact ⟨_, _, rfl, rfl, _, _, rfl, rfl, _, _, rfl, rfl, rfl⟩
theorem reps_flat {R : S26 → List Value → Prop} (hR : ∀ x c, R x c ↔ c = cs x) (l : List S26) : ∀ inner, Reps R 4 l inner ↔ inner = flat l := by
  induction l with
  | nil =>
    intro inner
    unfold Reps flat
    constructor
    · intro h
      exact List.length_eq_zero_iff.1 (by simpa using h.1)
    · rintro rfl
      exact ⟨rfl, by simp⟩
  | cons a l ih =>
    intro inner
    have e : flat (a :: l) = cs a ++ flat l := by unfold flat; rw [List.flatMap_cons]
    rw [e]
    constructor
    · intro h
      have h0 := (hR a _).1 (h.2 0 a rfl)
      rw [Nat.zero_mul, List.drop_zero] at h0
      have h1 : Reps R 4 l (inner.drop 4) := by
        refine ⟨by rw [List.length_drop, h.1, List.length_cons]; omega, fun j p hp => ?_⟩
        have := h.2 (j + 1) p (by simpa using hp)
        rw [List.drop_drop]
        rwa [show 4 + j * 4 = (j + 1) * 4 by omega]
      rw [← h0, ← (ih _).1 h1, List.take_append_drop]
    · rintro rfl
      have h1 := (ih _).2 rfl
      refine ⟨by rw [List.length_append, h1.1, List.length_cons]; simp [cs]; omega, fun j p hp => ?_⟩
      cases j with
      | zero =>
        obtain rfl : a = p := by simpa using hp
        rw [Nat.zero_mul, List.drop_zero, List.take_append_of_le_length (by simp [cs])]
        exact (hR a _).2 (by simp [cs])
      | succ j =>
        have := h1.2 j p (by simpa using hp)
        rw [show (j + 1) * 4 = (cs a).length + j * 4 by simp [cs]; omega, ← List.drop_drop, List.drop_left]
        exact this
/-- A row of runs of the call's own, as its cells. -/
theorem R_flat {w : World} {base : Nat} {ok : Nat → Prop} {v : Value} {l : List S26} : Kd.R k26 26 w base ok v l ↔ (∀ k, v.ownBlock = some k → ok k) ∧ w.ownsRow base 26 4 v l.length (flat l) := by
  constructor
  · rintro ⟨h1, inner, h2, h3⟩
    rw [(reps_flat (fun x c => M_cs) l inner).1 h3] at h2
    exact ⟨h1, h2⟩
  · rintro ⟨h1, h2⟩
    exact ⟨h1, flat l, h2, (reps_flat (fun x c => M_cs) l _).2 rfl⟩
theorem C_cells {w : World} {A : Option Addr} {n : Nat} {l : List S26} (h : Kd.C k26 w A n l) (hn : 0 < n) : ∃ ad, A = some ad ∧ ∀ j u, (flat l)[j]? = some u → w.cell? (ad.add j) = some u := by
  obtain ⟨ad, e, hc⟩ := h.2.2 hn
  refine ⟨ad, e, fun j u hu => ?_⟩
  have e1 : j = j / 4 * 4 + j % 4 := by omega
  rw [e1, flat_get l _ _ (by omega)] at hu
  cases hq : l[j / 4]? with
  | none => rw [hq] at hu; cases hu
  | some x =>
    rw [hq] at hu
    obtain ⟨c, h1, h2, h3⟩ := hc _ _ hq
    have := h3 (j % 4) u (by rw [K_cs.1 h2]; exact hu)
    rw [e1]; exact this

theorem info_run : ∃ i0, Try.prog.info? 26 = some i0 ∧ i0.zero = some (.agg #[.int .i64 0, .int .i64 0, .int .i64 0, .bool false]) ∧ i0.size = 4 ∧ i0.bytes = 32 := by
  obtain ⟨i0, h, e⟩ := Option.map_eq_some_iff.1 info26
  simp only [Prod.mk.injEq] at e
  exact ⟨i0, h, e.1, e.2.1, e.2.2⟩

set_option maxHeartbeats 1000000 in
theorem clone_runs (A0 : Option Addr) (c0 : Nat) (l0 : List S26) (w : World) (hr0 : Kd.C k26 w A0 l0.length l0) (hl : l0.length ≤ 1000) :
    Calls Try.prog 27 #[.slice A0 l0.length c0] w fun e w' => ∃ v', e = .returned v' ∧ Kd.R k26 26 w' w.heap.size (fun _ => True) v' l0 ∧ Below w.heap.size w w' := by
  have q22 : ∀ (w : World) (a : Option Addr) (n c n' c' : Nat), (binOp .eql 22 (Value.slice a n c) (Value.slice none n' c')).run Try.prog w = .ok (.bool a.isNone) w := fun w a n c n' c' => Lib.run_eql_slice_nil w _ _ a n c n' c' Try.underlying22
  have HC := Lib.hid hr0; clear hr0
  cases A0 with
  | none =>
    have h0 : l0 = [] := by
      rcases Nat.eq_zero_or_pos l0.length with h | h
      · exact List.length_eq_zero_iff.1 h
      · obtain ⟨ad, e, _⟩ := HC.out.2.2 h
        cases e
    subst h0
    go_enter Try.func27, Try.ntmps27
    go_wp2
    go_ret
    exact ⟨_, rfl, Kd.R_nil _ _ _ _ _, Below.refl _ _⟩
  | some ad =>
    have hcell : Hid (∀ j u, (flat l0)[j]? = some u → w.cell? (ad.add j) = some u) := Lib.hid (by
      rcases Nat.eq_zero_or_pos l0.length with h | h
      · rw [List.length_eq_zero_iff.1 h]; intro j u hu; simp [flat] at hu
      · obtain ⟨ad', e, hc⟩ := C_cells HC.out h
        cases e; exact hc)
    obtain ⟨i0, hi0⟩ := info_run
    have HI := Lib.hid hi0; clear hi0
    go_enter Try.func27, Try.ntmps27
    go_wp2_with (at_builtin; refine wpList_append_own _ rfl _ _ 22 rfl w.heap.size 26 i0 (.agg #[.int .i64 0, .int .i64 0, .int .i64 0, .bool false]) 4 32 Try.underlying22 HI.out.1 HI.out.2.1 HI.out.2.2.1 HI.out.2.2.2 rfl (by decide) _ _ _ rfl (World.ownsRow_made w #[] 0 (Nat.le_refl _) (Nat.zero_le _) (by simp)) ad l0.length c0 (flat l0) rfl ?qc1 ?qc2 ?qc3 ?qc4 ?qc5 ?qc6 ?_)
    case qc1 => exact flat_len l0
    case qc2 =>
      intro j u hj
      exact Lib.cell?_alloc_some _ (hcell.out j u hj)
    case qc3 => exact flat_one l0
    case qc4 => rw [Nat.zero_add]; unfold maxLen; omega
    case qc5 => rw [Nat.zero_add]; omega
    case qc6 => simp
    intro v' w1 hown hgrow hnil
    have HO := Lib.hid hown; have HG := Lib.hid hgrow; clear hown hgrow hnil
    go_wp2
    go_ret
    refine ⟨v', rfl, R_flat.2 ⟨fun _ _ => trivial, by simpa using HO.out⟩, ?_⟩
    exact ((Below.refl _ w).alloc (Nat.le_refl _) _).grown HG.out (by simp) (by intro k hk; simp [Value.ownBlock] at hk; omega)
end Go.Proofs.Ytnbbejhbnajdbaa.PPick
