/- What the reference's functions on runs tell, in plain lists. -/
import Derived.Test.YtnbbejhbnajdbaaPickA
import Derived.Test.YtnbbejhbnajdbaaPPickx12
import Derived.Test.YtnbbejhbnajdbaaPPickx13
import Derived.Test.YtnbbejhbnajdbaaPPickx14
import Derived.Test.YtnbbejhbnajdbaaPPickx15
import Derived.Test.YtnbbejhbnajdbaaPPickx16
import Derived.Test.YtnbbejhbnajdbaaPPickx17
namespace Go.Proofs.Ytnbbejhbnajdbaa.PickP
open List Go.RowKit Go.Proofs.YtnbbejhbnajdbaaW.PrintWords Go.Proofs.YtnbbejhbnajdbaaW.PrintLast Go.Proofs.Ytnbbejhbnajdbaa.PPick Go.Proofs.Ytnbbejhbnajdbaa.XLib

/-- A run as the document's. -/
def cv (x : Ru) : S56 := ⟨x.f0, x.f1, x.f2, x.f3⟩
theorem rd_cv {l : List Ru} {j : Nat} (h : j < l.length) : rd_T56 (l.map cv) (j : Int) = cv l[j] := by
  unfold rd_T56
  rw [show ((j : Int)).toNat = j from by omega, List.getD_eq_getElem?_getD, List.getElem?_eq_getElem (by simpa using h)]
  simp

theorem full_ev {l : List Ru} {i : Int} (hi : 0 ≤ i) (hl : l.length ≤ 64) : Ev (fun k => pick_full.f k l i) (fullB l i) := by
  obtain ⟨k, hk⟩ := full_tells l i hi (by omega)
  exact Ev.of (pick_full.mono l i) hk

/-- Is a level full, as pick.Full tells it? -/
def isFull (l : List Ru) (i : Int) : Bool := rightB l && decide (0 ≤ i) && fullB l i
theorem Full_tells {l : List Ru} (hw : wfF l) (i : Int) : Ev (fun k => pick_Full.f k l i) (isFull l i) := by
  unfold isFull
  by_cases ht : Tree l
  · rw [(right_iff l).2 ht]
    by_cases hi : 0 ≤ i
    · by_cases h4 : i < 4
      · rw [decide_eq_true hi]
        refine Ev.congr (fun k => ?_) (Ev.bind (full_ev hi ht.len) (Ev.now _))
        simp only [pick_Full.f, right_some hw, (right_iff l).2 ht, Option.bind_some, if_true]
        rw [if_pos hi, if_pos h4]
      · rw [decide_eq_true hi, full_far (by omega)]
        refine Ev.congr (fun k => ?_) (Ev.now _)
        simp only [pick_Full.f, right_some hw, (right_iff l).2 ht, Option.bind_some, if_true]
        rw [if_pos hi, if_neg h4]
        rfl
    · rw [decide_eq_false hi]
      refine Ev.congr (fun k => ?_) (Ev.now _)
      simp only [pick_Full.f, right_some hw, (right_iff l).2 ht, Option.bind_some, if_true]
      rw [if_neg (by omega)]
      rfl
  · rw [(right_false l).2 ht]
    refine Ev.congr (fun k => ?_) (Ev.now _)
    simp only [pick_Full.f, right_some hw, (right_false l).2 ht, Option.bind_some]
    rfl

theorem as_from (l : List Ru) (hl : l.length ≤ 1000) (d : Nat) : ∀ j : Nat, l.length - j = d → j ≤ l.length → Ev (fun k => rickyardlaw16_as.l0 k l ((l.take j).map cv) (j : Int)) (l.map cv) := by
  induction d with
  | zero =>
    intro j hd hj
    refine Ev.step (fun k => ?_) (Ev.now _)
    simp only [rickyardlaw16_as.l0]
    rw [if_neg (by omega), take_of_length_le (by omega)]
  | succ d ih =>
    intro j hd hj
    have hlt : j < l.length := by omega
    refine Ev.step (fun k => ?_) (ih (j + 1) (by omega) (by omega))
    simp only [rickyardlaw16_as.l0, rd_run hlt, w64n j (by omega)]
    rw [if_pos (by omega), if_pos (by omega), if_pos (by simp; omega), take_succ_eq_append_getElem hlt, map_append]
    rfl
theorem as_tells (l : List Ru) (hl : l.length ≤ 1000) : Ev (fun k => rickyardlaw16_as.f k l) (l.map cv) := as_from l hl l.length 0 rfl (by omega)

theorem same_from (l : List Ru) (hl : l.length ≤ 1000) (d : Nat) : ∀ j : Nat, l.length - j = d → j ≤ l.length → Ev (fun k => rickyardref16_Same.l0 k (l.map cv) (l.map cv) (j : Int)) true := by
  induction d with
  | zero =>
    intro j hd hj
    refine Ev.step (fun k => ?_) (Ev.now _)
    simp only [rickyardref16_Same.l0, length_map]
    rw [if_neg (by omega)]
  | succ d ih =>
    intro j hd hj
    refine Ev.step (fun k => ?_) (ih (j + 1) (by omega) (by omega))
    simp only [rickyardref16_Same.l0, w64n j (by omega), length_map]
    rw [if_pos (by omega), if_pos (by omega), if_pos (by omega), if_neg (by simp)]
theorem same_tells (l : List Ru) (hl : l.length ≤ 1000) : Ev (fun k => rickyardref16_Same.f k (l.map cv) (l.map cv)) true :=
  Ev.congr (fun k => by simp only [rickyardref16_Same.f]; rw [if_pos trivial]; rfl) (same_from l hl l.length 0 rfl (by omega))

theorem at_from (l : List Ru) (i : Int) (hl : l.length ≤ 1000) (d : Nat) : ∀ j : Nat, l.length - j = d → j ≤ l.length → Ev (fun k => rickyardref16_at.l0 k (l.map cv) i ((atL (l.take j) i).map cv) (j : Int)) ((atL l i).map cv) := by
  induction d with
  | zero =>
    intro j hd hj
    refine Ev.step (fun k => ?_) (Ev.now _)
    simp only [rickyardref16_at.l0, length_map]
    rw [if_neg (by omega), take_of_length_le (by omega)]
  | succ d ih =>
    intro j hd hj
    have hlt : j < l.length := by omega
    refine Ev.step (fun k => ?_) (ih (j + 1) (by omega) (by omega))
    have hle : (atL (l.take j) i).length ≤ 1000 := Nat.le_trans (length_filter_le _ _) (by rw [length_take]; omega)
    simp only [rickyardref16_at.l0, rd_cv hlt, w64n j (by omega), length_map]
    rw [if_pos (by omega), if_pos (by omega), take_succ_eq_append_getElem hlt]
    by_cases h : l[j].f1 = i
    · rw [if_pos (show (cv l[j]).f1 = i from h), if_pos (by omega)]
      congr 1
      unfold atL
      rw [filter_append, map_append]
      simp [h, cv]
    · rw [if_neg (show ¬ (cv l[j]).f1 = i from h)]
      congr 1
      unfold atL
      rw [filter_append]
      simp [h]
theorem at_tells (l : List Ru) (i : Int) (hl : l.length ≤ 1000) : Ev (fun k => rickyardref16_at.f k (l.map cv) i) ((atL l i).map cv) := at_from l i hl l.length 0 rfl (by omega)

theorem files_from (l : List Ru) (hl : l.length ≤ 1000) (d : Nat) : ∀ j : Nat, l.length - j = d → j ≤ l.length → Ev (fun k => rickyardref16_files.l0 k (l.map cv) ((l.take j).map (·.f0)) (j : Int)) (l.map (·.f0)) := by
  induction d with
  | zero =>
    intro j hd hj
    refine Ev.step (fun k => ?_) (Ev.now _)
    simp only [rickyardref16_files.l0, length_map]
    rw [if_neg (by omega), take_of_length_le (by omega)]
  | succ d ih =>
    intro j hd hj
    have hlt : j < l.length := by omega
    refine Ev.step (fun k => ?_) (ih (j + 1) (by omega) (by omega))
    simp only [rickyardref16_files.l0, rd_cv hlt, w64n j (by omega), length_map]
    rw [if_pos (by omega), if_pos (by omega), if_pos (by simp; omega), take_succ_eq_append_getElem hlt, map_append]
    rfl
theorem files_tells (l : List Ru) (hl : l.length ≤ 1000) : Ev (fun k => rickyardref16_files.f k (l.map cv)) (l.map (·.f0)) := files_from l hl l.length 0 rfl (by omega)

/-! Right: each run against those ahead of it. -/
/-- Is the i-th run one that a tree may have, behind those ahead of it? -/
def okAt (l : List Ru) (i : Nat) : Prop := ∀ h : i < l.length, gd l[i] ∧ ∀ k, ∀ hk : k < i, P2 l[k] l[i]
theorem tree_okAt {l : List Ru} : Tree l ↔ l.length ≤ 64 ∧ ∀ i, i < l.length → okAt l i := by
  constructor
  · intro h
    refine ⟨h.len, fun i hi _ => ⟨h.good _ (getElem_mem hi), fun k hk => ?_⟩⟩
    have := h.two
    rw [pairwise_iff_getElem] at this
    exact this k i (by omega) hi hk
  · rintro ⟨h1, h2⟩
    refine ⟨h1, fun r hr => ?_, ?_⟩
    · obtain ⟨i, hi, rfl⟩ := mem_iff_getElem.1 hr
      exact (h2 i hi hi).1
    · rw [pairwise_iff_getElem]
      intro i j hi hj hij
      exact (h2 j hj hj).2 i hij
theorem right_inner {l : List Ru} (hl : l.length ≤ 64) {i : Nat} (hi : i < l.length) {r : Bool} (next : (∀ k, ∀ hk : k < i, P2 l[k] l[i]) → Ev (fun k => rickyardref16_Right.l0 k (l.map cv) ((i + 1 : Nat) : Int)) r)
    (bad : ¬ (∀ k, ∀ hk : k < i, P2 l[k] l[i]) → r = false) (d : Nat) : ∀ j : Nat, i - j = d → j ≤ i → (∀ k, k < j → ∀ hk' : k < i, P2 l[k] l[i]) → Ev (fun k => rickyardref16_Right.l1 k (l.map cv) (i : Int) (j : Int)) r := by
  induction d with
  | zero =>
    intro j hd hj hp
    refine Ev.step (fun k => ?_) (next fun k hk => hp k (by omega) hk)
    simp only [rickyardref16_Right.l1, w64n i (by omega)]
    rw [if_neg (by omega)]
  | succ d ih =>
    intro j hd hj hp
    have hlt : j < i := by omega
    have hjl : j < l.length := by omega
    by_cases h : P2 l[j] l[i]
    · refine Ev.step (fun k => ?_) (ih (j + 1) (by omega) (by omega) (fun k hk hk' => by
        rcases Nat.lt_succ_iff_lt_or_eq.1 hk with hk | rfl
        · exact hp k hk hk'
        · exact h))
      simp only [rickyardref16_Right.l1, rd_cv hi, rd_cv hjl, w64n j (by omega), length_map]
      rw [if_pos (by omega), if_pos (by omega), if_pos (by omega), if_pos (by omega), if_pos (by omega), if_neg (show ¬ (cv l[j]).f0 = (cv l[i]).f0 from h.1)]
      by_cases h1 : l[j].f1 = l[i].f1
      · rw [if_pos (show (cv l[j]).f1 = (cv l[i]).f1 from h1), if_pos (show (cv l[i]).f1 = 0 from h.2 h1)]
      · rw [if_neg (show ¬ (cv l[j]).f1 = (cv l[i]).f1 from h1)]
    · have hr := bad (fun hall => h (hall j hlt))
      subst hr
      refine Ev.step (fun k => ?_) (Ev.now false)
      simp only [rickyardref16_Right.l1, rd_cv hi, rd_cv hjl, length_map]
      rw [if_pos (by omega), if_pos (by omega), if_pos (by omega), if_pos (by omega), if_pos (by omega)]
      by_cases h0 : l[j].f0 = l[i].f0
      · rw [if_pos (show (cv l[j]).f0 = (cv l[i]).f0 from h0)]
      · rw [if_neg (show ¬ (cv l[j]).f0 = (cv l[i]).f0 from h0)]
        have h1 : l[j].f1 = l[i].f1 ∧ ¬ l[i].f1 = 0 := by
          unfold P2 at h
          by_cases e : l[j].f1 = l[i].f1
          · exact ⟨e, fun e0 => h ⟨h0, fun _ => e0⟩⟩
          · exact absurd ⟨h0, fun e' => absurd e' e⟩ h
        rw [if_pos (show (cv l[j]).f1 = (cv l[i]).f1 from h1.1), if_neg (show ¬ (cv l[i]).f1 = 0 from h1.2)]
theorem right_from {l : List Ru} (hl : l.length ≤ 64) {r : Bool} (d : Nat) : ∀ i : Nat, l.length - i = d → i ≤ l.length → (r = true ↔ ∀ j, i ≤ j → j < l.length → okAt l j) → Ev (fun k => rickyardref16_Right.l0 k (l.map cv) (i : Int)) r := by
  induction d with
  | zero =>
    intro i hd hi hr
    have : r = true := hr.2 (fun j h1 h2 => by omega)
    subst this
    refine Ev.step (fun k => ?_) (Ev.now true)
    simp only [rickyardref16_Right.l0, length_map]
    rw [if_neg (by omega)]
  | succ d ih =>
    intro i hd hi hr
    have hlt : i < l.length := by omega
    by_cases hg : gd l[i]
    · have hn : Ev (fun k => rickyardref16_Right.l1 k (l.map cv) (i : Int) ((0 : Nat) : Int)) r := by
        refine right_inner hl hlt (fun hp => ih (i + 1) (by omega) (by omega) ?_) (fun hb => ?_) i 0 (by omega) (by omega) (fun k hk => by omega)
        · rw [hr]
          constructor
          · exact fun h j h1 h2 => h j (by omega) h2
          · intro h j h1 h2
            rcases Nat.lt_or_eq_of_le h1 with h3 | h3
            · exact h j (by omega) h2
            · subst h3; exact fun _ => ⟨hg, hp⟩
        · cases r with
          | false => rfl
          | true => exact absurd (hr.1 rfl i (Nat.le_refl _) hlt hlt).2 hb
      have hn2 : Ev (fun k => rickyardref16_Right.j1 k (l.map cv) (i : Int) false) r := Ev.step (fun k => by simp only [rickyardref16_Right.j1]; rfl) hn
      refine Ev.step (fun k => ?_) hn2
      obtain ⟨g1, g2, g3, g4⟩ := hg
      simp only [rickyardref16_Right.l0, rd_cv hlt, length_map, cv]
      rw [if_pos (by omega), if_pos (by omega), if_neg (by omega), if_neg (by omega), if_neg (by omega), decide_eq_false (by omega)]
    · have : r = false := by
        cases r with
        | false => rfl
        | true => exact absurd (hr.1 rfl i (Nat.le_refl _) hlt hlt).1 hg
      subst this
      have hn2 : Ev (fun k => rickyardref16_Right.j1 k (l.map cv) (i : Int) true) false := Ev.step (fun k => by simp only [rickyardref16_Right.j1]; rw [if_pos trivial]) (Ev.now false)
      refine Ev.step (fun k => ?_) hn2
      simp only [rickyardref16_Right.l0, rd_cv hlt, length_map, cv]
      rw [if_pos (by omega), if_pos (by omega)]
      unfold gd at hg
      by_cases g1 : l[i].f0 ≤ 0
      · rw [if_pos g1]
      · rw [if_neg g1]
        by_cases g2 : l[i].f1 < 0
        · rw [if_pos g2]
        · rw [if_neg g2]
          by_cases g3 : l[i].f1 > 3
          · rw [if_pos g3]
          · rw [if_neg g3, decide_eq_true (by omega)]
theorem right_tells (l : List Ru) : Ev (fun k => rickyardref16_Right.f k (l.map cv)) (rightB l) := by
  by_cases h : l.length ≤ 64
  · refine Ev.congr (fun k => ?_) (right_from h l.length 0 rfl (by omega) ?_)
    · simp only [rickyardref16_Right.f, length_map]
      rw [if_neg (by omega)]
      rfl
    · rw [right_iff, tree_okAt]
      exact ⟨fun h j _ => h.2 j, fun h' => ⟨h, fun j => h' j (by omega)⟩⟩
  · rw [(right_false l).2 (fun ht => h ht.len)]
    refine Ev.congr (fun k => ?_) (Ev.now false)
    simp only [rickyardref16_Right.f, length_map]
    rw [if_pos (by omega)]

/-! Full. -/
theorem rfull_tells (l : List Ru) (i : Int) : Ev (fun k => rickyardref16_Full.f k (l.map cv) i) (isFull l i) := by
  unfold isFull
  have hno : Ev (fun k => rickyardref16_Full.j0 k (l.map cv) i true) false := Ev.step (fun k => by simp only [rickyardref16_Full.j0]; rw [if_pos trivial]) (Ev.now false)
  refine Ev.bind (right_tells l) ?_
  by_cases ht : Tree l
  · have hl := ht.len
    rw [(right_iff l).2 ht]
    simp only [if_true, Bool.true_and]
    by_cases h0 : i < 0
    · rw [decide_eq_true h0, decide_eq_false (show ¬ 0 ≤ i by omega)]
      exact hno
    · rw [decide_eq_false h0, decide_eq_true (show 0 ≤ i by omega), Bool.true_and]
      refine Ev.step (f := fun k => (rickyardref16_at.f k (l.map cv) i).bind _) (fun k => by simp only [rickyardref16_Full.j0]; rfl) (Ev.bind (at_tells l i (by omega)) ?_)
      simp only [length_map]
      by_cases hz : i = 0
      · subst hz
        refine Ev.congr (fun k => ?_) (Ev.now _)
        rw [if_pos rfl]
        congr 1
        rw [Bool.eq_iff_iff, full_zero, decide_eq_true_iff]
        omega
      · by_cases h3 : i < 3
        · have hf := full_more ht (i := i) (by omega) h3
          have h1 := ht.one hz
          match hm : atL l i with
          | [] =>
            have : fullB l i = false := by
              cases hc : fullB l i with
              | false => rfl
              | true =>
                obtain ⟨r, e, _⟩ := hf.1 hc
                rw [hm] at e; cases e
            rw [this]
            refine Ev.congr (fun k => ?_) (Ev.now _)
            have : i = 1 ∨ i = 2 := by omega
            rcases this with rfl | rfl <;> rfl
          | [a] =>
            have he : fullB l i = decide ((cv a).f2 > (if i = 1 then 64 else 256)) := by
              rw [Bool.eq_iff_iff, hf, hm, decide_eq_true_iff]
              constructor
              · rintro ⟨r, e, h⟩; cases e; exact h
              · exact fun h => ⟨a, rfl, h⟩
            rw [he]
            refine Ev.congr (fun k => ?_) (Ev.now _)
            have : i = 1 ∨ i = 2 := by omega
            rcases this with rfl | rfl <;> rfl
          | a :: b :: t => rw [hm] at h1; simp at h1
        · rw [full_far (by omega)]
          refine Ev.congr (fun k => ?_) (Ev.now _)
          rw [if_neg hz, if_neg (by omega), if_neg (by omega)]
  · rw [(right_false l).2 ht]
    exact hno
end Go.Proofs.Ytnbbejhbnajdbaa.PickP
