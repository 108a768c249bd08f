/- What is left when a task's files are taken away, in closed form. No program in sight. -/
import Derived.Test.YtnbbejhbnajdbaaPickA
import Derived.Test.YtnbbejhbnajdbaaPickAfter
namespace Go.Proofs.Ytnbbejhbnajdbaa.PickP
open List Go.RowKit Go.Proofs.YtnbbejhbnajdbaaW.PrintWords Go.Proofs.YtnbbejhbnajdbaaW.PrintLast Go.Proofs.YtnbbejhbnajdbaaW.PrintMore Go.Proofs.Ytnbbejhbnajdbaa.PPick Go.Proofs.Ytnbbejhbnajdbaa.XLib

/-- What is left of a count when another one is taken away. -/
def sat (x s : Int) : Int := if s < x then x - s else 0
theorem sat_zero {x : Int} (h : 0 ≤ x) : sat x 0 = x := by unfold sat; split <;> omega
theorem sat_sat {x a b : Int} (_ : 0 ≤ a) (hb : 0 ≤ b) : sat (sat x a) b = sat x (a + b) := by unfold sat; repeat' split <;> omega
theorem sat_le {x a : Int} (hx : 0 ≤ x) (ha : 0 ≤ a) : 0 ≤ sat x a ∧ sat x a ≤ x := by unfold sat; split <;> omega

def sumIn (fs : List Int) : List Ru → Int
  | [] => 0
  | r :: l => (if r.f0 ∈ fs then r.f2 else 0) + sumIn fs l
def outOf (fs : List Int) (l : List Ru) : List Ru := l.filter fun r => decide (r.f0 ∉ fs)
theorem sumIn_nil (l : List Ru) : sumIn [] l = 0 := by
  induction l with
  | nil => rfl
  | cons a l ih => simp [sumIn, ih]
theorem sumIn_pos {fs : List Int} {l : List Ru} (h : ∀ r ∈ l, 1 ≤ r.f2) : 0 ≤ sumIn fs l := by
  induction l with
  | nil => simp [sumIn]
  | cons a l ih =>
    have h1 := ih (fun r hr => h r (mem_cons_of_mem _ hr))
    have h2 := h a (by simp)
    unfold sumIn
    split <;> omega

/-- The run with a file, in a row of unlike files. -/
theorem idx_facts {l : List Ru} {n : Int} : ∀ {i : Nat}, (l.map (·.f0)).Nodup → l.findIdx? (fun x => x.f0 == n) = some i →
    l.eraseIdx i = l.filter (fun r => decide (r.f0 ≠ n)) ∧ ∃ h : i < l.length, l[i].f0 = n ∧ ∀ fs : List Int, n ∉ fs → sumIn (n :: fs) l = l[i].f2 + sumIn fs (l.eraseIdx i) := by
  induction l with
  | nil => intro i _ h; simp at h
  | cons a l ih =>
    intro i hn h
    rw [map_cons, nodup_cons] at hn
    rw [findIdx?_cons] at h
    by_cases ha : a.f0 = n
    · rw [if_pos (by simpa using ha)] at h
      obtain rfl := Option.some.inj h
      have hno : ∀ r ∈ l, r.f0 ≠ n := fun r hr e => hn.1 (by rw [ha, ← e]; exact mem_map_of_mem hr)
      refine ⟨?_, by simp, by simpa using ha, fun fs hfs => ?_⟩
      · rw [eraseIdx_cons_zero, filter_cons_of_neg (by simpa using ha), filter_eq_self.2 (fun r hr => by simpa using hno r hr)]
      · rw [eraseIdx_cons_zero]
        simp only [getElem_cons_zero]
        unfold sumIn
        rw [if_pos (by simp [ha])]
        congr 1
        clear h hn ih
        induction l with
        | nil => rfl
        | cons b l ih2 =>
          have hb := hno b (by simp)
          unfold sumIn
          rw [ih2 (fun r hr => hno r (mem_cons_of_mem _ hr))]
          simp [hb]
    · rw [if_neg (by simpa using ha)] at h
      obtain ⟨j, hj, rfl⟩ := Option.map_eq_some_iff.1 h
      obtain ⟨h1, h2, h3, h4⟩ := ih hn.2 hj
      refine ⟨?_, by simpa using h2, by simpa using h3, fun fs hfs => ?_⟩
      · rw [eraseIdx_cons_succ, filter_cons_of_pos (by simpa using ha), h1]
      · rw [eraseIdx_cons_succ]
        simp only [getElem_cons_succ]
        have := h4 fs hfs
        unfold sumIn
        rw [this]
        have e : (a.f0 ∈ n :: fs) ↔ a.f0 ∈ fs := by simp [ha]
        by_cases hm : a.f0 ∈ fs
        · rw [if_pos (e.2 hm), if_pos hm]; omega
        · rw [if_neg (fun h => hm (e.1 h)), if_neg hm]; omega

theorem rd_run' {l : List Ru} {j : Nat} (h : j < l.length) : rd_T26 l (j : Int) = l[j] := rd_run h
/-- What is taken, in closed form. -/
theorem takeF_eq (fs : List Int) : ∀ (l : List Ru) (c : Int), (l.map (·.f0)).Nodup → (∀ r ∈ l, 1 ≤ r.f2) → 0 ≤ c → c ≤ 9223372036854775807 →
    takeF l c fs = if fs.Nodup ∧ ∀ x ∈ fs, x ∈ l.map (·.f0) then some (outOf fs l, sat c (sumIn fs l)) else none := by
  induction fs with
  | nil =>
    intro l c hn hp h0 h1
    rw [if_pos (by simp), sumIn_nil, sat_zero h0]
    unfold outOf
    rw [filter_eq_self.2 (by simp)]
    rfl
  | cons n ns ih =>
    intro l c hn hp h0 h1
    unfold takeF
    cases hi : l.findIdx? (fun x => x.f0 == n) with
    | none =>
      rw [if_neg]
      rintro ⟨_, h⟩
      obtain ⟨r, hr, e⟩ := mem_map.1 (h n (by simp))
      have := findIdx?_eq_none_iff.1 hi r hr
      simp [e] at this
    | some i =>
      obtain ⟨g1, g2, g3, g4⟩ := idx_facts hn hi
      have gsum := g4
      have hsub := eraseIdx_sublist l i
      have hp2 : ∀ r ∈ l.eraseIdx i, 1 ≤ r.f2 := fun r hr => hp r (hsub.subset hr)
      have hf2 := hp l[i] (getElem_mem g2)
      have hlast : wrap64 (c - if (rd_T26 l i).f2 < c then (rd_T26 l i).f2 else c) = sat c l[i].f2 := by
        rw [rd_run g2]
        unfold sat
        split
        · rw [w64] <;> omega
        · rw [w64] <;> omega
      simp only [hlast]
      have hs := sat_le h0 (show 0 ≤ l[i].f2 by omega)
      rw [ih (l.eraseIdx i) _ ((hsub.map _).nodup hn) hp2 hs.1 (by omega)]
      by_cases hc : (n :: ns).Nodup ∧ ∀ x ∈ n :: ns, x ∈ l.map (·.f0)
      · have hnn := (nodup_cons.1 hc.1)
        have hin : ∀ x ∈ ns, x ∈ (l.eraseIdx i).map (·.f0) := fun x hx => by
          obtain ⟨r, hr, e⟩ := mem_map.1 (hc.2 x (mem_cons_of_mem _ hx))
          refine mem_map.2 ⟨r, ?_, e⟩
          rw [g1]
          refine mem_filter.2 ⟨hr, ?_⟩
          have : x ≠ n := fun h => hnn.1 (h ▸ hx)
          simpa [e] using this
        rw [if_pos hc, if_pos ⟨hnn.2, hin⟩, sat_sat (by omega) (sumIn_pos hp2), ← gsum ns hnn.1]
        congr 2
        unfold outOf
        rw [g1, filter_filter]
        congr 1
        funext r
        simp [Bool.and_comm]
      · rw [if_neg hc, if_neg]
        rintro ⟨h2, h3⟩
        refine hc ⟨nodup_cons.2 ⟨fun hm => ?_, h2⟩, fun x hx => ?_⟩
        · obtain ⟨r, hr, e⟩ := mem_map.1 (h3 n hm)
          rw [g1] at hr
          have := (mem_filter.1 hr).2
          simp [e] at this
        · rcases mem_cons.1 hx with rfl | hx
          · exact mem_map.2 ⟨l[i], getElem_mem g2, g3⟩
          · obtain ⟨r, hr, e⟩ := mem_map.1 (h3 x hx)
            exact mem_map.2 ⟨r, hsub.subset hr, e⟩
theorem Tree.nodup {l : List Ru} (h : Tree l) : (l.map (·.f0)).Nodup := by
  unfold Nodup
  rw [pairwise_map]
  exact h.two.imp fun h => h.1
theorem after_some {l : List Ru} (h : wfF l) {file : Int} (hf : (Lit.int .i64 file).wf = true) (fs : List Int) (lv count : Int) : pick_After.f l fs lv file count = some (afterB l fs lv file count) := by
  unfold pick_After.f
  rw [if_pos ⟨all_eq_true.2 h, hf⟩]
end Go.Proofs.Ytnbbejhbnajdbaa.PickP
