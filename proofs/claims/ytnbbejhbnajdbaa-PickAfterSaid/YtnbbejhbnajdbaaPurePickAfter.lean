/- The plain law of PickAfter: what runs there are behind a task is told, or why it can't be. -/
import Derived.Test.YtnbbejhbnajdbaaPPickxSPickAfter
import Derived.Test.YtnbbejhbnajdbaaPickF
import Derived.Test.YtnbbejhbnajdbaaPickS
namespace Go.Proofs.Ytnbbejhbnajdbaa.Pure
open List Go.RowKit Go.Proofs.YtnbbejhbnajdbaaW.PrintWords Go.Proofs.YtnbbejhbnajdbaaW.PrintLast Go.Proofs.Ytnbbejhbnajdbaa.PPick Go.Proofs.Ytnbbejhbnajdbaa.PickP

section
variable {l : List Ru} {fs : List Int} {lv file count : Int}

/-- The reference's end. -/
def finalR (fs : List Int) (lv file count : Int) (out : List Ru) (named left : Int) : List Ru × Int :=
  if named ≠ fs.length ∨ 0 < left ∨ rightB (withNew out lv file count) = false then ([], 1) else (withNew out lv file count, 0)
/-- The reference's loop. -/
def refR (fs : List Int) (lv file count : Int) : List Ru → List Ru → Int → Int → List Ru × Int
  | [], out, named, left => finalR fs lv file count out named left
  | r :: rest, out, named, left =>
    if 1 < fs.count r.f0 ∨ fs.count r.f0 = 0 ∧ r.f0 = file then ([], 1)
    else if fs.count r.f0 = 0 then refR fs lv file count rest (out ++ [r]) named left
    else refR fs lv file count rest out (named + fs.count r.f0) (sat left r.f2)
def bothR (p : List Ru × Int) : List S56 × Int := (p.1.map cv, p.2)

theorem ref_end {out : List Ru} (hl : (withNew out lv file count).length ≤ 1000) (named left : Int) (i : Int) (hi : (l.length : Int) ≤ i) :
    Ev (fun k => rickyardref16_After.l0 k (l.map cv) file count (out.map cv) named left i fs lv) (bothR (finalR fs lv file count out named left)) := by
  refine Ev.step (f := fun k => if named = (fs.length : Int) then (if left > 0 then some (([] : List S56), (1 : Int)) else (rickyardref16_Right.f k ((withNew out lv file count).map cv)).bind fun t => if t = true then some ((withNew out lv file count).map cv, 0) else some ([], 1)) else some ([], 1)) (fun k => ?_) ?_
  · simp only [rickyardref16_After.l0, length_map]
    rw [if_neg (by omega)]
    unfold withNew at hl ⊢
    by_cases h : 0 < count
    · rw [if_pos h] at hl ⊢
      rw [if_pos (show count > 0 from h), if_pos (by simp at hl; omega)]
      simp only [Option.bind_some, map_append, map_cons, map_nil, cv]
    · rw [if_neg h] at hl ⊢
      rw [if_neg (show ¬ count > 0 from h)]
  · by_cases h1 : named = (fs.length : Int)
    · refine Ev.congr (fun k => if_pos h1) ?_
      by_cases h2 : left > 0
      · refine Ev.congr (fun k => if_pos h2) ?_
        have e : finalR fs lv file count out named left = ([], 1) := by unfold finalR; exact if_pos (.inr (.inl h2))
        rw [e]
        exact Ev.now _
      · refine Ev.congr (fun k => if_neg h2) (Ev.bind (right_tells _) ?_)
        cases h3 : rightB (withNew out lv file count) with
        | true =>
          have e : finalR fs lv file count out named left = (withNew out lv file count, 0) := by
            unfold finalR
            refine if_neg ?_
            rintro (h | h | h)
            · exact h h1
            · exact h2 h
            · rw [h3] at h; cases h
          rw [e]
          exact Ev.now _
        | false =>
          have e : finalR fs lv file count out named left = ([], 1) := by unfold finalR; exact if_pos (.inr (.inr h3))
          rw [e]
          exact Ev.now _
    · refine Ev.congr (fun k => if_neg h1) ?_
      have e : finalR fs lv file count out named left = ([], 1) := by unfold finalR; exact if_pos (.inl h1)
      rw [e]
      exact Ev.now _

theorem ref_inner {i : Nat} (hi : i < l.length) (_ : l.length ≤ 64) (hfs : fs.length ≤ 64) {out : List S56} {named left : Int} {R : List S56 × Int}
    (next : Ev (fun k => rickyardref16_After.l1 k (l.map cv) file count out named left (i : Int) (fs.count l[i].f0 : Nat) (fs.length : Nat) fs lv) R) (d : Nat) : ∀ c : Nat, fs.length - c = d → c ≤ fs.length →
    Ev (fun k => rickyardref16_After.l1 k (l.map cv) file count out named left (i : Int) ((fs.take c).count l[i].f0 : Nat) (c : Int) fs lv) R := by
  induction d with
  | zero =>
    intro c hd hc
    obtain rfl : c = fs.length := by omega
    rw [take_length]
    exact next
  | succ d ih =>
    intro c hd hc
    have hlt : c < fs.length := by omega
    have hn := ih (c + 1) (by omega) (by omega)
    rw [take_succ_eq_append_getElem hlt, count_append] at hn
    have hcl : (fs.take c).count l[i].f0 ≤ 64 := Nat.le_trans count_le_length (by rw [length_take]; omega)
    refine Ev.step (fun k => ?_) hn
    simp only [rickyardref16_After.l1, length_map, rd_at hlt, rd_cv hi, w64n c (by omega), w64n _ (show (fs.take c).count l[i].f0 < 4611686018427387904 by omega)]
    rw [if_pos (by omega), if_pos (by omega), if_pos (by omega), if_pos (by omega)]
    by_cases h : fs[c] = l[i].f0
    · rw [if_pos (by simpa [cv] using h)]
      congr 2
      simp [h]
    · rw [if_neg (by simpa [cv] using h)]
      congr 2
      simp [h]

theorem ref_loop (hl : l.length ≤ 64) (hfs : fs.length ≤ 64) (hcnt : ∀ r ∈ l, 1 ≤ r.f2) (d : Nat) : ∀ (i : Nat) (out : List Ru) (named left : Int), l.length - i = d → i ≤ l.length → out.length ≤ i → 0 ≤ named → named ≤ 64 * i → 0 ≤ left → left ≤ 9223372036854775807 →
    Ev (fun k => rickyardref16_After.l0 k (l.map cv) file count (out.map cv) named left (i : Int) fs lv) (bothR (refR fs lv file count (l.drop i) out named left)) := by
  induction d with
  | zero =>
    intro i out named left hd hi ho h0 h1 h2 h3
    rw [drop_eq_nil_of_le (by omega)]
    refine ref_end (out := out) ?_ named left i (by omega)
    unfold withNew
    split
    · rw [length_append, length_singleton]; omega
    · omega
  | succ d ih =>
    intro i out named left hd hi ho h0 h1 h2 h3
    have hlt : i < l.length := by omega
    have hc1 := hcnt _ (getElem_mem hlt)
    have hcl : fs.count l[i].f0 ≤ 64 := Nat.le_trans count_le_length hfs
    rw [drop_eq_getElem_cons hlt]
    unfold refR
    refine Ev.step (fun k => ?_) (ref_inner (out := out.map cv) (named := named) (left := left) (count := count) (file := file) (lv := lv) hlt hl hfs ?_ fs.length 0 (by omega) (by omega))
    · simp only [rickyardref16_After.l0, length_map]
      rw [if_pos (by omega)]
      rfl
    -- behind the inner loop
    have hj : ∀ b : Bool, (b = true ↔ (1 < fs.count l[i].f0 ∨ fs.count l[i].f0 = 0 ∧ l[i].f0 = file)) →
        Ev (fun k => rickyardref16_After.j3 k (l.map cv) file count (out.map cv) (named + fs.count l[i].f0) left (i : Int) (fs.count l[i].f0 : Nat) b fs lv)
          (bothR (if 1 < fs.count l[i].f0 ∨ fs.count l[i].f0 = 0 ∧ l[i].f0 = file then ([], 1) else if fs.count l[i].f0 = 0 then refR fs lv file count (l.drop (i + 1)) (out ++ [l[i]]) named left else refR fs lv file count (l.drop (i + 1)) out (named + fs.count l[i].f0) (sat left l[i].f2))) := by
      intro b hb
      by_cases hbad : 1 < fs.count l[i].f0 ∨ fs.count l[i].f0 = 0 ∧ l[i].f0 = file
      · rw [if_pos hbad, hb.2 hbad]
        refine Ev.step (fun k => ?_) (Ev.now _)
        simp only [rickyardref16_After.j3]
        rw [if_pos trivial]
        rfl
      · rw [if_neg hbad]
        have hbf : b = false := by
          cases b with
          | true => exact absurd (hb.1 rfl) hbad
          | false => rfl
        rw [hbf]
        by_cases h4 : fs.count l[i].f0 = 0
        · rw [if_pos h4]
          have hn := ih (i + 1) (out ++ [l[i]]) named left (by omega) (by omega) (by rw [length_append, length_singleton]; omega) h0 (by omega) h2 h3
          refine Ev.step (fun k => ?_) hn
          simp only [rickyardref16_After.j3, length_map, rd_cv hlt, w64n i (by omega)]
          rw [if_neg (by decide), if_pos (by omega), if_pos (by omega), if_pos (by omega), if_pos (by omega), h4]
          simp [cv]
        · rw [if_neg h4]
          have hs := sat_le h2 (show 0 ≤ l[i].f2 by omega)
          have hn := ih (i + 1) out (named + fs.count l[i].f0) (sat left l[i].f2) (by omega) (by omega) (by omega) (by omega) (by omega) hs.1 (by omega)
          refine Ev.step (fun k => ?_) hn
          simp only [rickyardref16_After.j3, length_map, rd_cv hlt, w64n i (by omega)]
          rw [if_neg (by decide), if_neg (by omega), if_pos (by omega), if_pos (by omega)]
          unfold sat
          by_cases h5 : l[i].f2 < left
          · rw [if_pos (show left > (cv l[i]).f2 from h5), if_pos h5, w64 (by show _ ≤ left - l[i].f2; omega) (by show left - l[i].f2 ≤ _; omega)]
            rfl
          · rw [if_neg (show ¬ left > (cv l[i]).f2 from h5), if_neg h5]
    have hw : wrap64 (named + (fs.count l[i].f0 : Nat)) = named + (fs.count l[i].f0 : Nat) := w64 (by omega) (by omega)
    by_cases g1 : 1 < fs.count l[i].f0
    · refine Ev.step (fun k => ?_) (hj true (by simp [g1]))
      simp only [rickyardref16_After.l1, hw]
      rw [if_neg (by omega), if_pos (by omega)]
    · by_cases g2 : fs.count l[i].f0 = 0
      · refine Ev.step (fun k => ?_) (hj (l[i].f0 == file) (by simp [g2]))
        simp only [rickyardref16_After.l1, hw, length_map, rd_cv hlt]
        rw [if_neg (by omega), if_neg (by omega), if_pos (by omega), if_pos (by omega), if_pos (by omega)]
        rfl
      · refine Ev.step (fun k => ?_) (hj false (by simp [g2]; omega))
        simp only [rickyardref16_After.l1, hw]
        rw [if_neg (by omega), if_neg (by omega), if_neg (by omega)]

/-- How many of the task's files are named by runs. -/
def named (fs : List Int) : List Ru → Int
  | [] => 0
  | r :: l => fs.count r.f0 + named fs l
theorem count_zero {fs : List Int} {x : Int} : fs.count x = 0 ↔ x ∉ fs := count_eq_zero
theorem refR_eq (l : List Ru) : ∀ (out : List Ru) (nm left : Int), (∀ r ∈ l, 1 ≤ r.f2) → 0 ≤ left → refR fs lv file count l out nm left =
    if (∃ r ∈ l, 1 < fs.count r.f0 ∨ r.f0 ∉ fs ∧ r.f0 = file) then ([], 1) else finalR fs lv file count (out ++ outOf fs l) (nm + named fs l) (sat left (sumIn fs l)) := by
  induction l with
  | nil =>
    intro out nm left _ h0
    rw [if_neg (by simp)]
    unfold refR named sumIn outOf
    rw [sat_zero h0]
    simp
  | cons a l ih =>
    intro out nm left hp h0
    have hpa := hp a (by simp)
    have hpl : ∀ r ∈ l, 1 ≤ r.f2 := fun r hr => hp r (mem_cons_of_mem _ hr)
    unfold refR
    by_cases hbad : 1 < fs.count a.f0 ∨ fs.count a.f0 = 0 ∧ a.f0 = file
    · rw [if_pos hbad, if_pos ⟨a, by simp, by rwa [count_zero] at hbad⟩]
    · rw [if_neg hbad]
      have hex : (∃ r ∈ a :: l, 1 < fs.count r.f0 ∨ r.f0 ∉ fs ∧ r.f0 = file) ↔ ∃ r ∈ l, 1 < fs.count r.f0 ∨ r.f0 ∉ fs ∧ r.f0 = file := by
        rw [count_zero] at hbad
        simp [hbad]
      by_cases h4 : fs.count a.f0 = 0
      · rw [if_pos h4, ih _ _ _ hpl h0]
        simp only [hex]
        have hm := count_zero.1 h4
        rw [show named fs (a :: l) = fs.count a.f0 + named fs l from rfl, show sumIn fs (a :: l) = (if a.f0 ∈ fs then a.f2 else 0) + sumIn fs l from rfl, if_neg hm]
        unfold outOf
        rw [filter_cons_of_pos (by simpa using hm), h4]
        simp
      · rw [if_neg h4, ih _ _ _ hpl (sat_le h0 (by omega)).1, sat_sat (by omega) (sumIn_pos hpl)]
        simp only [hex]
        have hm : a.f0 ∈ fs := by
          rcases Classical.em (a.f0 ∈ fs) with h | h
          · exact h
          · exact absurd (count_zero.2 h) h4
        rw [show named fs (a :: l) = fs.count a.f0 + named fs l from rfl, show sumIn fs (a :: l) = (if a.f0 ∈ fs then a.f2 else 0) + sumIn fs l from rfl, if_pos hm]
        unfold outOf
        rw [filter_cons_of_neg (by simpa using hm), Int.add_assoc]

/-- What of the task's files is named. -/
theorem named_eq (fs : List Int) (l : List Ru) (hn : (l.map (·.f0)).Nodup) : named fs l = (fs.countP fun x => decide (x ∈ l.map (·.f0)) : Nat) := by
  induction l with
  | nil => simp [named]
  | cons a l ih =>
    rw [map_cons, nodup_cons] at hn
    unfold named
    rw [ih hn.2]
    clear ih
    induction fs with
    | nil => simp
    | cons x fs ih =>
      rw [countP_cons, countP_cons, count_cons]
      have : (decide (x ∈ map (·.f0) (a :: l)) = true) ↔ (x = a.f0 ∨ decide (x ∈ map (·.f0) l) = true) := by simp
      by_cases h1 : x = a.f0
      · have h2 : ¬ decide (x ∈ map (·.f0) l) = true := by rw [h1]; simpa using hn.1
        rw [if_pos (by simp [h1]), if_neg h2, if_pos (this.2 (.inl h1))]
        omega
      · rw [if_neg (by simpa using h1)]
        by_cases h2 : decide (x ∈ map (·.f0) l) = true
        · rw [if_pos h2, if_pos (this.2 (.inr h2))]; omega
        · rw [if_neg h2, if_neg (fun h => (this.1 h).elim h1 h2)]; omega

theorem same_end (ht : Tree l) (h0 : 0 ≤ count) (h1 : count ≤ 9223372036854775807) : refR fs lv file count l [] 0 count = afterEnd lv file count (takeF l count fs) := by
  have hp : ∀ r ∈ l, 1 ≤ r.f2 := fun r hr => (ht.good r hr).2.2.2
  rw [refR_eq l [] 0 count hp h0, takeF_eq fs l count ht.nodup hp h0 h1]
  rw [nil_append, Int.zero_add, named_eq fs l ht.nodup]
  by_cases hc : fs.Nodup ∧ ∀ x ∈ fs, x ∈ l.map (·.f0)
  · rw [if_pos hc]
    have hle : ∀ x, ¬ 1 < fs.count x := fun x => by have := nodup_iff_count.1 hc.1 x; omega
    have hall : fs.countP (fun x => decide (x ∈ l.map (·.f0))) = fs.length := countP_eq_length.2 (fun x hx => by simpa using hc.2 x hx)
    rw [hall]
    unfold afterEnd
    simp only
    have hany : (outOf fs l).any (fun x => x.f0 == file) = true ↔ ∃ r ∈ l, 1 < fs.count r.f0 ∨ r.f0 ∉ fs ∧ r.f0 = file := by
      simp only [hle, false_or, any_eq_true, outOf, mem_filter, decide_eq_true_eq, beq_iff_eq]
      constructor
      · rintro ⟨r, ⟨h1, h2⟩, h3⟩; exact ⟨r, h1, h2, h3⟩
      · rintro ⟨r, h1, h2, h3⟩; exact ⟨r, ⟨h1, h2⟩, h3⟩
    by_cases hb : (outOf fs l).any (fun x => x.f0 == file) = true
    · rw [if_pos (hany.1 hb), if_pos (.inr hb)]
    · rw [if_neg (fun h => hb (hany.2 h))]
      unfold finalR
      by_cases hs : 0 < sat count (sumIn fs l)
      · rw [if_pos (.inr (.inl hs)), if_pos (.inl hs)]
      · rw [if_neg (c := 0 < sat count (sumIn fs l) ∨ _) (by simp only [hs, hb]; simp)]
        cases hr : rightB (withNew (outOf fs l) lv file count) with
        | true => rw [if_neg (by simp [hs]), if_pos rfl]
        | false => rw [if_pos (.inr (.inr rfl)), if_neg (by decide)]
  · rw [if_neg hc]
    unfold afterEnd
    by_cases hb : ∃ r ∈ l, 1 < fs.count r.f0 ∨ r.f0 ∉ fs ∧ r.f0 = file
    · rw [if_pos hb]
    · rw [if_neg hb]
      unfold finalR
      rw [if_pos]
      left
      intro e
      have hall : ∀ x ∈ fs, x ∈ l.map (·.f0) := by
        have := countP_eq_length.1 (Int.ofNat.inj e)
        intro x hx
        simpa using this x hx
      refine hc ⟨nodup_iff_count.2 fun x => ?_, hall⟩
      by_cases hx : x ∈ fs
      · obtain ⟨r, hr, rfl⟩ := mem_map.1 (hall x hx)
        have : ¬ 1 < fs.count r.f0 := fun h => hb ⟨r, hr, .inl h⟩
        omega
      · rw [count_zero.2 hx]; omega
end

theorem ref_after {l : List Ru} {fs : List Int} {lv file count : Int} (h1 : count ≤ 9223372036854775807) : Ev (fun k => rickyardref16_After.f k (l.map cv) fs lv file count) (bothR (afterB l fs lv file count)) := by
  refine Ev.bind (right_tells l) ?_
  unfold afterB
  have hj : ∀ b : Bool, b = true → Ev (fun k => rickyardref16_After.j0 k (l.map cv) file count b fs lv) (bothR ([], 1)) := fun b hb => Ev.step (fun k => by simp only [rickyardref16_After.j0]; rw [if_pos hb]; rfl) (Ev.now _)
  by_cases ht : Tree l
  · rw [(right_iff l).2 ht]
    refine Ev.congr (fun k => if_pos rfl) ?_
    by_cases g1 : file ≤ 0
    · rw [if_pos (.inr (.inl (by omega)))]
      exact Ev.congr (fun k => if_pos g1) (hj true rfl)
    refine Ev.congr (fun k => if_neg g1) ?_
    by_cases g2 : count < 0
    · rw [if_pos (.inr (.inr (.inl g2)))]
      exact Ev.congr (fun k => if_pos g2) (hj true rfl)
    refine Ev.congr (fun k => if_neg g2) ?_
    by_cases g3 : lv < 0
    · rw [if_pos (.inr (.inr (.inr (.inl g3))))]
      exact Ev.congr (fun k => if_pos g3) (hj true rfl)
    refine Ev.congr (fun k => if_neg g3) ?_
    by_cases g4 : lv > 3
    · rw [if_pos (.inr (.inr (.inr (.inr (.inl (by omega))))))]
      exact Ev.congr (fun k => if_pos g4) (hj true rfl)
    refine Ev.congr (fun k => if_neg g4) ?_
    by_cases g5 : 64 < fs.length
    · rw [if_pos (.inr (.inr (.inr (.inr (.inr g5)))))]
      exact hj _ (decide_eq_true (by omega))
    · rw [if_neg (by unfold afterBad; rw [(right_iff l).2 ht]; simp; omega), ← same_end ht (by omega) h1]
      refine Ev.step (fun k => ?_) (ref_loop ht.len (by omega) (fun r hr => (ht.good r hr).2.2.2) l.length 0 [] 0 count (by omega) (by omega) (by simp) (by omega) (by omega) (by omega) h1)
      simp only [rickyardref16_After.j0]
      rw [if_neg (by simp; omega)]
      rfl
  · rw [(right_false l).2 ht, if_pos (.inl ((right_false l).2 ht))]
    exact Ev.congr (fun k => if_neg (by decide)) (hj true rfl)

theorem after_len (l : List Ru) (fs : List Int) (lv file count : Int) : (afterB l fs lv file count).1.length ≤ 64 := by
  unfold afterB
  split
  · simp
  · unfold afterEnd
    split
    · simp
    · split
      · simp
      · split
        · rename_i h
          exact ((right_iff _).1 h).len
        · simp

theorem PickAfter : rickyardlaw16_PickAfter.Pure := by
  intro l fs lv file count hl _ _ hfile hcount
  have hw := wf_of hl
  refine Ev.rounds ?_
  unfold rickyardlaw16_PickAfter.f
  have hbad : ∀ b : Bool, b = true → Ev (fun k => rickyardlaw16_PickAfter.j0 k l file count b fs lv) true := fun b hb => Ev.step (fun k => by simp only [rickyardlaw16_PickAfter.j0]; rw [if_pos hb, alive_tells]; rfl) (Ev.now true)
  by_cases h : (l.length : Int) > 100
  · exact Ev.congr (fun k => if_pos h) (hbad true rfl)
  · refine Ev.congr (fun k => if_neg h) ?_
    by_cases h2 : (fs.length : Int) > 100
    · exact hbad _ (decide_eq_true h2)
    · rw [decide_eq_false h2]
      have hlen : l.length ≤ 1000 := by omega
      have hal := after_len l fs lv file count
      have hci : count ≤ 9223372036854775807 := by
        have h := hcount
        unfold Lit.wf at h
        have h2 := of_decide_eq_true (Bool.and_eq_true_iff.1 h).2
        exact h2
      refine Ev.step (f := fun k => (rickyardlaw16_as.f k l).bind fun t418 => (rickyardref16_After.f k t418 fs lv file count).bind fun bt421 => (rickyardlaw16_as.f k (afterB l fs lv file count).1).bind fun t426 => (rickyardref16_Same.f k t426 bt421.1).bind fun t429 => if t429 = true then some ((afterB l fs lv file count).2 == bt421.2) else some false) (fun k => ?_) ?_
      · simp only [rickyardlaw16_PickAfter.j0]
        rw [if_neg (by decide), after_some hw hfile, alive_tells]
        simp only [Option.bind_some, if_true]
      · refine Ev.bind (as_tells l hlen) (Ev.bind (ref_after hci) (Ev.bind (as_tells _ (by omega)) (Ev.bind (same_tells _ (by omega)) ?_)))
        simp only [if_true, bothR, BEq.rfl]
        exact Ev.now _
end Go.Proofs.Ytnbbejhbnajdbaa.Pure
