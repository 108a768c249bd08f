/- The counts of a task's runs, told by the law's own loop. -/
import Derived.Test.YtnbbejhbnajdbaaPickN
import Derived.Test.YtnbbejhbnajdbaaPickS
import Derived.Test.YtnbbejhbnajdbaaPPickx23
namespace Go.Proofs.Ytnbbejhbnajdbaa.PickP
open List Go.RowKit Go.Proofs.YtnbbejhbnajdbaaW.PrintWords Go.Proofs.YtnbbejhbnajdbaaW.PrintLast Go.Proofs.YtnbbejhbnajdbaaW.PrintMore Go.Proofs.Ytnbbejhbnajdbaa.PPick Go.Proofs.Ytnbbejhbnajdbaa.XLib

section
variable {l : List Ru} {fs : List Int} {lv : Int}
theorem tgt_inner {i : Nat} (hi : i < l.length) (_ : l.length ≤ 64) (hfs : fs.length ≤ 64) (hn : fs.Nodup) (hp : 1 ≤ l[i].f2) {n : Int} (hn0 : 0 ≤ n) (hn1 : n ≤ 1099511627776 * 64) {R : Int}
    (next : Ev (fun k => rickyardlaw16_together.l0 k l (n + if l[i].f0 ∈ fs ∧ l[i].f2 < 1099511627776 then l[i].f2 else 0) ((i + 1 : Nat) : Int) fs lv) R) (d : Nat) : ∀ c : Nat, fs.length - c = d → c ≤ fs.length →
    Ev (fun k => rickyardlaw16_together.l1 k l (n + if l[i].f0 ∈ fs.take c ∧ l[i].f2 < 1099511627776 then l[i].f2 else 0) (i : Int) (c : Int) fs lv) R := by
  induction d with
  | zero =>
    intro c hd hc
    obtain rfl : c = fs.length := by omega
    rw [take_length]
    refine Ev.step (fun k => ?_) next
    simp only [rickyardlaw16_together.l1, w64n i (by omega)]
    rw [if_neg (by omega)]
  | succ d ih =>
    intro c hd hc
    have hlt : c < fs.length := by omega
    have hx := ih (c + 1) (by omega) (by omega)
    rw [take_succ_eq_append_getElem hlt] at hx
    have hsame : fs[c] = l[i].f0 → l[i].f0 ∉ fs.take c := by
      intro e hm
      rw [← e] at hm
      obtain ⟨j, hj, e2⟩ := mem_iff_getElem.1 hm
      rw [length_take] at hj
      rw [getElem_take] at e2
      exact (pairwise_iff_getElem.1 hn) j c (by omega) hlt (by omega) e2
    refine Ev.step (fun k => ?_) hx
    simp only [rickyardlaw16_together.l1, rd_at hlt, rd_run hi, w64n c (by omega)]
    rw [if_pos (by omega), if_pos (by omega), if_pos (by omega), if_pos (by omega)]
    by_cases h : fs[c] = l[i].f0
    · have hno := hsame h
      have hno2 : ¬ (l[i].f0 ∈ fs.take c ∧ l[i].f2 < 1099511627776) := fun e => hno e.1
      rw [if_pos h]
      by_cases h2 : l[i].f2 < 1099511627776
      · rw [if_pos h2, if_neg hno2, if_pos ⟨by simp [h], h2⟩, Int.add_zero, w64 (by omega) (by omega)]
      · rw [if_neg h2, if_neg hno2, if_neg (fun e => h2 e.2)]
    · rw [if_neg h]
      have e : (l[i].f0 ∈ fs.take c ++ [fs[c]]) ↔ l[i].f0 ∈ fs.take c := by
        rw [mem_append, mem_singleton]
        exact ⟨fun h' => h'.resolve_right (fun e => h e.symm), .inl⟩
      simp only [e]
theorem tgt_loop (hl : l.length ≤ 64) (hfs : fs.length ≤ 64) (hn : fs.Nodup) (hp : ∀ r ∈ l, 1 ≤ r.f2) (d : Nat) : ∀ i : Nat, l.length - i = d → i ≤ l.length →
    Ev (fun k => rickyardlaw16_together.l0 k l (tgt fs (l.take i)) (i : Int) fs lv) (tgt fs l) := by
  induction d with
  | zero =>
    intro i hd hi
    rw [take_of_length_le (by omega)]
    refine Ev.step (fun k => ?_) (Ev.now _)
    simp only [rickyardlaw16_together.l0]
    rw [if_neg (by omega)]
  | succ d ih =>
    intro i hd hi
    have hlt : i < l.length := by omega
    have hx := ih (i + 1) (by omega) (by omega)
    rw [take_succ_eq_append_getElem hlt, tgt_snoc] at hx
    have hb := tgt_le (fs := fs) (l := l.take i) (fun r hr => hp r ((take_sublist i l).subset hr))
    rw [length_take] at hb
    refine Ev.step (fun k => ?_) (tgt_inner hlt hl hfs hn (hp _ (getElem_mem hlt)) hb.1 (by omega) hx fs.length 0 (by omega) (by omega))
    simp only [rickyardlaw16_together.l0]
    rw [if_pos (by omega)]
    simp
theorem tgt_tells (hl : l.length ≤ 64) (hfs : fs.length ≤ 64) (hn : fs.Nodup) (hp : ∀ r ∈ l, 1 ≤ r.f2) : Ev (fun k => rickyardlaw16_together.f k l fs lv) (tgt fs l) := tgt_loop hl hfs hn hp l.length 0 (by omega) (by omega)
theorem Offered.short (h : Offered l fs lv) : fs.length ≤ 64 := by
  have := out_len fs h.tree.nodup h.nodup h.mem
  have := h.tree.len
  omega
end
end Go.Proofs.Ytnbbejhbnajdbaa.PickP
