/- The plain law of PickMay: what is offered may be done. -/
import Derived.Test.YtnbbejhbnajdbaaPPickxSPickMay
import Derived.Test.YtnbbejhbnajdbaaPickG
namespace Go.Proofs.Ytnbbejhbnajdbaa.Pure
open List Go.RowKit Go.Proofs.YtnbbejhbnajdbaaW.PrintWords Go.Proofs.YtnbbejhbnajdbaaW.PrintLast Go.Proofs.Ytnbbejhbnajdbaa.PPick Go.Proofs.Ytnbbejhbnajdbaa.PickP

theorem may_up {fs : List Int} (hl : fs.length ≤ 64) (hup : fs.Pairwise (· < ·)) {next : List Ru} {want lv : Int} (hw : (next.length : Int) = want) (d : Nat) : ∀ i : Nat, fs.length - i = d → 1 ≤ i →
    Ev (fun k => rickyardlaw16_PickMay.l0 k next want (i : Int) fs lv) true := by
  induction d with
  | zero =>
    intro i hd hi
    refine Ev.step (fun k => ?_) (Ev.now _)
    simp only [rickyardlaw16_PickMay.l0, alive_tells, Option.bind_some]
    rw [if_neg (by omega)]
    simp [hw]
  | succ d ih =>
    intro i hd hi
    have hlt : i < fs.length := by omega
    have e : wrap64 ((i : Int) - 1) = ((i - 1 : Nat) : Int) := by rw [w64] <;> omega
    refine Ev.step (fun k => ?_) (ih (i + 1) (by omega) (by omega))
    simp only [rickyardlaw16_PickMay.l0, e, rd_at hlt, rd_at (show i - 1 < fs.length by omega), w64n i (by omega)]
    have := (pairwise_iff_getElem.1 hup) (i - 1) i (by omega) hlt (by omega)
    rw [if_pos (by omega), if_pos (by omega), if_pos (by omega), if_pos (by omega), if_neg (by omega)]

theorem PickMay : rickyardlaw16_PickMay.Pure := by
  intro l none hl
  have hw := wf_of hl
  refine Ev.rounds ?_
  unfold rickyardlaw16_PickMay.f
  rw [offer_some hw]
  simp only [Option.bind_some]
  have hdone : ∀ lv : Int, Ev (fun k => rickyardlaw16_PickMay.j0 k l none true [] lv) true := fun lv => Ev.step (fun k => by simp only [rickyardlaw16_PickMay.j0]; rw [if_pos trivial, alive_tells]; rfl) (Ev.now true)
  have hcase : (∃ lv e, offerB l = ([], lv, false, e)) ∨ ∃ fs lv, offerB l = (fs, lv, true, 0) := by
    unfold offerB
    repeat' split
    · exact .inl ⟨_, _, rfl⟩
    · exact .inr ⟨_, _, rfl⟩
    · exact .inl ⟨_, _, rfl⟩
    · exact .inr ⟨_, _, rfl⟩
  rcases hcase with ⟨lv, e, he⟩ | ⟨fs, lv, he⟩
  · rw [he]
    simp only [Bool.not_false]
    split <;> exact hdone lv
  · rw [he]
    simp only [if_true, Bool.not_true]
    have ho := offer_offered he
    have ht := ho.tree
    have h64 := ht.len
    have hfs := ho.short
    have hpos : ∀ r ∈ l, 1 ≤ r.f2 := fun r hr => (ht.good r hr).2.2.2
    have hlen := out_len fs ht.nodup ho.nodup ho.mem
    have hne : 0 < fs.length := length_pos_iff.2 ho.ne
    have hr0 : rd fs 0 = fs[0] := rd_at (j := 0) hne
    have hm0 := ho.mem fs[0] (getElem_mem hne)
    obtain ⟨q, hq, hqf⟩ := mem_map.1 hm0
    have hf1 : 1 ≤ fs[0] := by have h := (ht.good q hq).1; have e : q.f0 = fs[0] := hqf; omega
    have hfw : (Lit.int .i64 fs[0]).wf = true := by have := hw q hq; rw [show q.f0 = fs[0] from hqf] at this; exact this
    have hnf : ∀ r ∈ l, r.f0 ∉ fs → r.f0 ≠ fs[0] := fun r _ h1 h2 => h1 (h2 ▸ getElem_mem hne)
    have hend : ∀ n : Int, 0 ≤ n → n ≤ 9223372036854775807 → n ≤ sumIn fs l → Ev (fun k => rickyardlaw16_PickMay.j1 k l fs[0] n fs lv) true := by
      intro n h0 h1 hs
      obtain ⟨ha, htr⟩ := ho.done (file := fs[0]) h0 h1 hs hf1 hnf
      have hwf : wfF (withNew (outOf fs l) lv fs[0] n) := by
        intro r hr
        unfold withNew at hr
        split at hr
        · rcases mem_append.1 hr with hr | hr
          · exact hw r (mem_out.1 hr).1
          · rw [mem_singleton.1 hr]; exact hfw
        · exact hw r (mem_out.1 hr).1
      refine Ev.step (f := fun k => rickyardlaw16_PickMay.j2 k l n (withNew (outOf fs l) lv fs[0] n) false fs lv) (fun k => ?_) ?_
      · simp only [rickyardlaw16_PickMay.j1]
        rw [after_some hw hfw, ha]
        simp only [Option.bind_some, if_true]
        rw [right_some hwf, (right_iff _).2 htr]
        rfl
      · have e1 : wrap64 ((l.length : Int) - (fs.length : Int)) = (l.length : Int) - (fs.length : Int) := by rw [w64] <;> omega
        have e2 : wrap64 ((l.length : Int) - (fs.length : Int) + 1) = (l.length : Int) - (fs.length : Int) + 1 := by rw [w64] <;> omega
        have hl3 : ∀ want : Int, ((withNew (outOf fs l) lv fs[0] n).length : Int) = want → Ev (fun k => rickyardlaw16_PickMay.j3 k (withNew (outOf fs l) lv fs[0] n) want fs lv) true := fun want hwant =>
          Ev.step (fun k => by simp only [rickyardlaw16_PickMay.j3]; rfl) (may_up hfs ho.up hwant (fs.length - 1) 1 rfl (Nat.le_refl _))
        by_cases hn : n > 0
        · refine Ev.step (fun k => ?_) (hl3 ((l.length : Int) - (fs.length : Int) + 1) (by unfold withNew; rw [if_pos hn, length_append, length_singleton]; omega))
          simp only [rickyardlaw16_PickMay.j2, e1, e2]
          rw [if_neg (by decide), if_pos hn]
        · refine Ev.step (fun k => ?_) (hl3 ((l.length : Int) - (fs.length : Int)) (by unfold withNew; rw [if_neg hn]; omega))
          simp only [rickyardlaw16_PickMay.j2, e1, e2]
          rw [if_neg (by decide), if_neg hn]
    have hb := tgt_le (fs := fs) hpos
    cases none with
    | true =>
      refine Ev.step (fun k => ?_) (hend 0 (by omega) (by omega) (sumIn_pos hpos))
      simp only [rickyardlaw16_PickMay.j0]
      rw [if_neg (by decide), if_pos (by omega), if_pos trivial, hr0]
    | false =>
      refine Ev.step (f := fun k => (rickyardlaw16_together.f k l fs lv).bind fun t => rickyardlaw16_PickMay.j1 k l fs[0] t fs lv) (fun k => ?_) (Ev.bind (tgt_tells h64 hfs ho.nodup hpos) (hend _ hb.1 (by omega) hb.2.1))
      simp only [rickyardlaw16_PickMay.j0]
      rw [if_neg (by decide), if_pos (by omega), if_neg (by decide), hr0]
end Go.Proofs.Ytnbbejhbnajdbaa.Pure
