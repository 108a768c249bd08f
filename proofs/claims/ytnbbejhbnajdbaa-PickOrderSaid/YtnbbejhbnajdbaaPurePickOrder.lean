/- The plain law of PickOrder: runs told from another one on are offered alike. -/
import Derived.Test.YtnbbejhbnajdbaaPPickxSPickOrder
import Derived.Test.YtnbbejhbnajdbaaPickA
namespace Go.Proofs.Ytnbbejhbnajdbaa.Pure
open List Go.RowKit Go.Proofs.YtnbbejhbnajdbaaW.PrintWords Go.Proofs.YtnbbejhbnajdbaaW.PrintLast Go.Proofs.Ytnbbejhbnajdbaa.PPick Go.Proofs.Ytnbbejhbnajdbaa.PickP

/-- The runs from the t-th on, j of them. -/
def turned (l : List Ru) (t j : Nat) : List Ru := (range j).map fun i => rd_T26 l (((i + t) % l.length : Nat) : Int)
theorem turned_all {l : List Ru} {t : Nat} (h : 0 < l.length) : turned l t l.length ~ l := by
  have e : turned l t l.length = l.drop (t % l.length) ++ l.take (t % l.length) := by
    have hs := Nat.mod_lt t h
    apply ext_getElem
    · simp [turned]; omega
    · intro i h1 h2
      have hi : i < l.length := by simpa [turned] using h1
      have hm : (i + t) % l.length = (i + t % l.length) % l.length := by rw [Nat.add_mod_mod]
      have hlt := Nat.mod_lt (i + t) h
      simp only [turned, getElem_map, getElem_range]
      rw [rd_run hlt]
      generalize hsd : t % l.length = s at *
      by_cases hc : i < l.length - s
      · rw [getElem_append_left (by simpa using hc), getElem_drop]
        congr 1
        rw [hm, Nat.mod_eq_of_lt (by omega)]; omega
      · rw [getElem_append_right (by simpa using hc), getElem_take]
        congr 1
        rw [hm, Nat.mod_eq_sub_mod (by omega), Nat.mod_eq_of_lt (by omega)]
        simp; omega
  rw [e]
  exact perm_append_comm.trans (by rw [take_append_drop])

theorem same_loop (a b : List Int) (x y : Int) (hab : a = b) (d : Nat) : ∀ j : Nat, a.length - j = d → a.length < 4611686018427387904 → Ev (fun k => rickyardlaw16_PickOrder.l1 k (j : Int) a x b y) true := by
  subst hab
  induction d with
  | zero =>
    intro j hd _
    refine Ev.step (fun k => ?_) (Ev.now true)
    simp only [rickyardlaw16_PickOrder.l1]
    rw [if_neg (by omega), alive_tells]
    rfl
  | succ d ih =>
    intro j hd hl
    refine Ev.step (fun k => ?_) (ih (j + 1) (by omega) hl)
    simp only [rickyardlaw16_PickOrder.l1]
    rw [if_pos (by omega), if_pos (by omega), if_pos (by omega), if_pos trivial, w64n j (by omega)]

theorem order_loop {l : List Ru} (ht : Tree l) (hw : wfF l) (h0 : 0 < l.length) (x : Int) (t : Nat) (hx : Go.bits .and .i64 x 1023 = (t : Int)) (h3 : t ≤ 1023) (d : Nat) : ∀ j : Nat, l.length - j = d → j ≤ l.length →
    Ev (fun k => rickyardlaw16_PickOrder.l0 k l x (turned l t j) (j : Int)) true := by
  have hlen := ht.len
  induction d with
  | zero =>
    intro j hd hj
    obtain rfl : j = l.length := by omega
    have hp := turned_all (t := t) h0
    have hw2 : wfF (turned l t l.length) := fun r hr => hw r (hp.mem_iff.1 hr)
    have hs : (offerB l).1.length < 4611686018427387904 := by
      rcases phase_cases ht with ⟨hno, _⟩ | ⟨i, hi, _, hf, hn, _⟩
      · rw [offer_none ht hno]
        split <;> simp
      · rw [offer_full ht hi hf hn]
        show (XLib.sorted (both l i)).length < _
        rw [(sorted_perm _).length_eq]
        exact Nat.lt_of_le_of_lt (both_len l i) (by omega)
    have h1 := same_loop (offerB l).1 (offerB l).1 (offerB l).2.1 (offerB l).2.1 rfl ((offerB l).1.length - 0) 0 rfl hs
    have h2 : Ev (fun k => rickyardlaw16_PickOrder.j2 k false (offerB l).1 (offerB l).2.1 (offerB l).1 (offerB l).2.1) true := Ev.step (fun k => by simp only [rickyardlaw16_PickOrder.j2]; rfl) h1
    refine Ev.step (fun k => ?_) h2
    simp only [rickyardlaw16_PickOrder.l0]
    rw [if_neg (by omega), offer_some hw, offer_some hw2, ← offer_perm ht hp.symm]
    simp
  | succ d ih =>
    intro j hd hj
    refine Ev.step (fun k => ?_) (ih (j + 1) (by omega) (by omega))
    have e1 : Int.tmod (wrap64 ((j : Int) + (t : Int))) (l.length : Int) = (((j + t) % l.length : Nat) : Int) := by
      rw [w64 (by omega) (by omega), Int.tmod_eq_emod_of_nonneg (by omega), Int.natCast_emod, Int.natCast_add]
    have hlt := Nat.mod_lt (j + t) h0
    simp only [rickyardlaw16_PickOrder.l0, hx, e1]
    rw [if_pos (by omega), if_neg (by omega), if_pos (by omega), if_pos (by omega), if_pos (by simp [turned]; omega), w64n j (by omega)]
    congr 1
    simp only [turned, range_succ, map_append]
    rfl

theorem PickOrder : rickyardlaw16_PickOrder.Pure := by
  intro l x hl _
  have hw := wf_of hl
  refine Ev.rounds ?_
  unfold rickyardlaw16_PickOrder.f
  rw [right_some hw]
  simp only [Option.bind_some]
  have hdone : Ev (fun k => rickyardlaw16_PickOrder.j0 k l x true) true := Ev.step (fun k => by simp only [rickyardlaw16_PickOrder.j0]; rw [if_pos trivial, alive_tells]; rfl) (Ev.now true)
  by_cases ht : Tree l
  · rw [(right_iff l).2 ht]
    simp only [if_true]
    by_cases h0 : l.length = 0
    · rw [show ((l.length : Int) == 0) = true from by simp [h0]]
      exact hdone
    · rw [show ((l.length : Int) == 0) = false from by simpa using h0]
      obtain ⟨t, h3, hx⟩ := and_1023 x
      refine Ev.step (fun k => ?_) (order_loop ht hw (by omega) x t hx h3 l.length 0 rfl (by omega))
      simp [rickyardlaw16_PickOrder.j0, turned]
  · rw [(right_false l).2 ht]
    simpa using hdone
end Go.Proofs.Ytnbbejhbnajdbaa.Pure
