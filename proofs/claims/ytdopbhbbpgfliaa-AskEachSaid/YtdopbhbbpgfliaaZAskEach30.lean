import Derived.Test.YtdopbhbbpgfliaaZAskEach29
section
namespace Go.Proofs.Ytdopbhbbpgfliaa.PAsk
open Go.RowKit Go.Proofs.YtdopbhbbpgfliaaW.PrintWords Go.Proofs.YtdopbhbbpgfliaaW.PrintLast Go.Proofs.YtdopbhbbpgfliaaW.PrintMore Go.Proofs.Ytdopbhbbpgfliaa.GrainM Go.Proofs.Ytdopbhbbpgfliaa.GrainL
set_option linter.unusedVariables false
set_option linter.unusedSimpArgs false
set_option maxHeartbeats 8000000
set_option maxRecDepth 100000
def askedR (dims : List ByteArray) (T : Int) (x : Rw) : Prop := ordD x.f0 dims = 0 ∧ x.f1 ≤ T ∧ wrap64 (T - x.f1) < x.f2
theorem in_loop {all : List Rw} (h0 : all.length < 1000000) (hd : ∀ x ∈ all, x.f0.length < 10000000000000) {there : Bool} {err : Int} {dims : List ByteArray} {T lo hi mask : Int}
    (hfin : ∀ b : Bool, (b = true ↔ ∃ x ∈ all, askedR dims T x) → err = 0 → there = b ∨ T = 1099511627776) (d : Nat) : ∀ (i : Nat) (b : Bool), all.length - i = d → i ≤ all.length → (b = true ↔ ∃ x ∈ all.take i, askedR dims T x) →
    Ev (fun k => rickyardlaw17_AskEach.l1 k all there err b (i : Int) dims T lo hi mask) true := by
  induction d with
  | zero =>
    intro i b hdn hle hb
    refine Ev.step (f := fun k => (rickyardlaw17_alive.f k).bind fun t => if t = true then (if err = 0 then (if (there == b) = true then some true else some (T == 1099511627776)) else some true) else none) (fun k => ?_) (Ev.bind alive17_tells ?_)
    · simp only [rickyardlaw17_AskEach.l1]
      rw [if_neg (by omega)]
    · rw [List.take_of_length_le (by omega)] at hb
      refine Ev.congr (f := fun _ => some true) (fun k => ?_) (Ev.now true)
      simp only [if_true]
      by_cases he : err = 0
      · rw [if_pos he]
        rcases hfin b hb he with e | e
        · subst e; simp
        · subst e; simp
      · rw [if_neg he]
  | succ d ih =>
    intro i b hdn hle hb
    have hlt : i < all.length := by omega
    have hx := hd _ (List.getElem_mem hlt)
    have ht := List.take_succ_eq_append_getElem hlt
    have hex : (∃ x ∈ all.take (i + 1), askedR dims T x) ↔ (∃ x ∈ all.take i, askedR dims T x) ∨ askedR dims T all[i] := by
      rw [ht]
      constructor
      · rintro ⟨x, hx, h⟩
        rcases List.mem_append.1 hx with hx | hx
        · exact .inl ⟨x, hx, h⟩
        · rw [List.mem_singleton.1 hx] at h; exact .inr h
      · rintro (⟨x, hx, h⟩ | h)
        · exact ⟨x, List.mem_append_left _ hx, h⟩
        · exact ⟨_, List.mem_append_right _ (List.mem_singleton.2 rfl), h⟩
    cases b with
    | true =>
      refine Ev.step (fun k => ?_) (ih (i + 1) true (by omega) (by omega) (by rw [hex]; exact ⟨fun _ => .inl (hb.1 rfl), fun _ => rfl⟩))
      simp only [rickyardlaw17_AskEach.l1, kw64o i (by omega)]
      rw [if_pos (by omega), if_pos trivial]
    | false =>
      have hno : ¬ ∃ x ∈ all.take i, askedR dims T x := fun h => by cases hb.2 h
      have ho := order_tells all[i].f0 dims hx
      refine Ev.step (f := fun k => (rickyardref06_Order.f k all[i].f0 dims).bind fun t => (if t = 0 then (if all[i].f1 ≤ T then (rickyardlaw17_AskEach.l1 k all there err (decide ((wrap64 (T - all[i].f1)) < all[i].f2)) ((i + 1 : Nat) : Int) dims T lo hi mask) else (rickyardlaw17_AskEach.l1 k all there err false ((i + 1 : Nat) : Int) dims T lo hi mask)) else (rickyardlaw17_AskEach.l1 k all there err false ((i + 1 : Nat) : Int) dims T lo hi mask))) (fun k => ?_) (Ev.bind ho ?_)
      · simp only [rickyardlaw17_AskEach.l1, rd_row hlt, kw64o i (by omega)]
        rw [if_pos (by omega), if_neg (by decide), if_pos (by omega)]
      · by_cases c1 : ordD all[i].f0 dims = 0
        · simp only [if_pos c1]
          by_cases c2 : all[i].f1 ≤ T
          · simp only [if_pos c2]
            refine ih (i + 1) _ (by omega) (by omega) ?_
            rw [hex, decide_eq_true_iff]
            exact ⟨fun h => .inr ⟨c1, c2, h⟩, fun h => (h.resolve_left hno).2.2⟩
          · simp only [if_neg c2]
            refine ih (i + 1) false (by omega) (by omega) ?_
            rw [hex]
            exact ⟨(fun h => by cases h), fun h => absurd (h.resolve_left hno).2.1 c2⟩
        · simp only [if_neg c1]
          refine ih (i + 1) false (by omega) (by omega) ?_
          rw [hex]
          exact ⟨(fun h => by cases h), fun h => absurd (h.resolve_left hno).1 c1⟩
open Classical in
theorem each_loop {gs : List Gr} {keep w : Int} {l : List En} {rs all : List Rw} (hget : ∀ dims t, Ev (fun k => ask_Get.f k gs keep w l dims t) (if dimsB dims = true ∧ isT t then getT rs dims t else ([], 0, 0, 0, false, 0, 0, 0, 0, false, 110)))
    (hok : ∀ x ∈ rs, RowOk x) (h0 : all.length < 1000000) (hm : ∀ x ∈ all, x ∈ rs) {dims : List ByteArray} {T lo hi mask : Int}
    (hend : Ev (fun k => (ask_Get.f k gs keep w l dims T).bind fun bt => rickyardlaw17_AskEach.l1 k all bt.2.2.2.2.2.2.2.2.2.1 bt.2.2.2.2.2.2.2.2.2.2 false 0 dims T lo hi mask) true) (d : Nat) : ∀ i : Nat, all.length - i = d → i ≤ all.length →
    Ev (fun k => rickyardlaw17_AskEach.l0 k w l all (i : Int) gs keep dims T lo hi mask) true := by
  induction d with
  | zero =>
    intro i hdn hle
    refine Ev.step (fun k => ?_) hend
    simp only [rickyardlaw17_AskEach.l0]
    rw [if_neg (by omega)]
  | succ d ih =>
    intro i hdn hle
    have hlt : i < all.length := by omega
    have hrec := ih (i + 1) (by omega) (by omega)
    have hx := hm _ (List.getElem_mem hlt)
    have hxo := hok _ hx
    have hg := hget all[i].f0 all[i].f1
    rw [if_pos ⟨hxo.dims, hxo.time⟩] at hg
    obtain ⟨_, _, i3, i4⟩ := getM_facts (dims := all[i].f0) (t := all[i].f1) rs rowZ hok (.inl rfl)
    have hs := hxo.size
    obtain ⟨g1, g2⟩ := i3 _ hx ⟨rfl, Int.le_refl _, by omega⟩
    refine Ev.step (f := fun k => (ask_Get.f k gs keep w l all[i].f0 all[i].f1).bind fun bt607 => (if bt607.2.2.2.2.2.2.2.2.2.2 = 0 then (if bt607.2.2.2.2.2.2.2.2.2.1 = true then (if bt607.2.2.2.1 < (all[i].f3.f0) then (none) else (if bt607.2.2.1 < (all[i].f2) then (none) else (if bt607.2.1 > (all[i].f1) then (none) else (if (all[i].f2) = bt607.2.2.1 then (if bt607.2.1 = (all[i].f1) then (rickyardlaw17_AskEach.l0 k w l all ((i + 1 : Nat) : Int) gs keep dims T lo hi mask) else (none)) else (rickyardlaw17_AskEach.l0 k w l all ((i + 1 : Nat) : Int) gs keep dims T lo hi mask))))) else (none)) else (none))) (fun k => ?_) (Ev.bind hg ?_)
    · simp only [rickyardlaw17_AskEach.l0, rd_row hlt, kw64o i (by omega)]
      rw [if_pos (by omega), if_pos (by omega)]
    · obtain ⟨o, ho⟩ : ∃ o, o = getM all[i].f0 all[i].f1 rs rowZ := ⟨_, rfl⟩
      unfold getT
      rw [← ho] at g1 g2 i4 ⊢
      simp only
      have hz : o.f2 > 0 := by omega
      obtain ⟨y, hy, cy, e1, e2⟩ : ∃ y ∈ rs, holdsR all[i].f0 all[i].f1 y ∧ o.f1 = y.f1 ∧ o.f2 = y.f2 := by
        rcases i4 with ⟨_, e⟩ | h
        · exfalso
          have : o.f2 = 0 := e
          omega
        · exact h
      have hyo := hok y hy
      have hc := cy.2
      have hw : all[i].f2 = o.f2 → o.f1 = all[i].f1 := fun e => by
        have := within (t := y.f1) (u := all[i].f1) (s := all[i].f2) hs.1 (by rw [e, e2, hyo.step]; omega) (by unfold en; rw [e, e2, hyo.step]; omega)
        rw [hxo.step, e, e2, hyo.step] at this
        omega
      refine Ev.congr (fun k => ?_) hrec
      rw [if_pos trivial, if_pos (decide_eq_true hz), if_neg (by omega), if_neg (by omega), if_neg (by omega)]
      by_cases e : all[i].f2 = o.f2
      · rw [if_pos e, if_pos (hw e)]
      · rw [if_neg e]
theorem scan_rows {gs : List Gr} {keep w : Int} {l : List En} {rs : List Rw} (h2 : Ev (fun k => ask_rows.f k gs keep w l) (rs, 0)) (hl : rs.length < 1000000) : Ev (fun k => ask_Scan.f k gs keep w l [] 0 1099511627776) (rs.filter (inRange 0 1099511627776), 0) := by
  unfold ask_Scan.f
  refine Ev.bind h2 ?_
  simp only [if_true]
  have hk : key_Right.f ([] : List ByteArray) 0 0 = some true := by rw [key_right_tells]; rfl
  have hr : ask_ranged.f 0 1099511627776 = some true := rfl
  simp only [hk, hr, Option.bind_some, if_true]
  refine Ev.bind (scan_nil rs [] (by simp; omega)) (Ev.now _)
end Go.Proofs.Ytdopbhbbpgfliaa.PAsk
namespace Go.Proofs.Ytdopbhbbpgfliaa.Pure
open Go.RowKit Go.Proofs.YtdopbhbbpgfliaaW.PrintWords Go.Proofs.YtdopbhbbpgfliaaW.PrintLast Go.Proofs.YtdopbhbbpgfliaaW.PrintMore Go.Proofs.Ytdopbhbbpgfliaa.PAsk Go.Proofs.Ytdopbhbbpgfliaa.GrainM Go.Proofs.Ytdopbhbbpgfliaa.GrainL
theorem AskEach : rickyardlaw17_AskEach.Pure := by
  classical
  intro gs keep w l dims T lo hi mask _ _ _ hwl _ hT _ _ _
  refine Ev.rounds ?_
  unfold rickyardlaw17_AskEach.f
  have hal : Ev (fun k => (rickyardlaw17_alive.f k).bind fun t => some t) true := Ev.bind alive17_tells (Ev.now _)
  have hj0 : Ev (fun k => rickyardlaw17_AskEach.j0 k w l true gs keep dims T lo hi mask) true := Ev.step (fun k => by simp only [rickyardlaw17_AskEach.j0, if_true]) hal
  obtain ⟨t, ht, hf⟩ := great_ex l
  refine Ev.bind ht ?_
  cases t with
  | true => simp only [if_true]; exact hj0
  | false =>
    obtain ⟨l60, lk⟩ := hf rfl
    simp only [Bool.false_eq_true, if_false]
    have wl : ∀ x ∈ l, WfE x := fun x hx => wfE_of (hwl.2 x hx) (lk x hx)
    obtain ⟨t2, hm⟩ := many_one dims
    have hL : Ev (fun k => rickyardlaw17_Long.f k dims T lo hi mask) t2 := by unfold rickyardlaw17_Long.f; exact Ev.bind hm (Ev.now _)
    refine Ev.bind hL ?_
    cases t2 with
    | true => exact hj0
    | false =>
      refine Ev.step (f := fun k => (ask_Scan.f k gs keep w l ([] : List ByteArray) 0 1099511627776).bind fun bt => (if bt.2 = 0 then (rickyardlaw17_AskEach.l0 k w l bt.1 0 gs keep dims T lo hi mask) else ((rickyardlaw17_alive.f k).bind fun t => some t))) (fun k => by simp only [rickyardlaw17_AskEach.j0, Bool.false_eq_true, if_false]) ?_
      by_cases ok : okL gs keep w l
      case neg =>
        obtain ⟨e1, he1, h1⟩ := scan_errs (gs := gs) (keep := keep) (w := w) (l := l) (by omega) wl ok [] 0 1099511627776
        refine Ev.bind h1 ?_
        simp only [if_neg he1]
        exact hal
      obtain ⟨rs, hrs, hrw⟩ := rows_tells (gs := gs) (keep := keep) (w := w) (l := l) (by omega) wl ok
      obtain ⟨_, x2, x3, x4, _⟩ := foldM_ok wl ok
      have hlen := hrs.length
      have hok := rows_ok ok.1 hrs x2 x3
      have hlf := List.length_filter_le (inRange 0 1099511627776) rs
      refine Ev.bind (scan_rows hrw (by omega)) ?_
      simp only [if_true]
      have hget := get_gen hrw hok
      have hmm : ∀ x ∈ rs.filter (inRange 0 1099511627776), x ∈ rs := fun x hx => (List.mem_filter.1 hx).1
      have hdd : ∀ x ∈ rs.filter (inRange 0 1099511627776), x.f0.length < 10000000000000 := fun x hx => by
        have := (dims_iff.1 (hok x (hmm x hx)).dims).1
        omega
      refine each_loop hget hok (by omega) hmm ?_ _ 0 rfl (Nat.zero_le _)
      refine Ev.bind (hget dims T) ?_
      by_cases hb : dimsB dims = true ∧ isT T
      · rw [if_pos hb]
        obtain ⟨_, _, i3, i4⟩ := getM_facts (dims := dims) (t := T) rs rowZ hok (.inl rfl)
        refine in_loop (by omega) hdd (fun b hbb _ => ?_) _ 0 false rfl (Nat.zero_le _) (by simp)
        by_cases hTT : T = 1099511627776
        · exact .inr hTT
        refine .inl ?_
        obtain ⟨o, ho⟩ : ∃ o, o = getM dims T rs rowZ := ⟨_, rfl⟩
        have hti := hb.2
        unfold isT at hti
        have hiff : (∃ x ∈ rs.filter (inRange 0 1099511627776), askedR dims T x) ↔ o.f2 > 0 := by
          rw [← ho] at i3 i4
          constructor
          · rintro ⟨x, hx, c1, c2, c3⟩
            have hxo := hok x (hmm x hx)
            have hxt := hxo.time
            unfold isT at hxt
            rw [kw64 (by omega) (by omega)] at c3
            have := (i3 x (hmm x hx) ⟨ordD_zero.1 c1, c2, by omega⟩).1
            have := hxo.size
            omega
          · intro hz
            rcases i4 with ⟨_, e⟩ | ⟨y, hy, cy, _⟩
            · exfalso
              have : o.f2 = 0 := e
              omega
            · have hyo := hok y hy
              have hyt := hyo.time
              have hc := cy.2
              unfold isT at hyt
              refine ⟨y, List.mem_filter.2 ⟨hy, decide_eq_true ⟨by omega, by omega⟩⟩, ordD_zero.2 cy.1, cy.2.1, ?_⟩
              rw [kw64 (by omega) (by omega)]
              omega
        show decide ((getM dims T rs rowZ).f2 > 0) = b
        rw [← ho]
        cases b with
        | true => exact decide_eq_true (hiff.1 (hbb.1 rfl))
        | false => exact decide_eq_false (fun h => by cases hbb.2 (hiff.2 h))
      · rw [if_neg hb]
        exact in_loop (by omega) hdd (fun b _ h => absurd h (show ¬ (110 : Int) = 0 by decide)) _ 0 false rfl (Nat.zero_le _) (by simp)
end Go.Proofs.Ytdopbhbbpgfliaa.Pure
end
