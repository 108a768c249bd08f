import Derived.Test.YtdopbhbbpgfliaaZAskAll26
section
namespace Go.Proofs.Ytdopbhbbpgfliaa.PAsk
open Go.RowKit Go.Proofs.YtdopbhbbpgfliaaW.PrintWords Go.Proofs.YtdopbhbbpgfliaaW.PrintLast Go.Proofs.YtdopbhbbpgfliaaW.PrintMore Go.Proofs.Ytdopbhbbpgfliaa.GrainM Go.Proofs.Ytdopbhbbpgfliaa.GrainL
set_option linter.unusedVariables false
set_option linter.unusedSimpArgs false
set_option maxHeartbeats 8000000
set_option maxRecDepth 100000
section
variable {mask : Int} {all some_ : List Rw} {dims : List ByteArray} {T lo hi : Int}
theorem all_l2 (hm : 0 ≤ mask) (h0 : all.length < 1000000) (hok : ∀ x ∈ all, RowOk x) {i : Nat} (hi' : i < some_.length) (h1 : some_.length < 1000000) {s p : Ag} {V : Bool}
    (hend : Ev (fun k => rickyardlaw17_AskAll.l1 k all some_ ((i + 1 : Nat) : Int) dims T lo hi mask s.f0 s.f1 s.f2.f0 s.f2.f1 s.f3 s.f4 (mergeA p some_[i].f3).f0 (mergeA p some_[i].f3).f1 (mergeA p some_[i].f3).f2.f0 (mergeA p some_[i].f3).f2.f1 (mergeA p some_[i].f3).f3 (mergeA p some_[i].f3).f4) V)
    (hp : okZ p) (hsi : okP some_[i].f3) (hto : totR zeroA (all.filter (fun x => decide (partM mask 0 x.f0 = some_[i].f0))) = some_[i].f3) (hri : ∀ (_ : 0 < i), ordD (some_[i - 1]'(by omega)).f0 some_[i].f0 < 0) (hdi : ∀ y ∈ some_, y.f0.length < 10000000000000) (d : Nat) :
    ∀ (j : Nat) (a : Ag), all.length - j = d → j ≤ all.length → a = totR zeroA ((all.take j).filter (fun x => decide (partM mask 0 x.f0 = some_[i].f0))) →
    Ev (fun k => rickyardlaw17_AskAll.l2 k all some_ (i : Int) (j : Int) dims T lo hi mask s.f0 s.f1 s.f2.f0 s.f2.f1 s.f3 s.f4 p.f0 p.f1 p.f2.f0 p.f2.f1 p.f3 p.f4 a.f0 a.f1 a.f2.f0 a.f2.f1 a.f3 a.f4) V := by
  have hmp := merge_tells (okZ_lo hp) hsi.1.2.1
  induction d with
  | zero =>
    intro j a hd hj ha
    rw [List.take_of_length_le (by omega), hto] at ha
    subst ha
    have hneg : ∀ q : Bool, (!(some_[i].f3.f0 == some_[i].f3.f0) || (!(some_[i].f3.f1 == some_[i].f3.f1) || ((!(some_[i].f3.f2.f0 == some_[i].f3.f2.f0) || (!(some_[i].f3.f2.f1 == some_[i].f3.f2.f1))) || (!(some_[i].f3.f3 == some_[i].f3.f3) || (!(some_[i].f3.f4 == some_[i].f3.f4)))))) = false := fun _ => by simp
    by_cases hz : 0 < i
    · have hlt : i - 1 < some_.length := by omega
      have hw : wrap64 ((i : Int) - 1) = ((i - 1 : Nat) : Int) := by rw [kw64] <;> omega
      refine Ev.step (f := fun k => (rickyardref06_Order.f k (some_[i - 1]'hlt).f0 some_[i].f0).bind fun t => (if t ≥ 0 then none else (rickyardlaw17_AskAll.l1 k all some_ ((i + 1 : Nat) : Int) dims T lo hi mask s.f0 s.f1 s.f2.f0 s.f2.f1 s.f3 s.f4 (mergeA p some_[i].f3).f0 (mergeA p some_[i].f3).f1 (mergeA p some_[i].f3).f2.f0 (mergeA p some_[i].f3).f2.f1 (mergeA p some_[i].f3).f3 (mergeA p some_[i].f3).f4))) (fun k => ?_) (Ev.bind (order_tells _ _ (hdi _ (List.getElem_mem hlt))) ?_)
      · simp only [rickyardlaw17_AskAll.l2, rd_row hi', hw, rd_row hlt, hneg true, hmp, Option.bind_some, kw64o i (by omega)]
        rw [if_neg (by omega), if_pos (by omega), if_pos (by omega), if_neg (by decide), if_pos (by omega), if_pos (by omega), if_pos (by omega)]
      · have := hri hz
        simp only [if_neg (show ¬ ordD (some_[i - 1]'hlt).f0 some_[i].f0 ≥ 0 by omega)]
        exact hend
    · refine Ev.step (fun k => ?_) hend
      simp only [rickyardlaw17_AskAll.l2, rd_row hi', hneg true, hmp, Option.bind_some, kw64o i (by omega)]
      rw [if_neg (by omega), if_pos (by omega), if_pos (by omega), if_neg (by decide), if_neg (by omega)]
  | succ d ih =>
    intro j a hd hj ha
    have hlt : j < all.length := by omega
    have hx := hok _ (List.getElem_mem hlt)
    have ht := List.take_succ_eq_append_getElem hlt
    have h4 := (dims_iff.1 hx.dims).1
    have hpl := partM_len mask all[j].f0 0
    have haz : okZ a := by
      rw [ha]
      exact okZ_tot (.inl rfl) (fun y hy => (hok y (List.mem_of_mem_take (List.mem_filter.1 hy).1)).agg)
    have hma := merge_tells (okZ_lo haz) hx.agg.1.2.1
    refine Ev.step (f := fun k => (key_Part.f k all[j].f0 mask).bind fun bt => (rickyardref06_Order.f k bt.1 some_[i].f0).bind fun t => (if t = 0 then (rickyardlaw17_AskAll.l2 k all some_ (i : Int) ((j + 1 : Nat) : Int) dims T lo hi mask s.f0 s.f1 s.f2.f0 s.f2.f1 s.f3 s.f4 p.f0 p.f1 p.f2.f0 p.f2.f1 p.f3 p.f4 (mergeA a all[j].f3).f0 (mergeA a all[j].f3).f1 (mergeA a all[j].f3).f2.f0 (mergeA a all[j].f3).f2.f1 (mergeA a all[j].f3).f3 (mergeA a all[j].f3).f4) else (rickyardlaw17_AskAll.l2 k all some_ (i : Int) ((j + 1 : Nat) : Int) dims T lo hi mask s.f0 s.f1 s.f2.f0 s.f2.f1 s.f3 s.f4 p.f0 p.f1 p.f2.f0 p.f2.f1 p.f3 p.f4 a.f0 a.f1 a.f2.f0 a.f2.f1 a.f3 a.f4))) (fun k => ?_) (Ev.bind (part_tells hm h4) (Ev.bind (order_tells (partM mask 0 all[j].f0) some_[i].f0 (by omega)) ?_))
    · simp only [rickyardlaw17_AskAll.l2, rd_row hi', rd_row hlt, hma, Option.bind_some, kw64o j (by omega), if_pos (show (j : Int) < (all.length : Int) by omega), if_pos (show (0 : Int) ≤ (j : Int) by omega), if_pos (show (i : Int) < (some_.length : Int) by omega), if_pos (show (0 : Int) ≤ (i : Int) by omega)]
    · by_cases c : ordD (partM mask 0 all[j].f0) some_[i].f0 = 0
      · simp only [if_pos c]
        refine ih (j + 1) _ (by omega) (by omega) ?_
        rw [ht, List.filter_append, List.filter_cons_of_pos (by simp [ordD_zero.1 c]), List.filter_nil, totR_snoc, ← ha]
      · simp only [if_neg c]
        refine ih (j + 1) _ (by omega) (by omega) ?_
        rw [ht, List.filter_append, List.filter_cons_of_neg (by simpa using fun h => c (ordD_zero.2 h)), List.filter_nil, List.append_nil]
        exact ha
theorem all_l1 (hm : 0 ≤ mask) (h0 : all.length < 1000000) (hok : ∀ x ∈ all, RowOk x) (h1 : some_.length < 1000000) {s : Ag} (hs : totR zeroA some_ = s) (hoks : ∀ y ∈ some_, okP y.f3)
    (hto : ∀ y ∈ some_, totR zeroA (all.filter (fun x => decide (partM mask 0 x.f0 = y.f0))) = y.f3) (hri : ∀ (i : Nat) (hi' : i < some_.length) (_ : 0 < i), ordD (some_[i - 1]'(by omega)).f0 some_[i].f0 < 0) (hdi : ∀ y ∈ some_, y.f0.length < 10000000000000) (d : Nat) :
    ∀ (i : Nat) (p : Ag), some_.length - i = d → i ≤ some_.length → p = totR zeroA (some_.take i) →
    Ev (fun k => rickyardlaw17_AskAll.l1 k all some_ (i : Int) dims T lo hi mask s.f0 s.f1 s.f2.f0 s.f2.f1 s.f3 s.f4 p.f0 p.f1 p.f2.f0 p.f2.f1 p.f3 p.f4) true := by
  induction d with
  | zero =>
    intro i p hd hi' hp
    rw [List.take_of_length_le (by omega), hs] at hp
    subst hp
    refine Ev.step (f := fun k => (rickyardlaw17_alive.f k).bind fun t => (if t = true then (some (p.f0 == p.f0 && (p.f1 == p.f1 && ((p.f2.f0 == p.f2.f0 && (p.f2.f1 == p.f2.f1)) && (p.f3 == p.f3 && (p.f4 == p.f4)))))) else none)) (fun k => ?_) (Ev.bind alive17_tells ?_)
    · simp only [rickyardlaw17_AskAll.l1]
      rw [if_neg (by omega)]
    · exact Ev.congr (fun k => by simp) (Ev.now true)
  | succ d ih =>
    intro i p hd hi' hp
    have hlt : i < some_.length := by omega
    have hpz : okZ p := by
      rw [hp]
      exact okZ_tot (.inl rfl) (fun y hy => hoks y (List.mem_of_mem_take hy))
    have hrec := ih (i + 1) (mergeA p some_[i].f3) (by omega) (by omega) (by rw [List.take_succ_eq_append_getElem hlt, totR_snoc, ← hp])
    have := all_l2 (dims := dims) (T := T) (lo := lo) (hi := hi) hm h0 hok hlt h1 hrec hpz (hoks _ (List.getElem_mem hlt)) (hto _ (List.getElem_mem hlt)) (hri i hlt) hdi _ 0 zeroA rfl (Nat.zero_le _) rfl
    refine Ev.step (fun k => ?_) this
    simp only [rickyardlaw17_AskAll.l1]
    rw [if_pos (by omega)]
    rfl
theorem all_l0 {one : List Rw} {f g : Int} (h0 : all.length < 1000000) (hok : ∀ x ∈ all, RowOk x) {V : Bool}
    (hend : Ev (fun k => rickyardlaw17_AskAll.l0 k all one f some_ g (all.length : Int) dims T lo hi mask (totR zeroA all).f0 (totR zeroA all).f1 (totR zeroA all).f2.f0 (totR zeroA all).f2.f1 (totR zeroA all).f3 (totR zeroA all).f4 0 false 0 0 0 0) V) (d : Nat) :
    ∀ (i : Nat) (a : Ag), all.length - i = d → i ≤ all.length → a = totR zeroA (all.take i) →
    Ev (fun k => rickyardlaw17_AskAll.l0 k all one f some_ g (i : Int) dims T lo hi mask a.f0 a.f1 a.f2.f0 a.f2.f1 a.f3 a.f4 0 false 0 0 0 0) V := by
  induction d with
  | zero =>
    intro i a hd hi' ha
    obtain rfl : i = all.length := by omega
    rw [List.take_length] at ha
    subst ha
    exact hend
  | succ d ih =>
    intro i a hd hi' ha
    have hlt : i < all.length := by omega
    have hx := hok _ (List.getElem_mem hlt)
    have haz : okZ a := by
      rw [ha]
      exact okZ_tot (.inl rfl) (fun y hy => (hok y (List.mem_of_mem_take hy)).agg)
    have hma := merge_tells (okZ_lo haz) hx.agg.1.2.1
    refine Ev.step (fun k => ?_) (ih (i + 1) (mergeA a all[i].f3) (by omega) (by omega) (by rw [List.take_succ_eq_append_getElem hlt, totR_snoc, ← ha]))
    simp only [rickyardlaw17_AskAll.l0, rd_row hlt, hma, Option.bind_some, kw64o i (by omega)]
    rw [if_pos (by omega), if_pos (by omega)]
end
theorem rises_one {M : List (KeyB × Rw)} {key : KeyB} (h : risesG M) (hk : ∀ p ∈ M, p.1 = key) : M.length ≤ 1 := by
  match M, h, hk with
  | [], _, _ => simp
  | [p], _, _ => simp
  | p :: q :: r, h, hk =>
    have ⟨h1, _⟩ := List.pairwise_cons.1 h
    have := h1 q (List.mem_cons_self)
    rw [hk p List.mem_cons_self, hk q (List.mem_cons_of_mem _ List.mem_cons_self)] at this
    exact absurd this (List.lt_irrefl _)
end Go.Proofs.Ytdopbhbbpgfliaa.PAsk
namespace Go.Proofs.Ytdopbhbbpgfliaa.Pure
open Go.RowKit Go.Proofs.YtdopbhbbpgfliaaW.PrintWords Go.Proofs.YtdopbhbbpgfliaaW.PrintLast Go.Proofs.YtdopbhbbpgfliaaW.PrintMore Go.Proofs.Ytdopbhbbpgfliaa.PAsk Go.Proofs.Ytdopbhbbpgfliaa.GrainM Go.Proofs.Ytdopbhbbpgfliaa.GrainL
theorem AskAll : rickyardlaw17_AskAll.Pure := by
  classical
  intro gs keep w l dims T lo hi mask _ _ _ hwl _ _ _ _ _
  refine Ev.rounds ?_
  unfold rickyardlaw17_AskAll.f
  have hal : Ev (fun k => (rickyardlaw17_alive.f k).bind fun t => some t) true := Ev.bind alive17_tells (Ev.now _)
  obtain ⟨t, ht, hf⟩ := great_ex l
  refine Ev.bind ht ?_
  cases t with
  | true => simp only [if_true]; exact hal
  | false =>
    obtain ⟨l60, lk⟩ := hf rfl
    simp only [Bool.false_eq_true, if_false]
    have wl : ∀ x ∈ l, WfE x := fun x hx => wfE_of (hwl.2 x hx) (lk x hx)
    by_cases ok : okL gs keep w l
    case neg =>
      obtain ⟨e, he, h⟩ := rows_errs (gs := gs) (keep := keep) (w := w) (l := l) (by omega) wl ok
      refine Ev.bind (scan_errs' he h [] lo hi) (Ev.bind (roll_errs he h 0 lo hi) (Ev.bind (roll_errs he h mask lo hi) ?_))
      simp only [if_neg he, if_true]
      exact Ev.bind alive17_tells (by simp only [if_true]; exact Ev.now _)
    obtain ⟨rs, hrs, hrw⟩ := rows_tells (gs := gs) (keep := keep) (w := w) (l := l) (by omega) wl ok
    obtain ⟨_, x2, x3, x4, _⟩ := foldM_ok wl ok
    have hlen := hrs.length
    have hok := rows_ok ok.1 hrs x2 x3
    obtain ⟨tr, htr⟩ := ranged_is lo hi
    have hl6 : rs.length < 1000000 := by omega
    refine Ev.bind (scan_any hrw hl6 htr) (Ev.bind (roll_gen hrw hok hl6 htr 0) (Ev.bind (roll_gen hrw hok hl6 htr mask) ?_))
    cases tr with
    | false =>
      simp only [Bool.false_eq_true, if_false, ite_self, if_neg (show ¬ (1 : Int) = 0 by decide), if_true]
      exact Ev.bind alive17_tells (by simp only [if_true]; exact Ev.now _)
    | true =>
      simp only [if_true, if_neg (show ¬ (0 : Int) < 0 by decide)]
      have I0 := roll_inv (mask := 0) (lo := lo) (hi := hi) hok
      obtain ⟨all, hall⟩ : ∃ all, all = rs.filter (inRange lo hi) := ⟨_, rfl⟩
      have hlf := List.length_filter_le (inRange lo hi) rs
      rw [← hall] at I0 hlf ⊢
      have hoka : ∀ x ∈ all, RowOk x := fun x hx => hok x (by rw [hall] at hx; exact (List.mem_filter.1 hx).1)
      have hz0 : ∀ x ∈ all, partM 0 0 x.f0 = [] := fun x hx => partM_none _ _ (by have := (dims_iff.1 (hoka x hx).dims).1; omega)
      obtain ⟨M0, hM0⟩ : ∃ M, M = rollM 0 lo hi rs [] := ⟨_, rfl⟩
      rw [← hM0] at I0 ⊢
      have hd0 : ∀ p ∈ M0, p.2.f0 = [] := fun p hp => by
        obtain ⟨_, x, hx, e⟩ := I0.key p hp
        rw [← e]; exact hz0 x hx
      have hM1 : M0.length ≤ 1 := rises_one I0.rises (key := groupU []) (fun p hp => by rw [(I0.key p hp).1, hd0 p hp])
      have hsum := I0.all
      have hfin : ∀ (some_ : List Rw) (g : Int), Ev (fun k => rickyardlaw17_AskAll.j1 k all some_ g false dims T lo hi mask (totR zeroA all).f0 (totR zeroA all).f1 (totR zeroA all).f2.f0 (totR zeroA all).f2.f1 (totR zeroA all).f3 (totR zeroA all).f4 0 false 0 0 0 0) true →
          Ev (fun k => rickyardlaw17_AskAll.l0 k all (M0.map (·.2)) 0 some_ g 0 dims T lo hi mask 0 false 0 0 0 0 0 false 0 0 0 0) true := fun some_ g hj => by
        refine all_l0 (by omega) hoka ?_ _ 0 zeroA rfl (Nat.zero_le _) rfl
        match hM : M0, hM1, hd0, hsum, I0 with
        | [], _, _, _, I0 =>
          have ha : all = [] := Decidable.byContradiction fun h => I0.some_ h rfl
          refine Ev.step (fun k => ?_) hj
          simp only [rickyardlaw17_AskAll.l0]
          subst ha
          simp
        | [p], _, hd0, hsum, I0 =>
          have ha : all ≠ [] := fun h => by
            obtain ⟨_, x, hx, _⟩ := I0.key p List.mem_cons_self
            rw [h] at hx
            cases hx
          have hal0 : 0 < all.length := List.length_pos_iff.2 ha
          have hp0 := hd0 p List.mem_cons_self
          have hpe : p.2.f3 = totR zeroA all := by
            rw [← hsum]
            exact (mergeA_zero_left (a := zeroA) rfl).symm
          refine Ev.step (fun k => ?_) hj
          have hr0 : rd_T44 [p.2] 0 = p.2 := rfl
          simp only [rickyardlaw17_AskAll.l0, List.map_cons, List.map_nil, hr0, hp0, hpe]
          rw [if_neg (by omega), if_pos trivial]
          rw [if_neg (by simp; omega), if_pos (by simp), if_pos (by simp), if_neg (by simp)]
          rfl
        | p :: q :: r, h, _, _, _ => simp at h
      by_cases hm : mask < 0
      · simp only [if_pos hm]
        refine hfin [] 1 ?_
        refine Ev.step (f := fun k => (rickyardlaw17_alive.f k).bind fun t => (if t = true then (some (decide (mask < 0))) else none)) (fun k => ?_) (Ev.bind alive17_tells ?_)
        · simp only [rickyardlaw17_AskAll.j1]
          rw [if_neg (by decide), if_neg (by decide)]
        · simp only [if_true, decide_eq_true hm]; exact Ev.now _
      · simp only [if_neg hm]
        have I1 := roll_inv (mask := mask) (lo := lo) (hi := hi) hok
        rw [← hall] at I1
        have hml := rollM_len (mask := mask) (lo := lo) (hi := hi) rs []
        obtain ⟨M, hMM⟩ : ∃ M, M = rollM mask lo hi rs [] := ⟨_, rfl⟩
        rw [← hMM] at I1 hml ⊢
        simp only [List.length_nil, Nat.zero_add] at hml
        refine hfin _ 0 (Ev.step (fun k => ?_) (all_l1 (mask := mask) (some_ := M.map (·.2)) (dims := dims) (T := T) (lo := lo) (hi := hi) (by omega) (by omega) hoka (by simp; omega) I1.all (fun y hy => ?_) (fun y hy => ?_) (fun i hi' hz => ?_) (fun y hy => ?_) _ 0 zeroA rfl (Nat.zero_le _) rfl))
        · simp only [rickyardlaw17_AskAll.j1]
          rw [if_neg (by decide), if_pos trivial]
          rfl
        · obtain ⟨p, hp, rfl⟩ := List.mem_map.1 hy
          exact I1.ok p hp
        · obtain ⟨p, hp, rfl⟩ := List.mem_map.1 hy
          rw [← I1.known, ← (I1.key p hp).1, (lookG_mem I1.rises).1 (show (p.1, p.2) ∈ M from hp)]
          rfl
        · simp only [List.length_map] at hi'
          simp only [List.getElem_map]
          refine (group_lt _ _).1 ?_
          rw [← (I1.key _ (List.getElem_mem (show i - 1 < M.length by omega))).1, ← (I1.key _ (List.getElem_mem hi')).1]
          exact List.pairwise_iff_getElem.1 I1.rises (i - 1) i (by omega) hi' (by omega)
        · obtain ⟨p, hp, rfl⟩ := List.mem_map.1 hy
          obtain ⟨_, x, hx, e⟩ := I1.key p hp
          rw [← e]
          have h1 := partM_len mask x.f0 0
          have h2 := (dims_iff.1 (hoka x hx).dims).1
          omega
end Go.Proofs.Ytdopbhbbpgfliaa.Pure
end
