/- pick.After, walked by hand: what runs there are behind a task. -/
import Derived.Test.YtnbbejhbnajdbaaPickRight
import Derived.Test.YtnbbejhbnajdbaaSlRun2
import Derived.Test.YtnbbejhbnajdbaaSlRun3
namespace Go.Proofs.Ytnbbejhbnajdbaa.PPick
open Go.RowKit Go.Proofs.YtnbbejhbnajdbaaW.PrintWords Go.Proofs.YtnbbejhbnajdbaaW.PrintLast Go.Proofs.YtnbbejhbnajdbaaW.PrintMore Go.Proofs.Ytnbbejhbnajdbaa.XLib

attribute [local go_sem] max2_int min2_int max_two min_two
/-- The runs that are left when a task's files are taken away, and the count that is left. -/
def takeF : List S26 → Int → List Int → Option (List S26 × Int)
  | out, left, [] => some (out, left)
  | out, left, n :: ns => match out.findIdx? (fun x => x.f0 == n) with
    | none => none
    | some i => takeF (out.eraseIdx i) (wrap64 (left - if (rd_T26 out i).f2 < left then (rd_T26 out i).f2 else left)) ns
/-- With the new run, if it has a count. -/
def withNew (out : List S26) (lv file count : Int) : List S26 := if 0 < count then out ++ [⟨file, lv, count, false⟩] else out
def afterEnd (lv file count : Int) : Option (List S26 × Int) → List S26 × Int
  | none => ([], 1)
  | some (out, left) => if 0 < left ∨ out.any (fun x => x.f0 == file) = true then ([], 1) else if rightB (withNew out lv file count) = true then (withNew out lv file count, 0) else ([], 1)
def afterBad (l : List S26) (fs : List Int) (lv file count : Int) : Prop := rightB l = false ∨ file < 1 ∨ count < 0 ∨ lv < 0 ∨ 4 ≤ lv ∨ 64 < fs.length
instance (l : List S26) (fs : List Int) (lv file count : Int) : Decidable (afterBad l fs lv file count) := by unfold afterBad; infer_instance
def afterB (l : List S26) (fs : List Int) (lv file count : Int) : List S26 × Int := if afterBad l fs lv file count then ([], 1) else afterEnd lv file count (takeF l count fs)
/-- (of files' numbers that are ints) -/
def pick_After.f (l : List S26) (fs : List Int) (lv file count : Int) : Option (List S26 × Int) := if l.all (fun x => (Lit.int .i64 x.f0).wf) = true ∧ (Lit.int .i64 file).wf = true then some (afterB l fs lv file count) else none

theorem eraseIdx_mem {α : Type} {l : List α} {i : Nat} {x : α} (h : x ∈ l.eraseIdx i) : x ∈ l := (List.eraseIdx_sublist l i).subset h
/-- At a file's head. -/
structure FileRel (w : World) (l : List S26) (fs : List Int) (sv : Value) (lv file : Int) (R : Option (List S26 × Int)) (j : Nat) (v : Value) (left : Int) (xs : List S26) (wr : World) : Prop where
  le : j ≤ fs.length
  below : Below w.heap.size w wr
  task : wr.heap[w.heap.size]? = some (.cells #[sv, .int .i64 lv] 29 (0, 0))
  file_ : wr.heap[w.heap.size + 1]? = some (.cells #[.int .i64 file] 3 (0, 0))
  row : Kd.R k26 26 wr w.heap.size (fun _ => True) v xs
  sub : ∀ x ∈ xs, x ∈ l
  len : xs.length ≤ 64
  rest : takeF xs left (fs.drop j) = R

set_option maxHeartbeats 4000000 in
set_option maxRecDepth 100000 in
theorem pick_After.calls (A0 : Option Addr) (c0 : Nat) (l0 : List S26) (A1_0 : Option Addr) (c1_0 : Nat) (l1_0 : List Int) (a1_1 : Int) (a2 : Int) (a3 : Int) (r1 : List S26) (r2 : Int) (w : World) (hr0 : Kd.C k26 w A0 l0.length l0) (hc0 : l0.length ≤ c0) (hr1_0 : Kd.C (Kd.int .i64) w A1_0 l1_0.length l1_0) (_ : l1_0.length ≤ c1_0) (h : pick_After.f l0 l1_0 a1_1 a2 a3 = some (r1, r2)) :
    Calls Try.prog 19 #[.slice A0 l0.length c0, .agg #[.slice A1_0 l1_0.length c1_0, .int .i64 a1_1], .int .i64 a2, .int .i64 a3] w fun e w' => ∃ v0_ : Value, e = .returned (.tuple #[v0_, .int .i64 r2]) ∧ Kd.R k26 26 w' w.heap.size (fun _ => True) v0_ r1 ∧ Below w.heap.size w w' := by
  unfold pick_After.f at h
  by_cases hall : l0.all (fun x => (Lit.int .i64 x.f0).wf) = true ∧ (Lit.int .i64 a2).wf = true
  case neg => rw [if_neg hall] at h; cases h
  rw [if_pos hall] at h
  have ho : Hid (afterB l0 l1_0 a1_1 a2 a3 = (r1, r2)) := Lib.hid (Option.some.inj h)
  have HR : Hid (pick_Right.f l0 = some (rightB l0)) := Lib.hid (by unfold pick_Right.f; rw [if_pos hall.1])
  have HW : Hid (∀ x ∈ l0, (Lit.int .i64 x.f0).wf = true) := Lib.hid (List.all_eq_true.1 hall.1)
  have HF : Hid ((Lit.int .i64 a2).wf = true) := Lib.hid hall.2
  clear h hall
  have HC := Lib.hid hr0; clear hr0
  have HC1 := Lib.hid hr1_0; clear hr1_0
  by_cases hbad : afterBad l0 l1_0 a1_1 a2 a3
  · have ho' : Hid (([], 1) = (r1, r2)) := Lib.hid (by rw [← ho.out]; unfold afterB; rw [if_pos hbad])
    have HB := Lib.hid hbad; clear hbad ho
    generalize hrb : rightB l0 = rb at HR
    have HRB := Lib.hid hrb; clear hrb
    cases rb
    all_goals
      go_enter Try.func19, Try.ntmps19
      go_wp2_with (go_at_call 9; refine (pick_Right.calls A0 c0 l0 _ _ (Kd.C_below HC.out (((Below.refl _ _).alloc (Nat.le_refl _) _).alloc (by simp) _)) hc0 HR.out).mono ?_; rintro e w1 ⟨rfl, hb⟩; have hk := Lib.hid (blk_below (blk_alloc (blk_new w (.cells #[.slice A1_0 l1_0.length c1_0, .int .i64 a1_1] 29)) _) hb); have hk2 := Lib.hid (blk_below (blk_new (w.alloc (.cells #[.slice A1_0 l1_0.length c1_0, .int .i64 a1_1] 29)) _) hb); have hB := Lib.hid (below_step (((Below.refl w.heap.size w).alloc (Nat.le_refl _) _).alloc (by simp) _) hb); clear hb; have hc0_ := blk_cell hk.out 0; have hc1_ := blk_cell hk.out 1; have hc2_ := blk_cell hk2.out 0; simp at hc0_ hc1_ hc2_)
    all_goals first
      | (go_ret2; have e1 := ho'.out; simp only [Prod.mk.injEq] at e1; obtain ⟨rfl, rfl⟩ := e1; exact ⟨_, rfl, Kd.R_nil _ _ _ _ _, hB.out⟩)
      | (exfalso; have hx := HB.out; unfold afterBad at hx; rw [HRB.out] at hx; rcases hx with hx | hx | hx | hx | hx | hx <;> first | omega | (cases hx; done))
  · have ho' : Hid (afterEnd a1_1 a2 a3 (takeF l0 a3 l1_0) = (r1, r2)) := Lib.hid (by rw [← ho.out]; unfold afterB; rw [if_neg hbad])
    have hrb : rightB l0 = true := by
      cases h : rightB l0 with
      | true => rfl
      | false => exact absurd (Or.inl h) hbad
    have hlen : l0.length ≤ 64 := by
      have := hrb
      unfold rightB at this
      split at this
      · cases this
      · omega
    rw [hrb] at HR
    have g1 : decide (a2 < 1) = false := decide_eq_false (fun h => hbad (.inr (.inl h)))
    have g2 : decide (a3 < 0) = false := decide_eq_false (fun h => hbad (.inr (.inr (.inl h))))
    have g3 : decide (a1_1 < 0) = false := decide_eq_false (fun h => hbad (.inr (.inr (.inr (.inl h)))))
    have g4 : decide (4 ≤ a1_1) = false := decide_eq_false (fun h => hbad (.inr (.inr (.inr (.inr (.inl h))))))
    have g5 : decide (64 < (l1_0.length : Int)) = false := decide_eq_false (fun h => hbad (.inr (.inr (.inr (.inr (.inr (by omega)))))))
    have g5n : decide (64 < l1_0.length) = false := decide_eq_false (fun h => hbad (.inr (.inr (.inr (.inr (.inr h))))))
    have hfl : l1_0.length ≤ 64 := by simpa using g5n
    have hrb' := Lib.hid hrb
    clear hbad ho hrb
    go_enter Try.func19, Try.ntmps19
    go_wp2_with (first
      | (go_at_call 9; refine (pick_Right.calls A0 c0 l0 _ _ (Kd.C_below HC.out (((Below.refl _ _).alloc (Nat.le_refl _) _).alloc (by simp) _)) hc0 HR.out).mono ?_; rintro e w1 ⟨rfl, hb⟩; have hk := Lib.hid (blk_below (blk_alloc (blk_new w (.cells #[.slice A1_0 l1_0.length c1_0, .int .i64 a1_1] 29)) _) hb); have hk2 := Lib.hid (blk_below (blk_new (w.alloc (.cells #[.slice A1_0 l1_0.length c1_0, .int .i64 a1_1] 29)) (.cells #[.int .i64 a2] 3)) hb); have hB := Lib.hid (below_step (((Below.refl w.heap.size w).alloc (Nat.le_refl _) _).alloc (by simp) _) hb); clear hb; have hc0_ := blk_cell hk.out 0; have hc1_ := blk_cell hk.out 1; have hc2_ := blk_cell hk2.out 0; simp at hc0_ hc1_ hc2_)
      | (go_at_call 27; refine (clone_runs A0 c0 l0 _ (Kd.C_below HC.out hB.out) (by omega)).mono ?_; rintro e w2 ⟨v2, rfl, hr2, hb2⟩; have hK := Lib.hid (blk_below hk.out hb2); have hK2 := Lib.hid (blk_below hk2.out hb2); have hBB := Lib.hid (below_step hB.out hb2); have hRow := Lib.hid (Kd.R_lower hr2 hB.out.size); clear hr2 hb2 hc0_ hc1_ hc2_; have hc0_ := blk_cell hK.out 0; have hc1_ := blk_cell hK.out 1; have hc2_ := blk_cell hK2.out 0; simp at hc0_ hc1_ hc2_))
    go_loopw [10, 11, 48] (fun v lf ix wr => ∃ (j : Nat) (left : Int) (xs : List S26), ix = .int .i64 j ∧ lf = .int .i64 left ∧ FileRel w l0 l1_0 (.slice A1_0 l1_0.length c1_0) a1_1 a2 (takeF l0 a3 l1_0) j v left xs wr) (fun _ _ ix _ => l1_0.length - (intOf ix).toNat)
    case atStart => exact ⟨0, a3, l0, rfl, rfl, Nat.zero_le _, hBB.out, hK.out, by simpa using hK2.out, hRow.out, fun _ h => h, hlen, rfl⟩
    case round =>
      obtain ⟨j, left, xs, rfl, rfl, hI⟩ := hrel
      have HI := Lib.hid hI; clear hI hK hK2 hBB hRow hk hk2 hB
      obtain ⟨Av, cv_, rfl, hcv, _⟩ := Kd.R_reads HI.out.row
      by_cases hlt : j < l1_0.length
      · have e1 : decide ((j : Int) < (l1_0.length : Int)) = true := decide_eq_true (by omega)
        obtain ⟨ad, ha, hx0⟩ := Kd.at_int HC1.out (j : Int) (by omega) (by omega)
        subst ha
        obtain ⟨m, hm⟩ : ∃ m, m = rd l1_0 (j : Int) := ⟨_, rfl⟩
        rw [← hm] at hx0
        simp only [Int.toNat_natCast] at hx0
        replace hx0 := (HI.out.below.cell (World.block_lt_of_cell? w _ hx0)).trans hx0
        have hdrop : Hid (l1_0.drop j = m :: l1_0.drop (j + 1)) := Lib.hid (by
          rw [hm]; unfold rd
          rw [show ((j : Int)).toNat = j from by omega, List.getD_eq_getElem?_getD, List.getElem?_eq_getElem hlt]
          exact List.drop_eq_getElem_cons hlt)
        clear hm
        generalize hW1 : wr.alloc (.cells #[.int .i64 m] 3) = W1
        have hbW : Below wr.heap.size wr W1 := by rw [← hW1]; exact (Below.refl _ _).alloc (Nat.le_refl _) _
        have hmc : W1.cell? ⟨wr.heap.size, 0, none⟩ = some (.int .i64 m) := by rw [← hW1]; exact (blk_cell (blk_new wr _) 0)
        have hml : wr.heap.size < W1.heap.size := by rw [← hW1]; simp
        have HB1 := Lib.hid hbW; have HM := Lib.hid hmc; have HL := Lib.hid hml
        have HP := Lib.hid (after1 wr.heap.size m W1 hmc hml)
        have HR1 := Lib.hid (Kd.R_below HI.out.row hbW)
        have HCr := Lib.hid (Kd.R_reads' HR1.out).2.2
        have HWE := Lib.hid hW1
        clear hbW hmc hml hW1
        cases hfi : xs.findIdx? (fun x => x.f0 == m) with
        | none =>
          have hidx : Hid (idxF (fun x => x.f0 == m) xs = -1) := Lib.hid (by unfold idxF; rw [hfi])
          have hno : Hid (takeF l0 a3 l1_0 = none) := Lib.hid (by rw [← HI.out.rest, hdrop.out]; unfold takeF; rw [hfi])
          clear hfi
          go_wp2_with (go_at_call 28; rw [HWE.out]; refine (index_runs (fun x => x.f0 == m) 29 #[.pointer (some ⟨wr.heap.size, 0, none⟩)] enter1 Av cv_ xs W1 HCr.out (by have := HI.out.len; omega) HP.out).mono ?_; rintro e w3 ⟨rfl, hb3⟩; rw [hidx.out]; have HB3 := Lib.hid hb3; clear hb3)
          go_ret2
          have e1 := ho'.out
          rw [hno.out] at e1
          change ([], 1) = (r1, r2) at e1
          simp only [Prod.mk.injEq] at e1
          obtain ⟨rfl, rfl⟩ := e1
          exact ⟨_, rfl, Kd.R_nil _ _ _ _ _, below_step (below_step HI.out.below HB1.out) HB3.out⟩
        | some i =>
          have hi : i < xs.length := by
            obtain ⟨h, _⟩ := List.findIdx?_eq_some_iff_getElem.1 hfi
            exact h
          have hidx : Hid (idxF (fun x => x.f0 == m) xs = (i : Int)) := Lib.hid (by unfold idxF; rw [hfi])
          have hyes : Hid (takeF (xs.eraseIdx i) (wrap64 (left - if (rd_T26 xs i).f2 < left then (rd_T26 xs i).f2 else left)) (l1_0.drop (j + 1)) = takeF l0 a3 l1_0) := Lib.hid (by
            have e : takeF xs left (m :: l1_0.drop (j + 1)) = takeF (xs.eraseIdx i) (wrap64 (left - if (rd_T26 xs i).f2 < left then (rd_T26 xs i).f2 else left)) (l1_0.drop (j + 1)) := by simp only [takeF, hfi]
            rw [← e, ← hdrop.out]
            exact HI.out.rest)
          clear hfi
          obtain ⟨adv, hav⟩ : ∃ adv, Av = some adv := by
            obtain ⟨ad', e, _⟩ := HCr.out.2.2 (by omega)
            exact ⟨ad', e⟩
          subst hav
          have e2 : decide ((i : Int) < 0) = false := decide_eq_false (by omega)
          have hil : (i : Int) < (xs.length : Int) := by omega
          have hw1 : wrap64 ((i : Int) + 1) = (i : Int) + 1 := by have := HI.out.len; unfold wrap64; omega
          go_wp2_with (first
            | (go_at_call 28; rw [HWE.out]; refine (index_runs (fun x => x.f0 == m) 29 #[.pointer (some ⟨wr.heap.size, 0, none⟩)] enter1 (some adv) cv_ xs W1 HCr.out (by have := HI.out.len; omega) HP.out).mono ?_; rintro e w3 ⟨rfl, hb3⟩; rw [hidx.out]; have HB3 := Lib.hid hb3; have HR3 := Lib.hid (Kd.R_below HR1.out hb3); obtain ⟨ad3, ha3, hy0, hy1, hy2, hy3⟩ := at_T26 (Kd.R_reads' HR3.out).2.2 (i : Int) (by omega) (by omega); cases ha3; simp only [Int.toNat_natCast] at hy0 hy1 hy2 hy3; clear hb3)
            | (go_at_call 30; refine (delete_run _ w.heap.size (fun _ => True) _ xs i HR3.out hi (by have := HI.out.len; omega)).mono ?_; rintro e w4 ⟨v4, rfl, hv4, hr4, hg4⟩; have HR4 := Lib.hid hr4; have HG4 := Lib.hid hg4; clear hv4 hr4 hg4))
          go_roundw
          case rel =>
            refine ⟨j + 1, _, xs.eraseIdx i, by go_num, rfl, hlt, ?_, ?_, ?_, HR4.out, fun x hx => HI.out.sub x (eraseIdx_mem hx), ?_, hyes.out⟩
            · exact Below.grown (below_step (below_step HI.out.below HB1.out) HB3.out) HG4.out (below_step (below_step HI.out.below HB1.out) HB3.out).size (fun k hk => own_base (R_flat.1 HR3.out).2 k hk)
            · have := blk_below (blk_below HI.out.task HB1.out) HB3.out
              exact blk_grown this HG4.out (Kd.R_ne HR3.out this (by decide))
            · have := blk_below (blk_below HI.out.file_ HB1.out) HB3.out
              exact blk_grown this HG4.out (Kd.R_ne HR3.out this (by decide))
            · exact Nat.le_trans (List.eraseIdx_sublist xs i).length_le HI.out.len
          case measure => simp [intOf]; omega
      · have e1 : decide ((j : Int) < (l1_0.length : Int)) = false := decide_eq_false (by omega)
        have hend : Hid (takeF l0 a3 l1_0 = some (xs, left)) := Lib.hid (by rw [← HI.out.rest, List.drop_eq_nil_of_le (by omega)]; rfl)
        have hff := blk_cell HI.out.file_ 0
        have hfl' := blk_lt HI.out.file_
        have ht1 := blk_cell HI.out.task 1
        simp at hff ht1
        have HCr := Lib.hid (Kd.R_reads' HI.out.row).2.2
        have HP := Lib.hid (after2 (w.heap.size + 1) a2 wr hff hfl')
        by_cases hleft : 0 < left
        · have d1 : decide (0 < left) = true := decide_eq_true hleft
          have hres : Hid (([], 1) = (r1, r2)) := Lib.hid (by rw [← ho'.out, hend.out]; unfold afterEnd; simp only; rw [if_pos (.inl hleft)])
          clear hleft
          go_wp2_with (fail)
          go_ret2
          have e2 := hres.out
          simp only [Prod.mk.injEq] at e2
          obtain ⟨rfl, rfl⟩ := e2
          exact ⟨_, rfl, Kd.R_nil _ _ _ _ _, HI.out.below⟩
        · have d1 : decide (0 < left) = false := decide_eq_false hleft
          have HLE := Lib.hid hleft
          clear hleft
          cases hany : xs.any (fun x => x.f0 == a2) with
          | true =>
            have HA := Lib.hid hany; clear hany
            have hres : Hid (([], 1) = (r1, r2)) := Lib.hid (by rw [← ho'.out, hend.out]; unfold afterEnd; simp only; rw [if_pos (.inr HA.out)])
            go_wp2_with (go_at_call 31; refine (contains_runs (fun x => x.f0 == a2) 32 #[.pointer (some ⟨w.heap.size + 1, 0, none⟩)] enter2 Av cv_ xs wr HCr.out (by have := HI.out.len; omega) HP.out).mono ?_; rintro e w3 ⟨rfl, hb3⟩; rw [HA.out]; have HB3 := Lib.hid hb3; clear hb3)
            go_ret2
            have e2 := hres.out
            simp only [Prod.mk.injEq] at e2
            obtain ⟨rfl, rfl⟩ := e2
            exact ⟨_, rfl, Kd.R_nil _ _ _ _ _, below_step HI.out.below HB3.out⟩
          | false =>
            have HA := Lib.hid hany; clear hany
            by_cases hcnt : 0 < a3
            · have d2 : decide (0 < a3) = true := decide_eq_true hcnt
              have hys : Hid (withNew xs a1_1 a2 a3 = xs ++ [⟨a2, a1_1, a3, false⟩]) := Lib.hid (by unfold withNew; rw [if_pos hcnt])
              clear hcnt
              have hcc : ¬ (0 < left ∨ xs.any (fun x => x.f0 == a2) = true) := fun h => h.elim HLE.out (by rw [HA.out]; decide)
              have hsome : Hid (pick_Right.f (xs ++ [⟨a2, a1_1, a3, false⟩]) = some (rightB (xs ++ [⟨a2, a1_1, a3, false⟩]))) := Lib.hid (by
                unfold pick_Right.f
                rw [if_pos (List.all_eq_true.2 fun x hx => ?_)]
                rcases List.mem_append.1 hx with hx | hx
                · exact HW.out x (HI.out.sub x hx)
                · rw [List.mem_singleton.1 hx]; exact HF.out)
              obtain ⟨ys, hYs⟩ : ∃ ys : List S26, ys = xs ++ [⟨a2, a1_1, a3, false⟩] := ⟨_, rfl⟩
              have HYS := Lib.hid hYs
              rw [← hYs] at hsome
              have hres : Hid ((if rightB ys = true then (ys, 0) else ([], 1)) = (r1, r2)) := Lib.hid (by rw [← ho'.out, hend.out]; unfold afterEnd; simp only; rw [if_neg hcc, hys.out, ← HYS.out])
              clear hYs
              generalize hrb : rightB ys = rb at hsome hres
              clear hrb
              cases rb
              all_goals
                go_wp2_with (first
                  | (go_at_call 31; refine (contains_runs (fun x => x.f0 == a2) 32 #[.pointer (some ⟨w.heap.size + 1, 0, none⟩)] enter2 Av cv_ xs wr HCr.out (by have := HI.out.len; omega) HP.out).mono ?_; rintro e w3 ⟨rfl, hb3⟩; rw [HA.out]; have HB3 := Lib.hid hb3; have HR3 := Lib.hid (Kd.R_below HI.out.row hb3); have HF3 := Lib.hid (blk_below HI.out.file_ hb3); have HT3 := Lib.hid (blk_below HI.out.task hb3); clear hb3 hff ht1 hfl'; have hff := blk_cell HF3.out 0; have hfl' := blk_lt HF3.out; have ht1 := blk_cell HT3.out 1; simp at hff ht1)
                  | ((with_reducible refine gate_builtin (b := .append) (xs := #[.tmp 81, .tmp 87]) rfl ?_); at_builtin; go_loud (refine Kd.R_append k26 (w0 := w) w.heap.size rfl (.tmp 81) (.tmp 87) 22 26 (.agg #[.int .i64 0, .int .i64 0, .int .i64 0, .bool false]) 32 rfl Try.underlying22 info26 rfl (by decide) (by omega) _ xs (⟨a2, a1_1, a3, false⟩ : S26) [.int .i64 a2, .int .i64 a1_1, .int .i64 a3, .bool false] (fun _ => True) (fun _ => False) rfl (show Value.slice (some ⟨w3.heap.size, 0, none⟩) 1 1 = _ from by simp) ?aP (fun _ hk => hk.elim) ?aF ?aO ?aB ?aS ?aL ?_); (case aP => exact M_cs.2 rfl); (case aF => exact fun _ _ => trivial); (case aO => exact HR3.out); (case aB => exact below_step HI.out.below HB3.out); (case aS => exact (below_step HI.out.below HB3.out).size); (case aL => have := HI.out.len; omega); intro v1 w5 ho5 hb5 hg5 hat5; rw [← HYS.out] at ho5; obtain ⟨A5, c5, hv5⟩ := Kd.R_slice ho5; subst hv5; have HO5 := Lib.hid ho5; have HB5 := Lib.hid hb5; clear ho5 hb5 hg5 hat5)
                  | (go_at_call 9; refine (pick_Right.calls A5 c5 ys _ _ (Kd.R_reads' HO5.out).2.2 (Kd.R_reads' HO5.out).2.1 hsome.out).mono ?_; rintro e w6 ⟨rfl, hb6⟩; have HB6 := Lib.hid (below_step HB5.out hb6); have HR6 := Lib.hid (Kd.R_below HO5.out hb6); clear hb6))
                go_ret2
                have e2 := hres.out
                simp only [if_true, Bool.false_eq_true, if_false, Prod.mk.injEq] at e2
                obtain ⟨rfl, rfl⟩ := e2
                first
                  | exact ⟨_, rfl, HR6.out, HB6.out⟩
                  | exact ⟨_, rfl, Kd.R_nil _ _ _ _ _, HB6.out⟩
            · have d2 : decide (0 < a3) = false := decide_eq_false hcnt
              have hys : Hid (withNew xs a1_1 a2 a3 = xs) := Lib.hid (by unfold withNew; rw [if_neg hcnt])
              clear hcnt
              have hcc : ¬ (0 < left ∨ xs.any (fun x => x.f0 == a2) = true) := fun h => h.elim HLE.out (by rw [HA.out]; decide)
              have hsome : Hid (pick_Right.f xs = some (rightB xs)) := Lib.hid (by unfold pick_Right.f; rw [if_pos (List.all_eq_true.2 fun x hx => HW.out x (HI.out.sub x hx))])
              have hres : Hid ((if rightB xs = true then (xs, 0) else ([], 1)) = (r1, r2)) := Lib.hid (by rw [← ho'.out, hend.out]; unfold afterEnd; simp only; rw [if_neg hcc, hys.out])
              generalize hrb : rightB xs = rb at hsome hres
              clear hrb
              cases rb
              all_goals
                go_wp2_with (first
                  | (go_at_call 31; refine (contains_runs (fun x => x.f0 == a2) 32 #[.pointer (some ⟨w.heap.size + 1, 0, none⟩)] enter2 Av cv_ xs wr HCr.out (by have := HI.out.len; omega) HP.out).mono ?_; rintro e w3 ⟨rfl, hb3⟩; rw [HA.out]; have HB3 := Lib.hid (below_step HI.out.below hb3); have HR3 := Lib.hid (Kd.R_below HI.out.row hb3); clear hb3)
                  | (go_at_call 9; refine (pick_Right.calls Av cv_ xs _ _ (Kd.R_reads' HR3.out).2.2 (Kd.R_reads' HR3.out).2.1 hsome.out).mono ?_; rintro e w5 ⟨rfl, hb5⟩; have HB5 := Lib.hid (below_step HB3.out hb5); have HR5 := Lib.hid (Kd.R_below HR3.out hb5); clear hb5))
                go_ret2
                have e2 := hres.out
                simp only [if_true, Bool.false_eq_true, if_false, Prod.mk.injEq] at e2
                obtain ⟨rfl, rfl⟩ := e2
                first
                  | exact ⟨_, rfl, HR5.out, HB5.out⟩
                  | exact ⟨_, rfl, Kd.R_nil _ _ _ _ _, HB5.out⟩
end Go.Proofs.Ytnbbejhbnajdbaa.PPick
