/- PickEnds, walked by hand: whoever does what is offered comes to an end. -/
import Derived.Test.YtnbbejhbnajdbaaPickE
namespace Go.Proofs.Ytnbbejhbnajdbaa.PPick
open Go.RowKit Go.Proofs.YtnbbejhbnajdbaaW.PrintWords Go.Proofs.YtnbbejhbnajdbaaW.PrintLast Go.Proofs.YtnbbejhbnajdbaaW.PrintMore Go.Proofs.Ytnbbejhbnajdbaa.XLib Go.Proofs.Ytnbbejhbnajdbaa.PickP

/-- (of files' numbers that are ints, and counts that are such) -/
def rickyardlaw16_PickEnds.f (l : List S26) (cs : List Int) : Option Bool := if l.all (fun x => (Lit.int .i64 x.f0).wf) = true ∧ cs.all (fun x => (Lit.int .u16 x).wf) = true then some true else none

/-- At a task's head. -/
structure EndsRel (w : World) (l : List Ru) (i : Nat) (v : Value) (A : Option Addr) (c : Nat) (xs : List Ru) (p : Nat) (wr : World) : Prop where
  val : v = .slice A xs.length c
  cap : xs.length ≤ c
  reads : Kd.C k26 wr A xs.length xs
  below : Below w.heap.size w wr
  left : i + p = l.length + 3
  tree : Tree xs
  pot : Pot xs p
  file : ∀ r ∈ xs, r.f0 < 2199023255552 + i

theorem wf_small {x : Int} (h0 : 0 ≤ x) (h1 : x < 9223372036854775807) : (Lit.int .i64 x).wf = true := by
  show (decide (-9223372036854775808 ≤ x) && decide (x ≤ 9223372036854775807)) = true
  rw [decide_eq_true (by omega), decide_eq_true (by omega)]; rfl
theorem ends_next {xs : List Ru} {fs : List Int} {lv n : Int} {i p : Nat} (hO : Offered xs fs lv) (hP : ∀ n file : Int, n ≤ sumIn fs xs → 1 ≤ p ∧ Pot (withNew (outOf fs xs) lv file n) (p - 1)) (hw : wfF xs) (hf : ∀ r ∈ xs, r.f0 < 2199023255552 + (i : Int)) (hi : i ≤ 67) (h0 : 0 ≤ n) (h1 : n ≤ sumIn fs xs) (hb : n ≤ 9223372036854775807) :
    ∃ ys : List Ru, pick_After.f xs fs lv (2199023255552 + (i : Int)) n = some (ys, 0) ∧ Tree ys ∧ (1 ≤ p ∧ Pot ys (p - 1)) ∧ ∀ r ∈ ys, r.f0 < 2199023255552 + ((i + 1 : Nat) : Int) := by
  obtain ⟨h2, h3⟩ := hO.done (file := 2199023255552 + (i : Int)) h0 hb h1 (by omega) (fun r hr _ => by have := hf r hr; omega)
  refine ⟨_, by rw [after_some hw (wf_small (by omega) (by omega)), h2], h3, hP n _ h1, fun r hr => ?_⟩
  unfold withNew at hr
  split at hr
  · rcases List.mem_append.1 hr with hr | hr
    · have := hf r (mem_out.1 hr).1; omega
    · rw [List.mem_singleton.1 hr]; show 2199023255552 + (i : Int) < _; omega
  · have := hf r (mem_out.1 hr).1; omega
set_option maxHeartbeats 4000000 in
set_option maxRecDepth 100000 in
theorem rickyardlaw16_PickEnds.calls (A0 : Option Addr) (c0 : Nat) (l0 : List S26) (A1 : Option Addr) (c1 : Nat) (l1 : List Int) (r : Bool) (w : World) (hr0 : Kd.C k26 w A0 l0.length l0) (hc0 : l0.length ≤ c0) (hr1 : Kd.C (Kd.int .u16) w A1 l1.length l1) (_ : l1.length ≤ c1) (h : rickyardlaw16_PickEnds.f l0 l1 = some r) :
    Calls Try.prog 8 #[.slice A0 l0.length c0, .slice A1 l1.length c1] w fun e w' => e = .returned (.bool r) ∧ Below w.heap.size w w' := by
  unfold rickyardlaw16_PickEnds.f at h
  by_cases hall : l0.all (fun x => (Lit.int .i64 x.f0).wf) = true ∧ l1.all (fun x => (Lit.int .u16 x).wf) = true
  case neg => rw [if_neg hall] at h; cases h
  rw [if_pos hall] at h
  obtain rfl := Option.some.inj h
  have HWF : Hid (wfF l0) := Lib.hid (List.all_eq_true.1 hall.1)
  have HR : Hid (pick_Right.f l0 = some (rightB l0)) := Lib.hid (right_some HWF.out)
  have HW1 : Hid (∀ x ∈ l1, (Lit.int .u16 x).wf = true) := Lib.hid (List.all_eq_true.1 hall.2)
  clear h hall
  have HC := Lib.hid hr0; clear hr0
  have HC1 := Lib.hid hr1; clear hr1
  have HAL := Lib.hid alive_tells
  cases hrb : rightB l0 with
  | false =>
    rw [hrb] at HR
    clear hrb
    go_enter Try.func8, Try.ntmps8
    go_wp2_with (first
      | (go_at_call 9; refine (pick_Right.calls A0 c0 l0 _ _ HC.out hc0 HR.out).mono ?_; rintro e w1 ⟨rfl, hb⟩; have HB := Lib.hid hb; clear hb)
      | (go_at_call 10; refine (rickyardlaw16_alive.calls _ _ HAL.out).mono ?_; rintro e w2 ⟨rfl, hb⟩; have HB2 := Lib.hid (below_step HB.out hb); clear hb))
    go_ret
    exact ⟨rfl, HB2.out⟩
  | true =>
    have HT : Hid (Tree l0) := Lib.hid ((right_iff l0).1 hrb)
    have hlen : l0.length ≤ 64 := HT.out.len
    rw [hrb] at HR
    clear hrb
    go_enter Try.func8, Try.ntmps8
    go_wp2_with (go_at_call 9; refine (pick_Right.calls A0 c0 l0 _ _ HC.out hc0 HR.out).mono ?_; rintro e w1 ⟨rfl, hb⟩; have HB := Lib.hid hb; clear hb)
    go_loopw [7] (fun v wr => ∃ j : Nat, v = .int .i64 j ∧ j ≤ l0.length ∧ Below w.heap.size w wr ∧ ∀ r ∈ l0.take j, r.f0 < 2199023255552) (fun v _ => l0.length - (intOf v).toNat)
    case atStart => exact ⟨0, rfl, Nat.zero_le _, HB.out, by simp⟩
    case round =>
      obtain ⟨j, rfl, hj, hB, hfs⟩ := hrel
      have HB1 := Lib.hid hB; have HF := Lib.hid hfs; clear hB hfs HB
      by_cases hlt : j < l0.length
      · have e1 : decide ((j : Int) < (l0.length : Int)) = true := decide_eq_true (by omega)
        have e2 : decide (j < l0.length) = true := decide_eq_true hlt
        obtain ⟨ad, ha, hx0, hx1, hx2, hx3⟩ := at_T26 HC.out (j : Int) (by omega) (by omega)
        subst ha
        rw [rd_run hlt] at hx0
        clear hx1 hx2 hx3
        simp only [Int.toNat_natCast] at hx0
        have HX := Lib.hid hx0
        have hx0 := (HB1.out.cell (World.block_lt_of_cell? w _ HX.out)).trans HX.out
        by_cases hbig : l0[j].f0 < 2199023255552
        · have b1 : decide (2199023255552 ≤ l0[j].f0) = false := decide_eq_false (by omega)
          have HBIG := Lib.hid hbig; clear hbig
          go_wp2_with (fail)
          go_roundw
          case rel =>
            refine ⟨j + 1, by go_num, hlt, HB1.out, fun r hr => ?_⟩
            rw [List.take_succ_eq_append_getElem hlt] at hr
            rcases List.mem_append.1 hr with hr | hr
            · exact HF.out r hr
            · rw [List.mem_singleton.1 hr]; exact HBIG.out
          case measure => simp [intOf]; omega
        · have b1 : decide (2199023255552 ≤ l0[j].f0) = true := decide_eq_true (by omega)
          clear hbig
          go_wp2_with (go_at_call 10; refine (rickyardlaw16_alive.calls _ _ HAL.out).mono ?_; rintro e w2 ⟨rfl, hb⟩; have HB2 := Lib.hid (below_step HB1.out hb); clear hb)
          go_ret
          exact ⟨rfl, HB2.out⟩
      · have e1 : decide ((j : Int) < (l0.length : Int)) = false := decide_eq_false (by omega)
        have e2 : decide (j < l0.length) = false := decide_eq_false hlt
        have HF0 : Hid (∀ r ∈ l0, r.f0 < 2199023255552 + ((0 : Nat) : Int)) := Lib.hid (fun r hr => by have := HF.out r (by rw [List.take_of_length_le (by omega)]; exact hr); omega)
        clear HF
        go_wp2_with (fail)
        go_loopw [5, 8] (fun v ix wr => ∃ (i : Nat) (A : Option Addr) (c : Nat) (xs : List Ru) (p : Nat), ix = .int .i64 i ∧ EndsRel w l0 i v A c xs p wr) (fun _ ix _ => 70 - (intOf ix).toNat)
        case atStart => exact ⟨0, A0, c0, l0, l0.length + 3, rfl, rfl, hc0, Kd.C_below HC.out HB1.out, HB1.out, by omega, HT.out, Pot.start l0, HF0.out⟩
        case round =>
          obtain ⟨i, A, c, xs, p, rfl, hE⟩ := hrel
          have HE := Lib.hid hE
          obtain rfl := hE.val
          clear hE HF0 HB1
          have hcx := HE.out.cap
          have hxl := HE.out.tree.len
          have hip := HE.out.left
          have hi : decide ((i : Int) ≤ (l0.length : Int) + 3) = true := decide_eq_true (by omega)
          have hwx : Hid (wfF xs) := Lib.hid (fun r hr => wf_small (by have := (HE.out.tree.good r hr).1; omega) (by have := HE.out.file r hr; omega))
          have HCx := Lib.hid HE.out.reads
          clear hip
          rcases Classical.em (∃ fs lv, offerB xs = (fs, lv, true, 0)) with hof | hof
          · obtain ⟨fs, lv, hof⟩ := hof
            have HOF : Hid (pick_Offer.f xs = some (fs, lv, true, 0)) := Lib.hid (by rw [offer_some hwx.out, hof])
            have HO := Lib.hid (offer_offered hof)
            have HP := Lib.hid (fun (n file : Int) => HE.out.pot.step (file := file) (n := n) hof)
            have hfl := HO.out.short
            clear hof
            go_upto_region 14 with (go_at_call 11; refine (pick_Offer.calls A c xs fs lv true 0 _ HCx.out hcx HOF.out).mono ?_; rintro e w2 ⟨vt, rfl, hrt, hb2⟩; obtain ⟨At, ct, hvt⟩ := Kd.R_slice hrt; subst hvt; have HRT := Lib.hid hrt; have HB2 := Lib.hid hb2; clear hrt hb2)
            generalize hW3 : w2.alloc (.cells #[.slice At fs.length ct, .int .i64 lv] 29) = w3
            have hb23 : Below w2.heap.size w2 w3 := by rw [← hW3]; exact (Below.refl _ _).alloc (Nat.le_refl _) _
            have HB3 := Lib.hid (below_step HB2.out hb23)
            have HK3 : Hid (w3.heap[w2.heap.size]? = some (.cells #[.slice At fs.length ct, .int .i64 lv] 29 (0, 0))) := Lib.hid (by rw [← hW3]; exact blk_new _ _)
            have HF3 := Lib.hid (Kd.R_reads' (Kd.R_below HRT.out hb23)).2.2
            have hcf := (Kd.R_reads' HRT.out).2.1
            have HC3 := Lib.hid (Kd.C_below HCx.out HB3.out)
            have hk0 := (blk_cell HK3.out 0).trans (show _ = some (Value.slice At fs.length ct) from rfl)
            have hk1 := (blk_cell HK3.out 1).trans (show _ = some (Value.int .i64 lv) from rfl)
            clear hW3 hb23 HB2 HRT
            have hpos : ∀ r ∈ xs, 1 ≤ r.f2 := fun r hr => (HO.out.tree.good r hr).2.2.2
            have htg := tgt_le (fs := fs) hpos
            obtain ⟨kt, hkt⟩ := (tgt_tells (lv := lv) hxl hfl HO.out.nodup hpos).rounds
            have HKT := Lib.hid hkt
            obtain ⟨tg, htg0⟩ : ∃ tg, tg = tgt fs xs := ⟨_, rfl⟩
            rw [← htg0] at htg HKT
            obtain ⟨ht0, ht1, ht2⟩ := htg
            clear hpos hkt htg0
            have HT1 := Lib.hid ht1; clear ht1
            go_upto_region 24 with (go_at_call 21; refine (rickyardlaw16_together.calls kt A c xs At ct fs lv tg _ HC3.out hcx HF3.out hcf HKT.out).mono ?_; rintro e w4 ⟨rfl, hb4⟩; have HB4 := Lib.hid (below_step HB3.out hb4); have HK4 := Lib.hid (blk_below HK3.out hb4); have HF4 := Lib.hid (Kd.C_below HF3.out hb4); have HC4 := Lib.hid (Kd.C_below HC3.out hb4); clear hb4)
            clear hk0 hk1 HB3 HK3 HF3 HC3
            have hk0 := (blk_cell HK4.out 0).trans (show _ = some (Value.slice At fs.length ct) from rfl)
            have hk1 := (blk_cell HK4.out 1).trans (show _ = some (Value.int .i64 lv) from rfl)
            have hi67 : i ≤ 67 := by have := HE.out.left; omega
            have hend : Hid (∀ n : Int, 0 ≤ n → n ≤ tg → ∃ ys : List Ru, pick_After.f xs fs lv (2199023255552 + (i : Int)) n = some (ys, 0) ∧ Tree ys ∧ (1 ≤ p ∧ Pot ys (p - 1)) ∧ ∀ r ∈ ys, r.f0 < 2199023255552 + ((i + 1 : Nat) : Int)) :=
              Lib.hid (fun n h0 h1 => ends_next HO.out HP.out hwx.out HE.out.file hi67 h0 (Int.le_trans h1 HT1.out) (by omega))
            by_cases hil : i < l1.length
            · have g1 : decide ((i : Int) < (l1.length : Int)) = true := decide_eq_true (by omega)
              have g2 : decide (i < l1.length) = true := decide_eq_true hil
              obtain ⟨ad, ha, hx0⟩ := Kd.at_int HC1.out (i : Int) (by omega) (by omega)
              subst ha
              obtain ⟨x, hx⟩ : ∃ x, x = rd l1 (i : Int) := ⟨_, rfl⟩
              rw [← hx] at hx0
              simp only [Int.toNat_natCast] at hx0
              replace hx0 := ((below_step HE.out.below HB4.out).cell (World.block_lt_of_cell? w _ hx0)).trans hx0
              have hxw : 0 ≤ x ∧ x ≤ 65535 := by
                have := HW1.out x (by rw [hx, rd_at hil]; exact List.getElem_mem hil)
                unfold Lit.wf at this
                have h := Bool.and_eq_true_iff.1 this
                exact ⟨of_decide_eq_true h.1, of_decide_eq_true h.2⟩
              obtain ⟨hx1, hx2⟩ := hxw
              clear hx
              by_cases hsm : x < tg
              · have g3 : decide (x < tg) = true := decide_eq_true hsm
                obtain ⟨n, hn⟩ : ∃ n, n = x := ⟨_, rfl⟩
                have HN : Hid (0 ≤ n ∧ n ≤ tg) := Lib.hid (by omega)
                subst hn
                clear hsm
                go_upto_region 26 with (fail)
                obtain ⟨ys, hys, htr, hpt, hfl3⟩ := hend.out n HN.out.1 HN.out.2
                have HYS := Lib.hid hys; have HTR := Lib.hid htr; have HPT := Lib.hid hpt; have HFL := Lib.hid hfl3
                clear hys htr hpt hfl3
                go_wp2_with (go_at_call 19; refine (pick_After.calls A c xs At ct fs lv (2199023255552 + (i : Int)) n ys 0 _ HC4.out hcx HF4.out hcf HYS.out).mono ?_; rintro e w5 ⟨v5, rfl, hr5, hb5⟩; obtain ⟨A5, c5, hv5⟩ := Kd.R_slice hr5; subst hv5; have HR5 := Lib.hid hr5; have HB5 := Lib.hid (below_step (below_step HE.out.below HB4.out) hb5); clear hr5 hb5)
                go_roundw
                case rel => exact ⟨i + 1, A5, c5, ys, p - 1, by go_num, ⟨rfl, (Kd.R_reads' HR5.out).2.1, (Kd.R_reads' HR5.out).2.2, HB5.out, by have := HE.out.left; have := HPT.out.1; omega, HTR.out, HPT.out.2, HFL.out⟩⟩
                case measure => simp [intOf]; omega
              · have g3 : decide (x < tg) = false := decide_eq_false hsm
                obtain ⟨n, hn⟩ : ∃ n, n = tg := ⟨_, rfl⟩
                have HN : Hid (0 ≤ n ∧ n ≤ tg) := Lib.hid (by omega)
                subst hn
                clear hsm
                go_upto_region 26 with (fail)
                obtain ⟨ys, hys, htr, hpt, hfl3⟩ := hend.out n HN.out.1 HN.out.2
                have HYS := Lib.hid hys; have HTR := Lib.hid htr; have HPT := Lib.hid hpt; have HFL := Lib.hid hfl3
                clear hys htr hpt hfl3
                go_wp2_with (go_at_call 19; refine (pick_After.calls A c xs At ct fs lv (2199023255552 + (i : Int)) n ys 0 _ HC4.out hcx HF4.out hcf HYS.out).mono ?_; rintro e w5 ⟨v5, rfl, hr5, hb5⟩; obtain ⟨A5, c5, hv5⟩ := Kd.R_slice hr5; subst hv5; have HR5 := Lib.hid hr5; have HB5 := Lib.hid (below_step (below_step HE.out.below HB4.out) hb5); clear hr5 hb5)
                go_roundw
                case rel => exact ⟨i + 1, A5, c5, ys, p - 1, by go_num, ⟨rfl, (Kd.R_reads' HR5.out).2.1, (Kd.R_reads' HR5.out).2.2, HB5.out, by have := HE.out.left; have := HPT.out.1; omega, HTR.out, HPT.out.2, HFL.out⟩⟩
                case measure => simp [intOf]; omega
            · have g1 : decide ((i : Int) < (l1.length : Int)) = false := decide_eq_false (by omega)
              have g2 : decide (i < l1.length) = false := decide_eq_false hil
              obtain ⟨n, hn⟩ : ∃ n, n = tg := ⟨_, rfl⟩
              have HN : Hid (0 ≤ n ∧ n ≤ tg) := Lib.hid (by omega)
              subst hn
              clear hil
              go_upto_region 26 with (fail)
              obtain ⟨ys, hys, htr, hpt, hfl3⟩ := hend.out n HN.out.1 HN.out.2
              have HYS := Lib.hid hys; have HTR := Lib.hid htr; have HPT := Lib.hid hpt; have HFL := Lib.hid hfl3
              clear hys htr hpt hfl3
              go_wp2_with (go_at_call 19; refine (pick_After.calls A c xs At ct fs lv (2199023255552 + (i : Int)) n ys 0 _ HC4.out hcx HF4.out hcf HYS.out).mono ?_; rintro e w5 ⟨v5, rfl, hr5, hb5⟩; obtain ⟨A5, c5, hv5⟩ := Kd.R_slice hr5; subst hv5; have HR5 := Lib.hid hr5; have HB5 := Lib.hid (below_step (below_step HE.out.below HB4.out) hb5); clear hr5 hb5)
              go_roundw
              case rel => exact ⟨i + 1, A5, c5, ys, p - 1, by go_num, ⟨rfl, (Kd.R_reads' HR5.out).2.1, (Kd.R_reads' HR5.out).2.2, HB5.out, by have := HE.out.left; have := HPT.out.1; omega, HTR.out, HPT.out.2, HFL.out⟩⟩
              case measure => simp [intOf]; omega
          · have hno := offer_nothing HE.out.tree (fun fs lv h => hof ⟨fs, lv, h⟩)
            have HOF : Hid (pick_Offer.f xs = some ([], 0, false, 0)) := Lib.hid (by rw [offer_some hwx.out, hno.1])
            have HST := Lib.hid hno.2.1
            have HFU := Lib.hid hno.2.2
            clear hno hof
            go_wp2_with (go_at_call 11; refine (pick_Offer.calls A c xs [] 0 false 0 _ HCx.out hcx HOF.out).mono ?_; rintro e w2 ⟨vt, rfl, hrt, hb2⟩; obtain ⟨At, ct, hvt⟩ := Kd.R_slice hrt; subst hvt; have HB2 := Lib.hid hb2; clear hrt hb2)
            have HFul : Hid (∀ j : Int, 0 ≤ j → ∃ k, pick_Full.f k xs j = some false) := Lib.hid (fun j hj => by
              obtain ⟨k, hk⟩ := (Full_tells hwx.out j).rounds
              refine ⟨k, hk.trans ?_⟩
              unfold isFull
              rw [HFU.out j hj]
              simp)
            go_loopw [12] (fun v wr3 => ∃ j : Nat, v = .int .i64 j ∧ j ≤ xs.length ∧ Below wr.heap.size wr wr3) (fun v _ => xs.length - (intOf v).toNat)
            case atStart => exact ⟨0, rfl, Nat.zero_le _, HB2.out.alloc HB2.out.size _⟩
            case round =>
              obtain ⟨j, rfl, hj, hB3⟩ := hrel
              have HB3 := Lib.hid hB3; clear hB3 HB2
              have HC3 := Lib.hid (Kd.C_below HCx.out HB3.out)
              by_cases hlt3 : j < xs.length
              · have e3 : decide ((j : Int) < (xs.length : Int)) = true := decide_eq_true (by omega)
                have e4 : decide (j < xs.length) = true := decide_eq_true hlt3
                obtain ⟨ad, ha, hx0, hx1, hx2, hx3⟩ := at_T26 HC3.out (j : Int) (by omega) (by omega)
                subst ha
                have hmem : xs[j] ∈ xs := List.getElem_mem hlt3
                rw [rd_run hlt3] at hx1 hx3
                rw [HST.out _ hmem] at hx3
                clear hx0 hx2
                simp only [Int.toNat_natCast] at hx1 hx3
                obtain ⟨kf, hkf⟩ := HFul.out xs[j].f1 (HE.out.tree.good _ hmem).2.1
                have HKF := Lib.hid hkf; clear hkf hmem
                go_wp2_with (go_at_call 15; refine (pick_Full.calls kf _ c xs xs[j].f1 false _ HC3.out hcx HKF.out).mono ?_; rintro e w4 ⟨rfl, hb4⟩; have HB4 := Lib.hid (below_step HB3.out hb4); clear hb4)
                go_roundw
                case rel => exact ⟨j + 1, by go_num, hlt3, HB4.out⟩
                case measure => simp [intOf]; omega
              · have e3 : decide ((j : Int) < (xs.length : Int)) = false := decide_eq_false (by omega)
                have e4 : decide (j < xs.length) = false := decide_eq_false hlt3
                go_wp2_with (go_at_call 10; refine (rickyardlaw16_alive.calls _ _ HAL.out).mono ?_; rintro e w4 ⟨rfl, hb⟩; have HB4 := Lib.hid (below_step HE.out.below (below_step HB3.out hb)); clear hb)
                go_ret
                exact ⟨rfl, HB4.out⟩
end Go.Proofs.Ytnbbejhbnajdbaa.PPick
