import Derived.Test.YtjemmmemenljbaaZFoldFolds04
section
namespace Go.Proofs.Ytjemmmemenljbaa.PFold
open Go.RowKit Go.Proofs.YtjemmmemenljbaaW.PrintWords Go.Proofs.YtjemmmemenljbaaW.PrintLast Go.Proofs.YtjemmmemenljbaaW.PrintMore
attribute [local go_sem] max2_int min2_int max_two min_two max_three min_three max_four min_four   -- for this text's walks alone
set_option linter.unusedVariables false
set_option linter.unusedSimpArgs false
set_option maxHeartbeats 8000000
set_option maxRecDepth 100000
mutual
def rickyardref06_Read.l0 : Nat → List Int → Int → List ByteArray → Int → Int → Option (List ByteArray × Int × Int × Int)
 | 0, _, _, _, _, _ => none
 | k + 1, x0, x5, x298000, x298001, x298002 => if x5 < (x0.length : Int) then (if 0 ≤ x5 then (rickyardref06_Read.j1 k x0 x5 ((rd x0 x5) == 1) x298000 x298001 x298002) else (none)) else (rickyardref06_Read.j1 k x0 x5 false x298000 x298001 x298002)
def rickyardref06_Read.j1 : Nat → List Int → Int → Bool → List ByteArray → Int → Int → Option (List ByteArray × Int × Int × Int)
 | 0, _, _, _, _, _, _ => none
 | k + 1, x0, x5, x21, x298000, x298001, x298002 => if x21 = true then (if 0 ≤ (wrap64 (x5 + 1)) then (if (wrap64 (x5 + 1)) ≤ (x0.length : Int) then ((rickyardref04_ReadText.f k (x0.drop ((wrap64 (x5 + 1)) : Int).toNat)).bind fun bt300 => (if bt300.2.2 = 0 then (if x298000.length < 8796093022208 then (rickyardref06_Read.l0 k x0 (wrap64 ((wrap64 (x5 + 1)) + bt300.2.1)) (x298000 ++ [bt300.1]) x298001 x298002) else (none)) else (some (([] : List ByteArray), 0, 0, 40)))) else (none)) else (none)) else (if (wrap64 ((x0.length : Int) - x5)) = 10 then (if 0 ≤ (wrap64 (x5 + 1)) then (if (wrap64 (x5 + 1)) ≤ (x0.length : Int) then ((rickyardref04_ReadNumber.f k (x0.drop ((wrap64 (x5 + 1)) : Int).toNat)).bind fun bt307 => (if 0 ≤ (wrap64 (x5 + 9)) then (if (wrap64 (x5 + 9)) < (x0.length : Int) then ((rickyardref06_Write.f k x298000 bt307.1 (wrap64 (rd x0 (wrap64 (x5 + 9))))).bind fun bt311 => (if bt311.2 = 0 then (if (strOfNums bt311.1).toList = (strOfNums x0).toList then (some (x298000, bt307.1, wrap64 (rd x0 (wrap64 (x5 + 9))), bt311.2)) else (some (([] : List ByteArray), 0, 0, 40))) else (some (([] : List ByteArray), 0, 0, 40)))) else (none)) else (none))) else (none)) else (none)) else (some (([] : List ByteArray), 0, 0, 40)))
end
def rickyardref06_Read.f (k : Nat) (l0 : List Int) : Option (List ByteArray × Int × Int × Int) := rickyardref06_Read.l0 k l0 0 ([] : List ByteArray) 0 0
theorem rickyardref06_Read.calls (k : Nat) (A0 : Option Addr) (c0 : Nat) (l0 : List Int) (r1 : List ByteArray) (r2 : Int) (r3 : Int) (r4 : Int) (w : World) (hr0 : Kd.C (Kd.int .u8) w A0 l0.length l0) (hc0 : l0.length ≤ c0) (h : rickyardref06_Read.f k l0 = some (r1, r2, r3, r4)) :
  Calls Try.prog 55 #[.slice A0 l0.length c0] w fun e w' => ∃ v0_ : Value, e = .returned (.tuple #[.agg #[v0_, .int .i64 r2, .int .i64 r3], .int .i64 r4]) ∧ Kd.R Kd.string 9 w' w.heap.size (fun _ => True) v0_ r1 ∧ Below w.heap.size w w' := by
 have hu62 := Try.underlying62
 have HR0 := Aside0.mk hr0
 have HC0 := Aside0.mk hc0
 clear hr0 hc0
 have HB := Aside0.mk (Below.refl w.heap.size w)
 have H : (rickyardref06_Read.l0 k l0 0 ([] : List ByteArray) 0 0) = some (r1, r2, r3, r4) := h
 clear h
 have H' := Aside0.mk H
 clear H
 go_enter Try.func55, Try.ntmps55
 go_wp2_with (first | ((with_reducible refine gate_dst (N := 2) rfl ?_); refine boxA 2 #[.slice none 0 0, .int .i64 0, .int .i64 0] 62 ?_; intro gb296 hg w2 hbox hb; have BK296 := Aside0.mk (hbox); have GE296 := ge1 hg (belA HB.out); replace HB := bst HB hb; clear hb hbox hg) | ((with_reducible refine gate_dst (N := 4) rfl ?_); refine boxA 4 #[.slice none 0 0, .int .i64 0, .int .i64 0] 62 ?_; intro gb297 hg w3 hbox hb; have BK297 := Aside0.mk (hbox); have GW297 := ge1 hg (belB HB.out GE296.out); have GE297 := GW297; have NB296_297 := neL hg BK296; have NB297_296 := neR hg BK296; replace BK296 := blkB BK296 hb; replace HB := bs2 HB GE296 hb; clear hb hbox hg))
 go_loopg [5] k (fun kq v5 w' => ∃ (x5_1 : Int) (x297001_1 : Int) (x297002_1 : Int) (x298000_1 : List ByteArray) (u298000 : Value), v5 = .int .i64 x5_1 ∧ Aside0 (rickyardref06_Read.l0 kq l0 x5_1 x298000_1 0 0 = some (r1, r2, r3, r4)) ∧ Aside0 (kq ≤ k) ∧ Aside0 (Kd.R Kd.string 9 w' w.heap.size (fun _ => True) u298000 x298000_1) ∧ Aside0 (w'.heap[gb296]? = some (.cells #[(.slice none 0 0), .int .i64 x297001_1, .int .i64 x297002_1] 62 (0, 0))) ∧ Aside0 (w'.heap[gb297]? = some (.cells #[u298000, .int .i64 0, .int .i64 0] 62 (0, 0))) ∧ Aside0 (Below w.heap.size w w'))
 case atStart => exact ⟨(0), (0), (0), (([] : List ByteArray)), (.slice none 0 0), relA, H', ⟨Nat.le_refl _⟩, ⟨by first | exact Kd.R_nil _ _ _ _ _ | exact Kd.N_nil _ _ _ _ _ | exact Kd.V_nil _ _ _ _ _ | exact Kd.Q_nil _ _ _ _ _ | exact Kd.S_nil _ _ _ _ _⟩, ⟨blkA BK296.out⟩, ⟨blkA BK297.out⟩, ⟨belC HB.out GE296.out GE297.out⟩⟩
 case round =>
  clear H'
  try clear p2
  obtain ⟨x5_1, x297001_1, x297002_1, x298000_1, u298000, rfl, HA, HK1, HO_298000, BK296, BK297, HB⟩ := hrel
  cases gk with
  | zero => exact absurd HA.out (by simp [rickyardref06_Read.l0])
  | succ k1 =>
   have H := HA.out
   clear HA
   simp only [rickyardref06_Read.l0] at H
   have HC4 := Aside0.mk H
   clear H
   go_upto_region 3 with (fail)
   go_cut [21] (fun v21 wc => ∃ (kq : Nat) (x21_3 : Bool), v21 = .bool x21_3 ∧ Aside0 (rickyardref06_Read.j1 kq l0 x5_1 x21_3 x298000_1 0 0 = some (r1, r2, r3, r4)) ∧ Aside0 (kq ≤ k1) ∧ Aside0 (Kd.R Kd.string 9 wc w.heap.size (fun _ => True) u298000 x298000_1) ∧ Aside0 (wc.heap[gb296]? = some (.cells #[(.slice none 0 0), .int .i64 x297001_1, .int .i64 x297002_1] 62 (0, 0))) ∧ Aside0 (wc.heap[gb297]? = some (.cells #[u298000, .int .i64 0, .int .i64 0] 62 (0, 0))) ∧ Aside0 (Below w.heap.size w wc))
   case first =>
    have H := HC4.out
    clear HC4
    by_cases c5 : x5_1 < (l0.length : Int)
    rotate_left
    ·rw [if_neg c5] at H
     have c5b0 := decide_eq_false c5
     clear c5
     (first | rw [c5b0] | (simp only [i64_w, i32_w]; rw [c5b0]) | skip)
     have H' := Aside0.mk H
     clear H
     go_wp2
     go_meet
     case rel => exact ⟨_, (false), relA, H', ⟨by have := HK1.out; first | omega | exact Nat.le_refl _⟩, ⟨rowA HO_298000.out⟩, ⟨blkA BK296.out⟩, ⟨blkA BK297.out⟩, ⟨belC HB.out GE296.out GE297.out⟩⟩
    rw [if_pos c5] at H
    have c5b0 := decide_eq_true c5
    clear c5
    (first | rw [c5b0] | (simp only [i64_w, i32_w]; rw [c5b0]) | skip)
    replace H := ifN H
    obtain ⟨c6, H⟩ := H
    have c6b0 := decide_eq_true c6
    clear c6
    have H' := Aside0.mk H
    clear H
    have p298 : 0 ≤ (x5_1 : Int) := of_decide_eq_true asmA
    have q298 : x5_1 < (l0.length : Int) := of_decide_eq_true asmA
    obtain ⟨ad298, e298, hx298_0⟩ := Kd.at_int HR0.out x5_1 p298 q298
    cases e298
    replace hx298_0 := cbx HB hx298_0
    replace p298 := eq_true p298
    replace q298 := eq_true q298
    go_wp2
    go_meet
    case rel => exact ⟨_, (((rd l0 x5_1) == 1)), relA, H', ⟨by have := HK1.out; first | omega | exact Nat.le_refl _⟩, ⟨rowA HO_298000.out⟩, ⟨blkA BK296.out⟩, ⟨blkA BK297.out⟩, ⟨belC HB.out GE296.out GE297.out⟩⟩
   case rest =>
    clear HC4
    try clear p2
    try clear q2
    try clear hx2
    try clear c5
    try clear c5b0
    try clear c6
    try clear c6b0
    try clear hx298_0
    try clear p2
    try clear p298
    try clear q298
    obtain ⟨kq, x21_3, rfl, HA, HJ3, HO_298000, BK296, BK297, HB⟩ := hcut
    cases kq with
    | zero => exact absurd HA.out (by simp [rickyardref06_Read.j1])
    | succ kj3 =>
     have H := HA.out
     clear HA
     simp only [rickyardref06_Read.j1] at H
     by_cases c7 : x21_3 = true
     ·subst c7
      have H1 : (if 0 ≤ (wrap64 (x5_1 + 1)) then (if (wrap64 (x5_1 + 1)) ≤ (l0.length : Int) then ((rickyardref04_ReadText.f kj3 (l0.drop ((wrap64 (x5_1 + 1)) : Int).toNat)).bind fun bt300 => (if bt300.2.2 = 0 then (if x298000_1.length < 8796093022208 then (rickyardref06_Read.l0 kj3 l0 (wrap64 ((wrap64 (x5_1 + 1)) + bt300.2.1)) (x298000_1 ++ [bt300.1]) 0 0) else (none)) else (some (([] : List ByteArray), 0, 0, 40)))) else (none)) else (none)) = some (r1, r2, r3, r4) := by rw [if_pos rfl] at H; exact H
      clear H
      have H := H1
      clear H1
      obtain ⟨ji8, hji8⟩ : ∃ j_ : Int, (wrap64 (x5_1 + 1)) = j_ := ⟨_, rfl⟩
      replace H : (if 0 ≤ (ji8) then (if (ji8) ≤ (l0.length : Int) then ((rickyardref04_ReadText.f kj3 (l0.drop ((ji8) : Int).toNat)).bind fun bt300 => (if bt300.2.2 = 0 then (if x298000_1.length < 8796093022208 then (rickyardref06_Read.l0 kj3 l0 (wrap64 ((ji8) + bt300.2.1)) (x298000_1 ++ [bt300.1]) 0 0) else (none)) else (some (([] : List ByteArray), 0, 0, 40)))) else (none)) else (none)) = some (r1, r2, r3, r4) := by first | (rw [hji8] at H; exact H) | (simp only [hji8] at H ⊢; exact H)
      have hji8w : (IntKind.i64.wrap (x5_1 + 1)) = ji8 := (i64_w _).trans hji8
      replace H := ifN H
      obtain ⟨c9, H⟩ := H
      have c9b0 := eq_true c9
      have c9b1 := decide_eq_true c9
      clear c9
      replace H := ifN H
      obtain ⟨c10, H⟩ := H
      have c10b0 := eq_true c10
      have c10b1 := decide_eq_true c10
      clear c10
      replace H := bnA H
      obtain ⟨⟨t300, t301, t302⟩, A11, H⟩ := H
      replace H : (if t302 = 0 then (if x298000_1.length < 8796093022208 then (rickyardref06_Read.l0 kj3 l0 (wrap64 ((ji8) + t301)) (x298000_1 ++ [t300]) 0 0) else (none)) else (some (([] : List ByteArray), 0, 0, 40))) = some (r1, r2, r3, r4) := H
      by_cases c12 : t302 = 0
      rotate_left
      ·rw [if_neg c12] at H
       have c12b0 := beq_eq_false_iff_ne.mpr c12
       have c12b1 := bne_iff_ne.mpr c12
       simp only [Option.some.injEq, Prod.mk.injEq] at H
       obtain ⟨rfl, rfl, rfl, rfl⟩ := H
       obtain ⟨i021, hi021, _, hsz21, _⟩ := info_parts info5
       obtain ⟨A21, hcut21, hA21, hC21⟩ := print_drop_of (P := Try.prog) (Value.int .u8) 0 49 5 .i64 Try.underlying49 hi021 hsz21 A0 c0 l0 (ji8) (of_decide_eq_true asmA) (of_decide_eq_true asmA) HC0.out
       have HR299 := Aside0.mk (Kd.C_of_reads (h1 := fun _ => rfl) (hA21 _ (Kd.reads_of_C HR0.out)))
       have HC299 := Aside0.mk hC21
       clear hA21 hC21 hi021 hsz21
       go_wp2_with (first | ((with_reducible refine gate_callee (f := 80) rfl ?_); refine goesL_ (some 27) rfl rfl Try.func80 (by kernel_rfl) rfl #[.slice A21 (l0.drop ((ji8) : Int).toNat).length (c0 - (ji8).toNat)] rfl (by (try simp only [List.map_toArray, List.map_cons, List.map_nil]); first | done | (rw [show (l0.drop ((ji8) : Int).toNat).length = (l0.length - (ji8).toNat) from List.length_drop] <;> rfl) | (simp only [hji8]; rfl) | rfl | (simp only [List.length_drop, List.length_take]; rfl)) ?_; (with_reducible refine (rickyardref04_ReadText.calls kj3 _ _ (l0.drop ((ji8) : Int).toNat) t300 t301 t302 _ ?side1 ?side2 A11.out).mono ?_); (case side1 => exact cb1 HR299 HB); (case side2 => exact HC299.out); rintro e w22 ⟨rfl, hb⟩; refine ⟨_, rfl, ?_⟩; replace HO_298000 := Aside0.mk (Kd.R_below (rowA HO_298000.out) hb); replace BK296 := blkB BK296 hb; replace BK297 := blkB BK297 hb; replace HB := bs3 HB GE296 GE297 hb; (try clear hb); have hnb23 := NB296_297.out; have hnc23 := NB297_296.out; obtain ⟨hcz24_0, hcz24_1, hcz24_2, hfz24_0, hfz24_1, hfz24_2⟩ := blk3 BK296))
       refine bodyPost_ret (results_ct rfl _ _ gb296 62 #[.slice none 0 0, .int .i64 0, .int .i64 0] (0, 0) _ rfl (putA BK296.out) Try.underlying62 rfl (by kernel_rfl)) rfl ?_
       exact ⟨_, by first | rfl | (simp [errW_none, errW_some] <;> rfl) | (simp only [← hji8]; first | rfl | (simp [errW_none, errW_some] <;> rfl)) | (simp [*, errW_none, errW_some] <;> rfl) | (exfalso; simp_all; done), by first | exact Kd.R_nil _ _ _ _ _ | exact Kd.N_nil _ _ _ _ _ | exact Kd.V_nil _ _ _ _ _ | exact Kd.Q_nil _ _ _ _ _ | exact Kd.S_nil _ _ _ _ _, belC HB.out GE296.out GE297.out⟩
      rw [if_pos c12] at H
      have c12b0 := beq_iff_eq.mpr c12
      have c12b1 := bne_eq_false_iff_eq.mpr c12
      clear c12
      replace H := ifN H
      obtain ⟨c13, H⟩ := H
      have LMc13 := Aside0.mk c13
      clear c13
      obtain ⟨y303, hy303⟩ : ∃ y_ : List ByteArray, y_ = (x298000_1 ++ [t300]) := ⟨_, rfl⟩
      replace H : (rickyardref06_Read.l0 kj3 l0 (wrap64 ((ji8) + t301)) y303 0 0) = some (r1, r2, r3, r4) := nmA hy303 H
      have Ny303 := Aside0.mk hy303
      clear hy303
      have H' := Aside0.mk H
      clear H
      obtain ⟨i014, hi014, _, hsz14, _⟩ := info_parts info5
      obtain ⟨A14, hcut14, hA14, hC14⟩ := print_drop_of (P := Try.prog) (Value.int .u8) 0 49 5 .i64 Try.underlying49 hi014 hsz14 A0 c0 l0 (ji8) (of_decide_eq_true asmA) (of_decide_eq_true asmA) HC0.out
      have HR299 := Aside0.mk (Kd.C_of_reads (h1 := fun _ => rfl) (hA14 _ (Kd.reads_of_C HR0.out)))
      have HC299 := Aside0.mk hC14
      clear hA14 hC14 hi014 hsz14
      go_wp2_with (first | ((with_reducible refine gate_callee (f := 80) rfl ?_); refine goesL_ (some 27) rfl rfl Try.func80 (by kernel_rfl) rfl #[.slice A14 (l0.drop ((ji8) : Int).toNat).length (c0 - (ji8).toNat)] rfl (by (try simp only [List.map_toArray, List.map_cons, List.map_nil]); first | done | (rw [show (l0.drop ((ji8) : Int).toNat).length = (l0.length - (ji8).toNat) from List.length_drop] <;> rfl) | (simp only [hji8]; rfl) | rfl | (simp only [List.length_drop, List.length_take]; rfl)) ?_; (with_reducible refine (rickyardref04_ReadText.calls kj3 _ _ (l0.drop ((ji8) : Int).toNat) t300 t301 t302 _ ?side1 ?side2 A11.out).mono ?_); (case side1 => exact cb1 HR299 HB); (case side2 => exact HC299.out); rintro e w15 ⟨rfl, hb⟩; refine ⟨_, rfl, ?_⟩; replace HO_298000 := Aside0.mk (Kd.R_below (rowA HO_298000.out) hb); replace BK296 := blkB BK296 hb; replace BK297 := blkB BK297 hb; replace HB := bs3 HB GE296 GE297 hb; (try clear hb); have hnb16 := NB297_296.out; have hnc16 := NB296_297.out; obtain ⟨hcz17_0, hcz17_1, hcz17_2, hfz17_0, hfz17_1, hfz17_2⟩ := blk3 BK297) | ((with_reducible refine gate_builtin (b := .append) (xs := #[.tmp 35, .tmp 37]) rfl ?_); at_builtin; refine Kd.R_append Kd.string (w0 := w) w.heap.size rfl (.tmp 35) (.tmp 37) 44 9 (.string ⟨#[]⟩) 16 rfl Try.underlying44 info9 rfl (by decide) (by omega) u298000 x298000_1 t300 [.string t300] (fun _ => True) (fun _ => False) rfl rfl ?aP (fun _ hk => hk.elim) ?aF ?aO ?aB ?aS ?aL ?_; (case aP => exact rfl); (case aB => exact (belC HB.out GE296.out GE297.out)); (case aF => exact (fun _ _ => trivial)); (case aO => exact (rowA HO_298000.out)); (case aS => exact (below_size (belC HB.out GE296.out GE297.out))); (case aL => have := LMc13.out; omega); intro v304 w18 ho hb hg hat; rw [← Ny303.out] at ho; have HO305 := Aside0.mk (ho); replace BK296 := grB BK296 hg (hne := (Kd.R_ne HO_298000.out BK296.out (by decide))); replace BK297 := grB BK297 hg (hne := (Kd.R_ne HO_298000.out BK297.out (by decide))); replace HB := Aside0.mk (hb); clear HO_298000; clear ho hb hg hat; obtain ⟨Ao19, co19, eo19⟩ := Kd.R_slice HO305.out; subst eo19; obtain ⟨hcz20_0, hcz20_1, hcz20_2, hfz20_0, hfz20_1, hfz20_2⟩ := blk3 BK297))
      go_roundg kj3
      case measure => have := HK1.out; have := HJ3.out; omega
      case rel => exact ⟨(wrap64 ((ji8) + t301)), (x297001_1), (x297002_1), (y303), (.slice Ao19 y303.length co19), (by first | rfl | (simp; done) | (simp only [← hji8] <;> (first | rfl | (simp; done)); done) | (simp [*]; done)), H', ⟨by have := HK1.out; have := HJ3.out; omega⟩, ⟨by (with_reducible repeat (first | apply Kd.R_alloc | apply Kd.R_drewN | apply Kd.R_drew)); exact Kd.R_mono (Kd.R_far (p := ⟨gb297, 0, none⟩) (Kd.R_types HO305.out BK297.out (by decide)) (fun _ hk => hk.2) (.slice Ao19 y303.length co19)) (fun _ hk => trivial)⟩, ⟨putB BK296.out NB296_297.out⟩, ⟨putA BK297.out⟩, ⟨belC HB.out GE296.out GE297.out⟩⟩
     replace c7 := Bool.eq_false_iff.mpr c7
     subst c7
     have H1 : (if (wrap64 ((l0.length : Int) - x5_1)) = 10 then (if 0 ≤ (wrap64 (x5_1 + 1)) then (if (wrap64 (x5_1 + 1)) ≤ (l0.length : Int) then ((rickyardref04_ReadNumber.f kj3 (l0.drop ((wrap64 (x5_1 + 1)) : Int).toNat)).bind fun bt307 => (if 0 ≤ (wrap64 (x5_1 + 9)) then (if (wrap64 (x5_1 + 9)) < (l0.length : Int) then ((rickyardref06_Write.f kj3 x298000_1 bt307.1 (wrap64 (rd l0 (wrap64 (x5_1 + 9))))).bind fun bt311 => (if bt311.2 = 0 then (if (strOfNums bt311.1).toList = (strOfNums l0).toList then (some (x298000_1, bt307.1, wrap64 (rd l0 (wrap64 (x5_1 + 9))), bt311.2)) else (some (([] : List ByteArray), 0, 0, 40))) else (some (([] : List ByteArray), 0, 0, 40)))) else (none)) else (none))) else (none)) else (none)) else (some (([] : List ByteArray), 0, 0, 40))) = some (r1, r2, r3, r4) := by rw [if_neg (show ¬ (false = true) by decide)] at H; exact H
     clear H
     have H := H1
     clear H1
     by_cases c25 : (wrap64 ((l0.length : Int) - x5_1)) = 10
     rotate_left
     ·rw [if_neg c25] at H
      have c25b0 := beq_eq_false_iff_ne.mpr c25
      have c25b1 := bne_iff_ne.mpr c25
      simp only [Option.some.injEq, Prod.mk.injEq] at H
      obtain ⟨rfl, rfl, rfl, rfl⟩ := H
      have hnb61 := NB296_297.out
      have hnc61 := NB297_296.out
      obtain ⟨hcz62_0, hcz62_1, hcz62_2, hfz62_0, hfz62_1, hfz62_2⟩ := blk3 BK296
      go_wp2
      refine bodyPost_ret (results_ct rfl _ _ gb296 62 #[.slice none 0 0, .int .i64 0, .int .i64 0] (0, 0) _ rfl (putA BK296.out) Try.underlying62 rfl (by kernel_rfl)) rfl ?_
      exact ⟨_, ret1, by first | exact Kd.R_nil _ _ _ _ _ | exact Kd.N_nil _ _ _ _ _ | exact Kd.V_nil _ _ _ _ _ | exact Kd.Q_nil _ _ _ _ _ | exact Kd.S_nil _ _ _ _ _, belC HB.out GE296.out GE297.out⟩
     rw [if_pos c25] at H
     have c25b0 := beq_iff_eq.mpr c25
     have c25b1 := bne_eq_false_iff_eq.mpr c25
     clear c25
     obtain ⟨ji26, hji26⟩ : ∃ j_ : Int, (wrap64 (x5_1 + 1)) = j_ := ⟨_, rfl⟩
     replace H : (if 0 ≤ (ji26) then (if (ji26) ≤ (l0.length : Int) then ((rickyardref04_ReadNumber.f kj3 (l0.drop ((ji26) : Int).toNat)).bind fun bt307 => (if 0 ≤ (wrap64 (x5_1 + 9)) then (if (wrap64 (x5_1 + 9)) < (l0.length : Int) then ((rickyardref06_Write.f kj3 x298000_1 bt307.1 (wrap64 (rd l0 (wrap64 (x5_1 + 9))))).bind fun bt311 => (if bt311.2 = 0 then (if (strOfNums bt311.1).toList = (strOfNums l0).toList then (some (x298000_1, bt307.1, wrap64 (rd l0 (wrap64 (x5_1 + 9))), bt311.2)) else (some (([] : List ByteArray), 0, 0, 40))) else (some (([] : List ByteArray), 0, 0, 40)))) else (none)) else (none))) else (none)) else (none)) = some (r1, r2, r3, r4) := by first | (rw [hji26] at H; exact H) | (simp only [hji26] at H ⊢; exact H)
     have hji26w : (IntKind.i64.wrap (x5_1 + 1)) = ji26 := (i64_w _).trans hji26
     replace H := ifN H
     obtain ⟨c27, H⟩ := H
     have c27b0 := eq_true c27
     have c27b1 := decide_eq_true c27
     clear c27
     replace H := ifN H
     obtain ⟨c28, H⟩ := H
     have c28b0 := eq_true c28
     have c28b1 := decide_eq_true c28
     clear c28
     replace H := bnA H
     obtain ⟨⟨t307, t308, t309⟩, A29, H⟩ := H
     replace H : (if 0 ≤ (wrap64 (x5_1 + 9)) then (if (wrap64 (x5_1 + 9)) < (l0.length : Int) then ((rickyardref06_Write.f kj3 x298000_1 t307 (wrap64 (rd l0 (wrap64 (x5_1 + 9))))).bind fun bt311 => (if bt311.2 = 0 then (if (strOfNums bt311.1).toList = (strOfNums l0).toList then (some (x298000_1, t307, wrap64 (rd l0 (wrap64 (x5_1 + 9))), bt311.2)) else (some (([] : List ByteArray), 0, 0, 40))) else (some (([] : List ByteArray), 0, 0, 40)))) else (none)) else (none)) = some (r1, r2, r3, r4) := H
     obtain ⟨ji30, hji30⟩ : ∃ j_ : Int, (wrap64 (x5_1 + 9)) = j_ := ⟨_, rfl⟩
     replace H : (if 0 ≤ (ji30) then (if (ji30) < (l0.length : Int) then ((rickyardref06_Write.f kj3 x298000_1 t307 (wrap64 (rd l0 (ji30)))).bind fun bt311 => (if bt311.2 = 0 then (if (strOfNums bt311.1).toList = (strOfNums l0).toList then (some (x298000_1, t307, wrap64 (rd l0 (ji30)), bt311.2)) else (some (([] : List ByteArray), 0, 0, 40))) else (some (([] : List ByteArray), 0, 0, 40)))) else (none)) else (none)) = some (r1, r2, r3, r4) := by first | (rw [hji30] at H; exact H) | (simp only [hji30] at H ⊢; exact H)
     (try rw [hji30] at A29)
     have hji30w : (IntKind.i64.wrap (x5_1 + 9)) = ji30 := (i64_w _).trans hji30
     replace H := ifN H
     obtain ⟨c31, H⟩ := H
     have c31b0 := decide_eq_true c31
     clear c31
     replace H := ifN H
     obtain ⟨c32, H⟩ := H
     have c32b0 := decide_eq_true c32
     clear c32
     replace H := bnA H
     obtain ⟨⟨t311, t314⟩, A33, H⟩ := H
     replace H : (if t314 = 0 then (if (strOfNums t311).toList = (strOfNums l0).toList then (some (x298000_1, t307, wrap64 (rd l0 (ji30)), t314)) else (some (([] : List ByteArray), 0, 0, 40))) else (some (([] : List ByteArray), 0, 0, 40))) = some (r1, r2, r3, r4) := H
     by_cases c34 : t314 = 0
     rotate_left
     ·rw [if_neg c34] at H
      have c34b0 := beq_eq_false_iff_ne.mpr c34
      have c34b1 := bne_iff_ne.mpr c34
      simp only [Option.some.injEq, Prod.mk.injEq] at H
      obtain ⟨rfl, rfl, rfl, rfl⟩ := H
      obtain ⟨i055, hi055, _, hsz55, _⟩ := info_parts info5
      obtain ⟨A55, hcut55, hA55, hC55⟩ := print_drop_of (P := Try.prog) (Value.int .u8) 0 49 5 .i64 Try.underlying49 hi055 hsz55 A0 c0 l0 (ji26) (of_decide_eq_true asmA) (of_decide_eq_true asmA) HC0.out
      have HR306 := Aside0.mk (Kd.C_of_reads (h1 := fun _ => rfl) (hA55 _ (Kd.reads_of_C HR0.out)))
      have HC306 := Aside0.mk hC55
      clear hA55 hC55 hi055 hsz55
      go_wp2_with (first | ((with_reducible refine gate_callee (f := 81) rfl ?_); refine goesL_ (some 55) rfl rfl Try.func81 (by kernel_rfl) rfl #[.slice A55 (l0.drop ((ji26) : Int).toNat).length (c0 - (ji26).toNat)] rfl (by (try simp only [List.map_toArray, List.map_cons, List.map_nil]); first | done | (rw [show (l0.drop ((ji26) : Int).toNat).length = (l0.length - (ji26).toNat) from List.length_drop] <;> rfl) | (simp only [hji26]; rfl) | rfl | (simp only [List.length_drop, List.length_take]; rfl)) ?_; (with_reducible refine (rickyardref04_ReadNumber.calls kj3 _ _ (l0.drop ((ji26) : Int).toNat) t307 t308 t309 _ ?side1 ?side2 A29.out).mono ?_); (case side1 => exact cb1 HR306 HB); (case side2 => exact HC306.out); rintro e w' ⟨rfl, ⟨nd, rfl⟩⟩; refine ⟨_, rfl, ?_⟩; (try (rw [drewN_self wc]; generalize hq_ : World.drewN wc _ = wc; have n0_ : Aside0 (Kd.R Kd.string 9 wc w.heap.size (fun _ => True) u298000 x298000_1) := ⟨by rw [← hq_]; exact (rowA HO_298000.out)⟩; have n1_ : Aside0 (wc.heap[gb296]? = some (.cells #[.slice none 0 0, .int .i64 x297001_1, .int .i64 x297002_1] 62 (0, 0))) := ⟨by rw [← hq_]; exact (blkA BK296.out)⟩; have n2_ : Aside0 (wc.heap[gb297]? = some (.cells #[u298000, .int .i64 0, .int .i64 0] 62 (0, 0))) := ⟨by rw [← hq_]; exact (blkA BK297.out)⟩; have n3_ : Aside0 (Below w.heap.size w wc) := ⟨by rw [← hq_]; exact (belC HB.out GE296.out GE297.out)⟩; clear HO_298000 BK296 BK297 HB hq_; have HO_298000 := n0_; have BK296 := n1_; have BK297 := n2_; have HB := n3_; clear n0_ n1_ n2_ n3_)); have hnb56 := NB297_296.out; have hnc56 := NB296_297.out; obtain ⟨hcz57_0, hcz57_1, hcz57_2, hfz57_0, hfz57_1, hfz57_2⟩ := blk3 BK297; have p310 : 0 ≤ ((ji30) : Int) := of_decide_eq_true asmA; have q310 : (ji30) < (l0.length : Int) := of_decide_eq_true asmA; obtain ⟨ad310, e310, hx310_0⟩ := Kd.at_int HR0.out (ji30) p310 q310; cases e310; have hn310_0 : ad310.block ≠ gb297 := Nat.ne_of_lt (Nat.lt_of_lt_of_le (by have := World.block_lt_of_cell? _ _ hx310_0; first | rwa [add_block] at this | exact this) GW297.out); replace hx310_0 := cbx HB hx310_0; replace hx310_0 := (cell_far (p := ⟨gb297, 1, none⟩) (by first | (rw [add_block]; exact hn310_0) | (show (Addr.add _ _).block ≠ _; rw [add_block]; exact hn310_0) | exact hn310_0) (.int .i64 t307)).trans hx310_0; clear hn310_0; replace p310 := eq_true p310; replace q310 := eq_true q310; obtain ⟨Ao58, co58, eo58⟩ := Kd.R_slice HO_298000.out; subst eo58) | ((with_reducible refine gate_callee (f := 70) rfl ?_); refine goesL_ (some 69) rfl rfl Try.func70 (by kernel_rfl) rfl #[.agg #[.slice Ao58 x298000_1.length co58, .int .i64 t307, .int .i64 (wrap64 (rd l0 (ji30)))]] rfl (by (try simp only [List.map_toArray, List.map_cons, List.map_nil]); first | done | (simp only [hji30]; rfl) | rfl | (simp only [List.length_drop, List.length_take]; rfl)) ?_; (with_reducible refine (rickyardref06_Write.calls kj3 _ _ x298000_1 t307 (wrap64 (rd l0 (ji30))) t311 t314 _ ?side1 ?side2 A33.out).mono ?_); (case side1 => refine (Kd.R_reads' (e := 9) (base := w.heap.size) (ok := fun k_ => True) (n := x298000_1.length) (c := co58) ?_).2.2; exact (by (with_reducible repeat (first | apply Kd.R_alloc | apply Kd.R_drewN | apply Kd.R_drew)); exact (Kd.R_mono (Kd.R_far (p := ⟨gb297, 2, none⟩) (Kd.R_far (p := ⟨gb297, 1, none⟩) (Kd.R_types HO_298000.out BK297.out (by decide)) (fun _ hk => hk.2) (.int .i64 t307)) (fun _ hk => hk.2) (.int .i64 (wrap64 (rd l0 (ji30))))) (fun _ h_ => h_.1)))); (case side2 => exact (Kd.R_reads' HO_298000.out).2.1); rintro e w59 ⟨v312, rfl, ho0, hb⟩; refine ⟨_, rfl, ?_⟩; have HO313 := Aside0.mk (Kd.R_lower ho0 (below_size (belC HB.out GE296.out GE297.out))); replace HO_298000 := Aside0.mk (Kd.R_below (by (with_reducible repeat (first | apply Kd.R_alloc | apply Kd.R_drewN | apply Kd.R_drew)); exact (Kd.R_mono (Kd.R_far (p := ⟨gb297, 2, none⟩) (Kd.R_far (p := ⟨gb297, 1, none⟩) (Kd.R_types HO_298000.out BK297.out (by decide)) (fun _ hk => hk.2) (.int .i64 t307)) (fun _ hk => hk.2) (.int .i64 (wrap64 (rd l0 (ji30))))) (fun _ h_ => h_.1))) hb); replace BK296 := Aside0.mk (blk_below (g := gb296) (o := .cells #[.slice none 0 0, .int .i64 x297001_1, .int .i64 x297002_1] 62 (0, 0)) (putB BK296.out NB296_297.out) hb); replace BK297 := Aside0.mk (blk_below (g := gb297) (o := .cells #[.slice Ao58 x298000_1.length co58, .int .i64 t307, .int .i64 (wrap64 (rd l0 (ji30)))] 62 (0, 0)) (putA BK297.out) hb); replace HB := bs3 HB GE296 GE297 hb; (try clear hb); (try clear ho0); obtain ⟨hcz60_0, hcz60_1, hcz60_2, hfz60_0, hfz60_1, hfz60_2⟩ := blk3 BK296))
      refine bodyPost_ret (results_ct rfl _ _ gb296 62 #[.slice none 0 0, .int .i64 0, .int .i64 0] (0, 0) _ rfl (putA BK296.out) Try.underlying62 rfl (by kernel_rfl)) rfl ?_
      exact ⟨_, by first | rfl | (simp [errW_none, errW_some] <;> rfl) | (simp only [← hji26, ← hji30]; first | rfl | (simp [errW_none, errW_some] <;> rfl)) | (simp [*, errW_none, errW_some] <;> rfl) | (exfalso; simp_all; done), by first | exact Kd.R_nil _ _ _ _ _ | exact Kd.N_nil _ _ _ _ _ | exact Kd.V_nil _ _ _ _ _ | exact Kd.Q_nil _ _ _ _ _ | exact Kd.S_nil _ _ _ _ _, belC HB.out GE296.out GE297.out⟩
     rw [if_pos c34] at H
     have c34b0 := beq_iff_eq.mpr c34
     have c34b1 := bne_eq_false_iff_eq.mpr c34
     clear c34
     by_cases c35 : (strOfNums t311).toList = (strOfNums l0).toList
     rotate_left
     ·rw [if_neg c35] at H
      have c35b0 := beq_eq_false_iff_ne.mpr c35
      have c35b1 := bne_iff_ne.mpr c35
      simp only [Option.some.injEq, Prod.mk.injEq] at H
      obtain ⟨rfl, rfl, rfl, rfl⟩ := H
      obtain ⟨i046, hi046, _, hsz46, _⟩ := info_parts info5
      obtain ⟨A46, hcut46, hA46, hC46⟩ := print_drop_of (P := Try.prog) (Value.int .u8) 0 49 5 .i64 Try.underlying49 hi046 hsz46 A0 c0 l0 (ji26) (of_decide_eq_true asmA) (of_decide_eq_true asmA) HC0.out
      have HR306 := Aside0.mk (Kd.C_of_reads (h1 := fun _ => rfl) (hA46 _ (Kd.reads_of_C HR0.out)))
      have HC306 := Aside0.mk hC46
      clear hA46 hC46 hi046 hsz46
      go_wp2_with (first | ((with_reducible refine gate_callee (f := 81) rfl ?_); refine goesL_ (some 55) rfl rfl Try.func81 (by kernel_rfl) rfl #[.slice A46 (l0.drop ((ji26) : Int).toNat).length (c0 - (ji26).toNat)] rfl (by (try simp only [List.map_toArray, List.map_cons, List.map_nil]); first | done | (rw [show (l0.drop ((ji26) : Int).toNat).length = (l0.length - (ji26).toNat) from List.length_drop] <;> rfl) | (simp only [hji26]; rfl) | rfl | (simp only [List.length_drop, List.length_take]; rfl)) ?_; (with_reducible refine (rickyardref04_ReadNumber.calls kj3 _ _ (l0.drop ((ji26) : Int).toNat) t307 t308 t309 _ ?side1 ?side2 A29.out).mono ?_); (case side1 => exact cb1 HR306 HB); (case side2 => exact HC306.out); rintro e w' ⟨rfl, ⟨nd, rfl⟩⟩; refine ⟨_, rfl, ?_⟩; (try (rw [drewN_self wc]; generalize hq_ : World.drewN wc _ = wc; have n0_ : Aside0 (Kd.R Kd.string 9 wc w.heap.size (fun _ => True) u298000 x298000_1) := ⟨by rw [← hq_]; exact (rowA HO_298000.out)⟩; have n1_ : Aside0 (wc.heap[gb296]? = some (.cells #[.slice none 0 0, .int .i64 x297001_1, .int .i64 x297002_1] 62 (0, 0))) := ⟨by rw [← hq_]; exact (blkA BK296.out)⟩; have n2_ : Aside0 (wc.heap[gb297]? = some (.cells #[u298000, .int .i64 0, .int .i64 0] 62 (0, 0))) := ⟨by rw [← hq_]; exact (blkA BK297.out)⟩; have n3_ : Aside0 (Below w.heap.size w wc) := ⟨by rw [← hq_]; exact (belC HB.out GE296.out GE297.out)⟩; clear HO_298000 BK296 BK297 HB hq_; have HO_298000 := n0_; have BK296 := n1_; have BK297 := n2_; have HB := n3_; clear n0_ n1_ n2_ n3_)); have hnb47 := NB297_296.out; have hnc47 := NB296_297.out; obtain ⟨hcz48_0, hcz48_1, hcz48_2, hfz48_0, hfz48_1, hfz48_2⟩ := blk3 BK297; have p310 : 0 ≤ ((ji30) : Int) := of_decide_eq_true asmA; have q310 : (ji30) < (l0.length : Int) := of_decide_eq_true asmA; obtain ⟨ad310, e310, hx310_0⟩ := Kd.at_int HR0.out (ji30) p310 q310; cases e310; have hn310_0 : ad310.block ≠ gb297 := Nat.ne_of_lt (Nat.lt_of_lt_of_le (by have := World.block_lt_of_cell? _ _ hx310_0; first | rwa [add_block] at this | exact this) GW297.out); replace hx310_0 := cbx HB hx310_0; replace hx310_0 := (cell_far (p := ⟨gb297, 1, none⟩) (by first | (rw [add_block]; exact hn310_0) | (show (Addr.add _ _).block ≠ _; rw [add_block]; exact hn310_0) | exact hn310_0) (.int .i64 t307)).trans hx310_0; clear hn310_0; replace p310 := eq_true p310; replace q310 := eq_true q310; obtain ⟨Ao49, co49, eo49⟩ := Kd.R_slice HO_298000.out; subst eo49) | ((with_reducible refine gate_callee (f := 70) rfl ?_); refine goesL_ (some 69) rfl rfl Try.func70 (by kernel_rfl) rfl #[.agg #[.slice Ao49 x298000_1.length co49, .int .i64 t307, .int .i64 (wrap64 (rd l0 (ji30)))]] rfl (by (try simp only [List.map_toArray, List.map_cons, List.map_nil]); first | done | (simp only [hji30]; rfl) | rfl | (simp only [List.length_drop, List.length_take]; rfl)) ?_; (with_reducible refine (rickyardref06_Write.calls kj3 _ _ x298000_1 t307 (wrap64 (rd l0 (ji30))) t311 t314 _ ?side1 ?side2 A33.out).mono ?_); (case side1 => refine (Kd.R_reads' (e := 9) (base := w.heap.size) (ok := fun k_ => True) (n := x298000_1.length) (c := co49) ?_).2.2; exact (by (with_reducible repeat (first | apply Kd.R_alloc | apply Kd.R_drewN | apply Kd.R_drew)); exact (Kd.R_mono (Kd.R_far (p := ⟨gb297, 2, none⟩) (Kd.R_far (p := ⟨gb297, 1, none⟩) (Kd.R_types HO_298000.out BK297.out (by decide)) (fun _ hk => hk.2) (.int .i64 t307)) (fun _ hk => hk.2) (.int .i64 (wrap64 (rd l0 (ji30))))) (fun _ h_ => h_.1)))); (case side2 => exact (Kd.R_reads' HO_298000.out).2.1); rintro e w50 ⟨v312, rfl, ho0, hb⟩; refine ⟨_, rfl, ?_⟩; have HO313 := Aside0.mk (Kd.R_lower ho0 (below_size (belC HB.out GE296.out GE297.out))); replace HO_298000 := Aside0.mk (Kd.R_below (by (with_reducible repeat (first | apply Kd.R_alloc | apply Kd.R_drewN | apply Kd.R_drew)); exact (Kd.R_mono (Kd.R_far (p := ⟨gb297, 2, none⟩) (Kd.R_far (p := ⟨gb297, 1, none⟩) (Kd.R_types HO_298000.out BK297.out (by decide)) (fun _ hk => hk.2) (.int .i64 t307)) (fun _ hk => hk.2) (.int .i64 (wrap64 (rd l0 (ji30))))) (fun _ h_ => h_.1))) hb); replace BK296 := Aside0.mk (blk_below (g := gb296) (o := .cells #[.slice none 0 0, .int .i64 x297001_1, .int .i64 x297002_1] 62 (0, 0)) (putB BK296.out NB296_297.out) hb); replace BK297 := Aside0.mk (blk_below (g := gb297) (o := .cells #[.slice Ao49 x298000_1.length co49, .int .i64 t307, .int .i64 (wrap64 (rd l0 (ji30)))] 62 (0, 0)) (putA BK297.out) hb); replace HB := bs3 HB GE296 GE297 hb; (try clear hb); (try clear ho0); have hcv51 := own_string (P := Try.prog) Try.underlying49 Try.underlying5 Try.underlying9 (Kd.own_of_R HO313.out); have hcv52 := Kd.C_string (P := Try.prog) (A := (some ad310)) (c := c0) Try.underlying49 Try.underlying5 Try.underlying9 (Kd.C_below HR0.out HB.out); have hcv53 := fun (n_ : Nat) => Kd.C_string (P := Try.prog) (A := (some ad310)) (c := c0) Try.underlying49 Try.underlying5 Try.underlying9 (Kd.C_drewN (Kd.C_below HR0.out HB.out) n_); obtain ⟨hcz54_0, hcz54_1, hcz54_2, hfz54_0, hfz54_1, hfz54_2⟩ := blk3 BK296))
      refine bodyPost_ret (results_ct rfl _ _ gb296 62 #[.slice none 0 0, .int .i64 0, .int .i64 0] (0, 0) _ rfl (putA BK296.out) Try.underlying62 rfl (by kernel_rfl)) rfl ?_
      exact ⟨_, by first | rfl | (simp [errW_none, errW_some] <;> rfl) | (simp only [← hji26, ← hji30]; first | rfl | (simp [errW_none, errW_some] <;> rfl)) | (simp [*, errW_none, errW_some] <;> rfl) | (exfalso; simp_all; done), by first | exact Kd.R_nil _ _ _ _ _ | exact Kd.N_nil _ _ _ _ _ | exact Kd.V_nil _ _ _ _ _ | exact Kd.Q_nil _ _ _ _ _ | exact Kd.S_nil _ _ _ _ _, belC HB.out GE296.out GE297.out⟩
     rw [if_pos c35] at H
     have c35b0 := beq_iff_eq.mpr c35
     have c35b1 := bne_eq_false_iff_eq.mpr c35
     clear c35
     simp only [Option.some.injEq, Prod.mk.injEq] at H
     obtain ⟨rfl, rfl, rfl, rfl⟩ := H
     obtain ⟨i036, hi036, _, hsz36, _⟩ := info_parts info5
     obtain ⟨A36, hcut36, hA36, hC36⟩ := print_drop_of (P := Try.prog) (Value.int .u8) 0 49 5 .i64 Try.underlying49 hi036 hsz36 A0 c0 l0 (ji26) (of_decide_eq_true asmA) (of_decide_eq_true asmA) HC0.out
     have HR306 := Aside0.mk (Kd.C_of_reads (h1 := fun _ => rfl) (hA36 _ (Kd.reads_of_C HR0.out)))
     have HC306 := Aside0.mk hC36
     clear hA36 hC36 hi036 hsz36
     go_wp2_with (first | ((with_reducible refine gate_callee (f := 81) rfl ?_); refine goesL_ (some 55) rfl rfl Try.func81 (by kernel_rfl) rfl #[.slice A36 (l0.drop ((ji26) : Int).toNat).length (c0 - (ji26).toNat)] rfl (by (try simp only [List.map_toArray, List.map_cons, List.map_nil]); first | done | (rw [show (l0.drop ((ji26) : Int).toNat).length = (l0.length - (ji26).toNat) from List.length_drop] <;> rfl) | (simp only [hji26]; rfl) | rfl | (simp only [List.length_drop, List.length_take]; rfl)) ?_; (with_reducible refine (rickyardref04_ReadNumber.calls kj3 _ _ (l0.drop ((ji26) : Int).toNat) t307 t308 t309 _ ?side1 ?side2 A29.out).mono ?_); (case side1 => exact cb1 HR306 HB); (case side2 => exact HC306.out); rintro e w' ⟨rfl, ⟨nd, rfl⟩⟩; refine ⟨_, rfl, ?_⟩; (try (rw [drewN_self wc]; generalize hq_ : World.drewN wc _ = wc; have n0_ : Aside0 (Kd.R Kd.string 9 wc w.heap.size (fun _ => True) u298000 x298000_1) := ⟨by rw [← hq_]; exact (rowA HO_298000.out)⟩; have n1_ : Aside0 (wc.heap[gb296]? = some (.cells #[.slice none 0 0, .int .i64 x297001_1, .int .i64 x297002_1] 62 (0, 0))) := ⟨by rw [← hq_]; exact (blkA BK296.out)⟩; have n2_ : Aside0 (wc.heap[gb297]? = some (.cells #[u298000, .int .i64 0, .int .i64 0] 62 (0, 0))) := ⟨by rw [← hq_]; exact (blkA BK297.out)⟩; have n3_ : Aside0 (Below w.heap.size w wc) := ⟨by rw [← hq_]; exact (belC HB.out GE296.out GE297.out)⟩; clear HO_298000 BK296 BK297 HB hq_; have HO_298000 := n0_; have BK296 := n1_; have BK297 := n2_; have HB := n3_; clear n0_ n1_ n2_ n3_)); have hnb37 := NB297_296.out; have hnc37 := NB296_297.out; obtain ⟨hcz38_0, hcz38_1, hcz38_2, hfz38_0, hfz38_1, hfz38_2⟩ := blk3 BK297; have p310 : 0 ≤ ((ji30) : Int) := of_decide_eq_true asmA; have q310 : (ji30) < (l0.length : Int) := of_decide_eq_true asmA; obtain ⟨ad310, e310, hx310_0⟩ := Kd.at_int HR0.out (ji30) p310 q310; cases e310; have hn310_0 : ad310.block ≠ gb297 := Nat.ne_of_lt (Nat.lt_of_lt_of_le (by have := World.block_lt_of_cell? _ _ hx310_0; first | rwa [add_block] at this | exact this) GW297.out); replace hx310_0 := cbx HB hx310_0; replace hx310_0 := (cell_far (p := ⟨gb297, 1, none⟩) (by first | (rw [add_block]; exact hn310_0) | (show (Addr.add _ _).block ≠ _; rw [add_block]; exact hn310_0) | exact hn310_0) (.int .i64 t307)).trans hx310_0; clear hn310_0; replace p310 := eq_true p310; replace q310 := eq_true q310; obtain ⟨Ao39, co39, eo39⟩ := Kd.R_slice HO_298000.out; subst eo39) | ((with_reducible refine gate_callee (f := 70) rfl ?_); refine goesL_ (some 69) rfl rfl Try.func70 (by kernel_rfl) rfl #[.agg #[.slice Ao39 x298000_1.length co39, .int .i64 t307, .int .i64 (wrap64 (rd l0 (ji30)))]] rfl (by (try simp only [List.map_toArray, List.map_cons, List.map_nil]); first | done | (simp only [hji30]; rfl) | rfl | (simp only [List.length_drop, List.length_take]; rfl)) ?_; (with_reducible refine (rickyardref06_Write.calls kj3 _ _ x298000_1 t307 (wrap64 (rd l0 (ji30))) t311 t314 _ ?side1 ?side2 A33.out).mono ?_); (case side1 => refine (Kd.R_reads' (e := 9) (base := w.heap.size) (ok := fun k_ => True) (n := x298000_1.length) (c := co39) ?_).2.2; exact (by (with_reducible repeat (first | apply Kd.R_alloc | apply Kd.R_drewN | apply Kd.R_drew)); exact (Kd.R_mono (Kd.R_far (p := ⟨gb297, 2, none⟩) (Kd.R_far (p := ⟨gb297, 1, none⟩) (Kd.R_types HO_298000.out BK297.out (by decide)) (fun _ hk => hk.2) (.int .i64 t307)) (fun _ hk => hk.2) (.int .i64 (wrap64 (rd l0 (ji30))))) (fun _ h_ => h_.1)))); (case side2 => exact (Kd.R_reads' HO_298000.out).2.1); rintro e w40 ⟨v312, rfl, ho0, hb⟩; refine ⟨_, rfl, ?_⟩; have HO313 := Aside0.mk (Kd.R_lower ho0 (below_size (belC HB.out GE296.out GE297.out))); replace HO_298000 := Aside0.mk (Kd.R_below (by (with_reducible repeat (first | apply Kd.R_alloc | apply Kd.R_drewN | apply Kd.R_drew)); exact (Kd.R_mono (Kd.R_far (p := ⟨gb297, 2, none⟩) (Kd.R_far (p := ⟨gb297, 1, none⟩) (Kd.R_types HO_298000.out BK297.out (by decide)) (fun _ hk => hk.2) (.int .i64 t307)) (fun _ hk => hk.2) (.int .i64 (wrap64 (rd l0 (ji30))))) (fun _ h_ => h_.1))) hb); replace BK296 := Aside0.mk (blk_below (g := gb296) (o := .cells #[.slice none 0 0, .int .i64 x297001_1, .int .i64 x297002_1] 62 (0, 0)) (putB BK296.out NB296_297.out) hb); replace BK297 := Aside0.mk (blk_below (g := gb297) (o := .cells #[.slice Ao39 x298000_1.length co39, .int .i64 t307, .int .i64 (wrap64 (rd l0 (ji30)))] 62 (0, 0)) (putA BK297.out) hb); replace HB := bs3 HB GE296 GE297 hb; (try clear hb); (try clear ho0); have hcv41 := own_string (P := Try.prog) Try.underlying49 Try.underlying5 Try.underlying9 (Kd.own_of_R HO313.out); have hcv42 := Kd.C_string (P := Try.prog) (A := (some ad310)) (c := c0) Try.underlying49 Try.underlying5 Try.underlying9 (Kd.C_below HR0.out HB.out); have hcv43 := fun (n_ : Nat) => Kd.C_string (P := Try.prog) (A := (some ad310)) (c := c0) Try.underlying49 Try.underlying5 Try.underlying9 (Kd.C_drewN (Kd.C_below HR0.out HB.out) n_); obtain ⟨hcz44_0, hcz44_1, hcz44_2, hfz44_0, hfz44_1, hfz44_2⟩ := blk3 BK297; obtain ⟨hcz45_0, hcz45_1, hcz45_2, hfz45_0, hfz45_1, hfz45_2⟩ := blk3 BK296))
     refine bodyPost_ret (results_ct rfl _ _ gb296 62 #[.slice Ao39 x298000_1.length co39, .int .i64 t307, .int .i64 (wrap64 (rd l0 (ji30)))] (0, 0) _ rfl (putA BK296.out) Try.underlying62 rfl (by kernel_rfl)) rfl ?_
     exact ⟨_, by first | rfl | (simp [errW_none, errW_some] <;> rfl) | (simp only [← hji26, ← hji30]; first | rfl | (simp [errW_none, errW_some] <;> rfl)) | (simp [*, errW_none, errW_some] <;> rfl) | (exfalso; simp_all; done), by (with_reducible repeat (first | apply Kd.R_alloc | apply Kd.R_drewN | apply Kd.R_drew)); exact Kd.R_mono (Kd.R_far (p := ⟨gb296, 2, none⟩) (Kd.R_far (p := ⟨gb296, 1, none⟩) (Kd.R_far (p := ⟨gb296, 0, none⟩) (Kd.R_types HO_298000.out BK296.out (by decide)) (fun _ hk => hk.2) (.slice Ao39 x298000_1.length co39)) (fun _ hk => hk.2) (.int .i64 t307)) (fun _ hk => hk.2) (.int .i64 (wrap64 (rd l0 (ji30))))) (fun _ hk => trivial), belC HB.out GE296.out GE297.out⟩
end Go.Proofs.Ytjemmmemenljbaa.PFold
end
