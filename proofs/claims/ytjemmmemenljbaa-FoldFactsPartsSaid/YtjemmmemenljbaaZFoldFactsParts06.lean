import Derived.Test.YtjemmmemenljbaaZFoldFactsParts03
section
namespace Go.Proofs.Ytjemmmemenljbaa.PFold
open Go.RowKit Go.Proofs.YtjemmmemenljbaaW.PrintWords Go.Proofs.YtjemmmemenljbaaW.PrintLast Go.Proofs.YtjemmmemenljbaaW.PrintMore
attribute [local go_sem] max2_int min2_int max_two min_two max_three min_three max_four min_four   -- for this text's walks alone
set_option linter.unusedVariables false
set_option linter.unusedSimpArgs false
set_option maxHeartbeats 8000000
set_option maxRecDepth 100000
def code_ReadText.l0 : Nat → List Int → List Int → Int → Option (ByteArray × Int × Int)
 | 0, _, _, _ => none
 | k + 1, x0, x5, x6 => if x6 < (x0.length : Int) then (if 0 ≤ x6 then (if (rd x0 x6) = 0 then (if (wrap64 (x6 + 1)) = (x0.length : Int) then (some ((⟨#[]⟩ : ByteArray), 0, 10)) else (if 0 ≤ (wrap64 (x6 + 1)) then (if (wrap64 (x6 + 1)) < (x0.length : Int) then (if (rd x0 (wrap64 (x6 + 1))) = 1 then (some (strOfNums x5, wrap64 ((wrap64 (x6 + 1)) + 1), 0)) else (if (rd x0 (wrap64 (x6 + 1))) = 255 then (if x5.length < 140737488355328 then (code_ReadText.l0 k x0 (x5 ++ [0]) (wrap64 ((wrap64 (x6 + 1)) + 1))) else (none)) else (some ((⟨#[]⟩ : ByteArray), 0, 3)))) else (none)) else (none))) else (if x5.length < 140737488355328 then (code_ReadText.l0 k x0 (x5 ++ [rd x0 x6]) (wrap64 (x6 + 1))) else (none))) else (none)) else (some ((⟨#[]⟩ : ByteArray), 0, 10))
def code_ReadText.f (k : Nat) (l0 : List Int) : Option (ByteArray × Int × Int) := code_ReadText.l0 k l0 ([] : List Int) 0
theorem code_ReadText.calls (k : Nat) (A0 : Option Addr) (c0 : Nat) (l0 : List Int) (r1 : ByteArray) (r2 : Int) (r3 : Int) (w : World) (hr0 : Kd.C (Kd.int .u8) w A0 l0.length l0) (hc0 : l0.length ≤ c0) (h : code_ReadText.f k l0 = some (r1, r2, r3)) :
  Calls Try.prog 93 #[.slice A0 l0.length c0] w fun e w' => e = .returned (.tuple #[.string r1, .int .i64 r2, .int .i64 r3]) ∧ Below w.heap.size w w' := by
 have HR0 := Aside0.mk hr0
 have HC0 := Aside0.mk hc0
 clear hr0 hc0
 have HB := Aside0.mk (Below.refl w.heap.size w)
 have H : (code_ReadText.l0 k l0 ([] : List Int) 0) = some (r1, r2, r3) := h
 clear h
 have H' := Aside0.mk H
 clear H
 go_enter Try.func93, Try.ntmps93
 go_wp2
 go_loopg [5, 6] k (fun kq v5 v6 w' => ∃ (x5_1 : List Int) (x6_1 : Int), v6 = .int .i64 x6_1 ∧ Aside0 (code_ReadText.l0 kq l0 x5_1 x6_1 = some (r1, r2, r3)) ∧ Aside0 (kq ≤ k) ∧ Aside0 (Kd.R (Kd.int .u8) 5 w' w.heap.size (fun _ => True) v5 x5_1) ∧ Aside0 (Below w.heap.size w w'))
 case atStart => exact ⟨(([] : List Int)), (0), relA, H', ⟨Nat.le_refl _⟩, ⟨by first | exact Kd.R_nil _ _ _ _ _ | exact Kd.N_nil _ _ _ _ _ | exact Kd.V_nil _ _ _ _ _ | exact Kd.Q_nil _ _ _ _ _ | exact Kd.S_nil _ _ _ _ _⟩, ⟨belA HB.out⟩⟩
 case round =>
  clear H'
  obtain ⟨x5_1, x6_1, rfl, HA, HK1, HO_5, HB⟩ := hrel
  cases gk with
  | zero => exact absurd HA.out (by simp [code_ReadText.l0])
  | succ k1 =>
   have H := HA.out
   clear HA
   simp only [code_ReadText.l0] at H
   by_cases c2 : x6_1 < (l0.length : Int)
   rotate_left
   ·rw [if_neg c2] at H
    have c2b0 := decide_eq_false c2
    clear c2
    simp only [Option.some.injEq, Prod.mk.injEq] at H
    obtain ⟨rfl, rfl, rfl⟩ := H
    go_wp2
    go_ret3
    exact ⟨ret1, belA HB.out⟩
   rw [if_pos c2] at H
   have c2b0 := decide_eq_true c2
   clear c2
   replace H := ifN H
   obtain ⟨c3, H⟩ := H
   have c3b0 := decide_eq_true c3
   clear c3
   by_cases c4 : (rd l0 x6_1) = 0
   rotate_left
   ·rw [if_neg c4] at H
    have c4b0 := beq_eq_false_iff_ne.mpr c4
    have c4b1 := bne_iff_ne.mpr c4
    replace H := ifN H
    obtain ⟨c14, H⟩ := H
    have LMc14 := Aside0.mk c14
    clear c14
    obtain ⟨y182, hy182⟩ : ∃ y_ : List Int, y_ = (x5_1 ++ [rd l0 x6_1]) := ⟨_, rfl⟩
    replace H : (code_ReadText.l0 k1 l0 y182 (wrap64 (x6_1 + 1))) = some (r1, r2, r3) := nmA hy182 H
    have Ny182 := Aside0.mk hy182
    clear hy182
    have H' := Aside0.mk H
    clear H
    have p180 : 0 ≤ (x6_1 : Int) := of_decide_eq_true asmA
    have q180 : x6_1 < (l0.length : Int) := of_decide_eq_true asmA
    obtain ⟨ad180, e180, hx180_0⟩ := Kd.at_int HR0.out x6_1 p180 q180
    cases e180
    replace hx180_0 := cbx HB hx180_0
    replace p180 := eq_true p180
    replace q180 := eq_true q180
    have p181 : 0 ≤ (x6_1 : Int) := of_decide_eq_true asmA
    have q181 : x6_1 < (l0.length : Int) := of_decide_eq_true asmA
    obtain ⟨ad181, e181, hx181_0⟩ := Kd.at_int HR0.out x6_1 p181 q181
    obtain rfl : ad180 = ad181 := (by injection e181)
    replace hx181_0 := cbx HB hx181_0
    replace p181 := eq_true p181
    replace q181 := eq_true q181
    go_wp2_with (first | ((with_reducible refine gate_builtin (b := .append) (xs := #[.tmp 18, .tmp 23]) rfl ?_); at_builtin; refine Kd.R_append (Kd.int .u8) (w0 := w) w.heap.size rfl (.tmp 18) (.tmp 23) 49 5 (.int .u8 0) 1 rfl Try.underlying49 info5 rfl (by decide) (by omega) u5 x5_1 (rd l0 x6_1) [.int .u8 (rd l0 x6_1)] (fun _ => True) (fun _ => False) rfl rfl ?aP (fun _ hk => hk.elim) ?aF ?aO ?aB ?aS ?aL ?_; (case aP => exact rfl); (case aB => exact (belA HB.out)); (case aF => exact (fun _ _ => trivial)); (case aO => exact (rowA HO_5.out)); (case aS => exact (below_size (belA HB.out))); (case aL => have := LMc14.out; omega); intro v183 w15 ho hb hg hat; rw [← Ny182.out] at ho; have HO184 := Aside0.mk (ho); replace HB := Aside0.mk (hb); clear HO_5; clear ho hb hg hat))
    go_roundg k1
    case measure => have := HK1.out; omega
    case rel => exact ⟨(y182), (wrap64 (x6_1 + 1)), relA, H', ⟨by have := HK1.out; omega⟩, ⟨rowA HO184.out⟩, ⟨belA HB.out⟩⟩
   rw [if_pos c4] at H
   have c4b0 := beq_iff_eq.mpr c4
   have c4b1 := bne_eq_false_iff_eq.mpr c4
   clear c4
   by_cases c5 : (wrap64 (x6_1 + 1)) = (l0.length : Int)
   ·rw [if_pos c5] at H
    have c5b0 := beq_iff_eq.mpr c5
    have c5b1 := bne_eq_false_iff_eq.mpr c5
    clear c5
    simp only [Option.some.injEq, Prod.mk.injEq] at H
    obtain ⟨rfl, rfl, rfl⟩ := H
    have p180 : 0 ≤ (x6_1 : Int) := of_decide_eq_true asmA
    have q180 : x6_1 < (l0.length : Int) := of_decide_eq_true asmA
    obtain ⟨ad180, e180, hx180_0⟩ := Kd.at_int HR0.out x6_1 p180 q180
    cases e180
    replace hx180_0 := cbx HB hx180_0
    replace p180 := eq_true p180
    replace q180 := eq_true q180
    go_wp2
    go_ret3
    exact ⟨ret1, belA HB.out⟩
   rw [if_neg c5] at H
   have c5b0 := beq_eq_false_iff_ne.mpr c5
   have c5b1 := bne_iff_ne.mpr c5
   obtain ⟨ji6, hji6⟩ : ∃ j_ : Int, (wrap64 (x6_1 + 1)) = j_ := ⟨_, rfl⟩
   replace H : (if 0 ≤ (ji6) then (if (ji6) < (l0.length : Int) then (if (rd l0 (ji6)) = 1 then (some (strOfNums x5_1, wrap64 ((ji6) + 1), 0)) else (if (rd l0 (ji6)) = 255 then (if x5_1.length < 140737488355328 then (code_ReadText.l0 k1 l0 (x5_1 ++ [0]) (wrap64 ((ji6) + 1))) else (none)) else (some ((⟨#[]⟩ : ByteArray), 0, 3)))) else (none)) else (none)) = some (r1, r2, r3) := by first | (rw [hji6] at H; exact H) | (simp only [hji6] at H ⊢; exact H)
   (try rw [hji6] at c5b0)
   (try rw [hji6] at c5b1)
   have hji6w : (IntKind.i64.wrap (x6_1 + 1)) = ji6 := (i64_w _).trans hji6
   replace H := ifN H
   obtain ⟨c7, H⟩ := H
   have c7b0 := decide_eq_true c7
   clear c7
   replace H := ifN H
   obtain ⟨c8, H⟩ := H
   have c8b0 := decide_eq_true c8
   clear c8
   by_cases c9 : (rd l0 (ji6)) = 1
   ·rw [if_pos c9] at H
    have c9b0 := beq_iff_eq.mpr c9
    have c9b1 := bne_eq_false_iff_eq.mpr c9
    clear c9
    simp only [Option.some.injEq, Prod.mk.injEq] at H
    obtain ⟨rfl, rfl, rfl⟩ := H
    have p180 : 0 ≤ (x6_1 : Int) := of_decide_eq_true asmA
    have q180 : x6_1 < (l0.length : Int) := of_decide_eq_true asmA
    obtain ⟨ad180, e180, hx180_0⟩ := Kd.at_int HR0.out x6_1 p180 q180
    cases e180
    replace hx180_0 := cbx HB hx180_0
    replace p180 := eq_true p180
    replace q180 := eq_true q180
    have p185 : 0 ≤ ((ji6) : Int) := of_decide_eq_true asmA
    have q185 : (ji6) < (l0.length : Int) := of_decide_eq_true asmA
    obtain ⟨ad185, e185, hx185_0⟩ := Kd.at_int HR0.out (ji6) p185 q185
    obtain rfl : ad180 = ad185 := (by injection e185)
    replace hx185_0 := cbx HB hx185_0
    replace p185 := eq_true p185
    replace q185 := eq_true q185
    have hcv10 := own_string (P := Try.prog) Try.underlying49 Try.underlying5 Try.underlying9 (Kd.own_of_R HO_5.out)
    go_wp2
    go_ret3
    exact ⟨by first | rfl | (simp [errW_none, errW_some] <;> rfl) | (simp only [← hji6]; first | rfl | (simp [errW_none, errW_some] <;> rfl)) | (simp [*, errW_none, errW_some] <;> rfl) | (exfalso; simp_all; done), belA HB.out⟩
   rw [if_neg c9] at H
   have c9b0 := beq_eq_false_iff_ne.mpr c9
   have c9b1 := bne_iff_ne.mpr c9
   by_cases c11 : (rd l0 (ji6)) = 255
   rotate_left
   ·rw [if_neg c11] at H
    have c11b0 := beq_eq_false_iff_ne.mpr c11
    have c11b1 := bne_iff_ne.mpr c11
    simp only [Option.some.injEq, Prod.mk.injEq] at H
    obtain ⟨rfl, rfl, rfl⟩ := H
    have p180 : 0 ≤ (x6_1 : Int) := of_decide_eq_true asmA
    have q180 : x6_1 < (l0.length : Int) := of_decide_eq_true asmA
    obtain ⟨ad180, e180, hx180_0⟩ := Kd.at_int HR0.out x6_1 p180 q180
    cases e180
    replace hx180_0 := cbx HB hx180_0
    replace p180 := eq_true p180
    replace q180 := eq_true q180
    have p185 : 0 ≤ ((ji6) : Int) := of_decide_eq_true asmA
    have q185 : (ji6) < (l0.length : Int) := of_decide_eq_true asmA
    obtain ⟨ad185, e185, hx185_0⟩ := Kd.at_int HR0.out (ji6) p185 q185
    obtain rfl : ad180 = ad185 := (by injection e185)
    replace hx185_0 := cbx HB hx185_0
    replace p185 := eq_true p185
    replace q185 := eq_true q185
    go_wp2
    go_ret3
    exact ⟨by first | rfl | (simp [errW_none, errW_some] <;> rfl) | (simp only [← hji6]; first | rfl | (simp [errW_none, errW_some] <;> rfl)) | (simp [*, errW_none, errW_some] <;> rfl) | (exfalso; simp_all; done), belA HB.out⟩
   rw [if_pos c11] at H
   have c11b0 := beq_iff_eq.mpr c11
   have c11b1 := bne_eq_false_iff_eq.mpr c11
   clear c11
   replace H := ifN H
   obtain ⟨c12, H⟩ := H
   have LMc12 := Aside0.mk c12
   clear c12
   obtain ⟨y186, hy186⟩ : ∃ y_ : List Int, y_ = (x5_1 ++ [0]) := ⟨_, rfl⟩
   replace H : (code_ReadText.l0 k1 l0 y186 (wrap64 ((ji6) + 1))) = some (r1, r2, r3) := nmA hy186 H
   have Ny186 := Aside0.mk hy186
   clear hy186
   have H' := Aside0.mk H
   clear H
   have p180 : 0 ≤ (x6_1 : Int) := of_decide_eq_true asmA
   have q180 : x6_1 < (l0.length : Int) := of_decide_eq_true asmA
   obtain ⟨ad180, e180, hx180_0⟩ := Kd.at_int HR0.out x6_1 p180 q180
   cases e180
   replace hx180_0 := cbx HB hx180_0
   replace p180 := eq_true p180
   replace q180 := eq_true q180
   have p185 : 0 ≤ ((ji6) : Int) := of_decide_eq_true asmA
   have q185 : (ji6) < (l0.length : Int) := of_decide_eq_true asmA
   obtain ⟨ad185, e185, hx185_0⟩ := Kd.at_int HR0.out (ji6) p185 q185
   obtain rfl : ad180 = ad185 := (by injection e185)
   replace hx185_0 := cbx HB hx185_0
   replace p185 := eq_true p185
   replace q185 := eq_true q185
   go_wp2_with (first | ((with_reducible refine gate_builtin (b := .append) (xs := #[.tmp 44, .tmp 45]) rfl ?_); at_builtin; refine Kd.R_append (Kd.int .u8) (w0 := w) w.heap.size rfl (.tmp 44) (.tmp 45) 49 5 (.int .u8 0) 1 rfl Try.underlying49 info5 rfl (by decide) (by omega) u5 x5_1 0 [.int .u8 0] (fun _ => True) (fun _ => False) rfl rfl ?aP (fun _ hk => hk.elim) ?aF ?aO ?aB ?aS ?aL ?_; (case aP => exact rfl); (case aB => exact (belA HB.out)); (case aF => exact (fun _ _ => trivial)); (case aO => exact (rowA HO_5.out)); (case aS => exact (below_size (belA HB.out))); (case aL => have := LMc12.out; omega); intro v187 w13 ho hb hg hat; rw [← Ny186.out] at ho; have HO188 := Aside0.mk (ho); replace HB := Aside0.mk (hb); clear HO_5; clear ho hb hg hat))
   go_roundg k1
   case measure => have := HK1.out; omega
   case rel => exact ⟨(y186), (wrap64 ((ji6) + 1)), (by first | rfl | (simp; done) | (simp only [← hji6] <;> (first | rfl | (simp; done)); done) | (simp [*]; done)), H', ⟨by have := HK1.out; omega⟩, ⟨rowA HO188.out⟩, ⟨belA HB.out⟩⟩
end Go.Proofs.Ytjemmmemenljbaa.PFold
end
section
namespace Go.Proofs.Ytjemmmemenljbaa.PFold
open Go.RowKit Go.Proofs.YtjemmmemenljbaaW.PrintWords Go.Proofs.YtjemmmemenljbaaW.PrintLast Go.Proofs.YtjemmmemenljbaaW.PrintMore
set_option linter.unusedVariables false
set_option linter.unusedSimpArgs false
set_option maxHeartbeats 8000000
set_option maxRecDepth 100000
def stN (u c : Int) : Int := Go.bits .or .u64 (IntKind.u64.wrap (u * 256)) (IntKind.u64.wrap c)
def numF (l : List Int) : Int := l.foldl stN 0
def numOf (l : List Int) : Int := wrap64 (Go.bits .xor .u64 (numF (l.take 8)) 9223372036854775808)
def code_ReadNumber.f (l : List Int) : Option (Int × Int × Int) := if (l.length : Int) < 8 then some (0, 0, 10) else some (numOf l, 8, 0)
theorem numF_snoc {l : List Int} {j : Nat} (h : j < l.length) : numF (l.take (j + 1)) = stN (numF (l.take j)) l[j] := by
  unfold numF
  rw [List.take_succ_eq_append_getElem h, List.foldl_append]
  rfl
theorem code_ReadNumber.calls (A0 : Option Addr) (c0 : Nat) (l0 : List Int) (r1 r2 r3 : Int) (w : World) (hr0 : Kd.C (Kd.int .u8) w A0 l0.length l0) (hc0 : l0.length ≤ c0) (h : code_ReadNumber.f l0 = some (r1, r2, r3)) :
    Calls Try.prog 94 #[.slice A0 l0.length c0] w fun e w' => e = .returned (.tuple #[.int .i64 r1, .int .i64 r2, .int .i64 r3]) ∧ Drawn0 w w' := by
  unfold code_ReadNumber.f at h
  have HC := Lib.hid hr0; clear hr0
  by_cases hl : (l0.length : Int) < 8
  · rw [if_pos hl] at h
    simp only [Option.some.injEq, Prod.mk.injEq] at h
    obtain ⟨rfl, rfl, rfl⟩ := h
    have e1 : decide ((l0.length : Int) < 8) = true := decide_eq_true hl
    have e2 : decide (l0.length < 8) = true := decide_eq_true (by omega)
    clear hl
    go_enter Try.func94, Try.ntmps94
    go_wp2
    go_ret3
    exact ⟨rfl, Drawn0.refl _⟩
  · rw [if_neg hl] at h
    simp only [Option.some.injEq, Prod.mk.injEq] at h
    obtain ⟨h1, rfl, rfl⟩ := h
    have H1 := Lib.hid h1
    have e1 : decide ((l0.length : Int) < 8) = false := decide_eq_false hl
    have e2 : decide (l0.length < 8) = false := decide_eq_false (by omega)
    have h8 : 8 ≤ l0.length := by omega
    have h8c : 8 ≤ c0 := by omega
    clear hl h1
    go_enter Try.func94, Try.ntmps94
    go_wp2
    go_loop [5, 7, 14] (fun v5 _ v => ∃ j : Nat, v = .int .i64 j ∧ j ≤ 8 ∧ v5 = .int .u64 (numF (l0.take j))) (fun _ _ v => 8 - (intOf v).toNat)
    case atStart => exact ⟨0, rfl, by omega, rfl⟩
    case round =>
      obtain ⟨j, rfl, hj, rfl⟩ := hrel
      by_cases hlt : j < 8
      · have d1 : decide ((j : Int) < 8) = true := decide_eq_true (by omega)
        have d2 : decide (j < 8) = true := decide_eq_true hlt
        obtain ⟨ad, ha, hx0⟩ := Kd.at_int HC.out (j : Int) (by omega) (by omega)
        subst ha
        obtain ⟨x, hx⟩ : ∃ x, x = rd l0 (j : Int) := ⟨_, rfl⟩
        have hn : Hid (numF (l0.take (j + 1)) = stN (numF (l0.take j)) x) := Lib.hid (by
          rw [numF_snoc (by omega), hx]
          unfold rd
          rw [show ((j : Int)).toNat = j from by omega, List.getD_eq_getElem?_getD, List.getElem?_eq_getElem (by omega)]
          rfl)
        rw [← hx] at hx0
        simp only [Int.toNat_natCast] at hx0
        clear hx
        generalize numF (l0.take j) = u at *
        go_wp2
        go_round
        case rel => exact ⟨j + 1, by go_num, hlt, by rw [hn.out]; rfl⟩
        case measure => simp [intOf]; omega
      · have d1 : decide ((j : Int) < 8) = false := decide_eq_false (by omega)
        have d2 : decide (j < 8) = false := decide_eq_false hlt
        obtain rfl : j = 8 := by omega
        have hn : Hid (numOf l0 = wrap64 (Go.bits .xor .u64 (numF (l0.take 8)) 9223372036854775808)) := Lib.hid rfl
        generalize numF (l0.take 8) = u at *
        go_wp2
        go_ret3
        exact ⟨by rw [← H1.out, hn.out]; rfl, Drawn0.refl _⟩
end Go.Proofs.Ytjemmmemenljbaa.PFold
end
