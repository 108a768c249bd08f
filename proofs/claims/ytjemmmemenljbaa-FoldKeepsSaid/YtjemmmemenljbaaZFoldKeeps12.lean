import Derived.Test.YtjemmmemenljbaaZFoldKeeps01
import Derived.Test.YtjemmmemenljbaaZFoldKeeps02
import Derived.Lib.Hide
import Derived.Outline
import Derived.WalkMore
import Derived.Laws.Externs
import Derived.Lib.BytesEntry
section
namespace Go.Proofs.Ytjemmmemenljbaa.PFold
open Go.RowKit Go.Proofs.YtjemmmemenljbaaW.PrintWords Go.Proofs.YtjemmmemenljbaaW.PrintLast Go.Proofs.YtjemmmemenljbaaW.PrintMore
def cmpB : List Int → List Int → Int
  | [], [] => 0
  | [], _ :: _ => -1
  | _ :: _, [] => 1
  | a :: x, b :: y => if a < b then -1 else if b < a then 1 else cmpB x y
def isB (x : Int) : Bool := decide (0 ≤ x) && decide (x ≤ 255)
theorem isB_iff {x : Int} : isB x = true ↔ 0 ≤ x ∧ x ≤ 255 := by unfold isB; simp
theorem u8_lt {a b : Int} (ha : isB a = true) (hb : isB b = true) : (a.toNat.toUInt8 < b.toNat.toUInt8) ↔ a < b := by
  rw [isB_iff] at ha hb
  rw [UInt8.lt_iff_toNat_lt]
  simp
  omega
theorem compare_eq (x : List Int) : ∀ y : List Int, x.all isB = true → y.all isB = true → Go.Lib.compareBytes (Go.Lib.bytesOf x) (Go.Lib.bytesOf y) = cmpB x y := by
  induction x with
  | nil =>
    intro y _ _
    cases y <;> rfl
  | cons a x ih =>
    intro y hx hy
    cases y with
    | nil => rfl
    | cons b y =>
      rw [List.all_cons, Bool.and_eq_true_iff] at hx hy
      have h1 := u8_lt hx.1 hy.1
      have h2 := u8_lt hy.1 hx.1
      show (if a.toNat.toUInt8 < b.toNat.toUInt8 then (-1 : Int) else if b.toNat.toUInt8 < a.toNat.toUInt8 then 1 else Go.Lib.compareBytes (Go.Lib.bytesOf x) (Go.Lib.bytesOf y)) = if a < b then -1 else if b < a then 1 else cmpB x y
      simp only [h1, h2, ih y hx.2 hy.2]
theorem C_u8 {w : World} {A : Option Addr} {n : Nat} {xs : List Int} (h : Kd.C (Kd.int .u8) w A n xs) (hn : 0 < n) : ∃ ad, A = some ad ∧ ∀ j x, xs[j]? = some x → w.cell? (ad.add j) = some (.int .u8 x) := by
  obtain ⟨ad, e, hc⟩ := h.2.2 hn
  refine ⟨ad, e, fun j x hj => ?_⟩
  obtain ⟨c, _, h2, h3⟩ := hc j x hj
  have h4 : c = [.int .u8 x] := h2
  have := h3 0 (.int .u8 x) (by rw [h4]; rfl)
  simpa [show (Kd.int .u8).sz = 1 from rfl] using this
theorem run_bytes {P : Program} {w : World} {A : Option Addr} {c : Nat} {xs : List Int} (h : Kd.C (Kd.int .u8) w A xs.length xs) : (Extern.Bytes.bytesOf (.slice A xs.length c)).run P w = .ok ⟨(Go.Lib.bytesOf xs).toArray⟩ w := by
  cases A with
  | none =>
    have h0 : xs = [] := by
      rcases Nat.eq_zero_or_pos xs.length with h' | h'
      · exact List.length_eq_zero_iff.1 h'
      · obtain ⟨ad, e, _⟩ := C_u8 h h'
        cases e
    subst h0
    rfl
  | some a =>
    have := Go.Lib.run_loadBytesX (P := P) w xs a .empty (fun j x hj => by
      have hl : j < xs.length := (List.getElem?_eq_some_iff.1 hj).1
      obtain ⟨ad, e, hc⟩ := C_u8 h (by omega)
      cases e
      exact hc j x hj)
    show (Extern.Bytes.loadBytes a xs.length .empty).run P w = _
    rw [this]
    congr 1
    apply ByteArray.ext
    show (#[] : Array UInt8) ++ (Go.Lib.bytesOf xs).toArray = (Go.Lib.bytesOf xs).toArray
    simp
theorem run_compare {P : Program} {w : World} {A A' : Option Addr} {c c' : Nat} {xs ys : List Int} (h : Kd.C (Kd.int .u8) w A xs.length xs) (h' : Kd.C (Kd.int .u8) w A' ys.length ys) (hx : xs.all isB = true) (hy : ys.all isB = true) :
    (Extern.BytealgCompare.compare #[.slice A xs.length c, .slice A' ys.length c']).run P w = .ok (.int .i64 (cmpB xs ys)) w := by
  change Sem.run P (do pure (goInt (Extern.BytealgCompare.cmp (← Extern.Bytes.bytesOf (.slice A xs.length c)) (← Extern.Bytes.bytesOf (.slice A' ys.length c'))))) w = _
  simp only [Sem.run_bind, Sem.run_pure, run_bytes h, run_bytes h', Result.andThen]
  rw [Go.Lib.cmp_eq]
  simp only [compare_eq xs ys hx hy]
  rfl
def bytes_Compare.f (l0 l1 : List Int) : Option Int := if l0.all isB = true ∧ l1.all isB = true then some (cmpB l0 l1) else none
set_option maxHeartbeats 1000000 in
theorem bytes_Compare.calls (A0 : Option Addr) (c0 : Nat) (l0 : List Int) (A1 : Option Addr) (c1 : Nat) (l1 : List Int) (r : Int) (w : World) (hr0 : Kd.C (Kd.int .u8) w A0 l0.length l0) (_ : l0.length ≤ c0) (hr1 : Kd.C (Kd.int .u8) w A1 l1.length l1) (_ : l1.length ≤ c1) (h : bytes_Compare.f l0 l1 = some r) :
    Calls Try.prog 33 #[.slice A0 l0.length c0, .slice A1 l1.length c1] w fun e w' => e = .returned (.int .i64 r) ∧ Drawn0 w w' := by
  unfold bytes_Compare.f at h
  by_cases hb : l0.all isB = true ∧ l1.all isB = true
  case neg => rw [if_neg hb] at h; cases h
  rw [if_pos hb] at h
  have H := Lib.hid (Option.some.inj h)
  have hrun : (callFunc 65 #[.slice A0 l0.length c0, .slice A1 l1.length c1]).run Try.prog w = .ok (.value (.int .i64 (cmpB l0 l1))) w := by
    rw [run_callFunc_extern Try.func65 (by kernel_rfl) (by kernel_rfl) (by kernel_rfl) (e := Extern.BytealgCompare.compare) (by kernel_rfl), run_compare hr0 hr1 hb.1 hb.2]
    rfl
  clear hb h hr0 hr1
  go_enter Try.func33, Try.ntmps33
  go_wp2
  go_ret
  rw [H.out]
  exact ⟨rfl, Drawn0.refl _⟩
end Go.Proofs.Ytjemmmemenljbaa.PFold
end
section
namespace Go.Proofs.Ytjemmmemenljbaa.PFold
open Go.RowKit Go.Proofs.YtjemmmemenljbaaW.PrintWords Go.Proofs.YtjemmmemenljbaaW.PrintLast Go.Proofs.YtjemmmemenljbaaW.PrintMore
attribute [local go_sem] max2_int min2_int max_two min_two max_three min_three max_four min_four   -- for this text's walks alone
set_option linter.unusedVariables false
set_option linter.unusedSimpArgs false
attribute [local go_sem high] eqA41
def agg_Right.f (a0_0 : Int) (a0_1 : Bool) (a0_2 : Int) (a0_3 : Int) (a0_4 : Int) (a0_5 : Int) : Option (Bool) := if a0_0 = 0 then (some (a0_0 == 0 && (!a0_1 && ((a0_2 == 0 && (a0_3 == 0)) && (a0_4 == 0 && (a0_5 == 0)))))) else (if a0_4 ≤ a0_5 then (if a0_1 = true then (some (a0_0 == 18446744073709551615)) else (some true)) else (some false))
set_option maxHeartbeats 8000000 in
set_option maxRecDepth 100000 in
theorem agg_Right.calls (a0_0 : Int) (a0_1 : Bool) (a0_2 : Int) (a0_3 : Int) (a0_4 : Int) (a0_5 : Int) (r : Bool) (w : World) (h : agg_Right.f a0_0 a0_1 a0_2 a0_3 a0_4 a0_5 = some r) :
  Calls Try.prog 79 #[.agg #[.int .u64 a0_0, .bool a0_1, .int .i64 a0_2, .int .u64 a0_3, .int .i64 a0_4, .int .i64 a0_5]] w fun e w' => e = .returned (.bool r) ∧ Below w.heap.size w w' := by
 have hu41 := Try.underlying41
 have HB := Aside0.mk (Below.refl w.heap.size w)
 have H : (if a0_0 = 0 then (some (a0_0 == 0 && (!a0_1 && ((a0_2 == 0 && (a0_3 == 0)) && (a0_4 == 0 && (a0_5 == 0)))))) else (if a0_4 ≤ a0_5 then (if a0_1 = true then (some (a0_0 == 18446744073709551615)) else (some true)) else (some false))) = some r := h
 clear h
 by_cases c2 : a0_0 = 0
 ·rw [if_pos c2] at H
  have c2b0 : (a0_0 == 0) = true := beq_iff_eq.mpr c2
  have c2b1 : (a0_0 != 0) = false := bne_eq_false_iff_eq.mpr c2
  clear c2
  obtain rfl := Option.some.inj H
  go_enter Try.func79, Try.ntmps79
  go_wp2_with (first | ((with_reducible refine gate_dst (N := 1) rfl ?_); refine box_event ?hg (N := 1) ?hd (cs := #[.int .u64 a0_0, .bool a0_1, .int .i64 a0_2, .int .u64 a0_3, .int .i64 a0_4, .int .i64 a0_5]) (t := 41) ?hr ?_; (case hd => rfl); (case hg => rfl); (case hr => first | (go_simp; done) | (go_simp; rfl)); intro gb663 hg w3 hbox hb; have n0_ := Aside0.mk (below_step (belA HB.out) hb); have n1_ := Aside0.mk (hbox); have n2_ := Aside0.mk ((by rw [hg]; exact (below_size (belA HB.out)) : w.heap.size ≤ gb663)); have n3_ := Aside0.mk ((by rw [hg]; exact (below_size (belA HB.out)) : w.heap.size ≤ gb663)); clear HB; have HB := n0_; have BK663 := n1_; have GW663 := n2_; have GE663 := n3_; clear n0_ n1_ n2_ n3_; clear hb hbox hg; have hcz4_0 : w3.cell? ⟨gb663, 0, none⟩ = some (.int .u64 a0_0) := (blk_cell BK663.out 0).trans rfl; have hcz4_1 : w3.cell? ⟨gb663, 1, none⟩ = some (.bool a0_1) := (blk_cell BK663.out 1).trans rfl; have hcz4_2 : w3.cell? ⟨gb663, 2, none⟩ = some (.int .i64 a0_2) := (blk_cell BK663.out 2).trans rfl; have hcz4_3 : w3.cell? ⟨gb663, 3, none⟩ = some (.int .u64 a0_3) := (blk_cell BK663.out 3).trans rfl; have hcz4_4 : w3.cell? ⟨gb663, 4, none⟩ = some (.int .i64 a0_4) := (blk_cell BK663.out 4).trans rfl; have hcz4_5 : w3.cell? ⟨gb663, 5, none⟩ = some (.int .i64 a0_5) := (blk_cell BK663.out 5).trans rfl; have hfz4_0 := blk_frozen BK663.out 0; have hfz4_1 := blk_frozen BK663.out 1; have hfz4_2 := blk_frozen BK663.out 2; have hfz4_3 := blk_frozen BK663.out 3; have hfz4_4 := blk_frozen BK663.out 4; have hfz4_5 := blk_frozen BK663.out 5))
  go_ret
  exact ⟨by first | rfl | (simp [errW_none, errW_some] <;> rfl) | (simp [*, errW_none, errW_some] <;> rfl) | (exfalso; simp_all; done), belB HB.out GE663.out⟩
 ·rw [if_neg c2] at H
  have c2b0 : (a0_0 == 0) = false := beq_eq_false_iff_ne.mpr c2
  have c2b1 : (a0_0 != 0) = true := bne_iff_ne.mpr c2
  by_cases c5 : a0_4 ≤ a0_5
  ·rw [if_pos c5] at H
   have c5b0 : decide (a0_4 ≤ a0_5) = true := decide_eq_true c5
   clear c5
   by_cases c6 : a0_1 = true
   ·subst c6
    have H1 : (some (a0_0 == 18446744073709551615)) = some r := by rw [if_pos rfl] at H; exact H
    clear H
    have H := H1
    clear H1
    obtain rfl := Option.some.inj H
    go_enter Try.func79, Try.ntmps79
    go_wp2_with (first | ((with_reducible refine gate_dst (N := 1) rfl ?_); refine box_event ?hg (N := 1) ?hd (cs := #[.int .u64 a0_0, .bool true, .int .i64 a0_2, .int .u64 a0_3, .int .i64 a0_4, .int .i64 a0_5]) (t := 41) ?hr ?_; (case hd => rfl); (case hg => rfl); (case hr => first | (go_simp; done) | (go_simp; rfl)); intro gb663 hg w7 hbox hb; have n0_ := Aside0.mk (below_step (belA HB.out) hb); have n1_ := Aside0.mk (hbox); have n2_ := Aside0.mk ((by rw [hg]; exact (below_size (belA HB.out)) : w.heap.size ≤ gb663)); have n3_ := Aside0.mk ((by rw [hg]; exact (below_size (belA HB.out)) : w.heap.size ≤ gb663)); clear HB; have HB := n0_; have BK663 := n1_; have GW663 := n2_; have GE663 := n3_; clear n0_ n1_ n2_ n3_; clear hb hbox hg; have hcz8_0 : w7.cell? ⟨gb663, 0, none⟩ = some (.int .u64 a0_0) := (blk_cell BK663.out 0).trans rfl; have hcz8_1 : w7.cell? ⟨gb663, 1, none⟩ = some (.bool true) := (blk_cell BK663.out 1).trans rfl; have hcz8_2 : w7.cell? ⟨gb663, 2, none⟩ = some (.int .i64 a0_2) := (blk_cell BK663.out 2).trans rfl; have hcz8_3 : w7.cell? ⟨gb663, 3, none⟩ = some (.int .u64 a0_3) := (blk_cell BK663.out 3).trans rfl; have hcz8_4 : w7.cell? ⟨gb663, 4, none⟩ = some (.int .i64 a0_4) := (blk_cell BK663.out 4).trans rfl; have hcz8_5 : w7.cell? ⟨gb663, 5, none⟩ = some (.int .i64 a0_5) := (blk_cell BK663.out 5).trans rfl; have hfz8_0 := blk_frozen BK663.out 0; have hfz8_1 := blk_frozen BK663.out 1; have hfz8_2 := blk_frozen BK663.out 2; have hfz8_3 := blk_frozen BK663.out 3; have hfz8_4 := blk_frozen BK663.out 4; have hfz8_5 := blk_frozen BK663.out 5))
    go_ret
    exact ⟨by first | rfl | (simp [errW_none, errW_some] <;> rfl) | (simp [*, errW_none, errW_some] <;> rfl) | (exfalso; simp_all; done), belB HB.out GE663.out⟩
   ·replace c6 := Bool.eq_false_iff.mpr c6
    subst c6
    have H1 : (some true) = some r := by rw [if_neg (show ¬ (false = true) by decide)] at H; exact H
    clear H
    have H := H1
    clear H1
    obtain rfl := Option.some.inj H
    go_enter Try.func79, Try.ntmps79
    go_wp2_with (first | ((with_reducible refine gate_dst (N := 1) rfl ?_); refine box_event ?hg (N := 1) ?hd (cs := #[.int .u64 a0_0, .bool false, .int .i64 a0_2, .int .u64 a0_3, .int .i64 a0_4, .int .i64 a0_5]) (t := 41) ?hr ?_; (case hd => rfl); (case hg => rfl); (case hr => first | (go_simp; done) | (go_simp; rfl)); intro gb663 hg w9 hbox hb; have n0_ := Aside0.mk (below_step (belA HB.out) hb); have n1_ := Aside0.mk (hbox); have n2_ := Aside0.mk ((by rw [hg]; exact (below_size (belA HB.out)) : w.heap.size ≤ gb663)); have n3_ := Aside0.mk ((by rw [hg]; exact (below_size (belA HB.out)) : w.heap.size ≤ gb663)); clear HB; have HB := n0_; have BK663 := n1_; have GW663 := n2_; have GE663 := n3_; clear n0_ n1_ n2_ n3_; clear hb hbox hg; have hcz10_0 : w9.cell? ⟨gb663, 0, none⟩ = some (.int .u64 a0_0) := (blk_cell BK663.out 0).trans rfl; have hcz10_1 : w9.cell? ⟨gb663, 1, none⟩ = some (.bool false) := (blk_cell BK663.out 1).trans rfl; have hcz10_2 : w9.cell? ⟨gb663, 2, none⟩ = some (.int .i64 a0_2) := (blk_cell BK663.out 2).trans rfl; have hcz10_3 : w9.cell? ⟨gb663, 3, none⟩ = some (.int .u64 a0_3) := (blk_cell BK663.out 3).trans rfl; have hcz10_4 : w9.cell? ⟨gb663, 4, none⟩ = some (.int .i64 a0_4) := (blk_cell BK663.out 4).trans rfl; have hcz10_5 : w9.cell? ⟨gb663, 5, none⟩ = some (.int .i64 a0_5) := (blk_cell BK663.out 5).trans rfl; have hfz10_0 := blk_frozen BK663.out 0; have hfz10_1 := blk_frozen BK663.out 1; have hfz10_2 := blk_frozen BK663.out 2; have hfz10_3 := blk_frozen BK663.out 3; have hfz10_4 := blk_frozen BK663.out 4; have hfz10_5 := blk_frozen BK663.out 5))
    go_ret
    exact ⟨by first | rfl | (simp [errW_none, errW_some] <;> rfl) | (simp [*, errW_none, errW_some] <;> rfl) | (exfalso; simp_all; done), belB HB.out GE663.out⟩
  ·rw [if_neg c5] at H
   have c5b0 : decide (a0_4 ≤ a0_5) = false := decide_eq_false c5
   clear c5
   obtain rfl := Option.some.inj H
   go_enter Try.func79, Try.ntmps79
   go_wp2_with (first | ((with_reducible refine gate_dst (N := 1) rfl ?_); refine box_event ?hg (N := 1) ?hd (cs := #[.int .u64 a0_0, .bool a0_1, .int .i64 a0_2, .int .u64 a0_3, .int .i64 a0_4, .int .i64 a0_5]) (t := 41) ?hr ?_; (case hd => rfl); (case hg => rfl); (case hr => first | (go_simp; done) | (go_simp; rfl)); intro gb663 hg w11 hbox hb; have n0_ := Aside0.mk (below_step (belA HB.out) hb); have n1_ := Aside0.mk (hbox); have n2_ := Aside0.mk ((by rw [hg]; exact (below_size (belA HB.out)) : w.heap.size ≤ gb663)); have n3_ := Aside0.mk ((by rw [hg]; exact (below_size (belA HB.out)) : w.heap.size ≤ gb663)); clear HB; have HB := n0_; have BK663 := n1_; have GW663 := n2_; have GE663 := n3_; clear n0_ n1_ n2_ n3_; clear hb hbox hg; have hcz12_0 : w11.cell? ⟨gb663, 0, none⟩ = some (.int .u64 a0_0) := (blk_cell BK663.out 0).trans rfl; have hcz12_1 : w11.cell? ⟨gb663, 1, none⟩ = some (.bool a0_1) := (blk_cell BK663.out 1).trans rfl; have hcz12_2 : w11.cell? ⟨gb663, 2, none⟩ = some (.int .i64 a0_2) := (blk_cell BK663.out 2).trans rfl; have hcz12_3 : w11.cell? ⟨gb663, 3, none⟩ = some (.int .u64 a0_3) := (blk_cell BK663.out 3).trans rfl; have hcz12_4 : w11.cell? ⟨gb663, 4, none⟩ = some (.int .i64 a0_4) := (blk_cell BK663.out 4).trans rfl; have hcz12_5 : w11.cell? ⟨gb663, 5, none⟩ = some (.int .i64 a0_5) := (blk_cell BK663.out 5).trans rfl; have hfz12_0 := blk_frozen BK663.out 0; have hfz12_1 := blk_frozen BK663.out 1; have hfz12_2 := blk_frozen BK663.out 2; have hfz12_3 := blk_frozen BK663.out 3; have hfz12_4 := blk_frozen BK663.out 4; have hfz12_5 := blk_frozen BK663.out 5))
   go_ret
   exact ⟨by first | rfl | (simp [errW_none, errW_some] <;> rfl) | (simp [*, errW_none, errW_some] <;> rfl) | (exfalso; simp_all; done), belB HB.out GE663.out⟩
end Go.Proofs.Ytjemmmemenljbaa.PFold
end
