import Derived.Test.YtdopbhbbpgfliaaZAskAll14
import Derived.Test.YtdopbhbbpgfliaaZAskAll15
section
namespace Go.Proofs.Ytdopbhbbpgfliaa.PAsk
open Go.RowKit Go.Proofs.YtdopbhbbpgfliaaW.PrintWords Go.Proofs.YtdopbhbbpgfliaaW.PrintLast Go.Proofs.YtdopbhbbpgfliaaW.PrintMore
set_option linter.unusedVariables false
set_option linter.unusedSimpArgs false
set_option maxHeartbeats 8000000
set_option maxRecDepth 100000
abbrev Rw := S44
def rowZ : Rw := ⟨[], 0, 0, ⟨0, false, ⟨0, 0⟩, 0, 0⟩⟩
def getPut (x out : Rw) (o : Int × Bool × Int × Int × Int × Int) : Rw := if x.f2 > out.f2 then ⟨x.f0, x.f1, x.f2, ⟨o.1, o.2.1, ⟨o.2.2.1, o.2.2.2.1⟩, o.2.2.2.2.1, o.2.2.2.2.2⟩⟩ else ⟨out.f0, out.f1, out.f2, ⟨o.1, o.2.1, ⟨o.2.2.1, o.2.2.2.1⟩, o.2.2.2.2.1, o.2.2.2.2.2⟩⟩
def getGo (k : Nat) (dims : List ByteArray) (t : Int) : List Rw → Rw → Option Rw
  | [], out => some out
  | x :: r, out => (slices_Equal_string_string.f k x.f0 dims).bind fun q => if q = true ∧ ¬ t < x.f1 ∧ ¬ t ≥ IntKind.i64.wrap (x.f1 + x.f2) then
      (agg_Merge.f out.f3.f0 out.f3.f1 out.f3.f2.f0 out.f3.f2.f1 out.f3.f3 out.f3.f4 x.f3.f0 x.f3.f1 x.f3.f2.f0 x.f3.f2.f1 x.f3.f3 x.f3.f4).bind fun o => getGo k dims t r (getPut x out o)
    else getGo k dims t r out
def ask_Get.f (k : Nat) (l0_0 : List S84) (a0_1 a1 : Int) (l2 : List S60) (l3 : List ByteArray) (a4 : Int) : Option (List ByteArray × Int × Int × Int × Bool × Int × Int × Int × Int × Bool × Int) :=
  (ask_rows.f k l0_0 a0_1 a1 l2).bind fun a => if a.2 = 0 then (key_Right.f l3 a4 0).bind fun q => if q = true then (getGo k l3 a4 a.1 rowZ).bind fun o => some (o.f0, o.f1, o.f2, o.f3.f0, o.f3.f1, o.f3.f2.f0, o.f3.f2.f1, o.f3.f3, o.f3.f4, decide (o.f2 > 0), 0)
    else some ([], 0, 0, 0, false, 0, 0, 0, 0, false, 110)
  else some ([], 0, 0, 0, false, 0, 0, 0, 0, false, a.2)
theorem put9 {w : World} {g : Nat} {t : TypeId} {a0 a1 a2 a3 a4 a5 a6 a7 a8 : Value} (b0 b1 b2 b3 b4 b5 b6 b7 b8 : Value) (h : w.heap[g]? = some (.cells #[a0, a1, a2, a3, a4, a5, a6, a7, a8] t (0, 0))) : (((((((((w.setCell ⟨g, 0, none⟩ b0).setCell ⟨g, 1, none⟩ b1).setCell ⟨g, 2, none⟩ b2).setCell ⟨g, 3, none⟩ b3).setCell ⟨g, 4, none⟩ b4).setCell ⟨g, 5, none⟩ b5).setCell ⟨g, 6, none⟩ b6).setCell ⟨g, 7, none⟩ b7).setCell ⟨g, 8, none⟩ b8).heap[g]? = some (.cells #[b0, b1, b2, b3, b4, b5, b6, b7, b8] t (0, 0)) :=
  (blk_put (cs := #[b0, b1, b2, b3, b4, b5, b6, b7, a8]) (blk_put (cs := #[b0, b1, b2, b3, b4, b5, b6, a7, a8]) (blk_put (cs := #[b0, b1, b2, b3, b4, b5, a6, a7, a8]) (blk_put (cs := #[b0, b1, b2, b3, b4, a5, a6, a7, a8]) (blk_put (cs := #[b0, b1, b2, b3, a4, a5, a6, a7, a8]) (blk_put (cs := #[b0, b1, b2, a3, a4, a5, a6, a7, a8]) (blk_put (cs := #[b0, b1, a2, a3, a4, a5, a6, a7, a8]) (blk_put (cs := #[b0, a1, a2, a3, a4, a5, a6, a7, a8]) (blk_put (cs := #[a0, a1, a2, a3, a4, a5, a6, a7, a8]) h 0 _ rfl) 1 _ rfl) 2 _ rfl) 3 _ rfl) 4 _ rfl) 5 _ rfl) 6 _ rfl) 7 _ rfl) 8 _ rfl)
theorem put6 {w : World} {g : Nat} {t : TypeId} {a0 a1 a2 a3 a4 a5 a6 a7 a8 : Value} (b3 b4 b5 b6 b7 b8 : Value) (h : w.heap[g]? = some (.cells #[a0, a1, a2, a3, a4, a5, a6, a7, a8] t (0, 0))) : ((((((w.setCell ⟨g, 3, none⟩ b3).setCell ⟨g, 4, none⟩ b4).setCell ⟨g, 5, none⟩ b5).setCell ⟨g, 6, none⟩ b6).setCell ⟨g, 7, none⟩ b7).setCell ⟨g, 8, none⟩ b8).heap[g]? = some (.cells #[a0, a1, a2, b3, b4, b5, b6, b7, b8] t (0, 0)) :=
  (blk_put (cs := #[a0, a1, a2, b3, b4, b5, b6, b7, a8]) (blk_put (cs := #[a0, a1, a2, b3, b4, b5, b6, a7, a8]) (blk_put (cs := #[a0, a1, a2, b3, b4, b5, a6, a7, a8]) (blk_put (cs := #[a0, a1, a2, b3, b4, a5, a6, a7, a8]) (blk_put (cs := #[a0, a1, a2, b3, a4, a5, a6, a7, a8]) (blk_put (cs := #[a0, a1, a2, a3, a4, a5, a6, a7, a8]) h 3 _ rfl) 4 _ rfl) 5 _ rfl) 6 _ rfl) 7 _ rfl) 8 _ rfl)
theorem results_cell3 {P : Program} {fn : Func} {p u v : Tmp} {ty : TypeId} (h : fn.results = #[.cell p ty, .tmp u, .tmp v]) (tmps : Array Value) (w : World) (g : Nat) (t : TypeId) (cs : Array Value) (fr : Nat × Nat) (d : TypeDesc)
    (hp : tmps.getD p undef = .pointer (some ⟨g, 0, none⟩)) (hg : w.heap[g]? = some (.cells cs t fr))
    (hu : P.underlying ty = some d) (hd : (match d with | .struct _ | .array _ _ => true | _ => false) = true) (hi : (P.info? ty).map (·.size) = some cs.size) :
    (results fn tmps).run P w = .ok (.tuple #[.agg cs, tmps.getD u undef, tmps.getD v undef]) w := by
  have hp' : tmps[p]?.getD undef = .pointer (some ⟨g, 0, none⟩) := by simpa using hp
  simp [results, h, hp', asAddr, run_loadVar_row w g t ty cs fr d hg hu hd hi]
theorem far9 {w : World} {g g' : Nat} {t : TypeId} {cs : Array Value} (b0 b1 b2 b3 b4 b5 b6 b7 b8 : Value) (h : w.heap[g']? = some (.cells cs t (0, 0))) (hne : g' ≠ g) : (((((((((w.setCell ⟨g, 0, none⟩ b0).setCell ⟨g, 1, none⟩ b1).setCell ⟨g, 2, none⟩ b2).setCell ⟨g, 3, none⟩ b3).setCell ⟨g, 4, none⟩ b4).setCell ⟨g, 5, none⟩ b5).setCell ⟨g, 6, none⟩ b6).setCell ⟨g, 7, none⟩ b7).setCell ⟨g, 8, none⟩ b8).heap[g']? = some (.cells cs t (0, 0)) :=
  (blk_far (blk_far (blk_far (blk_far (blk_far (blk_far (blk_far (blk_far (blk_far h hne b0) hne b1) hne b2) hne b3) hne b4) hne b5) hne b6) hne b7) hne b8)
theorem far6 {w : World} {g g' : Nat} {t : TypeId} {cs : Array Value} (b3 b4 b5 b6 b7 b8 : Value) (h : w.heap[g']? = some (.cells cs t (0, 0))) (hne : g' ≠ g) : ((((((w.setCell ⟨g, 3, none⟩ b3).setCell ⟨g, 4, none⟩ b4).setCell ⟨g, 5, none⟩ b5).setCell ⟨g, 6, none⟩ b6).setCell ⟨g, 7, none⟩ b7).setCell ⟨g, 8, none⟩ b8).heap[g']? = some (.cells cs t (0, 0)) :=
  (blk_far (blk_far (blk_far (blk_far (blk_far (blk_far h hne b3) hne b4) hne b5) hne b6) hne b7) hne b8)
section
variable {α : Type} {d : Kd α} {e : Nat} {w : World} {base : Nat} {ok : Nat → Prop} {v : Value} {xs : List α} {g : Nat}
theorem R_far9 (b0 b1 b2 b3 b4 b5 b6 b7 b8 : Value) (h : d.R e w base ok v xs) (hok : ∀ k, ok k → k ≠ g) : d.R e (((((((((w.setCell ⟨g, 0, none⟩ b0).setCell ⟨g, 1, none⟩ b1).setCell ⟨g, 2, none⟩ b2).setCell ⟨g, 3, none⟩ b3).setCell ⟨g, 4, none⟩ b4).setCell ⟨g, 5, none⟩ b5).setCell ⟨g, 6, none⟩ b6).setCell ⟨g, 7, none⟩ b7).setCell ⟨g, 8, none⟩ b8) base ok v xs := (Kd.R_far (p := ⟨g, 8, none⟩) (Kd.R_far (p := ⟨g, 7, none⟩) (Kd.R_far (p := ⟨g, 6, none⟩) (Kd.R_far (p := ⟨g, 5, none⟩) (Kd.R_far (p := ⟨g, 4, none⟩) (Kd.R_far (p := ⟨g, 3, none⟩) (Kd.R_far (p := ⟨g, 2, none⟩) (Kd.R_far (p := ⟨g, 1, none⟩) (Kd.R_far (p := ⟨g, 0, none⟩) h hok b0) hok b1) hok b2) hok b3) hok b4) hok b5) hok b6) hok b7) hok b8)
theorem R_far6 (b3 b4 b5 b6 b7 b8 : Value) (h : d.R e w base ok v xs) (hok : ∀ k, ok k → k ≠ g) : d.R e ((((((w.setCell ⟨g, 3, none⟩ b3).setCell ⟨g, 4, none⟩ b4).setCell ⟨g, 5, none⟩ b5).setCell ⟨g, 6, none⟩ b6).setCell ⟨g, 7, none⟩ b7).setCell ⟨g, 8, none⟩ b8) base ok v xs := (Kd.R_far (p := ⟨g, 8, none⟩) (Kd.R_far (p := ⟨g, 7, none⟩) (Kd.R_far (p := ⟨g, 6, none⟩) (Kd.R_far (p := ⟨g, 5, none⟩) (Kd.R_far (p := ⟨g, 4, none⟩) (Kd.R_far (p := ⟨g, 3, none⟩) h hok b3) hok b4) hok b5) hok b6) hok b7) hok b8)
end
def ask_Get.T16 : Bool × List (List Nat × List Nat) := (true, [([], []), ([], []), ([1], [1]), ([2], [2]), ([0, 0], [0]), ([3, 4, 0, 1, 2, 3, 4], [3]), ([5, 0, 1, 2, 3, 4, 5], [])])
def ask_Get.B16 : List Nat := [0, 0, 2, 6, 1, 31, 63]
theorem ask_Get.tab16 : rtab .any (opsOf Try.f17 16) = ask_Get.T16 := by kernel_rfl
theorem ask_Get.bits16 : waitsOk ask_Get.T16.2 ask_Get.B16 = true := by kernel_rfl
theorem row_at {w : World} {base : Nat} {ok : Nat → Prop} {Aa : Option Addr} {n ca : Nat} {xs : List Rw} (h : Kd.R k44 44 w base ok (.slice Aa n ca) xs) (hn : xs.length = n) (i : Int) (h0 : 0 ≤ i) (h1 : i < n) : ∃ ad A c, Aa = some ad ∧ Kd.R Kd.string 9 w base ok (.slice A (rd_T44 xs i).f0.length c) (rd_T44 xs i).f0 ∧ w.cell? (ad.add (i.toNat * 9)) = some (.slice A (rd_T44 xs i).f0.length c) ∧ w.cell? ⟨(ad.add (i.toNat * 9)).block, (ad.add (i.toNat * 9)).off + 1, none⟩ = some (.int .i64 (rd_T44 xs i).f1) ∧ w.cell? ⟨(ad.add (i.toNat * 9)).block, (ad.add (i.toNat * 9)).off + 2, none⟩ = some (.int .i64 (rd_T44 xs i).f2) ∧ w.cell? ⟨(ad.add (i.toNat * 9)).block, (ad.add (i.toNat * 9)).off + 3, none⟩ = some (.int .u64 (rd_T44 xs i).f3.f0) ∧ w.cell? ⟨(ad.add (i.toNat * 9)).block, (ad.add (i.toNat * 9)).off + 4, none⟩ = some (.bool (rd_T44 xs i).f3.f1) ∧ w.cell? ⟨(ad.add (i.toNat * 9)).block, (ad.add (i.toNat * 9)).off + 5, none⟩ = some (.int .i64 (rd_T44 xs i).f3.f2.f0) ∧ w.cell? ⟨(ad.add (i.toNat * 9)).block, (ad.add (i.toNat * 9)).off + 6, none⟩ = some (.int .u64 (rd_T44 xs i).f3.f2.f1) ∧ w.cell? ⟨(ad.add (i.toNat * 9)).block, (ad.add (i.toNat * 9)).off + 7, none⟩ = some (.int .i64 (rd_T44 xs i).f3.f3) ∧ w.cell? ⟨(ad.add (i.toNat * 9)).block, (ad.add (i.toNat * 9)).off + 8, none⟩ = some (.int .i64 (rd_T44 xs i).f3.f4) := by
  obtain ⟨ad, _, _, e, _⟩ := at_T44 (by have := (Kd.R_reads' (by rw [← hn] at h; exact h)).2.2; exact this) i h0 (by omega)
  subst e
  obtain ⟨cs, _, hM, hc0⟩ := Kd.R_get h z44 i h0 h1
  obtain ⟨v0, rfl, hR⟩ := k44_openM hM
  obtain ⟨A, c, hv⟩ := Kd.R_slice hR
  subst hv
  have hc : ∀ j u, _ → w.cell? (ad.add (i.toNat * 9 + j)) = some u := hc0
  refine ⟨ad, A, c, rfl, Kd.R_mono hR (fun _ hk => hk.1), hc 0 _ rfl, by rw [← add_field _ _ 1 (by omega)]; exact hc 1 _ rfl, by rw [← add_field _ _ 2 (by omega)]; exact hc 2 _ rfl, by rw [← add_field _ _ 3 (by omega)]; exact hc 3 _ rfl, by rw [← add_field _ _ 4 (by omega)]; exact hc 4 _ rfl, by rw [← add_field _ _ 5 (by omega)]; exact hc 5 _ rfl, by rw [← add_field _ _ 6 (by omega)]; exact hc 6 _ rfl, by rw [← add_field _ _ 7 (by omega)]; exact hc 7 _ rfl, by rw [← add_field _ _ 8 (by omega)]; exact hc 8 _ rfl⟩
theorem rd_row {l : List Rw} {j : Nat} (h : j < l.length) : rd_T44 l (j : Int) = l[j] := by
  unfold rd_T44
  rw [show ((j : Int)).toNat = j from by omega, List.getD_eq_getElem?_getD, List.getElem?_eq_getElem h]
  rfl
def GetRel (k : Nat) (dims : List ByteArray) (t : Int) (all : List Rw) (va : Value) (res : Rw) (w : World) (G : Nat) (j : Nat) (wr : World) : Prop :=
  j ≤ all.length ∧ Below w.heap.size w wr ∧ G < wr.heap.size ∧ Kd.R k44 44 wr w.heap.size (fun b => b < G) va all ∧
  wr.heap[w.heap.size + 1]? = some (.cells #[.slice none 0 0, .int .i64 0, .int .i64 0, .int .u64 0, .bool false, .int .i64 0, .int .u64 0, .int .i64 0, .int .i64 0] 44 (0, 0)) ∧
  ∃ out v, Kd.R Kd.string 9 wr w.heap.size (fun b => b < G) v out.f0 ∧ wr.heap[G]? = some (.cells #[v, .int .i64 out.f1, .int .i64 out.f2, .int .u64 out.f3.f0, .bool out.f3.f1, .int .i64 out.f3.f2.f0, .int .u64 out.f3.f2.f1, .int .i64 out.f3.f3, .int .i64 out.f3.f4] 44 (0, 0)) ∧ getGo k dims t (all.drop j) out = some res
theorem ask_Get.calls (k : Nat) (A0_0 : Option Addr) (c0_0 : Nat) (l0_0 : List S84) (a0_1 : Int) (a1 : Int) (A2 : Option Addr) (c2 : Nat) (l2 : List S60) (A3 : Option Addr) (c3 : Nat) (l3 : List ByteArray) (a4 : Int) (r1 : List ByteArray) (r2 r3 r4 : Int) (r5 : Bool) (r6 r7 r8 r9 : Int) (r10 : Bool) (r11 : Int) (w : World)
    (hr0_0 : Kd.C k84 w A0_0 l0_0.length l0_0) (hc0_0 : l0_0.length ≤ c0_0) (hr2 : Kd.C k60 w A2 l2.length l2) (hc2 : l2.length ≤ c2) (hr3 : Kd.C Kd.string w A3 l3.length l3) (hc3 : l3.length ≤ c3)
    (h : ask_Get.f k l0_0 a0_1 a1 l2 l3 a4 = some (r1, r2, r3, r4, r5, r6, r7, r8, r9, r10, r11)) :
    Calls Try.prog 17 #[.agg #[.slice A0_0 l0_0.length c0_0, .int .i64 a0_1], .int .i64 a1, .slice A2 l2.length c2, .slice A3 l3.length c3, .int .i64 a4] w fun e w' => ∃ v0_ : Value, e = .returned (.tuple #[.agg #[v0_, .int .i64 r2, .int .i64 r3, .int .u64 r4, .bool r5, .int .i64 r6, .int .u64 r7, .int .i64 r8, .int .i64 r9], .bool r10, .int .i64 r11]) ∧ Kd.R Kd.string 9 w' w.heap.size (fun _ => True) v0_ r1 ∧ Below w.heap.size w w' := by
  have HG := Lib.hid hr0_0; have HL := Lib.hid hr2; have HD := Lib.hid hr3
  clear hr0_0 hr2 hr3
  have HB0 : Hid (Below w.heap.size w ((w.alloc (.cells #[.slice A0_0 l0_0.length c0_0, .int .i64 a0_1] 24)).alloc (.cells #[.slice none 0 0, .int .i64 0, .int .i64 0, .int .u64 0, .bool false, .int .i64 0, .int .u64 0, .int .i64 0, .int .i64 0] 44))) := Lib.hid (((Below.refl _ _).alloc (Nat.le_refl _) _).alloc (by simp) _)
  have HX0 : Hid (((w.alloc (.cells #[.slice A0_0 l0_0.length c0_0, .int .i64 a0_1] 24)).alloc (.cells #[.slice none 0 0, .int .i64 0, .int .i64 0, .int .u64 0, .bool false, .int .i64 0, .int .u64 0, .int .i64 0, .int .i64 0] 44)).heap[w.heap.size + 1]? = some (.cells #[.slice none 0 0, .int .i64 0, .int .i64 0, .int .u64 0, .bool false, .int .i64 0, .int .u64 0, .int .i64 0, .int .i64 0] 44 (0, 0))) := Lib.hid (by have := blk_new (w.alloc (.cells #[.slice A0_0 l0_0.length c0_0, .int .i64 a0_1] 24)) (.cells #[.slice none 0 0, .int .i64 0, .int .i64 0, .int .u64 0, .bool false, .int .i64 0, .int .u64 0, .int .i64 0, .int .i64 0] 44); simpa using this)
  unfold ask_Get.f at h
  obtain ⟨⟨all, e0⟩, h1, h2⟩ := Option.bind_eq_some_iff.mp h
  have HRW := Lib.hid h1
  clear h h1
  simp only at h2
  by_cases z : e0 = 0
  case neg =>
    rw [if_neg z] at h2
    simp only [Option.some.injEq, Prod.mk.injEq] at h2
    obtain ⟨rfl, rfl, rfl, rfl, rfl, rfl, rfl, rfl, rfl, rfl, rfl⟩ := h2
    have e1 : (e0 != 0) = true := bne_iff_ne.2 z
    clear z
    go_enter Try.func17, Try.ntmps17
    go_wp2_with (go_at_call 22; with_reducible refine (ask_rows.calls k A0_0 c0_0 l0_0 a0_1 a1 A2 c2 l2 _ _ _ (Kd.C_below HG.out HB0.out) hc0_0 (Kd.C_below HL.out HB0.out) hc2 HRW.out).mono ?_; rintro e w1 ⟨va, rfl, hra, hb⟩; obtain ⟨Aa, ca, eva⟩ := Kd.R_slice hra; subst eva; have HB1 := Lib.hid (below_step HB0.out hb); have HX1 := Lib.hid (blk_below HX0.out hb); have hz := fun o => blk_frozen HX1.out o; have hq0 := (blk_cell HX1.out 0).trans (show _ = some (Value.slice none 0 0) from rfl); have hq1 := (blk_cell HX1.out 1).trans (show _ = some (Value.int .i64 0) from rfl); have hq2 := (blk_cell HX1.out 2).trans (show _ = some (Value.int .i64 0) from rfl); have hq3 := (blk_cell HX1.out 3).trans (show _ = some (Value.int .u64 0) from rfl); have hq4 := (blk_cell HX1.out 4).trans (show _ = some (Value.bool false) from rfl); have hq5 := (blk_cell HX1.out 5).trans (show _ = some (Value.int .i64 0) from rfl); have hq6 := (blk_cell HX1.out 6).trans (show _ = some (Value.int .u64 0) from rfl); have hq7 := (blk_cell HX1.out 7).trans (show _ = some (Value.int .i64 0) from rfl); have hq8 := (blk_cell HX1.out 8).trans (show _ = some (Value.int .i64 0) from rfl); clear hra hb)
    refine bodyPost_ret (results_cell3 rfl _ _ (w.heap.size + 1) 44 #[.slice none 0 0, .int .i64 0, .int .i64 0, .int .u64 0, .bool false, .int .i64 0, .int .u64 0, .int .i64 0, .int .i64 0] (0, 0) _ rfl ?hg Try.underlying44 rfl (by kernel_rfl)) rfl ?_
    case hg => exact put9 _ _ _ _ _ _ _ _ _ HX1.out
    exact ⟨_, rfl, Kd.R_nil _ _ _ _ _, by repeat (first | (with_reducible exact HB1.out) | refine below_set ?_ (by omega))⟩
  rw [if_pos z] at h2
  subst z
  obtain ⟨q, hq, h3⟩ := Option.bind_eq_some_iff.mp h2
  have HQ := Lib.hid hq
  clear h2 hq
  cases q with
  | false =>
    rw [if_neg (by decide)] at h3
    simp only [Option.some.injEq, Prod.mk.injEq] at h3
    obtain ⟨rfl, rfl, rfl, rfl, rfl, rfl, rfl, rfl, rfl, rfl, rfl⟩ := h3
    go_enter Try.func17, Try.ntmps17
    go_wp2_with (first
      | (go_at_call 22; with_reducible refine (ask_rows.calls k A0_0 c0_0 l0_0 a0_1 a1 A2 c2 l2 _ _ _ (Kd.C_below HG.out HB0.out) hc0_0 (Kd.C_below HL.out HB0.out) hc2 HRW.out).mono ?_; rintro e w1 ⟨va, rfl, hra, hb⟩; obtain ⟨Aa, ca, eva⟩ := Kd.R_slice hra; subst eva; have HRA := Lib.hid (Kd.R_lower hra HB0.out.size); have HB1 := Lib.hid (below_step HB0.out hb); have HX1 := Lib.hid (blk_below HX0.out hb); clear hra hb)
      | (go_at_call 23; with_reducible refine (key_Right.calls A3 c3 l3 a4 0 _ _ (Kd.C_below HD.out HB1.out) hc3 HQ.out).mono ?_; rintro e w2 ⟨rfl, hb⟩; have HB2 := Lib.hid (below_step HB1.out hb); have HX2 := Lib.hid (blk_below HX1.out hb); have HRA2 := Lib.hid (Kd.R_below HRA.out hb); have hz := fun o => blk_frozen HX2.out o; have hq0 := (blk_cell HX2.out 0).trans (show _ = some (Value.slice none 0 0) from rfl); have hq1 := (blk_cell HX2.out 1).trans (show _ = some (Value.int .i64 0) from rfl); have hq2 := (blk_cell HX2.out 2).trans (show _ = some (Value.int .i64 0) from rfl); have hq3 := (blk_cell HX2.out 3).trans (show _ = some (Value.int .u64 0) from rfl); have hq4 := (blk_cell HX2.out 4).trans (show _ = some (Value.bool false) from rfl); have hq5 := (blk_cell HX2.out 5).trans (show _ = some (Value.int .i64 0) from rfl); have hq6 := (blk_cell HX2.out 6).trans (show _ = some (Value.int .u64 0) from rfl); have hq7 := (blk_cell HX2.out 7).trans (show _ = some (Value.int .i64 0) from rfl); have hq8 := (blk_cell HX2.out 8).trans (show _ = some (Value.int .i64 0) from rfl); clear hb))
    refine bodyPost_ret (results_cell3 rfl _ _ (w.heap.size + 1) 44 #[.slice none 0 0, .int .i64 0, .int .i64 0, .int .u64 0, .bool false, .int .i64 0, .int .u64 0, .int .i64 0, .int .i64 0] (0, 0) _ rfl ?hg Try.underlying44 rfl (by kernel_rfl)) rfl ?_
    case hg => exact put9 _ _ _ _ _ _ _ _ _ HX2.out
    exact ⟨_, rfl, Kd.R_nil _ _ _ _ _, by repeat (first | (with_reducible exact HB2.out) | refine below_set ?_ (by omega))⟩
  | true =>
  rw [if_pos rfl] at h3
  obtain ⟨o, ho, h4⟩ := Option.bind_eq_some_iff.mp h3
  simp only [Option.some.injEq, Prod.mk.injEq] at h4
  obtain ⟨rfl, rfl, rfl, rfl, rfl, rfl, rfl, rfl, rfl, rfl, rfl⟩ := h4
  have HO := Lib.hid ho
  clear h3 ho
  go_enter Try.func17, Try.ntmps17
  go_wp2_with (first
    | (go_at_call 22; with_reducible refine (ask_rows.calls k A0_0 c0_0 l0_0 a0_1 a1 A2 c2 l2 _ _ _ (Kd.C_below HG.out HB0.out) hc0_0 (Kd.C_below HL.out HB0.out) hc2 HRW.out).mono ?_; rintro e w1 ⟨va, rfl, hra, hb⟩; obtain ⟨Aa, ca, eva⟩ := Kd.R_slice hra; subst eva; have HRA := Lib.hid (Kd.R_lower hra HB0.out.size); have HB1 := Lib.hid (below_step HB0.out hb); have HX1 := Lib.hid (blk_below HX0.out hb); clear hra hb)
    | (go_at_call 23; with_reducible refine (key_Right.calls A3 c3 l3 a4 0 _ _ (Kd.C_below HD.out HB1.out) hc3 HQ.out).mono ?_; rintro e w2 ⟨rfl, hb⟩; have HB2 := Lib.hid (below_step HB1.out hb); have HX2 := Lib.hid (blk_below HX1.out hb); have HRA2 := Lib.hid (Kd.R_below HRA.out hb); have hz := fun o => blk_frozen HX2.out o; have hq0 := (blk_cell HX2.out 0).trans (show _ = some (Value.slice none 0 0) from rfl); have hq1 := (blk_cell HX2.out 1).trans (show _ = some (Value.int .i64 0) from rfl); have hq2 := (blk_cell HX2.out 2).trans (show _ = some (Value.int .i64 0) from rfl); have hq3 := (blk_cell HX2.out 3).trans (show _ = some (Value.int .u64 0) from rfl); have hq4 := (blk_cell HX2.out 4).trans (show _ = some (Value.bool false) from rfl); have hq5 := (blk_cell HX2.out 5).trans (show _ = some (Value.int .i64 0) from rfl); have hq6 := (blk_cell HX2.out 6).trans (show _ = some (Value.int .u64 0) from rfl); have hq7 := (blk_cell HX2.out 7).trans (show _ = some (Value.int .i64 0) from rfl); have hq8 := (blk_cell HX2.out 8).trans (show _ = some (Value.int .i64 0) from rfl); clear hb))
  go_loopw [38] (fun v wr => ∃ j : Nat, v = .int .i64 j ∧ GetRel k l3 a4 all (.slice Aa all.length ca) o w w2.heap.size j wr) (fun v _ => all.length - (intOf v).toNat)
  case atStart => exact ⟨0, rfl, Nat.zero_le _, HB2.out.alloc HB2.out.size _, by simp, Kd.R_alloc (Kd.R_mono (Kd.R_bound HRA2.out) (fun _ hk => hk.2.2.1)) _, blk_alloc HX2.out _, rowZ, _, Kd.R_nil _ _ _ _ _, blk_new w2 _, HO.out⟩
  case round =>
    obtain ⟨j, rfl, hj, hB, hGl, hR, hX, out, v, hV, hO, hF⟩ := hrel
    have HJB := Lib.hid hB; have HJR := Lib.hid hR; have HJX := Lib.hid hX; have HJV := Lib.hid hV; have HJO := Lib.hid hO
    have hmx : all.length ≤ 9223372036854775807 := (Kd.R_reads' HJR.out).2.2.2.1
    clear hB hR hX hV hO HO HRA2
    obtain ⟨Av, cv, hvv⟩ := Kd.R_slice HJV.out
    subst hvv
    by_cases hlt : j < all.length
    · have e1 : decide ((j : Int) < (all.length : Int)) = true := decide_eq_true (by omega)
      obtain ⟨ad, A1, c1, ha, hRD, hx0, hx1, hx2, hx3, hx4, hx5, hx6, hx7, hx8⟩ := row_at HJR.out rfl (j : Int) (by omega) (by omega)
      subst ha
      have hxx := rd_row hlt
      obtain ⟨x, hx⟩ : ∃ x, x = rd_T44 all (j : Int) := ⟨_, rfl⟩
      rw [← hx] at hRD hx0 hx1 hx2 hx3 hx4 hx5 hx6 hx7 hx8
      simp only [Int.toNat_natCast] at hx0 hx1 hx2 hx3 hx4 hx5 hx6 hx7 hx8
      have hF1 : getGo k l3 a4 (x :: all.drop (j + 1)) out = some o := by rw [← hF, hx, hxx, ← List.drop_eq_getElem_cons hlt]
      have HRD := Lib.hid hRD
      have HIN := Lib.hid (Kd.R_reads' hRD)
      clear hF hxx hx hRD
      unfold getGo at hF1
      obtain ⟨qe, hqe, hF2⟩ := Option.bind_eq_some_iff.mp hF1
      have HQE := Lib.hid hqe
      clear hF1 hqe
      have HXB := Lib.hid (blk_new wr (.cells #[.slice A1 x.f0.length c1, .int .i64 x.f1, .int .i64 x.f2, .int .u64 x.f3.f0, .bool x.f3.f1, .int .i64 x.f3.f2.f0, .int .u64 x.f3.f2.f1, .int .i64 x.f3.f3, .int .i64 x.f3.f4] 44))
      have HXG := Lib.hid (Nat.ne_of_gt hGl)
      obtain ⟨s, hs⟩ : ∃ s, IntKind.i64.wrap (x.f1 + x.f2) = s := ⟨_, rfl⟩
      have hs' : wrap64 (x.f1 + x.f2) = s := (i64_w _).symm.trans hs
      rw [hs] at hF2
      by_cases hgo : qe = true ∧ ¬ a4 < x.f1 ∧ ¬ a4 ≥ s
      · rw [if_pos hgo] at hF2
        obtain ⟨rfl, n1, n2⟩ := hgo
        obtain ⟨⟨o1, o2, o3, o4, o5, o6⟩, hmg, hF3⟩ := Option.bind_eq_some_iff.mp hF2
        have HM := Lib.hid hmg; have HF := Lib.hid hF3
        have d1 : decide (a4 < x.f1) = false := decide_eq_false n1
        have d2 : decide (s ≤ a4) = false := decide_eq_false n2
        clear hF2 hmg hF3 n1 n2
        have HNE : Hid (w.heap.size + 1 ≠ w2.heap.size) := Lib.hid (Nat.ne_of_lt (blk_lt HX2.out))
        have HGW : Hid (w.heap.size ≤ w2.heap.size) := Lib.hid HB2.out.size
        go_upto_region 12 with (first
          | (go_at_call 25; with_reducible refine (slices_Equal_string_string.calls k A1 c1 x.f0 A3 c3 l3 _ _ (Kd.C_alloc HIN.out.2.2 _) HIN.out.2.1 (Kd.C_below HD.out (HJB.out.alloc HJB.out.size _)) hc3 HQE.out).mono ?_; rintro e w4 ⟨rfl, ⟨nd, rfl⟩⟩; have hy0 := (blk_cell (blk_drewN HXB.out nd) 0).trans (show _ = some (Value.slice A1 x.f0.length c1) from rfl); have hy1 := (blk_cell (blk_drewN HXB.out nd) 1).trans (show _ = some (Value.int .i64 x.f1) from rfl); have hy2 := (blk_cell (blk_drewN HXB.out nd) 2).trans (show _ = some (Value.int .i64 x.f2) from rfl); have hy3 := (blk_cell (blk_drewN HXB.out nd) 3).trans (show _ = some (Value.int .u64 x.f3.f0) from rfl); have hy4 := (blk_cell (blk_drewN HXB.out nd) 4).trans (show _ = some (Value.bool x.f3.f1) from rfl); have hy5 := (blk_cell (blk_drewN HXB.out nd) 5).trans (show _ = some (Value.int .i64 x.f3.f2.f0) from rfl); have hy6 := (blk_cell (blk_drewN HXB.out nd) 6).trans (show _ = some (Value.int .u64 x.f3.f2.f1) from rfl); have hy7 := (blk_cell (blk_drewN HXB.out nd) 7).trans (show _ = some (Value.int .i64 x.f3.f3) from rfl); have hy8 := (blk_cell (blk_drewN HXB.out nd) 8).trans (show _ = some (Value.int .i64 x.f3.f4) from rfl); have hv3 := (blk_cell (blk_drewN (blk_alloc HJO.out (.cells #[.slice A1 x.f0.length c1, .int .i64 x.f1, .int .i64 x.f2, .int .u64 x.f3.f0, .bool x.f3.f1, .int .i64 x.f3.f2.f0, .int .u64 x.f3.f2.f1, .int .i64 x.f3.f3, .int .i64 x.f3.f4] 44)) nd) 3).trans (show _ = some (Value.int .u64 out.f3.f0) from rfl); have hv4 := (blk_cell (blk_drewN (blk_alloc HJO.out (.cells #[.slice A1 x.f0.length c1, .int .i64 x.f1, .int .i64 x.f2, .int .u64 x.f3.f0, .bool x.f3.f1, .int .i64 x.f3.f2.f0, .int .u64 x.f3.f2.f1, .int .i64 x.f3.f3, .int .i64 x.f3.f4] 44)) nd) 4).trans (show _ = some (Value.bool out.f3.f1) from rfl); have hv5 := (blk_cell (blk_drewN (blk_alloc HJO.out (.cells #[.slice A1 x.f0.length c1, .int .i64 x.f1, .int .i64 x.f2, .int .u64 x.f3.f0, .bool x.f3.f1, .int .i64 x.f3.f2.f0, .int .u64 x.f3.f2.f1, .int .i64 x.f3.f3, .int .i64 x.f3.f4] 44)) nd) 5).trans (show _ = some (Value.int .i64 out.f3.f2.f0) from rfl); have hv6 := (blk_cell (blk_drewN (blk_alloc HJO.out (.cells #[.slice A1 x.f0.length c1, .int .i64 x.f1, .int .i64 x.f2, .int .u64 x.f3.f0, .bool x.f3.f1, .int .i64 x.f3.f2.f0, .int .u64 x.f3.f2.f1, .int .i64 x.f3.f3, .int .i64 x.f3.f4] 44)) nd) 6).trans (show _ = some (Value.int .u64 out.f3.f2.f1) from rfl); have hv7 := (blk_cell (blk_drewN (blk_alloc HJO.out (.cells #[.slice A1 x.f0.length c1, .int .i64 x.f1, .int .i64 x.f2, .int .u64 x.f3.f0, .bool x.f3.f1, .int .i64 x.f3.f2.f0, .int .u64 x.f3.f2.f1, .int .i64 x.f3.f3, .int .i64 x.f3.f4] 44)) nd) 7).trans (show _ = some (Value.int .i64 out.f3.f3) from rfl); have hv8 := (blk_cell (blk_drewN (blk_alloc HJO.out (.cells #[.slice A1 x.f0.length c1, .int .i64 x.f1, .int .i64 x.f2, .int .u64 x.f3.f0, .bool x.f3.f1, .int .i64 x.f3.f2.f0, .int .u64 x.f3.f2.f1, .int .i64 x.f3.f3, .int .i64 x.f3.f4] 44)) nd) 8).trans (show _ = some (Value.int .i64 out.f3.f4) from rfl))
          | (go_at_call 14; refine (agg_Merge.calls out.f3.f0 out.f3.f1 out.f3.f2.f0 out.f3.f2.f1 out.f3.f3 out.f3.f4 x.f3.f0 x.f3.f1 x.f3.f2.f0 x.f3.f2.f1 x.f3.f3 x.f3.f4 _ _ _ _ _ _ _ HM.out).mono ?_; rintro e w5 ⟨rfl, hw5⟩; have hb5 : Below ((wr.alloc (.cells #[.slice A1 x.f0.length c1, .int .i64 x.f1, .int .i64 x.f2, .int .u64 x.f3.f0, .bool x.f3.f1, .int .i64 x.f3.f2.f0, .int .u64 x.f3.f2.f1, .int .i64 x.f3.f3, .int .i64 x.f3.f4] 44)).drewN nd).heap.size ((wr.alloc (.cells #[.slice A1 x.f0.length c1, .int .i64 x.f1, .int .i64 x.f2, .int .u64 x.f3.f0, .bool x.f3.f1, .int .i64 x.f3.f2.f0, .int .u64 x.f3.f2.f1, .int .i64 x.f3.f3, .int .i64 x.f3.f4] 44)).drewN nd) w5 := ⟨hw5.os, hw5.tape, hw5.output, hw5.size, hw5.block⟩; have HB5 := Lib.hid hb5; clear hw5 hb5 hy0 hy1 hy2 hy3 hy4 hy5 hy6 hy7 hy8 hv3 hv4 hv5 hv6 hv7 hv8))
        have HX6 := Lib.hid (blk_alloc (blk_below (blk_drewN HXB.out nd) HB5.out) (.cells #[.int .u64 o1, .bool o2, .int .i64 o3, .int .u64 o4, .int .i64 o5, .int .i64 o6] 42))
        have HO6 := Lib.hid (blk_alloc (blk_below (blk_drewN (blk_alloc HJO.out (.cells #[.slice A1 x.f0.length c1, .int .i64 x.f1, .int .i64 x.f2, .int .u64 x.f3.f0, .bool x.f3.f1, .int .i64 x.f3.f2.f0, .int .u64 x.f3.f2.f1, .int .i64 x.f3.f3, .int .i64 x.f3.f4] 44)) nd) HB5.out) (.cells #[.int .u64 o1, .bool o2, .int .i64 o3, .int .u64 o4, .int .i64 o5, .int .i64 o6] 42))
        have HW6 : Hid (Below w.heap.size w (w5.alloc (.cells #[.int .u64 o1, .bool o2, .int .i64 o3, .int .u64 o4, .int .i64 o5, .int .i64 o6] 42))) := Lib.hid (by have h1 := below_step (pw_below_drewN (HJB.out.alloc HJB.out.size (.cells #[.slice A1 x.f0.length c1, .int .i64 x.f1, .int .i64 x.f2, .int .u64 x.f3.f0, .bool x.f3.f1, .int .i64 x.f3.f2.f0, .int .u64 x.f3.f2.f1, .int .i64 x.f3.f3, .int .i64 x.f3.f4] 44)) nd) HB5.out; exact h1.alloc h1.size _)
        have HR6 := Lib.hid (Kd.R_alloc (Kd.R_below (Kd.R_drewN (Kd.R_alloc HJR.out (.cells #[.slice A1 x.f0.length c1, .int .i64 x.f1, .int .i64 x.f2, .int .u64 x.f3.f0, .bool x.f3.f1, .int .i64 x.f3.f2.f0, .int .u64 x.f3.f2.f1, .int .i64 x.f3.f3, .int .i64 x.f3.f4] 44)) nd) HB5.out) (.cells #[.int .u64 o1, .bool o2, .int .i64 o3, .int .u64 o4, .int .i64 o5, .int .i64 o6] 42))
        have HZ6 := Lib.hid (blk_alloc (blk_below (blk_drewN (blk_alloc HJX.out (.cells #[.slice A1 x.f0.length c1, .int .i64 x.f1, .int .i64 x.f2, .int .u64 x.f3.f0, .bool x.f3.f1, .int .i64 x.f3.f2.f0, .int .u64 x.f3.f2.f1, .int .i64 x.f3.f3, .int .i64 x.f3.f4] 44)) nd) HB5.out) (.cells #[.int .u64 o1, .bool o2, .int .i64 o3, .int .u64 o4, .int .i64 o5, .int .i64 o6] 42))
        have HV6 := Lib.hid (Kd.R_alloc (Kd.R_below (Kd.R_drewN (Kd.R_alloc HJV.out (.cells #[.slice A1 x.f0.length c1, .int .i64 x.f1, .int .i64 x.f2, .int .u64 x.f3.f0, .bool x.f3.f1, .int .i64 x.f3.f2.f0, .int .u64 x.f3.f2.f1, .int .i64 x.f3.f3, .int .i64 x.f3.f4] 44)) nd) HB5.out) (.cells #[.int .u64 o1, .bool o2, .int .i64 o3, .int .u64 o4, .int .i64 o5, .int .i64 o6] 42))
        have HD6 := Lib.hid (Kd.R_alloc (Kd.R_below (Kd.R_drewN (Kd.R_alloc HRD.out (.cells #[.slice A1 x.f0.length c1, .int .i64 x.f1, .int .i64 x.f2, .int .u64 x.f3.f0, .bool x.f3.f1, .int .i64 x.f3.f2.f0, .int .u64 x.f3.f2.f1, .int .i64 x.f3.f3, .int .i64 x.f3.f4] 44)) nd) HB5.out) (.cells #[.int .u64 o1, .bool o2, .int .i64 o3, .int .u64 o4, .int .i64 o5, .int .i64 o6] 42))
        have HGN : Hid (w5.heap.size ≠ w2.heap.size) := Lib.hid (by have := blk_lt HO6.out; have h6 := blk_lt (blk_below (blk_drewN (blk_alloc HJO.out (.cells #[.slice A1 x.f0.length c1, .int .i64 x.f1, .int .i64 x.f2, .int .u64 x.f3.f0, .bool x.f3.f1, .int .i64 x.f3.f2.f0, .int .u64 x.f3.f2.f1, .int .i64 x.f3.f3, .int .i64 x.f3.f4] 44)) nd) HB5.out); exact Nat.ne_of_gt h6)
        have HN6 := Lib.hid (blk_new w5 (.cells #[.int .u64 o1, .bool o2, .int .i64 o3, .int .u64 o4, .int .i64 o5, .int .i64 o6] 42))
        obtain ⟨g6, hg6⟩ : ∃ g6, g6 = w5.heap.size := ⟨_, rfl⟩
        obtain ⟨gx, hgx⟩ : ∃ gx, gx = wr.heap.size := ⟨_, rfl⟩
        rw [← hg6] at HN6 HGN
        rw [← hg6, ← hgx]
        rw [← hgx] at HX6
        obtain ⟨w6, hw6⟩ : ∃ w6, w6 = w5.alloc (.cells #[.int .u64 o1, .bool o2, .int .i64 o3, .int .u64 o4, .int .i64 o5, .int .i64 o6] 42) := ⟨_, rfl⟩
        rw [← hw6] at HX6 HO6 HW6 HR6 HZ6 HV6 HD6 HN6
        rw [← hw6]
        clear hw6 hg6 hgx HB5 HXB HJB HJR HJX HJV HJO HRD
        have hz := fun i => blk_frozen HO6.out i
        have hy0 := (blk_cell HX6.out 0).trans (show _ = some (Value.slice A1 x.f0.length c1) from rfl)
        have hy1 := (blk_cell HX6.out 1).trans (show _ = some (Value.int .i64 x.f1) from rfl)
        have hy2 := (blk_cell HX6.out 2).trans (show _ = some (Value.int .i64 x.f2) from rfl)
        have hy3 := (blk_cell HX6.out 3).trans (show _ = some (Value.int .u64 x.f3.f0) from rfl)
        have hy4 := (blk_cell HX6.out 4).trans (show _ = some (Value.bool x.f3.f1) from rfl)
        have hy5 := (blk_cell HX6.out 5).trans (show _ = some (Value.int .i64 x.f3.f2.f0) from rfl)
        have hy6 := (blk_cell HX6.out 6).trans (show _ = some (Value.int .u64 x.f3.f2.f1) from rfl)
        have hy7 := (blk_cell HX6.out 7).trans (show _ = some (Value.int .i64 x.f3.f3) from rfl)
        have hy8 := (blk_cell HX6.out 8).trans (show _ = some (Value.int .i64 x.f3.f4) from rfl)
        have hv0 := (blk_cell HO6.out 0).trans (show _ = some (Value.slice Av out.f0.length cv) from rfl)
        have hv1 := (blk_cell HO6.out 1).trans (show _ = some (Value.int .i64 out.f1) from rfl)
        have hv2 := (blk_cell HO6.out 2).trans (show _ = some (Value.int .i64 out.f2) from rfl)
        have hv3 := (blk_cell HO6.out 3).trans (show _ = some (Value.int .u64 out.f3.f0) from rfl)
        have hv4 := (blk_cell HO6.out 4).trans (show _ = some (Value.bool out.f3.f1) from rfl)
        have hv5 := (blk_cell HO6.out 5).trans (show _ = some (Value.int .i64 out.f3.f2.f0) from rfl)
        have hv6 := (blk_cell HO6.out 6).trans (show _ = some (Value.int .u64 out.f3.f2.f1) from rfl)
        have hv7 := (blk_cell HO6.out 7).trans (show _ = some (Value.int .i64 out.f3.f3) from rfl)
        have hv8 := (blk_cell HO6.out 8).trans (show _ = some (Value.int .i64 out.f3.f4) from rfl)
        have hn0 := (blk_cell HN6.out 0).trans (show _ = some (Value.int .u64 o1) from rfl)
        have hn1 := (blk_cell HN6.out 1).trans (show _ = some (Value.bool o2) from rfl)
        have hn2 := (blk_cell HN6.out 2).trans (show _ = some (Value.int .i64 o3) from rfl)
        have hn3 := (blk_cell HN6.out 3).trans (show _ = some (Value.int .u64 o4) from rfl)
        have hn4 := (blk_cell HN6.out 4).trans (show _ = some (Value.int .i64 o5) from rfl)
        have hn5 := (blk_cell HN6.out 5).trans (show _ = some (Value.int .i64 o6) from rfl)
        by_cases n3 : x.f2 > out.f2
        · have N3 := Lib.hid n3
          have d3 : decide (out.f2 < x.f2) = true := decide_eq_true n3
          clear n3
          go_upto_region 14 with (fail)
          have HO7 := Lib.hid (put9 (.slice A1 x.f0.length c1) (.int .i64 x.f1) (.int .i64 x.f2) (.int .u64 x.f3.f0) (.bool x.f3.f1) (.int .i64 x.f3.f2.f0) (.int .u64 x.f3.f2.f1) (.int .i64 x.f3.f3) (.int .i64 x.f3.f4) HO6.out)
          have HN7 := Lib.hid (far9 (.slice A1 x.f0.length c1) (.int .i64 x.f1) (.int .i64 x.f2) (.int .u64 x.f3.f0) (.bool x.f3.f1) (.int .i64 x.f3.f2.f0) (.int .u64 x.f3.f2.f1) (.int .i64 x.f3.f3) (.int .i64 x.f3.f4) HN6.out HGN.out)
          have HR7 := Lib.hid (R_far9 (.slice A1 x.f0.length c1) (.int .i64 x.f1) (.int .i64 x.f2) (.int .u64 x.f3.f0) (.bool x.f3.f1) (.int .i64 x.f3.f2.f0) (.int .u64 x.f3.f2.f1) (.int .i64 x.f3.f3) (.int .i64 x.f3.f4) HR6.out (fun _ hk => Nat.ne_of_lt hk))
          have HZ7 := Lib.hid (far9 (.slice A1 x.f0.length c1) (.int .i64 x.f1) (.int .i64 x.f2) (.int .u64 x.f3.f0) (.bool x.f3.f1) (.int .i64 x.f3.f2.f0) (.int .u64 x.f3.f2.f1) (.int .i64 x.f3.f3) (.int .i64 x.f3.f4) HZ6.out HNE.out)
          have HD7 := Lib.hid (R_far9 (.slice A1 x.f0.length c1) (.int .i64 x.f1) (.int .i64 x.f2) (.int .u64 x.f3.f0) (.bool x.f3.f1) (.int .i64 x.f3.f2.f0) (.int .u64 x.f3.f2.f1) (.int .i64 x.f3.f3) (.int .i64 x.f3.f4) HD6.out (fun _ hk => Nat.ne_of_lt hk))
          have HW7 : Hid (Below w.heap.size w (((((((((w6.setCell ⟨w2.heap.size, 0, none⟩ (.slice A1 x.f0.length c1)).setCell ⟨w2.heap.size, 1, none⟩ (.int .i64 x.f1)).setCell ⟨w2.heap.size, 2, none⟩ (.int .i64 x.f2)).setCell ⟨w2.heap.size, 3, none⟩ (.int .u64 x.f3.f0)).setCell ⟨w2.heap.size, 4, none⟩ (.bool x.f3.f1)).setCell ⟨w2.heap.size, 5, none⟩ (.int .i64 x.f3.f2.f0)).setCell ⟨w2.heap.size, 6, none⟩ (.int .u64 x.f3.f2.f1)).setCell ⟨w2.heap.size, 7, none⟩ (.int .i64 x.f3.f3)).setCell ⟨w2.heap.size, 8, none⟩ (.int .i64 x.f3.f4))) := Lib.hid (by repeat (first | (with_reducible exact HW6.out) | refine below_set ?_ HGW.out))
          clear hz hy0 hy1 hy2 hy3 hy4 hy5 hy6 hy7 hy8 hv0 hv1 hv2 hv3 hv4 hv5 hv6 hv7 hv8 hn0 hn1 hn2 hn3 hn4 hn5
          obtain ⟨w7, hw7⟩ : ∃ w7, w7 = (((((((((w6.setCell ⟨w2.heap.size, 0, none⟩ (.slice A1 x.f0.length c1)).setCell ⟨w2.heap.size, 1, none⟩ (.int .i64 x.f1)).setCell ⟨w2.heap.size, 2, none⟩ (.int .i64 x.f2)).setCell ⟨w2.heap.size, 3, none⟩ (.int .u64 x.f3.f0)).setCell ⟨w2.heap.size, 4, none⟩ (.bool x.f3.f1)).setCell ⟨w2.heap.size, 5, none⟩ (.int .i64 x.f3.f2.f0)).setCell ⟨w2.heap.size, 6, none⟩ (.int .u64 x.f3.f2.f1)).setCell ⟨w2.heap.size, 7, none⟩ (.int .i64 x.f3.f3)).setCell ⟨w2.heap.size, 8, none⟩ (.int .i64 x.f3.f4)) := ⟨_, rfl⟩
          rw [← hw7] at HO7 HN7 HR7 HZ7 HD7 HW7
          rw [← hw7]
          clear hw7 HO6 HN6 HR6 HZ6 HD6 HV6 HW6 HX6
          have hz := fun i => blk_frozen HO7.out i
          have hv3 := (blk_cell HO7.out 3).trans (show _ = some (Value.int .u64 x.f3.f0) from rfl)
          have hv4 := (blk_cell HO7.out 4).trans (show _ = some (Value.bool x.f3.f1) from rfl)
          have hv5 := (blk_cell HO7.out 5).trans (show _ = some (Value.int .i64 x.f3.f2.f0) from rfl)
          have hv6 := (blk_cell HO7.out 6).trans (show _ = some (Value.int .u64 x.f3.f2.f1) from rfl)
          have hv7 := (blk_cell HO7.out 7).trans (show _ = some (Value.int .i64 x.f3.f3) from rfl)
          have hv8 := (blk_cell HO7.out 8).trans (show _ = some (Value.int .i64 x.f3.f4) from rfl)
          have hn0 := (blk_cell HN7.out 0).trans (show _ = some (Value.int .u64 o1) from rfl)
          have hn1 := (blk_cell HN7.out 1).trans (show _ = some (Value.bool o2) from rfl)
          have hn2 := (blk_cell HN7.out 2).trans (show _ = some (Value.int .i64 o3) from rfl)
          have hn3 := (blk_cell HN7.out 3).trans (show _ = some (Value.int .u64 o4) from rfl)
          have hn4 := (blk_cell HN7.out 4).trans (show _ = some (Value.int .i64 o5) from rfl)
          have hn5 := (blk_cell HN7.out 5).trans (show _ = some (Value.int .i64 o6) from rfl)
          go_wp2
          go_roundw
          case rel =>
            refine ⟨j + 1, by go_num, hlt, by repeat (first | (with_reducible exact HW7.out) | refine below_set ?_ HGW.out), by have := blk_lt HO7.out; simp; omega, ?_, ?_, getPut x out (o1, o2, o3, o4, o5, o6), .slice A1 x.f0.length c1, ?_, ?_, HF.out⟩
            · exact R_far6 (.int .u64 o1) (.bool o2) (.int .i64 o3) (.int .u64 o4) (.int .i64 o5) (.int .i64 o6) HR7.out (fun _ hk => Nat.ne_of_lt hk)
            · exact far6 (.int .u64 o1) (.bool o2) (.int .i64 o3) (.int .u64 o4) (.int .i64 o5) (.int .i64 o6) HZ7.out HNE.out
            · rw [show getPut x out (o1, o2, o3, o4, o5, o6) = ⟨x.f0, x.f1, x.f2, ⟨o1, o2, ⟨o3, o4⟩, o5, o6⟩⟩ from if_pos N3.out]
              exact R_far6 (.int .u64 o1) (.bool o2) (.int .i64 o3) (.int .u64 o4) (.int .i64 o5) (.int .i64 o6) HD7.out (fun _ hk => Nat.ne_of_lt hk)
            · rw [show getPut x out (o1, o2, o3, o4, o5, o6) = ⟨x.f0, x.f1, x.f2, ⟨o1, o2, ⟨o3, o4⟩, o5, o6⟩⟩ from if_pos N3.out]
              exact put6 (.int .u64 o1) (.bool o2) (.int .i64 o3) (.int .u64 o4) (.int .i64 o5) (.int .i64 o6) HO7.out
          case measure => simp [intOf]; omega
        · have N3 := Lib.hid n3
          have d3 : decide (out.f2 < x.f2) = false := decide_eq_false n3
          clear n3
          go_upto_region 14 with (fail)
          clear hy0 hy1 hy2 hy3 hy4 hy5 hy6 hy7 hy8 hv0 hv1 hv2
          go_wp2
          go_roundw
          case rel =>
            refine ⟨j + 1, by go_num, hlt, by repeat (first | (with_reducible exact HW6.out) | refine below_set ?_ HGW.out), by have := blk_lt HO6.out; simp; omega, ?_, ?_, getPut x out (o1, o2, o3, o4, o5, o6), .slice Av out.f0.length cv, ?_, ?_, HF.out⟩
            · exact R_far6 (.int .u64 o1) (.bool o2) (.int .i64 o3) (.int .u64 o4) (.int .i64 o5) (.int .i64 o6) HR6.out (fun _ hk => Nat.ne_of_lt hk)
            · exact far6 (.int .u64 o1) (.bool o2) (.int .i64 o3) (.int .u64 o4) (.int .i64 o5) (.int .i64 o6) HZ6.out HNE.out
            · rw [show getPut x out (o1, o2, o3, o4, o5, o6) = ⟨out.f0, out.f1, out.f2, ⟨o1, o2, ⟨o3, o4⟩, o5, o6⟩⟩ from if_neg N3.out]
              exact R_far6 (.int .u64 o1) (.bool o2) (.int .i64 o3) (.int .u64 o4) (.int .i64 o5) (.int .i64 o6) HV6.out (fun _ hk => Nat.ne_of_lt hk)
            · rw [show getPut x out (o1, o2, o3, o4, o5, o6) = ⟨out.f0, out.f1, out.f2, ⟨o1, o2, ⟨o3, o4⟩, o5, o6⟩⟩ from if_neg N3.out]
              exact put6 (.int .u64 o1) (.bool o2) (.int .i64 o3) (.int .u64 o4) (.int .i64 o5) (.int .i64 o6) HO6.out
          case measure => simp [intOf]; omega
      · rw [if_neg hgo] at hF2
        have HF := Lib.hid hF2
        clear hF2
        have hd : ∀ nd : Nat, GetRel k l3 a4 all (.slice (some ad) all.length ca) o w w2.heap.size (j + 1) ((wr.alloc (.cells #[.slice A1 x.f0.length c1, .int .i64 x.f1, .int .i64 x.f2, .int .u64 x.f3.f0, .bool x.f3.f1, .int .i64 x.f3.f2.f0, .int .u64 x.f3.f2.f1, .int .i64 x.f3.f3, .int .i64 x.f3.f4] 44)).drewN nd) := fun nd => ⟨hlt, pw_below_drewN (HJB.out.alloc HJB.out.size _) nd, by simp; omega, Kd.R_drewN (Kd.R_alloc HJR.out _) nd, blk_drewN (blk_alloc HJX.out _) nd, out, _, Kd.R_drewN (Kd.R_alloc HJV.out _) nd, blk_drewN (blk_alloc HJO.out _) nd, HF.out⟩
        have HDD := Lib.hid hd
        clear hd
        cases qe with
        | false =>
          go_wp2_with (go_at_call 25; with_reducible refine (slices_Equal_string_string.calls k A1 c1 x.f0 A3 c3 l3 _ _ (Kd.C_alloc HIN.out.2.2 _) HIN.out.2.1 (Kd.C_below HD.out (HJB.out.alloc HJB.out.size _)) hc3 HQE.out).mono ?_; rintro e w4 ⟨rfl, ⟨nd, rfl⟩⟩; have hy0 := (blk_cell (blk_drewN HXB.out nd) 0).trans (show _ = some (Value.slice A1 x.f0.length c1) from rfl); have hy1 := (blk_cell (blk_drewN HXB.out nd) 1).trans (show _ = some (Value.int .i64 x.f1) from rfl); have hy2 := (blk_cell (blk_drewN HXB.out nd) 2).trans (show _ = some (Value.int .i64 x.f2) from rfl); have hy3 := (blk_cell (blk_drewN HXB.out nd) 3).trans (show _ = some (Value.int .u64 x.f3.f0) from rfl); have hy4 := (blk_cell (blk_drewN HXB.out nd) 4).trans (show _ = some (Value.bool x.f3.f1) from rfl); have hy5 := (blk_cell (blk_drewN HXB.out nd) 5).trans (show _ = some (Value.int .i64 x.f3.f2.f0) from rfl); have hy6 := (blk_cell (blk_drewN HXB.out nd) 6).trans (show _ = some (Value.int .u64 x.f3.f2.f1) from rfl); have hy7 := (blk_cell (blk_drewN HXB.out nd) 7).trans (show _ = some (Value.int .i64 x.f3.f3) from rfl); have hy8 := (blk_cell (blk_drewN HXB.out nd) 8).trans (show _ = some (Value.int .i64 x.f3.f4) from rfl))
          go_roundw
          case rel => exact ⟨j + 1, by go_num, HDD.out nd⟩
          case measure => simp [intOf]; omega
        | true =>
          by_cases n1 : a4 < x.f1
          · have d1 : decide (a4 < x.f1) = true := decide_eq_true n1
            clear n1 hgo
            go_wp2_with (go_at_call 25; with_reducible refine (slices_Equal_string_string.calls k A1 c1 x.f0 A3 c3 l3 _ _ (Kd.C_alloc HIN.out.2.2 _) HIN.out.2.1 (Kd.C_below HD.out (HJB.out.alloc HJB.out.size _)) hc3 HQE.out).mono ?_; rintro e w4 ⟨rfl, ⟨nd, rfl⟩⟩; have hy0 := (blk_cell (blk_drewN HXB.out nd) 0).trans (show _ = some (Value.slice A1 x.f0.length c1) from rfl); have hy1 := (blk_cell (blk_drewN HXB.out nd) 1).trans (show _ = some (Value.int .i64 x.f1) from rfl); have hy2 := (blk_cell (blk_drewN HXB.out nd) 2).trans (show _ = some (Value.int .i64 x.f2) from rfl); have hy3 := (blk_cell (blk_drewN HXB.out nd) 3).trans (show _ = some (Value.int .u64 x.f3.f0) from rfl); have hy4 := (blk_cell (blk_drewN HXB.out nd) 4).trans (show _ = some (Value.bool x.f3.f1) from rfl); have hy5 := (blk_cell (blk_drewN HXB.out nd) 5).trans (show _ = some (Value.int .i64 x.f3.f2.f0) from rfl); have hy6 := (blk_cell (blk_drewN HXB.out nd) 6).trans (show _ = some (Value.int .u64 x.f3.f2.f1) from rfl); have hy7 := (blk_cell (blk_drewN HXB.out nd) 7).trans (show _ = some (Value.int .i64 x.f3.f3) from rfl); have hy8 := (blk_cell (blk_drewN HXB.out nd) 8).trans (show _ = some (Value.int .i64 x.f3.f4) from rfl))
            go_roundw
            case rel => exact ⟨j + 1, by go_num, HDD.out nd⟩
            case measure => simp [intOf]; omega
          · have n2 : a4 ≥ s := Decidable.byContradiction fun h => hgo ⟨rfl, n1, h⟩
            have d1 : decide (a4 < x.f1) = false := decide_eq_false n1
            have d2 : decide (s ≤ a4) = true := decide_eq_true n2
            clear n1 n2 hgo
            go_wp2_with (go_at_call 25; with_reducible refine (slices_Equal_string_string.calls k A1 c1 x.f0 A3 c3 l3 _ _ (Kd.C_alloc HIN.out.2.2 _) HIN.out.2.1 (Kd.C_below HD.out (HJB.out.alloc HJB.out.size _)) hc3 HQE.out).mono ?_; rintro e w4 ⟨rfl, ⟨nd, rfl⟩⟩; have hy0 := (blk_cell (blk_drewN HXB.out nd) 0).trans (show _ = some (Value.slice A1 x.f0.length c1) from rfl); have hy1 := (blk_cell (blk_drewN HXB.out nd) 1).trans (show _ = some (Value.int .i64 x.f1) from rfl); have hy2 := (blk_cell (blk_drewN HXB.out nd) 2).trans (show _ = some (Value.int .i64 x.f2) from rfl); have hy3 := (blk_cell (blk_drewN HXB.out nd) 3).trans (show _ = some (Value.int .u64 x.f3.f0) from rfl); have hy4 := (blk_cell (blk_drewN HXB.out nd) 4).trans (show _ = some (Value.bool x.f3.f1) from rfl); have hy5 := (blk_cell (blk_drewN HXB.out nd) 5).trans (show _ = some (Value.int .i64 x.f3.f2.f0) from rfl); have hy6 := (blk_cell (blk_drewN HXB.out nd) 6).trans (show _ = some (Value.int .u64 x.f3.f2.f1) from rfl); have hy7 := (blk_cell (blk_drewN HXB.out nd) 7).trans (show _ = some (Value.int .i64 x.f3.f3) from rfl); have hy8 := (blk_cell (blk_drewN HXB.out nd) 8).trans (show _ = some (Value.int .i64 x.f3.f4) from rfl))
            go_roundw
            case rel => exact ⟨j + 1, by go_num, HDD.out nd⟩
            case measure => simp [intOf]; omega
    · have e1 : decide ((j : Int) < (all.length : Int)) = false := decide_eq_false (by omega)
      rw [List.drop_eq_nil_of_le (by omega)] at hF
      obtain rfl := Option.some.inj hF
      clear hF
      have hne : w.heap.size + 1 ≠ w2.heap.size := Nat.ne_of_lt (blk_lt HX2.out)
      have HJX2 := HJX
      have HJO2 := Lib.hid (blk_drew (far9 (.slice Av out.f0.length cv) (.int .i64 out.f1) (.int .i64 out.f2) (.int .u64 out.f3.f0) (.bool out.f3.f1) (.int .i64 out.f3.f2.f0) (.int .u64 out.f3.f2.f1) (.int .i64 out.f3.f3) (.int .i64 out.f3.f4) HJO.out hne.symm))
      have hz := fun o => blk_frozen HJX2.out o
      have hq0 := (blk_cell HJX2.out 0).trans (show _ = some (Value.slice none 0 0) from rfl)
      have hq1 := (blk_cell HJX2.out 1).trans (show _ = some (Value.int .i64 0) from rfl)
      have hq2 := (blk_cell HJX2.out 2).trans (show _ = some (Value.int .i64 0) from rfl)
      have hq3 := (blk_cell HJX2.out 3).trans (show _ = some (Value.int .u64 0) from rfl)
      have hq4 := (blk_cell HJX2.out 4).trans (show _ = some (Value.bool false) from rfl)
      have hq5 := (blk_cell HJX2.out 5).trans (show _ = some (Value.int .i64 0) from rfl)
      have hq6 := (blk_cell HJX2.out 6).trans (show _ = some (Value.int .u64 0) from rfl)
      have hq7 := (blk_cell HJX2.out 7).trans (show _ = some (Value.int .i64 0) from rfl)
      have hq8 := (blk_cell HJX2.out 8).trans (show _ = some (Value.int .i64 0) from rfl)
      have hk0 := (blk_cell (blk_drew HJO.out) 0).trans (show _ = some (Value.slice Av out.f0.length cv) from rfl)
      have hk1 := (blk_cell (blk_drew HJO.out) 1).trans (show _ = some (Value.int .i64 out.f1) from rfl)
      have hk2 := (blk_cell (blk_drew HJO.out) 2).trans (show _ = some (Value.int .i64 out.f2) from rfl)
      have hk3 := (blk_cell (blk_drew HJO.out) 3).trans (show _ = some (Value.int .u64 out.f3.f0) from rfl)
      have hk4 := (blk_cell (blk_drew HJO.out) 4).trans (show _ = some (Value.bool out.f3.f1) from rfl)
      have hk5 := (blk_cell (blk_drew HJO.out) 5).trans (show _ = some (Value.int .i64 out.f3.f2.f0) from rfl)
      have hk6 := (blk_cell (blk_drew HJO.out) 6).trans (show _ = some (Value.int .u64 out.f3.f2.f1) from rfl)
      have hk7 := (blk_cell (blk_drew HJO.out) 7).trans (show _ = some (Value.int .i64 out.f3.f3) from rfl)
      have hk8 := (blk_cell (blk_drew HJO.out) 8).trans (show _ = some (Value.int .i64 out.f3.f4) from rfl)
      go_wp2
      refine start_ (n := 7) (S := fun w' => w'.cell? ⟨w2.heap.size, 0, none⟩ = some (.slice Av out.f0.length cv) ∧ w'.cell? ⟨w2.heap.size, 1, none⟩ = some (.int .i64 out.f1) ∧ w'.cell? ⟨w2.heap.size, 2, none⟩ = some (.int .i64 out.f2) ∧ w'.cell? ⟨w2.heap.size, 3, none⟩ = some (.int .u64 out.f3.f0) ∧ w'.cell? ⟨w2.heap.size, 4, none⟩ = some (.bool out.f3.f1) ∧ w'.cell? ⟨w2.heap.size, 5, none⟩ = some (.int .i64 out.f3.f2.f0) ∧ w'.cell? ⟨w2.heap.size, 6, none⟩ = some (.int .u64 out.f3.f2.f1) ∧ w'.cell? ⟨w2.heap.size, 7, none⟩ = some (.int .i64 out.f3.f3) ∧ w'.cell? ⟨w2.heap.size, 8, none⟩ = some (.int .i64 out.f3.f4)) (ds := []) #[false, false, false, false, false, false, false] (by kernel_rfl) rfl rfl ⟨hk0, hk1, hk2, hk3, hk4, hk5, hk6, hk7, hk8⟩ (fun hHeld => ?_)
      refine with_tabW ask_Get.tab16 ask_Get.bits16 (fun HT_ HW_ => ?_)
      refine pureD 1 77 HT_ ?_
      refine takeD 0 76 HT_ HW_ hHeld ?_
      refine takeD 2 78 HT_ HW_ hHeld ?_
      refine pureD 3 79 HT_ ?_
      refine one_ (i := 4) (N := none) #[true, true, true, true, true, false, false] rfl rfl (one_of HT_.out (by kernel_rfl)) (by decide) (fun K hK => ?_)
      refine skip_ (w1 := ?_) (by rfl) rfl ?_ ?_
      rotate_left
      ·go_simp
       rfl
      refine hK.out _ _ ⟨(blk_cell HJO2.out 0).trans (show _ = some (Value.slice Av out.f0.length cv) from rfl), (blk_cell HJO2.out 1).trans (show _ = some (Value.int .i64 out.f1) from rfl), (blk_cell HJO2.out 2).trans (show _ = some (Value.int .i64 out.f2) from rfl), (blk_cell HJO2.out 3).trans (show _ = some (Value.int .u64 out.f3.f0) from rfl), (blk_cell HJO2.out 4).trans (show _ = some (Value.bool out.f3.f1) from rfl), (blk_cell HJO2.out 5).trans (show _ = some (Value.int .i64 out.f3.f2.f0) from rfl), (blk_cell HJO2.out 6).trans (show _ = some (Value.int .u64 out.f3.f2.f1) from rfl), (blk_cell HJO2.out 7).trans (show _ = some (Value.int .i64 out.f3.f3) from rfl), (blk_cell HJO2.out 8).trans (show _ = some (Value.int .i64 out.f3.f4) from rfl)⟩ (fun hHeld => ?_)
      clear hK K
      refine pureD 5 11 HT_ ?_
      refine pureD 6 12 HT_ ?_
      refine done_ (done_of HT_.out (by kernel_rfl)) ?_
      clear hHeld HT_ HW_ hq0 hq1 hq2 hq3 hq4 hq5 hq6 hq7 hq8 hk0 hk1 hk2 hk3 hk4 hk5 hk6 hk7 hk8 hz
      go_wp2
      refine bodyPost_ret (results_cell3 rfl _ _ (w.heap.size + 1) 44 #[.slice Av out.f0.length cv, .int .i64 out.f1, .int .i64 out.f2, .int .u64 out.f3.f0, .bool out.f3.f1, .int .i64 out.f3.f2.f0, .int .u64 out.f3.f2.f1, .int .i64 out.f3.f3, .int .i64 out.f3.f4] (0, 0) _ rfl ?hg Try.underlying44 rfl (by kernel_rfl)) rfl ?_
      case hg => exact blk_drew (put9 (.slice Av out.f0.length cv) (.int .i64 out.f1) (.int .i64 out.f2) (.int .u64 out.f3.f0) (.bool out.f3.f1) (.int .i64 out.f3.f2.f0) (.int .u64 out.f3.f2.f1) (.int .i64 out.f3.f3) (.int .i64 out.f3.f4) HJX.out)
      refine ⟨_, rfl, Kd.R_drew (Kd.R_mono (R_far9 (.slice Av out.f0.length cv) (.int .i64 out.f1) (.int .i64 out.f2) (.int .u64 out.f3.f0) (.bool out.f3.f1) (.int .i64 out.f3.f2.f0) (.int .u64 out.f3.f2.f1) (.int .i64 out.f3.f3) (.int .i64 out.f3.f4) (Kd.R_types HJV.out HJX.out (by decide)) (fun _ hk => hk.2)) (fun _ _ => trivial)), ?_⟩
      refine below_drew1 ?_
      repeat (first | (with_reducible exact HJB.out) | refine below_set ?_ (by omega))
end Go.Proofs.Ytdopbhbbpgfliaa.PAsk
end
