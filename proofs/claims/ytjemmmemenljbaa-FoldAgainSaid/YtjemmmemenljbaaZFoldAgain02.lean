import Derived.Test.YtjemmmemenljbaaZFoldAgain00
import Derived.Test.YtjemmmemenljbaaZFoldAgain01
import Derived.Test.YtjemmmemenljbaaProg
import Derived.Below
import Derived.Deep.Draws
import Derived.Deep.AppendLies
import Derived.Maps.AppendAt
import Derived.OwnWalk
import Derived.Laws.BytesArg
import Derived.Laws.MakeOwn
import Derived.Laws.OwnMore
import Derived.Deep.OwnRows
import Derived.Tactics
import Derived.Lib.ConvBytes
import Derived.Laws.Slices
import Derived.WalkKit
import Derived.KernelRfl
import Derived.RowKit3
import Derived.Deep.LoopGhost
import Derived.Deep.QuietTactic
import Derived.BigQuiet
import Derived.WideLaws
import Derived.Deep.DeepCutAuto
import Derived.Deep.CutBlock
import Derived.Deep.RegionHeld3
import Derived.Laws.Rows
import Derived.Lib.AppendStr
import Derived.ArgAppend
import Derived.Laws.IdiomCopy
import Derived.OrdersHeld
import Derived.Laws.BitsLemmas
import Derived.RowKit
import Derived.WalkMore
import Derived.Laws.Cover1
import Derived.Deep.Slices
import Derived.ChangeSame
import Derived.ChangeArms
import Derived.SizedLaws
import Derived.WideShapes
import Derived.ChangeOld
section
namespace Go.Proofs.Ytjemmmemenljbaa.PFold
open Go.RowKit Go.Proofs.YtjemmmemenljbaaW.PrintWords Go.Proofs.YtjemmmemenljbaaW.PrintLast Go.Proofs.YtjemmmemenljbaaW.PrintMore
attribute [local go_sem] max2_int min2_int max_two min_two max_three min_three max_four min_four   -- for this text's walks alone
set_option linter.unusedVariables false
set_option linter.unusedSimpArgs false
def errW : Option Int → Value
  | none => .nilIface
  | some c => .iface 0 (.int .i64 c)
theorem errW_none : errW none = .nilIface := rfl
theorem errW_some (c : Int) : errW (some c) = .iface 0 (.int .i64 c) := rfl
theorem info5 : (Try.prog.info? 5).map (fun i => (i.zero, i.size, i.bytes)) = some (some (.int .u8 0), 1, 1) := by kernel_rfl
theorem info9 : (Try.prog.info? 9).map (fun i => (i.zero, i.size, i.bytes)) = some (some (.string ⟨#[]⟩), 1, 16) := by kernel_rfl
theorem info51 : (Try.prog.info? 51).map (fun i => (i.zero, i.size, i.bytes)) = some (some (.agg #[(.slice none 0 0), (.int .u64 0), (.bool false), (.int .i64 0), (.int .u64 0), (.int .i64 0), (.int .i64 0)]), 7, 72) := by kernel_rfl
structure S46 where
  f0 : (List ByteArray)
  f1 : Int
  f2 : Int
def z46 : S46 := ⟨([] : List ByteArray), (0 : Int), (0 : Int)⟩
def k46 : Kd S46 := Kd.iso (Kd.pair (Kd.slice 9 Kd.string) (Kd.pair (Kd.int .i64) (Kd.int .i64))) (fun x : S46 => (x.f0, x.f1, x.f2))
theorem k46_open {w : World} {x : S46} {cs : List Value} (h : k46.K w x cs) : ∃ A0 c0, cs = [.slice A0 x.f0.length c0, .int .i64 x.f1, .int .i64 x.f2] ∧ x.f0.length ≤ c0 ∧ Kd.string.C w A0 x.f0.length x.f0 := by
  obtain ⟨_, _, rfl, ⟨A0, c0, rfl, l0, g0⟩, ⟨_, _, rfl, rfl, rfl⟩⟩ := h
  exact ⟨A0, c0, rfl, l0, g0⟩
theorem k46_mk (w : World) (x : S46) {A0 : Option Addr} {c0 : Nat} (l0 : x.f0.length ≤ c0) (g0 : Kd.string.C w A0 x.f0.length x.f0) : k46.K w x [.slice A0 x.f0.length c0, .int .i64 x.f1, .int .i64 x.f2] := ⟨[.slice A0 x.f0.length c0], [.int .i64 x.f1, .int .i64 x.f2], rfl, ⟨A0, c0, rfl, l0, g0⟩, ⟨[.int .i64 x.f1], [.int .i64 x.f2], rfl, rfl, rfl⟩⟩
def rd_T46 (xs : List S46) (i : Int) : S46 := xs.getD i.toNat z46
theorem at_T46 {w : World} {A : Option Addr} {n : Nat} {xs : List S46} (h : Kd.C k46 w A n xs) (i : Int) (h0 : 0 ≤ i) (h1 : i < n) : ∃ ad A0 c0, A = some ad ∧ w.cell? (ad.add (i.toNat * 3)) = some (.slice A0 (rd_T46 xs i).f0.length c0) ∧ w.cell? ⟨(ad.add (i.toNat * 3)).block, (ad.add (i.toNat * 3)).off + 1, none⟩ = some (.int .i64 (rd_T46 xs i).f1) ∧ w.cell? ⟨(ad.add (i.toNat * 3)).block, (ad.add (i.toNat * 3)).off + 2, none⟩ = some (.int .i64 (rd_T46 xs i).f2) ∧ (rd_T46 xs i).f0.length ≤ c0 ∧ Kd.string.C w A0 (rd_T46 xs i).f0.length (rd_T46 xs i).f0 := by
  obtain ⟨ad, c, e, _, hK, hc0⟩ := Kd.C_get h z46 i h0 h1
  have hc : ∀ j u, c[j]? = some u → w.cell? (ad.add (i.toNat * 3 + j)) = some u := hc0
  obtain ⟨A0, c0, rfl, l0, g0⟩ := k46_open hK
  exact ⟨ad, A0, c0, e, hc 0 _ rfl, by rw [← add_field _ _ 1 (by omega)]; exact hc 1 _ rfl, by rw [← add_field _ _ 2 (by omega)]; exact hc 2 _ rfl, l0, g0⟩
structure S39 where
  f0 : Int
  f1 : Int
def z39 : S39 := ⟨(0 : Int), (0 : Int)⟩
def k39 : Kd S39 := Kd.iso (Kd.pair (Kd.int .i64) (Kd.int .u64)) (fun x : S39 => (x.f0, x.f1))
theorem k39_open {w : World} {x : S39} {cs : List Value} (h : k39.K w x cs) : cs = [.int .i64 x.f0, .int .u64 x.f1] := by
  obtain ⟨_, _, rfl, rfl, rfl⟩ := h
  exact rfl
theorem k39_openM {w : World} {base : Nat} {ok : Nat → Prop} {x : S39} {cs : List Value} (h : k39.M w base ok x cs) : cs = [.int .i64 x.f0, .int .u64 x.f1] := by
  obtain ⟨_, _, rfl, rfl, rfl⟩ := h
  exact rfl
theorem k39_mk (w : World) (x : S39)  : k39.K w x [.int .i64 x.f0, .int .u64 x.f1] := ⟨[.int .i64 x.f0], [.int .u64 x.f1], rfl, rfl, rfl⟩
theorem k39_mkM (w : World) (base : Nat) (ok : Nat → Prop) (x : S39)  : k39.M w base ok x [.int .i64 x.f0, .int .u64 x.f1] := ⟨[.int .i64 x.f0], [.int .u64 x.f1], rfl, rfl, rfl⟩
def rd_T39 (xs : List S39) (i : Int) : S39 := xs.getD i.toNat z39
theorem at_T39 {w : World} {A : Option Addr} {n : Nat} {xs : List S39} (h : Kd.C k39 w A n xs) (i : Int) (h0 : 0 ≤ i) (h1 : i < n) : ∃ ad , A = some ad ∧ w.cell? (ad.add (i.toNat * 2)) = some (.int .i64 (rd_T39 xs i).f0) ∧ w.cell? ⟨(ad.add (i.toNat * 2)).block, (ad.add (i.toNat * 2)).off + 1, none⟩ = some (.int .u64 (rd_T39 xs i).f1) := by
  obtain ⟨ad, c, e, _, hK, hc0⟩ := Kd.C_get h z39 i h0 h1
  have hc : ∀ j u, c[j]? = some u → w.cell? (ad.add (i.toNat * 2 + j)) = some u := hc0
  obtain rfl := k39_open hK
  exact ⟨ad, e, hc 0 _ rfl, by rw [← add_field _ _ 1 (by omega)]; exact hc 1 _ rfl⟩
structure S67 where
  f0 : Int
  f1 : Int
def z67 : S67 := ⟨(0 : Int), (0 : Int)⟩
def k67 : Kd S67 := Kd.iso (Kd.pair (Kd.int .i64) (Kd.int .i64)) (fun x : S67 => (x.f0, x.f1))
theorem k67_open {w : World} {x : S67} {cs : List Value} (h : k67.K w x cs) : cs = [.int .i64 x.f0, .int .i64 x.f1] := by
  obtain ⟨_, _, rfl, rfl, rfl⟩ := h
  exact rfl
theorem k67_mkM (w : World) (base : Nat) (ok : Nat → Prop) (x : S67)  : k67.M w base ok x [.int .i64 x.f0, .int .i64 x.f1] := ⟨[.int .i64 x.f0], [.int .i64 x.f1], rfl, rfl, rfl⟩
def rd_T67 (xs : List S67) (i : Int) : S67 := xs.getD i.toNat z67
theorem at_T67 {w : World} {A : Option Addr} {n : Nat} {xs : List S67} (h : Kd.C k67 w A n xs) (i : Int) (h0 : 0 ≤ i) (h1 : i < n) : ∃ ad , A = some ad ∧ w.cell? (ad.add (i.toNat * 2)) = some (.int .i64 (rd_T67 xs i).f0) ∧ w.cell? ⟨(ad.add (i.toNat * 2)).block, (ad.add (i.toNat * 2)).off + 1, none⟩ = some (.int .i64 (rd_T67 xs i).f1) := by
  obtain ⟨ad, c, e, _, hK, hc0⟩ := Kd.C_get h z67 i h0 h1
  have hc : ∀ j u, c[j]? = some u → w.cell? (ad.add (i.toNat * 2 + j)) = some u := hc0
  obtain rfl := k67_open hK
  exact ⟨ad, e, hc 0 _ rfl, by rw [← add_field _ _ 1 (by omega)]; exact hc 1 _ rfl⟩
structure S41 where
  f0 : Int
  f1 : Bool
  f2 : S39
  f3 : Int
  f4 : Int
def z41 : S41 := ⟨(0 : Int), false, z39, (0 : Int), (0 : Int)⟩
def k41 : Kd S41 := Kd.iso (Kd.pair (Kd.int .u64) (Kd.pair Kd.bool (Kd.pair k39 (Kd.pair (Kd.int .i64) (Kd.int .i64))))) (fun x : S41 => (x.f0, x.f1, x.f2, x.f3, x.f4))
theorem k41_open {w : World} {x : S41} {cs : List Value} (h : k41.K w x cs) : cs = [.int .u64 x.f0, .bool x.f1, .int .i64 x.f2.f0, .int .u64 x.f2.f1, .int .i64 x.f3, .int .i64 x.f4] := by
  obtain ⟨_, _, rfl, rfl, ⟨_, _, rfl, rfl, ⟨_, _, rfl, s2, ⟨_, _, rfl, rfl, rfl⟩⟩⟩⟩ := h
  obtain rfl := k39_open s2
  exact rfl
theorem k41_openM {w : World} {base : Nat} {ok : Nat → Prop} {x : S41} {cs : List Value} (h : k41.M w base ok x cs) : cs = [.int .u64 x.f0, .bool x.f1, .int .i64 x.f2.f0, .int .u64 x.f2.f1, .int .i64 x.f3, .int .i64 x.f4] := by
  obtain ⟨_, _, rfl, rfl, ⟨_, _, rfl, rfl, ⟨_, _, rfl, s2, ⟨_, _, rfl, rfl, rfl⟩⟩⟩⟩ := h
  obtain rfl := k39_openM s2
  exact rfl
theorem k41_mkM (w : World) (base : Nat) (ok : Nat → Prop) (x : S41)  : k41.M w base ok x [.int .u64 x.f0, .bool x.f1, .int .i64 x.f2.f0, .int .u64 x.f2.f1, .int .i64 x.f3, .int .i64 x.f4] := ⟨[.int .u64 x.f0], [.bool x.f1, .int .i64 x.f2.f0, .int .u64 x.f2.f1, .int .i64 x.f3, .int .i64 x.f4], rfl, rfl, ⟨[.bool x.f1], [.int .i64 x.f2.f0, .int .u64 x.f2.f1, .int .i64 x.f3, .int .i64 x.f4], rfl, rfl, ⟨[.int .i64 x.f2.f0, .int .u64 x.f2.f1], [.int .i64 x.f3, .int .i64 x.f4], rfl, (k39_mkM w base ok x.f2 ), ⟨[.int .i64 x.f3], [.int .i64 x.f4], rfl, rfl, rfl⟩⟩⟩⟩
structure S51 where
  f0 : (List Int)
  f1 : S41
def z51 : S51 := ⟨([] : List Int), z41⟩
def k51 : Kd S51 := Kd.iso (Kd.pair (Kd.slice 5 (Kd.int .u8)) k41) (fun x : S51 => (x.f0, x.f1))
theorem k51_open {w : World} {x : S51} {cs : List Value} (h : k51.K w x cs) : ∃ A0 c0, cs = [.slice A0 x.f0.length c0, .int .u64 x.f1.f0, .bool x.f1.f1, .int .i64 x.f1.f2.f0, .int .u64 x.f1.f2.f1, .int .i64 x.f1.f3, .int .i64 x.f1.f4] ∧ x.f0.length ≤ c0 ∧ (Kd.int .u8).C w A0 x.f0.length x.f0 := by
  obtain ⟨_, _, rfl, ⟨A0, c0, rfl, l0, g0⟩, s1⟩ := h
  obtain rfl := k41_open s1
  exact ⟨A0, c0, rfl, l0, g0⟩
theorem k51_openM {w : World} {base : Nat} {ok : Nat → Prop} {x : S51} {cs : List Value} (h : k51.M w base ok x cs) : ∃ v0, cs = [v0, .int .u64 x.f1.f0, .bool x.f1.f1, .int .i64 x.f1.f2.f0, .int .u64 x.f1.f2.f1, .int .i64 x.f1.f3, .int .i64 x.f1.f4] ∧ (Kd.int .u8).R 5 w base ok v0 x.f0 := by
  obtain ⟨_, _, rfl, ⟨v0, rfl, g0⟩, s1⟩ := h
  obtain rfl := k41_openM s1
  exact ⟨v0, rfl, g0⟩
theorem k51_mkM (w : World) (base : Nat) (ok : Nat → Prop) (x : S51) {v0 : Value} (g0 : (Kd.int .u8).R 5 w base ok v0 x.f0) : k51.M w base ok x [v0, .int .u64 x.f1.f0, .bool x.f1.f1, .int .i64 x.f1.f2.f0, .int .u64 x.f1.f2.f1, .int .i64 x.f1.f3, .int .i64 x.f1.f4] := ⟨[v0], [.int .u64 x.f1.f0, .bool x.f1.f1, .int .i64 x.f1.f2.f0, .int .u64 x.f1.f2.f1, .int .i64 x.f1.f3, .int .i64 x.f1.f4], rfl, ⟨v0, rfl, g0⟩, (k41_mkM w base ok x.f1 )⟩
def rd_T51 (xs : List S51) (i : Int) : S51 := xs.getD i.toNat z51
theorem at_T51 {w : World} {A : Option Addr} {n : Nat} {xs : List S51} (h : Kd.C k51 w A n xs) (i : Int) (h0 : 0 ≤ i) (h1 : i < n) : ∃ ad A0 c0, A = some ad ∧ w.cell? (ad.add (i.toNat * 7)) = some (.slice A0 (rd_T51 xs i).f0.length c0) ∧ w.cell? ⟨(ad.add (i.toNat * 7)).block, (ad.add (i.toNat * 7)).off + 1, none⟩ = some (.int .u64 (rd_T51 xs i).f1.f0) ∧ w.cell? ⟨(ad.add (i.toNat * 7)).block, (ad.add (i.toNat * 7)).off + 2, none⟩ = some (.bool (rd_T51 xs i).f1.f1) ∧ w.cell? ⟨(ad.add (i.toNat * 7)).block, (ad.add (i.toNat * 7)).off + 3, none⟩ = some (.int .i64 (rd_T51 xs i).f1.f2.f0) ∧ w.cell? ⟨(ad.add (i.toNat * 7)).block, (ad.add (i.toNat * 7)).off + 4, none⟩ = some (.int .u64 (rd_T51 xs i).f1.f2.f1) ∧ w.cell? ⟨(ad.add (i.toNat * 7)).block, (ad.add (i.toNat * 7)).off + 5, none⟩ = some (.int .i64 (rd_T51 xs i).f1.f3) ∧ w.cell? ⟨(ad.add (i.toNat * 7)).block, (ad.add (i.toNat * 7)).off + 6, none⟩ = some (.int .i64 (rd_T51 xs i).f1.f4) ∧ (rd_T51 xs i).f0.length ≤ c0 ∧ (Kd.int .u8).C w A0 (rd_T51 xs i).f0.length (rd_T51 xs i).f0 := by
  obtain ⟨ad, c, e, _, hK, hc0⟩ := Kd.C_get h z51 i h0 h1
  have hc : ∀ j u, c[j]? = some u → w.cell? (ad.add (i.toNat * 7 + j)) = some u := hc0
  obtain ⟨A0, c0, rfl, l0, g0⟩ := k51_open hK
  exact ⟨ad, A0, c0, e, hc 0 _ rfl, by rw [← add_field _ _ 1 (by omega)]; exact hc 1 _ rfl, by rw [← add_field _ _ 2 (by omega)]; exact hc 2 _ rfl, by rw [← add_field _ _ 3 (by omega)]; exact hc 3 _ rfl, by rw [← add_field _ _ 4 (by omega)]; exact hc 4 _ rfl, by rw [← add_field _ _ 5 (by omega)]; exact hc 5 _ rfl, by rw [← add_field _ _ 6 (by omega)]; exact hc 6 _ rfl, l0, g0⟩
end Go.Proofs.Ytjemmmemenljbaa.PFold
end
section
namespace Go.Proofs.Ytjemmmemenljbaa.Open
open Go.Proofs.YtjemmmemenljbaaW.PrintWords Go.ChangeShapes Go.WideShapes Go.Deep
def Opens {H α : Type} (enc : TypeId × Value → H) (P : Program) (W : World) (t : TypeId) (k : Kd α) (wf : α → Prop) : Prop :=
  ∀ (n : Nat) (cs : List Value) (d : DataW H) (ps : List MemPlace), DataW.trod enc P W 0 (fun _ => true) true n t cs = some (d, ps) → (d.weights P t).all (· ≤ reachBytes) = true → ∃ x, k.K W x cs ∧ wf x
def FieldsOpen {H α : Type} (enc : TypeId × Value → H) (P : Program) (W : World) (fs : List Field) (off : Nat) (k : Kd α) (wf : α → Prop) : Prop :=
  ∀ (n : Nat) (cs : List Value) (xs : List (DataW H × List MemPlace)), xs.length = fs.length → cs.length = k.sz →
    (∀ (i : Nat) (f : Field), fs[i]? = some f → DataW.trod enc P W 0 (fun _ => true) true n f.type ((cs.drop (f.offset - off)).take (P.cellsOf f.type)) = xs[i]?) →
    (DataW.weightsEach P (fs.map (·.type)) (xs.map (·.1))).all (· ≤ reachBytes) = true → ∃ x, k.K W x cs ∧ wf x
section
variable {H : Type} {enc : TypeId × Value → H} {P : Program} {W : World}
theorem Opens.int {t : TypeId} {ik : IntKind} (ht : P.underlying t = some (.int ik)) : Opens enc P W t (Kd.int ik) (fun x => (Lit.int ik x).wf = true) := by
  intro n cs d ps h _
  obtain ⟨x, rfl, _, hw⟩ := DataW.trod_int ht h
  exact ⟨x, rfl, hw⟩
theorem Opens.bool {t : TypeId} (ht : P.underlying t = some .bool) : Opens enc P W t Kd.bool (fun _ => True) := by
  intro n cs d ps h _
  obtain ⟨x, rfl, _⟩ := DataW.trod_bool ht h
  exact ⟨x, rfl, trivial⟩
theorem Opens.string {t : TypeId} (ht : P.underlying t = some .string) : Opens enc P W t Kd.string (fun s => s.size ≤ 140737488351232) := by
  intro n cs d ps h hw
  obtain ⟨s, rfl, hd, _⟩ := DataW.trod_string ht h
  obtain ⟨rfl, _⟩ := Prod.mk.inj hd
  refine ⟨s, rfl, ?_⟩
  simp only [DataW.weights, List.all_cons, List.all_nil, Bool.and_true, decide_eq_true_eq] at hw
  simpa [reachBytes] using hw
theorem all_weightsAll {e : TypeId} {ds : List (DataW H)} (h : (DataW.weightsAll P e ds).all (· ≤ reachBytes) = true) : ∀ d ∈ ds, (d.weights P e).all (· ≤ reachBytes) = true := by
  induction ds with
  | nil => intro d hd; cases hd
  | cons a r ih =>
    simp only [DataW.weightsAll, List.all_append, Bool.and_eq_true] at h
    intro d hd
    rcases List.mem_cons.1 hd with rfl | hd
    · exact h.1
    · exact ih h.2 d hd
theorem Opens.slice {α : Type} {t e B : Nat} {k : Kd α} {wf : α → Prop} (ht : P.underlying t = some (.slice e)) (hc : P.cellsOf e = k.sz) (hB : P.bytesOf e = B) (O : Opens enc P W e k wf) :
    Opens enc P W t (Kd.slice e k) (fun xs => xs.length * B ≤ 140737488351232 ∧ ∀ x ∈ xs, wf x) := by
  intro n cs d ps h hw
  rcases open_slice ht h with ⟨rfl, hx⟩ | ⟨a, len, cap, m, n', D, Pl, rfl, hb, hl, hm, hmm, hx, hel⟩
  · refine ⟨[], ⟨none, 0, rfl, Nat.le_refl _, ⟨rfl, by simp, fun h0 => by simp at h0⟩⟩, by simp, fun x hx => by cases hx⟩
  · obtain ⟨rfl, _⟩ := Prod.mk.inj hx
    simp only [if_true] at hmm
    subst hmm
    simp only [DataW.weights, ht, List.all_cons, List.all_append, Bool.and_eq_true, decide_eq_true_eq, List.length_map, List.length_range] at hw
    obtain ⟨hw0, hw1, hw2⟩ := hw
    have hex : ∀ i, i < len → ∃ x : α, ∃ cs', W.cells? 0 (a.add (i * P.cellsOf e)) (P.cellsOf e) = some cs' ∧ k.K W x cs' ∧ wf x := by
      intro i hi
      obtain ⟨cs', h1, h2⟩ := hel i (by omega)
      obtain ⟨x, hK, hwf⟩ := O n' cs' _ _ h2 (all_weightsAll hw1 (D i) (List.mem_map.2 ⟨i, by simpa using hi, rfl⟩))
      exact ⟨x, cs', h1, hK, hwf⟩
    have key : ∃ xs : List α, xs.length = len ∧ ∀ (i : Nat) (x : α), xs[i]? = some x → ∃ cs', W.cells? 0 (a.add (i * P.cellsOf e)) (P.cellsOf e) = some cs' ∧ k.K W x cs' ∧ wf x := by
      clear hw0 hw1 hw2 hel hl hm h hx
      induction len with
      | zero => exact ⟨[], rfl, fun i x h => by simp at h⟩
      | succ len ih =>
        obtain ⟨xs, hxl, hxs⟩ := ih (fun i hi => hex i (Nat.lt_succ_of_lt hi))
        obtain ⟨x, hx⟩ := hex len (Nat.lt_succ_self _)
        refine ⟨xs ++ [x], by simp [hxl], fun i y hy => ?_⟩
        rcases Nat.lt_or_ge i xs.length with hi | hi
        · rw [List.getElem?_append_left hi] at hy
          exact hxs i y hy
        · have hi' : i = xs.length := by
            have := (List.getElem?_eq_some_iff.1 hy).1
            rw [List.length_append, List.length_singleton] at this
            omega
          subst hi'
          have : x = y := by simpa using hy
          subst this
          rw [hxl]
          exact hx
    obtain ⟨xs, hxl, hxs⟩ := key
    refine ⟨xs, ⟨some a, m, by rw [hxl], by omega, ⟨rfl, ?_, ?_⟩⟩, ?_, ?_⟩
    · unfold maxLen at hm; omega
    · intro _
      refine ⟨a, rfl, fun j p hj => ?_⟩
      obtain ⟨cs', h1, hK, _⟩ := hxs j p hj
      refine ⟨cs', k.K_len hK, hK, fun i u hu => ?_⟩
      obtain ⟨_, hlen, hcell⟩ := World.cells?_some h1
      have hi : i < cs'.length := (List.getElem?_eq_some_iff.1 hu).1
      have := hcell i (by omega)
      rw [hu] at this
      rw [← this, Deep.add_add, hc]
    · rw [hxl]
      rw [hB] at hw0
      unfold reachBytes at hw0
      exact Nat.le_trans (Nat.mul_le_mul_right _ (by omega)) hw0
    · intro x hx
      obtain ⟨i, hi⟩ := List.getElem?_of_mem hx
      obtain ⟨_, _, _, hwf⟩ := hxs i x hi
      exact hwf
theorem FieldsOpen.one {α : Type} {f : Field} {off : Nat} {k : Kd α} {wf : α → Prop} (O : Opens enc P W f.type k wf) (hc : P.cellsOf f.type = k.sz) (ho : f.offset = off) : FieldsOpen enc P W [f] off k wf := by
  intro n cs xs hx hcs hf hw
  match xs, hx with
  | [(d, p)], _ =>
    have h := hf 0 f rfl
    rw [ho, Nat.sub_self, List.drop_zero, hc, ← hcs, List.take_length] at h
    refine O n cs d p h ?_
    simpa [DataW.weightsEach] using hw
theorem FieldsOpen.cons {α β : Type} {f : Field} {fs : List Field} {off : Nat} {k : Kd α} {ks : Kd β} {wf : α → Prop} {wfs : β → Prop} (O : Opens enc P W f.type k wf) (hc : P.cellsOf f.type = k.sz) (ho : f.offset = off)
    (hge : ∀ g ∈ fs, off + k.sz ≤ g.offset) (R : FieldsOpen enc P W fs (off + k.sz) ks wfs) : FieldsOpen enc P W (f :: fs) off (Kd.pair k ks) (fun x => wf x.1 ∧ wfs x.2) := by
  intro n cs xs hx hcs hf hw
  match xs, hx with
  | (d, p) :: xs, hx =>
    have hcs' : cs.length = k.sz + ks.sz := hcs
    have h := hf 0 f rfl
    rw [ho, Nat.sub_self, List.drop_zero, hc] at h
    simp only [List.map_cons, DataW.weightsEach, List.all_append, Bool.and_eq_true] at hw
    obtain ⟨x, hK, hwf⟩ := O n (cs.take k.sz) d p h hw.1
    obtain ⟨y, hKs, hwfs⟩ := R n (cs.drop k.sz) xs (by simpa using hx) (by rw [List.length_drop]; omega) (fun i g hg => by
      have := hf (i + 1) g (by simpa using hg)
      have hm := hge g (List.mem_of_getElem? hg)
      rw [List.drop_drop, show k.sz + (g.offset - (off + k.sz)) = g.offset - off from by omega]
      simpa using this) hw.2
    exact ⟨(x, y), ⟨cs.take k.sz, cs.drop k.sz, (List.take_append_drop _ _).symm, hK, hKs⟩, hwf, hwfs⟩
theorem Opens.struct {α β : Type} {t : TypeId} {fs : Array Field} {k : Kd α} {wf : α → Prop} {wf' : β → Prop} (f : β → α) (g : α → β) (hfg : ∀ y, f (g y) = y) (hwf : ∀ y, wf y → wf' (g y)) (ht : P.underlying t = some (.struct fs)) (hc : P.cellsOf t = k.sz)
    (R : FieldsOpen enc P W fs.toList 0 k wf) : Opens enc P W t (Kd.iso k f) wf' := by
  intro n cs d ps h hw
  obtain ⟨xs, n', _, hx, hcs, hlen, hf⟩ := DataW.trod_struct ht h
  obtain ⟨rfl, _⟩ := Prod.mk.inj hx
  simp only [DataW.weights, ht] at hw
  obtain ⟨y, hK, hy⟩ := R n' cs xs (by simpa using hlen) (hcs.trans hc) (fun i g hg => by simpa using hf i g (by simpa using hg)) hw
  exact ⟨g y, by show k.K W (f (g y)) cs; rw [hfg]; exact hK, hwf y hy⟩
theorem Opens.structT {α : Type} {t : TypeId} {fs : Array Field} {k : Kd α} {wf : α → Prop} (ht : P.underlying t = some (.struct fs)) (hc : P.cellsOf t = k.sz)
    (R : FieldsOpen enc P W fs.toList 0 k wf) : Opens enc P W t k wf := by
  intro n cs d ps h hw
  obtain ⟨xs, n', _, hx, hcs, hlen, hf⟩ := DataW.trod_struct ht h
  obtain ⟨rfl, _⟩ := Prod.mk.inj hx
  simp only [DataW.weights, ht] at hw
  exact R n' cs xs (by simpa using hlen) (hcs.trans hc) (fun i g hg => by simpa using hf i g (by simpa using hg)) hw
theorem Opens.arg {α : Type} {t : TypeId} {k : Kd α} {wf : α → Prop} (O : Opens enc P W t k wf) {v : Value} {d : DataW H} {ps : List MemPlace} {ts : List TypeId} {ds : List (DataW H)} {j : Nat} (h : DataW.Trod enc P W 0 (fun _ => true) true t v d ps)
    (hsz : (DataW.weightsEach P ts ds).all (· ≤ reachBytes) = true) (ht : ts[j]? = some t) (hd : ds[j]? = some d) : ∃ x, k.K W x v.cells.toList ∧ wf x := by
  obtain ⟨n, h⟩ := h
  refine O n _ d ps h (List.all_eq_true.2 fun m hm => ?_)
  exact List.all_eq_true.1 hsz m (DataW.weights_mem_each ht hd m hm)
theorem agg_of {b0 : Nat} {r : Reach} {t : TypeId} {fs : Array Field} {v : Value} {cs : List Value} (hs : P.underlying t = some (.struct fs)) (hv : Value.okWide P W r b0 t v) (h : v.cells.toList = cs) : v = .agg cs.toArray := by
  obtain ⟨c, rfl, _⟩ := okWide_struct hs hv
  simp only [Value.cells] at h
  subst h
  rfl
theorem slice_of {b0 : Nat} {r : Reach} {t e : TypeId} {v u : Value} (hs : P.underlying t = some (.slice e)) (hv : Value.okWide P W r b0 t v) (h : v.cells.toList = [u]) : v = u := by
  obtain ⟨a, len, cap, rfl⟩ := okWide_slice hs hv
  simpa [Value.cells] using h
theorem one_of {b0 : Nat} {r : Reach} {t : TypeId} {v u : Value} (hs : (∃ k, P.underlying t = some (.int k)) ∨ P.underlying t = some .bool ∨ P.underlying t = some .string) (hv : Value.okWide P W r b0 t v) (h : v.cells.toList = [u]) : v = u := by
  rcases hs with ⟨k, hs⟩ | hs | hs
  · obtain ⟨n, rfl⟩ := okWide_int hs hv
    simpa [Value.cells] using h
  · obtain ⟨n, rfl⟩ := okWide_bool hs hv
    simpa [Value.cells] using h
  · obtain ⟨n, rfl⟩ := okWide_string hs hv
    simpa [Value.cells] using h
theorem lt_of_trod {t : TypeId} {v : Value} {d : DataW H} {ps : List MemPlace} (h : DataW.Trod enc P W 0 (fun _ => true) true t v d ps) : ∀ x ∈ ps, x.block < W.heap.size := by
  obtain ⟨m, hm⟩ := h
  exact DataW.trod_lt m _ _ _ hm
end
end Go.Proofs.Ytjemmmemenljbaa.Open
end
section
namespace Go.Proofs.Ytjemmmemenljbaa.PFold
open Go.RowKit Go.Proofs.YtjemmmemenljbaaW.PrintWords Go.Proofs.YtjemmmemenljbaaW.PrintLast Go.Proofs.YtjemmmemenljbaaW.PrintMore
attribute [local go_sem] max2_int min2_int max_two min_two max_three min_three max_four min_four   -- for this text's walks alone
set_option linter.unusedVariables false
set_option linter.unusedSimpArgs false
open Go.Proofs.Ytjemmmemenljbaa.Open
set_option maxRecDepth 100000
def wfS67 (x : S67) : Prop := (Lit.int .i64 x.f0).wf = true ∧ (Lit.int .i64 x.f1).wf = true
theorem open_S67 {H : Type} (enc : TypeId × Value → H) (W : World) : Opens enc Try.prog W 67 k67 wfS67 :=
  Opens.struct (wf := _) (fun x : S67 => (x.f0, x.f1)) (fun y => ⟨y.1, y.2⟩) (fun _ => rfl) (fun y h => ⟨h.1, h.2⟩) Try.underlying67 (by kernel_rfl) (FieldsOpen.cons (Opens.int Try.underlying2) (by kernel_rfl) rfl (by simp [Kd.pair, Kd.slice, Kd.int, Kd.bool, Kd.string, Kd.scalar, Kd.iso]) (FieldsOpen.one (Opens.int Try.underlying2) (by kernel_rfl) rfl))
theorem open_T24 {H : Type} (enc : TypeId × Value → H) (W : World) : Opens enc Try.prog W 24 (Kd.pair (Kd.slice 67 k67) (Kd.int .i64)) (fun x => (fun xs => xs.length * 16 ≤ 140737488351232 ∧ ∀ x ∈ xs, wfS67 x) x.1 ∧ (fun x => (Lit.int .i64 x).wf = true) x.2) :=
  Opens.structT Try.underlying24 (by kernel_rfl) (FieldsOpen.cons (Opens.slice Try.underlying22 (by kernel_rfl) (by kernel_rfl) (open_S67 enc W)) (by kernel_rfl) rfl (by simp [Kd.pair, Kd.slice, Kd.int, Kd.bool, Kd.string, Kd.scalar, Kd.iso, k67]) (FieldsOpen.one (Opens.int Try.underlying2) (by kernel_rfl) rfl))
def wfS39 (x : S39) : Prop := (Lit.int .i64 x.f0).wf = true ∧ (Lit.int .u64 x.f1).wf = true
theorem open_S39 {H : Type} (enc : TypeId × Value → H) (W : World) : Opens enc Try.prog W 39 k39 wfS39 :=
  Opens.struct (wf := _) (fun x : S39 => (x.f0, x.f1)) (fun y => ⟨y.1, y.2⟩) (fun _ => rfl) (fun y h => ⟨h.1, h.2⟩) Try.underlying39 (by kernel_rfl) (FieldsOpen.cons (Opens.int Try.underlying2) (by kernel_rfl) rfl (by simp [Kd.pair, Kd.slice, Kd.int, Kd.bool, Kd.string, Kd.scalar, Kd.iso]) (FieldsOpen.one (Opens.int Try.underlying37) (by kernel_rfl) rfl))
def wfS41 (x : S41) : Prop := (Lit.int .u64 x.f0).wf = true ∧ wfS39 x.f2 ∧ (Lit.int .i64 x.f3).wf = true ∧ (Lit.int .i64 x.f4).wf = true
theorem open_S41 {H : Type} (enc : TypeId × Value → H) (W : World) : Opens enc Try.prog W 41 k41 wfS41 :=
  Opens.struct (wf := _) (fun x : S41 => (x.f0, x.f1, x.f2, x.f3, x.f4)) (fun y => ⟨y.1, y.2.1, y.2.2.1, y.2.2.2.1, y.2.2.2.2⟩) (fun _ => rfl) (fun y h => ⟨h.1, h.2.2.1, h.2.2.2.1, h.2.2.2.2⟩) Try.underlying41 (by kernel_rfl) (FieldsOpen.cons (Opens.int Try.underlying37) (by kernel_rfl) rfl (by simp [Kd.pair, Kd.slice, Kd.int, Kd.bool, Kd.string, Kd.scalar, Kd.iso, k39]) (FieldsOpen.cons (Opens.bool Try.underlying4) (by kernel_rfl) rfl (by simp [Kd.pair, Kd.slice, Kd.int, Kd.bool, Kd.string, Kd.scalar, Kd.iso, k39]) (FieldsOpen.cons (open_S39 enc W) (by kernel_rfl) rfl (by simp [Kd.pair, Kd.slice, Kd.int, Kd.bool, Kd.string, Kd.scalar, Kd.iso, k39]) (FieldsOpen.cons (Opens.int Try.underlying2) (by kernel_rfl) rfl (by simp [Kd.pair, Kd.slice, Kd.int, Kd.bool, Kd.string, Kd.scalar, Kd.iso, k39]) (FieldsOpen.one (Opens.int Try.underlying2) (by kernel_rfl) rfl)))))
def wfS51 (x : S51) : Prop := (x.f0.length * 1 ≤ 140737488351232 ∧ ∀ z4 ∈ x.f0, (Lit.int .u8 z4).wf = true) ∧ wfS41 x.f1
theorem open_S51 {H : Type} (enc : TypeId × Value → H) (W : World) : Opens enc Try.prog W 51 k51 wfS51 :=
  Opens.struct (wf := _) (fun x : S51 => (x.f0, x.f1)) (fun y => ⟨y.1, y.2⟩) (fun _ => rfl) (fun y h => ⟨h.1, h.2⟩) Try.underlying51 (by kernel_rfl) (FieldsOpen.cons (Opens.slice Try.underlying49 (by kernel_rfl) (by kernel_rfl) (Opens.int Try.underlying5)) (by kernel_rfl) rfl (by simp [Kd.pair, Kd.slice, Kd.int, Kd.bool, Kd.string, Kd.scalar, Kd.iso, k41, k39]) (FieldsOpen.one (open_S41 enc W) (by kernel_rfl) rfl))
end Go.Proofs.Ytjemmmemenljbaa.PFold
end
section
namespace Go.Proofs.Ytjemmmemenljbaa.PFold
open Go.RowKit Go.Proofs.YtjemmmemenljbaaW.PrintWords Go.Proofs.YtjemmmemenljbaaW.PrintLast Go.Proofs.YtjemmmemenljbaaW.PrintMore
attribute [local go_sem] max2_int min2_int max_two min_two max_three min_three max_four min_four   -- for this text's walks alone
set_option linter.unusedVariables false
set_option linter.unusedSimpArgs false
theorem eqA39 (d : Nat) (w : World) (x0 y0 : Int) (x1 y1 : Int) :
    (Op.equalIn (d + 2) 39 (.agg #[.int .i64 x0, .int .u64 x1]) (.agg #[.int .i64 y0, .int .u64 y1])).run Try.prog w = .ok (x0 == y0 && (x1 == y1)) w := by
  refine eqA_of Try.underlying39 (by kernel_rfl) ?_
  refine eqf_cons (by rfl) (by go_simp; rfl) (by go_simp; rfl) (by go_simp) ?_
  exact eqf_last (by rfl) (by go_simp; rfl) (by go_simp; rfl) (by go_simp)
theorem eqA41 (d : Nat) (w : World) (x0 y0 : Int) (x1 y1 : Bool) (x2 y2 : Int) (x3 y3 : Int) (x4 y4 : Int) (x5 y5 : Int) :
    (Op.equalIn (d + 3) 41 (.agg #[.int .u64 x0, .bool x1, .int .i64 x2, .int .u64 x3, .int .i64 x4, .int .i64 x5]) (.agg #[.int .u64 y0, .bool y1, .int .i64 y2, .int .u64 y3, .int .i64 y4, .int .i64 y5])).run Try.prog w = .ok (x0 == y0 && (x1 == y1 && ((x2 == y2 && (x3 == y3)) && (x4 == y4 && (x5 == y5))))) w := by
  refine eqA_of Try.underlying41 (by kernel_rfl) ?_
  refine eqf_cons (by rfl) (by go_simp; rfl) (by go_simp; rfl) (by go_simp) ?_
  refine eqf_cons (by rfl) (by go_simp; rfl) (by go_simp; rfl) (by go_simp) ?_
  refine eqf_cons (by rfl) (by go_simp) (by go_simp) (eqA39 (d + 0) w _ _ _ _) ?_
  refine eqf_cons (by rfl) (by go_simp; rfl) (by go_simp; rfl) (by go_simp) ?_
  exact eqf_last (by rfl) (by go_simp; rfl) (by go_simp; rfl) (by go_simp)
end Go.Proofs.Ytjemmmemenljbaa.PFold
end
section
namespace Go.Proofs.Ytjemmmemenljbaa.PFold
open Go.RowKit Go.Proofs.YtjemmmemenljbaaW.PrintWords Go.Proofs.YtjemmmemenljbaaW.PrintLast Go.Proofs.YtjemmmemenljbaaW.PrintMore
attribute [local go_sem] max2_int min2_int max_two min_two max_three min_three max_four min_four   -- for this text's walks alone
set_option linter.unusedVariables false
set_option linter.unusedSimpArgs false
attribute [local go_sem high] eqA41
def rickyardref08_Same.l0 : Nat → List (S51) → List (S51) → Int → Option (Bool)
 | 0, _, _, _ => none
 | k + 1, x0, x1, x5 => if x5 < (x0.length : Int) then (if 0 ≤ x5 then (if x5 < (x1.length : Int) then (if (strOfNums ((rd_T51 x0 x5).f0)).toList = (strOfNums ((rd_T51 x1 x5).f0)).toList then (if (!(((rd_T51 x0 x5).f1.f0) == ((rd_T51 x1 x5).f1.f0)) || (!(((rd_T51 x0 x5).f1.f1) == ((rd_T51 x1 x5).f1.f1)) || ((!(((rd_T51 x0 x5).f1.f2.f0) == ((rd_T51 x1 x5).f1.f2.f0)) || (!(((rd_T51 x0 x5).f1.f2.f1) == ((rd_T51 x1 x5).f1.f2.f1)))) || (!(((rd_T51 x0 x5).f1.f3) == ((rd_T51 x1 x5).f1.f3)) || (!(((rd_T51 x0 x5).f1.f4) == ((rd_T51 x1 x5).f1.f4))))))) = true then (some false) else (rickyardref08_Same.l0 k x0 x1 (wrap64 (x5 + 1)))) else (some false)) else (none)) else (none)) else (some true)
def rickyardref08_Same.f (k : Nat) (l0 : List (S51)) (l1 : List (S51)) : Option (Bool) := if (l0.length : Int) = (l1.length : Int) then (rickyardref08_Same.l0 k l0 l1 0) else (some false)
set_option maxHeartbeats 8000000 in
set_option maxRecDepth 100000 in
theorem rickyardref08_Same.calls (k : Nat) (A0 : Option Addr) (c0 : Nat) (l0 : List (S51)) (A1 : Option Addr) (c1 : Nat) (l1 : List (S51)) (r : Bool) (w : World) (hr0 : Kd.C k51 w A0 l0.length l0) (hc0 : l0.length ≤ c0) (hr1 : Kd.C k51 w A1 l1.length l1) (hc1 : l1.length ≤ c1) (h : rickyardref08_Same.f k l0 l1 = some r) :
  Calls Try.prog 14 #[.slice A0 l0.length c0, .slice A1 l1.length c1] w fun e w' => e = .returned (.bool r) ∧ Drawn0 w w' := by
 have hu41 := Try.underlying41
 have HR0 := Aside0.mk hr0
 have HC0 := Aside0.mk hc0
 clear hr0 hc0
 have HR1 := Aside0.mk hr1
 have HC1 := Aside0.mk hc1
 clear hr1 hc1
 have H : (if (l0.length : Int) = (l1.length : Int) then (rickyardref08_Same.l0 k l0 l1 0) else (some false)) = some r := h
 clear h
 by_cases c3 : (l0.length : Int) = (l1.length : Int)
 ·rw [if_pos c3] at H
  have c3b0 : ((l0.length : Int) == (l1.length : Int)) = true := beq_iff_eq.mpr c3
  have c3b1 : ((l0.length : Int) != (l1.length : Int)) = false := bne_eq_false_iff_eq.mpr c3
  have c3b2 : (l0.length == l1.length) = true := by first | simpa using c3 | (simp at c3 ⊢; omega)
  clear c3
  have H' := Aside0.mk H
  clear H
  go_enter Try.func14, Try.ntmps14
  go_wp2
  repeat (go_quiet (fail); try go_wp2)
  go_loopg [5] k (fun kq v5 w' => ∃ (x5_1 : Int), v5 = .int .i64 x5_1 ∧ Aside0 (rickyardref08_Same.l0 kq l0 l1 x5_1 = some r) ∧ Aside0 (kq ≤ k) ∧ Drawn0 w w')
  case atStart => exact ⟨(0), relA, H', ⟨Nat.le_refl _⟩, by repeat (first | exact Drawn0.refl _ | apply Drawn0.step)⟩
  case round =>
   clear H'
   try clear c1
   try clear p2
   try clear c3
   try clear c3b0
   try clear c3b1
   try clear c3b2
   obtain ⟨x5_1, rfl, HA, HK1, ⟨m1, rfl⟩⟩ := hrel
   cases gk with
   | zero => exact absurd HA.out (by simp [rickyardref08_Same.l0])
   | succ k1 =>
    have H := HA.out
    clear HA
    simp only [rickyardref08_Same.l0] at H
    by_cases c4 : x5_1 < (l0.length : Int)
    ·rw [if_pos c4] at H
     have c4b0 : decide (x5_1 < (l0.length : Int)) = true := decide_eq_true c4
     clear c4
     by_cases c5 : 0 ≤ x5_1
     ·rw [if_pos c5] at H
      have c5b0 : decide (0 ≤ x5_1) = true := decide_eq_true c5
      clear c5
      by_cases c6 : x5_1 < (l1.length : Int)
      ·rw [if_pos c6] at H
       have c6b0 : decide (x5_1 < (l1.length : Int)) = true := decide_eq_true c6
       clear c6
       by_cases c7 : (strOfNums ((rd_T51 l0 x5_1).f0)).toList = (strOfNums ((rd_T51 l1 x5_1).f0)).toList
       ·rw [if_pos c7] at H
        have c7b0 : ((strOfNums ((rd_T51 l0 x5_1).f0)).toList == (strOfNums ((rd_T51 l1 x5_1).f0)).toList) = true := beq_iff_eq.mpr c7
        have c7b1 : ((strOfNums ((rd_T51 l0 x5_1).f0)).toList != (strOfNums ((rd_T51 l1 x5_1).f0)).toList) = false := bne_eq_false_iff_eq.mpr c7
        clear c7
        by_cases c8 : (!(((rd_T51 l0 x5_1).f1.f0) == ((rd_T51 l1 x5_1).f1.f0)) || (!(((rd_T51 l0 x5_1).f1.f1) == ((rd_T51 l1 x5_1).f1.f1)) || ((!(((rd_T51 l0 x5_1).f1.f2.f0) == ((rd_T51 l1 x5_1).f1.f2.f0)) || (!(((rd_T51 l0 x5_1).f1.f2.f1) == ((rd_T51 l1 x5_1).f1.f2.f1)))) || (!(((rd_T51 l0 x5_1).f1.f3) == ((rd_T51 l1 x5_1).f1.f3)) || (!(((rd_T51 l0 x5_1).f1.f4) == ((rd_T51 l1 x5_1).f1.f4))))))) = true
        ·rw [if_pos c8] at H
         have c8b0 : (!(((rd_T51 l0 x5_1).f1.f0) == ((rd_T51 l1 x5_1).f1.f0)) || (!(((rd_T51 l0 x5_1).f1.f1) == ((rd_T51 l1 x5_1).f1.f1)) || ((!(((rd_T51 l0 x5_1).f1.f2.f0) == ((rd_T51 l1 x5_1).f1.f2.f0)) || (!(((rd_T51 l0 x5_1).f1.f2.f1) == ((rd_T51 l1 x5_1).f1.f2.f1)))) || (!(((rd_T51 l0 x5_1).f1.f3) == ((rd_T51 l1 x5_1).f1.f3)) || (!(((rd_T51 l0 x5_1).f1.f4) == ((rd_T51 l1 x5_1).f1.f4))))))) = true := c8
         clear c8
         obtain rfl := Option.some.inj H
         have p511 : 0 ≤ (x5_1 : Int) := of_decide_eq_true asmA
         have q511 : x5_1 < (l0.length : Int) := of_decide_eq_true asmA
         obtain ⟨ad511, A511_0, c511_0, e511, hx511_0, hx511_1, hx511_2, hx511_3, hx511_4, hx511_5, hx511_6, hl511_0, hi511_0⟩ := at_T51 HR0.out x5_1 p511 q511
         cases e511
         have HR511_0 := Aside0.mk hi511_0
         have HC511_0 := Aside0.mk hl511_0
         clear hi511_0 hl511_0
         replace p511 := eq_true p511
         replace q511 := eq_true q511
         have hcv9 := Kd.C_string (P := Try.prog) (A := A511_0) (c := c511_0) Try.underlying49 Try.underlying5 Try.underlying9 HR511_0.out
         have hcv10 := fun (n_ : Nat) => Kd.C_string (P := Try.prog) (A := A511_0) (c := c511_0) Try.underlying49 Try.underlying5 Try.underlying9 (Kd.C_drewN HR511_0.out n_)
         have p512 : 0 ≤ (x5_1 : Int) := of_decide_eq_true asmA
         have q512 : x5_1 < (l1.length : Int) := of_decide_eq_true asmA
         obtain ⟨ad512, A512_0, c512_0, e512, hx512_0, hx512_1, hx512_2, hx512_3, hx512_4, hx512_5, hx512_6, hl512_0, hi512_0⟩ := at_T51 HR1.out x5_1 p512 q512
         cases e512
         have HR512_0 := Aside0.mk hi512_0
         have HC512_0 := Aside0.mk hl512_0
         clear hi512_0 hl512_0
         replace p512 := eq_true p512
         replace q512 := eq_true q512
         have hcv11 := Kd.C_string (P := Try.prog) (A := A512_0) (c := c512_0) Try.underlying49 Try.underlying5 Try.underlying9 HR512_0.out
         have hcv12 := fun (n_ : Nat) => Kd.C_string (P := Try.prog) (A := A512_0) (c := c512_0) Try.underlying49 Try.underlying5 Try.underlying9 (Kd.C_drewN HR512_0.out n_)
         have p513 : 0 ≤ (x5_1 : Int) := of_decide_eq_true asmA
         have q513 : x5_1 < (l0.length : Int) := of_decide_eq_true asmA
         obtain ⟨ad513, A513_0, c513_0, e513, hx513_0, hx513_1, hx513_2, hx513_3, hx513_4, hx513_5, hx513_6, hl513_0, hi513_0⟩ := at_T51 HR0.out x5_1 p513 q513
         obtain rfl : ad511 = ad513 := (by injection e513)
         have HR513_0 := Aside0.mk hi513_0
         have HC513_0 := Aside0.mk hl513_0
         clear hi513_0 hl513_0
         replace p513 := eq_true p513
         replace q513 := eq_true q513
         have ea_ := Option.some.inj (hx511_0.symm.trans hx513_0)
         injection ea_ with ea_ en_ ec_
         subst ea_
         subst ec_
         clear en_
         have p514 : 0 ≤ (x5_1 : Int) := of_decide_eq_true asmA
         have q514 : x5_1 < (l1.length : Int) := of_decide_eq_true asmA
         obtain ⟨ad514, A514_0, c514_0, e514, hx514_0, hx514_1, hx514_2, hx514_3, hx514_4, hx514_5, hx514_6, hl514_0, hi514_0⟩ := at_T51 HR1.out x5_1 p514 q514
         obtain rfl : ad512 = ad514 := (by injection e514)
         have HR514_0 := Aside0.mk hi514_0
         have HC514_0 := Aside0.mk hl514_0
         clear hi514_0 hl514_0
         replace p514 := eq_true p514
         replace q514 := eq_true q514
         have ea_ := Option.some.inj (hx512_0.symm.trans hx514_0)
         injection ea_ with ea_ en_ ec_
         subst ea_
         subst ec_
         clear en_
         go_wp2
         repeat (go_quiet (fail); try go_wp2)
         go_ret
         exact ⟨by first | rfl | (simp; done) | (simp [*]; done), by repeat (first | exact Drawn0.refl _ | apply Drawn0.step)⟩
        ·rw [if_neg c8] at H
         have c8b0 : (!(((rd_T51 l0 x5_1).f1.f0) == ((rd_T51 l1 x5_1).f1.f0)) || (!(((rd_T51 l0 x5_1).f1.f1) == ((rd_T51 l1 x5_1).f1.f1)) || ((!(((rd_T51 l0 x5_1).f1.f2.f0) == ((rd_T51 l1 x5_1).f1.f2.f0)) || (!(((rd_T51 l0 x5_1).f1.f2.f1) == ((rd_T51 l1 x5_1).f1.f2.f1)))) || (!(((rd_T51 l0 x5_1).f1.f3) == ((rd_T51 l1 x5_1).f1.f3)) || (!(((rd_T51 l0 x5_1).f1.f4) == ((rd_T51 l1 x5_1).f1.f4))))))) = false := by simpa using c8
         clear c8
         have H' := Aside0.mk H
         clear H
         have p511 : 0 ≤ (x5_1 : Int) := of_decide_eq_true asmA
         have q511 : x5_1 < (l0.length : Int) := of_decide_eq_true asmA
         obtain ⟨ad511, A511_0, c511_0, e511, hx511_0, hx511_1, hx511_2, hx511_3, hx511_4, hx511_5, hx511_6, hl511_0, hi511_0⟩ := at_T51 HR0.out x5_1 p511 q511
         cases e511
         have HR511_0 := Aside0.mk hi511_0
         have HC511_0 := Aside0.mk hl511_0
         clear hi511_0 hl511_0
         replace p511 := eq_true p511
         replace q511 := eq_true q511
         have hcv13 := Kd.C_string (P := Try.prog) (A := A511_0) (c := c511_0) Try.underlying49 Try.underlying5 Try.underlying9 HR511_0.out
         have hcv14 := fun (n_ : Nat) => Kd.C_string (P := Try.prog) (A := A511_0) (c := c511_0) Try.underlying49 Try.underlying5 Try.underlying9 (Kd.C_drewN HR511_0.out n_)
         have p512 : 0 ≤ (x5_1 : Int) := of_decide_eq_true asmA
         have q512 : x5_1 < (l1.length : Int) := of_decide_eq_true asmA
         obtain ⟨ad512, A512_0, c512_0, e512, hx512_0, hx512_1, hx512_2, hx512_3, hx512_4, hx512_5, hx512_6, hl512_0, hi512_0⟩ := at_T51 HR1.out x5_1 p512 q512
         cases e512
         have HR512_0 := Aside0.mk hi512_0
         have HC512_0 := Aside0.mk hl512_0
         clear hi512_0 hl512_0
         replace p512 := eq_true p512
         replace q512 := eq_true q512
         have hcv15 := Kd.C_string (P := Try.prog) (A := A512_0) (c := c512_0) Try.underlying49 Try.underlying5 Try.underlying9 HR512_0.out
         have hcv16 := fun (n_ : Nat) => Kd.C_string (P := Try.prog) (A := A512_0) (c := c512_0) Try.underlying49 Try.underlying5 Try.underlying9 (Kd.C_drewN HR512_0.out n_)
         have p513 : 0 ≤ (x5_1 : Int) := of_decide_eq_true asmA
         have q513 : x5_1 < (l0.length : Int) := of_decide_eq_true asmA
         obtain ⟨ad513, A513_0, c513_0, e513, hx513_0, hx513_1, hx513_2, hx513_3, hx513_4, hx513_5, hx513_6, hl513_0, hi513_0⟩ := at_T51 HR0.out x5_1 p513 q513
         obtain rfl : ad511 = ad513 := (by injection e513)
         have HR513_0 := Aside0.mk hi513_0
         have HC513_0 := Aside0.mk hl513_0
         clear hi513_0 hl513_0
         replace p513 := eq_true p513
         replace q513 := eq_true q513
         have ea_ := Option.some.inj (hx511_0.symm.trans hx513_0)
         injection ea_ with ea_ en_ ec_
         subst ea_
         subst ec_
         clear en_
         have p514 : 0 ≤ (x5_1 : Int) := of_decide_eq_true asmA
         have q514 : x5_1 < (l1.length : Int) := of_decide_eq_true asmA
         obtain ⟨ad514, A514_0, c514_0, e514, hx514_0, hx514_1, hx514_2, hx514_3, hx514_4, hx514_5, hx514_6, hl514_0, hi514_0⟩ := at_T51 HR1.out x5_1 p514 q514
         obtain rfl : ad512 = ad514 := (by injection e514)
         have HR514_0 := Aside0.mk hi514_0
         have HC514_0 := Aside0.mk hl514_0
         clear hi514_0 hl514_0
         replace p514 := eq_true p514
         replace q514 := eq_true q514
         have ea_ := Option.some.inj (hx512_0.symm.trans hx514_0)
         injection ea_ with ea_ en_ ec_
         subst ea_
         subst ec_
         clear en_
         go_wp2
         repeat (go_quiet (fail); try go_wp2)
         go_roundg k1
         case measure => have := HK1.out; omega
         case rel => exact ⟨(wrap64 (x5_1 + 1)), relA, H', ⟨by have := HK1.out; omega⟩, by repeat (first | exact Drawn0.refl _ | apply Drawn0.step)⟩
       ·rw [if_neg c7] at H
        have c7b0 : ((strOfNums ((rd_T51 l0 x5_1).f0)).toList == (strOfNums ((rd_T51 l1 x5_1).f0)).toList) = false := beq_eq_false_iff_ne.mpr c7
        have c7b1 : ((strOfNums ((rd_T51 l0 x5_1).f0)).toList != (strOfNums ((rd_T51 l1 x5_1).f0)).toList) = true := bne_iff_ne.mpr c7
        obtain rfl := Option.some.inj H
        have p511 : 0 ≤ (x5_1 : Int) := of_decide_eq_true asmA
        have q511 : x5_1 < (l0.length : Int) := of_decide_eq_true asmA
        obtain ⟨ad511, A511_0, c511_0, e511, hx511_0, hx511_1, hx511_2, hx511_3, hx511_4, hx511_5, hx511_6, hl511_0, hi511_0⟩ := at_T51 HR0.out x5_1 p511 q511
        cases e511
        have HR511_0 := Aside0.mk hi511_0
        have HC511_0 := Aside0.mk hl511_0
        clear hi511_0 hl511_0
        replace p511 := eq_true p511
        replace q511 := eq_true q511
        have hcv17 := Kd.C_string (P := Try.prog) (A := A511_0) (c := c511_0) Try.underlying49 Try.underlying5 Try.underlying9 HR511_0.out
        have hcv18 := fun (n_ : Nat) => Kd.C_string (P := Try.prog) (A := A511_0) (c := c511_0) Try.underlying49 Try.underlying5 Try.underlying9 (Kd.C_drewN HR511_0.out n_)
        have p512 : 0 ≤ (x5_1 : Int) := of_decide_eq_true asmA
        have q512 : x5_1 < (l1.length : Int) := of_decide_eq_true asmA
        obtain ⟨ad512, A512_0, c512_0, e512, hx512_0, hx512_1, hx512_2, hx512_3, hx512_4, hx512_5, hx512_6, hl512_0, hi512_0⟩ := at_T51 HR1.out x5_1 p512 q512
        cases e512
        have HR512_0 := Aside0.mk hi512_0
        have HC512_0 := Aside0.mk hl512_0
        clear hi512_0 hl512_0
        replace p512 := eq_true p512
        replace q512 := eq_true q512
        have hcv19 := Kd.C_string (P := Try.prog) (A := A512_0) (c := c512_0) Try.underlying49 Try.underlying5 Try.underlying9 HR512_0.out
        have hcv20 := fun (n_ : Nat) => Kd.C_string (P := Try.prog) (A := A512_0) (c := c512_0) Try.underlying49 Try.underlying5 Try.underlying9 (Kd.C_drewN HR512_0.out n_)
        go_wp2
        repeat (go_quiet (fail); try go_wp2)
        go_ret
        exact ⟨by first | rfl | (simp; done) | (simp [*]; done), by repeat (first | exact Drawn0.refl _ | apply Drawn0.step)⟩
      ·rw [if_neg c6] at H
       exact absurd H (by simp)
     ·rw [if_neg c5] at H
      exact absurd H (by simp)
    ·rw [if_neg c4] at H
     have c4b0 : decide (x5_1 < (l0.length : Int)) = false := decide_eq_false c4
     clear c4
     obtain rfl := Option.some.inj H
     go_wp2
     repeat (go_quiet (fail); try go_wp2)
     go_ret
     exact ⟨by first | rfl | (simp; done) | (simp [*]; done), by repeat (first | exact Drawn0.refl _ | apply Drawn0.step)⟩
 ·rw [if_neg c3] at H
  have c3b0 : ((l0.length : Int) == (l1.length : Int)) = false := beq_eq_false_iff_ne.mpr c3
  have c3b1 : ((l0.length : Int) != (l1.length : Int)) = true := bne_iff_ne.mpr c3
  have c3b2 : (l0.length == l1.length) = false := by first | simpa using c3 | (simp at c3 ⊢; omega)
  obtain rfl := Option.some.inj H
  go_enter Try.func14, Try.ntmps14
  go_wp2
  repeat (go_quiet (fail); try go_wp2)
  go_ret
  exact ⟨by first | rfl | (simp; done) | (simp [*]; done), by repeat (first | exact Drawn0.refl _ | apply Drawn0.step)⟩
end Go.Proofs.Ytjemmmemenljbaa.PFold
end
section
namespace Go.Proofs.Ytjemmmemenljbaa.PFold
open Go.RowKit Go.Proofs.YtjemmmemenljbaaW.PrintWords Go.Proofs.YtjemmmemenljbaaW.PrintLast Go.Proofs.YtjemmmemenljbaaW.PrintMore
attribute [local go_sem] max2_int min2_int max_two min_two max_three min_three max_four min_four   -- for this text's walks alone
set_option linter.unusedVariables false
set_option linter.unusedSimpArgs false
def rickyardlaw15_Great.l0 : Nat → List (S51) → Int → Option (Bool)
 | 0, _, _ => none
 | k + 1, x0, x3 => if x3 < (x0.length : Int) then (if 0 ≤ x3 then (if (((rd_T51 x0 x3).f0).length : Int) > 300 then (some true) else (rickyardlaw15_Great.l0 k x0 (wrap64 (x3 + 1)))) else (none)) else (some false)
def rickyardlaw15_Great.f (k : Nat) (l0 : List (S51)) : Option (Bool) := if (l0.length : Int) > 60 then (some true) else (rickyardlaw15_Great.l0 k l0 0)
set_option maxHeartbeats 8000000 in
set_option maxRecDepth 100000 in
theorem rickyardlaw15_Great.calls (k : Nat) (A0 : Option Addr) (c0 : Nat) (l0 : List (S51)) (r : Bool) (w : World) (hr0 : Kd.C k51 w A0 l0.length l0) (hc0 : l0.length ≤ c0) (h : rickyardlaw15_Great.f k l0 = some r) :
  Calls Try.prog 15 #[.slice A0 l0.length c0] w fun e w' => e = .returned (.bool r) ∧ Drawn0 w w' := by
 have HR0 := Aside0.mk hr0
 have HC0 := Aside0.mk hc0
 clear hr0 hc0
 have H : (if (l0.length : Int) > 60 then (some true) else (rickyardlaw15_Great.l0 k l0 0)) = some r := h
 clear h
 by_cases c2 : (l0.length : Int) > 60
 ·rw [if_pos c2] at H
  have c2b0 : decide (60 < (l0.length : Int)) = true := decide_eq_true c2
  have c2b1 : decide (60 < l0.length) = true := decide_eq_true (by omega)
  clear c2
  obtain rfl := Option.some.inj H
  go_enter Try.func15, Try.ntmps15
  go_wp2
  go_ret
  exact ⟨by first | rfl | (simp; done) | (simp [*]; done), by repeat (first | exact Drawn0.refl _ | apply Drawn0.step)⟩
 ·rw [if_neg c2] at H
  have c2b0 : decide (60 < (l0.length : Int)) = false := decide_eq_false c2
  have c2b1 : decide (60 < l0.length) = false := decide_eq_false (by omega)
  clear c2
  have H' := Aside0.mk H
  clear H
  go_enter Try.func15, Try.ntmps15
  go_wp2
  go_loopg [3] k (fun kq v3 w' => ∃ (x3_1 : Int), v3 = .int .i64 x3_1 ∧ Aside0 (rickyardlaw15_Great.l0 kq l0 x3_1 = some r) ∧ Aside0 (kq ≤ k) ∧ Drawn0 w w')
  case atStart => exact ⟨(0), relA, H', ⟨Nat.le_refl _⟩, by repeat (first | exact Drawn0.refl _ | apply Drawn0.step)⟩
  case round =>
   clear H'
   try clear c1
   try clear c2
   try clear c2b0
   try clear c2b1
   try clear p2
   obtain ⟨x3_1, rfl, HA, HK1, ⟨m1, rfl⟩⟩ := hrel
   cases gk with
   | zero => exact absurd HA.out (by simp [rickyardlaw15_Great.l0])
   | succ k1 =>
    have H := HA.out
    clear HA
    simp only [rickyardlaw15_Great.l0] at H
    by_cases c3 : x3_1 < (l0.length : Int)
    ·rw [if_pos c3] at H
     have c3b0 : decide (x3_1 < (l0.length : Int)) = true := decide_eq_true c3
     clear c3
     by_cases c4 : 0 ≤ x3_1
     ·rw [if_pos c4] at H
      have c4b0 : decide (0 ≤ x3_1) = true := decide_eq_true c4
      clear c4
      by_cases c5 : (((rd_T51 l0 x3_1).f0).length : Int) > 300
      ·rw [if_pos c5] at H
       have c5b0 : decide (300 < (((rd_T51 l0 x3_1).f0).length : Int)) = true := decide_eq_true c5
       have c5b1 : decide (300 < ((rd_T51 l0 x3_1).f0).length) = true := decide_eq_true (by omega)
       clear c5
       obtain rfl := Option.some.inj H
       have p528 : 0 ≤ (x3_1 : Int) := of_decide_eq_true asmA
       have q528 : x3_1 < (l0.length : Int) := of_decide_eq_true asmA
       obtain ⟨ad528, A528_0, c528_0, e528, hx528_0, hx528_1, hx528_2, hx528_3, hx528_4, hx528_5, hx528_6, hl528_0, hi528_0⟩ := at_T51 HR0.out x3_1 p528 q528
       cases e528
       have HR528_0 := Aside0.mk hi528_0
       have HC528_0 := Aside0.mk hl528_0
       clear hi528_0 hl528_0
       replace p528 := eq_true p528
       replace q528 := eq_true q528
       go_wp2
       go_ret
       exact ⟨by first | rfl | (simp; done) | (simp [*]; done), by repeat (first | exact Drawn0.refl _ | apply Drawn0.step)⟩
      ·rw [if_neg c5] at H
       have c5b0 : decide (300 < (((rd_T51 l0 x3_1).f0).length : Int)) = false := decide_eq_false c5
       have c5b1 : decide (300 < ((rd_T51 l0 x3_1).f0).length) = false := decide_eq_false (by omega)
       clear c5
       have H' := Aside0.mk H
       clear H
       have p528 : 0 ≤ (x3_1 : Int) := of_decide_eq_true asmA
       have q528 : x3_1 < (l0.length : Int) := of_decide_eq_true asmA
       obtain ⟨ad528, A528_0, c528_0, e528, hx528_0, hx528_1, hx528_2, hx528_3, hx528_4, hx528_5, hx528_6, hl528_0, hi528_0⟩ := at_T51 HR0.out x3_1 p528 q528
       cases e528
       have HR528_0 := Aside0.mk hi528_0
       have HC528_0 := Aside0.mk hl528_0
       clear hi528_0 hl528_0
       replace p528 := eq_true p528
       replace q528 := eq_true q528
       go_wp2
       go_roundg k1
       case measure => have := HK1.out; omega
       case rel => exact ⟨(wrap64 (x3_1 + 1)), relA, H', ⟨by have := HK1.out; omega⟩, by repeat (first | exact Drawn0.refl _ | apply Drawn0.step)⟩
     ·rw [if_neg c4] at H
      exact absurd H (by simp)
    ·rw [if_neg c3] at H
     have c3b0 : decide (x3_1 < (l0.length : Int)) = false := decide_eq_false c3
     clear c3
     obtain rfl := Option.some.inj H
     go_wp2
     go_ret
     exact ⟨by first | rfl | (simp; done) | (simp [*]; done), by repeat (first | exact Drawn0.refl _ | apply Drawn0.step)⟩
end Go.Proofs.Ytjemmmemenljbaa.PFold
end
section
namespace Go.Proofs.Ytjemmmemenljbaa.PFold
open Go.RowKit Go.Proofs.YtjemmmemenljbaaW.PrintWords Go.Proofs.YtjemmmemenljbaaW.PrintLast Go.Proofs.YtjemmmemenljbaaW.PrintMore
attribute [local go_sem] max2_int min2_int max_two min_two max_three min_three max_four min_four   -- for this text's walks alone
set_option linter.unusedVariables false
set_option linter.unusedSimpArgs false
def wide_Of.f (a0 : Int) : Option (Int × Int) := some (a0 / 9223372036854775808, IntKind.u64.wrap (a0))
set_option maxHeartbeats 8000000 in
set_option maxRecDepth 100000 in
theorem wide_Of.calls (a0 : Int) (r1 : Int) (r2 : Int) (w : World) (h : wide_Of.f a0 = some (r1, r2)) :
  Calls Try.prog 46 #[.int .i64 a0] w fun e w' => e = .returned (.agg #[.int .i64 r1, .int .u64 r2]) ∧ Below w.heap.size w w' := by
 have hu39 := Try.underlying39
 have HB := Aside0.mk (Below.refl w.heap.size w)
 have H : (some (a0 / 9223372036854775808, IntKind.u64.wrap (a0))) = some (r1, r2) := h
 clear h
 simp only [Option.some.injEq, Prod.mk.injEq] at H
 obtain ⟨rfl, rfl⟩ := H
 go_enter Try.func46, Try.ntmps46
 go_wp2_with (first | ((with_reducible refine gate_dst (N := 2) rfl ?_); refine box_event ?hg (N := 2) ?hd (cs := #[.int .i64 0, .int .u64 0]) (t := 39) ?hr ?_; (case hd => rfl); (case hg => rfl); (case hr => first | (go_simp; done) | (go_simp; rfl)); intro gb238 hg w2 hbox hb; have n0_ := Aside0.mk (below_step (belA HB.out) hb); have n1_ := Aside0.mk (hbox); have n2_ := Aside0.mk ((by rw [hg]; exact (below_size (belA HB.out)) : w.heap.size ≤ gb238)); have n3_ := Aside0.mk ((by rw [hg]; exact (below_size (belA HB.out)) : w.heap.size ≤ gb238)); clear HB; have HB := n0_; have BK238 := n1_; have GW238 := n2_; have GE238 := n3_; clear n0_ n1_ n2_ n3_; clear hb hbox hg; have hcz3_0 : w2.cell? ⟨gb238, 0, none⟩ = some (.int .i64 0) := (blk_cell BK238.out 0).trans rfl; have hcz3_1 : w2.cell? ⟨gb238, 1, none⟩ = some (.int .u64 0) := (blk_cell BK238.out 1).trans rfl; have hfz3_0 := blk_frozen BK238.out 0; have hfz3_1 := blk_frozen BK238.out 1))
 refine bodyPost_ret (results_cell_row rfl _ _ gb238 39 #[.int .i64 (a0 / 9223372036854775808), .int .u64 (IntKind.u64.wrap (a0))] (0, 0) _ rfl (by (with_reducible repeat (first | refine blk_drewN ?_ _ | refine blk_drew ?_ | refine blk_alloc ?_ _)); refine blk_put (cs := #[.int .i64 (a0 / 9223372036854775808), .int .u64 0]) ?_ 1 _ rfl; (with_reducible repeat (first | refine blk_drewN ?_ _ | refine blk_drew ?_ | refine blk_alloc ?_ _)); refine blk_put (cs := #[.int .i64 0, .int .u64 0]) ?_ 0 _ rfl; (with_reducible repeat (first | refine blk_drewN ?_ _ | refine blk_drew ?_ | refine blk_alloc ?_ _)); exact BK238.out) Try.underlying39 rfl (by kernel_rfl)) rfl ?_
 exact ⟨by first | rfl | (simp [errW_none, errW_some] <;> rfl) | (simp [*, errW_none, errW_some] <;> rfl) | (exfalso; simp_all; done), belB HB.out GE238.out⟩
def agg_One.f (a0 : Int) : Option (Int × Bool × Int × Int × Int × Int) := (wide_Of.f a0).bind fun bt240 => (some (1, false, bt240.1, bt240.2, a0, a0))
set_option maxHeartbeats 8000000 in
set_option maxRecDepth 100000 in
theorem agg_One.calls (a0 : Int) (r1 : Int) (r2 : Bool) (r3 : Int) (r4 : Int) (r5 : Int) (r6 : Int) (w : World) (h : agg_One.f a0 = some (r1, r2, r3, r4, r5, r6)) :
  Calls Try.prog 19 #[.int .i64 a0] w fun e w' => e = .returned (.agg #[.int .u64 r1, .bool r2, .int .i64 r3, .int .u64 r4, .int .i64 r5, .int .i64 r6]) ∧ Below w.heap.size w w' := by
 have hu41 := Try.underlying41
 have HB := Aside0.mk (Below.refl w.heap.size w)
 have H : ((wide_Of.f a0).bind fun bt240 => (some (1, false, bt240.1, bt240.2, a0, a0))) = some (r1, r2, r3, r4, r5, r6) := h
 clear h
 replace H := Option.bind_eq_some_iff.mp H
 obtain ⟨⟨t240, t241⟩, A20, H⟩ := H
 replace H : (some (1, false, t240, t241, a0, a0)) = some (r1, r2, r3, r4, r5, r6) := H
 have A2 := Aside0.mk A20
 clear A20
 simp only [Option.some.injEq, Prod.mk.injEq] at H
 obtain ⟨rfl, rfl, rfl, rfl, rfl, rfl⟩ := H
 go_enter Try.func19, Try.ntmps19
 go_wp2_with (first | ((with_reducible refine gate_dst (N := 2) rfl ?_); refine box_event ?hg (N := 2) ?hd (cs := #[.int .u64 0, .bool false, .int .i64 0, .int .u64 0, .int .i64 0, .int .i64 0]) (t := 41) ?hr ?_; (case hd => rfl); (case hg => rfl); (case hr => first | (go_simp; done) | (go_simp; rfl)); intro gb239 hg w3 hbox hb; have n0_ := Aside0.mk (below_step (belA HB.out) hb); have n1_ := Aside0.mk (hbox); have n2_ := Aside0.mk ((by rw [hg]; exact (below_size (belA HB.out)) : w.heap.size ≤ gb239)); have n3_ := Aside0.mk ((by rw [hg]; exact (below_size (belA HB.out)) : w.heap.size ≤ gb239)); clear HB; have HB := n0_; have BK239 := n1_; have GW239 := n2_; have GE239 := n3_; clear n0_ n1_ n2_ n3_; clear hb hbox hg) | ((with_reducible refine gate_callee (f := 46) rfl ?_); refine goesL_ (some 4) rfl rfl Try.func46 (by kernel_rfl) rfl #[.int .i64 a0] rfl argA ?_; (with_reducible refine (wide_Of.calls a0 t240 t241 _ A2.out).mono ?_); rintro e w4 ⟨rfl, hb⟩; refine ⟨_, rfl, ?_⟩; have n0_ := Aside0.mk (blk_below (g := gb239) (o := .cells #[.int .u64 0, .bool false, .int .i64 0, .int .u64 0, .int .i64 0, .int .i64 0] 41 (0, 0)) (blkA BK239.out) hb); have n1_ := Aside0.mk (below_step (belB HB.out GE239.out) hb); clear BK239; clear HB; have BK239 := n0_; have HB := n1_; clear n0_ n1_; (try clear hb); (try clear hb2); (try clear hk); (try clear hi); have hcz5_0 : w4.cell? ⟨gb239, 0, none⟩ = some (.int .u64 0) := (blk_cell BK239.out 0).trans rfl; have hcz5_1 : w4.cell? ⟨gb239, 1, none⟩ = some (.bool false) := (blk_cell BK239.out 1).trans rfl; have hcz5_2 : w4.cell? ⟨gb239, 2, none⟩ = some (.int .i64 0) := (blk_cell BK239.out 2).trans rfl; have hcz5_3 : w4.cell? ⟨gb239, 3, none⟩ = some (.int .u64 0) := (blk_cell BK239.out 3).trans rfl; have hcz5_4 : w4.cell? ⟨gb239, 4, none⟩ = some (.int .i64 0) := (blk_cell BK239.out 4).trans rfl; have hcz5_5 : w4.cell? ⟨gb239, 5, none⟩ = some (.int .i64 0) := (blk_cell BK239.out 5).trans rfl; have hfz5_0 := blk_frozen BK239.out 0; have hfz5_1 := blk_frozen BK239.out 1; have hfz5_2 := blk_frozen BK239.out 2; have hfz5_3 := blk_frozen BK239.out 3; have hfz5_4 := blk_frozen BK239.out 4; have hfz5_5 := blk_frozen BK239.out 5))
 refine bodyPost_ret (results_cell_row rfl _ _ gb239 41 #[.int .u64 1, .bool false, .int .i64 t240, .int .u64 t241, .int .i64 a0, .int .i64 a0] (0, 0) _ rfl (by (with_reducible repeat (first | refine blk_drewN ?_ _ | refine blk_drew ?_ | refine blk_alloc ?_ _)); refine blk_put (cs := #[.int .u64 1, .bool false, .int .i64 t240, .int .u64 t241, .int .i64 a0, .int .i64 0]) ?_ 5 _ rfl; (with_reducible repeat (first | refine blk_drewN ?_ _ | refine blk_drew ?_ | refine blk_alloc ?_ _)); refine blk_put (cs := #[.int .u64 1, .bool false, .int .i64 t240, .int .u64 t241, .int .i64 0, .int .i64 0]) ?_ 4 _ rfl; (with_reducible repeat (first | refine blk_drewN ?_ _ | refine blk_drew ?_ | refine blk_alloc ?_ _)); refine blk_put (cs := #[.int .u64 1, .bool false, .int .i64 t240, .int .u64 0, .int .i64 0, .int .i64 0]) ?_ 3 _ rfl; (with_reducible repeat (first | refine blk_drewN ?_ _ | refine blk_drew ?_ | refine blk_alloc ?_ _)); refine blk_put (cs := #[.int .u64 1, .bool false, .int .i64 0, .int .u64 0, .int .i64 0, .int .i64 0]) ?_ 2 _ rfl; (with_reducible repeat (first | refine blk_drewN ?_ _ | refine blk_drew ?_ | refine blk_alloc ?_ _)); refine blk_put (cs := #[.int .u64 1, .bool false, .int .i64 0, .int .u64 0, .int .i64 0, .int .i64 0]) ?_ 1 _ rfl; (with_reducible repeat (first | refine blk_drewN ?_ _ | refine blk_drew ?_ | refine blk_alloc ?_ _)); refine blk_put (cs := #[.int .u64 0, .bool false, .int .i64 0, .int .u64 0, .int .i64 0, .int .i64 0]) ?_ 0 _ rfl; (with_reducible repeat (first | refine blk_drewN ?_ _ | refine blk_drew ?_ | refine blk_alloc ?_ _)); exact BK239.out) Try.underlying41 rfl (by kernel_rfl)) rfl ?_
 exact ⟨by first | rfl | (simp [errW_none, errW_some] <;> rfl) | (simp [*, errW_none, errW_some] <;> rfl) | (exfalso; simp_all; done), belB HB.out GE239.out⟩
def rickyardlaw15_Rules.f  : Option ((List (S67)) × Int) := some ((([(⟨1, 0⟩ : S67), (⟨10, 20⟩ : S67)] : List (S67))), 100)
set_option maxHeartbeats 8000000 in
set_option maxRecDepth 100000 in
theorem rickyardlaw15_Rules.calls  (r1 : List (S67)) (r2 : Int) (w : World) (h : rickyardlaw15_Rules.f  = some (r1, r2)) :
  Calls Try.prog 26 #[] w fun e w' => ∃ v0_ : Value, e = .returned (.agg #[v0_, .int .i64 r2]) ∧ Kd.R k67 67 w' w.heap.size (fun _ => True) v0_ r1 ∧ Below w.heap.size w w' := by
 have hu24 := Try.underlying24
 have hu67 := Try.underlying67
 have HB := Aside0.mk (Below.refl w.heap.size w)
 have H : (some ((([(⟨1, 0⟩ : S67), (⟨10, 20⟩ : S67)] : List (S67))), 100)) = some (r1, r2) := h
 clear h
 obtain ⟨y243, hy243⟩ : ∃ y_ : List (S67), y_ = (([(⟨1, 0⟩ : S67), (⟨10, 20⟩ : S67)] : List (S67))) := ⟨_, rfl⟩
 replace H : (some (y243, 100)) = some (r1, r2) := by first | (rw [hy243]; with_reducible exact H) | (have H2_ := (Option.bind_some _ _).symm.trans H; rw [hy243]; with_reducible exact H2_) | (have H2_ := (Option.bind_some _ _).symm.trans H; with_reducible exact H2_) | with_reducible exact H | (rw [hy243]; exact H) | exact H
 have Ny243 := Aside0.mk hy243
 clear hy243
 simp only [Option.some.injEq, Prod.mk.injEq] at H
 obtain ⟨rfl, rfl⟩ := H
 go_enter Try.func26, Try.ntmps26
 go_wp2_with (first | ((with_reducible refine gate_dst (N := 0) rfl ?_); refine box_event ?hg (N := 0) ?hd (cs := #[.slice none 0 0, .int .i64 0]) (t := 24) ?hr ?_; (case hd => rfl); (case hg => rfl); (case hr => first | (go_simp; done) | (go_simp; rfl)); intro gb242 hg w1 hbox hb; have n0_ := Aside0.mk (below_step (belA HB.out) hb); have n1_ := Aside0.mk (hbox); have n2_ := Aside0.mk ((by rw [hg]; exact (below_size (belA HB.out)) : w.heap.size ≤ gb242)); have n3_ := Aside0.mk ((by rw [hg]; exact (below_size (belA HB.out)) : w.heap.size ≤ gb242)); clear HB; have HB := n0_; have BK242 := n1_; have GW242 := n2_; have GE242 := n3_; clear n0_ n1_ n2_ n3_; clear hb hbox hg) | ((with_reducible refine gate_dst (N := 3) rfl ?_); refine Kd.R_lit k67 _ 67 ?hg (N := 3) ?hd (xs := ([(⟨1, 0⟩ : S67), (⟨10, 20⟩ : S67)] : List (S67))) (inner := [.int .i64 1, .int .i64 0, .int .i64 10, .int .i64 20]) (ok := fun _ => True) (okp := fun _ => True) ?hr ?hp (fun _ hk => hk) trivial (Below.refl _ _) (Nat.le_refl _) (by simp) ?_; (case hd => rfl); (case hg => rfl); (case hr => first | (go_simp; done) | (go_simp; rfl)); (case hp => exact (Reps.c2 (show Kd.M k67 _ _ _ (⟨1, 0⟩ : S67) [.int .i64 1, .int .i64 0] from (k67_mkM _ _ _ (⟨1, 0⟩ : S67) )) (Reps.c2 (show Kd.M k67 _ _ _ (⟨10, 20⟩ : S67) [.int .i64 10, .int .i64 20] from (k67_mkM _ _ _ (⟨10, 20⟩ : S67) )) (Reps.none _ _)))); intro v244 w2 ho3 hb hg_ hnew_; clear hg_ hnew_; (first | rw [← Ny243.out] at ho3 | (simp only [Int.reduceToNat] at ho3; rw [← Ny243.out] at ho3)); have n0_ := Aside0.mk (Kd.R_lower ho3 (below_size (belB HB.out GE242.out))); have n1_ := Aside0.mk (blk_below (g := gb242) (o := .cells #[.slice none 0 0, .int .i64 0] 24 (0, 0)) (blkA BK242.out) hb); have n2_ := Aside0.mk (below_step (belB HB.out GE242.out) hb); clear BK242; clear HB; have HO245 := n0_; have BK242 := n1_; have HB := n2_; clear n0_ n1_ n2_; clear hb ho3; obtain ⟨Ao4, co4, eo4⟩ := Kd.R_slice HO245.out; subst eo4; have hcz5_0 : w2.cell? ⟨gb242, 0, none⟩ = some (.slice none 0 0) := (blk_cell BK242.out 0).trans rfl; have hcz5_1 : w2.cell? ⟨gb242, 1, none⟩ = some (.int .i64 0) := (blk_cell BK242.out 1).trans rfl; have hfz5_0 := blk_frozen BK242.out 0; have hfz5_1 := blk_frozen BK242.out 1))
 refine bodyPost_ret (results_cell_row rfl _ _ gb242 24 #[.slice Ao4 y243.length co4, .int .i64 100] (0, 0) _ rfl (by (with_reducible repeat (first | refine blk_drewN ?_ _ | refine blk_drew ?_ | refine blk_alloc ?_ _)); refine blk_put (cs := #[.slice Ao4 y243.length co4, .int .i64 0]) ?_ 1 _ rfl; (with_reducible repeat (first | refine blk_drewN ?_ _ | refine blk_drew ?_ | refine blk_alloc ?_ _)); refine blk_put (cs := #[.slice none 0 0, .int .i64 0]) ?_ 0 _ rfl; (with_reducible repeat (first | refine blk_drewN ?_ _ | refine blk_drew ?_ | refine blk_alloc ?_ _)); exact BK242.out) Try.underlying24 rfl (by kernel_rfl)) rfl ?_
 exact ⟨_, by first | rfl | (simp [errW_none, errW_some] <;> rfl) | (simp [*, errW_none, errW_some] <;> rfl) | (exfalso; simp_all; done), by (with_reducible repeat (first | apply Kd.R_alloc | apply Kd.R_drewN | apply Kd.R_drew)); exact Kd.R_mono (Kd.R_far (p := ⟨gb242, 1, none⟩) (Kd.R_far (p := ⟨gb242, 0, none⟩) (Kd.R_types HO245.out BK242.out (by decide)) (fun _ hk => hk.2) (.slice Ao4 y243.length co4)) (fun _ hk => hk.2) (.int .i64 100)) (fun _ hk => trivial), belB HB.out GE242.out⟩
end Go.Proofs.Ytjemmmemenljbaa.PFold
end
