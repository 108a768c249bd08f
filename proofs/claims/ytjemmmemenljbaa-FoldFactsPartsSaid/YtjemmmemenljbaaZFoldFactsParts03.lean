import Derived.Test.YtjemmmemenljbaaZFoldFactsParts02
import Derived.Test.YtjemmmemenljbaaProg
import Derived.WalkMore
import Derived.Laws.Cover1
import Derived.Deep.Slices
import Derived.ChangeSame
import Derived.ChangeArms
import Derived.SizedLaws
import Derived.WideShapes
import Derived.ChangeOld
import Derived.Lib.Hide
import Derived.Outline
import Derived.Shelf.Abstract
import Derived.Laws.Externs
import Derived.Lib.BytesEntry
section
namespace Go.Proofs.Ytjemmmemenljbaa.PFold
open Go.RowKit Go.Proofs.YtjemmmemenljbaaW.PrintWords Go.Proofs.YtjemmmemenljbaaW.PrintLast Go.Proofs.YtjemmmemenljbaaW.PrintMore
attribute [local go_sem] max2_int min2_int max_two min_two max_three min_three max_four min_four   -- for this text's walks alone
set_option linter.unusedVariables false
set_option linter.unusedSimpArgs false
set_option maxHeartbeats 8000000
set_option maxRecDepth 100000
def errW : Option Int → Value
  | none => .nilIface
  | some c => .iface 0 (.int .i64 c)
theorem errW_none : errW none = .nilIface := rfl
theorem errW_some (c : Int) : errW (some c) = .iface 0 (.int .i64 c) := rfl
theorem info5 : (Try.prog.info? 5).map (fun i => (i.zero, i.size, i.bytes)) = some (some (.int .u8 0), 1, 1) := by kernel_rfl
theorem info9 : (Try.prog.info? 9).map (fun i => (i.zero, i.size, i.bytes)) = some (some (.string ⟨#[]⟩), 1, 16) := by kernel_rfl
theorem info51 : (Try.prog.info? 51).map (fun i => (i.zero, i.size, i.bytes)) = some (some (.agg #[(.slice none 0 0), (.int .u64 0), (.bool false), (.int .i64 0), (.int .u64 0), (.int .i64 0), (.int .i64 0)]), 7, 72) := by kernel_rfl
structure S46 where
  f0 : (List ByteArray)
  f1 : Int
  f2 : Int
def z46 : S46 := ⟨([] : List ByteArray), (0 : Int), (0 : Int)⟩
def k46 : Kd S46 := Kd.iso (Kd.pair (Kd.slice 9 Kd.string) (Kd.pair (Kd.int .i64) (Kd.int .i64))) (fun x : S46 => (x.f0, x.f1, x.f2))
theorem k46_open {w : World} {x : S46} {cs : List Value} (h : k46.K w x cs) : ∃ A0 c0, cs = [.slice A0 x.f0.length c0, .int .i64 x.f1, .int .i64 x.f2] ∧ x.f0.length ≤ c0 ∧ Kd.string.C w A0 x.f0.length x.f0 := by
  obtain ⟨_, _, rfl, ⟨A0, c0, rfl, l0, g0⟩, ⟨_, _, rfl, rfl, rfl⟩⟩ := h
  exact ⟨A0, c0, rfl, l0, g0⟩
theorem k46_mk (w : World) (x : S46) {A0 : Option Addr} {c0 : Nat} (l0 : x.f0.length ≤ c0) (g0 : Kd.string.C w A0 x.f0.length x.f0) : k46.K w x [.slice A0 x.f0.length c0, .int .i64 x.f1, .int .i64 x.f2] := ⟨[.slice A0 x.f0.length c0], [.int .i64 x.f1, .int .i64 x.f2], rfl, ⟨A0, c0, rfl, l0, g0⟩, ⟨[.int .i64 x.f1], [.int .i64 x.f2], rfl, rfl, rfl⟩⟩
def rd_T46 (xs : List S46) (i : Int) : S46 := xs.getD i.toNat z46
theorem at_T46 {w : World} {A : Option Addr} {n : Nat} {xs : List S46} (h : Kd.C k46 w A n xs) (i : Int) (h0 : 0 ≤ i) (h1 : i < n) : ∃ ad A0 c0, A = some ad ∧ w.cell? (ad.add (i.toNat * 3)) = some (.slice A0 (rd_T46 xs i).f0.length c0) ∧ w.cell? ⟨(ad.add (i.toNat * 3)).block, (ad.add (i.toNat * 3)).off + 1, none⟩ = some (.int .i64 (rd_T46 xs i).f1) ∧ w.cell? ⟨(ad.add (i.toNat * 3)).block, (ad.add (i.toNat * 3)).off + 2, none⟩ = some (.int .i64 (rd_T46 xs i).f2) ∧ (rd_T46 xs i).f0.length ≤ c0 ∧ Kd.string.C w A0 (rd_T46 xs i).f0.length (rd_T46 xs i).f0 := by
  obtain ⟨ad, c, e, _, hK, hc0⟩ := Kd.C_get h z46 i h0 h1
  have hc : ∀ j u, c[j]? = some u → w.cell? (ad.add (i.toNat * 3 + j)) = some u := hc0
  obtain ⟨A0, c0, rfl, l0, g0⟩ := k46_open hK
  exact ⟨ad, A0, c0, e, hc 0 _ rfl, by rw [← add_field _ _ 1 (by omega)]; exact hc 1 _ rfl, by rw [← add_field _ _ 2 (by omega)]; exact hc 2 _ rfl, l0, g0⟩
structure S39 where
  f0 : Int
  f1 : Int
def z39 : S39 := ⟨(0 : Int), (0 : Int)⟩
def k39 : Kd S39 := Kd.iso (Kd.pair (Kd.int .i64) (Kd.int .u64)) (fun x : S39 => (x.f0, x.f1))
theorem k39_open {w : World} {x : S39} {cs : List Value} (h : k39.K w x cs) : cs = [.int .i64 x.f0, .int .u64 x.f1] := by
  obtain ⟨_, _, rfl, rfl, rfl⟩ := h
  exact rfl
theorem k39_openM {w : World} {base : Nat} {ok : Nat → Prop} {x : S39} {cs : List Value} (h : k39.M w base ok x cs) : cs = [.int .i64 x.f0, .int .u64 x.f1] := by
  obtain ⟨_, _, rfl, rfl, rfl⟩ := h
  exact rfl
theorem k39_mk (w : World) (x : S39)  : k39.K w x [.int .i64 x.f0, .int .u64 x.f1] := ⟨[.int .i64 x.f0], [.int .u64 x.f1], rfl, rfl, rfl⟩
theorem k39_mkM (w : World) (base : Nat) (ok : Nat → Prop) (x : S39)  : k39.M w base ok x [.int .i64 x.f0, .int .u64 x.f1] := ⟨[.int .i64 x.f0], [.int .u64 x.f1], rfl, rfl, rfl⟩
def rd_T39 (xs : List S39) (i : Int) : S39 := xs.getD i.toNat z39
theorem at_T39 {w : World} {A : Option Addr} {n : Nat} {xs : List S39} (h : Kd.C k39 w A n xs) (i : Int) (h0 : 0 ≤ i) (h1 : i < n) : ∃ ad , A = some ad ∧ w.cell? (ad.add (i.toNat * 2)) = some (.int .i64 (rd_T39 xs i).f0) ∧ w.cell? ⟨(ad.add (i.toNat * 2)).block, (ad.add (i.toNat * 2)).off + 1, none⟩ = some (.int .u64 (rd_T39 xs i).f1) := by
  obtain ⟨ad, c, e, _, hK, hc0⟩ := Kd.C_get h z39 i h0 h1
  have hc : ∀ j u, c[j]? = some u → w.cell? (ad.add (i.toNat * 2 + j)) = some u := hc0
  obtain rfl := k39_open hK
  exact ⟨ad, e, hc 0 _ rfl, by rw [← add_field _ _ 1 (by omega)]; exact hc 1 _ rfl⟩
structure S41 where
  f0 : Int
  f1 : Bool
  f2 : S39
  f3 : Int
  f4 : Int
def z41 : S41 := ⟨(0 : Int), false, z39, (0 : Int), (0 : Int)⟩
def k41 : Kd S41 := Kd.iso (Kd.pair (Kd.int .u64) (Kd.pair Kd.bool (Kd.pair k39 (Kd.pair (Kd.int .i64) (Kd.int .i64))))) (fun x : S41 => (x.f0, x.f1, x.f2, x.f3, x.f4))
theorem k41_open {w : World} {x : S41} {cs : List Value} (h : k41.K w x cs) : cs = [.int .u64 x.f0, .bool x.f1, .int .i64 x.f2.f0, .int .u64 x.f2.f1, .int .i64 x.f3, .int .i64 x.f4] := by
  obtain ⟨_, _, rfl, rfl, ⟨_, _, rfl, rfl, ⟨_, _, rfl, s2, ⟨_, _, rfl, rfl, rfl⟩⟩⟩⟩ := h
  obtain rfl := k39_open s2
  exact rfl
theorem k41_openM {w : World} {base : Nat} {ok : Nat → Prop} {x : S41} {cs : List Value} (h : k41.M w base ok x cs) : cs = [.int .u64 x.f0, .bool x.f1, .int .i64 x.f2.f0, .int .u64 x.f2.f1, .int .i64 x.f3, .int .i64 x.f4] := by
  obtain ⟨_, _, rfl, rfl, ⟨_, _, rfl, rfl, ⟨_, _, rfl, s2, ⟨_, _, rfl, rfl, rfl⟩⟩⟩⟩ := h
  obtain rfl := k39_openM s2
  exact rfl
theorem k41_mkM (w : World) (base : Nat) (ok : Nat → Prop) (x : S41)  : k41.M w base ok x [.int .u64 x.f0, .bool x.f1, .int .i64 x.f2.f0, .int .u64 x.f2.f1, .int .i64 x.f3, .int .i64 x.f4] := ⟨[.int .u64 x.f0], [.bool x.f1, .int .i64 x.f2.f0, .int .u64 x.f2.f1, .int .i64 x.f3, .int .i64 x.f4], rfl, rfl, ⟨[.bool x.f1], [.int .i64 x.f2.f0, .int .u64 x.f2.f1, .int .i64 x.f3, .int .i64 x.f4], rfl, rfl, ⟨[.int .i64 x.f2.f0, .int .u64 x.f2.f1], [.int .i64 x.f3, .int .i64 x.f4], rfl, (k39_mkM w base ok x.f2 ), ⟨[.int .i64 x.f3], [.int .i64 x.f4], rfl, rfl, rfl⟩⟩⟩⟩
structure S51 where
  f0 : (List Int)
  f1 : S41
def z51 : S51 := ⟨([] : List Int), z41⟩
def k51 : Kd S51 := Kd.iso (Kd.pair (Kd.slice 5 (Kd.int .u8)) k41) (fun x : S51 => (x.f0, x.f1))
theorem k51_open {w : World} {x : S51} {cs : List Value} (h : k51.K w x cs) : ∃ A0 c0, cs = [.slice A0 x.f0.length c0, .int .u64 x.f1.f0, .bool x.f1.f1, .int .i64 x.f1.f2.f0, .int .u64 x.f1.f2.f1, .int .i64 x.f1.f3, .int .i64 x.f1.f4] ∧ x.f0.length ≤ c0 ∧ (Kd.int .u8).C w A0 x.f0.length x.f0 := by
  obtain ⟨_, _, rfl, ⟨A0, c0, rfl, l0, g0⟩, s1⟩ := h
  obtain rfl := k41_open s1
  exact ⟨A0, c0, rfl, l0, g0⟩
theorem k51_openM {w : World} {base : Nat} {ok : Nat → Prop} {x : S51} {cs : List Value} (h : k51.M w base ok x cs) : ∃ v0, cs = [v0, .int .u64 x.f1.f0, .bool x.f1.f1, .int .i64 x.f1.f2.f0, .int .u64 x.f1.f2.f1, .int .i64 x.f1.f3, .int .i64 x.f1.f4] ∧ (Kd.int .u8).R 5 w base ok v0 x.f0 := by
  obtain ⟨_, _, rfl, ⟨v0, rfl, g0⟩, s1⟩ := h
  obtain rfl := k41_openM s1
  exact ⟨v0, rfl, g0⟩
theorem k51_mkM (w : World) (base : Nat) (ok : Nat → Prop) (x : S51) {v0 : Value} (g0 : (Kd.int .u8).R 5 w base ok v0 x.f0) : k51.M w base ok x [v0, .int .u64 x.f1.f0, .bool x.f1.f1, .int .i64 x.f1.f2.f0, .int .u64 x.f1.f2.f1, .int .i64 x.f1.f3, .int .i64 x.f1.f4] := ⟨[v0], [.int .u64 x.f1.f0, .bool x.f1.f1, .int .i64 x.f1.f2.f0, .int .u64 x.f1.f2.f1, .int .i64 x.f1.f3, .int .i64 x.f1.f4], rfl, ⟨v0, rfl, g0⟩, (k41_mkM w base ok x.f1 )⟩
def rd_T51 (xs : List S51) (i : Int) : S51 := xs.getD i.toNat z51
theorem at_T51 {w : World} {A : Option Addr} {n : Nat} {xs : List S51} (h : Kd.C k51 w A n xs) (i : Int) (h0 : 0 ≤ i) (h1 : i < n) : ∃ ad A0 c0, A = some ad ∧ w.cell? (ad.add (i.toNat * 7)) = some (.slice A0 (rd_T51 xs i).f0.length c0) ∧ w.cell? ⟨(ad.add (i.toNat * 7)).block, (ad.add (i.toNat * 7)).off + 1, none⟩ = some (.int .u64 (rd_T51 xs i).f1.f0) ∧ w.cell? ⟨(ad.add (i.toNat * 7)).block, (ad.add (i.toNat * 7)).off + 2, none⟩ = some (.bool (rd_T51 xs i).f1.f1) ∧ w.cell? ⟨(ad.add (i.toNat * 7)).block, (ad.add (i.toNat * 7)).off + 3, none⟩ = some (.int .i64 (rd_T51 xs i).f1.f2.f0) ∧ w.cell? ⟨(ad.add (i.toNat * 7)).block, (ad.add (i.toNat * 7)).off + 4, none⟩ = some (.int .u64 (rd_T51 xs i).f1.f2.f1) ∧ w.cell? ⟨(ad.add (i.toNat * 7)).block, (ad.add (i.toNat * 7)).off + 5, none⟩ = some (.int .i64 (rd_T51 xs i).f1.f3) ∧ w.cell? ⟨(ad.add (i.toNat * 7)).block, (ad.add (i.toNat * 7)).off + 6, none⟩ = some (.int .i64 (rd_T51 xs i).f1.f4) ∧ (rd_T51 xs i).f0.length ≤ c0 ∧ (Kd.int .u8).C w A0 (rd_T51 xs i).f0.length (rd_T51 xs i).f0 := by
  obtain ⟨ad, c, e, _, hK, hc0⟩ := Kd.C_get h z51 i h0 h1
  have hc : ∀ j u, c[j]? = some u → w.cell? (ad.add (i.toNat * 7 + j)) = some u := hc0
  obtain ⟨A0, c0, rfl, l0, g0⟩ := k51_open hK
  exact ⟨ad, A0, c0, e, hc 0 _ rfl, by rw [← add_field _ _ 1 (by omega)]; exact hc 1 _ rfl, by rw [← add_field _ _ 2 (by omega)]; exact hc 2 _ rfl, by rw [← add_field _ _ 3 (by omega)]; exact hc 3 _ rfl, by rw [← add_field _ _ 4 (by omega)]; exact hc 4 _ rfl, by rw [← add_field _ _ 5 (by omega)]; exact hc 5 _ rfl, by rw [← add_field _ _ 6 (by omega)]; exact hc 6 _ rfl, l0, g0⟩
structure S67 where
  f0 : Int
  f1 : Int
def z67 : S67 := ⟨(0 : Int), (0 : Int)⟩
def k67 : Kd S67 := Kd.iso (Kd.pair (Kd.int .i64) (Kd.int .i64)) (fun x : S67 => (x.f0, x.f1))
theorem k67_open {w : World} {x : S67} {cs : List Value} (h : k67.K w x cs) : cs = [.int .i64 x.f0, .int .i64 x.f1] := by
  obtain ⟨_, _, rfl, rfl, rfl⟩ := h
  exact rfl
theorem k67_mkM (w : World) (base : Nat) (ok : Nat → Prop) (x : S67)  : k67.M w base ok x [.int .i64 x.f0, .int .i64 x.f1] := ⟨[.int .i64 x.f0], [.int .i64 x.f1], rfl, rfl, rfl⟩
def rd_T67 (xs : List S67) (i : Int) : S67 := xs.getD i.toNat z67
theorem at_T67 {w : World} {A : Option Addr} {n : Nat} {xs : List S67} (h : Kd.C k67 w A n xs) (i : Int) (h0 : 0 ≤ i) (h1 : i < n) : ∃ ad , A = some ad ∧ w.cell? (ad.add (i.toNat * 2)) = some (.int .i64 (rd_T67 xs i).f0) ∧ w.cell? ⟨(ad.add (i.toNat * 2)).block, (ad.add (i.toNat * 2)).off + 1, none⟩ = some (.int .i64 (rd_T67 xs i).f1) := by
  obtain ⟨ad, c, e, _, hK, hc0⟩ := Kd.C_get h z67 i h0 h1
  have hc : ∀ j u, c[j]? = some u → w.cell? (ad.add (i.toNat * 2 + j)) = some u := hc0
  obtain rfl := k67_open hK
  exact ⟨ad, e, hc 0 _ rfl, by rw [← add_field _ _ 1 (by omega)]; exact hc 1 _ rfl⟩
end Go.Proofs.Ytjemmmemenljbaa.PFold
end
section
namespace Go.Proofs.Ytjemmmemenljbaa.Open
open Go.Proofs.YtjemmmemenljbaaW.PrintWords Go.ChangeShapes Go.WideShapes Go.Deep
set_option linter.unusedVariables false
set_option linter.unusedSimpArgs false
set_option maxHeartbeats 8000000
set_option maxRecDepth 100000
def Opens {H α : Type} (enc : TypeId × Value → H) (P : Program) (W : World) (t : TypeId) (k : Kd α) (wf : α → Prop) : Prop :=
  ∀ (n : Nat) (cs : List Value) (d : DataW H) (ps : List MemPlace), DataW.trod enc P W 0 (fun _ => true) true n t cs = some (d, ps) → (d.weights P t).all (· ≤ reachBytes) = true → ∃ x, k.K W x cs ∧ wf x
def FieldsOpen {H α : Type} (enc : TypeId × Value → H) (P : Program) (W : World) (fs : List Field) (off : Nat) (k : Kd α) (wf : α → Prop) : Prop :=
  ∀ (n : Nat) (cs : List Value) (xs : List (DataW H × List MemPlace)), xs.length = fs.length → cs.length = k.sz →
    (∀ (i : Nat) (f : Field), fs[i]? = some f → DataW.trod enc P W 0 (fun _ => true) true n f.type ((cs.drop (f.offset - off)).take (P.cellsOf f.type)) = xs[i]?) →
    (DataW.weightsEach P (fs.map (·.type)) (xs.map (·.1))).all (· ≤ reachBytes) = true → ∃ x, k.K W x cs ∧ wf x
section
variable {H : Type} {enc : TypeId × Value → H} {P : Program} {W : World}
theorem Opens.int {t : TypeId} {ik : IntKind} (ht : P.underlying t = some (.int ik)) : Opens enc P W t (Kd.int ik) (fun x => (Lit.int ik x).wf = true) := by
  intro n cs d ps h _
  obtain ⟨x, rfl, _, hw⟩ := DataW.trod_int ht h
  exact ⟨x, rfl, hw⟩
theorem Opens.bool {t : TypeId} (ht : P.underlying t = some .bool) : Opens enc P W t Kd.bool (fun _ => True) := by
  intro n cs d ps h _
  obtain ⟨x, rfl, _⟩ := DataW.trod_bool ht h
  exact ⟨x, rfl, trivial⟩
theorem Opens.string {t : TypeId} (ht : P.underlying t = some .string) : Opens enc P W t Kd.string (fun s => s.size ≤ 140737488351232) := by
  intro n cs d ps h hw
  obtain ⟨s, rfl, hd, _⟩ := DataW.trod_string ht h
  obtain ⟨rfl, _⟩ := Prod.mk.inj hd
  refine ⟨s, rfl, ?_⟩
  simp only [DataW.weights, List.all_cons, List.all_nil, Bool.and_true, decide_eq_true_eq] at hw
  simpa [reachBytes] using hw
theorem all_weightsAll {e : TypeId} {ds : List (DataW H)} (h : (DataW.weightsAll P e ds).all (· ≤ reachBytes) = true) : ∀ d ∈ ds, (d.weights P e).all (· ≤ reachBytes) = true := by
  induction ds with
  | nil => intro d hd; cases hd
  | cons a r ih =>
    simp only [DataW.weightsAll, List.all_append, Bool.and_eq_true] at h
    intro d hd
    rcases List.mem_cons.1 hd with rfl | hd
    · exact h.1
    · exact ih h.2 d hd
theorem Opens.slice {α : Type} {t e B : Nat} {k : Kd α} {wf : α → Prop} (ht : P.underlying t = some (.slice e)) (hc : P.cellsOf e = k.sz) (hB : P.bytesOf e = B) (O : Opens enc P W e k wf) :
    Opens enc P W t (Kd.slice e k) (fun xs => xs.length * B ≤ 140737488351232 ∧ ∀ x ∈ xs, wf x) := by
  intro n cs d ps h hw
  rcases open_slice ht h with ⟨rfl, hx⟩ | ⟨a, len, cap, m, n', D, Pl, rfl, hb, hl, hm, hmm, hx, hel⟩
  · refine ⟨[], ⟨none, 0, rfl, Nat.le_refl _, ⟨rfl, by simp, fun h0 => by simp at h0⟩⟩, by simp, fun x hx => by cases hx⟩
  · obtain ⟨rfl, _⟩ := Prod.mk.inj hx
    simp only [if_true] at hmm
    subst hmm
    simp only [DataW.weights, ht, List.all_cons, List.all_append, Bool.and_eq_true, decide_eq_true_eq, List.length_map, List.length_range] at hw
    obtain ⟨hw0, hw1, hw2⟩ := hw
    have hex : ∀ i, i < len → ∃ x : α, ∃ cs', W.cells? 0 (a.add (i * P.cellsOf e)) (P.cellsOf e) = some cs' ∧ k.K W x cs' ∧ wf x := by
      intro i hi
      obtain ⟨cs', h1, h2⟩ := hel i (by omega)
      obtain ⟨x, hK, hwf⟩ := O n' cs' _ _ h2 (all_weightsAll hw1 (D i) (List.mem_map.2 ⟨i, by simpa using hi, rfl⟩))
      exact ⟨x, cs', h1, hK, hwf⟩
    have key : ∃ xs : List α, xs.length = len ∧ ∀ (i : Nat) (x : α), xs[i]? = some x → ∃ cs', W.cells? 0 (a.add (i * P.cellsOf e)) (P.cellsOf e) = some cs' ∧ k.K W x cs' ∧ wf x := by
      clear hw0 hw1 hw2 hel hl hm h hx
      induction len with
      | zero => exact ⟨[], rfl, fun i x h => by simp at h⟩
      | succ len ih =>
        obtain ⟨xs, hxl, hxs⟩ := ih (fun i hi => hex i (Nat.lt_succ_of_lt hi))
        obtain ⟨x, hx⟩ := hex len (Nat.lt_succ_self _)
        refine ⟨xs ++ [x], by simp [hxl], fun i y hy => ?_⟩
        rcases Nat.lt_or_ge i xs.length with hi | hi
        · rw [List.getElem?_append_left hi] at hy
          exact hxs i y hy
        · have hi' : i = xs.length := by
            have := (List.getElem?_eq_some_iff.1 hy).1
            rw [List.length_append, List.length_singleton] at this
            omega
          subst hi'
          have : x = y := by simpa using hy
          subst this
          rw [hxl]
          exact hx
    obtain ⟨xs, hxl, hxs⟩ := key
    refine ⟨xs, ⟨some a, m, by rw [hxl], by omega, ⟨rfl, ?_, ?_⟩⟩, ?_, ?_⟩
    · unfold maxLen at hm; omega
    · intro _
      refine ⟨a, rfl, fun j p hj => ?_⟩
      obtain ⟨cs', h1, hK, _⟩ := hxs j p hj
      refine ⟨cs', k.K_len hK, hK, fun i u hu => ?_⟩
      obtain ⟨_, hlen, hcell⟩ := World.cells?_some h1
      have hi : i < cs'.length := (List.getElem?_eq_some_iff.1 hu).1
      have := hcell i (by omega)
      rw [hu] at this
      rw [← this, Deep.add_add, hc]
    · rw [hxl]
      rw [hB] at hw0
      unfold reachBytes at hw0
      exact Nat.le_trans (Nat.mul_le_mul_right _ (by omega)) hw0
    · intro x hx
      obtain ⟨i, hi⟩ := List.getElem?_of_mem hx
      obtain ⟨_, _, _, hwf⟩ := hxs i x hi
      exact hwf
theorem FieldsOpen.one {α : Type} {f : Field} {off : Nat} {k : Kd α} {wf : α → Prop} (O : Opens enc P W f.type k wf) (hc : P.cellsOf f.type = k.sz) (ho : f.offset = off) : FieldsOpen enc P W [f] off k wf := by
  intro n cs xs hx hcs hf hw
  match xs, hx with
  | [(d, p)], _ =>
    have h := hf 0 f rfl
    rw [ho, Nat.sub_self, List.drop_zero, hc, ← hcs, List.take_length] at h
    refine O n cs d p h ?_
    simpa [DataW.weightsEach] using hw
theorem FieldsOpen.cons {α β : Type} {f : Field} {fs : List Field} {off : Nat} {k : Kd α} {ks : Kd β} {wf : α → Prop} {wfs : β → Prop} (O : Opens enc P W f.type k wf) (hc : P.cellsOf f.type = k.sz) (ho : f.offset = off)
    (hge : ∀ g ∈ fs, off + k.sz ≤ g.offset) (R : FieldsOpen enc P W fs (off + k.sz) ks wfs) : FieldsOpen enc P W (f :: fs) off (Kd.pair k ks) (fun x => wf x.1 ∧ wfs x.2) := by
  intro n cs xs hx hcs hf hw
  match xs, hx with
  | (d, p) :: xs, hx =>
    have hcs' : cs.length = k.sz + ks.sz := hcs
    have h := hf 0 f rfl
    rw [ho, Nat.sub_self, List.drop_zero, hc] at h
    simp only [List.map_cons, DataW.weightsEach, List.all_append, Bool.and_eq_true] at hw
    obtain ⟨x, hK, hwf⟩ := O n (cs.take k.sz) d p h hw.1
    obtain ⟨y, hKs, hwfs⟩ := R n (cs.drop k.sz) xs (by simpa using hx) (by rw [List.length_drop]; omega) (fun i g hg => by
      have := hf (i + 1) g (by simpa using hg)
      have hm := hge g (List.mem_of_getElem? hg)
      rw [List.drop_drop, show k.sz + (g.offset - (off + k.sz)) = g.offset - off from by omega]
      simpa using this) hw.2
    exact ⟨(x, y), ⟨cs.take k.sz, cs.drop k.sz, (List.take_append_drop _ _).symm, hK, hKs⟩, hwf, hwfs⟩
theorem Opens.struct {α β : Type} {t : TypeId} {fs : Array Field} {k : Kd α} {wf : α → Prop} {wf' : β → Prop} (f : β → α) (g : α → β) (hfg : ∀ y, f (g y) = y) (hwf : ∀ y, wf y → wf' (g y)) (ht : P.underlying t = some (.struct fs)) (hc : P.cellsOf t = k.sz)
    (R : FieldsOpen enc P W fs.toList 0 k wf) : Opens enc P W t (Kd.iso k f) wf' := by
  intro n cs d ps h hw
  obtain ⟨xs, n', _, hx, hcs, hlen, hf⟩ := DataW.trod_struct ht h
  obtain ⟨rfl, _⟩ := Prod.mk.inj hx
  simp only [DataW.weights, ht] at hw
  obtain ⟨y, hK, hy⟩ := R n' cs xs (by simpa using hlen) (hcs.trans hc) (fun i g hg => by simpa using hf i g (by simpa using hg)) hw
  exact ⟨g y, by show k.K W (f (g y)) cs; rw [hfg]; exact hK, hwf y hy⟩
theorem Opens.structT {α : Type} {t : TypeId} {fs : Array Field} {k : Kd α} {wf : α → Prop} (ht : P.underlying t = some (.struct fs)) (hc : P.cellsOf t = k.sz)
    (R : FieldsOpen enc P W fs.toList 0 k wf) : Opens enc P W t k wf := by
  intro n cs d ps h hw
  obtain ⟨xs, n', _, hx, hcs, hlen, hf⟩ := DataW.trod_struct ht h
  obtain ⟨rfl, _⟩ := Prod.mk.inj hx
  simp only [DataW.weights, ht] at hw
  exact R n' cs xs (by simpa using hlen) (hcs.trans hc) (fun i g hg => by simpa using hf i g (by simpa using hg)) hw
theorem Opens.arg {α : Type} {t : TypeId} {k : Kd α} {wf : α → Prop} (O : Opens enc P W t k wf) {v : Value} {d : DataW H} {ps : List MemPlace} {ts : List TypeId} {ds : List (DataW H)} {j : Nat} (h : DataW.Trod enc P W 0 (fun _ => true) true t v d ps)
    (hsz : (DataW.weightsEach P ts ds).all (· ≤ reachBytes) = true) (ht : ts[j]? = some t) (hd : ds[j]? = some d) : ∃ x, k.K W x v.cells.toList ∧ wf x := by
  obtain ⟨n, h⟩ := h
  refine O n _ d ps h (List.all_eq_true.2 fun m hm => ?_)
  exact List.all_eq_true.1 hsz m (DataW.weights_mem_each ht hd m hm)
theorem agg_of {b0 : Nat} {r : Reach} {t : TypeId} {fs : Array Field} {v : Value} {cs : List Value} (hs : P.underlying t = some (.struct fs)) (hv : Value.okWide P W r b0 t v) (h : v.cells.toList = cs) : v = .agg cs.toArray := by
  obtain ⟨c, rfl, _⟩ := okWide_struct hs hv
  simp only [Value.cells] at h
  subst h
  rfl
theorem slice_of {b0 : Nat} {r : Reach} {t e : TypeId} {v u : Value} (hs : P.underlying t = some (.slice e)) (hv : Value.okWide P W r b0 t v) (h : v.cells.toList = [u]) : v = u := by
  obtain ⟨a, len, cap, rfl⟩ := okWide_slice hs hv
  simpa [Value.cells] using h
theorem one_of {b0 : Nat} {r : Reach} {t : TypeId} {v u : Value} (hs : (∃ k, P.underlying t = some (.int k)) ∨ P.underlying t = some .bool ∨ P.underlying t = some .string) (hv : Value.okWide P W r b0 t v) (h : v.cells.toList = [u]) : v = u := by
  rcases hs with ⟨k, hs⟩ | hs | hs
  · obtain ⟨n, rfl⟩ := okWide_int hs hv
    simpa [Value.cells] using h
  · obtain ⟨n, rfl⟩ := okWide_bool hs hv
    simpa [Value.cells] using h
  · obtain ⟨n, rfl⟩ := okWide_string hs hv
    simpa [Value.cells] using h
theorem lt_of_trod {t : TypeId} {v : Value} {d : DataW H} {ps : List MemPlace} (h : DataW.Trod enc P W 0 (fun _ => true) true t v d ps) : ∀ x ∈ ps, x.block < W.heap.size := by
  obtain ⟨m, hm⟩ := h
  exact DataW.trod_lt m _ _ _ hm
end
end Go.Proofs.Ytjemmmemenljbaa.Open
end
section
namespace Go.Proofs.Ytjemmmemenljbaa.PFold
open Go.RowKit Go.Proofs.YtjemmmemenljbaaW.PrintWords Go.Proofs.YtjemmmemenljbaaW.PrintLast Go.Proofs.YtjemmmemenljbaaW.PrintMore
attribute [local go_sem] max2_int min2_int max_two min_two max_three min_three max_four min_four   -- for this text's walks alone
set_option linter.unusedVariables false
set_option linter.unusedSimpArgs false
open Go.Proofs.Ytjemmmemenljbaa.Open
set_option maxRecDepth 100000
set_option maxHeartbeats 8000000
set_option maxRecDepth 100000
def wfS67 (x : S67) : Prop := (Lit.int .i64 x.f0).wf = true ∧ (Lit.int .i64 x.f1).wf = true
theorem open_S67 {H : Type} (enc : TypeId × Value → H) (W : World) : Opens enc Try.prog W 67 k67 wfS67 :=
  Opens.struct (wf := _) (fun x : S67 => (x.f0, x.f1)) (fun y => ⟨y.1, y.2⟩) (fun _ => rfl) (fun y h => ⟨h.1, h.2⟩) Try.underlying67 (by kernel_rfl) (FieldsOpen.cons (Opens.int Try.underlying2) (by kernel_rfl) rfl (by simp [Kd.pair, Kd.slice, Kd.int, Kd.bool, Kd.string, Kd.scalar, Kd.iso]) (FieldsOpen.one (Opens.int Try.underlying2) (by kernel_rfl) rfl))
theorem open_T24 {H : Type} (enc : TypeId × Value → H) (W : World) : Opens enc Try.prog W 24 (Kd.pair (Kd.slice 67 k67) (Kd.int .i64)) (fun x => (fun xs => xs.length * 16 ≤ 140737488351232 ∧ ∀ x ∈ xs, wfS67 x) x.1 ∧ (fun x => (Lit.int .i64 x).wf = true) x.2) :=
  Opens.structT Try.underlying24 (by kernel_rfl) (FieldsOpen.cons (Opens.slice Try.underlying22 (by kernel_rfl) (by kernel_rfl) (open_S67 enc W)) (by kernel_rfl) rfl (by simp [Kd.pair, Kd.slice, Kd.int, Kd.bool, Kd.string, Kd.scalar, Kd.iso, k67]) (FieldsOpen.one (Opens.int Try.underlying2) (by kernel_rfl) rfl))
def wfS46 (x : S46) : Prop := (x.f0.length * 16 ≤ 140737488351232 ∧ ∀ z4 ∈ x.f0, z4.size ≤ 140737488351232) ∧ (Lit.int .i64 x.f1).wf = true ∧ (Lit.int .i64 x.f2).wf = true
theorem open_S46 {H : Type} (enc : TypeId × Value → H) (W : World) : Opens enc Try.prog W 46 k46 wfS46 :=
  Opens.struct (wf := _) (fun x : S46 => (x.f0, x.f1, x.f2)) (fun y => ⟨y.1, y.2.1, y.2.2⟩) (fun _ => rfl) (fun y h => ⟨h.1, h.2.1, h.2.2⟩) Try.underlying46 (by kernel_rfl) (FieldsOpen.cons (Opens.slice Try.underlying44 (by kernel_rfl) (by kernel_rfl) (Opens.string Try.underlying9)) (by kernel_rfl) rfl (by simp [Kd.pair, Kd.slice, Kd.int, Kd.bool, Kd.string, Kd.scalar, Kd.iso]) (FieldsOpen.cons (Opens.int Try.underlying2) (by kernel_rfl) rfl (by simp [Kd.pair, Kd.slice, Kd.int, Kd.bool, Kd.string, Kd.scalar, Kd.iso]) (FieldsOpen.one (Opens.int Try.underlying2) (by kernel_rfl) rfl)))
end Go.Proofs.Ytjemmmemenljbaa.PFold
end
section
namespace Go.Proofs.Ytjemmmemenljbaa.PFold
open Go.RowKit Go.Proofs.YtjemmmemenljbaaW.PrintWords Go.Proofs.YtjemmmemenljbaaW.PrintLast Go.Proofs.YtjemmmemenljbaaW.PrintMore
attribute [local go_sem] max2_int min2_int max_two min_two max_three min_three max_four min_four   -- for this text's walks alone
set_option linter.unusedVariables false
set_option linter.unusedSimpArgs false
set_option maxHeartbeats 8000000
set_option maxRecDepth 100000
theorem eqA39 (d : Nat) (w : World) (x0 y0 : Int) (x1 y1 : Int) :
    (Op.equalIn (d + 2) 39 (.agg #[.int .i64 x0, .int .u64 x1]) (.agg #[.int .i64 y0, .int .u64 y1])).run Try.prog w = .ok (x0 == y0 && (x1 == y1)) w := by
  refine eqA_of Try.underlying39 (by kernel_rfl) ?_
  refine eqf_cons (by rfl) (by go_simp; rfl) (by go_simp; rfl) (by go_simp) ?_
  exact eqf_last (by rfl) (by go_simp; rfl) (by go_simp; rfl) (by go_simp)
theorem eqA41 (d : Nat) (w : World) (x0 y0 : Int) (x1 y1 : Bool) (x2 y2 : Int) (x3 y3 : Int) (x4 y4 : Int) (x5 y5 : Int) :
    (Op.equalIn (d + 3) 41 (.agg #[.int .u64 x0, .bool x1, .int .i64 x2, .int .u64 x3, .int .i64 x4, .int .i64 x5]) (.agg #[.int .u64 y0, .bool y1, .int .i64 y2, .int .u64 y3, .int .i64 y4, .int .i64 y5])).run Try.prog w = .ok (x0 == y0 && (x1 == y1 && ((x2 == y2 && (x3 == y3)) && (x4 == y4 && (x5 == y5))))) w := by
  refine eqA_of Try.underlying41 (by kernel_rfl) ?_
  refine eqf_cons (by rfl) (by go_simp; rfl) (by go_simp; rfl) (by go_simp) ?_
  refine eqf_cons (by rfl) (by go_simp; rfl) (by go_simp; rfl) (by go_simp) ?_
  refine eqf_cons (by rfl) (by go_simp) (by go_simp) (eqA39 (d + 0) w _ _ _ _) ?_
  refine eqf_cons (by rfl) (by go_simp; rfl) (by go_simp; rfl) (by go_simp) ?_
  exact eqf_last (by rfl) (by go_simp; rfl) (by go_simp; rfl) (by go_simp)
end Go.Proofs.Ytjemmmemenljbaa.PFold
end
section
namespace Go.Proofs.Ytjemmmemenljbaa.PFold
open Go.RowKit Go.Proofs.YtjemmmemenljbaaW.PrintWords Go.Proofs.YtjemmmemenljbaaW.PrintLast Go.Proofs.YtjemmmemenljbaaW.PrintMore
attribute [local go_sem] max2_int min2_int max_two min_two max_three min_three max_four min_four   -- for this text's walks alone
set_option linter.unusedVariables false
set_option linter.unusedSimpArgs false
attribute [local go_sem high] eqA41
set_option maxHeartbeats 8000000
set_option maxRecDepth 100000
def agg_Right.f (a0_0 : Int) (a0_1 : Bool) (a0_2 : Int) (a0_3 : Int) (a0_4 : Int) (a0_5 : Int) : Option (Bool) := if a0_0 = 0 then (some (a0_0 == 0 && (!a0_1 && ((a0_2 == 0 && (a0_3 == 0)) && (a0_4 == 0 && (a0_5 == 0)))))) else (if a0_4 ≤ a0_5 then (if a0_1 = true then (some (a0_0 == 18446744073709551615)) else (some true)) else (some false))
theorem agg_Right.calls (a0_0 : Int) (a0_1 : Bool) (a0_2 : Int) (a0_3 : Int) (a0_4 : Int) (a0_5 : Int) (r : Bool) (w : World) (h : agg_Right.f a0_0 a0_1 a0_2 a0_3 a0_4 a0_5 = some r) :
  Calls Try.prog 79 #[.agg #[.int .u64 a0_0, .bool a0_1, .int .i64 a0_2, .int .u64 a0_3, .int .i64 a0_4, .int .i64 a0_5]] w fun e w' => e = .returned (.bool r) ∧ Below w.heap.size w w' := by
 have hu41 := Try.underlying41
 have HB := Aside0.mk (Below.refl w.heap.size w)
 have H : (if a0_0 = 0 then (some (a0_0 == 0 && (!a0_1 && ((a0_2 == 0 && (a0_3 == 0)) && (a0_4 == 0 && (a0_5 == 0)))))) else (if a0_4 ≤ a0_5 then (if a0_1 = true then (some (a0_0 == 18446744073709551615)) else (some true)) else (some false))) = some r := h
 clear h
 by_cases c2 : a0_0 = 0
 ·rw [if_pos c2] at H
  have c2b0 := beq_iff_eq.mpr c2
  have c2b1 := bne_eq_false_iff_eq.mpr c2
  clear c2
  obtain rfl := Option.some.inj H
  go_enter Try.func79, Try.ntmps79
  go_wp2_with (first | ((with_reducible refine gate_dst (N := 1) rfl ?_); refine boxA 1 #[.int .u64 a0_0, .bool a0_1, .int .i64 a0_2, .int .u64 a0_3, .int .i64 a0_4, .int .i64 a0_5] 41 ?_; intro gb634 hg w3 hbox hb; have BK634 := Aside0.mk (hbox); have GE634 := ge1 hg (belA HB.out); replace HB := bst HB hb; clear hb hbox hg; obtain ⟨hcz4_0, hcz4_1, hcz4_2, hcz4_3, hcz4_4, hcz4_5, hfz4_0, hfz4_1, hfz4_2, hfz4_3, hfz4_4, hfz4_5⟩ := blk6 BK634))
  go_ret
  exact ⟨ret1, belB HB.out GE634.out⟩
 rw [if_neg c2] at H
 have c2b0 := beq_eq_false_iff_ne.mpr c2
 have c2b1 := bne_iff_ne.mpr c2
 by_cases c5 : a0_4 ≤ a0_5
 rotate_left
 ·rw [if_neg c5] at H
  have c5b0 := decide_eq_false c5
  clear c5
  obtain rfl := Option.some.inj H
  go_enter Try.func79, Try.ntmps79
  go_wp2_with (first | ((with_reducible refine gate_dst (N := 1) rfl ?_); refine boxA 1 #[.int .u64 a0_0, .bool a0_1, .int .i64 a0_2, .int .u64 a0_3, .int .i64 a0_4, .int .i64 a0_5] 41 ?_; intro gb634 hg w11 hbox hb; have BK634 := Aside0.mk (hbox); have GE634 := ge1 hg (belA HB.out); replace HB := bst HB hb; clear hb hbox hg; obtain ⟨hcz12_0, hcz12_1, hcz12_2, hcz12_3, hcz12_4, hcz12_5, hfz12_0, hfz12_1, hfz12_2, hfz12_3, hfz12_4, hfz12_5⟩ := blk6 BK634))
  go_ret
  exact ⟨ret1, belB HB.out GE634.out⟩
 rw [if_pos c5] at H
 have c5b0 := decide_eq_true c5
 clear c5
 by_cases c6 : a0_1 = true
 ·subst c6
  have H1 : (some (a0_0 == 18446744073709551615)) = some r := by rw [if_pos rfl] at H; exact H
  clear H
  have H := H1
  clear H1
  obtain rfl := Option.some.inj H
  go_enter Try.func79, Try.ntmps79
  go_wp2_with (first | ((with_reducible refine gate_dst (N := 1) rfl ?_); refine boxA 1 #[.int .u64 a0_0, .bool true, .int .i64 a0_2, .int .u64 a0_3, .int .i64 a0_4, .int .i64 a0_5] 41 ?_; intro gb634 hg w7 hbox hb; have BK634 := Aside0.mk (hbox); have GE634 := ge1 hg (belA HB.out); replace HB := bst HB hb; clear hb hbox hg; obtain ⟨hcz8_0, hcz8_1, hcz8_2, hcz8_3, hcz8_4, hcz8_5, hfz8_0, hfz8_1, hfz8_2, hfz8_3, hfz8_4, hfz8_5⟩ := blk6 BK634))
  go_ret
  exact ⟨ret1, belB HB.out GE634.out⟩
 replace c6 := Bool.eq_false_iff.mpr c6
 subst c6
 have H1 : (some true) = some r := by rw [if_neg (show ¬ (false = true) by decide)] at H; exact H
 clear H
 have H := H1
 clear H1
 obtain rfl := Option.some.inj H
 go_enter Try.func79, Try.ntmps79
 go_wp2_with (first | ((with_reducible refine gate_dst (N := 1) rfl ?_); refine boxA 1 #[.int .u64 a0_0, .bool false, .int .i64 a0_2, .int .u64 a0_3, .int .i64 a0_4, .int .i64 a0_5] 41 ?_; intro gb634 hg w9 hbox hb; have BK634 := Aside0.mk (hbox); have GE634 := ge1 hg (belA HB.out); replace HB := bst HB hb; clear hb hbox hg; obtain ⟨hcz10_0, hcz10_1, hcz10_2, hcz10_3, hcz10_4, hcz10_5, hfz10_0, hfz10_1, hfz10_2, hfz10_3, hfz10_4, hfz10_5⟩ := blk6 BK634))
 go_ret
 exact ⟨ret1, belB HB.out GE634.out⟩
end Go.Proofs.Ytjemmmemenljbaa.PFold
end
section
namespace Go.Proofs.Ytjemmmemenljbaa.PFold
open Go.RowKit Go.Proofs.YtjemmmemenljbaaW.PrintWords Go.Proofs.YtjemmmemenljbaaW.PrintLast Go.Proofs.YtjemmmemenljbaaW.PrintMore
set_option linter.unusedVariables false
set_option linter.unusedSimpArgs false
set_option maxHeartbeats 8000000
set_option maxRecDepth 100000
def anyQ (q : S51 → Option Bool) : List S51 → Option Bool
  | [] => some false
  | x :: r => (q x).bind fun t => if t = true then some true else anyQ q r
def PredEnt (g : Nat) (lb : Array Value) (q : S51 → Option Bool) (w : World) : Prop := ∀ (W : World) (A : Option Addr) (c : Nat) (x : S51) (t : Bool), Below w.heap.size w W → Kd.C (Kd.int .u8) W A x.f0.length x.f0 → x.f0.length ≤ c → q x = some t →
  Calls Try.prog g (#[.agg #[.slice A x.f0.length c, .int .u64 x.f1.f0, .bool x.f1.f1, .int .i64 x.f1.f2.f0, .int .u64 x.f1.f2.f1, .int .i64 x.f1.f3, .int .i64 x.f1.f4]] ++ lb) W fun e w' => e = .returned (.bool t) ∧ Below W.heap.size W w'
def IdxPost (r : Bool) (w : World) (e : Ending) (w' : World) : Prop := ∃ i : Int, e = .returned (.int .i64 i) ∧ decide (i ≥ 0) = r ∧ Below w.heap.size w w'
def IdxERel (w : World) (q : S51 → Option Bool) (l : List S51) (r : Bool) (j : Nat) (wr : World) : Prop := j ≤ l.length ∧ Below w.heap.size w wr ∧ anyQ q (l.drop j) = some r
theorem index_ents (q : S51 → Option Bool) (g : Nat) (lb : Array Value) (eg : ∀ args w, (callFunc g args).run Try.prog w = .ok (.enter g args) w) (A0 : Option Addr) (c0 : Nat) (l0 : List S51) (r : Bool) (w : World) (hr0 : Kd.C k51 w A0 l0.length l0) (hl : l0.length ≤ 140737488355328) (hp : PredEnt g lb q w) (h : anyQ q l0 = some r) :
    Calls Try.prog 78 #[.slice A0 l0.length c0, .func (.func g) #[] lb] w (IdxPost r w) := by
  have HC := Lib.hid hr0; clear hr0
  have HP := Lib.hid hp; clear hp
  have HQ := Lib.hid h; clear h
  go_enter Try.func78, Try.ntmps78
  go_wp2
  go_loopw [5, 8] (fun _ v wr => ∃ j : Nat, v = .int .i64 j ∧ IdxERel w q l0 r j wr) (fun _ v _ => l0.length - (intOf v).toNat)
  case atStart => exact ⟨0, rfl, Nat.zero_le _, Below.refl _ _, HQ.out⟩
  case round =>
    obtain ⟨j, rfl, hj, hB, hq⟩ := hrel
    have HB := Lib.hid hB; have HR := Lib.hid hq; clear hB hq HQ
    by_cases hlt : j < l0.length
    · have e1 : decide ((j : Int) < (l0.length : Int)) = true := decide_eq_true (by omega)
      obtain ⟨ad, A1, c1, ha, hx0, hx1, hx2, hx3, hx4, hx5, hx6, hlc, hin⟩ := at_T51 HC.out (j : Int) (by omega) (by omega)
      subst ha
      have HIN := Lib.hid (Kd.C_below hin HB.out)
      obtain ⟨x, hx⟩ : ∃ x, x = rd_T51 l0 (j : Int) := ⟨_, rfl⟩
      have hxl : x = l0[j] := by
        rw [hx]; unfold rd_T51
        rw [show ((j : Int)).toNat = j from by omega, List.getD_eq_getElem?_getD, List.getElem?_eq_getElem hlt]
        rfl
      rw [← hx] at hx0 hx1 hx2 hx3 hx4 hx5 hx6 hlc HIN
      simp only [Int.toNat_natCast] at hx0 hx1 hx2 hx3 hx4 hx5 hx6
      replace hx0 := (HB.out.cell (World.block_lt_of_cell? w _ hx0)).trans hx0
      replace hx1 := (HB.out.cell (World.block_lt_of_cell? w _ hx1)).trans hx1
      replace hx2 := (HB.out.cell (World.block_lt_of_cell? w _ hx2)).trans hx2
      replace hx3 := (HB.out.cell (World.block_lt_of_cell? w _ hx3)).trans hx3
      replace hx4 := (HB.out.cell (World.block_lt_of_cell? w _ hx4)).trans hx4
      replace hx5 := (HB.out.cell (World.block_lt_of_cell? w _ hx5)).trans hx5
      replace hx6 := (HB.out.cell (World.block_lt_of_cell? w _ hx6)).trans hx6
      have hst : (q x).bind (fun t => if t = true then some true else anyQ q (l0.drop (j + 1))) = some r := by
        have := HR.out
        rw [List.drop_eq_getElem_cons hlt, ← hxl] at this
        exact this
      obtain ⟨t, hqx, hnext⟩ := Option.bind_eq_some_iff.mp hst
      have hcall := Lib.hid (HP.out wr A1 c1 x t HB.out HIN.out hlc hqx)
      clear hx hxl hst hqx hin hlc
      cases t with
      | true =>
        have HN : Hid (r = true) := Lib.hid (by rw [if_pos rfl] at hnext; exact (Option.some.inj hnext).symm)
        clear hnext
        go_wp2_with (go_at_fn g; refine hcall.out.mono ?_; rintro e w' ⟨rfl, hb'⟩; have HB' := Lib.hid hb'; clear hb')
        go_ret
        exact ⟨_, rfl, by rw [HN.out]; exact decide_eq_true (by omega), below_step HB.out HB'.out⟩
      | false =>
        have HN : Hid (anyQ q (l0.drop (j + 1)) = some r) := Lib.hid (by rw [if_neg (by decide)] at hnext; exact hnext)
        clear hnext
        go_wp2_with (go_at_fn g; refine hcall.out.mono ?_; rintro e w' ⟨rfl, hb'⟩; have HB' := Lib.hid hb'; clear hb')
        go_roundw
        case rel => exact ⟨j + 1, by go_num, hlt, below_step HB.out HB'.out, HN.out⟩
        case measure => simp [intOf]; omega
    · have e1 : decide ((j : Int) < (l0.length : Int)) = false := decide_eq_false (by omega)
      have HN : Hid (r = false) := Lib.hid (by have := HR.out; rw [List.drop_eq_nil_of_le (by omega)] at this; exact (Option.some.inj this).symm)
      go_wp2
      go_ret
      exact ⟨_, rfl, by rw [HN.out]; decide, HB.out⟩
theorem contains_ents (q : S51 → Option Bool) (g : Nat) (lb : Array Value) (eg : ∀ args w, (callFunc g args).run Try.prog w = .ok (.enter g args) w) (A0 : Option Addr) (c0 : Nat) (l0 : List S51) (r : Bool) (w : World) (hr0 : Kd.C k51 w A0 l0.length l0) (hl : l0.length ≤ 140737488355328) (hp : PredEnt g lb q w) (h : anyQ q l0 = some r) :
    Calls Try.prog 49 #[.slice A0 l0.length c0, .func (.func g) #[] lb] w fun e w' => e = .returned (.bool r) ∧ Below w.heap.size w w' := by
  have hcall := Lib.hid (index_ents q g lb eg A0 c0 l0 r w hr0 hl hp h)
  clear hr0 hp h
  go_enter Try.func49, Try.ntmps49
  go_wp2_with (go_at_call 78; refine hcall.out.mono ?_; rintro e w' ⟨i, rfl, hir, hb'⟩; have HB' := Lib.hid hb'; have HIR := Lib.hid hir; clear hb' hir)
  go_ret
  refine ⟨?_, HB'.out⟩
  rw [← HIR.out]
  rfl
def cmpB : List Int → List Int → Int
  | [], [] => 0
  | [], _ :: _ => -1
  | _ :: _, [] => 1
  | a :: x, b :: y => if a < b then -1 else if b < a then 1 else cmpB x y
def isB (x : Int) : Bool := decide (0 ≤ x) && decide (x ≤ 255)
theorem isB_iff {x : Int} : isB x = true ↔ 0 ≤ x ∧ x ≤ 255 := by unfold isB; simp
theorem u8_lt {a b : Int} (ha : isB a = true) (hb : isB b = true) : (a.toNat.toUInt8 < b.toNat.toUInt8) ↔ a < b := by
  rw [isB_iff] at ha hb
  rw [UInt8.lt_iff_toNat_lt]
  simp
  omega
theorem compare_eq (x : List Int) : ∀ y : List Int, x.all isB = true → y.all isB = true → Go.Lib.compareBytes (Go.Lib.bytesOf x) (Go.Lib.bytesOf y) = cmpB x y := by
  induction x with
  | nil =>
    intro y _ _
    cases y <;> rfl
  | cons a x ih =>
    intro y hx hy
    cases y with
    | nil => rfl
    | cons b y =>
      rw [List.all_cons, Bool.and_eq_true_iff] at hx hy
      have h1 := u8_lt hx.1 hy.1
      have h2 := u8_lt hy.1 hx.1
      show (if a.toNat.toUInt8 < b.toNat.toUInt8 then (-1 : Int) else if b.toNat.toUInt8 < a.toNat.toUInt8 then 1 else Go.Lib.compareBytes (Go.Lib.bytesOf x) (Go.Lib.bytesOf y)) = if a < b then -1 else if b < a then 1 else cmpB x y
      simp only [h1, h2, ih y hx.2 hy.2]
theorem C_u8 {w : World} {A : Option Addr} {n : Nat} {xs : List Int} (h : Kd.C (Kd.int .u8) w A n xs) (hn : 0 < n) : ∃ ad, A = some ad ∧ ∀ j x, xs[j]? = some x → w.cell? (ad.add j) = some (.int .u8 x) := by
  obtain ⟨ad, e, hc⟩ := h.2.2 hn
  refine ⟨ad, e, fun j x hj => ?_⟩
  obtain ⟨c, _, h2, h3⟩ := hc j x hj
  have h4 : c = [.int .u8 x] := h2
  have := h3 0 (.int .u8 x) (by rw [h4]; rfl)
  simpa [show (Kd.int .u8).sz = 1 from rfl] using this
theorem run_bytes {P : Program} {w : World} {A : Option Addr} {c : Nat} {xs : List Int} (h : Kd.C (Kd.int .u8) w A xs.length xs) : (Extern.Bytes.bytesOf (.slice A xs.length c)).run P w = .ok ⟨(Go.Lib.bytesOf xs).toArray⟩ w := by
  cases A with
  | none =>
    have h0 : xs = [] := by
      rcases Nat.eq_zero_or_pos xs.length with h' | h'
      · exact List.length_eq_zero_iff.1 h'
      · obtain ⟨ad, e, _⟩ := C_u8 h h'
        cases e
    subst h0
    rfl
  | some a =>
    have := Go.Lib.run_loadBytesX (P := P) w xs a .empty (fun j x hj => by
      have hl : j < xs.length := (List.getElem?_eq_some_iff.1 hj).1
      obtain ⟨ad, e, hc⟩ := C_u8 h (by omega)
      cases e
      exact hc j x hj)
    show (Extern.Bytes.loadBytes a xs.length .empty).run P w = _
    rw [this]
    congr 1
    apply ByteArray.ext
    show (#[] : Array UInt8) ++ (Go.Lib.bytesOf xs).toArray = (Go.Lib.bytesOf xs).toArray
    simp
theorem run_compare {P : Program} {w : World} {A A' : Option Addr} {c c' : Nat} {xs ys : List Int} (h : Kd.C (Kd.int .u8) w A xs.length xs) (h' : Kd.C (Kd.int .u8) w A' ys.length ys) (hx : xs.all isB = true) (hy : ys.all isB = true) :
    (Extern.BytealgCompare.compare #[.slice A xs.length c, .slice A' ys.length c']).run P w = .ok (.int .i64 (cmpB xs ys)) w := by
  change Sem.run P (do pure (goInt (Extern.BytealgCompare.cmp (← Extern.Bytes.bytesOf (.slice A xs.length c)) (← Extern.Bytes.bytesOf (.slice A' ys.length c'))))) w = _
  simp only [Sem.run_bind, Sem.run_pure, run_bytes h, run_bytes h', Result.andThen]
  rw [Go.Lib.cmp_eq]
  simp only [compare_eq xs ys hx hy]
  rfl
def bytes_Compare.f (l0 l1 : List Int) : Option Int := if l0.all isB = true ∧ l1.all isB = true then some (cmpB l0 l1) else none
theorem bytes_Compare.calls (A0 : Option Addr) (c0 : Nat) (l0 : List Int) (A1 : Option Addr) (c1 : Nat) (l1 : List Int) (r : Int) (w : World) (hr0 : Kd.C (Kd.int .u8) w A0 l0.length l0) (_ : l0.length ≤ c0) (hr1 : Kd.C (Kd.int .u8) w A1 l1.length l1) (_ : l1.length ≤ c1) (h : bytes_Compare.f l0 l1 = some r) :
    Calls Try.prog 33 #[.slice A0 l0.length c0, .slice A1 l1.length c1] w fun e w' => e = .returned (.int .i64 r) ∧ Drawn0 w w' := by
  unfold bytes_Compare.f at h
  by_cases hb : l0.all isB = true ∧ l1.all isB = true
  case neg => rw [if_neg hb] at h; cases h
  rw [if_pos hb] at h
  have H := Lib.hid (Option.some.inj h)
  have hrun : (callFunc 65 #[.slice A0 l0.length c0, .slice A1 l1.length c1]).run Try.prog w = .ok (.value (.int .i64 (cmpB l0 l1))) w := by
    rw [run_callFunc_extern Try.func65 (by kernel_rfl) (by kernel_rfl) (by kernel_rfl) (e := Extern.BytealgCompare.compare) (by kernel_rfl), run_compare hr0 hr1 hb.1 hb.2]
    rfl
  clear hb h hr0 hr1
  go_enter Try.func33, Try.ntmps33
  go_wp2
  go_ret
  rw [H.out]
  exact ⟨rfl, Drawn0.refl _⟩
end Go.Proofs.Ytjemmmemenljbaa.PFold
end
