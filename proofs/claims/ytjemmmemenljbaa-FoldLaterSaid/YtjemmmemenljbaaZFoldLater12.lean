import Derived.Test.YtjemmmemenljbaaZFoldLater02
import Derived.Test.YtjemmmemenljbaaZFoldLater03
import Derived.Test.YtjemmmemenljbaaZFoldLater04
import Derived.Test.YtjemmmemenljbaaZFoldLater05
import Derived.Test.YtjemmmemenljbaaZFoldLater06
import Derived.Test.YtjemmmemenljbaaZFoldLater07
import Derived.Test.YtjemmmemenljbaaZFoldLater09
import Derived.Test.YtjemmmemenljbaaZFoldLater10
import Derived.Test.YtjemmmemenljbaaZFoldLater11
import Derived.Laws.BitsLemmas
import Init
section
namespace Go.Proofs.Ytjemmmemenljbaa.PFold
open Go.RowKit Go.Proofs.YtjemmmemenljbaaW.PrintWords Go.Proofs.YtjemmmemenljbaaW.PrintLast Go.Proofs.YtjemmmemenljbaaW.PrintMore
theorem kw64 {x : Int} (h0 : -9223372036854775808 ≤ x) (h1 : x ≤ 9223372036854775807) : wrap64 x = x := by unfold wrap64; omega
theorem kw64n (j m : Nat) (h : j + m < 4611686018427387904) : wrap64 ((j : Int) + (m : Int)) = ((j + m : Nat) : Int) := by rw [kw64] <;> omega
theorem kw64o (j : Nat) (h : j < 4611686018427387904) : wrap64 ((j : Int) + 1) = ((j + 1 : Nat) : Int) := by rw [kw64] <;> omega
theorem rd_get {l : List Int} {i : Nat} (h : i < l.length) : rd l (i : Int) = l[i] := by
  unfold rd; simp [List.getD_eq_getElem?_getD, List.getElem?_eq_getElem h]
theorem rd_mid (pre : List Int) (a : Int) (r : List Int) : rd (pre ++ a :: r) (pre.length : Int) = a := by
  rw [rd_get (by simp)]; simp
theorem rd_mid1 (pre : List Int) (a c : Int) (r : List Int) : rd (pre ++ a :: c :: r) ((pre.length + 1 : Nat) : Int) = c := by
  rw [rd_get (by simp)]
  rw [List.getElem_append_right (by omega)]
  simp
theorem strOf_bytesOf (s : ByteArray) : strOfNums (bytesOf s) = s := by
  unfold strOfNums bytesOf
  apply ByteArray.ext
  simp only [List.map_map]
  have : (s.data.toList.map ((fun n : Int => UInt8.ofNat n.toNat) ∘ fun b => (b.toNat : Int))) = s.data.toList := by
    conv => rhs; rw [← List.map_id s.data.toList]
    apply List.map_congr_left
    intro b _
    simp
  rw [this]
theorem bytesOf_isB (s : ByteArray) : (bytesOf s).all isB = true := by
  unfold bytesOf
  simp only [List.all_map, List.all_eq_true, Function.comp_apply]
  intro b _
  have := b.toNat_lt
  unfold isB
  simp only [Bool.and_eq_true, decide_eq_true_eq]
  omega
def textB : List Int → List Int
  | [] => [0, 1]
  | b :: r => if b = 0 then 0 :: 255 :: textB r else b :: textB r
def groupB : List ByteArray → List Int
  | [] => [0]
  | s :: r => 1 :: (textB (bytesOf s) ++ groupB r)
def numU (v : Int) : Int := Go.bits .xor .u64 (IntKind.u64.wrap v) 9223372036854775808
def numB (v : Int) : List Int := [shr .u64 (numU v) 56 % 256, shr .u64 (numU v) 48 % 256, shr .u64 (numU v) 40 % 256, shr .u64 (numU v) 32 % 256, shr .u64 (numU v) 24 % 256, shr .u64 (numU v) 16 % 256, shr .u64 (numU v) 8 % 256, shr .u64 (numU v) 0 % 256]
def wrB (d : List ByteArray) (f g : Int) : List Int := groupB d ++ numB f ++ [g]
theorem textB_len : ∀ b : List Int, (textB b).length ≤ 2 * b.length + 2
  | [] => by simp [textB]
  | b :: r => by
    have := textB_len r
    unfold textB
    split <;> simp <;> omega
theorem textB_pos : ∀ b : List Int, 2 ≤ (textB b).length
  | [] => by simp [textB]
  | b :: r => by
    have := textB_pos r
    unfold textB
    split <;> simp <;> omega
theorem textB_isB : ∀ {b : List Int}, b.all isB = true → (textB b).all isB = true
  | [], _ => by decide
  | b :: r, h => by
    simp only [List.all_cons, Bool.and_eq_true] at h
    have := textB_isB h.2
    unfold textB
    split
    · simp only [List.all_cons, this, Bool.and_true]; decide
    · simp only [List.all_cons, this, h.1, Bool.and_true]
theorem groupB_isB : ∀ d : List ByteArray, (groupB d).all isB = true
  | [] => by decide
  | s :: r => by
    have h1 := groupB_isB r
    have h2 := textB_isB (bytesOf_isB s)
    unfold groupB
    simp only [List.all_cons, List.all_append, h1, h2, Bool.and_true]; decide
theorem mod_isB (x : Int) : isB (x % 256) = true := by
  unfold isB
  simp only [Bool.and_eq_true, decide_eq_true_eq]
  omega
theorem wrB_isB {d : List ByteArray} {f g : Int} (h0 : 0 ≤ g) (h1 : g < 256) : (wrB d f g).all isB = true := by
  unfold wrB numB
  simp only [List.all_append, groupB_isB, List.all_cons, List.all_nil, mod_isB, Bool.and_true, Bool.true_and]
  unfold isB
  simp only [Bool.and_eq_true, decide_eq_true_eq]
  omega
theorem groupB_len {d : List ByteArray} (h : ∀ s ∈ d, s.size ≤ 16) : (groupB d).length ≤ 40 * d.length + 1 := by
  induction d with
  | nil => simp [groupB]
  | cons s r ih =>
    have := ih (fun x hx => h x (List.mem_cons_of_mem _ hx))
    have h1 := textB_len (bytesOf s)
    have h2 := h s List.mem_cons_self
    rw [bytesOf_length] at h1
    unfold groupB
    simp only [List.length_cons, List.length_append]
    omega
theorem dims_iff {d : List ByteArray} : dimsB d = true ↔ d.length ≤ 4 ∧ ∀ s ∈ d, s.size ≤ 16 := by
  unfold dimsB lng
  simp only [Bool.and_eq_true, decide_eq_true_eq, Bool.not_eq_true', List.any_eq_false]
  constructor
  · rintro ⟨h1, h2⟩
    exact ⟨h1, fun s hs => by have := h2 s hs; omega⟩
  · rintro ⟨h1, h2⟩
    exact ⟨h1, fun s hs => by have := h2 s hs; omega⟩
theorem numB_len (v : Int) : (numB v).length = 8 := rfl
theorem wrB_len {d : List ByteArray} {f g : Int} (h : dimsB d = true) : (wrB d f g).length ≤ 300 := by
  obtain ⟨h1, h2⟩ := dims_iff.1 h
  have := groupB_len h2
  unfold wrB
  simp only [List.length_append, numB_len, List.length_singleton]
  omega
theorem text_loop (s : ByteArray) (hs : s.size < 1000000) (d : Nat) : ∀ (i : Nat) (acc : List Int), s.size - i = d → i ≤ s.size → acc.length + 2 * d + 2 < 1000000000 →
    Ev (fun k => code_Text.l0 k s acc (s.size : Int) (i : Int)) (acc ++ textB ((bytesOf s).drop i)) := by
  induction d with
  | zero =>
    intro i acc hd hi hl
    have e : (bytesOf s).drop i = [] := List.drop_eq_nil_of_le (by rw [bytesOf_length]; omega)
    refine Ev.step (fun k => ?_) (Ev.now _)
    simp only [code_Text.l0]
    rw [if_neg (by omega)]
    simp only [Option.bind_some]
    rw [if_pos (by simp; omega), e]; rfl
  | succ d ih =>
    intro i acc hd hi hl
    have hlt : i < (bytesOf s).length := by rw [bytesOf_length]; omega
    have hb : bt s (i : Int) = (bytesOf s)[i] := by rw [← rd_bytesOf, rd_get hlt]
    rw [List.drop_eq_getElem_cons hlt]
    by_cases h0 : (bytesOf s)[i] = 0
    · have e : acc ++ textB ((bytesOf s)[i] :: (bytesOf s).drop (i + 1)) = (acc ++ [0] ++ [255]) ++ textB ((bytesOf s).drop (i + 1)) := by
        rw [h0]; simp [textB]
      rw [e]
      refine Ev.step (fun k => ?_) (ih (i + 1) (acc ++ [0] ++ [255]) (by omega) (by omega) (by simp; omega))
      simp only [code_Text.l0]
      rw [if_pos (by omega), if_pos (by omega), if_pos (by omega), if_pos (by omega)]
      simp only [Option.bind_some, hb, h0]
      rw [if_pos trivial, if_pos (by simp; omega), kw64o i (by omega)]
    · have e : acc ++ textB ((bytesOf s)[i] :: (bytesOf s).drop (i + 1)) = (acc ++ [(bytesOf s)[i]]) ++ textB ((bytesOf s).drop (i + 1)) := by
        simp [textB, h0]
      rw [e]
      refine Ev.step (fun k => ?_) (ih (i + 1) (acc ++ [(bytesOf s)[i]]) (by omega) (by omega) (by simp; omega))
      simp only [code_Text.l0]
      rw [if_pos (by omega), if_pos (by omega), if_pos (by omega), if_pos (by omega)]
      simp only [Option.bind_some, hb]
      rw [if_neg h0, kw64o i (by omega)]
theorem text_tells {s : ByteArray} (hs : s.size < 1000000) : Ev (fun k => code_Text.f k s) (textB (bytesOf s)) := by
  have := text_loop s hs s.size 0 [] (by omega) (by omega) (by simp; omega)
  unfold code_Text.f
  simpa using this
theorem rdOf_get {l : List ByteArray} {i : Nat} (h : i < l.length) : rdOf ByteArray.empty l (i : Int) = l[i] := by
  unfold rdOf; simp [List.getD_eq_getElem?_getD, List.getElem?_eq_getElem h]
theorem group_loop (l : List ByteArray) (hl : l.length ≤ 4) (hs : ∀ s ∈ l, s.size ≤ 16) (d : Nat) : ∀ (i : Nat) (acc : List Int), l.length - i = d → i ≤ l.length → acc.length + 40 * d + 1 < 100000 →
    Ev (fun k => key_group.l0 k acc l (l.length : Int) (i : Int)) (acc ++ groupB (l.drop i)) := by
  induction d with
  | zero =>
    intro i acc hd hi ha
    rw [List.drop_eq_nil_of_le (by omega)]
    refine Ev.step (fun k => ?_) (Ev.now _)
    simp only [key_group.l0]
    rw [if_neg (by omega), if_pos (by omega)]; rfl
  | succ d ih =>
    intro i acc hd hi ha
    have hlt : i < l.length := by omega
    have hz := hs l[i] (List.getElem_mem _)
    have ht := textB_len (bytesOf l[i])
    rw [bytesOf_length] at ht
    rw [List.drop_eq_getElem_cons hlt]
    have e : acc ++ groupB (l[i] :: l.drop (i + 1)) = (acc ++ [1] ++ textB (bytesOf l[i])) ++ groupB (l.drop (i + 1)) := by simp [groupB]
    rw [e]
    refine Ev.step (f := fun k => (code_Text.f k l[i]).bind fun t159 => (if (acc ++ [1]).length + t159.length < 140737488355328 then (key_group.l0 k ((acc ++ [1]) ++ t159) l (l.length : Int) ((i + 1 : Nat) : Int)) else (none))) (fun k => ?_) ?_
    · simp only [key_group.l0]
      rw [if_pos (by omega), if_pos (by omega), if_pos (by omega), if_pos (by omega)]
      simp only [Option.bind_some, rdOf_get hlt, kw64o i (by omega)]
    · refine Ev.bind (text_tells (by omega)) ?_
      refine Ev.congr (fun k => ?_) (ih (i + 1) (acc ++ [1] ++ textB (bytesOf l[i])) (by omega) (by omega) (by simp only [List.length_append, List.length_singleton]; omega))
      rw [if_pos (by simp only [List.length_append, List.length_singleton]; omega)]
theorem group_tells {l : List ByteArray} (h : dimsB l = true) : Ev (fun k => key_group.f k l) (groupB l) := by
  obtain ⟨h1, h2⟩ := dims_iff.1 h
  have := group_loop l h1 h2 l.length 0 [] (by omega) (by omega) (by simp; omega)
  unfold key_group.f
  simpa using this
theorem number_tells (v : Int) : Ev (fun k => code_Number.f k v) (numB v) := by
  refine ⟨10, fun k hk => ?_⟩
  obtain ⟨k, rfl⟩ : ∃ m, k = m + 10 := ⟨k - 10, by omega⟩
  show code_Number.l0 (k + 10) (numU v) [] 56 = _
  have e1 : wrap64 (56 - 8) = 48 := by unfold wrap64; omega
  have e2 : wrap64 (48 - 8) = 40 := by unfold wrap64; omega
  have e3 : wrap64 (40 - 8) = 32 := by unfold wrap64; omega
  have e4 : wrap64 (32 - 8) = 24 := by unfold wrap64; omega
  have e5 : wrap64 (24 - 8) = 16 := by unfold wrap64; omega
  have e6 : wrap64 (16 - 8) = 8 := by unfold wrap64; omega
  have e7 : wrap64 (8 - 8) = 0 := by unfold wrap64; omega
  have e8 : wrap64 (0 - 8) = -8 := by unfold wrap64; omega
  simp only [code_Number.l0, e1, e2, e3, e4, e5, e6, e7, e8]
  simp [numB]
theorem key_right_tells {d : List ByteArray} {f g : Int} : key_Right.f d f g = some (decide (dimsB d = true ∧ (0 ≤ f ∧ f ≤ 1099511627776) ∧ 0 ≤ g ∧ g < 4)) := by
  unfold key_Right.f key_fits.f
  simp only [Option.bind_some]
  by_cases h1 : dimsB d = true
  · by_cases h2 : f ≥ 0
    · by_cases h3 : f ≤ 1099511627776
      · by_cases h4 : g ≥ 0
        · have h2' : 0 ≤ f := h2
          have h4' : 0 ≤ g := h4
          simp [h1, h2', h3, h4']
        · have h4' : ¬ 0 ≤ g := h4
          simp [h1, h2, h3, h4']
      · simp [h1, h2, h3]
    · have h2' : ¬ 0 ≤ f := h2
      simp [h1, h2']
  · simp [h1]
theorem write_tells {d : List ByteArray} {f g : Int} (hd : dimsB d = true) (hf : 0 ≤ f ∧ f ≤ 1099511627776) (hg : 0 ≤ g ∧ g < 4) : Ev (fun k => key_Write.f k d f g) (wrB d f g, 0) := by
  obtain ⟨h1, h2⟩ := dims_iff.1 hd
  have hl := groupB_len h2
  unfold key_Write.f
  simp only [key_right_tells, Option.bind_some]
  rw [decide_eq_true ⟨hd, hf, hg⟩]
  simp only [if_true]
  refine Ev.bind (group_tells hd) (Ev.bind (number_tells f) ?_)
  refine Ev.congr (fun k => ?_) (Ev.now _)
  rw [if_pos (by rw [numB_len]; omega), if_pos (by simp only [List.length_append, numB_len, List.length_singleton]; omega), show g % 256 = g from by omega]
  rfl
theorem read_text_loop (bs : List Int) (rest : List Int) : ∀ (pre acc : List Int), (pre ++ textB bs ++ rest).length < 1000000 → acc.length ≤ pre.length →
    Ev (fun k => code_ReadText.l0 k (pre ++ textB bs ++ rest) acc (pre.length : Int)) (strOfNums (acc ++ bs), ((pre.length + (textB bs).length : Nat) : Int), 0) := by
  induction bs with
  | nil =>
    intro pre acc hl ha
    have e : pre ++ textB [] ++ rest = pre ++ 0 :: 1 :: rest := by simp [textB]
    rw [e] at hl ⊢
    have h1 : rd (pre ++ 0 :: 1 :: rest) ((pre.length : Int)) = 0 := rd_mid _ _ _
    have h2 : rd (pre ++ 0 :: 1 :: rest) ((pre.length + 1 : Nat) : Int) = 1 := rd_mid1 _ _ _ _
    have h3 : (pre ++ 0 :: 1 :: rest).length = pre.length + 2 + rest.length := by simp; omega
    refine Ev.step (fun k => ?_) (Ev.now _)
    simp only [code_ReadText.l0, kw64o pre.length (by omega), h1, h2, h3]
    rw [if_pos (by omega), if_pos (by omega), if_pos trivial, if_neg (by omega), if_pos (by omega), if_pos (by omega), if_pos trivial, kw64o _ (by omega)]
    simp [textB]; omega
  | cons b r ih =>
    intro pre acc hl ha
    by_cases hb : b = 0
    · subst hb
      have e : pre ++ textB (0 :: r) ++ rest = pre ++ 0 :: 255 :: (textB r ++ rest) := by simp [textB]
      have e2 : pre ++ 0 :: 255 :: (textB r ++ rest) = (pre ++ [0, 255]) ++ textB r ++ rest := by simp
      have h1 : rd (pre ++ 0 :: 255 :: (textB r ++ rest)) ((pre.length : Int)) = 0 := rd_mid _ _ _
      have h2 : rd (pre ++ 0 :: 255 :: (textB r ++ rest)) ((pre.length + 1 : Nat) : Int) = 255 := rd_mid1 _ _ _ _
      have h3 : (pre ++ 0 :: 255 :: (textB r ++ rest)).length = pre.length + 2 + (textB r ++ rest).length := by simp; omega
      have := ih (pre ++ [0, 255]) (acc ++ [0]) (by rw [← e2, ← e]; exact hl) (by simp; omega)
      rw [e] at hl ⊢
      rw [← e2] at this
      have e3 : (strOfNums (acc ++ 0 :: r), ((pre.length + (textB (0 :: r)).length : Nat) : Int), (0 : Int)) = (strOfNums ((acc ++ [0]) ++ r), (((pre ++ [0, 255]).length + (textB r).length : Nat) : Int), 0) := by
        simp [textB]; omega
      rw [e3]
      refine Ev.step (fun k => ?_) this
      simp only [code_ReadText.l0, kw64o pre.length (by omega), h1, h2, h3]
      rw [if_pos (by omega), if_pos (by omega), if_pos trivial, if_neg (by omega), if_pos (by omega), if_pos (by omega), if_neg (by decide), if_pos trivial, if_pos (by omega), kw64o _ (by omega)]
      congr 1
      simp; omega
    · have e : pre ++ textB (b :: r) ++ rest = pre ++ b :: (textB r ++ rest) := by simp [textB, hb]
      have e2 : pre ++ b :: (textB r ++ rest) = (pre ++ [b]) ++ textB r ++ rest := by simp
      have h1 : rd (pre ++ b :: (textB r ++ rest)) ((pre.length : Int)) = b := rd_mid _ _ _
      have h3 : (pre ++ b :: (textB r ++ rest)).length = pre.length + 1 + (textB r ++ rest).length := by simp; omega
      have := ih (pre ++ [b]) (acc ++ [b]) (by rw [← e2, ← e]; exact hl) (by simp; omega)
      rw [e] at hl ⊢
      rw [← e2] at this
      have e3 : (strOfNums (acc ++ b :: r), ((pre.length + (textB (b :: r)).length : Nat) : Int), (0 : Int)) = (strOfNums ((acc ++ [b]) ++ r), (((pre ++ [b]).length + (textB r).length : Nat) : Int), 0) := by
        simp [textB, hb]; omega
      rw [e3]
      refine Ev.step (fun k => ?_) this
      simp only [code_ReadText.l0, h1, h3]
      rw [if_pos (by omega), if_pos (by omega), if_neg hb, if_pos (by omega), kw64o _ (by omega)]
      congr 1
      simp
theorem read_text_tells (s : ByteArray) (rest : List Int) (h : (textB (bytesOf s) ++ rest).length < 1000000) : Ev (fun k => code_ReadText.f k (textB (bytesOf s) ++ rest)) (s, ((textB (bytesOf s)).length : Int), 0) := by
  have := read_text_loop (bytesOf s) rest [] [] (by simpa using h) (by simp)
  simp only [List.nil_append, List.length_nil, Nat.zero_add, strOf_bytesOf] at this
  exact this
theorem read_loop (rest : List Int) (ds : List ByteArray) : ∀ (pre : List Int) (acc : List ByteArray) (R : List ByteArray × Int × Int × Int), (pre ++ groupB ds ++ rest).length < 1000000 → acc.length ≤ pre.length →
    Ev (fun k => key_Read.j2 k (pre ++ groupB ds ++ rest) ((pre.length + (groupB ds).length : Nat) : Int) true (acc ++ ds) 0 0) R →
    Ev (fun k => key_Read.l0 k (pre ++ groupB ds ++ rest) (pre.length : Int) true acc 0 0) R := by
  induction ds with
  | nil =>
    intro pre acc R hl ha h
    have e : pre ++ groupB [] ++ rest = pre ++ 0 :: rest := by simp [groupB]
    rw [e] at hl h ⊢
    have h1 : rd (pre ++ 0 :: rest) (pre.length : Int) = 0 := rd_mid _ _ _
    have h3 : (pre ++ 0 :: rest).length = pre.length + 1 + rest.length := by simp; omega
    refine Ev.step (fun k => ?_) (Ev.step (g := fun k => key_Read.j1 k (pre ++ 0 :: rest) (pre.length : Int) true false acc 0 0) (fun k => ?_) h)
    · simp only [key_Read.l0, h1, h3]
      rw [if_neg (by omega), if_pos (by omega), if_pos (by omega)]
      rfl
    · simp only [key_Read.j1, h1, h3]
      rw [if_neg (by decide), if_pos (by omega), if_pos (by omega), if_pos trivial, kw64o _ (by omega)]
      simp [groupB]
  | cons s r ih =>
    intro pre acc R hl ha h
    have e : pre ++ groupB (s :: r) ++ rest = pre ++ 1 :: (textB (bytesOf s) ++ (groupB r ++ rest)) := by simp [groupB]
    have e2 : pre ++ 1 :: (textB (bytesOf s) ++ (groupB r ++ rest)) = (pre ++ 1 :: textB (bytesOf s)) ++ groupB r ++ rest := by simp
    have h1 : rd (pre ++ 1 :: (textB (bytesOf s) ++ (groupB r ++ rest))) (pre.length : Int) = 1 := rd_mid _ _ _
    have h3 : (pre ++ 1 :: (textB (bytesOf s) ++ (groupB r ++ rest))).length = pre.length + 1 + (textB (bytesOf s) ++ (groupB r ++ rest)).length := by simp; omega
    have hd : (pre ++ 1 :: (textB (bytesOf s) ++ (groupB r ++ rest))).drop (pre.length + 1) = textB (bytesOf s) ++ (groupB r ++ rest) := by
      rw [show pre ++ 1 :: (textB (bytesOf s) ++ (groupB r ++ rest)) = (pre ++ [1]) ++ (textB (bytesOf s) ++ (groupB r ++ rest)) from by simp]
      exact List.drop_left' (by simp)
    have h4 := textB_pos (bytesOf s)
    have hih := ih (pre ++ 1 :: textB (bytesOf s)) (acc ++ [s]) R (by rw [← e2, ← e]; exact hl) (by simp; omega) (by
      rw [← e2, ← e]
      have e5 : (((pre ++ 1 :: textB (bytesOf s)).length + (groupB r).length : Nat) : Int) = ((pre.length + (groupB (s :: r)).length : Nat) : Int) := by simp [groupB]; omega
      rw [e5]
      simpa using h)
    rw [← e2] at hih
    rw [e] at hl ⊢
    have h5 : (textB (bytesOf s)).length ≤ (textB (bytesOf s) ++ (groupB r ++ rest)).length := by rw [List.length_append]; omega
    refine Ev.step (fun k => ?_) (Ev.step (g := fun k => key_Read.j1 k (pre ++ 1 :: (textB (bytesOf s) ++ (groupB r ++ rest))) (pre.length : Int) true false acc 0 0) (f := fun k => (code_ReadText.f k (textB (bytesOf s) ++ (groupB r ++ rest))).bind fun bt202 => (if bt202.2.2 = 0 then (if acc.length < 8796093022208 then (key_Read.l0 k (pre ++ 1 :: (textB (bytesOf s) ++ (groupB r ++ rest))) (wrap64 ((pre.length : Int) + (wrap64 (bt202.2.1 + 1)))) true (acc ++ [bt202.1]) 0 0) else (none)) else (key_Read.j2 k (pre ++ 1 :: (textB (bytesOf s) ++ (groupB r ++ rest))) (pre.length : Int) false acc 0 0))) (fun k => ?_) ?_)
    · simp only [key_Read.l0, h1, h3]
      rw [if_neg (by omega), if_pos (by omega), if_pos (by omega)]
      rfl
    · simp only [key_Read.j1, h1, h3]
      rw [if_neg (by decide), if_pos (by omega), if_pos (by omega), if_neg (by decide), kw64o _ (by omega), if_pos (by omega), if_pos (by omega)]
      rw [show (((pre.length + 1 : Nat) : Int)).toNat = pre.length + 1 from by omega, hd]
    · refine Ev.bind (read_text_tells s (groupB r ++ rest) (by omega)) ?_
      refine Ev.congr (fun k => ?_) hih
      rw [if_pos rfl, if_pos (by omega), kw64o _ (by omega), kw64n _ _ (by omega)]
      congr 1
      simp
theorem numU_range (v : Int) : 0 ≤ numU v ∧ numU v < 18446744073709551616 := by
  unfold numU Go.bits
  simp [IntKind.wrap, IntKind.bits, IntKind.signed]
  first | done | omega
theorem wraps_u64 (n : Int) (h₀ : 0 ≤ n) (h₁ : n < 2 ^ 64) : IntKind.u64.wrap n = n := by
  simp [IntKind.wrap, IntKind.bits, IntKind.signed]; omega
theorem stN_join {u c : Int} (h0 : 0 ≤ u) (h1 : u < 72057594037927936) (h2 : 0 ≤ c) (h3 : c < 256) : stN u c = u * 256 + c := by
  unfold stN
  rw [wraps_u64 (u * 256) (by omega) (by omega), wraps_u64 c h2 (by omega)]
  exact bits_join .u64 64 (by decide) wraps_u64 8 (u * 256) c (by omega) (by omega) (by omega) h2 (by omega) (by omega)
theorem xor_twice {x : Int} (h0 : 0 ≤ x) (h1 : x < 18446744073709551616) : Go.bits .xor .u64 (Go.bits .xor .u64 x 9223372036854775808) 9223372036854775808 = x := by
  obtain ⟨n, rfl⟩ := Int.eq_ofNat_of_zero_le h0
  have hn : n < 18446744073709551616 := by omega
  have e1 : ∀ a : Int, Go.bits .xor .u64 a 9223372036854775808 = ((BitVec.ofInt 64 a ^^^ BitVec.ofInt 64 9223372036854775808).toNat : Int) := fun a => by
    show IntKind.u64.wrap ((BitVec.ofInt 64 a ^^^ BitVec.ofInt 64 9223372036854775808).toNat : Int) = _
    have := (BitVec.ofInt 64 a ^^^ BitVec.ofInt 64 9223372036854775808).isLt
    rw [wraps_u64 _ (by omega) (by omega)]
  rw [e1, e1]
  simp only [BitVec.ofInt_natCast]
  rw [BitVec.ofNat_toNat, BitVec.setWidth_eq, BitVec.xor_assoc, BitVec.xor_self, BitVec.xor_zero, BitVec.toNat_ofNat, Nat.mod_eq_of_lt (by omega)]
theorem shr_dig (u : Int) (j : Nat) (hj : j ≤ 64) : shr .u64 u (j : Int) = u / 2 ^ j := by
  unfold shr
  rw [show ((j : Int)).toNat = j from by omega, show IntKind.u64.bits = 64 from rfl, Nat.min_eq_left hj]
theorem numOf_numB (v : Int) : numF (numB v) = numU v := by
  have ⟨a, b⟩ := numU_range v
  generalize hu : numU v = u at *
  have s1 : shr .u64 u 56 = u / 72057594037927936 := shr_dig u 56 (by omega)
  have s2 : shr .u64 u 48 = u / 281474976710656 := shr_dig u 48 (by omega)
  have s3 : shr .u64 u 40 = u / 1099511627776 := shr_dig u 40 (by omega)
  have s4 : shr .u64 u 32 = u / 4294967296 := shr_dig u 32 (by omega)
  have s5 : shr .u64 u 24 = u / 16777216 := shr_dig u 24 (by omega)
  have s6 : shr .u64 u 16 = u / 65536 := shr_dig u 16 (by omega)
  have s7 : shr .u64 u 8 = u / 256 := shr_dig u 8 (by omega)
  have s8 : shr .u64 u 0 = u / 1 := shr_dig u 0 (by omega)
  unfold numF numB
  rw [hu, s1, s2, s3, s4, s5, s6, s7, s8]
  simp only [List.foldl_cons, List.foldl_nil]
  have st : ∀ x y : Int, 0 ≤ x → x < 72057594037927936 → stN x (y % 256) = x * 256 + y % 256 := fun x y h0 h1 => stN_join h0 h1 (by omega) (by omega)
  rw [st 0 _ (by omega) (by omega)]
  rw [show (0 * 256 + u / 72057594037927936 % 256 : Int) = u / 72057594037927936 from by omega]
  rw [st (u / 72057594037927936) _ (by omega) (by omega), show u / 72057594037927936 * 256 + u / 281474976710656 % 256 = u / 281474976710656 from by omega]
  rw [st (u / 281474976710656) _ (by omega) (by omega), show u / 281474976710656 * 256 + u / 1099511627776 % 256 = u / 1099511627776 from by omega]
  rw [st (u / 1099511627776) _ (by omega) (by omega), show u / 1099511627776 * 256 + u / 4294967296 % 256 = u / 4294967296 from by omega]
  rw [st (u / 4294967296) _ (by omega) (by omega), show u / 4294967296 * 256 + u / 16777216 % 256 = u / 16777216 from by omega]
  rw [st (u / 16777216) _ (by omega) (by omega), show u / 16777216 * 256 + u / 65536 % 256 = u / 65536 from by omega]
  rw [st (u / 65536) _ (by omega) (by omega), show u / 65536 * 256 + u / 256 % 256 = u / 256 from by omega]
  rw [st (u / 256) _ (by omega) (by omega)]
  omega
theorem number_back {v : Int} (h0 : 0 ≤ v) (h1 : v ≤ 1099511627776) (r : List Int) : code_ReadNumber.f (numB v ++ r) = some (v, 8, 0) := by
  unfold code_ReadNumber.f
  rw [if_neg (by simp [numB_len]; omega)]
  have e : (numB v ++ r).take 8 = numB v := List.take_left' (numB_len v)
  unfold numOf
  rw [e, numOf_numB]
  unfold numU
  rw [wraps_u64 v h0 (by omega), xor_twice h0 (by omega), kw64 (by omega) (by omega)]
theorem read_back {d : List ByteArray} {f g : Int} (hd : dimsB d = true) (hf : 0 ≤ f ∧ f ≤ 1099511627776) (hg : 0 ≤ g ∧ g < 4) : Ev (fun k => key_Read.f k (wrB d f g)) (d, f, g, 0) := by
  have hl := wrB_len (f := f) (g := g) hd
  have e : wrB d f g = [] ++ groupB d ++ (numB f ++ [g]) := by simp [wrB]
  unfold key_Read.f
  rw [e] at hl ⊢
  refine read_loop (numB f ++ [g]) d [] [] _ (by omega) (Nat.le_refl _) ?_
  simp only [List.nil_append, List.length_nil, Nat.zero_add] at hl ⊢
  have hlen : (groupB d ++ (numB f ++ [g])).length = (groupB d).length + 9 := by simp [numB_len]
  have hdr : (groupB d ++ (numB f ++ [g])).drop (groupB d).length = numB f ++ [g] := List.drop_left' rfl
  have hr8 : rd (groupB d ++ (numB f ++ [g])) (((groupB d).length + 8 : Nat) : Int) = g := by
    have := rd_mid (groupB d ++ numB f) g []
    simpa [numB_len] using this
  have ew : wrap64 (((groupB d).length : Int) + 9) = (((groupB d).length + 9 : Nat) : Int) := by rw [kw64] <;> omega
  have ew8 : wrap64 (((groupB d).length : Int) + 8) = (((groupB d).length + 8 : Nat) : Int) := by rw [kw64] <;> omega
  refine Ev.step (f := fun k => key_Read.j3 k (groupB d ++ (numB f ++ [g])) ((groupB d).length : Int) false d 0 0) (fun k => ?_) (Ev.step (fun k => ?_) (Ev.now _))
  · simp only [key_Read.j2, ew, hlen]
    simp
  · simp only [key_Read.j3]
    rw [if_neg (by decide), if_pos (by omega), if_pos (by omega), show (((groupB d).length : Int)).toNat = (groupB d).length from by omega, hdr, number_back hf.1 hf.2]
    simp only [Option.bind_some, ew8, hr8]
    rw [if_pos (by omega), if_pos (by omega), kw64 (x := g) (by omega) (by omega), key_right_tells, decide_eq_true ⟨hd, hf, hg⟩]
    rfl
theorem read_text_ex (x : List Int) (hx : x.length < 1000000) (d : Nat) : ∀ (i : Nat) (acc : List Int), x.length - i = d → i ≤ x.length → acc.length ≤ i →
    ∃ (s : ByteArray) (n e : Int), Ev (fun k => code_ReadText.l0 k x acc (i : Int)) (s, n, e) ∧ (e = 0 → (i : Int) ≤ n ∧ n ≤ (x.length : Int)) := by
  induction d using Nat.strongRecOn with
  | _ d ih =>
    intro i acc hd hi ha
    by_cases hlt : i < x.length
    · by_cases h0 : rd x (i : Int) = 0
      · by_cases h1 : i + 1 = x.length
        · refine ⟨⟨#[]⟩, 0, 10, Ev.step (fun k => ?_) (Ev.now _), fun h => by omega⟩
          simp only [code_ReadText.l0, kw64o i (by omega)]
          rw [if_pos (by omega), if_pos (by omega), if_pos h0, if_pos (by omega)]
        · by_cases h2 : rd x ((i + 1 : Nat) : Int) = 1
          · refine ⟨strOfNums acc, ((i + 2 : Nat) : Int), 0, Ev.step (fun k => ?_) (Ev.now _), fun h => by omega⟩
            simp only [code_ReadText.l0, kw64o i (by omega)]
            rw [if_pos (by omega), if_pos (by omega), if_pos h0, if_neg (by omega), if_pos (by omega), if_pos (by omega), if_pos h2, kw64o _ (by omega)]
          · by_cases h3 : rd x ((i + 1 : Nat) : Int) = 255
            · obtain ⟨s, n, e, h, hb⟩ := ih (x.length - (i + 2)) (by omega) (i + 2) (acc ++ [0]) rfl (by omega) (by simp; omega)
              refine ⟨s, n, e, Ev.step (fun k => ?_) h, fun h => by have := hb h; omega⟩
              simp only [code_ReadText.l0, kw64o i (by omega)]
              rw [if_pos (by omega), if_pos (by omega), if_pos h0, if_neg (by omega), if_pos (by omega), if_pos (by omega), if_neg h2, if_pos h3, if_pos (by omega), kw64o _ (by omega)]
            · refine ⟨⟨#[]⟩, 0, 3, Ev.step (fun k => ?_) (Ev.now _), fun h => by omega⟩
              simp only [code_ReadText.l0, kw64o i (by omega)]
              rw [if_pos (by omega), if_pos (by omega), if_pos h0, if_neg (by omega), if_pos (by omega), if_pos (by omega), if_neg h2, if_neg h3]
      · obtain ⟨s, n, e, h, hb⟩ := ih (x.length - (i + 1)) (by omega) (i + 1) (acc ++ [rd x (i : Int)]) rfl (by omega) (by simp; omega)
        refine ⟨s, n, e, Ev.step (fun k => ?_) h, fun h => by have := hb h; omega⟩
        simp only [code_ReadText.l0]
        rw [if_pos (by omega), if_pos (by omega), if_neg h0, if_pos (by omega), kw64o _ (by omega)]
    · refine ⟨⟨#[]⟩, 0, 10, Ev.step (fun k => ?_) (Ev.now _), fun h => by omega⟩
      simp only [code_ReadText.l0]
      rw [if_neg (by omega)]
def keyOk (r : List ByteArray × Int × Int × Int) : Prop := r.2.2.2 = 0 → dimsB r.1 = true ∧ (0 ≤ r.2.1 ∧ r.2.1 ≤ 1099511627776) ∧ 0 ≤ r.2.2.1 ∧ r.2.2.1 < 4
theorem read_end_bad (x : List Int) (i : Int) (ds : List ByteArray) : Ev (fun k => key_Read.j2 k x i false ds 0 0) ([], 0, 0, 40) := by
  refine Ev.step (f := fun k => key_Read.j3 k x i true ds 0 0) (fun k => ?_) (Ev.step (fun k => ?_) (Ev.now _))
  · simp only [key_Read.j2]; simp
  · simp only [key_Read.j3]; simp
theorem read_end (x : List Int) (hx : x.length < 1000000) (i : Nat) (hi : i ≤ x.length) (ds : List ByteArray) : ∃ r, Ev (fun k => key_Read.j2 k x (i : Int) true ds 0 0) r ∧ keyOk r := by
  have ew : wrap64 ((i : Int) + 9) = ((i + 9 : Nat) : Int) := by rw [kw64] <;> omega
  have ew8 : wrap64 ((i : Int) + 8) = ((i + 8 : Nat) : Int) := by rw [kw64] <;> omega
  by_cases h9 : x.length = i + 9
  · have hnum : code_ReadNumber.f (x.drop i) = some (numOf (x.drop i), 8, 0) := by
      unfold code_ReadNumber.f
      rw [if_neg (by rw [List.length_drop]; omega)]
    have hj : ∀ k, key_Read.j2 (k + 1) x (i : Int) true ds 0 0 = key_Read.j3 k x (i : Int) false ds 0 0 := fun k => by
      simp only [key_Read.j2, ew]
      rw [if_pos trivial, show ((x.length : Int) != ((i + 9 : Nat) : Int)) = false from by simp; omega]
    have hj3 : ∀ k, key_Read.j3 (k + 1) x (i : Int) false ds 0 0 = if decide (dimsB ds = true ∧ (0 ≤ numOf (x.drop i) ∧ numOf (x.drop i) ≤ 1099511627776) ∧ 0 ≤ wrap64 (rd x ((i + 8 : Nat) : Int)) ∧ wrap64 (rd x ((i + 8 : Nat) : Int)) < 4) = true then some (ds, numOf (x.drop i), wrap64 (rd x ((i + 8 : Nat) : Int)), 0) else some ([], 0, 0, 40) := fun k => by
      simp only [key_Read.j3]
      rw [if_neg (by decide), if_pos (by omega), if_pos (by omega), show ((i : Int)).toNat = i from by omega, hnum]
      simp only [Option.bind_some, ew8]
      rw [if_pos (by omega), if_pos (by omega), key_right_tells]
      rfl
    by_cases hr : dimsB ds = true ∧ (0 ≤ numOf (x.drop i) ∧ numOf (x.drop i) ≤ 1099511627776) ∧ 0 ≤ wrap64 (rd x ((i + 8 : Nat) : Int)) ∧ wrap64 (rd x ((i + 8 : Nat) : Int)) < 4
    · refine ⟨(ds, numOf (x.drop i), wrap64 (rd x ((i + 8 : Nat) : Int)), 0), Ev.step hj (Ev.step hj3 (Ev.congr (fun k => ?_) (Ev.now _))), fun _ => hr⟩
      rw [decide_eq_true hr, if_pos rfl]
    · refine ⟨([], 0, 0, 40), Ev.step hj (Ev.step hj3 (Ev.congr (fun k => ?_) (Ev.now _))), fun h => absurd h (by decide)⟩
      rw [decide_eq_false hr, if_neg (by decide)]
  · refine ⟨([], 0, 0, 40), Ev.step (f := fun k => key_Read.j3 k x i true ds 0 0) (fun k => ?_) (Ev.step (fun k => ?_) (Ev.now _)), fun h => absurd h (by decide)⟩
    · simp only [key_Read.j2, ew]
      rw [if_pos trivial, show ((x.length : Int) != ((i + 9 : Nat) : Int)) = true from by simp; omega]
    · simp only [key_Read.j3]; simp
theorem read_loop_ex (x : List Int) (hx : x.length < 1000000) (d : Nat) : ∀ (i : Nat) (ds : List ByteArray), x.length - i = d → i ≤ x.length → ds.length ≤ i →
    ∃ r, Ev (fun k => key_Read.l0 k x (i : Int) true ds 0 0) r ∧ keyOk r := by
  induction d using Nat.strongRecOn with
  | _ d ih =>
    intro i ds hd hi ha
    have bad : ∃ r, Ev (fun k => key_Read.j1 k x (i : Int) true true ds 0 0) r ∧ keyOk r := by
      refine ⟨([], 0, 0, 40), Ev.step (f := fun k => key_Read.j2 k x (i : Int) false ds 0 0) (fun k => ?_) (read_end_bad x i ds), fun h => absurd h (by decide)⟩
      simp only [key_Read.j1]; simp
    by_cases hlt : i < x.length
    · have hstep : ∀ k, key_Read.l0 (k + 1) x (i : Int) true ds 0 0 = key_Read.j1 k x (i : Int) true (decide (rd x (i : Int) > 1)) ds 0 0 := fun k => by
        simp only [key_Read.l0]
        rw [if_neg (by omega), if_pos (by omega), if_pos (by omega)]
      by_cases h1 : rd x (i : Int) > 1
      · obtain ⟨r, h, hk⟩ := bad
        exact ⟨r, Ev.step hstep (by rw [decide_eq_true h1]; exact h), hk⟩
      · by_cases h0 : rd x (i : Int) = 0
        · obtain ⟨r, h, hk⟩ := read_end x hx (i + 1) (by omega) ds
          refine ⟨r, Ev.step hstep ?_, hk⟩
          rw [decide_eq_false h1]
          refine Ev.step (fun k => ?_) h
          simp only [key_Read.j1]
          rw [if_neg (by decide), if_pos (by omega), if_pos (by omega), if_pos h0, kw64o _ (by omega)]
        · obtain ⟨s, n, e, ht, hn⟩ := read_text_ex (x.drop (i + 1)) (by rw [List.length_drop]; omega) _ 0 [] rfl (Nat.zero_le _) (Nat.zero_le _)
          have hj : ∀ k, key_Read.j1 (k + 1) x (i : Int) true false ds 0 0 = (code_ReadText.f k (x.drop (i + 1))).bind fun bt202 => (if bt202.2.2 = 0 then (if ds.length < 8796093022208 then (key_Read.l0 k x (wrap64 ((i : Int) + (wrap64 (bt202.2.1 + 1)))) true (ds ++ [bt202.1]) 0 0) else (none)) else (key_Read.j2 k x (i : Int) false ds 0 0)) := fun k => by
            simp only [key_Read.j1]
            rw [if_neg (by decide), if_pos (by omega), if_pos (by omega), if_neg h0, kw64o _ (by omega), if_pos (by omega), if_pos (by omega), show (((i + 1 : Nat) : Int)).toNat = i + 1 from by omega]
          by_cases he : e = 0
          · obtain ⟨hn0, hn1⟩ := hn he
            rw [List.length_drop] at hn1
            obtain ⟨m, rfl⟩ : ∃ m : Nat, n = (m : Int) := ⟨n.toNat, by omega⟩
            obtain ⟨r, h, hk⟩ := ih (x.length - (i + (m + 1))) (by omega) (i + (m + 1)) (ds ++ [s]) rfl (by omega) (by simp; omega)
            refine ⟨r, Ev.step hstep ?_, hk⟩
            rw [decide_eq_false h1]
            refine Ev.step hj (Ev.bind ht ?_)
            refine Ev.congr (fun k => ?_) h
            rw [if_pos he, if_pos (by omega), kw64o _ (by omega), kw64n _ _ (by omega)]
          · refine ⟨([], 0, 0, 40), Ev.step hstep ?_, fun h => absurd h (by decide)⟩
            rw [decide_eq_false h1]
            refine Ev.step hj (Ev.bind ht ?_)
            refine Ev.congr (fun k => ?_) (read_end_bad x i ds)
            rw [if_neg he]
    · obtain ⟨r, h, hk⟩ := bad
      refine ⟨r, Ev.step (fun k => ?_) h, hk⟩
      simp only [key_Read.l0]
      rw [if_pos (by omega)]
theorem read_ex (x : List Int) (hx : x.length < 1000000) : ∃ r, Ev (fun k => key_Read.f k x) r ∧ keyOk r := read_loop_ex x hx _ 0 [] rfl (Nat.zero_le _) (Nat.zero_le _)
theorem Ev.uniq {α : Type} {g : Nat → Option α} {a b : α} (h : Ev g a) (k : Ev g b) : a = b := by
  obtain ⟨K, h⟩ := h
  obtain ⟨K', k⟩ := k
  have h1 := h (max K K') (by omega)
  have h2 := k (max K K') (by omega)
  rw [h1] at h2
  exact Option.some.inj h2
end Go.Proofs.Ytjemmmemenljbaa.PFold
end
section
namespace Go.Proofs.Ytjemmmemenljbaa.PFold
open Go.RowKit Go.Proofs.YtjemmmemenljbaaW.PrintWords Go.Proofs.YtjemmmemenljbaaW.PrintLast Go.Proofs.YtjemmmemenljbaaW.PrintMore
theorem cmpB_refl : ∀ x : List Int, cmpB x x = 0
  | [] => rfl
  | a :: x => by unfold cmpB; rw [if_neg (by omega), if_neg (by omega)]; exact cmpB_refl x
theorem cmpB_eq : ∀ {x y : List Int}, cmpB x y = 0 → x = y
  | [], [], _ => rfl
  | [], _ :: _, h => by simp [cmpB] at h
  | _ :: _, [], h => by simp [cmpB] at h
  | a :: x, b :: y, h => by
    unfold cmpB at h
    split at h
    · simp at h
    · split at h
      · simp at h
      · obtain rfl : a = b := by omega
        rw [cmpB_eq h]
theorem cmpB_anti : ∀ (x y : List Int), cmpB y x = - cmpB x y
  | [], [] => rfl
  | [], _ :: _ => rfl
  | _ :: _, [] => rfl
  | a :: x, b :: y => by
    unfold cmpB
    by_cases h1 : a < b
    · rw [if_neg (by omega), if_pos h1, if_pos h1]; rfl
    · by_cases h2 : b < a
      · rw [if_pos h2, if_neg h1, if_pos h2]
      · rw [if_neg h2, if_neg h1, if_neg h1, if_neg h2]; exact cmpB_anti x y
theorem cmpB_trans : ∀ {x y z : List Int}, cmpB x y < 0 → cmpB y z < 0 → cmpB x z < 0
  | [], [], _, h, _ => by simp [cmpB] at h
  | _ :: _, [], _, h, _ => by simp [cmpB] at h
  | _, _ :: _, [], _, h => by simp [cmpB] at h
  | [], _ :: _, _ :: _, _, _ => by simp [cmpB]
  | a :: x, b :: y, c :: z, h, k => by
    unfold cmpB at h k ⊢
    by_cases h1 : a < b
    · by_cases k1 : b < c
      · rw [if_pos (by omega)]; omega
      · rw [if_neg k1] at k
        by_cases k2 : c < b
        · rw [if_pos k2] at k; omega
        · rw [if_pos (by omega)]; omega
    · rw [if_neg h1] at h
      by_cases h2 : b < a
      · rw [if_pos h2] at h; omega
      · rw [if_neg h2] at h
        obtain rfl : a = b := by omega
        by_cases k1 : a < c
        · rw [if_pos k1]; omega
        · rw [if_neg k1] at k
          by_cases k2 : c < a
          · rw [if_pos k2] at k; omega
          · rw [if_neg k2] at k
            rw [if_neg k1, if_neg k2]
            exact cmpB_trans h k
theorem cmpB_zero {x y : List Int} : cmpB x y = 0 ↔ x = y := ⟨cmpB_eq, fun h => h ▸ cmpB_refl x⟩
theorem cmpB_gt {x y : List Int} : 0 < cmpB x y ↔ cmpB y x < 0 := by rw [cmpB_anti x y]; omega
abbrev SortedE (l : List En) : Prop := l.Pairwise (fun a b => cmpB a.f0 b.f0 < 0)
def CutAt (l : List En) (b : List Int) (p : Nat) : Prop := p ≤ l.length ∧ (∀ q (h : q < l.length), q < p → cmpB l[q].f0 b < 0) ∧ (∀ q (h : q < l.length), p ≤ q → ¬ cmpB l[q].f0 b < 0)
theorem sorted_lt {l : List En} (hs : SortedE l) {i j : Nat} (hij : i < j) (hj : j < l.length) : cmpB (l[i]'(by omega)).f0 l[j].f0 < 0 := List.pairwise_iff_getElem.1 hs i j (by omega) hj hij
theorem bsF_cut {l : List En} {b : List Int} (hs : SortedE l) : ∀ (f i j : Nat), j ≤ l.length → i ≤ j → j - i ≤ f → (∀ q (h : q < l.length), q < i → cmpB l[q].f0 b < 0) → (∀ q (h : q < l.length), j ≤ q → ¬ cmpB l[q].f0 b < 0) → CutAt l b (bsF l b f i j) := by
  intro f
  induction f with
  | zero =>
    intro i j hj hij hf h1 h2
    obtain rfl : i = j := by omega
    exact ⟨hj, h1, h2⟩
  | succ f ih =>
    intro i j hj hij hf h1 h2
    unfold bsF
    by_cases hlt : i < j
    · rw [if_pos hlt]
      have hm : (i + j) / 2 < l.length := by omega
      rw [rd_ent hm]
      by_cases hc : cmpB l[(i + j) / 2].f0 b < 0
      · rw [if_pos hc]
        refine ih _ _ hj (by omega) (by omega) (fun q hq hlt' => ?_) h2
        rcases Nat.lt_or_ge q ((i + j) / 2) with h | h
        · exact cmpB_trans (sorted_lt hs h hm) hc
        · obtain rfl : q = (i + j) / 2 := by omega
          exact hc
      · rw [if_neg hc]
        refine ih _ _ (by omega) (by omega) (by omega) h1 (fun q hq hge hlt' => ?_)
        rcases Nat.lt_or_ge ((i + j) / 2) q with h | h
        · exact hc (cmpB_trans (sorted_lt hs h hq) hlt')
        · obtain rfl : q = (i + j) / 2 := by omega
          exact hc hlt'
    · rw [if_neg hlt]
      obtain rfl : i = j := by omega
      exact ⟨hj, h1, h2⟩
theorem place_cut {l : List En} (hs : SortedE l) (b : List Int) : CutAt l b (placeE l b) := bsF_cut hs l.length 0 l.length (Nat.le_refl _) (Nat.zero_le _) (by omega) (fun q _ h => absurd h (by omega)) (fun q h1 h2 => absurd h1 (by omega))
end Go.Proofs.Ytjemmmemenljbaa.PFold
end
section
namespace Go.Proofs.Ytjemmmemenljbaa.PFold
open Go.RowKit Go.Proofs.YtjemmmemenljbaaW.PrintWords Go.Proofs.YtjemmmemenljbaaW.PrintLast Go.Proofs.YtjemmmemenljbaaW.PrintMore
def insE (b : List Int) (a : Ag) : List En → List En
  | [] => [⟨b, a⟩]
  | y :: r => if cmpB y.f0 b < 0 then y :: insE b a r else if y.f0 = b then ⟨y.f0, mergeA y.f1 a⟩ :: r else ⟨b, a⟩ :: y :: r
theorem cut_tail {y : En} {r : List En} {b : List Int} {p : Nat} (h : CutAt (y :: r) b (p + 1)) : cmpB y.f0 b < 0 ∧ CutAt r b p :=
  ⟨h.2.1 0 (by simp) (by omega), by have := h.1; simp at this; omega, fun q hq hlt => h.2.1 (q + 1) (by simp; omega) (by omega), fun q hq hge => h.2.2 (q + 1) (by simp; omega) (by omega)⟩
theorem ins_there {b : List Int} {a : Ag} : ∀ {l : List En} {p : Nat}, CutAt l b p → ∀ (h : p < l.length), l[p].f0 = b → insE b a l = l.set p ⟨l[p].f0, mergeA l[p].f1 a⟩
  | [], _, _, h, _ => absurd h (by simp)
  | y :: r, 0, hc, _, he => by
    have h0 : ¬ cmpB y.f0 b < 0 := hc.2.2 0 (by simp) (Nat.le_refl _)
    have he' : y.f0 = b := he
    unfold insE
    rw [if_neg h0, if_pos he']
    rfl
  | y :: r, p + 1, hc, h, he => by
    obtain ⟨h0, hc'⟩ := cut_tail hc
    unfold insE
    rw [if_pos h0, ins_there hc' (by simpa using h) he]
    rfl
theorem ins_new {b : List Int} {a : Ag} : ∀ {l : List En} {p : Nat}, CutAt l b p → (∀ (h : p < l.length), l[p].f0 ≠ b) → insE b a l = l.take p ++ [⟨b, a⟩] ++ l.drop p
  | [], p, hc, _ => by
    obtain rfl : p = 0 := by have := hc.1; simpa using this
    rfl
  | y :: r, 0, hc, hn => by
    have h0 : ¬ cmpB y.f0 b < 0 := hc.2.2 0 (by simp) (Nat.le_refl _)
    have hn' : y.f0 ≠ b := hn (by simp)
    unfold insE
    rw [if_neg h0, if_neg hn']
    rfl
  | y :: r, p + 1, hc, hn => by
    obtain ⟨h0, hc'⟩ := cut_tail hc
    unfold insE
    rw [if_pos h0, ins_new hc' (fun h => hn (by simpa using h))]
    rfl
theorem putE_eq {b : List Int} {a : Ag} {l : List En} (hs : SortedE l) (hl : l.length < 1000) (hb : ∀ y ∈ l, y.f0.all isB = true) (hbb : b.all isB = true) (hu : ∀ y ∈ l, inU y.f1.f2.f1) (ha : inU a.f2.f1) : putE b a l = some (insE b a l) := by
  have hc := place_cut hs b
  unfold putE
  rw [if_pos ⟨hl, hb, hbb⟩]
  generalize hp : placeE l b = p at *
  have hth : thereE l b = (decide (p < l.length) && (cmpB (rd_T51 l ((p : Nat) : Int)).f0 b == 0)) := by unfold thereE; rw [hp]
  by_cases hlt : p < l.length
  · rw [rd_ent hlt] at hth
    rw [rd_ent hlt]
    by_cases he : l[p].f0 = b
    · rw [if_pos (by rw [hth, decide_eq_true hlt, he, cmpB_refl]; rfl), if_pos ⟨hu _ (List.getElem_mem _), ha⟩, ins_there hc hlt he]
    · rw [if_neg (by rw [hth, decide_eq_true hlt]; simp [cmpB_zero, he]), ins_new hc (fun _ => he)]
  · rw [if_neg (by rw [hth, decide_eq_false hlt]; simp), ins_new hc (fun h => absurd h hlt)]
end Go.Proofs.Ytjemmmemenljbaa.PFold
end
section
namespace Go.Proofs.Ytjemmmemenljbaa.PFold
open Go.RowKit Go.Proofs.YtjemmmemenljbaaW.PrintWords Go.Proofs.YtjemmmemenljbaaW.PrintLast Go.Proofs.YtjemmmemenljbaaW.PrintMore
theorem addW_eq {a b : S39} (ha : inU a.f1) (_ : inU b.f1) : addW a b = ⟨wrap64 (a.f0 + b.f0 + (a.f1 + b.f1) / mW), (a.f1 + b.f1) % mW⟩ := by
  have h2 : (sumW [a, b]).2 = (a.f1 + b.f1) % mW := by
    simp only [sumW, List.foldl_cons, List.foldl_nil, stW]
    unfold inU mW at *
    omega
  have h1 : (sumW [a, b]).1 = (a.f0 + b.f0 + (a.f1 + b.f1) / mW) % mW := by
    simp only [sumW, List.foldl_cons, List.foldl_nil, stW, u64_wrap]
    unfold inU mW at *
    omega
  unfold addW
  rw [h1, h2]
  congr 1
  unfold wrap64 mW
  omega
theorem addW_comm {a b : S39} (ha : inU a.f1) (hb : inU b.f1) : addW a b = addW b a := by
  rw [addW_eq ha hb, addW_eq hb ha, Int.add_comm a.f0, Int.add_comm a.f1]
theorem addW_assoc {a b c : S39} (ha : inU a.f1) (hb : inU b.f1) (hc : inU c.f1) : addW (addW a b) c = addW a (addW b c) := by
  have h1 : inU (addW a b).f1 := by rw [addW_eq ha hb]; exact mod_mW _
  have h2 : inU (addW b c).f1 := by rw [addW_eq hb hc]; exact mod_mW _
  rw [addW_eq h1 hc, addW_eq ha h2, addW_eq ha hb, addW_eq hb hc]
  unfold inU mW wrap64 at *
  simp only
  congr 1 <;> omega
theorem least_comm (a b : Int) : leastI a b = leastI b a := by unfold leastI; split <;> split <;> omega
theorem most_comm (a b : Int) : mostI a b = mostI b a := by unfold mostI; split <;> split <;> omega
theorem least_assoc (a b c : Int) : leastI (leastI a b) c = leastI a (leastI b c) := by unfold leastI; repeat' split <;> omega
theorem most_assoc (a b c : Int) : mostI (mostI a b) c = mostI a (mostI b c) := by unfold mostI; repeat' split <;> omega
def cntS (c : Int) (o : Bool) (d : Int) (p : Bool) : Int × Bool := if c + d ≥ mW ∨ o = true ∨ p = true then (mW - 1, true) else (c + d, false)
theorem mgTop_eq {c d : Int} {o p : Bool} (hc : inU c) (hd : inU d) : mgTop (IntKind.u64.wrap (c + d)) c (o || p) = cntS c o d p := by
  unfold mgTop cntS
  rw [u64_wrap]
  unfold inU mW at *
  by_cases h : c + d ≥ 18446744073709551616
  · rw [if_pos (.inl (by omega)), if_pos (.inl h)]; rfl
  · by_cases ho : o = true ∨ p = true
    · rw [if_pos (.inr (by simpa using ho)), if_pos (.inr ho)]; rfl
    · rw [if_neg (by
        rintro (h1 | h1)
        · omega
        · exact ho (by simpa using h1)), if_neg (by
        rintro (h1 | h1)
        · omega
        · exact ho h1)]
      congr 1
      omega
def okAg (a : Ag) : Prop := inU a.f0 ∧ inU a.f2.f1 ∧ (a.f1 = true → a.f0 = mW - 1)
theorem mergeA_eq {a b : Ag} (ha : okAg a) (hb : okAg b) (ha0 : a.f0 ≠ 0) (hb0 : b.f0 ≠ 0) : mergeA a b = ⟨(cntS a.f0 a.f1 b.f0 b.f1).1, (cntS a.f0 a.f1 b.f0 b.f1).2, addW a.f2 b.f2, leastI a.f3 b.f3, mostI a.f4 b.f4⟩ := by
  unfold mergeA
  rw [if_neg ha0, if_neg hb0, mgTop_eq ha.1 hb.1]
theorem mergeA_zero_right {a : Ag} {b : Ag} (ha0 : a.f0 ≠ 0) (hb0 : b.f0 = 0) : mergeA a b = a := by unfold mergeA; rw [if_neg ha0, if_pos hb0]
theorem mergeA_zero_left {a : Ag} {b : Ag} (ha0 : a.f0 = 0) : mergeA a b = b := by unfold mergeA; rw [if_pos ha0]
theorem cnt_pos {c d : Int} {o p : Bool} (hc : inU c) (hd : inU d) (h : c ≠ 0) : (cntS c o d p).1 ≠ 0 := by
  unfold cntS inU mW at *
  split
  · decide
  · simp only; omega
theorem cnt_bd {c d : Int} {o p : Bool} (hc : inU c) (hd : inU d) : inU (cntS c o d p).1 ∧ ((cntS c o d p).2 = true → (cntS c o d p).1 = mW - 1) := by
  unfold cntS inU mW at *
  split
  · exact ⟨by decide, fun _ => rfl⟩
  · exact ⟨by simp only; omega, fun h => by cases h⟩
theorem mergeA_ok {a b : Ag} (ha : okAg a) (hb : okAg b) : okAg (mergeA a b) := by
  by_cases ha0 : a.f0 = 0
  · rw [mergeA_zero_left ha0]; exact hb
  · by_cases hb0 : b.f0 = 0
    · rw [mergeA_zero_right ha0 hb0]; exact ha
    · rw [mergeA_eq ha hb ha0 hb0]
      exact ⟨(cnt_bd ha.1 hb.1).1, by rw [addW_eq ha.2.1 hb.2.1]; exact mod_mW _, (cnt_bd ha.1 hb.1).2⟩
theorem mergeA_pos {a b : Ag} (ha : okAg a) (hb : okAg b) (ha0 : a.f0 ≠ 0) : (mergeA a b).f0 ≠ 0 := by
  by_cases hb0 : b.f0 = 0
  · rw [mergeA_zero_right ha0 hb0]; exact ha0
  · rw [mergeA_eq ha hb ha0 hb0]; exact cnt_pos ha.1 hb.1 ha0
theorem cnt_comm (c : Int) (o : Bool) (d : Int) (p : Bool) : cntS c o d p = cntS d p c o := by
  unfold cntS
  rw [Int.add_comm c d]
  by_cases h : d + c ≥ mW ∨ o = true ∨ p = true
  · rw [if_pos h, if_pos (by rcases h with h | h | h <;> simp [h])]
  · rw [if_neg h, if_neg (by rintro (h1 | h1 | h1) <;> simp [h1] at h)]
theorem mergeA_comm {a b : Ag} (ha : okAg a) (hb : okAg b) (ha0 : a.f0 ≠ 0) (hb0 : b.f0 ≠ 0) : mergeA a b = mergeA b a := by
  rw [mergeA_eq ha hb ha0 hb0, mergeA_eq hb ha hb0 ha0, cnt_comm, addW_comm ha.2.1 hb.2.1, least_comm, most_comm]
theorem cnt_assoc {c d e : Int} {o p q : Bool} (hc : inU c) (_ : inU d) (he : inU e) (_ : c ≠ 0) (_ : e ≠ 0) : cntS (cntS c o d p).1 (cntS c o d p).2 e q = cntS c o (cntS d p e q).1 (cntS d p e q).2 := by
  unfold inU mW at *
  have L : cntS (cntS c o d p).1 (cntS c o d p).2 e q = if c + d + e ≥ mW ∨ o = true ∨ p = true ∨ q = true then (mW - 1, true) else (c + d + e, false) := by
    unfold cntS mW
    by_cases h : c + d ≥ 18446744073709551616 ∨ o = true ∨ p = true
    · rw [if_pos h, if_pos (by simp)]
      rw [if_pos (by rcases h with h | h | h
                     · left; omega
                     · right; left; exact h
                     · right; right; left; exact h)]
    · rw [if_neg h]
      simp only [not_or] at h
      simp [h]
  have R : cntS c o (cntS d p e q).1 (cntS d p e q).2 = if c + d + e ≥ mW ∨ o = true ∨ p = true ∨ q = true then (mW - 1, true) else (c + d + e, false) := by
    unfold cntS mW
    by_cases h : d + e ≥ 18446744073709551616 ∨ p = true ∨ q = true
    · rw [if_pos h, if_pos (by simp)]
      rw [if_pos (by rcases h with h | h | h
                     · left; omega
                     · right; right; left; exact h
                     · right; right; right; exact h)]
    · rw [if_neg h]
      simp only [not_or] at h
      simp [h, Int.add_assoc]
  rw [L, R]
theorem mergeA_assoc {a b c : Ag} (ha : okAg a) (hb : okAg b) (hc : okAg c) (ha0 : a.f0 ≠ 0) (hb0 : b.f0 ≠ 0) (hc0 : c.f0 ≠ 0) : mergeA (mergeA a b) c = mergeA a (mergeA b c) := by
  rw [mergeA_eq (mergeA_ok ha hb) hc (mergeA_pos ha hb ha0) hc0, mergeA_eq ha (mergeA_ok hb hc) ha0 (mergeA_pos hb hc hb0), mergeA_eq ha hb ha0 hb0, mergeA_eq hb hc hb0 hc0]
  simp only
  rw [cnt_assoc ha.1 hb.1 hc.1 ha0 hc0, addW_assoc ha.2.1 hb.2.1 hc.2.1, least_assoc, most_assoc]
end Go.Proofs.Ytjemmmemenljbaa.PFold
end
section
namespace Go.Proofs.Ytjemmmemenljbaa.PFold
open Go.RowKit Go.Proofs.YtjemmmemenljbaaW.PrintWords Go.Proofs.YtjemmmemenljbaaW.PrintLast Go.Proofs.YtjemmmemenljbaaW.PrintMore
def okP (a : Ag) : Prop := okAg a ∧ a.f0 ≠ 0
def Good (l : List En) : Prop := ∀ y ∈ l, okP y.f1
theorem Good.cons {y : En} {r : List En} : Good (y :: r) ↔ okP y.f1 ∧ Good r := by simp [Good]
theorem Good.nil : Good [] := by simp [Good]
theorem okP_merge {a b : Ag} (ha : okP a) (hb : okP b) : okP (mergeA a b) := ⟨mergeA_ok ha.1 hb.1, mergeA_pos ha.1 hb.1 ha.2⟩
theorem cmpB_tri (x y : List Int) : cmpB x y < 0 ∨ x = y ∨ cmpB y x < 0 := by
  rcases Int.lt_trichotomy (cmpB x y) 0 with h | h | h
  · exact .inl h
  · exact .inr (.inl (cmpB_eq h))
  · exact .inr (.inr (cmpB_gt.1 h))
theorem cmpB_asymm {x y : List Int} (h : cmpB x y < 0) : ¬ cmpB y x < 0 := by have := cmpB_anti x y; omega
theorem cmpB_ne {x y : List Int} (h : cmpB x y < 0) : x ≠ y := by rintro rfl; rw [cmpB_refl] at h; omega
theorem ins_lt {b : List Int} {a : Ag} {y : En} {r : List En} (h : cmpB y.f0 b < 0) : insE b a (y :: r) = y :: insE b a r := by
  conv => lhs; unfold insE
  rw [if_pos h]
theorem ins_eq {b : List Int} {a : Ag} {y : En} {r : List En} (h : y.f0 = b) : insE b a (y :: r) = ⟨b, mergeA y.f1 a⟩ :: r := by
  conv => lhs; unfold insE
  rw [if_neg (by rw [h, cmpB_refl]; omega), if_pos h, h]
theorem ins_gt {b : List Int} {a : Ag} {y : En} {r : List En} (h : cmpB b y.f0 < 0) : insE b a (y :: r) = ⟨b, a⟩ :: y :: r := by
  conv => lhs; unfold insE
  rw [if_neg (cmpB_asymm h), if_neg (fun e => cmpB_ne h e.symm)]
theorem good_ins {b : List Int} {a : Ag} (ha : okP a) : ∀ {l : List En}, Good l → Good (insE b a l)
  | [], _ => Good.cons.2 ⟨ha, Good.nil⟩
  | y :: r, h => by
    have ⟨h1, h2⟩ := Good.cons.1 h
    rcases cmpB_tri y.f0 b with c | c | c
    · rw [ins_lt c]; exact Good.cons.2 ⟨h1, good_ins ha h2⟩
    · rw [ins_eq c]; exact Good.cons.2 ⟨okP_merge h1 ha, h2⟩
    · rw [ins_gt c]; exact Good.cons.2 ⟨ha, h⟩
theorem ins_comm {b c : List Int} {a d : Ag} (ha : okP a) (hd : okP d) : ∀ {l : List En}, Good l → insE b a (insE c d l) = insE c d (insE b a l)
  | [], _ => by
    show insE b a [⟨c, d⟩] = insE c d [⟨b, a⟩]
    rcases cmpB_tri c b with h | h | h
    · rw [ins_lt h, ins_gt (y := ⟨b, a⟩) h]; rfl
    · rw [ins_eq h, ins_eq (y := ⟨b, a⟩) h.symm, h, mergeA_comm hd.1 ha.1 hd.2 ha.2]
    · rw [ins_gt h, ins_lt (y := ⟨b, a⟩) h]; rfl
  | y :: r, hg => by
    have ⟨h1, h2⟩ := Good.cons.1 hg
    rcases cmpB_tri y.f0 b with hb | hb | hb
    · rcases cmpB_tri y.f0 c with hc | hc | hc
      · rw [ins_lt hb, ins_lt hc, ins_lt hb, ins_lt hc, ins_comm ha hd h2]
      · rw [ins_lt hb, ins_eq hc, ins_eq hc, ins_lt (y := ⟨c, _⟩) (hc ▸ hb)]
      · rw [ins_lt hb, ins_gt hc, ins_gt hc, ins_lt (y := ⟨c, d⟩) (cmpB_trans hc hb), ins_lt hb]
    · rcases cmpB_tri y.f0 c with hc | hc | hc
      · rw [ins_lt hc, ins_eq hb, ins_eq hb, ins_lt (y := ⟨b, _⟩) (hb ▸ hc)]
      · rw [ins_eq hb, ins_eq hc, ins_eq (y := ⟨c, _⟩) (hc ▸ hb), ins_eq (y := ⟨b, _⟩) (hb ▸ hc), mergeA_assoc h1.1 hd.1 ha.1 h1.2 hd.2 ha.2, mergeA_assoc h1.1 ha.1 hd.1 h1.2 ha.2 hd.2, mergeA_comm hd.1 ha.1 hd.2 ha.2, ← hb, hc]
      · rw [ins_gt hc, ins_eq hb, ins_lt (y := ⟨c, d⟩) (hb ▸ hc), ins_eq hb, ins_gt (y := ⟨b, _⟩) (hb ▸ hc)]
    · rcases cmpB_tri y.f0 c with hc | hc | hc
      · rw [ins_lt hc, ins_gt hb, ins_gt hb, ins_lt (y := ⟨b, a⟩) (cmpB_trans hb hc), ins_lt hc]
      · rw [ins_eq hc, ins_gt hb, ins_gt (y := ⟨c, _⟩) (hc ▸ hb), ins_lt (y := ⟨b, a⟩) (hc ▸ hb), ins_eq hc]
      · rw [ins_gt hc, ins_gt hb]
        rcases cmpB_tri c b with h | h | h
        · rw [ins_lt (y := ⟨c, d⟩) h, ins_gt hb, ins_gt (y := ⟨b, a⟩) h]
        · rw [ins_eq (y := ⟨c, d⟩) h, ins_eq (y := ⟨b, a⟩) h.symm, h, mergeA_comm hd.1 ha.1 hd.2 ha.2]
        · rw [ins_gt (y := ⟨c, d⟩) h, ins_lt (y := ⟨b, a⟩) h, ins_gt hc]
theorem ins_twice {b : List Int} {a d : Ag} (ha : okP a) (hd : okP d) : ∀ {l : List En}, Good l → insE b a (insE b d l) = insE b (mergeA d a) l
  | [], _ => by
    show insE b a [⟨b, d⟩] = [⟨b, _⟩]
    rw [ins_eq (y := ⟨b, d⟩) rfl]
  | y :: r, hg => by
    have ⟨h1, h2⟩ := Good.cons.1 hg
    rcases cmpB_tri y.f0 b with h | h | h
    · rw [ins_lt h, ins_lt h, ins_lt h, ins_twice ha hd h2]
    · rw [ins_eq h, ins_eq h, ins_eq (y := ⟨b, _⟩) rfl, mergeA_assoc h1.1 hd.1 ha.1 h1.2 hd.2 ha.2]
    · rw [ins_gt h, ins_gt h, ins_eq (y := ⟨b, d⟩) rfl]
theorem ins_sorted {b : List Int} {a : Ag} : ∀ {l : List En}, SortedE l → SortedE (insE b a l) ∧ ∀ x, cmpB x b < 0 → (∀ y ∈ l, cmpB x y.f0 < 0) → ∀ y ∈ insE b a l, cmpB x y.f0 < 0
  | [], _ => ⟨List.pairwise_singleton _ _, fun x hx _ y hy => by obtain rfl := List.mem_singleton.1 hy; exact hx⟩
  | y :: r, hs => by
    have ⟨h1, h2⟩ := List.pairwise_cons.1 hs
    have ⟨i1, i2⟩ := ins_sorted (b := b) (a := a) h2
    rcases cmpB_tri y.f0 b with h | h | h
    · rw [ins_lt h]
      refine ⟨List.pairwise_cons.2 ⟨i2 _ h h1, i1⟩, fun x hx hl z hz => ?_⟩
      rcases List.mem_cons.1 hz with rfl | hz
      · exact hl _ (List.mem_cons_self)
      · exact i2 x hx (fun q hq => hl q (List.mem_cons_of_mem _ hq)) z hz
    · rw [ins_eq h]
      refine ⟨List.pairwise_cons.2 ⟨fun z hz => h ▸ h1 z hz, h2⟩, fun x hx hl z hz => ?_⟩
      rcases List.mem_cons.1 hz with rfl | hz
      · exact hx
      · exact hl z (List.mem_cons_of_mem _ hz)
    · rw [ins_gt h]
      refine ⟨List.pairwise_cons.2 ⟨fun z hz => ?_, hs⟩, fun x hx hl z hz => ?_⟩
      · rcases List.mem_cons.1 hz with rfl | hz
        · exact h
        · exact cmpB_trans h (h1 z hz)
      · rcases List.mem_cons.1 hz with rfl | hz
        · exact hx
        · exact hl z hz
theorem ins_len (b : List Int) (a : Ag) : ∀ l : List En, (insE b a l).length ≤ l.length + 1
  | [] => by simp [insE]
  | y :: r => by
    have := ins_len b a r
    rcases cmpB_tri y.f0 b with h | h | h
    · rw [ins_lt h]; simp; omega
    · rw [ins_eq h]; simp
    · rw [ins_gt h]; simp
theorem ins_mem {b : List Int} {a : Ag} {z : En} : ∀ {l : List En}, z ∈ insE b a l → z.f0 = b ∨ z ∈ l
  | [], h => .inl (by obtain rfl := List.mem_singleton.1 h; rfl)
  | y :: r, h => by
    rcases cmpB_tri y.f0 b with c | c | c
    · rw [ins_lt c] at h
      rcases List.mem_cons.1 h with rfl | h
      · exact .inr List.mem_cons_self
      · exact (ins_mem h).imp id (List.mem_cons_of_mem _)
    · rw [ins_eq c] at h
      rcases List.mem_cons.1 h with rfl | h
      · exact .inl rfl
      · exact .inr (List.mem_cons_of_mem _ h)
    · rw [ins_gt c] at h
      rcases List.mem_cons.1 h with rfl | h
      · exact .inl rfl
      · exact .inr h
def nrm : List En → List En
  | [] => []
  | x :: r => insE x.f0 x.f1 (nrm r)
theorem nrm_good : ∀ {l : List En}, Good l → Good (nrm l)
  | [], _ => Good.nil
  | _ :: _, h => good_ins (Good.cons.1 h).1 (nrm_good (Good.cons.1 h).2)
theorem nrm_sorted : ∀ l : List En, SortedE (nrm l)
  | [] => List.Pairwise.nil
  | _ :: r => (ins_sorted (nrm_sorted r)).1
theorem nrm_len : ∀ l : List En, (nrm l).length ≤ l.length
  | [] => Nat.le_refl _
  | x :: r => by
    have := ins_len x.f0 x.f1 (nrm r)
    have := nrm_len r
    simp only [nrm, List.length_cons]; omega
theorem nrm_mem {z : En} : ∀ {l : List En}, z ∈ nrm l → ∃ x ∈ l, z.f0 = x.f0
  | [], h => by cases h
  | x :: r, h => by
    rcases ins_mem h with h | h
    · exact ⟨x, List.mem_cons_self, h⟩
    · obtain ⟨q, hq, e⟩ := nrm_mem h
      exact ⟨q, List.mem_cons_of_mem _ hq, e⟩
theorem nrm_snoc {x : En} (hx : okP x.f1) : ∀ {l : List En}, Good l → nrm (l ++ [x]) = insE x.f0 x.f1 (nrm l)
  | [], _ => rfl
  | y :: r, h => by
    show insE y.f0 y.f1 (nrm (r ++ [x])) = insE x.f0 x.f1 (insE y.f0 y.f1 (nrm r))
    rw [nrm_snoc hx (Good.cons.1 h).2, ins_comm (Good.cons.1 h).1 hx (nrm_good (Good.cons.1 h).2)]
def mapE (f : List Int → Option (List Int)) : List En → List En
  | [] => []
  | x :: r => match f x.f0 with
    | some b => ⟨b, x.f1⟩ :: mapE f r
    | none => mapE f r
theorem mapE_some {f : List Int → Option (List Int)} {x : En} {r : List En} {b : List Int} (h : f x.f0 = some b) : mapE f (x :: r) = ⟨b, x.f1⟩ :: mapE f r := by simp only [mapE, h]
theorem mapE_none {f : List Int → Option (List Int)} {x : En} {r : List En} (h : f x.f0 = none) : mapE f (x :: r) = mapE f r := by simp only [mapE, h]
theorem mapE_good {f : List Int → Option (List Int)} : ∀ {l : List En}, Good l → Good (mapE f l)
  | [], _ => Good.nil
  | x :: r, h => by
    have ⟨h1, h2⟩ := Good.cons.1 h
    cases e : f x.f0 with
    | none => rw [mapE_none e]; exact mapE_good h2
    | some b => rw [mapE_some e]; exact Good.cons.2 ⟨h1, mapE_good h2⟩
theorem mapE_len (f : List Int → Option (List Int)) : ∀ l : List En, (mapE f l).length ≤ l.length
  | [] => Nat.le_refl _
  | x :: r => by
    have := mapE_len f r
    cases e : f x.f0 with
    | none => rw [mapE_none e]; simp; omega
    | some b => rw [mapE_some e]; simp; omega
theorem mapE_mem {f : List Int → Option (List Int)} {z : En} : ∀ {l : List En}, z ∈ mapE f l → ∃ x ∈ l, f x.f0 = some z.f0 ∧ z.f1 = x.f1
  | [], h => by cases h
  | x :: r, h => by
    cases e : f x.f0 with
    | none =>
      rw [mapE_none e] at h
      obtain ⟨q, hq, h⟩ := mapE_mem h
      exact ⟨q, List.mem_cons_of_mem _ hq, h⟩
    | some b =>
      rw [mapE_some e] at h
      rcases List.mem_cons.1 h with rfl | h
      · exact ⟨x, List.mem_cons_self, e, rfl⟩
      · obtain ⟨q, hq, h⟩ := mapE_mem h
        exact ⟨q, List.mem_cons_of_mem _ hq, h⟩
theorem mapE_ins (f : List Int → Option (List Int)) {b : List Int} {a : Ag} (ha : okP a) : ∀ {l : List En}, Good l → nrm (mapE f (insE b a l)) = match f b with
    | some c => insE c a (nrm (mapE f l))
    | none => nrm (mapE f l)
  | [], _ => by
    show nrm (mapE f [⟨b, a⟩]) = _
    cases e : f b with
    | none => rw [mapE_none (x := ⟨b, a⟩) e]
    | some c => rw [mapE_some (x := ⟨b, a⟩) e]; rfl
  | y :: r, hg => by
    have ⟨h1, h2⟩ := Good.cons.1 hg
    have hr := nrm_good (mapE_good (f := f) h2)
    rcases cmpB_tri y.f0 b with h | h | h
    · have ih := mapE_ins f (b := b) ha h2
      rw [ins_lt h]
      cases ey : f y.f0 with
      | none => rw [mapE_none ey, mapE_none ey, ih]
      | some d =>
        rw [mapE_some ey, mapE_some ey]
        show insE d y.f1 (nrm (mapE f (insE b a r))) = _
        rw [ih]
        cases e : f b with
        | none => rfl
        | some c => exact ins_comm h1 ha hr
    · rw [ins_eq h]
      subst h
      cases e : f y.f0 with
      | none => rw [mapE_none (x := y) e, mapE_none (x := ⟨y.f0, mergeA y.f1 a⟩) e]
      | some c =>
        rw [mapE_some (x := y) e, mapE_some (x := ⟨y.f0, mergeA y.f1 a⟩) e]
        exact (ins_twice ha h1 hr).symm
    · rw [ins_gt h]
      cases e : f b with
      | none => rw [mapE_none (x := ⟨b, a⟩) e]
      | some c => rw [mapE_some (x := ⟨b, a⟩) e]; rfl
theorem mapE_nrm (f : List Int → Option (List Int)) : ∀ {l : List En}, Good l → nrm (mapE f (nrm l)) = nrm (mapE f l)
  | [], _ => rfl
  | x :: r, h => by
    have ⟨h1, h2⟩ := Good.cons.1 h
    show nrm (mapE f (insE x.f0 x.f1 (nrm r))) = _
    rw [mapE_ins f h1 (nrm_good h2), mapE_nrm f h2]
    cases e : f x.f0 with
    | none => rw [mapE_none e]
    | some c => rw [mapE_some e]; rfl
theorem mapE_mapE {f g h : List Int → Option (List Int)} : ∀ {l : List En}, (∀ x ∈ l, (f x.f0).bind g = h x.f0) → mapE g (mapE f l) = mapE h l
  | [], _ => rfl
  | x :: r, hh => by
    have h0 := hh x List.mem_cons_self
    have ih := mapE_mapE (f := f) (g := g) (h := h) (l := r) (fun y hy => hh y (List.mem_cons_of_mem _ hy))
    cases e : f x.f0 with
    | none => rw [e] at h0; rw [mapE_none e, mapE_none (f := h) h0.symm, ih]
    | some b =>
      rw [e] at h0
      rw [mapE_some e]
      cases e2 : g b with
      | none => rw [mapE_none (x := ⟨b, _⟩) e2, mapE_none (f := h) (by rw [← h0]; exact e2), ih]
      | some c => rw [mapE_some (x := ⟨b, _⟩) e2, mapE_some (f := h) (b := c) (by rw [← h0]; exact e2), ih]
theorem fold_fold {f g h : List Int → Option (List Int)} {l : List En} (hg : Good l) (hh : ∀ x ∈ l, (f x.f0).bind g = h x.f0) : nrm (mapE g (nrm (mapE f l))) = nrm (mapE h l) := by
  rw [mapE_nrm g (mapE_good hg), mapE_mapE hh]
end Go.Proofs.Ytjemmmemenljbaa.PFold
end
section
namespace Go.Proofs.Ytjemmmemenljbaa.GrainM
def T : Int := 1099511627776
def isT (t : Int) : Prop := 0 ≤ t ∧ t ≤ 1099511627776
instance (t : Int) : Decidable (isT t) := by unfold isT; infer_instance
structure Rt (n : Nat) (sz ag : Nat → Int) (keep : Int) : Prop where
  one : 1 ≤ n
  four : n ≤ 4
  first : ag 0 = 0
  size : ∀ i, i < n → 1 ≤ sz i ∧ sz i ≤ 1099511627776
  age : ∀ i, i < n → 0 ≤ ag i ∧ ag i ≤ 1099511627776
  up : ∀ i, i + 1 < n → sz i < sz (i + 1) ∧ sz (i + 1) % sz i = 0 ∧ ag i ≤ ag (i + 1)
  kept : ag (n - 1) ≤ keep
  most : keep ≤ 2199023255552
def en (t s : Int) : Int := t - t % s + s
def old (sz ag : Nat → Int) (t w : Int) (i : Nat) : Prop := en t (sz i) ≤ w - ag i
structure IsStep (n : Nat) (sz ag : Nat → Int) (t w : Int) (s : Nat) : Prop where
  lt : s < n
  below : ∀ i, 0 < i → i ≤ s → old sz ag t w i
  above : s + 1 < n → ¬ old sz ag t w (s + 1)
theorem en_mul (t s : Int) : en t s = s * (t / s + 1) := by
  unfold en
  have h := Int.emod_add_mul_ediv t s
  rw [Int.mul_add, Int.mul_one]
  omega
theorem fl_mul (t s : Int) : t - t % s = s * (t / s) := by
  have h := Int.emod_add_mul_ediv t s
  omega
theorem fl_le {t s : Int} (hs : 1 ≤ s) : t - t % s ≤ t := by
  have := Int.emod_nonneg t (show s ≠ 0 by omega)
  omega
theorem fl_nonneg {t s : Int} (ht : 0 ≤ t) (hs : 1 ≤ s) : 0 ≤ t - t % s := by
  rw [fl_mul]
  exact Int.mul_nonneg (by omega) (Int.ediv_nonneg ht (by omega))
theorem dvd_of {a b : Int} (h : b % a = 0) : ∃ m, b = a * m := ⟨b / a, by have := Int.emod_add_mul_ediv b a; rw [h] at this; omega⟩
theorem nest {t s s' : Int} (hs : 1 ≤ s) (hs' : 1 ≤ s') (hd : s' % s = 0) : t - t % s' ≤ t - t % s ∧ en t s ≤ en t s' := by
  obtain ⟨m, rfl⟩ := dvd_of hd
  have hm : 0 < m := by
    rcases Int.lt_or_le 0 m with h | h
    · exact h
    · exfalso
      have : s * m ≤ 0 := Int.mul_nonpos_of_nonneg_of_nonpos (by omega) h
      omega
  have e : t / (s * m) = t / s / m := (Int.ediv_ediv_of_nonneg (x := t) (y := s) (by omega : (0 : Int) ≤ s)).symm
  have h1 : t / s / m * m ≤ t / s := Int.ediv_mul_le _ (by omega)
  have h2 : t / s < (t / s / m + 1) * m := Int.lt_ediv_add_one_mul_self _ hm
  constructor
  · rw [fl_mul, fl_mul, e, Int.mul_assoc]
    apply Int.mul_le_mul_of_nonneg_left _ (by omega : (0 : Int) ≤ s)
    rw [Int.mul_comm]; exact h1
  · rw [en_mul, en_mul, e, Int.mul_assoc]
    apply Int.mul_le_mul_of_nonneg_left _ (by omega : (0 : Int) ≤ s)
    rw [Int.mul_comm]; omega
theorem same_up {t u s s' : Int} (hs : 1 ≤ s) (hs' : 1 ≤ s') (hd : s' % s = 0) (h : t - t % s = u - u % s) : t - t % s' = u - u % s' := by
  obtain ⟨m, rfl⟩ := dvd_of hd
  rw [fl_mul, fl_mul] at h ⊢
  have hq : t / s = u / s := Int.eq_of_mul_eq_mul_left (show s ≠ 0 by omega) h
  rw [← Int.ediv_ediv_of_nonneg (x := t) (y := s) (by omega : (0 : Int) ≤ s), ← Int.ediv_ediv_of_nonneg (x := u) (y := s) (by omega : (0 : Int) ≤ s), hq]
theorem en_same {t u s : Int} (h : t - t % s = u - u % s) : en t s = en u s := by unfold en; omega
section
variable {n : Nat} {sz ag : Nat → Int} {keep : Int}
theorem Rt.mod (R : Rt n sz ag keep) {i j : Nat} (hij : i ≤ j) (hj : j < n) : sz j % sz i = 0 := by
  induction j with
  | zero => obtain rfl : i = 0 := by omega
            exact Int.emod_self
  | succ j ih =>
    rcases Nat.lt_or_ge i (j + 1) with h | h
    · obtain ⟨a, ha⟩ := dvd_of (ih (by omega) (by omega))
      obtain ⟨b, hb⟩ := dvd_of (R.up j hj).2.1
      rw [hb, ha, Int.mul_assoc]
      exact Int.mul_emod_right _ _
    · obtain rfl : i = j + 1 := by omega
      exact Int.emod_self
theorem Rt.ages (R : Rt n sz ag keep) {i j : Nat} (hij : i ≤ j) (hj : j < n) : ag i ≤ ag j := by
  induction j with
  | zero => obtain rfl : i = 0 := by omega
            exact Int.le_refl _
  | succ j ih =>
    rcases Nat.lt_or_ge i (j + 1) with h | h
    · have := ih (by omega) (by omega)
      have := (R.up j hj).2.2
      omega
    · obtain rfl : i = j + 1 := by omega
      exact Int.le_refl _
theorem Rt.old_down (R : Rt n sz ag keep) {t w : Int} {i j : Nat} (hij : i ≤ j) (hj : j < n) (h : old sz ag t w j) : old sz ag t w i := by
  unfold old at h ⊢
  have := (nest (t := t) (R.size i (by omega)).1 (R.size j hj).1 (R.mod hij hj)).2
  have := R.ages hij hj
  omega
theorem old_later {t w w' : Int} {i : Nat} (h : old sz ag t w i) (hw : w ≤ w') : old sz ag t w' i := by
  unfold old at h ⊢; omega
theorem Rt.step_of (R : Rt n sz ag keep) {t w : Int} {s i : Nat} (S : IsStep n sz ag t w s) (h0 : 0 < i) (hi : i < n) : old sz ag t w i ↔ i ≤ s := by
  constructor
  · intro h
    rcases Nat.lt_or_ge s i with hlt | hge
    · exact absurd (R.old_down hlt hi h) (S.above (by omega))
    · exact hge
  · exact S.below i h0
theorem Rt.step_unique (R : Rt n sz ag keep) {t w : Int} {s s' : Nat} (S : IsStep n sz ag t w s) (S' : IsStep n sz ag t w s') : s = s' := by
  rcases Nat.lt_trichotomy s s' with h | h | h
  · have := (R.step_of S (i := s') (by omega) S'.lt).1 (S'.below s' (by omega) (Nat.le_refl _)); omega
  · exact h
  · have := (R.step_of S' (i := s) (by omega) S.lt).1 (S.below s (by omega) (Nat.le_refl _)); omega
theorem Rt.step_ex (R : Rt n sz ag keep) (t w : Int) : ∃ s, IsStep n sz ag t w s := by
  have key : ∀ m, m < n → (∀ i, 0 < i → i ≤ m → old sz ag t w i) → ∃ s, IsStep n sz ag t w s := by
    intro m hm
    induction hd : n - m generalizing m with
    | zero => omega
    | succ d ih =>
      intro h
      by_cases hn : m + 1 < n
      · by_cases ho : old sz ag t w (m + 1)
        · refine ih (m + 1) hn (by omega) (fun i h0 hi => ?_)
          rcases Nat.lt_or_ge i (m + 1) with hlt | hge
          · exact h i h0 (by omega)
          · obtain rfl : i = m + 1 := by omega
            exact ho
        · exact ⟨m, hm, h, fun _ => ho⟩
      · exact ⟨m, hm, h, fun hc => absurd hc hn⟩
  exact key 0 R.one (fun i h0 hi => by omega)
theorem Rt.never (R : Rt n sz ag keep) {t w w' : Int} {a b : Nat} (A : IsStep n sz ag t w a) (B : IsStep n sz ag t w' b) (hw : w ≤ w') : a ≤ b := by
  rcases Nat.eq_zero_or_pos a with h | h
  · omega
  · exact (R.step_of B h A.lt).1 (old_later (A.below a h (Nat.le_refl _)) hw)
end
end Go.Proofs.Ytjemmmemenljbaa.GrainM
end
section
namespace Go.Proofs.Ytjemmmemenljbaa.GrainM
theorem fl_mod {t s : Int} : (t - t % s) % s = 0 := by rw [fl_mul]; exact Int.mul_emod_right _ _
section
variable {n : Nat} {sz ag : Nat → Int} {keep : Int}
theorem Rt.floors (R : Rt n sz ag keep) {t : Int} {m j : Nat} (h : m ≤ j) (hj : j < n) : (t - t % sz m) - (t - t % sz m) % sz j = t - t % sz j :=
  same_up (R.size m (by omega)).1 (R.size j hj).1 (R.mod h hj) (by rw [fl_mod]; omega)
theorem Rt.again (R : Rt n sz ag keep) {t w w' : Int} {g s m s1 s2 : Nat} (hw : w ≤ w') (S : IsStep n sz ag t w s) (hm : m = max g s) (hg : g < n) (h0 : t % sz g = 0) (S1 : IsStep n sz ag t w' s1)
    (S2 : IsStep n sz ag (t - t % sz m) w' s2) : max m s2 = max g s1 := by
  have hs := R.never S S1 hw
  have hsn := S.lt
  have hmn : m < n := by rw [hm]; exact Nat.max_lt.2 ⟨hg, hsn⟩
  rcases Nat.lt_or_ge s1 m with h | h
  · have e : m = g := by omega
    rw [e, h0, Int.sub_zero] at S2
    have := R.step_unique S1 S2
    omega
  · have h1 := S1.lt
    have : IsStep n sz ag (t - t % sz m) w' s1 := by
      have eo : ∀ j, m ≤ j → j < n → (old sz ag (t - t % sz m) w' j ↔ old sz ag t w' j) := fun j hj hn => by
        unfold old; rw [en_same (R.floors hj hn)]
      refine ⟨h1, fun i hi his => ?_, fun hn ho => S1.above hn ((eo (s1 + 1) (by omega) hn).1 ho)⟩
      rcases Nat.lt_or_ge i m with hl | hl
      · exact R.old_down (Nat.le_of_lt hl) (by omega) ((eo m (Nat.le_refl _) (by omega)).2 (S1.below m (by omega) h))
      · exact (eo i hl (by omega)).2 (S1.below i hi his)
    have := R.step_unique this S2
    omega
end
end Go.Proofs.Ytjemmmemenljbaa.GrainM
end
section
namespace Go.Proofs.Ytjemmmemenljbaa.GrainL
open Go.RowKit Go.Proofs.YtjemmmemenljbaaW.PrintWords Go.Proofs.YtjemmmemenljbaaW.PrintLast Go.Proofs.Ytjemmmemenljbaa.PFold Go.Proofs.Ytjemmmemenljbaa.GrainM
abbrev Gr := S67
def sz (gs : List Gr) (i : Nat) : Int := (rd_T67 gs (i : Int)).f0
def ag (gs : List Gr) (i : Nat) : Int := (rd_T67 gs (i : Int)).f1
def Rgt (gs : List Gr) (keep : Int) : Prop := Rt gs.length (sz gs) (ag gs) keep
theorem w64 {x : Int} (h0 : -9223372036854775808 ≤ x) (h1 : x ≤ 9223372036854775807) : wrap64 x = x := by unfold wrap64; omega
theorem tmod_emod {a b : Int} (h : 0 ≤ a) : Int.tmod a b = a % b := Int.tmod_eq_emod_of_nonneg h
def good (gs : List Gr) (i : Nat) : Prop := 1 ≤ sz gs i ∧ sz gs i ≤ 1099511627776 ∧ ag gs i ≤ 1099511627776 ∧ (0 < i → sz gs (i - 1) < sz gs i ∧ Int.tmod (sz gs i) (sz gs (i - 1)) = 0 ∧ ag gs (i - 1) ≤ ag gs i)
theorem right_good {gs : List Gr} {keep : Int} {n i k : Nat} {b : Bool} (hn : gs.length = n) (h4 : n ≤ 4) (hi : i < n) (hp : 0 < i → 1 ≤ sz gs (i - 1)) (h : good gs i) :
    grain_Right.l0 (k + 3) n b n i gs keep = grain_Right.l0 k n true n ((i + 1 : Nat) : Int) gs keep := by
  obtain ⟨h1, h2, h3, h5⟩ := h
  unfold sz at h1 h2 hp h5
  unfold ag at h3 h5
  have e1 : wrap64 ((i : Int) + 1) = ((i + 1 : Nat) : Int) := by rw [w64] <;> omega
  simp only [grain_Right.l0]
  rw [if_pos (by omega), if_pos (by omega), if_pos (by omega), if_pos (by omega), if_pos (by omega)]
  simp only [grain_Right.j2]
  rw [if_pos (by simpa using h3)]
  simp only [grain_Right.j3, e1]
  rcases Nat.eq_zero_or_pos i with hz | hz
  · subst hz
    rw [if_neg (by simp), if_pos (by simpa using h3)]
    congr 1
    simpa using h3
  · obtain ⟨g1, g2, g3⟩ := h5 hz
    have e2 : wrap64 ((i : Int) - 1) = ((i - 1 : Nat) : Int) := by rw [w64] <;> omega
    have hp := hp hz
    rw [if_pos (by simpa using hz), e2, if_pos (by omega), if_pos (by omega), if_pos (by omega), if_neg (by omega), if_pos g2, if_pos (by omega)]
    congr 1
    simpa using g3
theorem right_bad {gs : List Gr} {keep : Int} {n i k : Nat} {b : Bool} (hn : gs.length = n) (h4 : n ≤ 4) (hi : i < n) (hp : 0 < i → 1 ≤ sz gs (i - 1)) (h : ¬ good gs i) :
    grain_Right.l0 (k + 3) n b n i gs keep = some false := by
  unfold good at h
  unfold sz at h hp
  unfold ag at h
  have e3 : wrap64 ((i : Int) + 1) = ((i + 1 : Nat) : Int) := by rw [w64] <;> omega
  simp only [grain_Right.l0]
  rw [if_pos (by omega), if_pos (by omega), if_pos (by omega)]
  by_cases h1 : (rd_T67 gs (i : Int)).f0 ≥ 1
  · rw [if_pos h1]
    by_cases h2 : (rd_T67 gs (i : Int)).f0 ≤ 1099511627776
    · rw [if_pos h2]
      simp only [grain_Right.j2]
      by_cases h3 : (rd_T67 gs (i : Int)).f1 ≤ 1099511627776
      · rw [if_pos (by simpa using h3)]
        simp only [grain_Right.j3]
        have hz : 0 < i := by
          rcases Nat.eq_zero_or_pos i with hz | hz
          · exact absurd ⟨h1, h2, h3, fun hc => by omega⟩ h
          · exact hz
        have e2 : wrap64 ((i : Int) - 1) = ((i - 1 : Nat) : Int) := by rw [w64] <;> omega
        have hp := hp hz
        rw [if_pos (by simpa using hz), e2, if_pos (by omega), if_pos (by omega)]
        by_cases g1 : (rd_T67 gs (i : Int)).f0 > (rd_T67 gs ((i - 1 : Nat) : Int)).f0
        · rw [if_pos g1, if_neg (by omega)]
          by_cases g2 : Int.tmod (rd_T67 gs (i : Int)).f0 (rd_T67 gs ((i - 1 : Nat) : Int)).f0 = 0
          · rw [if_pos g2]
            have g3 : ¬ (rd_T67 gs (i : Int)).f1 ≥ (rd_T67 gs ((i - 1 : Nat) : Int)).f1 := fun g3 => h ⟨h1, h2, h3, fun _ => ⟨g1, g2, g3⟩⟩
            rw [if_neg g3, if_neg g3]
          · rw [if_neg g2]
        · rw [if_neg g1]
      · rw [if_neg (by simpa using h3)]
        simp [grain_Right.j3, h3]
    · rw [if_neg h2]
      simp [grain_Right.j2, grain_Right.j3]
  · rw [if_neg h1]
    simp [grain_Right.j2, grain_Right.j3]
def goods (gs : List Gr) (keep : Int) (n i : Nat) : Prop := (∀ j, i ≤ j → j < n → good gs j) ∧ ag gs (n - 1) ≤ keep ∧ keep ≤ 2199023255552
open Classical in
theorem right_from {gs : List Gr} {keep : Int} {n : Nat} (hn : gs.length = n) (h0 : 1 ≤ n) (h4 : n ≤ 4) (d : Nat) : ∀ (i k : Nat), n - i = d → i ≤ n → (0 < i → 1 ≤ sz gs (i - 1)) →
    grain_Right.l0 (k + 3 * d + 1) n true n i gs keep = some (decide (goods gs keep n i)) := by
  induction d with
  | zero =>
    intro i k hd hi hp
    obtain rfl : i = n := by omega
    have e2 : wrap64 ((i : Int) - 1) = ((i - 1 : Nat) : Int) := by rw [w64] <;> omega
    simp only [grain_Right.l0]
    rw [if_neg (by omega), if_pos trivial, e2, if_pos (by omega), if_pos (by omega)]
    have hg : goods gs keep i i ↔ ag gs (i - 1) ≤ keep ∧ keep ≤ 2199023255552 := by
      unfold goods
      exact ⟨fun h => h.2, fun h => ⟨fun j h1 h2 => by omega, h⟩⟩
    by_cases hk : keep ≥ (rd_T67 gs ((i - 1 : Nat) : Int)).f1
    · rw [if_pos hk]
      congr 1
      apply decide_eq_decide.2
      rw [hg]
      exact ⟨fun h => ⟨hk, h⟩, fun h => h.2⟩
    · rw [if_neg hk]
      congr 1
      symm
      rw [decide_eq_false_iff_not, hg]
      exact fun h => hk h.1
  | succ d ih =>
    intro i k hd hi hp
    rw [show k + 3 * (d + 1) + 1 = (k + 3 * d + 1) + 3 from by omega]
    by_cases hg : good gs i
    · rw [right_good hn h4 (by omega) hp hg, ih (i + 1) k (by omega) (by omega) (fun _ => hg.1)]
      congr 1
      apply decide_eq_decide.2
      unfold goods
      refine ⟨fun h => ⟨fun j h1 h2 => ?_, h.2⟩, fun h => ⟨fun j h1 h2 => h.1 j (by omega) h2, h.2⟩⟩
      rcases Nat.lt_or_ge i j with hl | hl
      · exact h.1 j hl h2
      · obtain rfl : j = i := by omega
        exact hg
    · rw [right_bad hn h4 (by omega) hp hg]
      congr 1
      symm
      rw [decide_eq_false_iff_not]
      exact fun h => hg (h.1 i (Nat.le_refl _) (by omega))
theorem rgt_iff {gs : List Gr} {keep : Int} : Rgt gs keep ↔ 1 ≤ gs.length ∧ gs.length ≤ 4 ∧ ag gs 0 = 0 ∧ goods gs keep gs.length 0 := by
  unfold goods
  constructor
  · intro R
    refine ⟨R.one, R.four, R.first, fun j _ hj => ?_, R.kept, R.most⟩
    have hs := R.size j hj
    refine ⟨hs.1, hs.2, (R.age j hj).2, fun h0 => ?_⟩
    have hu := R.up (j - 1) (by omega)
    rw [show j - 1 + 1 = j from by omega] at hu
    exact ⟨hu.1, by rw [tmod_emod (by omega)]; exact hu.2.1, hu.2.2⟩
  · rintro ⟨h1, h4, h0, hg, hk, hm⟩
    have hages : ∀ i, i < gs.length → 0 ≤ ag gs i := by
      intro i
      induction i with
      | zero => intro _; omega
      | succ i ih =>
        intro hi
        have := ((hg (i + 1) (by omega) hi).2.2.2 (by omega)).2.2
        have := ih (by omega)
        simp only [Nat.add_sub_cancel] at *
        omega
    refine ⟨h1, h4, h0, fun i hi => ⟨(hg i (by omega) hi).1, (hg i (by omega) hi).2.1⟩, fun i hi => ⟨hages i hi, (hg i (by omega) hi).2.2.1⟩, fun i hi => ?_, hk, hm⟩
    obtain ⟨a, b, c⟩ := (hg (i + 1) (by omega) hi).2.2.2 (by omega)
    simp only [Nat.add_sub_cancel] at a b c
    refine ⟨a, ?_, c⟩
    rw [← tmod_emod (by have := (hg (i + 1) (by omega) hi).1; omega)]
    exact b
open Classical in
theorem right_tells (gs : List Gr) (keep : Int) : Ev (fun k => grain_Right.f k gs keep) (decide (Rgt gs keep)) := by
  refine ⟨20, fun k hk => ?_⟩
  obtain ⟨k, rfl⟩ : ∃ m, k = m + 20 := ⟨k - 20, by omega⟩
  show grain_Right.f (k + 20) gs keep = _
  unfold grain_Right.f
  by_cases h1 : (gs.length : Int) < 1
  · rw [if_pos h1]
    simp only [grain_Right.j0]
    rw [if_pos trivial]
    congr 1
    symm
    rw [decide_eq_false_iff_not, rgt_iff]
    intro h; omega
  · rw [if_neg h1]
    by_cases h2 : (gs.length : Int) > 4
    · rw [if_pos h2]
      simp only [grain_Right.j0]
      rw [if_pos trivial]
      congr 1
      symm
      rw [decide_eq_false_iff_not, rgt_iff]
      intro h; omega
    · rw [if_neg h2, if_pos (by omega)]
      simp only [grain_Right.j0]
      by_cases h3 : (rd_T67 gs 0).f1 = 0
      · rw [if_neg (by simpa using h3)]
        have := right_from (gs := gs) (keep := keep) rfl (by omega) (by omega) gs.length 0 (k + 18 - 3 * gs.length) (by omega) (by omega) (by omega)
        rw [show k + 18 - 3 * gs.length + 3 * gs.length + 1 = k + 19 from by omega] at this
        refine (this.trans ?_)
        congr 1
        apply decide_eq_decide.2
        rw [rgt_iff]
        exact ⟨fun h => ⟨by omega, by omega, h3, h⟩, fun h => h.2.2.2⟩
      · rw [if_pos (by simpa using h3)]
        congr 1
        symm
        rw [decide_eq_false_iff_not, rgt_iff]
        intro h; exact h3 h.2.2.1
theorem isTime_tells (t : Int) : grain_isTime.f t = some (decide (isT t)) := by
  have e : isT t ↔ (t ≥ 0 ∧ t ≤ 1099511627776) := Iff.rfl
  unfold grain_isTime.f
  by_cases h : t ≥ 0 <;> by_cases h' : t ≤ 1099511627776 <;> simp [h, h', e]
open Classical in
noncomputable def fitE (gs : List Gr) (keep t w : Int) : Int := if Rgt gs keep then (if isT t ∧ isT w then 0 else 1) else 30
theorem fits_tells (gs : List Gr) (keep t w : Int) : Ev (fun k => grain_fits.f k gs keep t w) (fitE gs keep t w) := by
  unfold grain_fits.f fitE
  refine Ev.bind (right_tells gs keep) ?_
  by_cases hR : Rgt gs keep
  · simp only [hR, decide_true, if_true, isTime_tells, Option.bind_some]
    by_cases h1 : isT t <;> by_cases h2 : isT w <;> simp [h1, h2] <;> exact Ev.now _
  · simp [hR]; exact Ev.now _
theorem fitE_zero {gs : List Gr} {keep t w : Int} : fitE gs keep t w = 0 ↔ Rgt gs keep ∧ isT t ∧ isT w := by
  unfold fitE
  by_cases h : Rgt gs keep <;> by_cases h2 : isT t ∧ isT w <;> simp [h, h2]
theorem end_tells {t s : Int} (ht : isT t) (h1 : 1 ≤ s) (h2 : s ≤ 1099511627776) : grain_end.f t s = some (en t s) := by
  unfold grain_end.f en
  obtain ⟨h3, h4⟩ := ht
  have h5 := Int.emod_nonneg t (show s ≠ 0 by omega)
  have h6 := Int.emod_lt_of_pos t (show 0 < s by omega)
  rw [if_neg (by omega), tmod_emod h3, w64 (x := t - t % s) (by omega) (by omega), w64 (by omega) (by omega)]
theorem step_from {gs : List Gr} {keep t w : Int} (R : Rgt gs keep) (ht : isT t) (hw : isT w) (d : Nat) : ∀ (i s k : Nat), gs.length - i = d → i ≤ gs.length → s + 1 = i →
    (∀ j, 0 < j → j ≤ s → old (sz gs) (ag gs) t w j) → ∃ r : Nat, grain_Step.l0 (k + d + 1) t w s gs.length i gs keep = some ((r : Int), 0) ∧ IsStep gs.length (sz gs) (ag gs) t w r := by
  have h4 := R.four
  induction d with
  | zero =>
    intro i s k hd hi hs ho
    refine ⟨s, ?_, by omega, ho, fun hc => by omega⟩
    simp only [grain_Step.l0]
    rw [if_neg (by omega)]
  | succ d ih =>
    intro i s k hd hi hs ho
    have hlt : i < gs.length := by omega
    have ha := R.age i hlt
    have hsz := R.size i hlt
    have e1 : wrap64 ((i : Int) + 1) = ((i + 1 : Nat) : Int) := by rw [w64] <;> omega
    have e2 : wrap64 (w - (rd_T67 gs (i : Int)).f1) = w - ag gs i := by
      rw [w64]
      · rfl
      · unfold ag at ha; unfold isT at hw; omega
      · unfold ag at ha; unfold isT at hw; omega
    rw [show k + (d + 1) + 1 = (k + d + 1) + 1 from by omega]
    simp only [grain_Step.l0]
    rw [if_pos (by omega), if_neg (by omega), if_pos (by omega), if_pos (by omega), e2, e1]
    have e3 : grain_end.f t (rd_T67 gs (i : Int)).f0 = some (en t (sz gs i)) := end_tells ht hsz.1 hsz.2
    rw [e3]
    simp only [Option.bind_some]
    by_cases hold : old (sz gs) (ag gs) t w i
    · rw [if_neg (by unfold old at hold; omega)]
      exact ih (i + 1) i k (by omega) (by omega) rfl (fun j h0 hj => by
        rcases Nat.lt_or_ge j i with hl | hl
        · exact ho j h0 (by omega)
        · obtain rfl : j = i := by omega
          exact hold)
    · rw [if_pos (by unfold old at hold; omega)]
      exact ⟨s, rfl, by omega, ho, fun _ => by rw [hs]; exact hold⟩
theorem step_tells {gs : List Gr} {keep t w : Int} (R : Rgt gs keep) (ht : isT t) (hw : isT w) {s : Nat} (S : IsStep gs.length (sz gs) (ag gs) t w s) : Ev (fun k => grain_Step.f k gs keep t w) ((s : Int), 0) := by
  unfold grain_Step.f
  refine Ev.bind (fits_tells gs keep t w) ?_
  rw [fitE_zero.2 ⟨R, ht, hw⟩]
  simp only [if_true]
  have h4 := R.four
  have h1 := R.one
  refine ⟨gs.length + 1, fun k hk => ?_⟩
  obtain ⟨k, rfl⟩ : ∃ m, k = (m + (gs.length - 1) + 1) + 1 := ⟨k - gs.length - 1, by omega⟩
  obtain ⟨r, hr, hS⟩ := step_from R ht hw (gs.length - 1) 1 0 k (by omega) h1 rfl (fun j h0 hj => by omega)
  obtain rfl := R.step_unique hS S
  rw [← hr]
  generalize k + (gs.length - 1) + 1 = m
  simp only [grain_Step.l0]
  rw [if_pos (by omega), if_pos trivial, show wrap64 (0 + 1) = ((1 : Nat) : Int) from by rw [w64] <;> omega]
  rfl
end Go.Proofs.Ytjemmmemenljbaa.GrainL
end
section
namespace Go.Proofs.Ytjemmmemenljbaa.GrainL
open Go.RowKit Go.Proofs.YtjemmmemenljbaaW.PrintWords Go.Proofs.YtjemmmemenljbaaW.PrintLast Go.Proofs.Ytjemmmemenljbaa.PFold Go.Proofs.Ytjemmmemenljbaa.GrainM
theorem rd_sz (gs : List Gr) (i : Nat) : (rd_T67 gs (i : Int)).f0 = sz gs i := rfl
open Classical in
theorem expired_tells {gs : List Gr} {keep t w : Int} (R : Rgt gs keep) (ht : isT t) (hw : isT w) :
    Ev (fun k => grain_Expired.f k gs keep t w) (decide (en t (sz gs (gs.length - 1)) ≤ w - keep), 0) := by
  unfold grain_Expired.f
  refine Ev.bind (fits_tells gs keep t w) ?_
  have h1 := R.one
  have h4 := R.four
  have hk : ag gs (gs.length - 1) ≤ keep := R.kept
  have ha := R.age (gs.length - 1) (by omega)
  have hm : keep ≤ 2199023255552 := R.most
  have hs := R.size (gs.length - 1) (by omega)
  have e : wrap64 ((gs.length : Int) - 1) = ((gs.length - 1 : Nat) : Int) := by rw [w64] <;> omega
  have e2 : wrap64 (w - keep) = w - keep := by
    obtain ⟨h8, h9⟩ := hw
    rw [w64] <;> omega
  simp only [fitE_zero.2 ⟨R, ht, hw⟩, if_true, e, rd_sz, e2]
  simp only [if_pos (show (0 : Int) ≤ ((gs.length - 1 : Nat) : Int) by omega), if_pos (show ((gs.length - 1 : Nat) : Int) < (gs.length : Int) by omega), end_tells ht hs.1 hs.2, Option.bind_some]
  have : (decide (en t (sz gs (gs.length - 1)) ≤ w - keep)) = @decide (en t (sz gs (gs.length - 1)) ≤ w - keep) (propDecidable _) := by congr
  rw [this]
  exact Ev.now _
theorem floor_tells {t s : Int} (ht : isT t) (h1 : 1 ≤ s) (h2 : s ≤ 1099511627776) : grain_Floor.f t s = some (t - t % s, 0) := by
  unfold grain_Floor.f
  have h5 := Int.emod_nonneg t (show s ≠ 0 by omega)
  have h6 := Int.emod_lt_of_pos t (show 0 < s by omega)
  have h7 := ht
  obtain ⟨h3, h4⟩ := h7
  rw [isTime_tells]
  simp only [Option.bind_some, decide_eq_true ht, if_true]
  rw [if_neg (by omega), if_neg (by omega), if_neg (by omega), tmod_emod h3, w64 (by omega) (by omega)]
end Go.Proofs.Ytjemmmemenljbaa.GrainL
end
section
namespace Go.Proofs.Ytjemmmemenljbaa.PFold
open Go.RowKit Go.Proofs.YtjemmmemenljbaaW.PrintWords Go.Proofs.YtjemmmemenljbaaW.PrintLast Go.Proofs.YtjemmmemenljbaaW.PrintMore Go.Proofs.Ytjemmmemenljbaa.GrainM Go.Proofs.Ytjemmmemenljbaa.GrainL
structure FitK (gs : List Gr) (b : List Int) (d : List ByteArray) (f : Int) (g : Nat) : Prop where
  read : Ev (fun k => key_Read.f k b) (d, f, (g : Int), 0)
  dims : dimsB d = true
  time : isT f
  gran : g < gs.length
  from_ : f % sz gs g = 0
def fitK (gs : List Gr) (b : List Int) : Prop := ∃ d f g, FitK gs b d f g
def agR (a : Ag) : Prop := a.f3 ≤ a.f4 ∧ (a.f1 = true → a.f0 = mW - 1)
def fitX (gs : List Gr) (x : En) : Prop := fitK gs x.f0 ∧ x.f1.f0 ≠ 0 ∧ agR x.f1
open Classical in
theorem right_ag {a : Ag} (h0 : a.f0 ≠ 0) : agg_Right.f a.f0 a.f1 a.f2.f0 a.f2.f1 a.f3 a.f4 = some (decide (agR a)) := by
  unfold agg_Right.f agR
  rw [if_neg h0]
  by_cases h1 : a.f3 ≤ a.f4
  · by_cases h2 : a.f1 = true
    · rw [if_pos h1, if_pos h2]
      have : (a.f0 == 18446744073709551615) = decide (a.f0 = 18446744073709551615) := rfl
      rw [this]
      simp [h1, h2, mW]
    · rw [if_pos h1, if_neg h2]; simp [h1, h2]
  · rw [if_neg h1]; simp [h1]
open Classical in
theorem fits_tells1 {gs : List Gr} {keep : Int} (R : Rgt gs keep) (x : En) (hb : x.f0.length < 1000000) :
    Ev (fun k => fold_fits.f k gs keep x.f0 x.f1.f0 x.f1.f1 x.f1.f2.f0 x.f1.f2.f1 x.f1.f3 x.f1.f4) (decide (fitX gs x)) := by
  obtain ⟨⟨d, f, g, e⟩, h, hk⟩ := read_ex x.f0 hb
  have h4 := R.four
  unfold fold_fits.f
  refine Ev.bind h ?_
  have no : ∀ hh : ¬ fitX gs x, ∀ {q : Nat → Option Bool}, (∀ k, q k = some false) → Ev q (decide (fitX gs x)) := fun hh q hq => by
    rw [decide_eq_false hh]
    exact Ev.congr hq (Ev.now _)
  have un : ∀ d' f' g', FitK gs x.f0 d' f' g' → d = d' ∧ f = f' ∧ g = (g' : Int) ∧ e = 0 := fun d' f' g' F => by
    have := Ev.uniq h F.read
    simpa using this
  by_cases he : e = 0
  · obtain ⟨hd, hf, hg0, hg4⟩ := hk he
    subst he
    obtain ⟨n, rfl⟩ : ∃ n : Nat, g = (n : Int) := ⟨g.toNat, by simp only at hg0; omega⟩
    by_cases hn : n < gs.length
    · have hs := R.size n hn
      have e1 : Int.tmod f (sz gs n) = f % sz gs n := tmod_emod hf.1
      by_cases hm : f % sz gs n = 0
      · by_cases h0 : x.f1.f0 = 0
        · refine no (fun hh => hh.2.1 h0) (fun k => ?_)
          simp only [rd_sz, e1]
          rw [if_pos trivial, if_pos (by omega), if_pos (by omega), if_neg (by omega), if_pos hm, if_pos h0]
        · refine Ev.congr (fun k => ?_) (Ev.now _)
          simp only [rd_sz, e1, right_ag h0]
          rw [if_pos trivial, if_pos (by omega), if_pos (by omega), if_neg (by omega), if_pos hm, if_neg h0, Option.bind_some]
          congr 1
          apply decide_eq_decide.2
          exact ⟨fun ha => ⟨⟨d, f, n, h, hd, hf, hn, hm⟩, h0, ha⟩, fun hh => hh.2.2⟩
      · refine no (fun hh => ?_) (fun k => ?_)
        · obtain ⟨⟨d', f', g', F⟩, _⟩ := hh
          obtain ⟨rfl, rfl, hg, _⟩ := un _ _ _ F
          obtain rfl : n = g' := by omega
          exact hm F.from_
        · simp only [rd_sz, e1]
          rw [if_pos trivial, if_pos (by omega), if_pos (by omega), if_neg (by omega), if_neg hm]
    · refine no (fun hh => ?_) (fun k => ?_)
      · obtain ⟨⟨d', f', g', F⟩, _⟩ := hh
        obtain ⟨rfl, rfl, hg, _⟩ := un _ _ _ F
        have := F.gran
        omega
      · simp only
        rw [if_pos trivial, if_neg (by omega)]
  · refine no (fun hh => ?_) (fun k => ?_)
    · obtain ⟨⟨d', f', g', F⟩, _⟩ := hh
      exact he (un _ _ _ F).2.2.2
    · simp only
      rw [if_neg he]
theorem any_tells {q : Nat → En → Option Bool} {p : En → Bool} : ∀ {l : List En}, (∀ x ∈ l, Ev (fun k => q k x) (p x)) → Ev (fun k => anyQ (q k) l) (l.any p)
  | [], _ => Ev.now _
  | x :: r, h => by
    have ih := any_tells (fun y hy => h y (List.mem_cons_of_mem _ hy))
    show Ev (fun k => (q k x).bind _) _
    refine Ev.bind (h x List.mem_cons_self) ?_
    rw [List.any_cons]
    cases hp : p x with
    | true => exact Ev.congr (fun k => by simp) (Ev.now _)
    | false => exact Ev.congr (fun k => by simp) ih
open Classical in
theorem fits_tells2 {gs : List Gr} {keep : Int} (R : Rgt gs keep) {l : List En} (hl : l.length < 1000000) (hb : ∀ x ∈ l, x.f0.length < 1000000) :
    Ev (fun k => fold_Fits.f k gs keep l) (decide (∀ x ∈ l, fitX gs x)) := by
  unfold fold_Fits.f
  by_cases h0 : l.length = 0
  · obtain rfl := List.length_eq_zero_iff.1 h0
    exact Ev.congr (fun k => by simp) (Ev.now _)
  · simp only [if_neg h0]
    refine Ev.bind (right_tells gs keep) ?_
    simp only [decide_eq_true R, if_true, if_pos (show l.length ≤ 140737488355328 by omega)]
    refine Ev.bind (any_tells (p := fun x => !decide (fitX gs x)) (fun x hx => ?_)) (Ev.congr (fun k => ?_) (Ev.now _))
    · unfold unfit
      exact Ev.bind (fits_tells1 R x (hb x hx)) (Ev.now _)
    · congr 1
      by_cases hh : ∀ x ∈ l, fitX gs x
      · rw [decide_eq_true hh, List.any_eq_false.2 (fun x hx => by simp [hh x hx])]; rfl
      · rw [decide_eq_false hh]
        have : l.any (fun x => !decide (fitX gs x)) = true := by
          obtain ⟨x, hx⟩ := Classical.not_forall.1 hh
          obtain ⟨hx, hn⟩ := Classical.not_imp.1 hx
          exact List.any_eq_true.2 ⟨x, hx, by simp [hn]⟩
        rw [this]; rfl
def okL (gs : List Gr) (keep wm : Int) (l : List En) : Prop := Rgt gs keep ∧ isT wm ∧ SortedE l ∧ ∀ x ∈ l, fitX gs x
theorem sorted_adj {l : List En} (h : ∀ j (hj : j < l.length), 0 < j → cmpB (l[j - 1]'(by omega)).f0 l[j].f0 < 0) : SortedE l := by
  refine List.pairwise_iff_getElem.2 (fun i j hi hj hij => ?_)
  induction j with
  | zero => omega
  | succ j ih =>
    have h1 := h (j + 1) hj (by omega)
    simp only [Nat.add_sub_cancel] at h1
    rcases Nat.lt_or_ge i j with hl | hl
    · exact cmpB_trans (ih (by omega) hl) h1
    · obtain rfl : i = j := by omega
      exact h1
open Classical in
theorem check_loop {gs : List Gr} {keep : Int} (R : Rgt gs keep) {l : List En} (hl : l.length < 1000000) (hb : ∀ x ∈ l, x.f0.length < 1000000) (hB : ∀ x ∈ l, x.f0.all isB = true) (d : Nat) : ∀ i : Nat, l.length - i = d → i ≤ l.length →
    ∃ e, Ev (fun k => fold_check.l0 k l (l.length : Int) (i : Int) gs keep) e ∧ (e = 0 ↔ (∀ j (hj : j < l.length), i ≤ j → 0 < j → cmpB (l[j - 1]'(by omega)).f0 l[j].f0 < 0) ∧ ∀ x ∈ l, fitX gs x) := by
  induction d with
  | zero =>
    intro i hd hi
    refine ⟨if ∀ x ∈ l, fitX gs x then 0 else 3, Ev.step (f := fun k => (fold_Fits.f k gs keep l).bind fun t121 => (if t121 = true then (some 0) else (some 3))) (fun k => ?_) (Ev.bind (fits_tells2 R hl hb) (Ev.congr (fun k => ?_) (Ev.now _))), ?_⟩
    · simp only [fold_check.l0]
      rw [if_neg (by omega)]
    · by_cases hh : ∀ x ∈ l, fitX gs x
      · rw [decide_eq_true hh, if_pos rfl, if_pos hh]
      · rw [decide_eq_false hh, if_neg (by decide), if_neg hh]
    · by_cases hh : ∀ x ∈ l, fitX gs x
      · rw [if_pos hh]
        exact ⟨fun _ => ⟨fun j hj hij => by omega, hh⟩, fun _ => rfl⟩
      · rw [if_neg hh]
        exact ⟨fun h => by omega, fun h => absurd h.2 hh⟩
  | succ d ih =>
    intro i hd hi
    have hlt : i < l.length := by omega
    obtain ⟨e, h, he⟩ := ih (i + 1) (by omega) (by omega)
    rcases Nat.eq_zero_or_pos i with h0 | h0
    · subst h0
      refine ⟨e, Ev.step (fun k => ?_) h, ?_⟩
      · simp only [fold_check.l0]
        rw [if_pos (by omega), if_neg (by omega), kw64 (by omega) (by omega)]
        rfl
      · rw [he]
        exact ⟨fun hh => ⟨fun j hj h1 h2 => hh.1 j hj (by omega) h2, hh.2⟩, fun hh => ⟨fun j hj h1 h2 => hh.1 j hj (by omega) h2, hh.2⟩⟩
    · have hc : bytes_Compare.f (rd_T51 l ((i - 1 : Nat) : Int)).f0 (rd_T51 l (i : Int)).f0 = some (cmpB (l[i - 1]'(by omega)).f0 l[i].f0) := by
        rw [rd_ent hlt, rd_ent (show i - 1 < l.length by omega)]
        unfold bytes_Compare.f
        rw [if_pos ⟨hB _ (List.getElem_mem _), hB _ (List.getElem_mem _)⟩]
      have ew : wrap64 ((i : Int) - 1) = ((i - 1 : Nat) : Int) := by rw [kw64] <;> omega
      by_cases hge : cmpB (l[i - 1]'(by omega)).f0 l[i].f0 ≥ 0
      · refine ⟨50, Ev.step (fun k => ?_) (Ev.now _), ⟨fun h => by omega, fun hh => ?_⟩⟩
        · simp only [fold_check.l0, ew]
          rw [if_pos (by omega), if_pos (by omega), if_pos (by omega), if_pos (by omega), if_pos (by omega), if_pos (by omega), hc, Option.bind_some, if_pos hge]
        · have := hh.1 i hlt (Nat.le_refl _) h0
          omega
      · refine ⟨e, Ev.step (fun k => ?_) h, ?_⟩
        · simp only [fold_check.l0, ew]
          rw [if_pos (by omega), if_pos (by omega), if_pos (by omega), if_pos (by omega), if_pos (by omega), if_pos (by omega), hc, Option.bind_some, if_neg hge, kw64o i (by omega)]
        · rw [he]
          refine ⟨fun hh => ⟨fun j hj h1 h2 => ?_, hh.2⟩, fun hh => ⟨fun j hj h1 h2 => hh.1 j hj (by omega) h2, hh.2⟩⟩
          rcases Nat.lt_or_ge i j with hl' | hl'
          · exact hh.1 j hj hl' h2
          · obtain rfl : i = j := by omega
            omega
theorem check_tells (gs : List Gr) (keep wm : Int) {l : List En} (hl : l.length < 1000000) (hb : ∀ x ∈ l, x.f0.length < 1000000) (hB : ∀ x ∈ l, x.f0.all isB = true) :
    ∃ e, Ev (fun k => fold_check.f k gs keep wm l) e ∧ (e = 0 ↔ okL gs keep wm l) := by
  unfold fold_check.f
  by_cases R : Rgt gs keep
  · by_cases h0 : wm < 0
    · refine ⟨1, Ev.bind (right_tells gs keep) (Ev.congr (fun k => ?_) (Ev.now _)), ⟨fun h => by omega, fun h => ?_⟩⟩
      · simp [R, h0]
      · have := h.2.1; unfold isT at this; omega
    · by_cases h1 : wm > 1099511627776
      · refine ⟨1, Ev.bind (right_tells gs keep) (Ev.congr (fun k => ?_) (Ev.now _)), ⟨fun h => by omega, fun h => ?_⟩⟩
        · have h1' : 1099511627776 < wm := h1
          simp [R, h0, h1']
        · have := h.2.1; unfold isT at this; omega
      · obtain ⟨e, h, he⟩ := check_loop R hl hb hB l.length 0 (by omega) (Nat.zero_le _)
        refine ⟨e, Ev.bind (right_tells gs keep) (Ev.congr (fun k => ?_) h), ?_⟩
        · rw [if_pos (by simp [R]), if_neg h0, if_neg h1]
          rfl
        · rw [he]
          constructor
          · rintro ⟨a, b⟩
            exact ⟨R, by unfold isT; omega, sorted_adj (fun j hj h2 => a j hj (Nat.zero_le _) h2), b⟩
          · rintro ⟨_, _, a, b⟩
            exact ⟨fun j hj _ h2 => sorted_lt a (by omega) hj, b⟩
  · refine ⟨30, Ev.bind (right_tells gs keep) (Ev.congr (fun k => ?_) (Ev.now _)), ⟨fun h => by omega, fun h => absurd h.1 R⟩⟩
    simp [R]
theorem at_tells {gs : List Gr} {keep wm : Int} (R : Rgt gs keep) (hw : isT wm) {b : List Int} {d : List ByteArray} {f : Int} {g s m : Nat} (F : FitK gs b d f g) (S : IsStep gs.length (sz gs) (ag gs) f wm s) (hm : m = max g s) :
    Ev (fun k => fold_at.f k gs keep wm b) (wrB d (f - f % sz gs m) (m : Int), (open Classical in decide (en f (sz gs (gs.length - 1)) ≤ wm - keep))) := by
  have h4 := R.four
  have hg := F.gran
  have hsl := S.lt
  have hml : m < gs.length := by omega
  have hz := R.size m hml
  unfold fold_at.f
  refine Ev.bind F.read (Ev.bind (expired_tells R F.time hw) (Ev.bind (step_tells R F.time hw S) ?_))
  have emx : mx (g : Int) (s : Int) = (m : Int) := by unfold mx; split <;> omega
  simp only [emx, if_pos (show (0 : Int) ≤ (m : Int) by omega), if_pos (show (m : Int) < (gs.length : Int) by omega), rd_sz, floor_tells F.time hz.1 hz.2, Option.bind_some]
  have f0 := fl_nonneg F.time.1 hz.1
  have f1 := fl_le (t := f) hz.1
  have ft := F.time.2
  exact Ev.bind (write_tells F.dims ⟨f0, by omega⟩ ⟨by omega, by omega⟩) (Ev.now _)
open Classical in
noncomputable def AtK (gs : List Gr) (keep wm : Int) (b : List Int) : Option (List Int) := if h : ∃ o, Ev (fun k => fold_at.f k gs keep wm b) (o, false) then some h.choose else none
theorem atK_gone {gs : List Gr} {keep wm : Int} {b o : List Int} (h : Ev (fun k => fold_at.f k gs keep wm b) (o, true)) : AtK gs keep wm b = none := by
  unfold AtK
  rw [dif_neg]
  rintro ⟨o', h'⟩
  have := Ev.uniq h h'
  simp at this
theorem atK_some {gs : List Gr} {keep wm : Int} {b o : List Int} (h : Ev (fun k => fold_at.f k gs keep wm b) (o, false)) : AtK gs keep wm b = some o := by
  unfold AtK
  have hh : ∃ o, Ev (fun k => fold_at.f k gs keep wm b) (o, false) := ⟨o, h⟩
  rw [dif_pos hh]
  have := Ev.uniq h hh.choose_spec
  simp only [Prod.mk.injEq, and_true] at this
  rw [← this]
open Classical in
theorem atK_eq {gs : List Gr} {keep wm : Int} (R : Rgt gs keep) (hw : isT wm) {b : List Int} {d : List ByteArray} {f : Int} {g s m : Nat} (F : FitK gs b d f g) (S : IsStep gs.length (sz gs) (ag gs) f wm s) (hm : m = max g s) :
    AtK gs keep wm b = if en f (sz gs (gs.length - 1)) ≤ wm - keep then none else some (wrB d (f - f % sz gs m) (m : Int)) := by
  have h := at_tells R hw F S hm
  by_cases hc : en f (sz gs (gs.length - 1)) ≤ wm - keep
  · rw [if_pos hc]
    rw [decide_eq_true hc] at h
    exact atK_gone h
  · rw [if_neg hc]
    rw [decide_eq_false hc] at h
    exact atK_some h
theorem fit_wr {gs : List Gr} {keep : Int} (R : Rgt gs keep) {d : List ByteArray} {f : Int} {m : Nat} (hd : dimsB d = true) (ht : isT f) (hm : m < gs.length) : FitK gs (wrB d (f - f % sz gs m) (m : Int)) d (f - f % sz gs m) m := by
  have h4 := R.four
  have hz := R.size m hm
  have f0 := fl_nonneg ht.1 hz.1
  have f1 := fl_le (t := f) hz.1
  have ft := ht.2
  exact ⟨read_back hd ⟨f0, by omega⟩ ⟨by omega, by omega⟩, hd, ⟨f0, by omega⟩, hm, fl_mod⟩
theorem at_ex {gs : List Gr} {keep wm : Int} (R : Rgt gs keep) (hw : isT wm) {b : List Int} (hf : fitK gs b) : ∃ o t, Ev (fun k => fold_at.f k gs keep wm b) (o, t) := by
  obtain ⟨d, f, g, F⟩ := hf
  obtain ⟨s, S⟩ := R.step_ex f wm
  exact ⟨_, _, at_tells R hw F S rfl⟩
theorem atK_fit {gs : List Gr} {keep wm : Int} (R : Rgt gs keep) (hw : isT wm) {b c : List Int} (hf : fitK gs b) (h : AtK gs keep wm b = some c) : fitK gs c ∧ c.all isB = true ∧ c.length ≤ 300 := by
  have h4 := R.four
  obtain ⟨d, f, g, F⟩ := hf
  obtain ⟨s, S⟩ := R.step_ex f wm
  have hg := F.gran
  have hsl := S.lt
  rw [atK_eq R hw F S rfl] at h
  split at h
  · cases h
  · obtain rfl := Option.some.inj h
    exact ⟨⟨_, _, _, fit_wr R F.dims F.time (by omega)⟩, wrB_isB (by omega) (by omega), wrB_len F.dims⟩
theorem atK_again {gs : List Gr} {keep w w' : Int} (R : Rgt gs keep) (hw : isT w) (hw' : isT w') (hle : w ≤ w') {b : List Int} (hf : fitK gs b) : (AtK gs keep w b).bind (AtK gs keep w') = AtK gs keep w' b := by
  obtain ⟨d, f, g, F⟩ := hf
  obtain ⟨s, S⟩ := R.step_ex f w
  obtain ⟨s1, S1⟩ := R.step_ex f w'
  have hg := F.gran
  have hsl := S.lt
  have hml : max g s < gs.length := by omega
  have h1 := R.one
  rw [atK_eq R hw F S rfl, atK_eq R hw' F S1 rfl]
  by_cases hc : en f (sz gs (gs.length - 1)) ≤ w - keep
  · rw [if_pos hc, if_pos (by omega)]; rfl
  · rw [if_neg hc, Option.bind_some]
    have F2 := fit_wr R F.dims F.time hml
    obtain ⟨s2, S2⟩ := R.step_ex (f - f % sz gs (max g s)) w'
    rw [atK_eq R hw' F2 S2 rfl]
    have e1 : en (f - f % sz gs (max g s)) (sz gs (gs.length - 1)) = en f (sz gs (gs.length - 1)) := en_same (R.floors (by omega) (by omega))
    rw [e1]
    have hs1 := S1.lt
    have em := R.again hle S rfl hg F.from_ S1 S2
    rw [em, R.floors (by have := R.never S S1 hle; omega) (by omega)]
structure WfE (x : En) : Prop where
  key : x.f0.all isB = true
  short : x.f0.length < 1000000
  cnt : inU x.f1.f0
  lo : inU x.f1.f2.f1
theorem okP_of {gs : List Gr} {x : En} (hw : WfE x) (h : fitX gs x) : okP x.f1 := ⟨⟨hw.cnt, hw.lo, h.2.2.2⟩, h.2.1⟩
noncomputable def foldM (gs : List Gr) (keep wm : Int) (l : List En) : List En := nrm (mapE (AtK gs keep wm) l)
theorem foldGo_tells {gs : List Gr} {keep wm : Int} (R : Rgt gs keep) (hw : isT wm) : ∀ (l p : List En), (∀ x ∈ l, fitK gs x.f0) → Good l → Good p → (∀ y ∈ p, y.f0.all isB = true) → p.length + l.length < 1000 →
    Ev (fun k => foldGo k gs keep wm l (nrm p)) (nrm (p ++ mapE (AtK gs keep wm) l))
  | [], p, _, _, _, _, _ => by simp only [foldGo, mapE, List.append_nil]; exact Ev.now _
  | x :: r, p, hf, hg, hgp, hb, hl => by
    have ⟨g1, g2⟩ := Good.cons.1 hg
    have hfx := hf x List.mem_cons_self
    have hfr : ∀ y ∈ r, fitK gs y.f0 := fun y hy => hf y (List.mem_cons_of_mem _ hy)
    simp only [List.length_cons] at hl
    obtain ⟨o, t, ha⟩ := at_ex R hw hfx
    simp only [foldGo]
    refine Ev.bind ha ?_
    cases t with
    | true =>
      rw [mapE_none (atK_gone ha)]
      exact Ev.congr (fun k => by simp) (foldGo_tells R hw r p hfr g2 hgp hb (by omega))
    | false =>
      have hs := atK_some ha
      rw [mapE_some hs]
      have ho := atK_fit R hw hfx hs
      have hnl := nrm_len p
      have hput : putE o x.f1 (nrm p) = some (insE o x.f1 (nrm p)) := putE_eq (nrm_sorted p) (by omega) (fun y hy => by obtain ⟨q, hq, e⟩ := nrm_mem hy; rw [e]; exact hb q hq) ho.2.1 (fun y hy => (nrm_good hgp y hy).1.2.1) g1.1.2.1
      have hsn : insE o x.f1 (nrm p) = nrm (p ++ [⟨o, x.f1⟩]) := (nrm_snoc (x := ⟨o, x.f1⟩) g1 hgp).symm
      have ih := foldGo_tells R hw r (p ++ [⟨o, x.f1⟩]) hfr g2 (fun y hy => by
        rcases List.mem_append.1 hy with hy | hy
        · exact hgp y hy
        · obtain rfl := List.mem_singleton.1 hy; exact g1) (fun y hy => by
        rcases List.mem_append.1 hy with hy | hy
        · exact hb y hy
        · obtain rfl := List.mem_singleton.1 hy; exact ho.2.1) (by simp; omega)
      rw [List.append_assoc] at ih
      refine Ev.congr (fun k => ?_) ih
      simp only [Bool.false_eq_true, if_false, hput, Option.bind_some, hsn]
theorem fold_tells {gs : List Gr} {keep wm : Int} {l : List En} (hl : l.length < 1000) (hw : ∀ x ∈ l, WfE x) (ho : okL gs keep wm l) : Ev (fun k => fold_Fold.f k gs keep wm l) (foldM gs keep wm l, 0) := by
  obtain ⟨e, h, he⟩ := check_tells gs keep wm (l := l) (by omega) (fun x hx => (hw x hx).short) (fun x hx => (hw x hx).key)
  have e0 := he.2 ho
  subst e0
  unfold fold_Fold.f
  refine Ev.bind h ?_
  obtain ⟨R, ht, _, hf⟩ := ho
  have := foldGo_tells R ht l [] (fun x hx => (hf x hx).1) (fun x hx => okP_of (hw x hx) (hf x hx)) Good.nil (fun y hy => by cases hy) (by simpa using hl)
  exact Ev.bind this (Ev.now _)
theorem fold_errs {gs : List Gr} {keep wm : Int} {l : List En} (hl : l.length < 1000) (hw : ∀ x ∈ l, WfE x) (ho : ¬ okL gs keep wm l) : ∃ e, e ≠ 0 ∧ Ev (fun k => fold_Fold.f k gs keep wm l) ([], e) := by
  obtain ⟨e, h, he⟩ := check_tells gs keep wm (l := l) (by omega) (fun x hx => (hw x hx).short) (fun x hx => (hw x hx).key)
  have e0 : e ≠ 0 := fun h0 => ho (he.1 h0)
  refine ⟨e, e0, ?_⟩
  unfold fold_Fold.f
  refine Ev.bind h ?_
  simp only [if_neg e0]
  exact Ev.now _
def okQ (a : Ag) : Prop := okP a ∧ a.f3 ≤ a.f4
theorem okQ_merge {a b : Ag} (ha : okQ a) (hb : okQ b) : okQ (mergeA a b) := by
  refine ⟨okP_merge ha.1 hb.1, ?_⟩
  rw [mergeA_eq ha.1.1 hb.1.1 ha.1.2 hb.1.2]
  have h1 := ha.2
  have h2 := hb.2
  simp only
  unfold leastI mostI
  split <;> split <;> omega
theorem ins_all {P : Ag → Prop} (hm : ∀ a b, P a → P b → P (mergeA a b)) {b : List Int} {a : Ag} (ha : P a) : ∀ {l : List En}, (∀ y ∈ l, P y.f1) → ∀ y ∈ insE b a l, P y.f1
  | [], _, y, hy => by obtain rfl := List.mem_singleton.1 hy; exact ha
  | x :: r, h, y, hy => by
    have hx := h x List.mem_cons_self
    have hr : ∀ y ∈ r, P y.f1 := fun y hy => h y (List.mem_cons_of_mem _ hy)
    rcases cmpB_tri x.f0 b with c | c | c
    · rw [ins_lt c] at hy
      rcases List.mem_cons.1 hy with rfl | hy
      · exact hx
      · exact ins_all hm ha hr y hy
    · rw [ins_eq c] at hy
      rcases List.mem_cons.1 hy with rfl | hy
      · exact hm _ _ hx ha
      · exact hr y hy
    · rw [ins_gt c] at hy
      rcases List.mem_cons.1 hy with rfl | hy
      · exact ha
      · exact h y hy
theorem nrm_all {P : Ag → Prop} (hm : ∀ a b, P a → P b → P (mergeA a b)) : ∀ {l : List En}, (∀ y ∈ l, P y.f1) → ∀ y ∈ nrm l, P y.f1
  | [], _, _, hy => by cases hy
  | x :: r, h, y, hy => ins_all hm (h x List.mem_cons_self) (nrm_all hm (fun y hy => h y (List.mem_cons_of_mem _ hy))) y hy
theorem foldM_ok {gs : List Gr} {keep wm : Int} {l : List En} (hw : ∀ x ∈ l, WfE x) (ho : okL gs keep wm l) :
    SortedE (foldM gs keep wm l) ∧ (∀ x ∈ foldM gs keep wm l, fitX gs x) ∧ (∀ x ∈ foldM gs keep wm l, WfE x) ∧ (foldM gs keep wm l).length ≤ l.length ∧ ∀ x ∈ foldM gs keep wm l, ∃ y ∈ l, AtK gs keep wm y.f0 = some x.f0 := by
  obtain ⟨R, ht, hs, hf⟩ := ho
  have hQ : ∀ x ∈ foldM gs keep wm l, okQ x.f1 := nrm_all (P := okQ) (fun _ _ => okQ_merge) (fun y hy => by
    obtain ⟨x, hx, _, e⟩ := mapE_mem hy
    rw [e]
    exact ⟨okP_of (hw x hx) (hf x hx), (hf x hx).2.2.1⟩)
  have hk : ∀ x ∈ foldM gs keep wm l, ∃ y ∈ l, AtK gs keep wm y.f0 = some x.f0 := fun x hx => by
    obtain ⟨z, hz, e⟩ := nrm_mem hx
    obtain ⟨y, hy, e2, _⟩ := mapE_mem hz
    exact ⟨y, hy, by rw [e2, e]⟩
  have hfit : ∀ x ∈ foldM gs keep wm l, fitK gs x.f0 ∧ x.f0.all isB = true ∧ x.f0.length ≤ 300 := fun x hx => by
    obtain ⟨y, hy, e⟩ := hk x hx
    exact atK_fit R ht (hf y hy).1 e
  refine ⟨nrm_sorted _, fun x hx => ⟨(hfit x hx).1, (hQ x hx).1.2, (hQ x hx).2, (hQ x hx).1.1.2.2⟩, fun x hx => ⟨(hfit x hx).2.1, by have := (hfit x hx).2.2; omega, (hQ x hx).1.1.1, (hQ x hx).1.1.2.1⟩, ?_, hk⟩
  exact Nat.le_trans (nrm_len _) (mapE_len _ _)
theorem foldM_later {gs : List Gr} {keep w w' : Int} {l : List En} (hw : ∀ x ∈ l, WfE x) (ho : okL gs keep w l) (ht : isT w') (hle : w ≤ w') : foldM gs keep w' (foldM gs keep w l) = foldM gs keep w' l :=
  fold_fold (fun x hx => okP_of (hw x hx) (ho.2.2.2 x hx)) (fun x hx => atK_again ho.1 ho.2.1 ht hle (ho.2.2.2 x hx).1)
theorem same_loop (l : List En) (hl : l.length < 1000000) (d : Nat) : ∀ i : Nat, l.length - i = d → Ev (fun k => rickyardref08_Same.l0 k l l (i : Int)) true := by
  induction d with
  | zero =>
    intro i hd
    refine Ev.step (fun k => ?_) (Ev.now _)
    simp only [rickyardref08_Same.l0]
    rw [if_neg (by omega)]
  | succ d ih =>
    intro i hd
    refine Ev.step (fun k => ?_) (ih (i + 1) (by omega))
    simp only [rickyardref08_Same.l0, kw64o i (by omega)]
    rw [if_pos (by omega), if_pos (by omega), if_pos (by omega), if_pos trivial, if_neg (by simp)]
theorem same_tells (l : List En) (hl : l.length < 1000000) : Ev (fun k => rickyardref08_Same.f k l l) true := by
  unfold rickyardref08_Same.f
  simp only [if_true]
  exact same_loop l hl _ 0 rfl
end Go.Proofs.Ytjemmmemenljbaa.PFold
end
section
namespace Go.Proofs.Ytjemmmemenljbaa.PFold
open Go.RowKit Go.Proofs.YtjemmmemenljbaaW.PrintWords Go.Proofs.YtjemmmemenljbaaW.PrintLast Go.Proofs.YtjemmmemenljbaaW.PrintMore Go.Proofs.Ytjemmmemenljbaa.GrainM Go.Proofs.Ytjemmmemenljbaa.GrainL
theorem alive_tells : Ev (fun k => rickyardlaw15_alive.f k) true := ⟨64, fun k hk => by show rickyardlaw15_alive.f k = _; unfold rickyardlaw15_alive.f; rw [if_pos hk]⟩
theorem lit_u8 {x : Int} (h : (Lit.int .u8 x).wf = true) : isB x = true := by
  simpa [Lit.wf, IntKind.min, IntKind.max, IntKind.bits, IntKind.signed, isB] using h
theorem lit_u64 {x : Int} (h : (Lit.int .u64 x).wf = true) : inU x := by
  have : 0 ≤ x ∧ x ≤ 18446744073709551615 := by simpa [Lit.wf, IntKind.min, IntKind.max, IntKind.bits, IntKind.signed] using h
  unfold inU mW; omega
theorem wfE_of {x : En} (h : wfS51 x) (hs : x.f0.length ≤ 300) : WfE x := ⟨List.all_eq_true.2 (fun z hz => lit_u8 (h.1.2 z hz)), by omega, lit_u64 h.2.1, lit_u64 h.2.2.1.2⟩
theorem great_loop (l : List En) (hl : l.length < 1000000) (d : Nat) : ∀ i : Nat, l.length - i = d → ∃ t, Ev (fun k => rickyardlaw15_Great.l0 k l (i : Int)) t ∧ (t = false → ∀ j (hj : j < l.length), i ≤ j → l[j].f0.length ≤ 300) := by
  induction d with
  | zero =>
    intro i hd
    refine ⟨false, Ev.step (fun k => ?_) (Ev.now _), fun _ j hj h => by omega⟩
    simp only [rickyardlaw15_Great.l0]
    rw [if_neg (by omega)]
  | succ d ih =>
    intro i hd
    have hlt : i < l.length := by omega
    by_cases hg : (l[i].f0.length : Int) > 300
    · refine ⟨true, Ev.step (fun k => ?_) (Ev.now _), fun h => by cases h⟩
      simp only [rickyardlaw15_Great.l0, rd_ent hlt]
      rw [if_pos (by omega), if_pos (by omega), if_pos hg]
    · obtain ⟨t, h, ht⟩ := ih (i + 1) (by omega)
      refine ⟨t, Ev.step (fun k => ?_) h, fun hf j hj hij => ?_⟩
      · simp only [rickyardlaw15_Great.l0, rd_ent hlt, kw64o i (by omega)]
        rw [if_pos (by omega), if_pos (by omega), if_neg hg]
      · rcases Nat.lt_or_ge i j with h1 | h1
        · exact ht hf j hj h1
        · obtain rfl : i = j := by omega
          omega
theorem great_ex (l : List En) : ∃ t, Ev (fun k => rickyardlaw15_Great.f k l) t ∧ (t = false → l.length ≤ 60 ∧ ∀ x ∈ l, x.f0.length ≤ 300) := by
  unfold rickyardlaw15_Great.f
  by_cases h : (l.length : Int) > 60
  · exact ⟨true, Ev.congr (fun k => by rw [if_pos h]) (Ev.now _), fun h => by cases h⟩
  · obtain ⟨t, ht, hf⟩ := great_loop l (by omega) _ 0 rfl
    refine ⟨t, Ev.congr (fun k => by rw [if_neg h]; rfl) ht, fun h0 => ⟨by omega, fun x hx => ?_⟩⟩
    obtain ⟨j, hj, rfl⟩ := List.getElem_of_mem hx
    exact hf h0 j hj (Nat.zero_le _)
end Go.Proofs.Ytjemmmemenljbaa.PFold
end
section
namespace Go.Proofs.Ytjemmmemenljbaa.Pure
open Go.RowKit Go.Proofs.YtjemmmemenljbaaW.PrintWords Go.Proofs.YtjemmmemenljbaaW.PrintLast Go.Proofs.YtjemmmemenljbaaW.PrintMore Go.Proofs.Ytjemmmemenljbaa.PFold Go.Proofs.Ytjemmmemenljbaa.GrainM Go.Proofs.Ytjemmmemenljbaa.GrainL
theorem FoldLater : rickyardlaw15_FoldLater.Pure := by
  intro gs keep w later l _ _ _ _ hwl
  refine Ev.rounds ?_
  have alive0 : Ev (fun k => rickyardlaw15_FoldLater.j0 k w later l true gs keep) true := by
    refine Ev.step (fun k => ?_) (Ev.bind alive_tells (Ev.now true))
    simp only [rickyardlaw15_FoldLater.j0]
    rw [if_pos trivial]
  have alive1 : ∀ a b, Ev (fun k => rickyardlaw15_FoldLater.j1 k later l a b true gs keep) true := fun a b => by
    refine Ev.step (fun k => ?_) (Ev.bind alive_tells (Ev.now true))
    simp only [rickyardlaw15_FoldLater.j1]
    rw [if_pos trivial]
  unfold rickyardlaw15_FoldLater.f
  obtain ⟨t, ht, hf⟩ := great_ex l
  refine Ev.bind ht ?_
  cases t with
  | true => simp only [if_true]; exact alive0
  | false =>
    obtain ⟨h60, hk⟩ := hf rfl
    have hw : ∀ x ∈ l, WfE x := fun x hx => wfE_of (hwl.2 x hx) (hk x hx)
    simp only [Bool.false_eq_true, if_false]
    by_cases hlt : later < w
    · rw [decide_eq_true hlt]; exact alive0
    rw [decide_eq_false hlt]
    refine Ev.step (fun k => by simp only [rickyardlaw15_FoldLater.j0]; rw [if_neg (by decide)]) ?_
    by_cases ho : okL gs keep w l
    · by_cases ht' : isT later
      · have ho' : okL gs keep later l := ⟨ho.1, ht', ho.2.2⟩
        refine Ev.bind (fold_tells (by omega) hw ho) (Ev.bind (fold_tells (by omega) hw ho') ?_)
        simp only [if_true]
        refine Ev.step (fun k => by simp only [rickyardlaw15_FoldLater.j1]; rw [if_neg (by decide)]) ?_
        obtain ⟨a1, a2, a3, a4, _⟩ := foldM_ok hw ho
        have a5 := (foldM_ok hw ho').2.2.2.1
        refine Ev.bind (fold_tells (by omega) a3 ⟨ho.1, ht', a1, a2⟩) (Ev.bind alive_tells ?_)
        rw [foldM_later hw ho ht' (by omega)]
        simp only [if_true]
        refine Ev.bind (same_tells _ (by omega)) (Ev.congr (fun k => ?_) (Ev.now true))
        rw [if_pos rfl, decide_eq_true (by omega)]
      · obtain ⟨e, he, h⟩ := fold_errs (gs := gs) (keep := keep) (wm := later) (l := l) (by omega) hw (fun h => ht' h.2.1)
        refine Ev.bind (fold_tells (by omega) hw ho) (Ev.bind h ?_)
        simp only [if_true]
        rw [show (e != 0) = true from by simp [he]]
        exact alive1 _ _
    · obtain ⟨e, he, h⟩ := fold_errs (gs := gs) (keep := keep) (wm := w) (l := l) (by omega) hw ho
      refine Ev.bind h ?_
      by_cases ho' : okL gs keep later l
      · refine Ev.bind (fold_tells (by omega) hw ho') ?_
        simp only [if_neg he]
        exact alive1 _ _
      · obtain ⟨e', he', h'⟩ := fold_errs (gs := gs) (keep := keep) (wm := later) (l := l) (by omega) hw ho'
        refine Ev.bind h' ?_
        simp only [if_neg he]
        exact alive1 _ _
end Go.Proofs.Ytjemmmemenljbaa.Pure
end
