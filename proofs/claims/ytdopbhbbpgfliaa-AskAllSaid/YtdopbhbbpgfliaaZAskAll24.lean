import Derived.Test.YtdopbhbbpgfliaaZAskAll23
section
namespace Go.Proofs.Ytdopbhbbpgfliaa.PAsk
open Go.RowKit Go.Proofs.YtdopbhbbpgfliaaW.PrintWords Go.Proofs.YtdopbhbbpgfliaaW.PrintLast Go.Proofs.YtdopbhbbpgfliaaW.PrintMore
attribute [local go_sem] max2_int min2_int max_two min_two max_three min_three max_four min_four   -- for this text's walks alone
set_option linter.unusedVariables false
set_option linter.unusedSimpArgs false
set_option maxHeartbeats 8000000
set_option maxRecDepth 100000
def rickyardlaw17_AskAll.Pure : Prop := ∀ (l0_0 : List (S84)) (a0_1 : Int) (a1 : Int) (l2 : List (S60)) (l3_0 : List ByteArray) (a3_1 : Int) (a3_2 : Int) (a3_3 : Int) (a3_4 : Int), (l0_0.length * 16 ≤ 140737488351232 ∧ ∀ z4 ∈ l0_0, wfS84 z4) → (Lit.int .i64 a0_1).wf = true → (Lit.int .i64 a1).wf = true → (l2.length * 72 ≤ 140737488351232 ∧ ∀ z2 ∈ l2, wfS60 z2) → (l3_0.length * 16 ≤ 140737488351232 ∧ ∀ z4 ∈ l3_0, z4.size ≤ 140737488351232) → (Lit.int .i64 a3_1).wf = true → (Lit.int .i64 a3_2).wf = true → (Lit.int .i64 a3_3).wf = true → (Lit.int .i64 a3_4).wf = true → ∃ k, rickyardlaw17_AskAll.f k l0_0 a0_1 a1 l2 l3_0 a3_1 a3_2 a3_3 a3_4 = some true
end Go.Proofs.Ytdopbhbbpgfliaa.PAsk
end
section
namespace Go.Proofs.Ytdopbhbbpgfliaa.PAsk
open Go.RowKit Go.Proofs.YtdopbhbbpgfliaaW.PrintWords Go.Proofs.YtdopbhbbpgfliaaW.PrintLast Go.Proofs.YtdopbhbbpgfliaaW.PrintMore
set_option linter.unusedVariables false
set_option linter.unusedSimpArgs false
set_option maxHeartbeats 8000000
set_option maxRecDepth 100000
theorem kw64 {x : Int} (h0 : -9223372036854775808 ≤ x) (h1 : x ≤ 9223372036854775807) : wrap64 x = x := by unfold wrap64; omega
theorem kw64n (j m : Nat) (h : j + m < 4611686018427387904) : wrap64 ((j : Int) + (m : Int)) = ((j + m : Nat) : Int) := by rw [kw64] <;> omega
theorem kw64o (j : Nat) (h : j < 4611686018427387904) : wrap64 ((j : Int) + 1) = ((j + 1 : Nat) : Int) := by rw [kw64] <;> omega
theorem rd_get {l : List Int} {i : Nat} (h : i < l.length) : rd l (i : Int) = l[i] := by
  unfold rd; simp [List.getD_eq_getElem?_getD, List.getElem?_eq_getElem h]
theorem rd_mid (pre : List Int) (a : Int) (r : List Int) : rd (pre ++ a :: r) (pre.length : Int) = a := by
  rw [rd_get (by simp)]; simp
theorem rd_mid1 (pre : List Int) (a c : Int) (r : List Int) : rd (pre ++ a :: c :: r) ((pre.length + 1 : Nat) : Int) = c := by
  rw [rd_get (by simp)]
  rw [List.getElem_append_right (by omega)]
  simp
theorem strOf_bytesOf (s : ByteArray) : strOfNums (bytesOf s) = s := by
  unfold strOfNums bytesOf
  apply ByteArray.ext
  simp only [List.map_map]
  have : (s.data.toList.map ((fun n : Int => UInt8.ofNat n.toNat) ∘ fun b => (b.toNat : Int))) = s.data.toList := by
    conv => rhs; rw [← List.map_id s.data.toList]
    apply List.map_congr_left
    intro b _
    simp
  rw [this]
theorem bytesOf_isB (s : ByteArray) : (bytesOf s).all isB = true := by
  unfold bytesOf
  simp only [List.all_map, List.all_eq_true, Function.comp_apply]
  intro b _
  have := b.toNat_lt
  unfold isB
  simp only [Bool.and_eq_true, decide_eq_true_eq]
  omega
def textB : List Int → List Int
  | [] => [0, 1]
  | b :: r => if b = 0 then 0 :: 255 :: textB r else b :: textB r
def groupB : List ByteArray → List Int
  | [] => [0]
  | s :: r => 1 :: (textB (bytesOf s) ++ groupB r)
def numU (v : Int) : Int := Go.bits .xor .u64 (IntKind.u64.wrap v) 9223372036854775808
def numB (v : Int) : List Int := [shr .u64 (numU v) 56 % 256, shr .u64 (numU v) 48 % 256, shr .u64 (numU v) 40 % 256, shr .u64 (numU v) 32 % 256, shr .u64 (numU v) 24 % 256, shr .u64 (numU v) 16 % 256, shr .u64 (numU v) 8 % 256, shr .u64 (numU v) 0 % 256]
def wrB (d : List ByteArray) (f g : Int) : List Int := groupB d ++ numB f ++ [g]
theorem textB_len : ∀ b : List Int, (textB b).length ≤ 2 * b.length + 2
  | [] => by simp [textB]
  | b :: r => by
    have := textB_len r
    unfold textB
    split <;> simp <;> omega
theorem textB_pos : ∀ b : List Int, 2 ≤ (textB b).length
  | [] => by simp [textB]
  | b :: r => by
    have := textB_pos r
    unfold textB
    split <;> simp <;> omega
theorem textB_isB : ∀ {b : List Int}, b.all isB = true → (textB b).all isB = true
  | [], _ => by decide
  | b :: r, h => by
    simp only [List.all_cons, Bool.and_eq_true] at h
    have := textB_isB h.2
    unfold textB
    split
    · simp only [List.all_cons, this, Bool.and_true]; decide
    · simp only [List.all_cons, this, h.1, Bool.and_true]
theorem groupB_isB : ∀ d : List ByteArray, (groupB d).all isB = true
  | [] => by decide
  | s :: r => by
    have h1 := groupB_isB r
    have h2 := textB_isB (bytesOf_isB s)
    unfold groupB
    simp only [List.all_cons, List.all_append, h1, h2, Bool.and_true]; decide
theorem mod_isB (x : Int) : isB (x % 256) = true := by
  unfold isB
  simp only [Bool.and_eq_true, decide_eq_true_eq]
  omega
theorem wrB_isB {d : List ByteArray} {f g : Int} (h0 : 0 ≤ g) (h1 : g < 256) : (wrB d f g).all isB = true := by
  unfold wrB numB
  simp only [List.all_append, groupB_isB, List.all_cons, List.all_nil, mod_isB, Bool.and_true, Bool.true_and]
  unfold isB
  simp only [Bool.and_eq_true, decide_eq_true_eq]
  omega
theorem groupB_len {d : List ByteArray} (h : ∀ s ∈ d, s.size ≤ 16) : (groupB d).length ≤ 40 * d.length + 1 := by
  induction d with
  | nil => simp [groupB]
  | cons s r ih =>
    have := ih (fun x hx => h x (List.mem_cons_of_mem _ hx))
    have h1 := textB_len (bytesOf s)
    have h2 := h s List.mem_cons_self
    rw [bytesOf_length] at h1
    unfold groupB
    simp only [List.length_cons, List.length_append]
    omega
theorem dims_iff {d : List ByteArray} : dimsB d = true ↔ d.length ≤ 4 ∧ ∀ s ∈ d, s.size ≤ 16 := by
  unfold dimsB lng
  simp only [Bool.and_eq_true, decide_eq_true_eq, Bool.not_eq_true', List.any_eq_false]
  constructor
  · rintro ⟨h1, h2⟩
    exact ⟨h1, fun s hs => by have := h2 s hs; omega⟩
  · rintro ⟨h1, h2⟩
    exact ⟨h1, fun s hs => by have := h2 s hs; omega⟩
theorem numB_len (v : Int) : (numB v).length = 8 := rfl
theorem wrB_len {d : List ByteArray} {f g : Int} (h : dimsB d = true) : (wrB d f g).length ≤ 300 := by
  obtain ⟨h1, h2⟩ := dims_iff.1 h
  have := groupB_len h2
  unfold wrB
  simp only [List.length_append, numB_len, List.length_singleton]
  omega
theorem text_loop (s : ByteArray) (hs : s.size < 1000000) (d : Nat) : ∀ (i : Nat) (acc : List Int), s.size - i = d → i ≤ s.size → acc.length + 2 * d + 2 < 1000000000 →
    Ev (fun k => code_Text.l0 k s acc (s.size : Int) (i : Int)) (acc ++ textB ((bytesOf s).drop i)) := by
  induction d with
  | zero =>
    intro i acc hd hi hl
    have e : (bytesOf s).drop i = [] := List.drop_eq_nil_of_le (by rw [bytesOf_length]; omega)
    refine Ev.step (fun k => ?_) (Ev.now _)
    simp only [code_Text.l0]
    rw [if_neg (by omega)]
    simp only [Option.bind_some]
    rw [if_pos (by simp; omega), e]; rfl
  | succ d ih =>
    intro i acc hd hi hl
    have hlt : i < (bytesOf s).length := by rw [bytesOf_length]; omega
    have hb : bt s (i : Int) = (bytesOf s)[i] := by rw [← rd_bytesOf, rd_get hlt]
    rw [List.drop_eq_getElem_cons hlt]
    by_cases h0 : (bytesOf s)[i] = 0
    · have e : acc ++ textB ((bytesOf s)[i] :: (bytesOf s).drop (i + 1)) = (acc ++ [0] ++ [255]) ++ textB ((bytesOf s).drop (i + 1)) := by
        rw [h0]; simp [textB]
      rw [e]
      refine Ev.step (fun k => ?_) (ih (i + 1) (acc ++ [0] ++ [255]) (by omega) (by omega) (by simp; omega))
      simp only [code_Text.l0]
      rw [if_pos (by omega), if_pos (by omega), if_pos (by omega), if_pos (by omega)]
      simp only [Option.bind_some, hb, h0]
      rw [if_pos trivial, if_pos (by simp; omega), kw64o i (by omega)]
    · have e : acc ++ textB ((bytesOf s)[i] :: (bytesOf s).drop (i + 1)) = (acc ++ [(bytesOf s)[i]]) ++ textB ((bytesOf s).drop (i + 1)) := by
        simp [textB, h0]
      rw [e]
      refine Ev.step (fun k => ?_) (ih (i + 1) (acc ++ [(bytesOf s)[i]]) (by omega) (by omega) (by simp; omega))
      simp only [code_Text.l0]
      rw [if_pos (by omega), if_pos (by omega), if_pos (by omega), if_pos (by omega)]
      simp only [Option.bind_some, hb]
      rw [if_neg h0, kw64o i (by omega)]
theorem text_tells {s : ByteArray} (hs : s.size < 1000000) : Ev (fun k => code_Text.f k s) (textB (bytesOf s)) := by
  have := text_loop s hs s.size 0 [] (by omega) (by omega) (by simp; omega)
  unfold code_Text.f
  simpa using this
theorem rdOf_get {l : List ByteArray} {i : Nat} (h : i < l.length) : rdOf ByteArray.empty l (i : Int) = l[i] := by
  unfold rdOf; simp [List.getD_eq_getElem?_getD, List.getElem?_eq_getElem h]
theorem group_loop (l : List ByteArray) (hl : l.length ≤ 4) (hs : ∀ s ∈ l, s.size ≤ 16) (d : Nat) : ∀ (i : Nat) (acc : List Int), l.length - i = d → i ≤ l.length → acc.length + 40 * d + 1 < 100000 →
    Ev (fun k => key_group.l0 k acc l (l.length : Int) (i : Int)) (acc ++ groupB (l.drop i)) := by
  induction d with
  | zero =>
    intro i acc hd hi ha
    rw [List.drop_eq_nil_of_le (by omega)]
    refine Ev.step (fun k => ?_) (Ev.now _)
    simp only [key_group.l0]
    rw [if_neg (by omega), if_pos (by omega)]; rfl
  | succ d ih =>
    intro i acc hd hi ha
    have hlt : i < l.length := by omega
    have hz := hs l[i] (List.getElem_mem _)
    have ht := textB_len (bytesOf l[i])
    rw [bytesOf_length] at ht
    rw [List.drop_eq_getElem_cons hlt]
    have e : acc ++ groupB (l[i] :: l.drop (i + 1)) = (acc ++ [1] ++ textB (bytesOf l[i])) ++ groupB (l.drop (i + 1)) := by simp [groupB]
    rw [e]
    refine Ev.step (f := fun k => (code_Text.f k l[i]).bind fun t159 => (if (acc ++ [1]).length + t159.length < 140737488355328 then (key_group.l0 k ((acc ++ [1]) ++ t159) l (l.length : Int) ((i + 1 : Nat) : Int)) else (none))) (fun k => ?_) ?_
    · simp only [key_group.l0]
      rw [if_pos (by omega), if_pos (by omega), if_pos (by omega), if_pos (by omega)]
      simp only [Option.bind_some, rdOf_get hlt, kw64o i (by omega)]
    · refine Ev.bind (text_tells (by omega)) ?_
      refine Ev.congr (fun k => ?_) (ih (i + 1) (acc ++ [1] ++ textB (bytesOf l[i])) (by omega) (by omega) (by simp only [List.length_append, List.length_singleton]; omega))
      rw [if_pos (by simp only [List.length_append, List.length_singleton]; omega)]
theorem group_tells {l : List ByteArray} (h : dimsB l = true) : Ev (fun k => key_group.f k l) (groupB l) := by
  obtain ⟨h1, h2⟩ := dims_iff.1 h
  have := group_loop l h1 h2 l.length 0 [] (by omega) (by omega) (by simp; omega)
  unfold key_group.f
  simpa using this
theorem number_tells (v : Int) : Ev (fun k => code_Number.f k v) (numB v) := by
  refine ⟨10, fun k hk => ?_⟩
  obtain ⟨k, rfl⟩ : ∃ m, k = m + 10 := ⟨k - 10, by omega⟩
  show code_Number.l0 (k + 10) (numU v) [] 56 = _
  have e1 : wrap64 (56 - 8) = 48 := by unfold wrap64; omega
  have e2 : wrap64 (48 - 8) = 40 := by unfold wrap64; omega
  have e3 : wrap64 (40 - 8) = 32 := by unfold wrap64; omega
  have e4 : wrap64 (32 - 8) = 24 := by unfold wrap64; omega
  have e5 : wrap64 (24 - 8) = 16 := by unfold wrap64; omega
  have e6 : wrap64 (16 - 8) = 8 := by unfold wrap64; omega
  have e7 : wrap64 (8 - 8) = 0 := by unfold wrap64; omega
  have e8 : wrap64 (0 - 8) = -8 := by unfold wrap64; omega
  simp only [code_Number.l0, e1, e2, e3, e4, e5, e6, e7, e8]
  simp [numB]
theorem key_right_tells {d : List ByteArray} {f g : Int} : key_Right.f d f g = some (decide (dimsB d = true ∧ (0 ≤ f ∧ f ≤ 1099511627776) ∧ 0 ≤ g ∧ g < 4)) := by
  unfold key_Right.f key_fits.f
  simp only [Option.bind_some]
  by_cases h1 : dimsB d = true
  · by_cases h2 : f ≥ 0
    · by_cases h3 : f ≤ 1099511627776
      · by_cases h4 : g ≥ 0
        · have h2' : 0 ≤ f := h2
          have h4' : 0 ≤ g := h4
          simp [h1, h2', h3, h4']
        · have h4' : ¬ 0 ≤ g := h4
          simp [h1, h2, h3, h4']
      · simp [h1, h2, h3]
    · have h2' : ¬ 0 ≤ f := h2
      simp [h1, h2']
  · simp [h1]
theorem write_tells {d : List ByteArray} {f g : Int} (hd : dimsB d = true) (hf : 0 ≤ f ∧ f ≤ 1099511627776) (hg : 0 ≤ g ∧ g < 4) : Ev (fun k => key_Write.f k d f g) (wrB d f g, 0) := by
  obtain ⟨h1, h2⟩ := dims_iff.1 hd
  have hl := groupB_len h2
  unfold key_Write.f
  simp only [key_right_tells, Option.bind_some]
  rw [decide_eq_true ⟨hd, hf, hg⟩]
  simp only [if_true]
  refine Ev.bind (group_tells hd) (Ev.bind (number_tells f) ?_)
  refine Ev.congr (fun k => ?_) (Ev.now _)
  rw [if_pos (by rw [numB_len]; omega), if_pos (by simp only [List.length_append, numB_len, List.length_singleton]; omega), show g % 256 = g from by omega]
  rfl
theorem read_text_loop (bs : List Int) (rest : List Int) : ∀ (pre acc : List Int), (pre ++ textB bs ++ rest).length < 1000000 → acc.length ≤ pre.length →
    Ev (fun k => code_ReadText.l0 k (pre ++ textB bs ++ rest) acc (pre.length : Int)) (strOfNums (acc ++ bs), ((pre.length + (textB bs).length : Nat) : Int), 0) := by
  induction bs with
  | nil =>
    intro pre acc hl ha
    have e : pre ++ textB [] ++ rest = pre ++ 0 :: 1 :: rest := by simp [textB]
    rw [e] at hl ⊢
    have h1 : rd (pre ++ 0 :: 1 :: rest) ((pre.length : Int)) = 0 := rd_mid _ _ _
    have h2 : rd (pre ++ 0 :: 1 :: rest) ((pre.length + 1 : Nat) : Int) = 1 := rd_mid1 _ _ _ _
    have h3 : (pre ++ 0 :: 1 :: rest).length = pre.length + 2 + rest.length := by simp; omega
    refine Ev.step (fun k => ?_) (Ev.now _)
    simp only [code_ReadText.l0, kw64o pre.length (by omega), h1, h2, h3]
    rw [if_pos (by omega), if_pos (by omega), if_pos trivial, if_neg (by omega), if_pos (by omega), if_pos (by omega), if_pos trivial, kw64o _ (by omega)]
    simp [textB]; omega
  | cons b r ih =>
    intro pre acc hl ha
    by_cases hb : b = 0
    · subst hb
      have e : pre ++ textB (0 :: r) ++ rest = pre ++ 0 :: 255 :: (textB r ++ rest) := by simp [textB]
      have e2 : pre ++ 0 :: 255 :: (textB r ++ rest) = (pre ++ [0, 255]) ++ textB r ++ rest := by simp
      have h1 : rd (pre ++ 0 :: 255 :: (textB r ++ rest)) ((pre.length : Int)) = 0 := rd_mid _ _ _
      have h2 : rd (pre ++ 0 :: 255 :: (textB r ++ rest)) ((pre.length + 1 : Nat) : Int) = 255 := rd_mid1 _ _ _ _
      have h3 : (pre ++ 0 :: 255 :: (textB r ++ rest)).length = pre.length + 2 + (textB r ++ rest).length := by simp; omega
      have := ih (pre ++ [0, 255]) (acc ++ [0]) (by rw [← e2, ← e]; exact hl) (by simp; omega)
      rw [e] at hl ⊢
      rw [← e2] at this
      have e3 : (strOfNums (acc ++ 0 :: r), ((pre.length + (textB (0 :: r)).length : Nat) : Int), (0 : Int)) = (strOfNums ((acc ++ [0]) ++ r), (((pre ++ [0, 255]).length + (textB r).length : Nat) : Int), 0) := by
        simp [textB]; omega
      rw [e3]
      refine Ev.step (fun k => ?_) this
      simp only [code_ReadText.l0, kw64o pre.length (by omega), h1, h2, h3]
      rw [if_pos (by omega), if_pos (by omega), if_pos trivial, if_neg (by omega), if_pos (by omega), if_pos (by omega), if_neg (by decide), if_pos trivial, if_pos (by omega), kw64o _ (by omega)]
      congr 1
      simp; omega
    · have e : pre ++ textB (b :: r) ++ rest = pre ++ b :: (textB r ++ rest) := by simp [textB, hb]
      have e2 : pre ++ b :: (textB r ++ rest) = (pre ++ [b]) ++ textB r ++ rest := by simp
      have h1 : rd (pre ++ b :: (textB r ++ rest)) ((pre.length : Int)) = b := rd_mid _ _ _
      have h3 : (pre ++ b :: (textB r ++ rest)).length = pre.length + 1 + (textB r ++ rest).length := by simp; omega
      have := ih (pre ++ [b]) (acc ++ [b]) (by rw [← e2, ← e]; exact hl) (by simp; omega)
      rw [e] at hl ⊢
      rw [← e2] at this
      have e3 : (strOfNums (acc ++ b :: r), ((pre.length + (textB (b :: r)).length : Nat) : Int), (0 : Int)) = (strOfNums ((acc ++ [b]) ++ r), (((pre ++ [b]).length + (textB r).length : Nat) : Int), 0) := by
        simp [textB, hb]; omega
      rw [e3]
      refine Ev.step (fun k => ?_) this
      simp only [code_ReadText.l0, h1, h3]
      rw [if_pos (by omega), if_pos (by omega), if_neg hb, if_pos (by omega), kw64o _ (by omega)]
      congr 1
      simp
theorem read_text_tells (s : ByteArray) (rest : List Int) (h : (textB (bytesOf s) ++ rest).length < 1000000) : Ev (fun k => code_ReadText.f k (textB (bytesOf s) ++ rest)) (s, ((textB (bytesOf s)).length : Int), 0) := by
  have := read_text_loop (bytesOf s) rest [] [] (by simpa using h) (by simp)
  simp only [List.nil_append, List.length_nil, Nat.zero_add, strOf_bytesOf] at this
  exact this
theorem read_loop (rest : List Int) (ds : List ByteArray) : ∀ (pre : List Int) (acc : List ByteArray) (R : List ByteArray × Int × Int × Int), (pre ++ groupB ds ++ rest).length < 1000000 → acc.length ≤ pre.length →
    Ev (fun k => key_Read.j2 k (pre ++ groupB ds ++ rest) ((pre.length + (groupB ds).length : Nat) : Int) true (acc ++ ds) 0 0) R →
    Ev (fun k => key_Read.l0 k (pre ++ groupB ds ++ rest) (pre.length : Int) true acc 0 0) R := by
  induction ds with
  | nil =>
    intro pre acc R hl ha h
    have e : pre ++ groupB [] ++ rest = pre ++ 0 :: rest := by simp [groupB]
    rw [e] at hl h ⊢
    have h1 : rd (pre ++ 0 :: rest) (pre.length : Int) = 0 := rd_mid _ _ _
    have h3 : (pre ++ 0 :: rest).length = pre.length + 1 + rest.length := by simp; omega
    refine Ev.step (fun k => ?_) (Ev.step (g := fun k => key_Read.j1 k (pre ++ 0 :: rest) (pre.length : Int) true false acc 0 0) (fun k => ?_) h)
    · simp only [key_Read.l0, h1, h3]
      rw [if_neg (by omega), if_pos (by omega), if_pos (by omega)]
      rfl
    · simp only [key_Read.j1, h1, h3]
      rw [if_neg (by decide), if_pos (by omega), if_pos (by omega), if_pos trivial, kw64o _ (by omega)]
      simp [groupB]
  | cons s r ih =>
    intro pre acc R hl ha h
    have e : pre ++ groupB (s :: r) ++ rest = pre ++ 1 :: (textB (bytesOf s) ++ (groupB r ++ rest)) := by simp [groupB]
    have e2 : pre ++ 1 :: (textB (bytesOf s) ++ (groupB r ++ rest)) = (pre ++ 1 :: textB (bytesOf s)) ++ groupB r ++ rest := by simp
    have h1 : rd (pre ++ 1 :: (textB (bytesOf s) ++ (groupB r ++ rest))) (pre.length : Int) = 1 := rd_mid _ _ _
    have h3 : (pre ++ 1 :: (textB (bytesOf s) ++ (groupB r ++ rest))).length = pre.length + 1 + (textB (bytesOf s) ++ (groupB r ++ rest)).length := by simp; omega
    have hd : (pre ++ 1 :: (textB (bytesOf s) ++ (groupB r ++ rest))).drop (pre.length + 1) = textB (bytesOf s) ++ (groupB r ++ rest) := by
      rw [show pre ++ 1 :: (textB (bytesOf s) ++ (groupB r ++ rest)) = (pre ++ [1]) ++ (textB (bytesOf s) ++ (groupB r ++ rest)) from by simp]
      exact List.drop_left' (by simp)
    have h4 := textB_pos (bytesOf s)
    have hih := ih (pre ++ 1 :: textB (bytesOf s)) (acc ++ [s]) R (by rw [← e2, ← e]; exact hl) (by simp; omega) (by
      rw [← e2, ← e]
      have e5 : (((pre ++ 1 :: textB (bytesOf s)).length + (groupB r).length : Nat) : Int) = ((pre.length + (groupB (s :: r)).length : Nat) : Int) := by simp [groupB]; omega
      rw [e5]
      simpa using h)
    rw [← e2] at hih
    rw [e] at hl ⊢
    have h5 : (textB (bytesOf s)).length ≤ (textB (bytesOf s) ++ (groupB r ++ rest)).length := by rw [List.length_append]; omega
    refine Ev.step (fun k => ?_) (Ev.step (g := fun k => key_Read.j1 k (pre ++ 1 :: (textB (bytesOf s) ++ (groupB r ++ rest))) (pre.length : Int) true false acc 0 0) (f := fun k => (code_ReadText.f k (textB (bytesOf s) ++ (groupB r ++ rest))).bind fun bt202 => (if bt202.2.2 = 0 then (if acc.length < 8796093022208 then (key_Read.l0 k (pre ++ 1 :: (textB (bytesOf s) ++ (groupB r ++ rest))) (wrap64 ((pre.length : Int) + (wrap64 (bt202.2.1 + 1)))) true (acc ++ [bt202.1]) 0 0) else (none)) else (key_Read.j2 k (pre ++ 1 :: (textB (bytesOf s) ++ (groupB r ++ rest))) (pre.length : Int) false acc 0 0))) (fun k => ?_) ?_)
    · simp only [key_Read.l0, h1, h3]
      rw [if_neg (by omega), if_pos (by omega), if_pos (by omega)]
      rfl
    · simp only [key_Read.j1, h1, h3]
      rw [if_neg (by decide), if_pos (by omega), if_pos (by omega), if_neg (by decide), kw64o _ (by omega), if_pos (by omega), if_pos (by omega)]
      rw [show (((pre.length + 1 : Nat) : Int)).toNat = pre.length + 1 from by omega, hd]
    · refine Ev.bind (read_text_tells s (groupB r ++ rest) (by omega)) ?_
      refine Ev.congr (fun k => ?_) hih
      rw [if_pos rfl, if_pos (by omega), kw64o _ (by omega), kw64n _ _ (by omega)]
      congr 1
      simp
theorem numU_range (v : Int) : 0 ≤ numU v ∧ numU v < 18446744073709551616 := by
  unfold numU Go.bits
  simp [IntKind.wrap, IntKind.bits, IntKind.signed]
  first | done | omega
theorem wraps_u64 (n : Int) (h₀ : 0 ≤ n) (h₁ : n < 2 ^ 64) : IntKind.u64.wrap n = n := by
  simp [IntKind.wrap, IntKind.bits, IntKind.signed]; omega
theorem stN_join {u c : Int} (h0 : 0 ≤ u) (h1 : u < 72057594037927936) (h2 : 0 ≤ c) (h3 : c < 256) : stN u c = u * 256 + c := by
  unfold stN
  rw [wraps_u64 (u * 256) (by omega) (by omega), wraps_u64 c h2 (by omega)]
  exact bits_join .u64 64 (by decide) wraps_u64 8 (u * 256) c (by omega) (by omega) (by omega) h2 (by omega) (by omega)
theorem xor_twice {x : Int} (h0 : 0 ≤ x) (h1 : x < 18446744073709551616) : Go.bits .xor .u64 (Go.bits .xor .u64 x 9223372036854775808) 9223372036854775808 = x := by
  obtain ⟨n, rfl⟩ := Int.eq_ofNat_of_zero_le h0
  have hn : n < 18446744073709551616 := by omega
  have e1 : ∀ a : Int, Go.bits .xor .u64 a 9223372036854775808 = ((BitVec.ofInt 64 a ^^^ BitVec.ofInt 64 9223372036854775808).toNat : Int) := fun a => by
    show IntKind.u64.wrap ((BitVec.ofInt 64 a ^^^ BitVec.ofInt 64 9223372036854775808).toNat : Int) = _
    have := (BitVec.ofInt 64 a ^^^ BitVec.ofInt 64 9223372036854775808).isLt
    rw [wraps_u64 _ (by omega) (by omega)]
  rw [e1, e1]
  simp only [BitVec.ofInt_natCast]
  rw [BitVec.ofNat_toNat, BitVec.setWidth_eq, BitVec.xor_assoc, BitVec.xor_self, BitVec.xor_zero, BitVec.toNat_ofNat, Nat.mod_eq_of_lt (by omega)]
theorem shr_dig (u : Int) (j : Nat) (hj : j ≤ 64) : shr .u64 u (j : Int) = u / 2 ^ j := by
  unfold shr
  rw [show ((j : Int)).toNat = j from by omega, show IntKind.u64.bits = 64 from rfl, Nat.min_eq_left hj]
theorem numOf_numB (v : Int) : numF (numB v) = numU v := by
  have ⟨a, b⟩ := numU_range v
  generalize hu : numU v = u at *
  have s1 : shr .u64 u 56 = u / 72057594037927936 := shr_dig u 56 (by omega)
  have s2 : shr .u64 u 48 = u / 281474976710656 := shr_dig u 48 (by omega)
  have s3 : shr .u64 u 40 = u / 1099511627776 := shr_dig u 40 (by omega)
  have s4 : shr .u64 u 32 = u / 4294967296 := shr_dig u 32 (by omega)
  have s5 : shr .u64 u 24 = u / 16777216 := shr_dig u 24 (by omega)
  have s6 : shr .u64 u 16 = u / 65536 := shr_dig u 16 (by omega)
  have s7 : shr .u64 u 8 = u / 256 := shr_dig u 8 (by omega)
  have s8 : shr .u64 u 0 = u / 1 := shr_dig u 0 (by omega)
  unfold numF numB
  rw [hu, s1, s2, s3, s4, s5, s6, s7, s8]
  simp only [List.foldl_cons, List.foldl_nil]
  have st : ∀ x y : Int, 0 ≤ x → x < 72057594037927936 → stN x (y % 256) = x * 256 + y % 256 := fun x y h0 h1 => stN_join h0 h1 (by omega) (by omega)
  rw [st 0 _ (by omega) (by omega)]
  rw [show (0 * 256 + u / 72057594037927936 % 256 : Int) = u / 72057594037927936 from by omega]
  rw [st (u / 72057594037927936) _ (by omega) (by omega), show u / 72057594037927936 * 256 + u / 281474976710656 % 256 = u / 281474976710656 from by omega]
  rw [st (u / 281474976710656) _ (by omega) (by omega), show u / 281474976710656 * 256 + u / 1099511627776 % 256 = u / 1099511627776 from by omega]
  rw [st (u / 1099511627776) _ (by omega) (by omega), show u / 1099511627776 * 256 + u / 4294967296 % 256 = u / 4294967296 from by omega]
  rw [st (u / 4294967296) _ (by omega) (by omega), show u / 4294967296 * 256 + u / 16777216 % 256 = u / 16777216 from by omega]
  rw [st (u / 16777216) _ (by omega) (by omega), show u / 16777216 * 256 + u / 65536 % 256 = u / 65536 from by omega]
  rw [st (u / 65536) _ (by omega) (by omega), show u / 65536 * 256 + u / 256 % 256 = u / 256 from by omega]
  rw [st (u / 256) _ (by omega) (by omega)]
  omega
theorem number_back {v : Int} (h0 : 0 ≤ v) (h1 : v ≤ 1099511627776) (r : List Int) : code_ReadNumber.f (numB v ++ r) = some (v, 8, 0) := by
  unfold code_ReadNumber.f
  rw [if_neg (by simp [numB_len]; omega)]
  have e : (numB v ++ r).take 8 = numB v := List.take_left' (numB_len v)
  unfold numOf
  rw [e, numOf_numB]
  unfold numU
  rw [wraps_u64 v h0 (by omega), xor_twice h0 (by omega), kw64 (by omega) (by omega)]
theorem read_back {d : List ByteArray} {f g : Int} (hd : dimsB d = true) (hf : 0 ≤ f ∧ f ≤ 1099511627776) (hg : 0 ≤ g ∧ g < 4) : Ev (fun k => key_Read.f k (wrB d f g)) (d, f, g, 0) := by
  have hl := wrB_len (f := f) (g := g) hd
  have e : wrB d f g = [] ++ groupB d ++ (numB f ++ [g]) := by simp [wrB]
  unfold key_Read.f
  rw [e] at hl ⊢
  refine read_loop (numB f ++ [g]) d [] [] _ (by omega) (Nat.le_refl _) ?_
  simp only [List.nil_append, List.length_nil, Nat.zero_add] at hl ⊢
  have hlen : (groupB d ++ (numB f ++ [g])).length = (groupB d).length + 9 := by simp [numB_len]
  have hdr : (groupB d ++ (numB f ++ [g])).drop (groupB d).length = numB f ++ [g] := List.drop_left' rfl
  have hr8 : rd (groupB d ++ (numB f ++ [g])) (((groupB d).length + 8 : Nat) : Int) = g := by
    have := rd_mid (groupB d ++ numB f) g []
    simpa [numB_len] using this
  have ew : wrap64 (((groupB d).length : Int) + 9) = (((groupB d).length + 9 : Nat) : Int) := by rw [kw64] <;> omega
  have ew8 : wrap64 (((groupB d).length : Int) + 8) = (((groupB d).length + 8 : Nat) : Int) := by rw [kw64] <;> omega
  refine Ev.step (f := fun k => key_Read.j3 k (groupB d ++ (numB f ++ [g])) ((groupB d).length : Int) false d 0 0) (fun k => ?_) (Ev.step (fun k => ?_) (Ev.now _))
  · simp only [key_Read.j2, ew, hlen]
    simp
  · simp only [key_Read.j3]
    rw [if_neg (by decide), if_pos (by omega), if_pos (by omega), show (((groupB d).length : Int)).toNat = (groupB d).length from by omega, hdr, number_back hf.1 hf.2]
    simp only [Option.bind_some, ew8, hr8]
    rw [if_pos (by omega), if_pos (by omega), kw64 (x := g) (by omega) (by omega), key_right_tells, decide_eq_true ⟨hd, hf, hg⟩]
    rfl
theorem read_text_ex (x : List Int) (hx : x.length < 1000000) (d : Nat) : ∀ (i : Nat) (acc : List Int), x.length - i = d → i ≤ x.length → acc.length ≤ i →
    ∃ (s : ByteArray) (n e : Int), Ev (fun k => code_ReadText.l0 k x acc (i : Int)) (s, n, e) ∧ (e = 0 → (i : Int) ≤ n ∧ n ≤ (x.length : Int)) := by
  induction d using Nat.strongRecOn with
  | _ d ih =>
    intro i acc hd hi ha
    by_cases hlt : i < x.length
    · by_cases h0 : rd x (i : Int) = 0
      · by_cases h1 : i + 1 = x.length
        · refine ⟨⟨#[]⟩, 0, 10, Ev.step (fun k => ?_) (Ev.now _), fun h => by omega⟩
          simp only [code_ReadText.l0, kw64o i (by omega)]
          rw [if_pos (by omega), if_pos (by omega), if_pos h0, if_pos (by omega)]
        · by_cases h2 : rd x ((i + 1 : Nat) : Int) = 1
          · refine ⟨strOfNums acc, ((i + 2 : Nat) : Int), 0, Ev.step (fun k => ?_) (Ev.now _), fun h => by omega⟩
            simp only [code_ReadText.l0, kw64o i (by omega)]
            rw [if_pos (by omega), if_pos (by omega), if_pos h0, if_neg (by omega), if_pos (by omega), if_pos (by omega), if_pos h2, kw64o _ (by omega)]
          · by_cases h3 : rd x ((i + 1 : Nat) : Int) = 255
            · obtain ⟨s, n, e, h, hb⟩ := ih (x.length - (i + 2)) (by omega) (i + 2) (acc ++ [0]) rfl (by omega) (by simp; omega)
              refine ⟨s, n, e, Ev.step (fun k => ?_) h, fun h => by have := hb h; omega⟩
              simp only [code_ReadText.l0, kw64o i (by omega)]
              rw [if_pos (by omega), if_pos (by omega), if_pos h0, if_neg (by omega), if_pos (by omega), if_pos (by omega), if_neg h2, if_pos h3, if_pos (by omega), kw64o _ (by omega)]
            · refine ⟨⟨#[]⟩, 0, 3, Ev.step (fun k => ?_) (Ev.now _), fun h => by omega⟩
              simp only [code_ReadText.l0, kw64o i (by omega)]
              rw [if_pos (by omega), if_pos (by omega), if_pos h0, if_neg (by omega), if_pos (by omega), if_pos (by omega), if_neg h2, if_neg h3]
      · obtain ⟨s, n, e, h, hb⟩ := ih (x.length - (i + 1)) (by omega) (i + 1) (acc ++ [rd x (i : Int)]) rfl (by omega) (by simp; omega)
        refine ⟨s, n, e, Ev.step (fun k => ?_) h, fun h => by have := hb h; omega⟩
        simp only [code_ReadText.l0]
        rw [if_pos (by omega), if_pos (by omega), if_neg h0, if_pos (by omega), kw64o _ (by omega)]
    · refine ⟨⟨#[]⟩, 0, 10, Ev.step (fun k => ?_) (Ev.now _), fun h => by omega⟩
      simp only [code_ReadText.l0]
      rw [if_neg (by omega)]
def keyOk (r : List ByteArray × Int × Int × Int) : Prop := r.2.2.2 = 0 → dimsB r.1 = true ∧ (0 ≤ r.2.1 ∧ r.2.1 ≤ 1099511627776) ∧ 0 ≤ r.2.2.1 ∧ r.2.2.1 < 4
theorem read_end_bad (x : List Int) (i : Int) (ds : List ByteArray) : Ev (fun k => key_Read.j2 k x i false ds 0 0) ([], 0, 0, 40) := by
  refine Ev.step (f := fun k => key_Read.j3 k x i true ds 0 0) (fun k => ?_) (Ev.step (fun k => ?_) (Ev.now _))
  · simp only [key_Read.j2]; simp
  · simp only [key_Read.j3]; simp
theorem read_end (x : List Int) (hx : x.length < 1000000) (i : Nat) (hi : i ≤ x.length) (ds : List ByteArray) : ∃ r, Ev (fun k => key_Read.j2 k x (i : Int) true ds 0 0) r ∧ keyOk r := by
  have ew : wrap64 ((i : Int) + 9) = ((i + 9 : Nat) : Int) := by rw [kw64] <;> omega
  have ew8 : wrap64 ((i : Int) + 8) = ((i + 8 : Nat) : Int) := by rw [kw64] <;> omega
  by_cases h9 : x.length = i + 9
  · have hnum : code_ReadNumber.f (x.drop i) = some (numOf (x.drop i), 8, 0) := by
      unfold code_ReadNumber.f
      rw [if_neg (by rw [List.length_drop]; omega)]
    have hj : ∀ k, key_Read.j2 (k + 1) x (i : Int) true ds 0 0 = key_Read.j3 k x (i : Int) false ds 0 0 := fun k => by
      simp only [key_Read.j2, ew]
      rw [if_pos trivial, show ((x.length : Int) != ((i + 9 : Nat) : Int)) = false from by simp; omega]
    have hj3 : ∀ k, key_Read.j3 (k + 1) x (i : Int) false ds 0 0 = if decide (dimsB ds = true ∧ (0 ≤ numOf (x.drop i) ∧ numOf (x.drop i) ≤ 1099511627776) ∧ 0 ≤ wrap64 (rd x ((i + 8 : Nat) : Int)) ∧ wrap64 (rd x ((i + 8 : Nat) : Int)) < 4) = true then some (ds, numOf (x.drop i), wrap64 (rd x ((i + 8 : Nat) : Int)), 0) else some ([], 0, 0, 40) := fun k => by
      simp only [key_Read.j3]
      rw [if_neg (by decide), if_pos (by omega), if_pos (by omega), show ((i : Int)).toNat = i from by omega, hnum]
      simp only [Option.bind_some, ew8]
      rw [if_pos (by omega), if_pos (by omega), key_right_tells]
      rfl
    by_cases hr : dimsB ds = true ∧ (0 ≤ numOf (x.drop i) ∧ numOf (x.drop i) ≤ 1099511627776) ∧ 0 ≤ wrap64 (rd x ((i + 8 : Nat) : Int)) ∧ wrap64 (rd x ((i + 8 : Nat) : Int)) < 4
    · refine ⟨(ds, numOf (x.drop i), wrap64 (rd x ((i + 8 : Nat) : Int)), 0), Ev.step hj (Ev.step hj3 (Ev.congr (fun k => ?_) (Ev.now _))), fun _ => hr⟩
      rw [decide_eq_true hr, if_pos rfl]
    · refine ⟨([], 0, 0, 40), Ev.step hj (Ev.step hj3 (Ev.congr (fun k => ?_) (Ev.now _))), fun h => absurd h (by decide)⟩
      rw [decide_eq_false hr, if_neg (by decide)]
  · refine ⟨([], 0, 0, 40), Ev.step (f := fun k => key_Read.j3 k x i true ds 0 0) (fun k => ?_) (Ev.step (fun k => ?_) (Ev.now _)), fun h => absurd h (by decide)⟩
    · simp only [key_Read.j2, ew]
      rw [if_pos trivial, show ((x.length : Int) != ((i + 9 : Nat) : Int)) = true from by simp; omega]
    · simp only [key_Read.j3]; simp
theorem read_loop_ex (x : List Int) (hx : x.length < 1000000) (d : Nat) : ∀ (i : Nat) (ds : List ByteArray), x.length - i = d → i ≤ x.length → ds.length ≤ i →
    ∃ r, Ev (fun k => key_Read.l0 k x (i : Int) true ds 0 0) r ∧ keyOk r := by
  induction d using Nat.strongRecOn with
  | _ d ih =>
    intro i ds hd hi ha
    have bad : ∃ r, Ev (fun k => key_Read.j1 k x (i : Int) true true ds 0 0) r ∧ keyOk r := by
      refine ⟨([], 0, 0, 40), Ev.step (f := fun k => key_Read.j2 k x (i : Int) false ds 0 0) (fun k => ?_) (read_end_bad x i ds), fun h => absurd h (by decide)⟩
      simp only [key_Read.j1]; simp
    by_cases hlt : i < x.length
    · have hstep : ∀ k, key_Read.l0 (k + 1) x (i : Int) true ds 0 0 = key_Read.j1 k x (i : Int) true (decide (rd x (i : Int) > 1)) ds 0 0 := fun k => by
        simp only [key_Read.l0]
        rw [if_neg (by omega), if_pos (by omega), if_pos (by omega)]
      by_cases h1 : rd x (i : Int) > 1
      · obtain ⟨r, h, hk⟩ := bad
        exact ⟨r, Ev.step hstep (by rw [decide_eq_true h1]; exact h), hk⟩
      · by_cases h0 : rd x (i : Int) = 0
        · obtain ⟨r, h, hk⟩ := read_end x hx (i + 1) (by omega) ds
          refine ⟨r, Ev.step hstep ?_, hk⟩
          rw [decide_eq_false h1]
          refine Ev.step (fun k => ?_) h
          simp only [key_Read.j1]
          rw [if_neg (by decide), if_pos (by omega), if_pos (by omega), if_pos h0, kw64o _ (by omega)]
        · obtain ⟨s, n, e, ht, hn⟩ := read_text_ex (x.drop (i + 1)) (by rw [List.length_drop]; omega) _ 0 [] rfl (Nat.zero_le _) (Nat.zero_le _)
          have hj : ∀ k, key_Read.j1 (k + 1) x (i : Int) true false ds 0 0 = (code_ReadText.f k (x.drop (i + 1))).bind fun bt202 => (if bt202.2.2 = 0 then (if ds.length < 8796093022208 then (key_Read.l0 k x (wrap64 ((i : Int) + (wrap64 (bt202.2.1 + 1)))) true (ds ++ [bt202.1]) 0 0) else (none)) else (key_Read.j2 k x (i : Int) false ds 0 0)) := fun k => by
            simp only [key_Read.j1]
            rw [if_neg (by decide), if_pos (by omega), if_pos (by omega), if_neg h0, kw64o _ (by omega), if_pos (by omega), if_pos (by omega), show (((i + 1 : Nat) : Int)).toNat = i + 1 from by omega]
          by_cases he : e = 0
          · obtain ⟨hn0, hn1⟩ := hn he
            rw [List.length_drop] at hn1
            obtain ⟨m, rfl⟩ : ∃ m : Nat, n = (m : Int) := ⟨n.toNat, by omega⟩
            obtain ⟨r, h, hk⟩ := ih (x.length - (i + (m + 1))) (by omega) (i + (m + 1)) (ds ++ [s]) rfl (by omega) (by simp; omega)
            refine ⟨r, Ev.step hstep ?_, hk⟩
            rw [decide_eq_false h1]
            refine Ev.step hj (Ev.bind ht ?_)
            refine Ev.congr (fun k => ?_) h
            rw [if_pos he, if_pos (by omega), kw64o _ (by omega), kw64n _ _ (by omega)]
          · refine ⟨([], 0, 0, 40), Ev.step hstep ?_, fun h => absurd h (by decide)⟩
            rw [decide_eq_false h1]
            refine Ev.step hj (Ev.bind ht ?_)
            refine Ev.congr (fun k => ?_) (read_end_bad x i ds)
            rw [if_neg he]
    · obtain ⟨r, h, hk⟩ := bad
      refine ⟨r, Ev.step (fun k => ?_) h, hk⟩
      simp only [key_Read.l0]
      rw [if_pos (by omega)]
theorem read_ex (x : List Int) (hx : x.length < 1000000) : ∃ r, Ev (fun k => key_Read.f k x) r ∧ keyOk r := read_loop_ex x hx _ 0 [] rfl (Nat.zero_le _) (Nat.zero_le _)
theorem Ev.uniq {α : Type} {g : Nat → Option α} {a b : α} (h : Ev g a) (k : Ev g b) : a = b := by
  obtain ⟨K, h⟩ := h
  obtain ⟨K', k⟩ := k
  have h1 := h (max K K') (by omega)
  have h2 := k (max K K') (by omega)
  rw [h1] at h2
  exact Option.some.inj h2
theorem cmpB_refl : ∀ x : List Int, cmpB x x = 0
  | [] => rfl
  | a :: x => by unfold cmpB; rw [if_neg (by omega), if_neg (by omega)]; exact cmpB_refl x
theorem cmpB_eq : ∀ {x y : List Int}, cmpB x y = 0 → x = y
  | [], [], _ => rfl
  | [], _ :: _, h => by simp [cmpB] at h
  | _ :: _, [], h => by simp [cmpB] at h
  | a :: x, b :: y, h => by
    unfold cmpB at h
    split at h
    · simp at h
    · split at h
      · simp at h
      · obtain rfl : a = b := by omega
        rw [cmpB_eq h]
theorem cmpB_anti : ∀ (x y : List Int), cmpB y x = - cmpB x y
  | [], [] => rfl
  | [], _ :: _ => rfl
  | _ :: _, [] => rfl
  | a :: x, b :: y => by
    unfold cmpB
    by_cases h1 : a < b
    · rw [if_neg (by omega), if_pos h1, if_pos h1]; rfl
    · by_cases h2 : b < a
      · rw [if_pos h2, if_neg h1, if_pos h2]
      · rw [if_neg h2, if_neg h1, if_neg h1, if_neg h2]; exact cmpB_anti x y
theorem cmpB_trans : ∀ {x y z : List Int}, cmpB x y < 0 → cmpB y z < 0 → cmpB x z < 0
  | [], [], _, h, _ => by simp [cmpB] at h
  | _ :: _, [], _, h, _ => by simp [cmpB] at h
  | _, _ :: _, [], _, h => by simp [cmpB] at h
  | [], _ :: _, _ :: _, _, _ => by simp [cmpB]
  | a :: x, b :: y, c :: z, h, k => by
    unfold cmpB at h k ⊢
    by_cases h1 : a < b
    · by_cases k1 : b < c
      · rw [if_pos (by omega)]; omega
      · rw [if_neg k1] at k
        by_cases k2 : c < b
        · rw [if_pos k2] at k; omega
        · rw [if_pos (by omega)]; omega
    · rw [if_neg h1] at h
      by_cases h2 : b < a
      · rw [if_pos h2] at h; omega
      · rw [if_neg h2] at h
        obtain rfl : a = b := by omega
        by_cases k1 : a < c
        · rw [if_pos k1]; omega
        · rw [if_neg k1] at k
          by_cases k2 : c < a
          · rw [if_pos k2] at k; omega
          · rw [if_neg k2] at k
            rw [if_neg k1, if_neg k2]
            exact cmpB_trans h k
theorem cmpB_zero {x y : List Int} : cmpB x y = 0 ↔ x = y := ⟨cmpB_eq, fun h => h ▸ cmpB_refl x⟩
theorem cmpB_gt {x y : List Int} : 0 < cmpB x y ↔ cmpB y x < 0 := by rw [cmpB_anti x y]; omega
abbrev SortedE (l : List En) : Prop := l.Pairwise (fun a b => cmpB a.f0 b.f0 < 0)
def CutAt (l : List En) (b : List Int) (p : Nat) : Prop := p ≤ l.length ∧ (∀ q (h : q < l.length), q < p → cmpB l[q].f0 b < 0) ∧ (∀ q (h : q < l.length), p ≤ q → ¬ cmpB l[q].f0 b < 0)
theorem sorted_lt {l : List En} (hs : SortedE l) {i j : Nat} (hij : i < j) (hj : j < l.length) : cmpB (l[i]'(by omega)).f0 l[j].f0 < 0 := List.pairwise_iff_getElem.1 hs i j (by omega) hj hij
theorem bsF_cut {l : List En} {b : List Int} (hs : SortedE l) : ∀ (f i j : Nat), j ≤ l.length → i ≤ j → j - i ≤ f → (∀ q (h : q < l.length), q < i → cmpB l[q].f0 b < 0) → (∀ q (h : q < l.length), j ≤ q → ¬ cmpB l[q].f0 b < 0) → CutAt l b (bsF l b f i j) := by
  intro f
  induction f with
  | zero =>
    intro i j hj hij hf h1 h2
    obtain rfl : i = j := by omega
    exact ⟨hj, h1, h2⟩
  | succ f ih =>
    intro i j hj hij hf h1 h2
    unfold bsF
    by_cases hlt : i < j
    · rw [if_pos hlt]
      have hm : (i + j) / 2 < l.length := by omega
      rw [rd_ent hm]
      by_cases hc : cmpB l[(i + j) / 2].f0 b < 0
      · rw [if_pos hc]
        refine ih _ _ hj (by omega) (by omega) (fun q hq hlt' => ?_) h2
        rcases Nat.lt_or_ge q ((i + j) / 2) with h | h
        · exact cmpB_trans (sorted_lt hs h hm) hc
        · obtain rfl : q = (i + j) / 2 := by omega
          exact hc
      · rw [if_neg hc]
        refine ih _ _ (by omega) (by omega) (by omega) h1 (fun q hq hge hlt' => ?_)
        rcases Nat.lt_or_ge ((i + j) / 2) q with h | h
        · exact hc (cmpB_trans (sorted_lt hs h hq) hlt')
        · obtain rfl : q = (i + j) / 2 := by omega
          exact hc hlt'
    · rw [if_neg hlt]
      obtain rfl : i = j := by omega
      exact ⟨hj, h1, h2⟩
theorem place_cut {l : List En} (hs : SortedE l) (b : List Int) : CutAt l b (placeE l b) := bsF_cut hs l.length 0 l.length (Nat.le_refl _) (Nat.zero_le _) (by omega) (fun q _ h => absurd h (by omega)) (fun q h1 h2 => absurd h1 (by omega))
def insE (b : List Int) (a : Ag) : List En → List En
  | [] => [⟨b, a⟩]
  | y :: r => if cmpB y.f0 b < 0 then y :: insE b a r else if y.f0 = b then ⟨y.f0, mergeA y.f1 a⟩ :: r else ⟨b, a⟩ :: y :: r
theorem cut_tail {y : En} {r : List En} {b : List Int} {p : Nat} (h : CutAt (y :: r) b (p + 1)) : cmpB y.f0 b < 0 ∧ CutAt r b p :=
  ⟨h.2.1 0 (by simp) (by omega), by have := h.1; simp at this; omega, fun q hq hlt => h.2.1 (q + 1) (by simp; omega) (by omega), fun q hq hge => h.2.2 (q + 1) (by simp; omega) (by omega)⟩
theorem ins_there {b : List Int} {a : Ag} : ∀ {l : List En} {p : Nat}, CutAt l b p → ∀ (h : p < l.length), l[p].f0 = b → insE b a l = l.set p ⟨l[p].f0, mergeA l[p].f1 a⟩
  | [], _, _, h, _ => absurd h (by simp)
  | y :: r, 0, hc, _, he => by
    have h0 : ¬ cmpB y.f0 b < 0 := hc.2.2 0 (by simp) (Nat.le_refl _)
    have he' : y.f0 = b := he
    unfold insE
    rw [if_neg h0, if_pos he']
    rfl
  | y :: r, p + 1, hc, h, he => by
    obtain ⟨h0, hc'⟩ := cut_tail hc
    unfold insE
    rw [if_pos h0, ins_there hc' (by simpa using h) he]
    rfl
theorem ins_new {b : List Int} {a : Ag} : ∀ {l : List En} {p : Nat}, CutAt l b p → (∀ (h : p < l.length), l[p].f0 ≠ b) → insE b a l = l.take p ++ [⟨b, a⟩] ++ l.drop p
  | [], p, hc, _ => by
    obtain rfl : p = 0 := by have := hc.1; simpa using this
    rfl
  | y :: r, 0, hc, hn => by
    have h0 : ¬ cmpB y.f0 b < 0 := hc.2.2 0 (by simp) (Nat.le_refl _)
    have hn' : y.f0 ≠ b := hn (by simp)
    unfold insE
    rw [if_neg h0, if_neg hn']
    rfl
  | y :: r, p + 1, hc, hn => by
    obtain ⟨h0, hc'⟩ := cut_tail hc
    unfold insE
    rw [if_pos h0, ins_new hc' (fun h => hn (by simpa using h))]
    rfl
theorem putE_eq {b : List Int} {a : Ag} {l : List En} (hs : SortedE l) (hl : l.length < 1000) (hb : ∀ y ∈ l, y.f0.all isB = true) (hbb : b.all isB = true) (hu : ∀ y ∈ l, inU y.f1.f2.f1) (ha : inU a.f2.f1) : putE b a l = some (insE b a l) := by
  have hc := place_cut hs b
  unfold putE
  rw [if_pos ⟨hl, hb, hbb⟩]
  generalize hp : placeE l b = p at *
  have hth : thereE l b = (decide (p < l.length) && (cmpB (rd_T60 l ((p : Nat) : Int)).f0 b == 0)) := by unfold thereE; rw [hp]
  by_cases hlt : p < l.length
  · rw [rd_ent hlt] at hth
    rw [rd_ent hlt]
    by_cases he : l[p].f0 = b
    · rw [if_pos (by rw [hth, decide_eq_true hlt, he, cmpB_refl]; rfl), if_pos ⟨hu _ (List.getElem_mem _), ha⟩, ins_there hc hlt he]
    · rw [if_neg (by rw [hth, decide_eq_true hlt]; simp [cmpB_zero, he]), ins_new hc (fun _ => he)]
  · rw [if_neg (by rw [hth, decide_eq_false hlt]; simp), ins_new hc (fun h => absurd h hlt)]
theorem addW_eq {a b : S40} (ha : inU a.f1) (_ : inU b.f1) : addW a b = ⟨wrap64 (a.f0 + b.f0 + (a.f1 + b.f1) / mW), (a.f1 + b.f1) % mW⟩ := by
  have h2 : (sumW [a, b]).2 = (a.f1 + b.f1) % mW := by
    simp only [sumW, List.foldl_cons, List.foldl_nil, stW]
    unfold inU mW at *
    omega
  have h1 : (sumW [a, b]).1 = (a.f0 + b.f0 + (a.f1 + b.f1) / mW) % mW := by
    simp only [sumW, List.foldl_cons, List.foldl_nil, stW, u64_wrap]
    unfold inU mW at *
    omega
  unfold addW
  rw [h1, h2]
  congr 1
  unfold wrap64 mW
  omega
theorem addW_comm {a b : S40} (ha : inU a.f1) (hb : inU b.f1) : addW a b = addW b a := by
  rw [addW_eq ha hb, addW_eq hb ha, Int.add_comm a.f0, Int.add_comm a.f1]
theorem addW_assoc {a b c : S40} (ha : inU a.f1) (hb : inU b.f1) (hc : inU c.f1) : addW (addW a b) c = addW a (addW b c) := by
  have h1 : inU (addW a b).f1 := by rw [addW_eq ha hb]; exact mod_mW _
  have h2 : inU (addW b c).f1 := by rw [addW_eq hb hc]; exact mod_mW _
  rw [addW_eq h1 hc, addW_eq ha h2, addW_eq ha hb, addW_eq hb hc]
  unfold inU mW wrap64 at *
  simp only
  congr 1 <;> omega
theorem least_comm (a b : Int) : leastI a b = leastI b a := by unfold leastI; split <;> split <;> omega
theorem most_comm (a b : Int) : mostI a b = mostI b a := by unfold mostI; split <;> split <;> omega
theorem least_assoc (a b c : Int) : leastI (leastI a b) c = leastI a (leastI b c) := by unfold leastI; repeat' split <;> omega
theorem most_assoc (a b c : Int) : mostI (mostI a b) c = mostI a (mostI b c) := by unfold mostI; repeat' split <;> omega
def cntS (c : Int) (o : Bool) (d : Int) (p : Bool) : Int × Bool := if c + d ≥ mW ∨ o = true ∨ p = true then (mW - 1, true) else (c + d, false)
theorem mgTop_eq {c d : Int} {o p : Bool} (hc : inU c) (hd : inU d) : mgTop (IntKind.u64.wrap (c + d)) c (o || p) = cntS c o d p := by
  unfold mgTop cntS
  rw [u64_wrap]
  unfold inU mW at *
  by_cases h : c + d ≥ 18446744073709551616
  · rw [if_pos (.inl (by omega)), if_pos (.inl h)]; rfl
  · by_cases ho : o = true ∨ p = true
    · rw [if_pos (.inr (by simpa using ho)), if_pos (.inr ho)]; rfl
    · rw [if_neg (by
        rintro (h1 | h1)
        · omega
        · exact ho (by simpa using h1)), if_neg (by
        rintro (h1 | h1)
        · omega
        · exact ho h1)]
      congr 1
      omega
def okAg (a : Ag) : Prop := inU a.f0 ∧ inU a.f2.f1 ∧ (a.f1 = true → a.f0 = mW - 1)
theorem mergeA_eq {a b : Ag} (ha : okAg a) (hb : okAg b) (ha0 : a.f0 ≠ 0) (hb0 : b.f0 ≠ 0) : mergeA a b = ⟨(cntS a.f0 a.f1 b.f0 b.f1).1, (cntS a.f0 a.f1 b.f0 b.f1).2, addW a.f2 b.f2, leastI a.f3 b.f3, mostI a.f4 b.f4⟩ := by
  unfold mergeA
  rw [if_neg ha0, if_neg hb0, mgTop_eq ha.1 hb.1]
theorem mergeA_zero_right {a : Ag} {b : Ag} (ha0 : a.f0 ≠ 0) (hb0 : b.f0 = 0) : mergeA a b = a := by unfold mergeA; rw [if_neg ha0, if_pos hb0]
theorem mergeA_zero_left {a : Ag} {b : Ag} (ha0 : a.f0 = 0) : mergeA a b = b := by unfold mergeA; rw [if_pos ha0]
theorem cnt_pos {c d : Int} {o p : Bool} (hc : inU c) (hd : inU d) (h : c ≠ 0) : (cntS c o d p).1 ≠ 0 := by
  unfold cntS inU mW at *
  split
  · decide
  · simp only; omega
theorem cnt_bd {c d : Int} {o p : Bool} (hc : inU c) (hd : inU d) : inU (cntS c o d p).1 ∧ ((cntS c o d p).2 = true → (cntS c o d p).1 = mW - 1) := by
  unfold cntS inU mW at *
  split
  · exact ⟨by decide, fun _ => rfl⟩
  · exact ⟨by simp only; omega, fun h => by cases h⟩
theorem mergeA_ok {a b : Ag} (ha : okAg a) (hb : okAg b) : okAg (mergeA a b) := by
  by_cases ha0 : a.f0 = 0
  · rw [mergeA_zero_left ha0]; exact hb
  · by_cases hb0 : b.f0 = 0
    · rw [mergeA_zero_right ha0 hb0]; exact ha
    · rw [mergeA_eq ha hb ha0 hb0]
      exact ⟨(cnt_bd ha.1 hb.1).1, by rw [addW_eq ha.2.1 hb.2.1]; exact mod_mW _, (cnt_bd ha.1 hb.1).2⟩
theorem mergeA_pos {a b : Ag} (ha : okAg a) (hb : okAg b) (ha0 : a.f0 ≠ 0) : (mergeA a b).f0 ≠ 0 := by
  by_cases hb0 : b.f0 = 0
  · rw [mergeA_zero_right ha0 hb0]; exact ha0
  · rw [mergeA_eq ha hb ha0 hb0]; exact cnt_pos ha.1 hb.1 ha0
theorem cnt_comm (c : Int) (o : Bool) (d : Int) (p : Bool) : cntS c o d p = cntS d p c o := by
  unfold cntS
  rw [Int.add_comm c d]
  by_cases h : d + c ≥ mW ∨ o = true ∨ p = true
  · rw [if_pos h, if_pos (by rcases h with h | h | h <;> simp [h])]
  · rw [if_neg h, if_neg (by rintro (h1 | h1 | h1) <;> simp [h1] at h)]
theorem mergeA_comm {a b : Ag} (ha : okAg a) (hb : okAg b) (ha0 : a.f0 ≠ 0) (hb0 : b.f0 ≠ 0) : mergeA a b = mergeA b a := by
  rw [mergeA_eq ha hb ha0 hb0, mergeA_eq hb ha hb0 ha0, cnt_comm, addW_comm ha.2.1 hb.2.1, least_comm, most_comm]
theorem cnt_assoc {c d e : Int} {o p q : Bool} (hc : inU c) (_ : inU d) (he : inU e) (_ : c ≠ 0) (_ : e ≠ 0) : cntS (cntS c o d p).1 (cntS c o d p).2 e q = cntS c o (cntS d p e q).1 (cntS d p e q).2 := by
  unfold inU mW at *
  have L : cntS (cntS c o d p).1 (cntS c o d p).2 e q = if c + d + e ≥ mW ∨ o = true ∨ p = true ∨ q = true then (mW - 1, true) else (c + d + e, false) := by
    unfold cntS mW
    by_cases h : c + d ≥ 18446744073709551616 ∨ o = true ∨ p = true
    · rw [if_pos h, if_pos (by simp)]
      rw [if_pos (by rcases h with h | h | h
                     · left; omega
                     · right; left; exact h
                     · right; right; left; exact h)]
    · rw [if_neg h]
      simp only [not_or] at h
      simp [h]
  have R : cntS c o (cntS d p e q).1 (cntS d p e q).2 = if c + d + e ≥ mW ∨ o = true ∨ p = true ∨ q = true then (mW - 1, true) else (c + d + e, false) := by
    unfold cntS mW
    by_cases h : d + e ≥ 18446744073709551616 ∨ p = true ∨ q = true
    · rw [if_pos h, if_pos (by simp)]
      rw [if_pos (by rcases h with h | h | h
                     · left; omega
                     · right; right; left; exact h
                     · right; right; right; exact h)]
    · rw [if_neg h]
      simp only [not_or] at h
      simp [h, Int.add_assoc]
  rw [L, R]
theorem mergeA_assoc {a b c : Ag} (ha : okAg a) (hb : okAg b) (hc : okAg c) (ha0 : a.f0 ≠ 0) (hb0 : b.f0 ≠ 0) (hc0 : c.f0 ≠ 0) : mergeA (mergeA a b) c = mergeA a (mergeA b c) := by
  rw [mergeA_eq (mergeA_ok ha hb) hc (mergeA_pos ha hb ha0) hc0, mergeA_eq ha (mergeA_ok hb hc) ha0 (mergeA_pos hb hc hb0), mergeA_eq ha hb ha0 hb0, mergeA_eq hb hc hb0 hc0]
  simp only
  rw [cnt_assoc ha.1 hb.1 hc.1 ha0 hc0, addW_assoc ha.2.1 hb.2.1 hc.2.1, least_assoc, most_assoc]
end Go.Proofs.Ytdopbhbbpgfliaa.PAsk
end
