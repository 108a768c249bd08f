import Derived.Test.YtjemmmemenljbaaZFoldFolds23
section
namespace Go.Proofs.Ytjemmmemenljbaa.PFold
open Go.RowKit Go.Proofs.YtjemmmemenljbaaW.PrintWords Go.Proofs.YtjemmmemenljbaaW.PrintLast Go.Proofs.YtjemmmemenljbaaW.PrintMore
set_option linter.unusedVariables false
set_option linter.unusedSimpArgs false
set_option maxHeartbeats 8000000
set_option maxRecDepth 100000
theorem rtext_loop (s : ByteArray) (hs : s.size < 1000000) (d : Nat) : ∀ (i : Nat) (acc : List Int), s.size - i = d → i ≤ s.size → acc.length + 2 * d + 2 < 1000000000 →
    Ev (fun k => rickyardref04_Text.l0 k s acc (i : Int)) (acc ++ textB ((bytesOf s).drop i)) := by
  induction d with
  | zero =>
    intro i acc hd hi hl
    have e : (bytesOf s).drop i = [] := List.drop_eq_nil_of_le (by rw [bytesOf_length]; omega)
    refine Ev.step (fun k => ?_) (Ev.now _)
    simp only [rickyardref04_Text.l0]
    rw [if_neg (by omega)]
    simp only [Option.bind_some]
    rw [if_pos (by simp; omega), e]; rfl
  | succ d ih =>
    intro i acc hd hi hl
    have hlt : i < (bytesOf s).length := by rw [bytesOf_length]; omega
    have hb : bt s (i : Int) = (bytesOf s)[i] := by rw [← rd_bytesOf, rd_get hlt]
    rw [List.drop_eq_getElem_cons hlt]
    by_cases h0 : (bytesOf s)[i] = 0
    · have e : acc ++ textB ((bytesOf s)[i] :: (bytesOf s).drop (i + 1)) = (acc ++ [0] ++ [255]) ++ textB ((bytesOf s).drop (i + 1)) := by
        rw [h0]; simp [textB]
      rw [e]
      refine Ev.step (fun k => ?_) (ih (i + 1) (acc ++ [0] ++ [255]) (by omega) (by omega) (by simp; omega))
      simp only [rickyardref04_Text.l0]
      rw [if_pos (by omega), if_pos (by omega), if_pos (by omega)]
      simp only [Option.bind_some, hb, h0]
      rw [if_pos trivial, if_pos (by simp; omega), kw64o i (by omega)]
    · have e : acc ++ textB ((bytesOf s)[i] :: (bytesOf s).drop (i + 1)) = (acc ++ [(bytesOf s)[i]]) ++ textB ((bytesOf s).drop (i + 1)) := by
        simp [textB, h0]
      rw [e]
      refine Ev.step (fun k => ?_) (ih (i + 1) (acc ++ [(bytesOf s)[i]]) (by omega) (by omega) (by simp; omega))
      simp only [rickyardref04_Text.l0]
      rw [if_pos (by omega), if_pos (by omega), if_pos (by omega)]
      simp only [Option.bind_some, hb]
      rw [if_neg h0, kw64o i (by omega)]
theorem rtext_tells {s : ByteArray} (hs : s.size < 1000000) : Ev (fun k => rickyardref04_Text.f k s) (textB (bytesOf s)) := by
  have := rtext_loop s hs s.size 0 [] (by omega) (by omega) (by simp; omega)
  unfold rickyardref04_Text.f
  simpa using this
theorem rgroup_loop (l : List ByteArray) (hl : l.length ≤ 4) (hs : ∀ s ∈ l, s.size ≤ 16) (d : Nat) : ∀ (i : Nat) (acc : List Int), l.length - i = d → i ≤ l.length → acc.length + 40 * d + 1 < 100000 →
    Ev (fun k => rickyardref06_Group.l0 k l acc (i : Int)) (acc ++ groupB (l.drop i), 0) := by
  induction d with
  | zero =>
    intro i acc hd hi ha
    rw [List.drop_eq_nil_of_le (by omega)]
    refine Ev.step (fun k => ?_) (Ev.now _)
    simp only [rickyardref06_Group.l0]
    rw [if_neg (by omega), if_pos (by omega)]; rfl
  | succ d ih =>
    intro i acc hd hi ha
    have hlt : i < l.length := by omega
    have hz := hs l[i] (List.getElem_mem _)
    have ht := textB_len (bytesOf l[i])
    rw [bytesOf_length] at ht
    rw [List.drop_eq_getElem_cons hlt]
    have e : acc ++ groupB (l[i] :: l.drop (i + 1)) = (acc ++ [1] ++ textB (bytesOf l[i])) ++ groupB (l.drop (i + 1)) := by simp [groupB]
    rw [e]
    refine Ev.step (f := fun k => (rickyardref04_Text.f k l[i]).bind fun t266 => (if (acc ++ [1]).length + t266.length < 140737488355328 then (rickyardref06_Group.l0 k l ((acc ++ [1]) ++ t266) ((i + 1 : Nat) : Int)) else (none))) (fun k => ?_) ?_
    · simp only [rickyardref06_Group.l0]
      rw [if_pos (by omega), if_pos (by omega)]
      simp only [Option.bind_some, rdOf_get hlt, kw64o i (by omega)]
      rw [if_pos (by omega)]
    · refine Ev.bind (rtext_tells (by omega)) ?_
      refine Ev.congr (fun k => ?_) (ih (i + 1) (acc ++ [1] ++ textB (bytesOf l[i])) (by omega) (by omega) (by simp only [List.length_append, List.length_singleton]; omega))
      rw [if_pos (by simp only [List.length_append, List.length_singleton]; omega)]
theorem rfits_loop (l : List ByteArray) (hl : l.length ≤ 4) (d : Nat) : ∀ i : Nat, l.length - i = d → Ev (fun k => rickyardref06_Fits.l0 k l (i : Int)) ((l.drop i).all fun s => decide (s.size ≤ 16)) := by
  induction d with
  | zero =>
    intro i hd
    rw [List.drop_eq_nil_of_le (by omega)]
    refine Ev.step (fun k => ?_) (Ev.now _)
    simp only [rickyardref06_Fits.l0]
    rw [if_neg (by omega)]
    simp
  | succ d ih =>
    intro i hd
    have hlt : i < l.length := by omega
    rw [List.drop_eq_getElem_cons hlt, List.all_cons]
    by_cases hg : (l[i].size : Int) > 16
    · refine Ev.step (fun k => ?_) (Ev.now _)
      simp only [rickyardref06_Fits.l0, rdOf_get hlt]
      rw [if_pos (by omega), if_pos (by omega), if_pos hg, decide_eq_false (by omega)]
      rfl
    · rw [decide_eq_true (show l[i].size ≤ 16 by omega), Bool.true_and]
      refine Ev.step (fun k => ?_) (ih (i + 1) (by omega))
      simp only [rickyardref06_Fits.l0, rdOf_get hlt, kw64o i (by omega)]
      rw [if_pos (by omega), if_pos (by omega), if_neg hg]
theorem rfits_tells (l : List ByteArray) : Ev (fun k => rickyardref06_Fits.f k l) (dimsB l) := by
  unfold rickyardref06_Fits.f
  by_cases h : (l.length : Int) > 4
  · have e : dimsB l = false := by
      cases hd : dimsB l with
      | false => rfl
      | true => have := (dims_iff.1 hd).1; omega
    rw [e]
    exact Ev.congr (fun k => by rw [if_pos h]) (Ev.now _)
  · have e : dimsB l = (l.drop 0).all fun s => decide (s.size ≤ 16) := by
      rw [List.drop_zero, Bool.eq_iff_iff, dims_iff, List.all_eq_true]
      exact ⟨fun h s hs => decide_eq_true (h.2 s hs), fun hh => ⟨by omega, fun s hs => of_decide_eq_true (hh s hs)⟩⟩
    rw [e]
    exact Ev.congr (fun k => by rw [if_neg h]; rfl) (rfits_loop l (by omega) _ 0 rfl)
def okK (d : List ByteArray) (f g : Int) : Prop := dimsB d = true ∧ (0 ≤ f ∧ f ≤ 1099511627776) ∧ 0 ≤ g ∧ g < 4
instance (d : List ByteArray) (f g : Int) : Decidable (okK d f g) := by unfold okK; infer_instance
theorem rright_key_tells (d : List ByteArray) (f g : Int) : Ev (fun k => rickyardref06_Right.f k d f g) (decide (okK d f g)) := by
  unfold rickyardref06_Right.f
  refine Ev.bind (rfits_tells d) ?_
  unfold okK
  refine Ev.congr (fun k => ?_) (Ev.now _)
  by_cases h1 : dimsB d = true
  · by_cases h2 : f ≥ 0
    · by_cases h3 : f ≤ 1099511627776
      · by_cases h4 : g ≥ 0
        · simp only [h1, h2, h3, h4, if_true, true_and]
          congr 1
          apply decide_eq_decide.2
          omega
        · have h4' : ¬ 0 ≤ g := h4
          simp [h1, h2, h3, h4']
      · simp [h1, h2, h3]
    · have h2' : ¬ 0 ≤ f := h2
      simp [h1, h2']
  · simp [h1]
theorem numU_eq {v : Int} (h0 : 0 ≤ v) (h1 : v < 9223372036854775808) : numU v = v + 9223372036854775808 := by
  obtain ⟨n, rfl⟩ := Int.eq_ofNat_of_zero_le h0
  have hn : n < 9223372036854775808 := by omega
  unfold numU
  rw [wraps_u64 _ h0 (by omega)]
  show IntKind.u64.wrap ((BitVec.ofInt 64 (n : Int) ^^^ BitVec.ofInt 64 9223372036854775808).toNat : Int) = _
  have e : (BitVec.ofInt 64 (n : Int) ^^^ BitVec.ofInt 64 9223372036854775808).toNat = 2 ^ 63 + n := by
    rw [BitVec.toNat_xor, BitVec.ofInt_natCast, BitVec.toNat_ofNat, Nat.mod_eq_of_lt (by omega)]
    rw [show (BitVec.ofInt 64 9223372036854775808).toNat = 2 ^ 63 from by decide]
    apply Nat.eq_of_testBit_eq
    intro i
    rw [Nat.testBit_xor, Nat.testBit_two_pow]
    rcases Nat.lt_trichotomy i 63 with h | h | h
    · rw [Nat.testBit_two_pow_add_gt h]
      have : ¬ 63 = i := by omega
      simp [this]
    · subst h
      rw [Nat.testBit_two_pow_add_eq]
      simp
    · rw [Nat.testBit_lt_two_pow (x := n) (i := i) (Nat.lt_of_lt_of_le hn (show 9223372036854775808 ≤ 2 ^ i from Nat.pow_le_pow_right (show 2 > 0 by decide) (show 63 ≤ i by omega)))]
      rw [Nat.testBit_lt_two_pow (x := 2 ^ 63 + n) (i := i) (Nat.lt_of_lt_of_le (show 2 ^ 63 + n < 2 ^ 64 by omega) (Nat.pow_le_pow_right (show 2 > 0 by decide) (show 64 ≤ i by omega)))]
      have : ¬ 63 = i := by omega
      simp [this]
  rw [e, wraps_u64 _ (by omega) (by omega)]
  omega
theorem numB_eq {v : Int} (h0 : 0 ≤ v) (h1 : v < 9223372036854775808) {u : Int} (hu : u = v + 9223372036854775808) : numB v = [u / 72057594037927936 % 256, u / 281474976710656 % 256, u / 1099511627776 % 256, u / 4294967296 % 256, u / 16777216 % 256, u / 65536 % 256, u / 256 % 256, u / 1 % 256] := by
  unfold numB
  rw [numU_eq h0 h1, ← hu]
  rw [show shr .u64 u 56 = u / 72057594037927936 from shr_dig u 56 (by omega), show shr .u64 u 48 = u / 281474976710656 from shr_dig u 48 (by omega), show shr .u64 u 40 = u / 1099511627776 from shr_dig u 40 (by omega), show shr .u64 u 32 = u / 4294967296 from shr_dig u 32 (by omega), show shr .u64 u 24 = u / 16777216 from shr_dig u 24 (by omega), show shr .u64 u 16 = u / 65536 from shr_dig u 16 (by omega), show shr .u64 u 8 = u / 256 from shr_dig u 8 (by omega), show shr .u64 u 0 = u / 1 from shr_dig u 0 (by omega)]
theorem rnumber_tells {v : Int} (h0 : 0 ≤ v) (h1 : v < 9223372036854775808) : Ev (fun k => rickyardref04_Number.f k v) (numB v) := by
  refine ⟨10, fun k hk => ?_⟩
  obtain ⟨k, rfl⟩ : ∃ m, k = m + 10 := ⟨k - 10, by omega⟩
  show rickyardref04_Number.l0 (k + 10) [] (IntKind.u64.wrap (IntKind.u64.wrap v + 9223372036854775808)) 72057594037927936 0 = _
  rw [wraps_u64 v h0 (by omega), wraps_u64 (v + 9223372036854775808) (by omega) (by omega), numB_eq h0 h1 rfl]
  generalize hu : v + 9223372036854775808 = u
  have u0 : 0 ≤ u := by omega
  have u1 : u < 18446744073709551616 := by omega
  have q : ∀ x : Int, 0 < x → Int.tmod (IntKind.u64.wrap (Int.tdiv u x)) 256 % 256 = u / x % 256 := fun x hx => by
    have a1 := Int.ediv_nonneg u0 (Int.le_of_lt hx)
    have a2 := Int.ediv_le_self x u0
    rw [Int.tdiv_eq_ediv_of_nonneg u0, wraps_u64 _ a1 (by omega), Int.tmod_eq_emod_of_nonneg a1]
    omega
  have w1 : IntKind.u64.wrap (Int.tdiv 72057594037927936 256) = 281474976710656 := by decide
  have w2 : IntKind.u64.wrap (Int.tdiv 281474976710656 256) = 1099511627776 := by decide
  have w3 : IntKind.u64.wrap (Int.tdiv 1099511627776 256) = 4294967296 := by decide
  have w4 : IntKind.u64.wrap (Int.tdiv 4294967296 256) = 16777216 := by decide
  have w5 : IntKind.u64.wrap (Int.tdiv 16777216 256) = 65536 := by decide
  have w6 : IntKind.u64.wrap (Int.tdiv 65536 256) = 256 := by decide
  have w7 : IntKind.u64.wrap (Int.tdiv 256 256) = 1 := by decide
  have v1 : wrap64 (0 + 1) = 1 := by unfold wrap64; omega
  have v2 : wrap64 (1 + 1) = 2 := by unfold wrap64; omega
  have v3 : wrap64 (2 + 1) = 3 := by unfold wrap64; omega
  have v4 : wrap64 (3 + 1) = 4 := by unfold wrap64; omega
  have v5 : wrap64 (4 + 1) = 5 := by unfold wrap64; omega
  have v6 : wrap64 (5 + 1) = 6 := by unfold wrap64; omega
  have v7 : wrap64 (6 + 1) = 7 := by unfold wrap64; omega
  have v8 : wrap64 (7 + 1) = 8 := by unfold wrap64; omega
  simp only [rickyardref04_Number.l0, w1, w2, w3, w4, w5, w6, w7, v1, v2, v3, v4, v5, v6, v7, v8, q 72057594037927936 (by decide), q 281474976710656 (by decide), q 1099511627776 (by decide), q 4294967296 (by decide), q 16777216 (by decide), q 65536 (by decide), q 256 (by decide), q 1 (by decide)]
  simp
theorem rwrite_tells {d : List ByteArray} {f g : Int} (hk : okK d f g) : Ev (fun k => rickyardref06_Write.f k d f g) (wrB d f g, 0) := by
  obtain ⟨hd, hf, hg⟩ := hk
  obtain ⟨h1, h2⟩ := dims_iff.1 hd
  have hl := groupB_len h2
  unfold rickyardref06_Write.f
  refine Ev.bind (rright_key_tells d f g) ?_
  rw [decide_eq_true ⟨hd, hf, hg⟩]
  simp only [if_true]
  have hgr : Ev (fun k => rickyardref06_Group.f k d) (groupB d, 0) := by
    unfold rickyardref06_Group.f
    refine Ev.bind (rfits_tells d) ?_
    rw [hd]
    simp only [if_true]
    have := rgroup_loop d h1 h2 d.length 0 [] (by omega) (by omega) (by simp; omega)
    simpa using this
  refine Ev.bind hgr (Ev.bind (rnumber_tells hf.1 (by omega)) ?_)
  refine Ev.congr (fun k => ?_) (Ev.now _)
  dsimp only
  rw [if_pos (by rw [numB_len]; omega), Option.bind_some, if_pos (by simp only [List.length_append, numB_len]; omega), show g % 256 = g from by omega]
  rfl
theorem rwrite_errs {d : List ByteArray} {f g : Int} (hk : ¬ okK d f g) : Ev (fun k => rickyardref06_Write.f k d f g) ([], 40) := by
  unfold rickyardref06_Write.f
  refine Ev.bind (rright_key_tells d f g) ?_
  rw [decide_eq_false hk]
  simp only [Bool.false_eq_true, if_false]
  exact Ev.now _
theorem bytesOf_strOf {l : List Int} (h : l.all isB = true) : bytesOf (strOfNums l) = l := by
  have hb := bytesOf_isB (strOfNums l)
  exact strs_eq hb h (by rw [strOf_bytesOf])
theorem u64_of_i64 {y : Int} (h0 : 0 ≤ y) (h1 : y < 18446744073709551616) : IntKind.u64.wrap (wrap64 y) = y := by
  have : ∀ n : Int, IntKind.u64.wrap n = n % 18446744073709551616 := fun n => by simp [IntKind.wrap, IntKind.bits, IntKind.signed]
  rw [this]
  unfold wrap64
  omega
theorem xor_range (x : Int) : 0 ≤ Go.bits .xor .u64 x 9223372036854775808 ∧ Go.bits .xor .u64 x 9223372036854775808 < 18446744073709551616 := by
  unfold Go.bits
  simp [IntKind.wrap, IntKind.bits, IntKind.signed]
  first | done | omega
theorem xor_top {u : Int} (h0 : 0 ≤ u) (h1 : u < 18446744073709551616) : Go.bits .xor .u64 u 9223372036854775808 = (u + 9223372036854775808) % 18446744073709551616 := by
  by_cases h : u < 9223372036854775808
  · have := numU_eq h0 h
    unfold numU at this
    rw [wraps_u64 u h0 (by omega)] at this
    rw [this]; omega
  · have := numU_eq (v := u - 9223372036854775808) (by omega) (by omega)
    unfold numU at this
    rw [wraps_u64 (u - 9223372036854775808) (by omega) (by omega), show u - 9223372036854775808 + 9223372036854775808 = u from by omega] at this
    rw [← this, xor_twice (by omega) (by omega), this]; omega
theorem list8 {l : List Int} (h : 8 ≤ l.length) : ∃ b0 b1 b2 b3 b4 b5 b6 b7 r, l = b0 :: b1 :: b2 :: b3 :: b4 :: b5 :: b6 :: b7 :: r := by
  match l, h with
  | b0 :: b1 :: b2 :: b3 :: b4 :: b5 :: b6 :: b7 :: r, _ => exact ⟨_, _, _, _, _, _, _, _, _, rfl⟩
def big (b0 b1 b2 b3 b4 b5 b6 b7 : Int) : Int := ((((((b0 * 256 + b1) * 256 + b2) * 256 + b3) * 256 + b4) * 256 + b5) * 256 + b6) * 256 + b7
section
variable {b0 b1 b2 b3 b4 b5 b6 b7 : Int} (h0 : isB b0 = true) (h1 : isB b1 = true) (h2 : isB b2 = true) (h3 : isB b3 = true) (h4 : isB b4 = true) (h5 : isB b5 = true) (h6 : isB b6 = true) (h7 : isB b7 = true)
include h0 h1 h2 h3 h4 h5 h6 h7
theorem big_bd : 0 ≤ big b0 b1 b2 b3 b4 b5 b6 b7 ∧ big b0 b1 b2 b3 b4 b5 b6 b7 < 18446744073709551616 := by
  unfold isB at *
  simp only [Bool.and_eq_true, decide_eq_true_eq] at *
  unfold big
  omega
theorem numF_big : numF [b0, b1, b2, b3, b4, b5, b6, b7] = big b0 b1 b2 b3 b4 b5 b6 b7 := by
  unfold isB at *
  simp only [Bool.and_eq_true, decide_eq_true_eq] at *
  unfold numF big
  simp only [List.foldl_cons, List.foldl_nil]
  rw [stN_join (u := 0) (c := b0) (by omega) (by omega) (by omega) (by omega)]
  rw [stN_join (u := 0 * 256 + b0) (c := b1) (by omega) (by omega) (by omega) (by omega)]
  rw [stN_join (u := (0 * 256 + b0) * 256 + b1) (c := b2) (by omega) (by omega) (by omega) (by omega)]
  rw [stN_join (u := ((0 * 256 + b0) * 256 + b1) * 256 + b2) (c := b3) (by omega) (by omega) (by omega) (by omega)]
  rw [stN_join (u := (((0 * 256 + b0) * 256 + b1) * 256 + b2) * 256 + b3) (c := b4) (by omega) (by omega) (by omega) (by omega)]
  rw [stN_join (u := ((((0 * 256 + b0) * 256 + b1) * 256 + b2) * 256 + b3) * 256 + b4) (c := b5) (by omega) (by omega) (by omega) (by omega)]
  rw [stN_join (u := (((((0 * 256 + b0) * 256 + b1) * 256 + b2) * 256 + b3) * 256 + b4) * 256 + b5) (c := b6) (by omega) (by omega) (by omega) (by omega)]
  rw [stN_join (u := ((((((0 * 256 + b0) * 256 + b1) * 256 + b2) * 256 + b3) * 256 + b4) * 256 + b5) * 256 + b6) (c := b7) (by omega) (by omega) (by omega) (by omega)]
  omega
theorem numOf_big (r : List Int) : numOf (b0 :: b1 :: b2 :: b3 :: b4 :: b5 :: b6 :: b7 :: r) = wrap64 (Go.bits .xor .u64 (big b0 b1 b2 b3 b4 b5 b6 b7) 9223372036854775808) := by
  unfold numOf
  rw [show (b0 :: b1 :: b2 :: b3 :: b4 :: b5 :: b6 :: b7 :: r).take 8 = [b0, b1, b2, b3, b4, b5, b6, b7] from rfl, numF_big h0 h1 h2 h3 h4 h5 h6 h7]
theorem numB_big (r : List Int) : numB (numOf (b0 :: b1 :: b2 :: b3 :: b4 :: b5 :: b6 :: b7 :: r)) = [b0, b1, b2, b3, b4, b5, b6, b7] := by
  have hb := big_bd h0 h1 h2 h3 h4 h5 h6 h7
  rw [numOf_big h0 h1 h2 h3 h4 h5 h6 h7]
  have e : numU (wrap64 (Go.bits .xor .u64 (big b0 b1 b2 b3 b4 b5 b6 b7) 9223372036854775808)) = big b0 b1 b2 b3 b4 b5 b6 b7 := by
    unfold numU
    rw [u64_of_i64 (xor_range _).1 (xor_range _).2, xor_twice hb.1 hb.2]
  unfold numB
  rw [e]
  have s : ∀ j : Nat, j ≤ 64 → shr .u64 (big b0 b1 b2 b3 b4 b5 b6 b7) (j : Int) = big b0 b1 b2 b3 b4 b5 b6 b7 / 2 ^ j := fun j hj => shr_dig _ j hj
  rw [show shr .u64 (big b0 b1 b2 b3 b4 b5 b6 b7) 56 = _ / 72057594037927936 from s 56 (by omega), show shr .u64 (big b0 b1 b2 b3 b4 b5 b6 b7) 48 = _ / 281474976710656 from s 48 (by omega), show shr .u64 (big b0 b1 b2 b3 b4 b5 b6 b7) 40 = _ / 1099511627776 from s 40 (by omega), show shr .u64 (big b0 b1 b2 b3 b4 b5 b6 b7) 32 = _ / 4294967296 from s 32 (by omega), show shr .u64 (big b0 b1 b2 b3 b4 b5 b6 b7) 24 = _ / 16777216 from s 24 (by omega), show shr .u64 (big b0 b1 b2 b3 b4 b5 b6 b7) 16 = _ / 65536 from s 16 (by omega), show shr .u64 (big b0 b1 b2 b3 b4 b5 b6 b7) 8 = _ / 256 from s 8 (by omega), show shr .u64 (big b0 b1 b2 b3 b4 b5 b6 b7) 0 = _ / 1 from s 0 (by omega)]
  clear s e hb
  unfold isB at *
  simp only [Bool.and_eq_true, decide_eq_true_eq] at *
  unfold big
  obtain ⟨c2, k2⟩ : ∃ c, c = b0 * 256 + b1 := ⟨_, rfl⟩
  obtain ⟨c3, k3⟩ : ∃ c, c = c2 * 256 + b2 := ⟨_, rfl⟩
  obtain ⟨c4, k4⟩ : ∃ c, c = c3 * 256 + b3 := ⟨_, rfl⟩
  obtain ⟨c5, k5⟩ : ∃ c, c = c4 * 256 + b4 := ⟨_, rfl⟩
  obtain ⟨c6, k6⟩ : ∃ c, c = c5 * 256 + b5 := ⟨_, rfl⟩
  obtain ⟨c7, k7⟩ : ∃ c, c = c6 * 256 + b6 := ⟨_, rfl⟩
  obtain ⟨c8, k8⟩ : ∃ c, c = c7 * 256 + b7 := ⟨_, rfl⟩
  rw [← k2, ← k3, ← k4, ← k5, ← k6, ← k7, ← k8]
  have g : ∀ c b k : Int, c = k * 256 + b → 0 ≤ b → b ≤ 255 → c / 256 = k ∧ c % 256 = b := fun c b k h h' h'' => by omega
  have f : ∀ c m : Int, 0 ≤ m → c / (m * 256) = c / m / 256 := fun c m hm => (Int.ediv_ediv_of_nonneg hm).symm
  have g8 := g c8 b7 c7 k8 h7.1 h7.2
  have g7 := g c7 b6 c6 k7 h6.1 h6.2
  have g6 := g c6 b5 c5 k6 h5.1 h5.2
  have g5 := g c5 b4 c4 k5 h4.1 h4.2
  have g4 := g c4 b3 c3 k4 h3.1 h3.2
  have g3 := g c3 b2 c2 k3 h2.1 h2.2
  have g2 := g c2 b1 b0 k2 h1.1 h1.2
  have q1 : c8 / 256 = c7 := g8.1
  have q2 : c8 / 65536 = c6 := by rw [show (65536 : Int) = 256 * 256 from rfl, f _ _ (by decide), q1, g7.1]
  have q3 : c8 / 16777216 = c5 := by rw [show (16777216 : Int) = 65536 * 256 from rfl, f _ _ (by decide), q2, g6.1]
  have q4 : c8 / 4294967296 = c4 := by rw [show (4294967296 : Int) = 16777216 * 256 from rfl, f _ _ (by decide), q3, g5.1]
  have q5 : c8 / 1099511627776 = c3 := by rw [show (1099511627776 : Int) = 4294967296 * 256 from rfl, f _ _ (by decide), q4, g4.1]
  have q6 : c8 / 281474976710656 = c2 := by rw [show (281474976710656 : Int) = 1099511627776 * 256 from rfl, f _ _ (by decide), q5, g3.1]
  have q7 : c8 / 72057594037927936 = b0 := by rw [show (72057594037927936 : Int) = 281474976710656 * 256 from rfl, f _ _ (by decide), q6, g2.1]
  rw [q1, q2, q3, q4, q5, q6, q7, Int.ediv_one, g8.2, g7.2, g6.2, g5.2, g4.2, g3.2, g2.2, Int.emod_eq_of_lt h0.1 (by omega)]
theorem rnum_big (r : List Int) (hr : r.length < 1000000) : Ev (fun k => rickyardref04_ReadNumber.f k (b0 :: b1 :: b2 :: b3 :: b4 :: b5 :: b6 :: b7 :: r)) (numOf (b0 :: b1 :: b2 :: b3 :: b4 :: b5 :: b6 :: b7 :: r), 8, 0) := by
  have hb := big_bd h0 h1 h2 h3 h4 h5 h6 h7
  rw [numOf_big h0 h1 h2 h3 h4 h5 h6 h7, xor_top hb.1 hb.2]
  have hlen : ((b0 :: b1 :: b2 :: b3 :: b4 :: b5 :: b6 :: b7 :: r).length : Int) = (r.length : Int) + 8 := by simp; omega
  unfold rickyardref04_ReadNumber.f
  refine ⟨10, fun k hk => ?_⟩
  obtain ⟨k, rfl⟩ : ∃ m, k = m + 10 := ⟨k - 10, by omega⟩
  show (if _ then _ else rickyardref04_ReadNumber.l0 (k + 10) _ 0 0) = _
  rw [if_neg (by omega)]
  have st : ∀ u c : Int, 0 ≤ u → u < 72057594037927936 → isB c = true → IntKind.u64.wrap (IntKind.u64.wrap (256 * u) + IntKind.u64.wrap c) = u * 256 + c := fun u c hu0 hu1 hc => by
    unfold isB at hc
    simp only [Bool.and_eq_true, decide_eq_true_eq] at hc
    rw [wraps_u64 (256 * u) (by omega) (by omega), wraps_u64 c (by omega) (by omega), wraps_u64 _ (by omega) (by omega)]
    omega
  have v1 : wrap64 (0 + 1) = 1 := by unfold wrap64; omega
  have v2 : wrap64 (1 + 1) = 2 := by unfold wrap64; omega
  have v3 : wrap64 (2 + 1) = 3 := by unfold wrap64; omega
  have v4 : wrap64 (3 + 1) = 4 := by unfold wrap64; omega
  have v5 : wrap64 (4 + 1) = 5 := by unfold wrap64; omega
  have v6 : wrap64 (5 + 1) = 6 := by unfold wrap64; omega
  have v7 : wrap64 (6 + 1) = 7 := by unfold wrap64; omega
  have v8 : wrap64 (7 + 1) = 8 := by unfold wrap64; omega
  have r0 : rd (b0 :: b1 :: b2 :: b3 :: b4 :: b5 :: b6 :: b7 :: r) 0 = b0 := rfl
  have r1 : rd (b0 :: b1 :: b2 :: b3 :: b4 :: b5 :: b6 :: b7 :: r) 1 = b1 := rfl
  have r2 : rd (b0 :: b1 :: b2 :: b3 :: b4 :: b5 :: b6 :: b7 :: r) 2 = b2 := rfl
  have r3 : rd (b0 :: b1 :: b2 :: b3 :: b4 :: b5 :: b6 :: b7 :: r) 3 = b3 := rfl
  have r4 : rd (b0 :: b1 :: b2 :: b3 :: b4 :: b5 :: b6 :: b7 :: r) 4 = b4 := rfl
  have r5 : rd (b0 :: b1 :: b2 :: b3 :: b4 :: b5 :: b6 :: b7 :: r) 5 = b5 := rfl
  have r6 : rd (b0 :: b1 :: b2 :: b3 :: b4 :: b5 :: b6 :: b7 :: r) 6 = b6 := rfl
  have r7 : rd (b0 :: b1 :: b2 :: b3 :: b4 :: b5 :: b6 :: b7 :: r) 7 = b7 := rfl
  simp only [rickyardref04_ReadNumber.l0, v1, v2, v3, v4, v5, v6, v7, v8, r0, r1, r2, r3, r4, r5, r6, r7, hlen]
  rw [if_pos (by decide), if_pos (by decide), if_pos (by omega), if_pos (by decide), if_pos (by decide), if_pos (by omega), if_pos (by decide), if_pos (by decide), if_pos (by omega), if_pos (by decide), if_pos (by decide), if_pos (by omega), if_pos (by decide), if_pos (by decide), if_pos (by omega), if_pos (by decide), if_pos (by decide), if_pos (by omega), if_pos (by decide), if_pos (by decide), if_pos (by omega), if_pos (by decide), if_pos (by decide), if_pos (by omega), if_neg (by decide)]
  have q0 := h0; have q1 := h1; have q2 := h2; have q3 := h3; have q4 := h4; have q5 := h5; have q6 := h6; have q7 := h7
  unfold isB at q0 q1 q2 q3 q4 q5 q6 q7
  simp only [Bool.and_eq_true, decide_eq_true_eq] at q0 q1 q2 q3 q4 q5 q6 q7
  rw [st 0 b0 (by omega) (by omega) h0, st (0 * 256 + b0) b1 (by omega) (by omega) h1, st ((0 * 256 + b0) * 256 + b1) b2 (by omega) (by omega) h2, st (((0 * 256 + b0) * 256 + b1) * 256 + b2) b3 (by omega) (by omega) h3, st ((((0 * 256 + b0) * 256 + b1) * 256 + b2) * 256 + b3) b4 (by omega) (by omega) h4, st (((((0 * 256 + b0) * 256 + b1) * 256 + b2) * 256 + b3) * 256 + b4) b5 (by omega) (by omega) h5, st ((((((0 * 256 + b0) * 256 + b1) * 256 + b2) * 256 + b3) * 256 + b4) * 256 + b5) b6 (by omega) (by omega) h6, st (((((((0 * 256 + b0) * 256 + b1) * 256 + b2) * 256 + b3) * 256 + b4) * 256 + b5) * 256 + b6) b7 (by omega) (by omega) h7]
  have eb : (((((((0 * 256 + b0) * 256 + b1) * 256 + b2) * 256 + b3) * 256 + b4) * 256 + b5) * 256 + b6) * 256 + b7 = big b0 b1 b2 b3 b4 b5 b6 b7 := by unfold big; omega
  rw [eb]
  have ew : IntKind.u64.wrap (big b0 b1 b2 b3 b4 b5 b6 b7 - 9223372036854775808) = (big b0 b1 b2 b3 b4 b5 b6 b7 + 9223372036854775808) % 18446744073709551616 := by
    have : ∀ n : Int, IntKind.u64.wrap n = n % 18446744073709551616 := fun n => by simp [IntKind.wrap, IntKind.bits, IntKind.signed]
    rw [this]; omega
  rw [ew]
end
theorem text_both (x : List Int) (hx : x.length < 1000000) (hB : x.all isB = true) (d : Nat) : ∀ (i : Nat) (acc : List Int), x.length - i = d → i ≤ x.length → acc.length ≤ i →
    ∃ (s : ByteArray) (n : Nat) (e : Int), Ev (fun k => code_ReadText.l0 k x acc (i : Int)) (s, (n : Int), e) ∧ Ev (fun k => rickyardref04_ReadText.l0 k x acc (i : Int)) (s, (n : Int), e) ∧
      (e = 0 → i ≤ n ∧ n ≤ x.length ∧ ∃ bs, s = strOfNums (acc ++ bs) ∧ (x.drop i).take (n - i) = textB bs ∧ bs.all isB = true) := by
  induction d using Nat.strongRecOn with
  | _ d ih =>
    intro i acc hd hi ha
    by_cases hlt : i < x.length
    · have hb := List.all_eq_true.1 hB x[i] (List.getElem_mem _)
      have hr := rd_get hlt
      by_cases h0 : x[i] = 0
      · by_cases h1 : i + 1 = x.length
        · refine ⟨⟨#[]⟩, 0, 10, Ev.step (fun k => ?_) (Ev.now _), Ev.step (fun k => ?_) (Ev.now _), fun h => by omega⟩
          · simp only [code_ReadText.l0, kw64o i (by omega), hr]
            rw [if_pos (by omega), if_pos (by omega), if_pos h0, if_pos (by omega)]; rfl
          · simp only [rickyardref04_ReadText.l0, kw64o i (by omega), hr]
            rw [if_pos (by omega), if_pos (by omega), if_pos h0, if_pos (by omega)]; rfl
        · have hlt1 : i + 1 < x.length := by omega
          have hr1 := rd_get hlt1
          have w2 : wrap64 ((i : Int) + 2) = ((i + 2 : Nat) : Int) := by rw [kw64] <;> omega
          have ed : x.drop i = 0 :: x[i + 1] :: x.drop (i + 2) := by rw [List.drop_eq_getElem_cons hlt, List.drop_eq_getElem_cons hlt1, h0]
          by_cases h2 : x[i + 1] = 1
          · refine ⟨strOfNums acc, i + 2, 0, Ev.step (fun k => ?_) (Ev.now _), Ev.step (fun k => ?_) (Ev.now _), fun _ => ⟨by omega, by omega, [], by simp, ?_, rfl⟩⟩
            · simp only [code_ReadText.l0, kw64o i (by omega), hr, hr1]
              rw [if_pos (by omega), if_pos (by omega), if_pos h0, if_neg (by omega), if_pos (by omega), if_pos (by omega), if_pos h2, kw64o _ (by omega)]
            · simp only [rickyardref04_ReadText.l0, kw64o i (by omega), hr, hr1, w2]
              rw [if_pos (by omega), if_pos (by omega), if_pos h0, if_neg (by omega), if_pos (by omega), if_pos (by omega), if_pos h2]
            · rw [ed, h2, show i + 2 - i = 2 from by omega]; rfl
          · by_cases h3 : x[i + 1] = 255
            · obtain ⟨s, n, e, h, h', hb'⟩ := ih (x.length - (i + 2)) (by omega) (i + 2) (acc ++ [0]) rfl (by omega) (by simp; omega)
              refine ⟨s, n, e, Ev.step (fun k => ?_) h, Ev.step (fun k => ?_) h', fun he => ?_⟩
              · simp only [code_ReadText.l0, kw64o i (by omega), hr, hr1]
                rw [if_pos (by omega), if_pos (by omega), if_pos h0, if_neg (by omega), if_pos (by omega), if_pos (by omega), if_neg h2, if_pos h3, if_pos (by omega), kw64o _ (by omega)]
              · simp only [rickyardref04_ReadText.l0, kw64o i (by omega), hr, hr1, w2]
                rw [if_pos (by omega), if_pos (by omega), if_pos h0, if_neg (by omega), if_pos (by omega), if_pos (by omega), if_neg h2, if_pos h3, if_pos (by omega)]
              · obtain ⟨n1, n2, bs, e1, e2, e3⟩ := hb' he
                refine ⟨by omega, n2, 0 :: bs, by rw [e1]; simp, ?_, by rw [List.all_cons, e3]; rfl⟩
                rw [ed, h3, show n - i = (n - (i + 2)) + 1 + 1 from by omega, List.take_succ_cons, List.take_succ_cons, e2]
                simp [textB]
            · refine ⟨⟨#[]⟩, 0, 3, Ev.step (fun k => ?_) (Ev.now _), Ev.step (fun k => ?_) (Ev.now _), fun h => by omega⟩
              · simp only [code_ReadText.l0, kw64o i (by omega), hr, hr1]
                rw [if_pos (by omega), if_pos (by omega), if_pos h0, if_neg (by omega), if_pos (by omega), if_pos (by omega), if_neg h2, if_neg h3]; rfl
              · simp only [rickyardref04_ReadText.l0, kw64o i (by omega), hr, hr1]
                rw [if_pos (by omega), if_pos (by omega), if_pos h0, if_neg (by omega), if_pos (by omega), if_pos (by omega), if_neg h2, if_neg h3]; rfl
      · obtain ⟨s, n, e, h, h', hb'⟩ := ih (x.length - (i + 1)) (by omega) (i + 1) (acc ++ [x[i]]) rfl (by omega) (by simp; omega)
        refine ⟨s, n, e, Ev.step (fun k => ?_) h, Ev.step (fun k => ?_) h', fun he => ?_⟩
        · simp only [code_ReadText.l0, hr]
          rw [if_pos (by omega), if_pos (by omega), if_neg h0, if_pos (by omega), kw64o _ (by omega)]
        · simp only [rickyardref04_ReadText.l0, hr]
          rw [if_pos (by omega), if_pos (by omega), if_neg h0, if_pos (by omega), kw64o _ (by omega)]
        · obtain ⟨n1, n2, bs, e1, e2, e3⟩ := hb' he
          refine ⟨by omega, n2, x[i] :: bs, by rw [e1]; simp, ?_, by rw [List.all_cons, e3, hb]; rfl⟩
          rw [List.drop_eq_getElem_cons hlt, show n - i = (n - (i + 1)) + 1 from by omega, List.take_succ_cons, e2]
          simp [textB, h0]
    · refine ⟨⟨#[]⟩, 0, 10, Ev.step (fun k => ?_) (Ev.now _), Ev.step (fun k => ?_) (Ev.now _), fun h => by omega⟩
      · simp only [code_ReadText.l0]
        rw [if_neg (by omega)]; rfl
      · simp only [rickyardref04_ReadText.l0]
        rw [if_neg (by omega)]; rfl
def groupP : List ByteArray → List Int
  | [] => []
  | s :: r => 1 :: (textB (bytesOf s) ++ groupP r)
theorem groupB_P : ∀ d : List ByteArray, groupB d = groupP d ++ [0]
  | [] => rfl
  | s :: r => by simp [groupB, groupP, groupB_P r]
theorem groupP_snoc : ∀ (d : List ByteArray) (s : ByteArray), groupP (d ++ [s]) = groupP d ++ 1 :: textB (bytesOf s)
  | [], s => by simp [groupP]
  | q :: r, s => by simp [groupP, groupP_snoc r s]
def kErr : List ByteArray × Int × Int × Int := ([], 0, 0, 40)
def keyIs (x : List Int) (r : List ByteArray × Int × Int × Int) : Prop := r.2.2.2 = 0 → okK r.1 r.2.1 r.2.2.1 ∧ x = wrB r.1 r.2.1 r.2.2.1
theorem ref_bad (x : List Int) (i : Nat) (hx : x.length < 1000000) (hi : i ≤ x.length) (h : x.length ≠ i + 10) (ds : List ByteArray) : Ev (fun k => rickyardref06_Read.j1 k x (i : Int) false ds 0 0) kErr := by
  refine Ev.step (fun k => ?_) (Ev.now _)
  simp only [rickyardref06_Read.j1]
  rw [if_neg (by decide), if_neg (by rw [kw64 (by omega) (by omega)]; omega)]
  rfl
theorem ref_end (x : List Int) (i : Nat) (hx : x.length < 1000000) (h10 : x.length = i + 10) (ds : List ByteArray) (g : Int) (hg : rd x ((i + 9 : Nat) : Int) = g) (hgw : wrap64 g = g) (k : Nat) :
    rickyardref06_Read.j1 (k + 1) x (i : Int) false ds 0 0 = (rickyardref04_ReadNumber.f k (x.drop (i + 1))).bind fun bt315 => (rickyardref06_Write.f k ds bt315.1 g).bind fun bt319 => (if bt319.2 = 0 then (if (strOfNums bt319.1).toList = (strOfNums x).toList then (some (ds, bt315.1, g, bt319.2)) else some ([], 0, 0, 40)) else some ([], 0, 0, 40)) := by
  have w9 : wrap64 ((i : Int) + 9) = ((i + 9 : Nat) : Int) := by rw [kw64] <;> omega
  have w1 : wrap64 ((i : Int) + 1) = ((i + 1 : Nat) : Int) := kw64o i (by omega)
  have w0 : wrap64 ((x.length : Int) - (i : Int)) = 10 := by rw [kw64] <;> omega
  have p1 : (0 : Int) ≤ ((i + 1 : Nat) : Int) := by omega
  have p2 : ((i + 1 : Nat) : Int) ≤ (x.length : Int) := by omega
  have p3 : (0 : Int) ≤ ((i + 9 : Nat) : Int) := by omega
  have p4 : ((i + 9 : Nat) : Int) < (x.length : Int) := by omega
  unfold rickyardref06_Read.j1
  rw [if_neg Bool.false_ne_true, w0, if_pos rfl, w1, if_pos p1, if_pos p2, w9, hg, hgw]
  simp only [if_pos p3, if_pos p4]
  rfl
theorem ref_fin (x : List Int) (i : Nat) (hx : x.length < 1000000) (h10 : x.length = i + 10) (hlt : i < x.length) (ds : List ByteArray) (v g : Int) (hg : rd x ((i + 9 : Nat) : Int) = g) (hgw : wrap64 g = g) (hB : x.all isB = true) (htk : x.take i = groupP ds)
    (hrn : Ev (fun k => rickyardref04_ReadNumber.f k (x.drop (i + 1))) (v, 8, 0)) (hxw : x[i] = 0 → x = wrB ds v g) :
    Ev (fun k => rickyardref06_Read.j1 k x (i : Int) false ds 0 0) (if okK ds v g ∧ x[i] = 0 then (ds, v, g, 0) else kErr) := by
  refine Ev.step (ref_end x i hx h10 ds g hg hgw) (Ev.bind hrn ?_)
  by_cases hk : okK ds v g
  · refine Ev.bind (rwrite_tells hk) ?_
    by_cases h0 : x[i] = 0
    · have hR : (if okK ds v g ∧ x[i] = 0 then (ds, v, g, 0) else kErr) = (ds, v, g, (0 : Int)) := if_pos ⟨hk, h0⟩
      rw [hR]
      have hs : (strOfNums (wrB ds v g)).toList = (strOfNums x).toList := congrArg (fun z => (strOfNums z).toList) (hxw h0).symm
      refine Ev.congr (fun k => ?_) (Ev.now _)
      exact (if_pos rfl).trans (if_pos hs)
    · have hR : (if okK ds v g ∧ x[i] = 0 then (ds, v, g, 0) else kErr) = kErr := if_neg (fun h => h0 h.2)
      rw [hR]
      have hs : ¬ (strOfNums (wrB ds v g)).toList = (strOfNums x).toList := fun hc => by
        have := strs_eq (wrB_isB hk.2.2.1 (by have := hk.2.2.2; omega)) hB hc
        apply h0
        have e5 : (wrB ds v g)[i]? = some 0 := by
          unfold wrB
          rw [groupB_P, ← htk]
          have hil : (x.take i).length = i := by rw [List.length_take]; omega
          simp [List.getElem?_append, hil]
        rw [this, List.getElem?_eq_getElem hlt] at e5
        exact Option.some.inj e5
      refine Ev.congr (fun k => ?_) (Ev.now _)
      exact (if_pos rfl).trans (if_neg hs)
  · refine Ev.bind (rwrite_errs hk) ?_
    have hR : (if okK ds v g ∧ x[i] = 0 then (ds, v, g, 0) else kErr) = kErr := if_neg (fun h => hk h.1)
    rw [hR]
    refine Ev.congr (fun k => ?_) (Ev.now _)
    exact if_neg (show ¬ (40 : Int) = 0 by decide)
theorem prog_fin (x : List Int) (i : Nat) (hx : x.length < 1000000) (h10 : x.length = i + 10) (hr : rd x (i : Int) = 0) (ds : List ByteArray) (v g : Int) (hg : rd x ((i + 9 : Nat) : Int) = g) (hgw : wrap64 g = g) (hv : numOf (x.drop (i + 1)) = v) :
    Ev (fun k => key_Read.j1 k x (i : Int) true false ds 0 0) (if okK ds v g then (ds, v, g, 0) else kErr) := by
  have HV := Lib.hid hv; have HG := Lib.hid hg; have HW := Lib.hid hgw; have HR := Lib.hid hr; clear hv hg hgw hr
  have w19 : wrap64 (((i + 1 : Nat) : Int) + 9) = ((i + 10 : Nat) : Int) := by rw [kw64] <;> omega
  have w18 : wrap64 (((i + 1 : Nat) : Int) + 8) = ((i + 9 : Nat) : Int) := by rw [kw64] <;> omega
  have w1 : wrap64 ((i : Int) + 1) = ((i + 1 : Nat) : Int) := kw64o i (by omega)
  have q1 : (0 : Int) ≤ (i : Int) := by omega
  have q2 : (i : Int) < (x.length : Int) := by omega
  have q3 : (0 : Int) ≤ ((i + 1 : Nat) : Int) := by omega
  have q4 : ((i + 1 : Nat) : Int) ≤ (x.length : Int) := by omega
  have q5 : (0 : Int) ≤ ((i + 9 : Nat) : Int) := by omega
  have q6 : ((i + 9 : Nat) : Int) < (x.length : Int) := by omega
  have hnum : code_ReadNumber.f (x.drop (i + 1)) = some (v, 8, 0) := by
    have hl : ¬ ((x.drop (i + 1)).length : Int) < 8 := by rw [List.length_drop]; omega
    rw [← HV.out]
    exact if_neg hl
  refine Ev.step (f := fun k => key_Read.j2 k x ((i + 1 : Nat) : Int) true ds 0 0) (fun k => ?_) (Ev.step (f := fun k => key_Read.j3 k x ((i + 1 : Nat) : Int) false ds 0 0) (fun k => ?_) (Ev.step (f := fun _ => some (if okK ds v g then (ds, v, g, 0) else kErr)) (fun k => ?_) (Ev.now _)))
  · show key_Read.j1 (k + 1) x (i : Int) true false ds 0 0 = _
    simp only [key_Read.j1]
    rw [if_neg Bool.false_ne_true, if_pos q1, if_pos q2, HR.out, if_pos rfl, w1]
  · show key_Read.j2 (k + 1) x ((i + 1 : Nat) : Int) true ds 0 0 = _
    simp only [key_Read.j2]
    rw [if_pos trivial, w19, show ((x.length : Int) != ((i + 10 : Nat) : Int)) = false from by simp; omega]
  · show key_Read.j3 (k + 1) x ((i + 1 : Nat) : Int) false ds 0 0 = _
    simp only [key_Read.j3]
    rw [if_neg Bool.false_ne_true, if_pos q3, if_pos q4, show (((i + 1 : Nat) : Int)).toNat = i + 1 from by omega, hnum, Option.bind_some, w18, if_pos q5, if_pos q6, HG.out, HW.out, key_right_tells, Option.bind_some]
    by_cases hk : okK ds v g
    · have hk' := hk
      unfold okK at hk'
      rw [if_pos hk, decide_eq_true hk', if_pos rfl]
    · have hk' := hk
      unfold okK at hk'
      rw [if_neg hk, decide_eq_false hk', if_neg Bool.false_ne_true]
      rfl
theorem prog_nofin (x : List Int) (i : Nat) (hx : x.length < 1000000) (hlt : i < x.length) (h10 : x.length ≠ i + 10) (hr : rd x (i : Int) = 0) (ds : List ByteArray) :
    Ev (fun k => key_Read.j1 k x (i : Int) true false ds 0 0) kErr := by
  have w19 : wrap64 (((i + 1 : Nat) : Int) + 9) = ((i + 10 : Nat) : Int) := by rw [kw64] <;> omega
  have w1 : wrap64 ((i : Int) + 1) = ((i + 1 : Nat) : Int) := kw64o i (by omega)
  have q1 : (0 : Int) ≤ (i : Int) := by omega
  have q2 : (i : Int) < (x.length : Int) := by omega
  refine Ev.step (f := fun k => key_Read.j2 k x ((i + 1 : Nat) : Int) true ds 0 0) (fun k => ?_) (Ev.step (f := fun k => key_Read.j3 k x ((i + 1 : Nat) : Int) true ds 0 0) (fun k => ?_) (Ev.step (f := fun _ => some kErr) (fun k => ?_) (Ev.now _)))
  · show key_Read.j1 (k + 1) x (i : Int) true false ds 0 0 = _
    simp only [key_Read.j1]
    rw [if_neg Bool.false_ne_true, if_pos q1, if_pos q2, hr, if_pos rfl, w1]
  · show key_Read.j2 (k + 1) x ((i + 1 : Nat) : Int) true ds 0 0 = _
    simp only [key_Read.j2]
    rw [if_pos trivial, w19, show ((x.length : Int) != ((i + 10 : Nat) : Int)) = true from by simp; omega]
  · show key_Read.j3 (k + 1) x ((i + 1 : Nat) : Int) true ds 0 0 = _
    simp only [key_Read.j3]
    rw [if_pos trivial]
    rfl
theorem read_both (x : List Int) (hx : x.length < 1000000) (hB : x.all isB = true) (d : Nat) : ∀ (i : Nat) (ds : List ByteArray), x.length - i = d → i ≤ x.length → ds.length ≤ i → x.take i = groupP ds →
    ∃ r, Ev (fun k => key_Read.l0 k x (i : Int) true ds 0 0) r ∧ Ev (fun k => rickyardref06_Read.l0 k x (i : Int) ds 0 0) r ∧ keyIs x r := by
  induction d using Nat.strongRecOn with
  | _ d ih =>
    intro i ds hd hi ha htk
    have kbad : keyIs x kErr := fun h => absurd h (by decide)
    have pbad : Ev (fun k => key_Read.j1 k x (i : Int) true true ds 0 0) kErr := by
      refine Ev.step (f := fun k => key_Read.j2 k x (i : Int) false ds 0 0) (fun k => ?_) (read_end_bad x i ds)
      simp only [key_Read.j1]; simp
    by_cases hlt : i < x.length
    · have hb := List.all_eq_true.1 hB x[i] (List.getElem_mem _)
      have hr := rd_get hlt
      have hxd : x = x.take i ++ x[i] :: x.drop (i + 1) := by rw [← List.drop_eq_getElem_cons hlt, List.take_append_drop]
      have pstep : ∀ k, key_Read.l0 (k + 1) x (i : Int) true ds 0 0 = key_Read.j1 k x (i : Int) true (decide (x[i] > 1)) ds 0 0 := fun k => by
        simp only [key_Read.l0, hr]
        rw [if_neg (by omega), if_pos (by omega), if_pos (by omega)]
      have rstep : ∀ k, rickyardref06_Read.l0 (k + 1) x (i : Int) ds 0 0 = rickyardref06_Read.j1 k x (i : Int) (x[i] == 1) ds 0 0 := fun k => by
        simp only [rickyardref06_Read.l0, hr]
        rw [if_pos (by omega), if_pos (by omega)]
      by_cases hone : x[i] = 1
      · -- a dimension
        have hd1 : (x.drop (i + 1)).all isB = true := List.all_eq_true.2 (fun z hz => List.all_eq_true.1 hB z (List.mem_of_mem_drop hz))
        obtain ⟨s, n, e, ht, ht', hn⟩ := text_both (x.drop (i + 1)) (by rw [List.length_drop]; omega) hd1 _ 0 [] rfl (Nat.zero_le _) (Nat.zero_le _)
        have hj : ∀ k, key_Read.j1 (k + 1) x (i : Int) true false ds 0 0 = (code_ReadText.f k (x.drop (i + 1))).bind fun bt202 => (if bt202.2.2 = 0 then (if ds.length < 8796093022208 then (key_Read.l0 k x (wrap64 ((i : Int) + (wrap64 (bt202.2.1 + 1)))) true (ds ++ [bt202.1]) 0 0) else (none)) else (key_Read.j2 k x (i : Int) false ds 0 0)) := fun k => by
          simp only [key_Read.j1, hr]
          rw [if_neg (by decide), if_pos (by omega), if_pos (by omega), if_neg (by omega), kw64o _ (by omega), if_pos (by omega), if_pos (by omega), show (((i + 1 : Nat) : Int)).toNat = i + 1 from by omega]
        have hj' : ∀ k, rickyardref06_Read.j1 (k + 1) x (i : Int) true ds 0 0 = (rickyardref04_ReadText.f k (x.drop (i + 1))).bind fun bt308 => (if bt308.2.2 = 0 then (if ds.length < 8796093022208 then (rickyardref06_Read.l0 k x (wrap64 (((i + 1 : Nat) : Int) + bt308.2.1)) (ds ++ [bt308.1]) 0 0) else (none)) else (some kErr)) := fun k => by
          simp only [rickyardref06_Read.j1, kw64o i (show i < 4611686018427387904 by omega)]
          rw [if_pos trivial, if_pos (by omega), if_pos (by omega), show (((i + 1 : Nat) : Int)).toNat = i + 1 from by omega]
          rfl
        have e0 : decide (x[i] > 1) = false := decide_eq_false (by omega)
        have e1 : (x[i] == 1) = true := by rw [hone]; rfl
        by_cases he : e = 0
        · obtain ⟨_, hn1, bs, es, eb, hbs⟩ := hn he
          rw [List.length_drop] at hn1
          simp only [List.drop_zero, Nat.sub_zero, List.nil_append] at eb es
          have htk2 : x.take (i + (n + 1)) = groupP (ds ++ [s]) := by
            rw [groupP_snoc, ← htk, es, bytesOf_strOf hbs, ← eb]
            conv => lhs; rw [hxd]
            have hil : (x.take i).length = i := by rw [List.length_take]; omega
            rw [List.take_append, hil, List.take_of_length_le (by omega), show i + (n + 1) - i = n + 1 from by omega, List.take_succ_cons, hone]
          obtain ⟨r, h, h', hk⟩ := ih (x.length - (i + (n + 1))) (by omega) (i + (n + 1)) (ds ++ [s]) rfl (by omega) (by simp; omega) htk2
          refine ⟨r, Ev.step pstep ?_, Ev.step rstep ?_, hk⟩
          · rw [e0]
            refine Ev.step hj (Ev.bind ht ?_)
            refine Ev.congr (fun k => ?_) h
            rw [if_pos he, if_pos (by omega), kw64o _ (by omega), kw64n _ _ (by omega)]
          · rw [e1]
            refine Ev.step hj' (Ev.bind ht' ?_)
            refine Ev.congr (fun k => ?_) h'
            rw [if_pos he, if_pos (by omega), kw64n _ _ (by omega), show i + 1 + n = i + (n + 1) from by omega]
        · refine ⟨kErr, Ev.step pstep ?_, Ev.step rstep ?_, kbad⟩
          · rw [e0]
            refine Ev.step hj (Ev.bind ht ?_)
            refine Ev.congr (fun k => ?_) (read_end_bad x i ds)
            rw [if_neg he]
          · rw [e1]
            refine Ev.step hj' (Ev.bind ht' ?_)
            refine Ev.congr (fun k => ?_) (Ev.now _)
            rw [if_neg he]
      · have e1 : (x[i] == 1) = false := by simp [hone]
        by_cases h10 : x.length = i + 10
        · -- the end may be here
          have hl9 : (x.drop (i + 1)).length = 9 := by rw [List.length_drop]; omega
          obtain ⟨b0, b1, b2, b3, b4, b5, b6, b7, r, hbr⟩ := list8 (l := x.drop (i + 1)) (by omega)
          have hrl : r.length = 1 := by rw [hbr] at hl9; simp at hl9; omega
          obtain ⟨g, rfl⟩ := List.length_eq_one_iff.1 hrl
          have hBd : ∀ z ∈ x.drop (i + 1), isB z = true := fun z hz => List.all_eq_true.1 hB z (List.mem_of_mem_drop hz)
          rw [hbr] at hBd
          have c0 := hBd b0 (by simp); have c1 := hBd b1 (by simp); have c2 := hBd b2 (by simp); have c3 := hBd b3 (by simp)
          have c4 := hBd b4 (by simp); have c5 := hBd b5 (by simp); have c6 := hBd b6 (by simp); have c7 := hBd b7 (by simp); have cg := hBd g (by simp)
          have hnb := numB_big c0 c1 c2 c3 c4 c5 c6 c7 [g]
          have hrn := rnum_big c0 c1 c2 c3 c4 c5 c6 c7 [g] (by simp)
          rw [← hbr] at hnb hrn
          generalize hv : numOf (x.drop (i + 1)) = v at *
          have HV := Lib.hid hv; clear hv
          have hg : rd x ((i + 9 : Nat) : Int) = g := by
            rw [rd_get (by omega)]
            have : (x.drop (i + 1))[8]'(by omega) = g := by simp [hbr]
            rw [List.getElem_drop] at this
            rw [← this]
          have hgw : wrap64 g = g := by
            unfold isB at cg
            simp only [Bool.and_eq_true, decide_eq_true_eq] at cg
            rw [kw64] <;> omega
          have w9 : wrap64 ((i : Int) + 9) = ((i + 9 : Nat) : Int) := by rw [kw64] <;> omega
          have hxw : x[i] = 0 → x = wrB ds v g := fun h0 => by
            unfold wrB
            rw [groupB_P, ← htk, hnb]
            conv => lhs; rw [hxd, h0, hbr]
            simp
          have rend := ref_fin x i hx h10 hlt ds v g hg hgw hB htk hrn hxw
          by_cases h0 : x[i] = 0
          · have pend := prog_fin x i hx h10 (by rw [hr, h0]) ds v g hg hgw HV.out
            refine ⟨(if okK ds v g then (ds, v, g, 0) else kErr), Ev.step pstep ?_, Ev.step rstep ?_, ?_⟩
            · rw [decide_eq_false (by omega)]; exact pend
            · rw [e1]
              have : (if okK ds v g ∧ x[i] = 0 then (ds, v, g, 0) else kErr) = (if okK ds v g then (ds, v, g, 0) else kErr) := by simp [h0]
              rw [← this]; exact rend
            · by_cases hk : okK ds v g
              · rw [if_pos hk]
                exact fun _ => ⟨hk, hxw h0⟩
              · rw [if_neg hk]; exact kbad
          · refine ⟨kErr, Ev.step pstep ?_, Ev.step rstep ?_, kbad⟩
            · rw [decide_eq_true]
              · exact pbad
              · unfold isB at hb
                simp only [Bool.and_eq_true, decide_eq_true_eq] at hb
                omega
            · rw [e1]
              have : (if okK ds v g ∧ x[i] = 0 then (ds, v, g, 0) else kErr) = kErr := by simp [h0]
              rw [← this]; exact rend
        · -- no end here
          have rbad := ref_bad x i hx hi h10 ds
          by_cases h0 : x[i] = 0
          · refine ⟨kErr, Ev.step pstep ?_, Ev.step rstep (by rw [e1]; exact rbad), kbad⟩
            rw [decide_eq_false (by omega)]
            exact prog_nofin x i hx hlt h10 (by rw [hr, h0]) ds
          · refine ⟨kErr, Ev.step pstep ?_, Ev.step rstep (by rw [e1]; exact rbad), kbad⟩
            rw [decide_eq_true]
            · exact pbad
            · unfold isB at hb
              simp only [Bool.and_eq_true, decide_eq_true_eq] at hb
              omega
    · refine ⟨kErr, Ev.step (fun k => ?_) pbad, Ev.step (fun k => ?_) (ref_bad x i hx hi (by omega) ds), kbad⟩
      · simp only [key_Read.l0]
        rw [if_pos (by omega)]
      · simp only [rickyardref06_Read.l0]
        rw [if_neg (by omega)]
theorem reads_alike (x : List Int) (hx : x.length < 1000000) (hB : x.all isB = true) : ∃ r, Ev (fun k => key_Read.f k x) r ∧ Ev (fun k => rickyardref06_Read.f k x) r ∧ keyIs x r :=
  read_both x hx hB _ 0 [] rfl (Nat.zero_le _) (Nat.zero_le _) (by simp [groupP])
theorem cmpB_refl : ∀ x : List Int, cmpB x x = 0
  | [] => rfl
  | a :: x => by unfold cmpB; rw [if_neg (by omega), if_neg (by omega)]; exact cmpB_refl x
theorem cmpB_eq : ∀ {x y : List Int}, cmpB x y = 0 → x = y
  | [], [], _ => rfl
  | [], _ :: _, h => by simp [cmpB] at h
  | _ :: _, [], h => by simp [cmpB] at h
  | a :: x, b :: y, h => by
    unfold cmpB at h
    split at h
    · simp at h
    · split at h
      · simp at h
      · obtain rfl : a = b := by omega
        rw [cmpB_eq h]
theorem cmpB_anti : ∀ (x y : List Int), cmpB y x = - cmpB x y
  | [], [] => rfl
  | [], _ :: _ => rfl
  | _ :: _, [] => rfl
  | a :: x, b :: y => by
    unfold cmpB
    by_cases h1 : a < b
    · rw [if_neg (by omega), if_pos h1, if_pos h1]; rfl
    · by_cases h2 : b < a
      · rw [if_pos h2, if_neg h1, if_pos h2]
      · rw [if_neg h2, if_neg h1, if_neg h1, if_neg h2]; exact cmpB_anti x y
theorem cmpB_trans : ∀ {x y z : List Int}, cmpB x y < 0 → cmpB y z < 0 → cmpB x z < 0
  | [], [], _, h, _ => by simp [cmpB] at h
  | _ :: _, [], _, h, _ => by simp [cmpB] at h
  | _, _ :: _, [], _, h => by simp [cmpB] at h
  | [], _ :: _, _ :: _, _, _ => by simp [cmpB]
  | a :: x, b :: y, c :: z, h, k => by
    unfold cmpB at h k ⊢
    by_cases h1 : a < b
    · by_cases k1 : b < c
      · rw [if_pos (by omega)]; omega
      · rw [if_neg k1] at k
        by_cases k2 : c < b
        · rw [if_pos k2] at k; omega
        · rw [if_pos (by omega)]; omega
    · rw [if_neg h1] at h
      by_cases h2 : b < a
      · rw [if_pos h2] at h; omega
      · rw [if_neg h2] at h
        obtain rfl : a = b := by omega
        by_cases k1 : a < c
        · rw [if_pos k1]; omega
        · rw [if_neg k1] at k
          by_cases k2 : c < a
          · rw [if_pos k2] at k; omega
          · rw [if_neg k2] at k
            rw [if_neg k1, if_neg k2]
            exact cmpB_trans h k
theorem cmpB_zero {x y : List Int} : cmpB x y = 0 ↔ x = y := ⟨cmpB_eq, fun h => h ▸ cmpB_refl x⟩
theorem cmpB_gt {x y : List Int} : 0 < cmpB x y ↔ cmpB y x < 0 := by rw [cmpB_anti x y]; omega
abbrev SortedE (l : List En) : Prop := l.Pairwise (fun a b => cmpB a.f0 b.f0 < 0)
def CutAt (l : List En) (b : List Int) (p : Nat) : Prop := p ≤ l.length ∧ (∀ q (h : q < l.length), q < p → cmpB l[q].f0 b < 0) ∧ (∀ q (h : q < l.length), p ≤ q → ¬ cmpB l[q].f0 b < 0)
theorem sorted_lt {l : List En} (hs : SortedE l) {i j : Nat} (hij : i < j) (hj : j < l.length) : cmpB (l[i]'(by omega)).f0 l[j].f0 < 0 := List.pairwise_iff_getElem.1 hs i j (by omega) hj hij
theorem bsF_cut {l : List En} {b : List Int} (hs : SortedE l) : ∀ (f i j : Nat), j ≤ l.length → i ≤ j → j - i ≤ f → (∀ q (h : q < l.length), q < i → cmpB l[q].f0 b < 0) → (∀ q (h : q < l.length), j ≤ q → ¬ cmpB l[q].f0 b < 0) → CutAt l b (bsF l b f i j) := by
  intro f
  induction f with
  | zero =>
    intro i j hj hij hf h1 h2
    obtain rfl : i = j := by omega
    exact ⟨hj, h1, h2⟩
  | succ f ih =>
    intro i j hj hij hf h1 h2
    unfold bsF
    by_cases hlt : i < j
    · rw [if_pos hlt]
      have hm : (i + j) / 2 < l.length := by omega
      rw [rd_ent hm]
      by_cases hc : cmpB l[(i + j) / 2].f0 b < 0
      · rw [if_pos hc]
        refine ih _ _ hj (by omega) (by omega) (fun q hq hlt' => ?_) h2
        rcases Nat.lt_or_ge q ((i + j) / 2) with h | h
        · exact cmpB_trans (sorted_lt hs h hm) hc
        · obtain rfl : q = (i + j) / 2 := by omega
          exact hc
      · rw [if_neg hc]
        refine ih _ _ (by omega) (by omega) (by omega) h1 (fun q hq hge hlt' => ?_)
        rcases Nat.lt_or_ge ((i + j) / 2) q with h | h
        · exact hc (cmpB_trans (sorted_lt hs h hq) hlt')
        · obtain rfl : q = (i + j) / 2 := by omega
          exact hc hlt'
    · rw [if_neg hlt]
      obtain rfl : i = j := by omega
      exact ⟨hj, h1, h2⟩
theorem place_cut {l : List En} (hs : SortedE l) (b : List Int) : CutAt l b (placeE l b) := bsF_cut hs l.length 0 l.length (Nat.le_refl _) (Nat.zero_le _) (by omega) (fun q _ h => absurd h (by omega)) (fun q h1 h2 => absurd h1 (by omega))
def insE (b : List Int) (a : Ag) : List En → List En
  | [] => [⟨b, a⟩]
  | y :: r => if cmpB y.f0 b < 0 then y :: insE b a r else if y.f0 = b then ⟨y.f0, mergeA y.f1 a⟩ :: r else ⟨b, a⟩ :: y :: r
theorem cut_tail {y : En} {r : List En} {b : List Int} {p : Nat} (h : CutAt (y :: r) b (p + 1)) : cmpB y.f0 b < 0 ∧ CutAt r b p :=
  ⟨h.2.1 0 (by simp) (by omega), by have := h.1; simp at this; omega, fun q hq hlt => h.2.1 (q + 1) (by simp; omega) (by omega), fun q hq hge => h.2.2 (q + 1) (by simp; omega) (by omega)⟩
theorem ins_there {b : List Int} {a : Ag} : ∀ {l : List En} {p : Nat}, CutAt l b p → ∀ (h : p < l.length), l[p].f0 = b → insE b a l = l.set p ⟨l[p].f0, mergeA l[p].f1 a⟩
  | [], _, _, h, _ => absurd h (by simp)
  | y :: r, 0, hc, _, he => by
    have h0 : ¬ cmpB y.f0 b < 0 := hc.2.2 0 (by simp) (Nat.le_refl _)
    have he' : y.f0 = b := he
    unfold insE
    rw [if_neg h0, if_pos he']
    rfl
  | y :: r, p + 1, hc, h, he => by
    obtain ⟨h0, hc'⟩ := cut_tail hc
    unfold insE
    rw [if_pos h0, ins_there hc' (by simpa using h) he]
    rfl
theorem ins_new {b : List Int} {a : Ag} : ∀ {l : List En} {p : Nat}, CutAt l b p → (∀ (h : p < l.length), l[p].f0 ≠ b) → insE b a l = l.take p ++ [⟨b, a⟩] ++ l.drop p
  | [], p, hc, _ => by
    obtain rfl : p = 0 := by have := hc.1; simpa using this
    rfl
  | y :: r, 0, hc, hn => by
    have h0 : ¬ cmpB y.f0 b < 0 := hc.2.2 0 (by simp) (Nat.le_refl _)
    have hn' : y.f0 ≠ b := hn (by simp)
    unfold insE
    rw [if_neg h0, if_neg hn']
    rfl
  | y :: r, p + 1, hc, hn => by
    obtain ⟨h0, hc'⟩ := cut_tail hc
    unfold insE
    rw [if_pos h0, ins_new hc' (fun h => hn (by simpa using h))]
    rfl
theorem putE_eq {b : List Int} {a : Ag} {l : List En} (hs : SortedE l) (hl : l.length < 1000) (hb : ∀ y ∈ l, y.f0.all isB = true) (hbb : b.all isB = true) (hu : ∀ y ∈ l, inU y.f1.f2.f1) (ha : inU a.f2.f1) : putE b a l = some (insE b a l) := by
  have hc := place_cut hs b
  unfold putE
  rw [if_pos ⟨hl, hb, hbb⟩]
  generalize hp : placeE l b = p at *
  have hth : thereE l b = (decide (p < l.length) && (cmpB (rd_T51 l ((p : Nat) : Int)).f0 b == 0)) := by unfold thereE; rw [hp]
  by_cases hlt : p < l.length
  · rw [rd_ent hlt] at hth
    rw [rd_ent hlt]
    by_cases he : l[p].f0 = b
    · rw [if_pos (by rw [hth, decide_eq_true hlt, he, cmpB_refl]; rfl), if_pos ⟨hu _ (List.getElem_mem _), ha⟩, ins_there hc hlt he]
    · rw [if_neg (by rw [hth, decide_eq_true hlt]; simp [cmpB_zero, he]), ins_new hc (fun _ => he)]
  · rw [if_neg (by rw [hth, decide_eq_false hlt]; simp), ins_new hc (fun h => absurd h hlt)]
theorem addW_eq {a b : S39} (ha : inU a.f1) (_ : inU b.f1) : addW a b = ⟨wrap64 (a.f0 + b.f0 + (a.f1 + b.f1) / mW), (a.f1 + b.f1) % mW⟩ := by
  have h2 : (sumW [a, b]).2 = (a.f1 + b.f1) % mW := by
    simp only [sumW, List.foldl_cons, List.foldl_nil, stW]
    unfold inU mW at *
    omega
  have h1 : (sumW [a, b]).1 = (a.f0 + b.f0 + (a.f1 + b.f1) / mW) % mW := by
    simp only [sumW, List.foldl_cons, List.foldl_nil, stW, u64_wrap]
    unfold inU mW at *
    omega
  unfold addW
  rw [h1, h2]
  congr 1
  unfold wrap64 mW
  omega
theorem addW_comm {a b : S39} (ha : inU a.f1) (hb : inU b.f1) : addW a b = addW b a := by
  rw [addW_eq ha hb, addW_eq hb ha, Int.add_comm a.f0, Int.add_comm a.f1]
theorem addW_assoc {a b c : S39} (ha : inU a.f1) (hb : inU b.f1) (hc : inU c.f1) : addW (addW a b) c = addW a (addW b c) := by
  have h1 : inU (addW a b).f1 := by rw [addW_eq ha hb]; exact mod_mW _
  have h2 : inU (addW b c).f1 := by rw [addW_eq hb hc]; exact mod_mW _
  rw [addW_eq h1 hc, addW_eq ha h2, addW_eq ha hb, addW_eq hb hc]
  unfold inU mW wrap64 at *
  simp only
  congr 1 <;> omega
theorem least_comm (a b : Int) : leastI a b = leastI b a := by unfold leastI; split <;> split <;> omega
theorem most_comm (a b : Int) : mostI a b = mostI b a := by unfold mostI; split <;> split <;> omega
theorem least_assoc (a b c : Int) : leastI (leastI a b) c = leastI a (leastI b c) := by unfold leastI; repeat' split <;> omega
theorem most_assoc (a b c : Int) : mostI (mostI a b) c = mostI a (mostI b c) := by unfold mostI; repeat' split <;> omega
def cntS (c : Int) (o : Bool) (d : Int) (p : Bool) : Int × Bool := if c + d ≥ mW ∨ o = true ∨ p = true then (mW - 1, true) else (c + d, false)
theorem mgTop_eq {c d : Int} {o p : Bool} (hc : inU c) (hd : inU d) : mgTop (IntKind.u64.wrap (c + d)) c (o || p) = cntS c o d p := by
  unfold mgTop cntS
  rw [u64_wrap]
  unfold inU mW at *
  by_cases h : c + d ≥ 18446744073709551616
  · rw [if_pos (.inl (by omega)), if_pos (.inl h)]; rfl
  · by_cases ho : o = true ∨ p = true
    · rw [if_pos (.inr (by simpa using ho)), if_pos (.inr ho)]; rfl
    · rw [if_neg (by
        rintro (h1 | h1)
        · omega
        · exact ho (by simpa using h1)), if_neg (by
        rintro (h1 | h1)
        · omega
        · exact ho h1)]
      congr 1
      omega
def okAg (a : Ag) : Prop := inU a.f0 ∧ inU a.f2.f1 ∧ (a.f1 = true → a.f0 = mW - 1)
theorem mergeA_eq {a b : Ag} (ha : okAg a) (hb : okAg b) (ha0 : a.f0 ≠ 0) (hb0 : b.f0 ≠ 0) : mergeA a b = ⟨(cntS a.f0 a.f1 b.f0 b.f1).1, (cntS a.f0 a.f1 b.f0 b.f1).2, addW a.f2 b.f2, leastI a.f3 b.f3, mostI a.f4 b.f4⟩ := by
  unfold mergeA
  rw [if_neg ha0, if_neg hb0, mgTop_eq ha.1 hb.1]
theorem mergeA_zero_right {a : Ag} {b : Ag} (ha0 : a.f0 ≠ 0) (hb0 : b.f0 = 0) : mergeA a b = a := by unfold mergeA; rw [if_neg ha0, if_pos hb0]
theorem mergeA_zero_left {a : Ag} {b : Ag} (ha0 : a.f0 = 0) : mergeA a b = b := by unfold mergeA; rw [if_pos ha0]
theorem cnt_pos {c d : Int} {o p : Bool} (hc : inU c) (hd : inU d) (h : c ≠ 0) : (cntS c o d p).1 ≠ 0 := by
  unfold cntS inU mW at *
  split
  · decide
  · simp only; omega
theorem cnt_bd {c d : Int} {o p : Bool} (hc : inU c) (hd : inU d) : inU (cntS c o d p).1 ∧ ((cntS c o d p).2 = true → (cntS c o d p).1 = mW - 1) := by
  unfold cntS inU mW at *
  split
  · exact ⟨by decide, fun _ => rfl⟩
  · exact ⟨by simp only; omega, fun h => by cases h⟩
theorem mergeA_ok {a b : Ag} (ha : okAg a) (hb : okAg b) : okAg (mergeA a b) := by
  by_cases ha0 : a.f0 = 0
  · rw [mergeA_zero_left ha0]; exact hb
  · by_cases hb0 : b.f0 = 0
    · rw [mergeA_zero_right ha0 hb0]; exact ha
    · rw [mergeA_eq ha hb ha0 hb0]
      exact ⟨(cnt_bd ha.1 hb.1).1, by rw [addW_eq ha.2.1 hb.2.1]; exact mod_mW _, (cnt_bd ha.1 hb.1).2⟩
theorem mergeA_pos {a b : Ag} (ha : okAg a) (hb : okAg b) (ha0 : a.f0 ≠ 0) : (mergeA a b).f0 ≠ 0 := by
  by_cases hb0 : b.f0 = 0
  · rw [mergeA_zero_right ha0 hb0]; exact ha0
  · rw [mergeA_eq ha hb ha0 hb0]; exact cnt_pos ha.1 hb.1 ha0
theorem cnt_comm (c : Int) (o : Bool) (d : Int) (p : Bool) : cntS c o d p = cntS d p c o := by
  unfold cntS
  rw [Int.add_comm c d]
  by_cases h : d + c ≥ mW ∨ o = true ∨ p = true
  · rw [if_pos h, if_pos (by rcases h with h | h | h <;> simp [h])]
  · rw [if_neg h, if_neg (by rintro (h1 | h1 | h1) <;> simp [h1] at h)]
theorem mergeA_comm {a b : Ag} (ha : okAg a) (hb : okAg b) (ha0 : a.f0 ≠ 0) (hb0 : b.f0 ≠ 0) : mergeA a b = mergeA b a := by
  rw [mergeA_eq ha hb ha0 hb0, mergeA_eq hb ha hb0 ha0, cnt_comm, addW_comm ha.2.1 hb.2.1, least_comm, most_comm]
theorem cnt_assoc {c d e : Int} {o p q : Bool} (hc : inU c) (_ : inU d) (he : inU e) (_ : c ≠ 0) (_ : e ≠ 0) : cntS (cntS c o d p).1 (cntS c o d p).2 e q = cntS c o (cntS d p e q).1 (cntS d p e q).2 := by
  unfold inU mW at *
  have L : cntS (cntS c o d p).1 (cntS c o d p).2 e q = if c + d + e ≥ mW ∨ o = true ∨ p = true ∨ q = true then (mW - 1, true) else (c + d + e, false) := by
    unfold cntS mW
    by_cases h : c + d ≥ 18446744073709551616 ∨ o = true ∨ p = true
    · rw [if_pos h, if_pos (by simp)]
      rw [if_pos (by rcases h with h | h | h
                     · left; omega
                     · right; left; exact h
                     · right; right; left; exact h)]
    · rw [if_neg h]
      simp only [not_or] at h
      simp [h]
  have R : cntS c o (cntS d p e q).1 (cntS d p e q).2 = if c + d + e ≥ mW ∨ o = true ∨ p = true ∨ q = true then (mW - 1, true) else (c + d + e, false) := by
    unfold cntS mW
    by_cases h : d + e ≥ 18446744073709551616 ∨ p = true ∨ q = true
    · rw [if_pos h, if_pos (by simp)]
      rw [if_pos (by rcases h with h | h | h
                     · left; omega
                     · right; right; left; exact h
                     · right; right; right; exact h)]
    · rw [if_neg h]
      simp only [not_or] at h
      simp [h, Int.add_assoc]
  rw [L, R]
theorem mergeA_assoc {a b c : Ag} (ha : okAg a) (hb : okAg b) (hc : okAg c) (ha0 : a.f0 ≠ 0) (hb0 : b.f0 ≠ 0) (hc0 : c.f0 ≠ 0) : mergeA (mergeA a b) c = mergeA a (mergeA b c) := by
  rw [mergeA_eq (mergeA_ok ha hb) hc (mergeA_pos ha hb ha0) hc0, mergeA_eq ha (mergeA_ok hb hc) ha0 (mergeA_pos hb hc hb0), mergeA_eq ha hb ha0 hb0, mergeA_eq hb hc hb0 hc0]
  simp only
  rw [cnt_assoc ha.1 hb.1 hc.1 ha0 hc0, addW_assoc ha.2.1 hb.2.1 hc.2.1, least_assoc, most_assoc]
def okP (a : Ag) : Prop := okAg a ∧ a.f0 ≠ 0
def Good (l : List En) : Prop := ∀ y ∈ l, okP y.f1
theorem Good.cons {y : En} {r : List En} : Good (y :: r) ↔ okP y.f1 ∧ Good r := by simp [Good]
theorem Good.nil : Good [] := by simp [Good]
theorem okP_merge {a b : Ag} (ha : okP a) (hb : okP b) : okP (mergeA a b) := ⟨mergeA_ok ha.1 hb.1, mergeA_pos ha.1 hb.1 ha.2⟩
theorem cmpB_tri (x y : List Int) : cmpB x y < 0 ∨ x = y ∨ cmpB y x < 0 := by
  rcases Int.lt_trichotomy (cmpB x y) 0 with h | h | h
  · exact .inl h
  · exact .inr (.inl (cmpB_eq h))
  · exact .inr (.inr (cmpB_gt.1 h))
theorem cmpB_asymm {x y : List Int} (h : cmpB x y < 0) : ¬ cmpB y x < 0 := by have := cmpB_anti x y; omega
theorem cmpB_ne {x y : List Int} (h : cmpB x y < 0) : x ≠ y := by rintro rfl; rw [cmpB_refl] at h; omega
theorem ins_lt {b : List Int} {a : Ag} {y : En} {r : List En} (h : cmpB y.f0 b < 0) : insE b a (y :: r) = y :: insE b a r := by
  conv => lhs; unfold insE
  rw [if_pos h]
theorem ins_eq {b : List Int} {a : Ag} {y : En} {r : List En} (h : y.f0 = b) : insE b a (y :: r) = ⟨b, mergeA y.f1 a⟩ :: r := by
  conv => lhs; unfold insE
  rw [if_neg (by rw [h, cmpB_refl]; omega), if_pos h, h]
theorem ins_gt {b : List Int} {a : Ag} {y : En} {r : List En} (h : cmpB b y.f0 < 0) : insE b a (y :: r) = ⟨b, a⟩ :: y :: r := by
  conv => lhs; unfold insE
  rw [if_neg (cmpB_asymm h), if_neg (fun e => cmpB_ne h e.symm)]
theorem good_ins {b : List Int} {a : Ag} (ha : okP a) : ∀ {l : List En}, Good l → Good (insE b a l)
  | [], _ => Good.cons.2 ⟨ha, Good.nil⟩
  | y :: r, h => by
    have ⟨h1, h2⟩ := Good.cons.1 h
    rcases cmpB_tri y.f0 b with c | c | c
    · rw [ins_lt c]; exact Good.cons.2 ⟨h1, good_ins ha h2⟩
    · rw [ins_eq c]; exact Good.cons.2 ⟨okP_merge h1 ha, h2⟩
    · rw [ins_gt c]; exact Good.cons.2 ⟨ha, h⟩
theorem ins_comm {b c : List Int} {a d : Ag} (ha : okP a) (hd : okP d) : ∀ {l : List En}, Good l → insE b a (insE c d l) = insE c d (insE b a l)
  | [], _ => by
    show insE b a [⟨c, d⟩] = insE c d [⟨b, a⟩]
    rcases cmpB_tri c b with h | h | h
    · rw [ins_lt h, ins_gt (y := ⟨b, a⟩) h]; rfl
    · rw [ins_eq h, ins_eq (y := ⟨b, a⟩) h.symm, h, mergeA_comm hd.1 ha.1 hd.2 ha.2]
    · rw [ins_gt h, ins_lt (y := ⟨b, a⟩) h]; rfl
  | y :: r, hg => by
    have ⟨h1, h2⟩ := Good.cons.1 hg
    rcases cmpB_tri y.f0 b with hb | hb | hb
    · rcases cmpB_tri y.f0 c with hc | hc | hc
      · rw [ins_lt hb, ins_lt hc, ins_lt hb, ins_lt hc, ins_comm ha hd h2]
      · rw [ins_lt hb, ins_eq hc, ins_eq hc, ins_lt (y := ⟨c, _⟩) (hc ▸ hb)]
      · rw [ins_lt hb, ins_gt hc, ins_gt hc, ins_lt (y := ⟨c, d⟩) (cmpB_trans hc hb), ins_lt hb]
    · rcases cmpB_tri y.f0 c with hc | hc | hc
      · rw [ins_lt hc, ins_eq hb, ins_eq hb, ins_lt (y := ⟨b, _⟩) (hb ▸ hc)]
      · rw [ins_eq hb, ins_eq hc, ins_eq (y := ⟨c, _⟩) (hc ▸ hb), ins_eq (y := ⟨b, _⟩) (hb ▸ hc), mergeA_assoc h1.1 hd.1 ha.1 h1.2 hd.2 ha.2, mergeA_assoc h1.1 ha.1 hd.1 h1.2 ha.2 hd.2, mergeA_comm hd.1 ha.1 hd.2 ha.2, ← hb, hc]
      · rw [ins_gt hc, ins_eq hb, ins_lt (y := ⟨c, d⟩) (hb ▸ hc), ins_eq hb, ins_gt (y := ⟨b, _⟩) (hb ▸ hc)]
    · rcases cmpB_tri y.f0 c with hc | hc | hc
      · rw [ins_lt hc, ins_gt hb, ins_gt hb, ins_lt (y := ⟨b, a⟩) (cmpB_trans hb hc), ins_lt hc]
      · rw [ins_eq hc, ins_gt hb, ins_gt (y := ⟨c, _⟩) (hc ▸ hb), ins_lt (y := ⟨b, a⟩) (hc ▸ hb), ins_eq hc]
      · rw [ins_gt hc, ins_gt hb]
        rcases cmpB_tri c b with h | h | h
        · rw [ins_lt (y := ⟨c, d⟩) h, ins_gt hb, ins_gt (y := ⟨b, a⟩) h]
        · rw [ins_eq (y := ⟨c, d⟩) h, ins_eq (y := ⟨b, a⟩) h.symm, h, mergeA_comm hd.1 ha.1 hd.2 ha.2]
        · rw [ins_gt (y := ⟨c, d⟩) h, ins_lt (y := ⟨b, a⟩) h, ins_gt hc]
theorem ins_sorted {b : List Int} {a : Ag} : ∀ {l : List En}, SortedE l → SortedE (insE b a l) ∧ ∀ x, cmpB x b < 0 → (∀ y ∈ l, cmpB x y.f0 < 0) → ∀ y ∈ insE b a l, cmpB x y.f0 < 0
  | [], _ => ⟨List.pairwise_singleton _ _, fun x hx _ y hy => by obtain rfl := List.mem_singleton.1 hy; exact hx⟩
  | y :: r, hs => by
    have ⟨h1, h2⟩ := List.pairwise_cons.1 hs
    have ⟨i1, i2⟩ := ins_sorted (b := b) (a := a) h2
    rcases cmpB_tri y.f0 b with h | h | h
    · rw [ins_lt h]
      refine ⟨List.pairwise_cons.2 ⟨i2 _ h h1, i1⟩, fun x hx hl z hz => ?_⟩
      rcases List.mem_cons.1 hz with rfl | hz
      · exact hl _ (List.mem_cons_self)
      · exact i2 x hx (fun q hq => hl q (List.mem_cons_of_mem _ hq)) z hz
    · rw [ins_eq h]
      refine ⟨List.pairwise_cons.2 ⟨fun z hz => h ▸ h1 z hz, h2⟩, fun x hx hl z hz => ?_⟩
      rcases List.mem_cons.1 hz with rfl | hz
      · exact hx
      · exact hl z (List.mem_cons_of_mem _ hz)
    · rw [ins_gt h]
      refine ⟨List.pairwise_cons.2 ⟨fun z hz => ?_, hs⟩, fun x hx hl z hz => ?_⟩
      · rcases List.mem_cons.1 hz with rfl | hz
        · exact h
        · exact cmpB_trans h (h1 z hz)
      · rcases List.mem_cons.1 hz with rfl | hz
        · exact hx
        · exact hl z hz
theorem ins_len (b : List Int) (a : Ag) : ∀ l : List En, (insE b a l).length ≤ l.length + 1
  | [] => by simp [insE]
  | y :: r => by
    have := ins_len b a r
    rcases cmpB_tri y.f0 b with h | h | h
    · rw [ins_lt h]; simp; omega
    · rw [ins_eq h]; simp
    · rw [ins_gt h]; simp
theorem ins_mem {b : List Int} {a : Ag} {z : En} : ∀ {l : List En}, z ∈ insE b a l → z.f0 = b ∨ z ∈ l
  | [], h => .inl (by obtain rfl := List.mem_singleton.1 h; rfl)
  | y :: r, h => by
    rcases cmpB_tri y.f0 b with c | c | c
    · rw [ins_lt c] at h
      rcases List.mem_cons.1 h with rfl | h
      · exact .inr List.mem_cons_self
      · exact (ins_mem h).imp id (List.mem_cons_of_mem _)
    · rw [ins_eq c] at h
      rcases List.mem_cons.1 h with rfl | h
      · exact .inl rfl
      · exact .inr (List.mem_cons_of_mem _ h)
    · rw [ins_gt c] at h
      rcases List.mem_cons.1 h with rfl | h
      · exact .inl rfl
      · exact .inr h
def nrm : List En → List En
  | [] => []
  | x :: r => insE x.f0 x.f1 (nrm r)
theorem nrm_good : ∀ {l : List En}, Good l → Good (nrm l)
  | [], _ => Good.nil
  | _ :: _, h => good_ins (Good.cons.1 h).1 (nrm_good (Good.cons.1 h).2)
theorem nrm_sorted : ∀ l : List En, SortedE (nrm l)
  | [] => List.Pairwise.nil
  | _ :: r => (ins_sorted (nrm_sorted r)).1
theorem nrm_len : ∀ l : List En, (nrm l).length ≤ l.length
  | [] => Nat.le_refl _
  | x :: r => by
    have := ins_len x.f0 x.f1 (nrm r)
    have := nrm_len r
    simp only [nrm, List.length_cons]; omega
theorem nrm_mem {z : En} : ∀ {l : List En}, z ∈ nrm l → ∃ x ∈ l, z.f0 = x.f0
  | [], h => by cases h
  | x :: r, h => by
    rcases ins_mem h with h | h
    · exact ⟨x, List.mem_cons_self, h⟩
    · obtain ⟨q, hq, e⟩ := nrm_mem h
      exact ⟨q, List.mem_cons_of_mem _ hq, e⟩
theorem nrm_snoc {x : En} (hx : okP x.f1) : ∀ {l : List En}, Good l → nrm (l ++ [x]) = insE x.f0 x.f1 (nrm l)
  | [], _ => rfl
  | y :: r, h => by
    show insE y.f0 y.f1 (nrm (r ++ [x])) = insE x.f0 x.f1 (insE y.f0 y.f1 (nrm r))
    rw [nrm_snoc hx (Good.cons.1 h).2, ins_comm (Good.cons.1 h).1 hx (nrm_good (Good.cons.1 h).2)]
def mapE (f : List Int → Option (List Int)) : List En → List En
  | [] => []
  | x :: r => match f x.f0 with
    | some b => ⟨b, x.f1⟩ :: mapE f r
    | none => mapE f r
theorem mapE_some {f : List Int → Option (List Int)} {x : En} {r : List En} {b : List Int} (h : f x.f0 = some b) : mapE f (x :: r) = ⟨b, x.f1⟩ :: mapE f r := by simp only [mapE, h]
theorem mapE_none {f : List Int → Option (List Int)} {x : En} {r : List En} (h : f x.f0 = none) : mapE f (x :: r) = mapE f r := by simp only [mapE, h]
theorem mapE_len (f : List Int → Option (List Int)) : ∀ l : List En, (mapE f l).length ≤ l.length
  | [] => Nat.le_refl _
  | x :: r => by
    have := mapE_len f r
    cases e : f x.f0 with
    | none => rw [mapE_none e]; simp; omega
    | some b => rw [mapE_some e]; simp; omega
theorem mapE_mem {f : List Int → Option (List Int)} {z : En} : ∀ {l : List En}, z ∈ mapE f l → ∃ x ∈ l, f x.f0 = some z.f0 ∧ z.f1 = x.f1
  | [], h => by cases h
  | x :: r, h => by
    cases e : f x.f0 with
    | none =>
      rw [mapE_none e] at h
      obtain ⟨q, hq, h⟩ := mapE_mem h
      exact ⟨q, List.mem_cons_of_mem _ hq, h⟩
    | some b =>
      rw [mapE_some e] at h
      rcases List.mem_cons.1 h with rfl | h
      · exact ⟨x, List.mem_cons_self, e, rfl⟩
      · obtain ⟨q, hq, h⟩ := mapE_mem h
        exact ⟨q, List.mem_cons_of_mem _ hq, h⟩
end Go.Proofs.Ytjemmmemenljbaa.PFold
end
section
namespace Go.Proofs.Ytjemmmemenljbaa.GrainM
set_option linter.unusedVariables false
set_option linter.unusedSimpArgs false
set_option maxHeartbeats 8000000
set_option maxRecDepth 100000
theorem fl_mod {t s : Int} : (t - t % s) % s = 0 := by rw [fl_mul]; exact Int.mul_emod_right _ _
section
variable {n : Nat} {sz ag : Nat → Int} {keep : Int}
end
end Go.Proofs.Ytjemmmemenljbaa.GrainM
end
