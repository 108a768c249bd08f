import Derived.Test.YtdopbhbbpgfliaaZAskEach02
section
namespace Go.Proofs.YtdopbhbbpgfliaaW.PrintWords
open Go.RowKit Go.Proofs.YtdopbhbbpgfliaaW.PrintWords Go.Proofs.YtdopbhbbpgfliaaW.PrintLast Go.Proofs.YtdopbhbbpgfliaaW.PrintMore
theorem hcel {w w1 : World} {p : Addr} {v : Value} (hb : Below w.heap.size w w1) (h : w.cell? p = some v) : w1.cell? p = some v := (hb.cell (World.block_lt_of_cell? _ _ h)).trans h
theorem qA {q : Addr} {g : Nat} {b : Nat} (h : b ≠ g) (t : b ≠ g → q.block ≠ g := by intro h_; first | exact h_ | (rw [Go.Proofs.YtdopbhbbpgfliaaW.PrintWords.add_block]; exact h_) | (show (Addr.add _ _).block ≠ _; rw [Go.Proofs.YtdopbhbbpgfliaaW.PrintWords.add_block]; exact h_) | (dsimp only; exact h_)) : q.block ≠ g := t h
theorem cfar9 {w : World} {g : Nat} {q : Addr} {v b0 b1 b2 b3 b4 b5 b6 b7 b8 : Value} (hne : q.block ≠ g) (h : w.cell? q = some v) : (((((((((w.setCell ⟨g, 0, none⟩ b0).setCell ⟨g, 1, none⟩ b1).setCell ⟨g, 2, none⟩ b2).setCell ⟨g, 3, none⟩ b3).setCell ⟨g, 4, none⟩ b4).setCell ⟨g, 5, none⟩ b5).setCell ⟨g, 6, none⟩ b6).setCell ⟨g, 7, none⟩ b7).setCell ⟨g, 8, none⟩ b8).cell? q = some v :=
  (cell_far (p := ⟨g, _, none⟩) hne _).trans ((cell_far (p := ⟨g, _, none⟩) hne _).trans ((cell_far (p := ⟨g, _, none⟩) hne _).trans ((cell_far (p := ⟨g, _, none⟩) hne _).trans ((cell_far (p := ⟨g, _, none⟩) hne _).trans ((cell_far (p := ⟨g, _, none⟩) hne _).trans ((cell_far (p := ⟨g, _, none⟩) hne _).trans ((cell_far (p := ⟨g, _, none⟩) hne _).trans ((cell_far (p := ⟨g, _, none⟩) hne _).trans h))))))))
theorem ifs2 {α : Type} {p q : Prop} {_d : Decidable p} {_e : Decidable q} {A : Option α} {r : α} (H : (if p then (if q then A else none) else A) = some r) : (p → q) ∧ A = some r := by
  by_cases h : p
  · rw [if_pos h] at H
    by_cases k : q
    · rw [if_pos k] at H; exact ⟨fun _ => k, H⟩
    · rw [if_neg k] at H; cases H
  · rw [if_neg h] at H; exact ⟨fun c => absurd c h, H⟩
end Go.Proofs.YtdopbhbbpgfliaaW.PrintWords
end
