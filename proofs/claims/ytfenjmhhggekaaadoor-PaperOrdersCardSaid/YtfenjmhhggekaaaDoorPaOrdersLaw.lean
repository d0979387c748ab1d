/- The law PaperOrders, of its own arguments. -/
import Derived.Test.YtfenjmhhggekaaaDoorPaOrders
import Derived.Test.YtfenjmhhggekaaaDoorPa9
namespace Go.Sym
open Go Go.Proofs Go.Proofs.Tryd
set_option maxRecDepth 10000
theorem shape_u8 {n : Nat} {xs : List PV} (h : shape prog n 5 xs) : ∃ b : Nat, xs = byteR b ∧ b < 256 := by
  cases n with
  | zero => exact h.elim
  | succ n =>
    simp only [shape, Tryd.underlying5] at h
    obtain ⟨m, rfl, hm⟩ := h
    simp only [Lit.wf, Bool.and_eq_true, decide_eq_true_eq] at hm
    obtain ⟨h1, h2⟩ := hm
    have h1 : (0 : Int) ≤ m := h1
    have h2 : m ≤ 255 := h2
    refine ⟨m.toNat, ?_, by omega⟩
    have e : m = (m.toNat : Int) := by omega
    rw [e]; rfl
theorem c5 : prog.cellsOf 5 = 1 := by decide +kernel
theorem shape_bytes {n : Nat} {x : PV} (h : shape prog n 31 [x]) : ∃ l : List Nat, Wk (.sl false 0 false 1 (bytesR l)) x ∧ l.length ≤ 9223372036854775807 ∧ ∀ b ∈ l, b < 256 := by
  cases n with
  | zero => exact h.elim
  | succ n =>
    simp only [shape, Tryd.underlying31, c5] at h
    rcases h with h | ⟨rows, h, hl, hr⟩
    · cases h
      exact ⟨[], .nil _ _, by simp, by simp⟩
    · cases h
      obtain ⟨l, rfl, hd⟩ := rows_of (fun r hr => shape_u8 hr) hr
      exact ⟨l, .sl' rfl rfl (.refl _), by simpa [maxLen] using hl, hd⟩
theorem paperOrders_law {n0 : Nat} {x0 : PV} {n1 : Nat} {x1 : PV} (s0 : shape prog n0 23 [x0]) (s1 : shape prog n1 31 [x1]) : Fn prog 4 [x0, x1] [] [.bool true] [] := by
  obtain ⟨d, wd, ld, id⟩ := shape_doc s0
  obtain ⟨l, wl, ll, il⟩ := shape_bytes s1
  have h := paperOrders_fn Opq.id d l (fun f hf => (id f hf).1) ld ll il
  exact h.wkArgs (.cons wd (.cons wl (.refl _)))
end Go.Sym
