/- The law FeedFlows, of its own arguments. -/
import Derived.Test.YtfenjmhhggekaaaDoorFeFlows
import Derived.Test.YtfenjmhhggekaaaDoorFeArg
set_option linter.all false
set_option linter.unusedVariables false
set_option linter.unusedSimpArgs false
namespace Go.Sym
open Go Go.Proofs Go.Proofs.Tryd
set_option maxRecDepth 10000
theorem cFe8 : prog.cellsOf 5 = 1 := by decide +kernel
theorem cFe9 : prog.cellsOf 9 = 1 := by decide +kernel
theorem nat_u8 {n : Int} (h : (Lit.int .u8 n).wf = true) : ∃ b : Nat, n = b ∧ b < 256 := by
  simp only [Lit.wf, Bool.and_eq_true, decide_eq_true_eq] at h
  obtain ⟨h1, h2⟩ := h
  have h1 : (0 : Int) ≤ n := h1
  have h2 : n ≤ 255 := h2
  exact ⟨n.toNat, by omega, by omega⟩
theorem shape_act {n : Nat} {xs : List PV} (h : shape prog n 5 xs) : ∃ b : Nat, xs = actR b ∧ b < 256 := by
  cases n with
  | zero => exact h.elim
  | succ n =>
    simp only [shape, Tryd.underlying5] at h
    obtain ⟨m, rfl, hm⟩ := h
    obtain ⟨b, rfl, hb⟩ := nat_u8 hm
    exact ⟨b, rfl, hb⟩
theorem shape_acts {n : Nat} {x : PV} (h : shape prog n 31 [x]) : ∃ l : List Nat, Wk (.sl false 0 false 1 (actsR l)) x ∧ l.length ≤ 9223372036854775807 ∧ ∀ b ∈ l, b < 256 := by
  cases n with
  | zero => exact h.elim
  | succ n =>
    simp only [shape, Tryd.underlying31, cFe8] at h
    rcases h with h | ⟨rows, h, hl, hr⟩
    · cases h
      exact ⟨[], .nil _ _, by simp, by simp⟩
    · cases h
      obtain ⟨l, rfl, hd⟩ := rows_of (fun r hr => shape_act hr) hr
      exact ⟨l, .sl' rfl rfl (.refl _), by simpa [maxLen] using hl, hd⟩
theorem shape_strs {n : Nat} {x : PV} (h : shape prog n 86 [x]) : ∃ l : List ByteArray, Wk (.sl false 0 false 1 (strsR l)) x ∧ l.length ≤ 9223372036854775807 ∧ ∀ b ∈ l, b.size ≤ 9223372036854775807 := by
  cases n with
  | zero => exact h.elim
  | succ n =>
    simp only [shape, Tryd.underlying86, cFe9] at h
    rcases h with h | ⟨rows, h, hl, hr⟩
    · cases h
      exact ⟨[], .nil _ _, by simp, by simp⟩
    · cases h
      obtain ⟨l, rfl, hd⟩ := rows_of (e := strR) (fun r hr => shape_str hr) hr
      exact ⟨l, .sl' rfl rfl (.refl _), by simpa [maxLen] using hl, hd⟩
theorem feedFlows_law {a0 : Int} {n1 : Nat} {x1 : PV} {n2 : Nat} {x2 : PV} (w0 : (Lit.int .u8 a0).wf = true) (s1 : shape prog n1 86 [x1]) (s2 : shape prog n2 31 [x2]) : Fn prog 11 [.int .u8 a0, x1, x2] [] [.bool true] [] := by
  obtain ⟨p, rfl, hp⟩ := nat_u8 w0
  obtain ⟨ks, wk, lk, ik⟩ := shape_strs s1
  obtain ⟨l, wl, ll, il⟩ := shape_acts s2
  have h := feedFlows_fn Opq.id p ks l hp lk ll il ik
  exact h.wkA (.cons (.refl _) (.cons (.wk wk) (.cons (.wk wl) .nil)))
end Go.Sym
