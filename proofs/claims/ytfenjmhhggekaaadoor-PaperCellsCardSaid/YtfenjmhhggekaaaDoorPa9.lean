/- Arguments that are documents. -/
import Derived.Test.YtfenjmhhggekaaaDoorBase
import Derived.Test.YtfenjmhhggekaaaDoorPaD
set_option linter.all false
set_option linter.unusedVariables false
set_option linter.unusedSimpArgs false
namespace Go.Sym
open Go Go.Proofs Go.Proofs.Tryd
set_option maxRecDepth 10000
theorem shape_str {n : Nat} {xs : List PV} (h : shape prog n 9 xs) : ∃ s : ByteArray, xs = [.str s] ∧ s.size ≤ 9223372036854775807 := by
  cases n with
  | zero => exact h.elim
  | succ n => simp only [shape, Tryd.underlying9] at h; exact h
theorem shape_int {n : Nat} {xs : List PV} (h : shape prog n 3 xs) : ∃ m : Int, xs = [.int .i64 m] ∧ -9223372036854775808 ≤ m ∧ m ≤ 9223372036854775807 := by
  cases n with
  | zero => exact h.elim
  | succ n =>
    simp only [shape, Tryd.underlying3] at h
    obtain ⟨m, rfl, hm⟩ := h
    refine ⟨m, rfl, ?_⟩
    simp only [Lit.wf, Bool.and_eq_true, decide_eq_true_eq] at hm
    exact hm
def inI (m : Int) : Prop := -9223372036854775808 ≤ m ∧ m ≤ 9223372036854775807
def inS (s : ByteArray) : Prop := s.size ≤ 9223372036854775807
def Val.In (v : Val) : Prop := inI v.kind ∧ inI v.num ∧ inS v.text ∧ inI v.re ∧ inI v.im
def Field.In (f : Field) : Prop := inS f.path ∧ f.val.In
theorem c3 : prog.cellsOf 3 = 1 := by decide +kernel
theorem c9 : prog.cellsOf 9 = 1 := by decide +kernel
theorem c33 : prog.cellsOf 33 = 2 := by decide +kernel
theorem c35 : prog.cellsOf 35 = 5 := by decide +kernel
theorem c37 : prog.cellsOf 37 = 6 := by decide +kernel
theorem shape_point {n : Nat} {xs : List PV} (h : shape prog n 33 xs) : ∃ a b : Int, xs = [.int .i64 a, .int .i64 b] ∧ inI a ∧ inI b := by
  cases n with
  | zero => exact h.elim
  | succ n =>
    simp only [shape, Tryd.underlying33, List.forall_mem_cons, List.not_mem_nil, false_imp_iff, implies_true, and_true, c33, c3] at h
    obtain ⟨hl, h1, h2⟩ := h
    match xs, hl with
    | [x, y], _ =>
    obtain ⟨a, ea, ia⟩ := shape_int (xs := [x]) h1
    obtain ⟨b, eb, ib⟩ := shape_int (xs := [y]) h2
    cases ea; cases eb
    exact ⟨a, b, rfl, ia, ib⟩
theorem shape_val {n : Nat} {xs : List PV} (h : shape prog n 35 xs) : ∃ v : Val, xs = v.enc ∧ v.In := by
  cases n with
  | zero => exact h.elim
  | succ n =>
    simp only [shape, Tryd.underlying35, List.forall_mem_cons, List.not_mem_nil, false_imp_iff, implies_true, and_true, c35, c33, c9, c3] at h
    obtain ⟨hl, h1, h2, h3, h4⟩ := h
    match xs, hl with
    | [x, y, z, u, w], _ =>
    obtain ⟨a, ea, ia⟩ := shape_int (xs := [x]) h1
    obtain ⟨b, eb, ib⟩ := shape_int (xs := [y]) h2
    obtain ⟨t, et, it⟩ := shape_str (xs := [z]) h3
    obtain ⟨p, q, ep, ip, iq⟩ := shape_point (xs := [u, w]) h4
    cases ea; cases eb; cases et; cases ep
    exact ⟨⟨a, b, t, p, q⟩, rfl, ia, ib, it, ip, iq⟩
theorem shape_field {n : Nat} {xs : List PV} (h : shape prog n 37 xs) : ∃ f : Field, xs = f.enc ∧ f.In := by
  cases n with
  | zero => exact h.elim
  | succ n =>
    simp only [shape, Tryd.underlying37, List.forall_mem_cons, List.not_mem_nil, false_imp_iff, implies_true, and_true, c37, c35, c9] at h
    obtain ⟨hl, h1, h2⟩ := h
    match xs, hl with
    | x :: ys, hl =>
    obtain ⟨t, et, it⟩ := shape_str (xs := [x]) h1
    have hy : (List.drop 1 (x :: ys)).take 5 = ys := List.take_of_length_le (Nat.le_of_eq (by simpa using hl))
    rw [hy] at h2
    obtain ⟨v, rfl, iv⟩ := shape_val h2
    cases et
    exact ⟨⟨t, v⟩, rfl, it, iv⟩
/-- a slice's rows, each of them data -/
theorem rows_of {α : Type} {e : α → List PV} {In : α → Prop} {Q : List PV → Prop} (hq : ∀ r, Q r → ∃ a, r = e a ∧ In a) : ∀ {rows : List (List PV)}, (∀ r ∈ rows, Q r) → ∃ l : List α, rows = l.map e ∧ ∀ a ∈ l, In a
  | [], _ => ⟨[], rfl, by simp⟩
  | r :: rows, h => by
    obtain ⟨a, ha, ia⟩ := hq r (h r (by simp))
    obtain ⟨l, hl, il⟩ := rows_of (rows := rows) hq fun r hr => h r (List.mem_cons_of_mem _ hr)
    exact ⟨a :: l, by simp [ha, hl], by simpa using ⟨ia, il⟩⟩
theorem shape_doc {n : Nat} {x : PV} (h : shape prog n 23 [x]) : ∃ d : Doc, Wk (.sl false 0 false 6 (Doc.enc d)) x ∧ d.length ≤ 9223372036854775807 ∧ ∀ f ∈ d, f.In := by
  cases n with
  | zero => exact h.elim
  | succ n =>
    simp only [shape, Tryd.underlying23, c37] at h
    rcases h with h | ⟨rows, h, hl, hr⟩
    · cases h
      exact ⟨[], .nil _ _, by simp, by simp⟩
    · cases h
      obtain ⟨d, rfl, hd⟩ := rows_of (fun r hr => shape_field hr) hr
      exact ⟨d, .sl' rfl rfl (.refl _), by simpa [maxLen] using hl, hd⟩
end Go.Sym
