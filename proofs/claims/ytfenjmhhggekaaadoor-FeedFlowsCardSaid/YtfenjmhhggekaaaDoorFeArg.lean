/- Arguments that are feeds. -/
import Derived.Test.YtfenjmhhggekaaaDoorPa9
import Derived.Test.YtfenjmhhggekaaaDoorFeA
import Derived.Test.YtfenjmhhggekaaaDoorSymJoined3
set_option linter.all false
set_option linter.unusedVariables false
set_option linter.unusedSimpArgs false
namespace Go.Sym
open Go Go.Proofs Go.Proofs.Tryd
set_option maxRecDepth 10000
theorem cFe0 : prog.cellsOf 4 = 1 := by decide +kernel
theorem cFe1 : prog.cellsOf 88 = 4 := by decide +kernel
theorem cFe2 : prog.cellsOf 93 = 2 := by decide +kernel
theorem cFe3 : prog.cellsOf 53 = 4 := by decide +kernel
theorem cFe4 : prog.cellsOf 23 = 1 := by decide +kernel
theorem cFe5 : prog.cellsOf 50 = 1 := by decide +kernel
theorem cFe6 : prog.cellsOf 51 = 1 := by decide +kernel
theorem shape_bool {n : Nat} {xs : List PV} (h : shape prog n 4 xs) : ∃ b : Bool, xs = [.bool b] := by
  cases n with
  | zero => exact h.elim
  | succ n => simp only [shape, Tryd.underlying4] at h; exact h
/-- a slice's rows, each of them data, in parts too -/
theorem rows_wk {α : Type} {e : α → List PV} {In : α → Prop} {Q : List PV → Prop} (hq : ∀ r, Q r → ∃ a, WkL (e a) r ∧ In a) : ∀ {rows : List (List PV)}, (∀ r ∈ rows, Q r) → ∃ l : List α, WkR (l.map e) rows ∧ l.length = rows.length ∧ ∀ a ∈ l, In a
  | [], _ => ⟨[], .refl _, rfl, by simp⟩
  | r :: rows, h => by
    obtain ⟨a, ha, ia⟩ := hq r (h r (by simp))
    obtain ⟨l, hl, ll, il⟩ := rows_wk (rows := rows) hq fun r hr => h r (List.mem_cons_of_mem _ hr)
    exact ⟨a :: l, .cons ha hl, by simp [ll], by simpa using ⟨ia, il⟩⟩
def Change.In (c : Change) : Prop := inI c.pos ∧ inS c.key ∧ c.doc.length ≤ 9223372036854775807 ∧ ∀ f ∈ c.doc, f.In
def Sub.In (s : Sub) : Prop := inS s.name ∧ inI s.pos
def Feed.In (f : Feed) : Prop := inI f.base ∧ inI f.total ∧ f.changes.length ≤ 9223372036854775807 ∧ f.subs.length ≤ 9223372036854775807 ∧ (∀ c ∈ f.changes, c.In) ∧ ∀ s ∈ f.subs, s.In
theorem shape_change {n : Nat} {xs : List PV} (h : shape prog n 88 xs) : ∃ c : Change, WkL (Change.enc Opq.id c) xs ∧ c.In := by
  cases n with
  | zero => exact h.elim
  | succ n =>
    simp only [shape, Tryd.underlying88, List.forall_mem_cons, List.not_mem_nil, false_imp_iff, implies_true, and_true, cFe1, cFe0, cFe4, c9, c3] at h
    obtain ⟨hl, h1, h2, h3, h4⟩ := h
    match xs, hl with
    | [x, y, z, u], _ =>
    obtain ⟨a, ea, ia⟩ := shape_int (xs := [x]) h1
    obtain ⟨t, et, it⟩ := shape_str (xs := [y]) h2
    obtain ⟨b, eb⟩ := shape_bool (xs := [z]) h3
    obtain ⟨d, wd, ld, id⟩ := shape_doc (x := u) h4
    cases ea; cases et; cases eb
    exact ⟨⟨a, t, b, d⟩, .cons (.refl _) (.cons (.refl _) (.cons (.refl _) (.cons wd (.refl _)))), ia, it, ld, id⟩
theorem shape_changes {n : Nat} {x : PV} (h : shape prog n 50 [x]) : ∃ l : List Change, Wk (.sl false 0 false 4 (Chs.enc Opq.id l)) x ∧ l.length ≤ 9223372036854775807 ∧ ∀ c ∈ l, c.In := by
  cases n with
  | zero => exact h.elim
  | succ n =>
    simp only [shape, Tryd.underlying50, cFe1] at h
    rcases h with h | ⟨rows, h, hl, hr⟩
    · cases h
      exact ⟨[], .nil _ _, by simp, by simp⟩
    · cases h
      obtain ⟨l, hw, hll, hi⟩ := rows_wk (fun r hr => shape_change hr) hr
      exact ⟨l, .sl' rfl rfl hw, by rw [hll]; simpa [maxLen] using hl, hi⟩
theorem shape_sub {n : Nat} {xs : List PV} (h : shape prog n 93 xs) : ∃ s : Sub, xs = s.enc ∧ s.In := by
  cases n with
  | zero => exact h.elim
  | succ n =>
    simp only [shape, Tryd.underlying93, List.forall_mem_cons, List.not_mem_nil, false_imp_iff, implies_true, and_true, cFe2, c9, c3] at h
    obtain ⟨hl, h1, h2⟩ := h
    match xs, hl with
    | [x, y], _ =>
    obtain ⟨t, et, it⟩ := shape_str (xs := [x]) h1
    obtain ⟨a, ea, ia⟩ := shape_int (xs := [y]) h2
    cases ea; cases et
    exact ⟨⟨t, a⟩, rfl, it, ia⟩
theorem shape_subs {n : Nat} {x : PV} (h : shape prog n 51 [x]) : ∃ l : List Sub, Wk (.sl false 0 false 2 (Subs.enc l)) x ∧ l.length ≤ 9223372036854775807 ∧ ∀ c ∈ l, c.In := by
  cases n with
  | zero => exact h.elim
  | succ n =>
    simp only [shape, Tryd.underlying51, cFe2] at h
    rcases h with h | ⟨rows, h, hl, hr⟩
    · cases h
      exact ⟨[], .nil _ _, by simp, by simp⟩
    · cases h
      obtain ⟨l, rfl, hi⟩ := rows_of (fun r hr => shape_sub hr) hr
      exact ⟨l, .sl' rfl rfl (.refl _), by simpa [maxLen] using hl, hi⟩
theorem shape_feed {n : Nat} {xs : List PV} (h : shape prog n 53 xs) : ∃ f : Feed, WkA (.agg (f.enc Opq.id)) (.agg xs) ∧ f.In := by
  cases n with
  | zero => exact h.elim
  | succ n =>
    simp only [shape, Tryd.underlying53, List.forall_mem_cons, List.not_mem_nil, false_imp_iff, implies_true, and_true, cFe3, cFe5, cFe6, c3] at h
    obtain ⟨hl, h1, h2, h3, h4⟩ := h
    match xs, hl with
    | [x, y, z, u], _ =>
    obtain ⟨a, ea, ia⟩ := shape_int (xs := [x]) h1
    obtain ⟨b, eb, ib⟩ := shape_int (xs := [y]) h2
    obtain ⟨l, wl, ll, il⟩ := shape_changes (x := z) h3
    obtain ⟨s, ws, ls, is⟩ := shape_subs (x := u) h4
    cases ea; cases eb
    exact ⟨⟨a, b, l, s⟩, .agg' (.cons (.refl _) (.cons (.refl _) (.cons (.wk wl) (.cons (.wk ws) .nil)))), ia, ib, ll, ls, il, is⟩
end Go.Sym
