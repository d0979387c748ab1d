/- Arguments that are cells. -/
import Derived.Test.YtfenjmhhggekaaaDoorPa9
import Derived.Test.YtfenjmhhggekaaaDoorCeB
import Derived.Test.YtfenjmhhggekaaaDoorSymJoined3
set_option linter.all false
set_option linter.unusedVariables false
set_option linter.unusedSimpArgs false
namespace Go.Sym
open Go Go.Proofs Go.Proofs.Tryd
set_option maxRecDepth 10000
theorem cCe0 : prog.cellsOf 64 = 4 := by decide +kernel
theorem cCe1 : prog.cellsOf 62 = 1 := by decide +kernel
inductive Cel.In : Cel → Prop
  | mk {k n : Int} {t : ByteArray} {l : List Cel} (hk : inI k) (hn : inI n) (ht : inS t) (hl : l.length ≤ 9223372036854775807) (h : ∀ c ∈ l, c.In) : Cel.In (.mk k n t l)
theorem rows_wkx {α : Type} {e : α → List PV} {In : α → Prop} {Q : List PV → Prop} (hq : ∀ r, Q r → ∃ a, WkL (e a) r ∧ In a) : ∀ {rows : List (List PV)}, (∀ r ∈ rows, Q r) → ∃ l : List α, WkR (l.map e) rows ∧ l.length = rows.length ∧ ∀ a ∈ l, In a
  | [], _ => ⟨[], .refl _, rfl, by simp⟩
  | r :: rows, h => by
    obtain ⟨a, ha, ia⟩ := hq r (h r (by simp))
    obtain ⟨l, hl, ll, il⟩ := rows_wkx (rows := rows) hq fun r hr => h r (List.mem_cons_of_mem _ hr)
    exact ⟨a :: l, .cons ha hl, by simp [ll], by simpa using ⟨ia, il⟩⟩
theorem shape_cel : ∀ {n : Nat} {xs : List PV}, shape prog n 64 xs → ∃ c : Cel, WkL c.enc xs ∧ c.In
  | 0, _, h => h.elim
  | 1, _, h => by
    simp only [shape, Tryd.underlying64, List.forall_mem_cons, List.not_mem_nil, false_imp_iff, implies_true, and_true] at h
    exact h.2.1.elim
  | n + 2, xs, h => by
    have ih := fun (r : List PV) => shape_cel (n := n) (xs := r)
    rw [shape] at h
    simp only [Tryd.underlying64, List.forall_mem_cons, List.not_mem_nil, false_imp_iff, implies_true, and_true, cCe0, cCe1, c9, c3] at h
    obtain ⟨hl, h1, h2, h3, h4⟩ := h
    match xs, hl with
    | [x, y, z, u], _ =>
    obtain ⟨a, ea, ia⟩ := shape_int (xs := [x]) h1
    obtain ⟨b, eb, ib⟩ := shape_int (xs := [y]) h2
    obtain ⟨t, et, it⟩ := shape_str (xs := [z]) h3
    cases ea; cases eb; cases et
    simp only [List.drop_succ_cons, List.drop_zero, List.take_succ_cons, List.take_zero, shape, Tryd.underlying62, cCe0] at h4
    rcases h4 with h4 | ⟨rows, h4, hl, hr⟩
    · cases h4
      exact ⟨.mk a b t [], .cons (.refl _) (.cons (.refl _) (.cons (.refl _) (.cons (.nil _ _) (.refl _)))), .mk ia ib it (by simp) (by simp)⟩
    · cases h4
      obtain ⟨l, hw, hll, hi⟩ := rows_wkx (fun r hr => ih r hr) hr
      rw [← Cels.enc_map] at hw
      refine ⟨.mk a b t l, ?_, .mk ia ib it (by rw [hll]; simpa [maxLen] using hl) hi⟩
      rw [Cel.enc]
      exact .cons (.refl _) (.cons (.refl _) (.cons (.refl _) (.cons (.sl' rfl rfl hw) (.refl _))))
end Go.Sym
