/- What is opened, acknowledged, closed, trimmed may be. -/
import Derived.Test.YtfenjmhhggekaaaDoorFeC
set_option linter.all false
set_option linter.unusedVariables false
set_option linter.unusedSimpArgs false
namespace Go.Sym
open Go
theorem openR_may {f : Feed} (n : ByteArray) (a : Int) (h : mayF f = true) : mayF (openR f n a) = true := by
  rw [openR, if_pos h]
  split
  · rename_i h1
    obtain ⟨_, h2, h3, h4, h5⟩ := openE_may h1
    exact openF_may h h2 h3 h4 h5
  · exact h
theorem closeR_may {f : Feed} (n : ByteArray) (h : mayF f = true) : mayF (closeR f n) = true := by
  rw [closeR, if_pos h]
  split
  · obtain ⟨⟨q1, q2, q3, q4, q5⟩, c, _⟩ := mayF_iff.1 h
    refine mayF_of ⟨q1, q2, q3, q4, ?_⟩ c (fun s hs => mayF_sub h s ((List.eraseIdx_sublist ..).subset hs)) (eraseIdx_sorted (mayF_subs h) _)
    exact Nat.le_trans ((List.eraseIdx_sublist ..).length_le) q5
  · exact h
theorem ackE_may {f : Feed} {n : ByteArray} {a : Int} (h : mayF f = true) (h2 : ackE f n a = 0) : getK Sub.name f.subs n = true ∧ ¬ f.total < a ∧ ¬ a < subPos f n := by
  rw [ackE, if_pos h] at h2
  split at h2
  · rename_i h3
    split at h2
    · cases h2
    · rename_i h4
      split at h2
      · cases h2
      · rename_i h5; exact ⟨h3, h4, h5⟩
  · cases h2
theorem ackR_may {f : Feed} (n : ByteArray) (a : Int) (h : mayF f = true) : mayF (ackR f n a) = true := by
  rw [ackR, if_pos h]
  split
  · rename_i h1
    obtain ⟨h3, h4, h5⟩ := ackE_may h h1
    obtain ⟨s, hs1, hs2⟩ := posK_there (mayF_subs h) h3
    have hm := mayF_sub h s (List.mem_of_getElem? hs1)
    rw [subPos_at hs1] at h5
    obtain ⟨⟨q1, q2, q3, q4, q5⟩, c, _⟩ := mayF_iff.1 h
    have hso := mayF_subs h
    have hpl := (List.getElem?_eq_some_iff.1 hs1).1
    have he : f.subs[posK Sub.name f.subs n] = s := (List.getElem?_eq_some_iff.1 hs1).2
    refine mayF_of ⟨q1, q2, q3, q4, by simpa [ackF] using q5⟩ c (fun t ht => ?_) ?_
    · rcases List.mem_or_eq_of_mem_set ht with ht | rfl
      · exact mayF_sub h t ht
      · exact ⟨by rw [← hs2]; exact hm.1, by show f.base ≤ a; omega, by show a ≤ f.total; omega⟩
    · have hmap : (ackF f n a).subs.map Sub.name = f.subs.map Sub.name := by
        rw [ackF, posKZ_nat, List.map_set]
        have : (f.subs.map Sub.name)[posK Sub.name f.subs n]'(by simpa using hpl) = n := by simp [he, hs2]
        conv => lhs; rw [show (⟨n, a⟩ : Sub).name = (f.subs.map Sub.name)[posK Sub.name f.subs n]'(by simpa using hpl) from this.symm]
        exact List.set_getElem_self _
      have h1 : (f.subs.map Sub.name).Pairwise slt := List.pairwise_map.2 hso
      rw [← hmap] at h1
      exact List.pairwise_map.1 h1
  · exact h
theorem lowS_mem {l : List Sub} : ∀ {p : Int} {s : Sub}, s ∈ l → lowS p l ≤ s.pos := by
  induction l with
  | nil => intro p s h; cases h
  | cons t l ih =>
    intro p s h
    rcases List.mem_cons.1 h with rfl | h
    · have : lowS (min p s.pos) l ≤ min p s.pos := by
        clear ih h
        generalize min p s.pos = q
        induction l generalizing q with
        | nil => exact Int.le_refl _
        | cons u l ih => exact Int.le_trans (ih (min q u.pos)) (Int.min_le_left _ _)
      exact Int.le_trans this (Int.min_le_right _ _)
    · exact ih h
theorem lowS_le' (l : List Sub) : ∀ p, lowS p l ≤ p := by
  induction l with
  | nil => intro p; exact Int.le_refl _
  | cons s l ih => intro p; exact Int.le_trans (ih (min p s.pos)) (Int.min_le_left _ _)
theorem cutF_may {f : Feed} {p : Int} (h : mayF f = true) (h1 : p ≤ f.total) (h2 : ∀ s ∈ f.subs, p ≤ s.pos) : mayF (cutF f p) = true := by
  rw [cutF]
  split
  · rename_i hb
    obtain ⟨⟨q1, q2, q3, q4, q5⟩, c, _⟩ := mayF_iff.1 h
    refine mayF_of ⟨by show 0 ≤ p; omega, h1, q3, ?_, q5⟩ ?_ (fun s hs => ⟨(mayF_sub h s hs).1, h2 s hs, (mayF_sub h s hs).2.2⟩) (show sortedK Sub.name f.subs from mayF_subs h)
    · show f.total - p = ((f.changes.drop (p - f.base).toNat).length : Int)
      rw [List.length_drop]; omega
    · intro i x hi hx
      have hx : (f.changes.drop (p - f.base).toNat)[i]? = some x := hx
      rw [List.getElem?_drop] at hx
      obtain ⟨a1, a2, a3, a4⟩ := c ((p - f.base).toNat + i) x (List.getElem?_eq_some_iff.1 hx).1 hx
      exact ⟨by show x.pos = p + i + 1; omega, a2, a3, a4⟩
  · exact h
theorem trimR_may {f : Feed} (p : Int) (h : mayF f = true) : mayF (trimR f p) = true := by
  rw [trimR, if_pos h]
  exact cutF_may h (Int.le_trans (lowS_le' _ _) (Int.min_le_right _ _)) fun s hs => lowS_mem hs
theorem trimR_subs {f : Feed} (p : Int) (h : mayF f = true) : (trimR f p).subs = f.subs := by
  rw [trimR, if_pos h, cutF]; split <;> rfl
theorem trimR_base {f : Feed} (p : Int) (h : mayF f = true) : ∀ s ∈ (trimR f p).subs, (trimR f p).base ≤ s.pos := fun s hs => (mayF_sub (trimR_may p h) s hs).2.1
theorem openR_in {f : Feed} {n : ByteArray} {a : Int} : (openR f n a).changes = f.changes ∨ (openR f n a).changes = [] := by
  rw [openR]; split
  · split
    · exact .inl rfl
    · exact .inl rfl
  · exact .inr rfl
theorem ackR_in {f : Feed} {n : ByteArray} {a : Int} : (ackR f n a).changes = f.changes ∨ (ackR f n a).changes = [] := by
  rw [ackR]; split
  · split
    · exact .inl rfl
    · exact .inl rfl
  · exact .inr rfl
theorem closeR_in {f : Feed} {n : ByteArray} : (closeR f n).changes = f.changes ∨ (closeR f n).changes = [] := by
  rw [closeR]; split
  · split
    · exact .inl rfl
    · exact .inl rfl
  · exact .inr rfl
theorem trimR_in {f : Feed} {p : Int} : ∀ c ∈ (trimR f p).changes, c ∈ f.changes := by
  rw [trimR]; split
  · rw [cutF]; split
    · exact fun c hc => List.mem_of_mem_drop hc
    · exact fun c hc => hc
  · intro c hc; cases hc
theorem trimR_len {f : Feed} {p : Int} : (trimR f p).changes.length ≤ f.changes.length := by
  rw [trimR]; split
  · rw [cutF]; split
    · show (f.changes.drop _).length ≤ _; rw [List.length_drop]; omega
    · exact Nat.le_refl _
  · exact Nat.zero_le _
end Go.Sym
