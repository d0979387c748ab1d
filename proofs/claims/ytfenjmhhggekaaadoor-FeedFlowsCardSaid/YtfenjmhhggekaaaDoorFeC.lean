/- A subscription that is opened is there; closed, it is as if it had not been. -/
import Derived.Test.YtfenjmhhggekaaaDoorFeB
set_option linter.all false
set_option linter.unusedVariables false
set_option linter.unusedSimpArgs false
namespace Go.Sym
open Go
noncomputable def lightC (l : List Change) : Bool := decide (l.length ≤ 60 ∧ ∀ c ∈ l, c.doc.length ≤ 20)
noncomputable def lightF (f : Feed) : Bool := decide (lightC f.changes = true ∧ f.subs.length ≤ 20)
theorem lightC_iff {l : List Change} : lightC l = true ↔ l.length ≤ 60 ∧ ∀ c ∈ l, c.doc.length ≤ 20 := by simp [lightC]
theorem lightC_long {l : List Change} (h : 60 < l.length) : lightC l = false := by simp only [lightC, decide_eq_false_iff_not]; omega
theorem lightC_bad {l : List Change} {c : Change} (h : c ∈ l) (h2 : 20 < c.doc.length) : lightC l = false := by
  simp only [lightC, decide_eq_false_iff_not]; intro k; have := k.2 c h; omega
theorem lightC_ok {l : List Change} (h : l.length ≤ 60) (h2 : ∀ (j : Nat) c, j < l.length → l[j]? = some c → c.doc.length ≤ 20) : lightC l = true := by
  refine lightC_iff.2 ⟨h, fun c hc => ?_⟩
  obtain ⟨j, hj, rfl⟩ := List.getElem_of_mem hc
  exact h2 j _ hj (by simp)
theorem lightC_step {l : List Change} {k : Nat} {c : Change} (h : ∀ (j : Nat) c, j < k → l[j]? = some c → c.doc.length ≤ 20) (hx : l[k]? = some c) (hc : c.doc.length ≤ 20) : ∀ (j : Nat) c, j < k + 1 → l[j]? = some c → c.doc.length ≤ 20 := fun j y hj hy => by
  by_cases e : j = k
  · subst e; rw [hx] at hy; cases hy; exact hc
  · exact h j y (by omega) hy
theorem Sub.enc_inj {s t : Sub} : s.enc = t.enc ↔ s = t := by cases s; cases t; simp [Sub.enc]
theorem sameC_iff {l m : List Change} : sameC l m = true ↔ l = m := by simp [sameC]
theorem sameC_len {l m : List Change} (h : l.length ≠ m.length) : sameC l m = false := by
  simp only [sameC, decide_eq_false_iff_not]; rintro rfl; exact h rfl
theorem sameC_at {l m : List Change} {k : Nat} (h : l[k]? ≠ m[k]?) : sameC l m = false := by
  simp only [sameC, decide_eq_false_iff_not]; rintro rfl; exact h rfl
theorem sameC_all {l m : List Change} (hl : l.length = m.length) (h : ∀ j, j < l.length → l[j]? = m[j]?) : sameC l m = true := by
  simp only [sameC, decide_eq_true_eq]
  refine List.ext_getElem? fun j => ?_
  by_cases hj : j < l.length
  · exact h j hj
  · rw [List.getElem?_eq_none (by omega), List.getElem?_eq_none (by omega)]
theorem sameF_iff {f g : Feed} : sameF f g = true ↔ f = g := by simp [sameF]
theorem sameF_no {f g : Feed} (h : f ≠ g) : sameF f g = false := by simp [sameF, h]
theorem sameF_ok {f g : Feed} (h1 : f.base = g.base) (h2 : f.total = g.total) (h3 : f.changes = g.changes) (hl : f.subs.length = g.subs.length) (h : ∀ j, j < f.subs.length → f.subs[j]? = g.subs[j]?) : sameF f g = true := by
  have h4 : f.subs = g.subs := List.ext_getElem? fun j => by
    by_cases hj : j < f.subs.length
    · exact h j hj
    · rw [List.getElem?_eq_none (by omega), List.getElem?_eq_none (by omega)]
  rw [sameF_iff]; cases f; cases g; simp_all
/-! opened -/
theorem openF_posK {f : Feed} {n : ByteArray} {a : Int} (hs : sortedK Sub.name f.subs) : posK Sub.name (openF f n a).subs n = posK Sub.name f.subs n := by
  have hl := posK_le (κ := Sub.name) f.subs n
  have e : (openF f n a).subs = f.subs.take (posK Sub.name f.subs n) ++ ⟨n, a⟩ :: f.subs.drop (posK Sub.name f.subs n) := by
    rw [openF, insKZ, posKZ_nat]; rfl
  have h := posKZ_at (κ := Sub.name) (d := (openF f n a).subs) (p := n) (k := posK Sub.name f.subs n) (by omega) (by rw [e]; simp; omega)
    (fun j y hj hy => by
      rw [e, List.getElem?_append_left (by simp; omega), List.getElem?_take_of_lt (by omega)] at hy
      exact posK_lo _ _ j y (by omega) hy)
    (fun j y hj hy => by
      by_cases hjj : j = posK Sub.name f.subs n
      · rw [e, List.getElem?_append_right (by simp; omega)] at hy
        rw [hjj] at hy
        simp [Nat.min_eq_left hl] at hy
        subst hy
        exact slt_irrefl _
      · rw [e, List.getElem?_append_right (by simp; omega)] at hy
        obtain ⟨i, hi⟩ : ∃ i, j = posK Sub.name f.subs n + 1 + i := ⟨j - posK Sub.name f.subs n - 1, by omega⟩
        rw [hi, List.length_take, Nat.min_eq_left hl, show posK Sub.name f.subs n + 1 + i - posK Sub.name f.subs n = i + 1 by omega, List.getElem?_cons_succ, List.getElem?_drop] at hy
        exact posK_hi hs n _ y (by omega) hy)
  simp only [posKZ] at h
  omega
theorem openF_getK (f : Feed) (n : ByteArray) (a : Int) : getK Sub.name (openF f n a).subs n = true :=
  List.any_eq_true.2 ⟨⟨n, a⟩, by simp [openF, insKZ, insK], by simp [hasK]⟩
theorem openF_may {f : Feed} {n : ByteArray} {a : Int} (h : mayF f = true) (h2 : isKey n = true ∧ 0 ≤ a ∧ a ≤ f.total) (h3 : getK Sub.name f.subs n = false) (h4 : f.subs.length ≠ 8) (h5 : ¬ a < f.base) : mayF (openF f n a) = true := by
  obtain ⟨⟨q1, q2, q3, q4, q5⟩, c, _⟩ := mayF_iff.1 h
  refine mayF_of ⟨q1, q2, q3, q4, ?_⟩ c (fun s hs => ?_) ?_
  · have := posK_le (κ := Sub.name) f.subs n
    simp [openF, insKZ, insK, posKZ_nat]; omega
  · simp only [openF, insKZ, insK, List.mem_append, List.mem_cons] at hs
    rcases hs with hs | rfl | hs
    · exact mayF_sub h s (List.mem_of_mem_take hs)
    · exact ⟨h2.1, by show f.base ≤ a; omega, h2.2.2⟩
    · exact mayF_sub h s (List.mem_of_mem_drop hs)
  · have := insK_sorted (κ := Sub.name) (d := f.subs) (x := ⟨n, a⟩) (mayF_subs h) h3
    rw [openF, insKZ, posKZ_nat]; exact this
theorem openF_close {f : Feed} {n : ByteArray} {a : Int} (hs : sortedK Sub.name f.subs) : closeF (openF f n a) n = f := by
  rw [closeF, posKZ_nat, openF_posK hs]
  have hl := posK_le (κ := Sub.name) f.subs n
  have e : (openF f n a).subs = f.subs.take (posK Sub.name f.subs n) ++ ⟨n, a⟩ :: f.subs.drop (posK Sub.name f.subs n) := by
    rw [openF, insKZ, posKZ_nat]; rfl
  have : (openF f n a).subs.eraseIdx (posK Sub.name f.subs n) = f.subs := by
    rw [e, List.eraseIdx_append_of_length_le (by simp; omega), List.length_take, Nat.min_eq_left hl, Nat.sub_self, List.eraseIdx_cons_zero, List.take_append_drop]
  rw [this]; rfl
theorem openF_subPos {f : Feed} {n : ByteArray} {a : Int} (hs : sortedK Sub.name f.subs) : subPos (openF f n a) n = a := by
  have hl := posK_le (κ := Sub.name) f.subs n
  have e : (openF f n a).subs = f.subs.take (posK Sub.name f.subs n) ++ ⟨n, a⟩ :: f.subs.drop (posK Sub.name f.subs n) := by
    rw [openF, insKZ, posKZ_nat]; rfl
  have h : (openF f n a).subs[posK Sub.name (openF f n a).subs n]? = some ⟨n, a⟩ := by
    rw [openF_posK hs, e, List.getElem?_append_right (by simp; omega)]
    simp [Nat.min_eq_left hl]
  rw [subPos_at h]
theorem openE_may {f : Feed} {n : ByteArray} {a : Int} (h : openE f n a = 0) : mayF f = true ∧ (isKey n = true ∧ 0 ≤ a ∧ a ≤ f.total) ∧ getK Sub.name f.subs n = false ∧ f.subs.length ≠ 8 ∧ ¬ a < f.base := by
  unfold openE at h
  split at h
  · rename_i h1
    split at h
    · rename_i h2
      split at h
      · cases h
      · rename_i h3
        split at h
        · cases h
        · rename_i h4
          split at h
          · cases h
          · rename_i h5
            exact ⟨h1, h2, by simpa using h3, h4, h5⟩
    · cases h
  · cases h
/-- all that the law of opening asks -/
theorem opens_all {f : Feed} {n : ByteArray} {a : Int} (h : openE f n a = 0) :
    openR f n a = openF f n a ∧ openE (openF f n a) n a = 11 ∧ closeE (openF f n a) n = 0 ∧ closeR (openF f n a) n = f ∧ readE (openF f n a) n 16 = 0 ∧ readAt (openF f n a) n 16 = a ∧
      ((readR (openF f n a) n 16).length : Int) ≤ f.total - a ∧ (((readR (openF f n a) n 16).length : Int) = f.total - a ∨ ((readR (openF f n a) n 16).length : Int) = 16) ∧ a ≤ f.total ∧ 0 ≤ a := by
  obtain ⟨h1, h2, h3, h4, h5⟩ := openE_may h
  have hm := openF_may h1 h2 h3 h4 h5
  have hs := mayF_subs h1
  have hg := openF_getK f n a
  obtain ⟨q1, q2, q3, q4, q5⟩ := (mayF_iff.1 h1).1
  obtain ⟨_, e1⟩ := openE_ok h1 h2 h3 h4 h5
  obtain ⟨e2, _⟩ := openE_same (a := a) hm h2 hg
  obtain ⟨e3, e4⟩ := closeE_ok hm hg
  rw [openF_close hs] at e4
  obtain ⟨e5, e6, e7⟩ := readE_at (m := 16) hm hg
  rw [openF_subPos hs] at e5 e6 e7
  obtain ⟨e8, e9⟩ := pullE_ok (f := openF f n a) (a := a) (m := 16) ⟨hm, by decide, by decide, h2.2.1, h2.2.2⟩ h5
  rw [e8] at e5 e7
  rw [e9] at e6
  have hlen : (readR (openF f n a) n 16).length = min 16 (f.changes.length - (a - f.base).toNat) := by
    rw [e6, pullF, List.length_take, List.length_drop]; rfl
  refine ⟨e1, e2, e3, e4, e5, e7, ?_, ?_, h2.2.2, h2.2.1⟩ <;> rw [hlen] <;> omega
/-! what is asked of equality -/
open Classical in
noncomputable def sameS (l m : List Sub) : Bool := decide (l = m)
theorem sameS_iff {l m : List Sub} : sameS l m = true ↔ l = m := by simp [sameS]
theorem sameS_len {l m : List Sub} (h : l.length ≠ m.length) : sameS l m = false := by
  simp only [sameS, decide_eq_false_iff_not]; rintro rfl; exact h rfl
theorem sameS_at {l m : List Sub} {k : Nat} (h : l[k]? ≠ m[k]?) : sameS l m = false := by
  simp only [sameS, decide_eq_false_iff_not]; rintro rfl; exact h rfl
theorem sameS_all {l m : List Sub} (hl : l.length = m.length) (h : ∀ j, j < l.length → l[j]? = m[j]?) : sameS l m = true := by
  simp only [sameS, decide_eq_true_eq]
  refine List.ext_getElem? fun j => ?_
  by_cases hj : j < l.length
  · exact h j hj
  · rw [List.getElem?_eq_none (by omega), List.getElem?_eq_none (by omega)]
open Classical in
noncomputable def sameCh1 (x y : Change) : Bool := decide (x = y)
theorem sameCh1_iff {x y : Change} : sameCh1 x y = true ↔ x = y := by simp [sameCh1]
theorem sameCh1_no {x y : Change} (h : x ≠ y) : sameCh1 x y = false := by simp [sameCh1, h]
theorem sameF_parts {f g : Feed} : f = g ↔ f.base = g.base ∧ f.total = g.total ∧ f.subs = g.subs ∧ f.changes = g.changes := by
  cases f; cases g; simp only [Feed.mk.injEq]; constructor <;> (rintro ⟨a, b, c, d⟩; exact ⟨a, b, d, c⟩)
open Classical in
noncomputable def lsm (f : Feed) (e : Int) (w : Feed) (c : Int) : Bool := decide (e = c ∧ f = w)
theorem lsm_iff {f w : Feed} {e c : Int} : lsm f e w c = true ↔ e = c ∧ f = w := by simp [lsm]
theorem lsm_no {f w : Feed} {e c : Int} (h : ¬ (e = c ∧ f = w)) : lsm f e w c = false := by simp [lsm, h]
open Classical in
noncomputable def addOk (f : Feed) (l : List Change) : Bool := decide (addE f l = 0)
theorem addOk_iff {f : Feed} {l : List Change} : addOk f l = true ↔ addE f l = 0 := by simp [addOk]
theorem addOk_no {f : Feed} {l : List Change} (h : addE f l ≠ 0) : addOk f l = false := by simp [addOk, h]
end Go.Sym
