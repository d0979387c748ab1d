/- Lists by rising keys: where a key stands. -/
import Derived.Test.YtfenjmhhggekaaaDoorPaG
set_option linter.all false
set_option linter.unusedVariables false
set_option linter.unusedSimpArgs false
namespace Go.Sym
open Go
section
variable {α : Type} (κ : α → ByteArray)
def sortedK (l : List α) : Prop := l.Pairwise fun x y => slt (κ x) (κ y)
def hasK (p : ByteArray) (x : α) : Bool := decide (κ x = p)
def getK (l : List α) (p : ByteArray) : Bool := l.any (hasK κ p)
open Classical in
noncomputable def posK (l : List α) (p : ByteArray) : Nat := l.findIdx fun x => decide (¬ slt (κ x) p)
noncomputable def posKZ (l : List α) (p : ByteArray) : Int := posK κ l p
def cmpK (x : α) (p : ByteArray) : Int := cmpS (κ x) p
variable {κ}
theorem cmpK_lt {x : α} {p : ByteArray} : cmpK κ x p < 0 ↔ slt (κ x) p := cmpS_lt
theorem cmpK_eq {x : α} {p : ByteArray} : cmpK κ x p = 0 ↔ κ x = p := cmpS_eq
theorem sortedK_lt {l : List α} (hs : sortedK κ l) {i j : Nat} {x y : α} (hij : i < j) (hx : l[i]? = some x) (hy : l[j]? = some y) : slt (κ x) (κ y) := by
  obtain ⟨h1, rfl⟩ := List.getElem?_eq_some_iff.1 hx
  obtain ⟨h2, rfl⟩ := List.getElem?_eq_some_iff.1 hy
  exact List.pairwise_iff_getElem.1 hs i j h1 h2 hij
theorem posKZ_at {d : List α} {p : ByteArray} {k : Int} (h0 : 0 ≤ k) (h1 : k ≤ d.length) (h4 : ∀ (j : Nat) y, j < k → d[j]? = some y → slt (κ y) p) (h5 : ∀ (j : Nat) y, k ≤ j → d[j]? = some y → ¬ slt (κ y) p) : posKZ κ d p = k := by
  obtain ⟨n, rfl⟩ := Int.eq_ofNat_of_zero_le h0
  have : posK κ d p = n := by
    by_cases hn : n < d.length
    · refine (List.findIdx_eq hn).2 ⟨by simpa using h5 n _ (by omega) (by simp [hn]), fun j hj => ?_⟩
      have := h4 j d[j] (by omega) (by simp)
      simpa using this
    · have hn : n = d.length := by omega
      subst hn
      refine List.findIdx_eq_length.2 fun x hx => ?_
      obtain ⟨j, hj, rfl⟩ := List.getElem_of_mem hx
      have := h4 j d[j] (by omega) (by simp [hj])
      simpa using this
  rw [posKZ, this]
theorem getK_at {d : List α} {p : ByteArray} {k : Int} {x : α} (h0 : 0 ≤ k) (hx : d[k.toNat]? = some x) (hs : sortedK κ d) (h4 : ∀ (j : Nat) y, j < k → d[j]? = some y → slt (κ y) p) (h5 : ∀ (j : Nat) y, k ≤ j → d[j]? = some y → ¬ slt (κ y) p) : getK κ d p = true ↔ κ x = p := by
  constructor
  · intro h
    obtain ⟨y, hy, hp⟩ := List.any_eq_true.1 h
    simp only [hasK, decide_eq_true_eq] at hp
    obtain ⟨j, hj, rfl⟩ := List.getElem_of_mem hy
    have hy' : d[j]? = some d[j] := by simp [hj]
    by_cases h1 : (j : Int) < k
    · exact absurd (h4 j _ h1 hy') (by rw [hp]; exact slt_irrefl p)
    · by_cases h2 : j = k.toNat
      · subst h2; rw [hy'] at hx; cases hx; exact hp
      · have := sortedK_lt hs (i := k.toNat) (j := j) (by omega) hx hy'
        rw [hp] at this
        exact absurd this (h5 k.toNat x (by omega) hx)
  · intro h
    exact List.any_eq_true.2 ⟨x, List.mem_of_getElem? hx, by simp [hasK, h]⟩
theorem getK_end {d : List α} {p : ByteArray} {k : Int} (hk : (d.length : Int) ≤ k) (h4 : ∀ (j : Nat) y, j < k → d[j]? = some y → slt (κ y) p) : getK κ d p = false := by
  cases h : getK κ d p with
  | false => rfl
  | true =>
    obtain ⟨y, hy, hp⟩ := List.any_eq_true.1 h
    simp only [hasK, decide_eq_true_eq] at hp
    obtain ⟨j, hj, rfl⟩ := List.getElem_of_mem hy
    have := h4 j d[j] (by omega) (by simp [hj])
    rw [hp] at this
    exact absurd this (slt_irrefl p)
theorem bsK_lo {d : List α} {p : ByteArray} {m : Int} {x : α} (hs : sortedK κ d) (h0 : 0 ≤ m) (hx : d[m.toNat]? = some x) (hc : slt (κ x) p) : ∀ (j : Nat) y, (j : Int) < m + 1 → d[j]? = some y → slt (κ y) p := fun j y hj hy => by
  by_cases e : j = m.toNat
  · subst e; rw [hx] at hy; cases hy; exact hc
  · exact slt_trans (sortedK_lt hs (i := j) (j := m.toNat) (by omega) hy hx) hc
theorem bsK_hi {d : List α} {p : ByteArray} {m : Int} {x : α} (hs : sortedK κ d) (h0 : 0 ≤ m) (hx : d[m.toNat]? = some x) (hc : ¬ slt (κ x) p) : ∀ (j : Nat) y, m ≤ (j : Int) → d[j]? = some y → ¬ slt (κ y) p := fun j y hj hy k => by
  by_cases e : j = m.toNat
  · subst e; rw [hx] at hy; cases hy; exact hc k
  · exact hc (slt_trans (sortedK_lt hs (i := m.toNat) (j := j) (by omega) hx hy) k)
def insK (d : List α) (i : Nat) (x : α) : List α := d.take i ++ x :: d.drop i
def insKZ (d : List α) (i : Int) (x : α) : List α := insK d i.toNat x
theorem map_insKZ {β : Type} (e : α → β) (d : List α) (i : Int) (x : α) : (insKZ d i x).map e = (d.map e).take i.toNat ++ [e x] ++ (d.map e).drop i.toNat := by
  simp [insKZ, insK, List.map_take, List.map_drop]
theorem posK_le (d : List α) (p : ByteArray) : posK κ d p ≤ d.length := List.findIdx_le_length
open Classical in
theorem posK_lo (d : List α) (p : ByteArray) : ∀ (j : Nat) y, j < posK κ d p → d[j]? = some y → slt (κ y) p := fun j y hj hy => by
  have := List.not_of_lt_findIdx (by unfold posK at hj; exact hj)
  obtain ⟨h1, h2⟩ := List.getElem?_eq_some_iff.1 hy
  rw [h2] at this
  simpa using this
open Classical in
theorem posK_hi {d : List α} (hs : sortedK κ d) (p : ByteArray) : ∀ (j : Nat) y, posK κ d p ≤ j → d[j]? = some y → ¬ slt (κ y) p := fun j y hj hy k => by
  have hjl := (List.getElem?_eq_some_iff.1 hy).1
  have hlt : posK κ d p < d.length := by omega
  have h1 : ¬ slt (κ (d[posK κ d p])) p := by
    have h2 : posK κ d p = d.findIdx fun x => decide (¬ slt (κ x) p) := rfl
    have h3 := List.findIdx_getElem (xs := d) (p := fun x => decide (¬ slt (κ x) p)) (w := by rw [← h2]; exact hlt)
    simp only [decide_eq_true_eq] at h3
    exact h3
  by_cases e : j = posK κ d p
  · subst e
    rw [(List.getElem?_eq_some_iff.1 hy).2] at h1
    exact h1 k
  · exact h1 (slt_trans (sortedK_lt hs (i := posK κ d p) (j := j) (by omega) (by simp [hlt]) hy) k)
/-- what stands at a key's place, if it is there -/
theorem posK_there {d : List α} {p : ByteArray} (hs : sortedK κ d) (h : getK κ d p = true) : ∃ x, d[posK κ d p]? = some x ∧ κ x = p := by
  obtain ⟨y, hy, hp⟩ := List.any_eq_true.1 h
  simp only [hasK, decide_eq_true_eq] at hp
  have hlt : posK κ d p < d.length := List.findIdx_lt_length_of_exists ⟨y, hy, by rw [hp]; simpa using slt_irrefl p⟩
  refine ⟨d[posK κ d p], by simp [hlt], ?_⟩
  have hx : d[((posK κ d p : Nat) : Int).toNat]? = some d[posK κ d p] := by simp [hlt]
  exact (getK_at (k := (posK κ d p : Int)) (by omega) hx hs (fun j y hj hy => posK_lo d p j y (by omega) hy) (fun j y hj hy => posK_hi hs p j y (by omega) hy)).1 h
theorem insK_sorted {d : List α} {x : α} (hs : sortedK κ d) (h : getK κ d (κ x) = false) : sortedK κ (insK d (posK κ d (κ x)) x) := by
  have hno : ∀ y ∈ d, κ y ≠ κ x := fun y hy e => by
    have := List.any_eq_false.1 h y hy
    simp [hasK, e] at this
  rw [insK, sortedK, List.pairwise_append]
  refine ⟨hs.sublist (List.take_sublist _ _), List.pairwise_cons.2 ⟨fun y hy => ?_, hs.sublist (List.drop_sublist _ _)⟩, fun a ha b hb => ?_⟩
  · obtain ⟨j, hj, rfl⟩ := List.getElem_of_mem hy
    rw [List.length_drop] at hj
    rw [List.getElem_drop]
    have := posK_hi hs (κ x) (posK κ d (κ x) + j) d[posK κ d (κ x) + j] (by omega) (by simp)
    exact slt_not' this (hno _ (List.getElem_mem _))
  · obtain ⟨j, hj, rfl⟩ := List.getElem_of_mem ha
    rw [List.length_take] at hj
    rw [List.getElem_take]
    have h1 := posK_lo (κ := κ) d (κ x) j d[j] (by omega) (by simp)
    rcases List.mem_cons.1 hb with e | hb
    · subst e; exact h1
    · obtain ⟨i, hi, rfl⟩ := List.getElem_of_mem hb
      rw [List.length_drop] at hi
      rw [List.getElem_drop]
      exact sortedK_lt hs (i := j) (j := posK κ d (κ x) + i) (by omega) (by simp) (by simp)
theorem eraseIdx_sorted {d : List α} (hs : sortedK κ d) (i : Nat) : sortedK κ (d.eraseIdx i) := hs.sublist (List.eraseIdx_sublist ..)
/-- one that stands at its key's place is found there -/
theorem findI_hasK {d : List α} {p : ByteArray} (hs : sortedK κ d) : findI (hasK κ p) d = if getK κ d p = true then (posK κ d p : Int) else -1 := by
  cases h : getK κ d p with
  | false =>
    simp only [Bool.false_eq_true, if_false]
    exact findI_none fun j y hj hy => by
      have := List.any_eq_false.1 h y (List.mem_of_getElem? hy)
      simpa using this
  | true =>
    obtain ⟨x, hx, hp⟩ := posK_there hs h
    simp only [if_true]
    refine findI_at hx (by simp [hasK, hp]) fun j y hj hy => ?_
    have := posK_lo d p j y hj hy
    simp only [hasK, decide_eq_false_iff_not]
    exact slt_ne this
end
end Go.Sym
