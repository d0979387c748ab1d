/- Documents: what is set is got, and nothing else turned. -/
import Derived.Test.YtdbpdcnpolaojaaPaE
set_option linter.all false
set_option linter.unusedVariables false
set_option linter.unusedSimpArgs false
namespace Go.Sym
open Go
theorem sorted_pw {d : Doc} : sorted d ↔ d.Pairwise fun x y => slt x.path y.path := by
  rw [List.pairwise_iff_getElem]
  constructor
  · intro h i j hi hj hij
    exact h i j _ _ hij (by simp [hi]) (by simp [hj])
  · intro h i j x y hij hx hy
    obtain ⟨hi, rfl⟩ := List.getElem?_eq_some_iff.1 hx
    obtain ⟨hj, rfl⟩ := List.getElem?_eq_some_iff.1 hy
    exact h i j hi hj hij
theorem may_iff {d : Doc} : may d = true ↔ d.length ≤ 16 ∧ (∀ f ∈ d, isPath f.path = true ∧ f.val.Ok) ∧ sorted d := by
  constructor
  · intro h
    refine ⟨by simp only [may, decide_eq_true_eq] at h; exact h.1, fun f hf => ?_, may_sorted h⟩
    obtain ⟨i, hi, rfl⟩ := List.getElem_of_mem hf
    simp only [may, decide_eq_true_eq] at h
    have := (okAt_iff (k := i) (x := d[i]) (by simp [hi])).1 (h.2 i hi)
    exact ⟨this.1, this.2.1⟩
  · rintro ⟨h1, h2, h3⟩
    refine may_true h1 fun i hi => (okAt_iff (x := d[i]) (by simp [hi])).2 ?_
    have := h2 d[i] (List.getElem_mem hi)
    exact ⟨this.1, this.2, fun h0 => ⟨d[i - 1], by simp, h3 (i - 1) i _ _ (by omega) (by simp) (by simp [hi])⟩⟩
open Classical in
theorem pos_lo (d : Doc) (p : ByteArray) : ∀ (j : Nat) y, j < posI d p → d[j]? = some y → slt y.path p := fun j y hj hy => by
  have := List.not_of_lt_findIdx (p := fun f : Field => decide (¬ slt f.path p)) (xs := d) (i := j) (by unfold posI at hj; exact hj)
  obtain ⟨h1, h2⟩ := List.getElem?_eq_some_iff.1 hy
  rw [h2] at this
  simpa using this
open Classical in
theorem pos_hi {d : Doc} (hs : sorted d) (p : ByteArray) : ∀ (j : Nat) y, posI d p ≤ j → d[j]? = some y → ¬ slt y.path p := fun j y hj hy k => by
  have hlt : posI d p < d.length := Nat.lt_of_le_of_lt hj (List.getElem?_eq_some_iff.1 hy).1
  have h1 : ¬ slt d[posI d p].path p := by
    have := List.findIdx_getElem (p := fun f : Field => decide (¬ slt f.path p)) (xs := d) (w := hlt)
    simp only [decide_eq_true_eq] at this
    exact this
  by_cases e : j = posI d p
  · subst e
    obtain ⟨_, h2⟩ := List.getElem?_eq_some_iff.1 hy
    rw [← h2] at k; exact h1 k
  · exact h1 (slt_trans (hs (posI d p) j d[posI d p] y (by omega) (by simp [hlt]) hy) k)
/-- so what is set stands behind all that is lower, ahead of all that is higher -/
def setL (d : Doc) (m : Nat) (p : ByteArray) (v : Val) : Doc := d.take m ++ ⟨p, v⟩ :: (d.drop m).filter fun f => decide (f.path ≠ p)
theorem rsetD_eq {d : Doc} (hs : sorted d) (p : ByteArray) (v : Val) : rsetD d p v = setL d (posI d p) p v := by
  by_cases hm : posI d p < d.length
  · have := rfold_hi (v := v) hs hm (pos_lo d p) (pos_hi hs p) hm (Nat.le_refl _)
    rw [rsetD, this, List.take_length]; rfl
  · have hm : posI d p = d.length := Nat.le_antisymm (pos_le d p) (by omega)
    have := rfold_lo (v := v) (p := p) (Nat.le_refl d.length) (by have := pos_lo d p; rw [hm] at this; exact this)
    rw [rsetD, this, setL, hm, List.drop_length, List.take_length]; simp
theorem setDoc_eq {d : Doc} (hs : sorted d) (p : ByteArray) (v : Val) : setDoc d p v = setL d (posI d p) p v := by
  have gt : ∀ (j : Nat) y, posI d p < j → d[j]? = some y → y.path ≠ p := fun j y hj hy e => by
    have hlt := (List.getElem?_eq_some_iff.1 hy).1
    have hx : d[posI d p]? = some (d[posI d p]'(by omega)) := by simp
    have h1 := hs (posI d p) j _ y hj hx hy
    rw [e] at h1
    exact pos_hi hs p (posI d p) _ (Nat.le_refl _) hx h1
  have fl : ∀ n, posI d p < n → (d.drop n).filter (fun f => decide (f.path ≠ p)) = d.drop n := fun n hn => by
    rw [List.filter_eq_self]
    intro y hy
    obtain ⟨j, hj, rfl⟩ := List.getElem_of_mem hy
    rw [List.length_drop] at hj
    have := gt (n + j) (d[n + j]'(by omega)) (by omega) (by simp)
    simpa using this
  unfold setDoc
  split
  · rename_i hb
    have hm := pos_lt hb
    have hx : d[posI d p]? = some d[posI d p] := by simp [hm]
    have hp := pos_path hs hb hx
    rw [setL, List.drop_eq_getElem_cons hm, List.filter_cons_of_neg (by simp [hp]), fl _ (by omega), List.set_eq_take_append_cons_drop, if_pos hm]
  · rename_i hb
    rw [setL, insAt]
    congr 2
    symm
    rw [List.filter_eq_self]
    intro y hy
    have : d.any (hasP p) = false := by cases h : d.any (hasP p) with | false => rfl | true => exact absurd h hb
    rw [List.any_eq_false] at this
    have := this y (List.mem_of_mem_drop hy)
    simpa [hasP] using this
theorem setL_lo {d : Doc} {p : ByteArray} : ∀ f ∈ d.take (posI d p), slt f.path p := fun f hf => by
  obtain ⟨j, hj, rfl⟩ := List.getElem_of_mem hf
  rw [List.length_take] at hj
  rw [List.getElem_take]
  exact pos_lo d p j _ (by omega) (by simp)
theorem getB_set {d : Doc} (hs : sorted d) (p : ByteArray) (v : Val) : getB (setDoc d p v) p = true := by
  rw [setDoc_eq hs, getB, setL]; simp [hasP]
theorem getV_set {d : Doc} (hs : sorted d) (p : ByteArray) (v : Val) : getV (setDoc d p v) p = v := by
  rw [setDoc_eq hs, getV, setL, List.find?_append]
  have : (d.take (posI d p)).find? (hasP p) = none := by
    rw [List.find?_eq_none]
    intro f hf h
    simp only [hasP, decide_eq_true_eq] at h
    have := setL_lo f hf
    rw [h] at this
    exact slt_irrefl p this
  rw [this]
  simp [hasP]
theorem setDoc_len {d : Doc} (p : ByteArray) (v : Val) : (setDoc d p v).length = if getB d p = true then d.length else d.length + 1 := by
  unfold setDoc
  split
  · simp
  · have := pos_le d p
    simp [insAt]; omega
theorem may_set {d : Doc} {p : ByteArray} {v : Val} (h : may d = true) (hp : isPath p = true) (hv : v.Ok) (hl : getB d p = true ∨ d.length ≠ 16) : may (setDoc d p v) = true := by
  obtain ⟨h1, h2, h3⟩ := may_iff.1 h
  refine may_iff.2 ⟨?_, ?_, ?_⟩
  · rw [setDoc_len]
    split
    · exact h1
    · rename_i hb
      rcases hl with hl | hl
      · exact absurd hl hb
      · omega
  · rw [setDoc_eq h3, setL]
    intro f hf
    rcases List.mem_append.1 hf with hf | hf
    · exact h2 f (List.mem_of_mem_take hf)
    · rcases List.mem_cons.1 hf with rfl | hf
      · exact ⟨hp, hv⟩
      · exact h2 f (List.mem_of_mem_drop (List.mem_filter.1 hf).1)
  · rw [setDoc_eq h3, setL, sorted_pw]
    rw [sorted_pw] at h3
    have h4 := h3
    rw [← List.take_append_drop (posI d p) d] at h4
    obtain ⟨a1, a2, a3⟩ := List.pairwise_append.1 h4
    refine List.pairwise_append.2 ⟨a1, List.pairwise_cons.2 ⟨fun f hf => ?_, a2.sublist (List.filter_sublist)⟩, fun x hx y hy => ?_⟩
    · obtain ⟨hm, hne⟩ := List.mem_filter.1 hf
      obtain ⟨j, hj, rfl⟩ := List.getElem_of_mem hm
      rw [List.length_drop] at hj
      have hn := pos_hi (sorted_pw.2 h3) p (posI d p + j) (d[posI d p + j]'(by omega)) (by omega) (by simp)
      rw [List.getElem_drop] at hne ⊢
      exact slt_not' hn (by simpa using hne)
    · rcases List.mem_cons.1 hy with rfl | hy
      · exact setL_lo x hx
      · exact a3 x hx y (List.mem_filter.1 hy).1
theorem setR_len (d : Doc) (p : ByteArray) (v : Val) : (setR d p v).length ≤ d.length + 1 := by
  unfold setR
  split
  · rw [setDoc_len]; split <;> omega
  · simp
theorem delF_len (q : Field → Bool) (d : Doc) : (delF q d).length ≤ d.length := List.length_filter_le _ _
theorem dropR_len (d : Doc) (p : ByteArray) : (dropR d p).length ≤ d.length := by
  unfold dropR; split
  · exact delF_len _ _
  · simp
theorem underR_len (d : Doc) (p : ByteArray) : (underR d p).length ≤ d.length := by
  unfold underR; split
  · exact delF_len _ _
  · simp
theorem setR_paths {d : Doc} {p : ByteArray} (hd : ∀ f ∈ d, f.path.size ≤ 9223372036854775807) (hp : p.size ≤ 9223372036854775807) (v : Val) : ∀ f ∈ setR d p v, f.path.size ≤ 9223372036854775807 := by
  intro f hf
  unfold setR at hf
  split at hf
  · unfold setDoc at hf
    split at hf
    · rcases List.mem_or_eq_of_mem_set hf with hf | rfl
      · exact hd f hf
      · exact hp
    · rcases List.mem_append.1 hf with hf | hf
      · exact hd f (List.mem_of_mem_take hf)
      · rcases List.mem_cons.1 hf with rfl | hf
        · exact hp
        · exact hd f (List.mem_of_mem_drop hf)
  · simp at hf
theorem get_there {d : Doc} {p : ByteArray} (h : getB d p = true) : ∃ (k : Nat) (x : Field), getI d p = k ∧ d[k]? = some x ∧ getV d p = x.val := by
  have h0 := getB_iff.1 h
  obtain ⟨k, hk⟩ := Int.eq_ofNat_of_zero_le h0
  obtain ⟨x, hx, _⟩ := findI_lt h0
  exact ⟨k, x, hk, by rw [show findI (hasP p) d = k from hk] at hx; simpa using hx, getV_at h0 hx⟩
theorem get_not {d : Doc} {p : ByteArray} (h : getB d p = false) : getI d p = -1 ∧ getV d p = zeroV := by
  have h1 : ¬ 0 ≤ getI d p := fun k => by rw [getB_iff.2 k] at h; cases h
  refine ⟨?_, getV_none (by omega)⟩
  rw [getI, findI, if_neg (by rw [show d.any (hasP p) = false from h]; decide)]
end Go.Sym
