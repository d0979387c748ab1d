/- Documents: what is dropped, what is kept below a path. -/
import Derived.Test.YtdbpdcnpolaojaaPaD
import Derived.Test.YtdbpdcnpolaojaaPaS
import Derived.Lib.Strings
set_option linter.all false
set_option linter.unusedVariables false
set_option linter.unusedSimpArgs false
namespace Go.Sym
open Go
/-- what is left, if what `q` tells is dropped -/
def delF (q : Field → Bool) (d : Doc) : Doc := d.filter fun f => !q f
def keptN (q : Field → Bool) (d : Doc) (j : Nat) : Nat := (delF q (d.take j)).length
def keptI (q : Field → Bool) (d : Doc) (j : Nat) : Int := keptN q d j
def delRows (q : Field → Bool) (d : Doc) (j : Nat) : List (List PV) := Doc.enc (delF q (d.take j)) ++ (Doc.enc d).drop (keptN q d j)
theorem keptN_le (q : Field → Bool) (d : Doc) (j : Nat) : keptN q d j ≤ min j d.length := by
  have := List.length_filter_le (fun f => !q f) (d.take j)
  rw [List.length_take] at this
  exact this
theorem delRows_len (q : Field → Bool) (d : Doc) (j : Nat) : (delRows q d j).length = d.length := by
  have := keptN_le q d j
  rw [delRows, List.length_append, List.length_drop, Doc.enc_len, Doc.enc_len, ← keptN]; omega
theorem delRows_at {q : Field → Bool} {d : Doc} {j k : Nat} {x : Field} (hk : keptN q d j ≤ k) (hx : d[k]? = some x) : (delRows q d j)[k]? = some x.enc := by
  rw [delRows, List.getElem?_append_right (by rw [Doc.enc_len]; exact hk), Doc.enc_len, List.getElem?_drop, ← keptN, Nat.add_sub_cancel' hk, Doc.enc, List.getElem?_map, hx]; rfl
theorem kept_succ {q : Field → Bool} {d : Doc} {j : Nat} {x : Field} (hx : d[j]? = some x) : delF q (d.take (j + 1)) = delF q (d.take j) ++ if q x = true then [] else [x] := by
  rw [List.take_add_one, hx, delF, List.filter_append]
  cases h : q x <;> simp [delF, h]
theorem keptN_drop {q : Field → Bool} {d : Doc} {j : Nat} {x : Field} (hx : d[j]? = some x) (hq : q x = true) : keptN q d (j + 1) = keptN q d j := by
  rw [keptN, kept_succ hx, if_pos hq, List.append_nil]; rfl
theorem keptN_keep {q : Field → Bool} {d : Doc} {j : Nat} {x : Field} (hx : d[j]? = some x) (hq : q x = false) : keptN q d (j + 1) = keptN q d j + 1 := by
  rw [keptN, kept_succ hx, if_neg (by simp [hq]), List.length_append]; rfl
theorem delRows_drop {q : Field → Bool} {d : Doc} {j : Nat} {x : Field} (hx : d[j]? = some x) (hq : q x = true) : delRows q d (j + 1) = delRows q d j := by
  rw [delRows, keptN_drop hx hq, kept_succ hx, if_pos hq, List.append_nil]; rfl
theorem delRows_keep {q : Field → Bool} {d : Doc} {j : Nat} {x : Field} (hx : d[j]? = some x) (hq : q x = false) : delRows q d (j + 1) = (delRows q d j).set (keptN q d j) x.enc := by
  have hlt : j < d.length := (List.getElem?_eq_some_iff.1 hx).1
  have hk := keptN_le q d j
  have hl : (Doc.enc (delF q (d.take j))).length = keptN q d j := by rw [Doc.enc_len]; rfl
  rw [delRows, keptN_keep hx hq, kept_succ hx, if_neg (by simp [hq]), delRows, List.set_append_right _ _ (by omega), hl, Nat.sub_self]
  have hd : (Doc.enc d).drop (keptN q d j) = (Doc.enc d)[keptN q d j]'(by rw [Doc.enc_len]; omega) :: (Doc.enc d).drop (keptN q d j + 1) := List.drop_eq_getElem_cons (by rw [Doc.enc_len]; omega)
  rw [hd, List.set_cons_zero]
  simp [Doc.enc]
theorem keptN_first {q : Field → Bool} {d : Doc} {k : Nat} {x : Field} (hx : d[k]? = some x) (hq : q x = true) (hn : ∀ (j : Nat) y, j < k → d[j]? = some y → q y = false) : keptN q d (k + 1) = k ∧ delRows q d (k + 1) = Doc.enc d := by
  have hlt : k < d.length := (List.getElem?_eq_some_iff.1 hx).1
  have hf : delF q (d.take k) = d.take k := by
    rw [delF, List.filter_eq_self]
    intro y hy
    obtain ⟨j, hj, rfl⟩ := List.getElem_of_mem hy
    rw [List.length_take] at hj
    have := hn j (d.take k)[j] (by omega) (by simp)
    simpa using this
  have hk : keptN q d k = k := by rw [keptN, hf, List.length_take]; omega
  refine ⟨by rw [keptN_drop hx hq, hk], ?_⟩
  rw [delRows_drop hx hq, delRows, hf, hk]
  simp only [Doc.enc]
  rw [← List.map_drop, ← List.map_append, List.take_append_drop]
theorem delRows_end (q : Field → Bool) (d : Doc) : ∀ {rows : List (List PV)}, rows.take (keptN q d d.length) = (delRows q d d.length).take (keptN q d d.length) → rows.take (keptN q d d.length) = Doc.enc (delF q d) := by
  intro rows h
  rw [h, delRows, List.take_left' (by rw [Doc.enc_len]; rfl), List.take_length]
theorem delF_none {q : Field → Bool} {d : Doc} (h : findI q d = -1) : delF q d = d := by
  have : ¬ (0 ≤ findI q d) := by omega
  rw [findI_ge] at this
  rw [delF, List.filter_eq_self]
  intro x hx
  cases hq : q x with
  | false => rfl
  | true => exact absurd (List.any_eq_true.2 ⟨x, hx, hq⟩) this
theorem findI_first {q : Field → Bool} {d : Doc} (h : findI q d ≠ -1) : ∃ (k : Nat) (x : Field), findI q d = k ∧ d[k]? = some x ∧ q x = true ∧ ∀ (j : Nat) y, j < k → d[j]? = some y → q y = false := by
  have ha : d.any q = true := by
    cases hh : d.any q with
    | true => rfl
    | false => exact absurd (by rw [findI, hh]; rfl) h
  have hlt : d.findIdx q < d.length := List.findIdx_lt_length_of_exists (by simpa using ha)
  refine ⟨d.findIdx q, d[d.findIdx q], by rw [findI, if_pos ha], by simp [hlt], List.findIdx_getElem, fun j y hj hy => ?_⟩
  have := List.not_of_lt_findIdx hj
  obtain ⟨_, e⟩ := List.getElem?_eq_some_iff.1 hy
  rw [e] at this
  simpa using this
noncomputable def dropR (d : Doc) (p : ByteArray) : Doc := if may d = true then delF (hasP p) d else []
theorem dropR_ok {d : Doc} {p : ByteArray} (h : may d = true) : dropR d p = delF (hasP p) d := by rw [dropR, if_pos h]
theorem dropR_bad {d : Doc} {p : ByteArray} (h : ¬ may d = true) : dropR d p = [] := by rw [dropR, if_neg h]
open Classical in
/-- does a text begin with another -/
noncomputable def hasPre (s p : ByteArray) : Bool := decide (p.size ≤ s.size ∧ s.extract 0 p.size = p)
/-- is it the path, or below it -/
noncomputable def isUnder (p : ByteArray) (f : Field) : Bool := decide (f.path = p) || hasPre f.path (p ++ dot)
theorem size_toL (s : ByteArray) : s.size = s.data.toList.length := (size_list s).symm
theorem hasPre_dot {s p : ByteArray} : hasPre s (p ++ dot) = true ↔ p.size < s.size ∧ s.extract 0 p.size = p ∧ byteAt s p.size = 46 := by
  have hd : dot.size = 1 := rfl
  simp only [hasPre, decide_eq_true_eq, ByteArray.size_append, hd]
  constructor
  · rintro ⟨h1, h2⟩
    have h3 := congrArg (fun t : ByteArray => t.data.toList) h2
    simp only [toL_extract, ByteArray.data_append, Array.toList_append, List.drop_zero] at h3
    have hlt : p.size < s.data.toList.length := by rw [size_list]; omega
    rw [List.take_add_one, List.getElem?_eq_getElem hlt] at h3
    have h4 := List.append_inj h3 (by rw [List.length_take, size_list, size_list]; omega)
    refine ⟨by omega, eq_of_toL (by rw [toL_extract, List.drop_zero]; exact h4.1), ?_⟩
    have h5 : s.data.toList[p.size] = 46 := by simpa [dot] using h4.2
    simp only [byteAt, Int.toNat_natCast, List.getD_eq_getElem?_getD, List.getElem?_eq_getElem hlt, Option.getD_some, h5]
    rfl
  · rintro ⟨h1, h2, h3⟩
    refine ⟨by omega, eq_of_toL ?_⟩
    have hlt : p.size < s.data.toList.length := by rw [size_list]; omega
    have h4 := congrArg (fun t : ByteArray => t.data.toList) h2
    simp only [toL_extract, List.drop_zero] at h4
    simp only [byteAt, Int.toNat_natCast, List.getD_eq_getElem?_getD, List.getElem?_eq_getElem hlt, Option.getD_some] at h3
    have h6 : s.data.toList[p.size].toNat = 46 := by omega
    have h5 : s.data.toList[p.size] = 46 := UInt8.toNat_inj.1 h6
    rw [toL_extract, List.drop_zero, List.take_add_one, List.getElem?_eq_getElem hlt, h4, h5, ByteArray.data_append, Array.toList_append]
    rfl
noncomputable def notUnder (p : ByteArray) (f : Field) : Bool := !isUnder p f
noncomputable def underR (d : Doc) (p : ByteArray) : Doc := if may d = true then delF (notUnder p) d else []
theorem underR_ok {d : Doc} {p : ByteArray} (h : may d = true) : underR d p = delF (notUnder p) d := by rw [underR, if_pos h]
theorem underR_bad {d : Doc} {p : ByteArray} (h : ¬ may d = true) : underR d p = [] := by rw [underR, if_neg h]
def noneB (d : Doc) (e want : Int) : Bool := decide (e = want ∧ d.length = 0)
/-- what is kept of so many fields -/
def keepD (q : Field → Bool) (d : Doc) (k : Nat) : Doc := (d.take k).filter q
def keepR (q : Field → Bool) (d : Doc) (k : Nat) : List (List PV) := Doc.enc (keepD q d k)
theorem keepR_zero (q : Field → Bool) (d : Doc) : keepR q d 0 = [] := rfl
theorem keepD_succ {q : Field → Bool} {d : Doc} {k : Nat} {x : Field} (hx : d[k]? = some x) : keepD q d (k + 1) = keepD q d k ++ if q x = true then [x] else [] := by
  rw [keepD, List.take_add_one, hx, List.filter_append]
  cases h : q x <;> simp [keepD, h]
theorem keepR_yes {q : Field → Bool} {d : Doc} {k : Nat} {x : Field} (hx : d[k]? = some x) (hq : q x = true) : keepR q d (k + 1) = keepR q d k ++ [x.enc] := by
  rw [keepR, keepD_succ hx, if_pos hq]; simp [keepR, Doc.enc]
theorem keepR_no {q : Field → Bool} {d : Doc} {k : Nat} {x : Field} (hx : d[k]? = some x) (hq : q x = false) : keepR q d (k + 1) = keepR q d k := by
  rw [keepR, keepD_succ hx, if_neg (by simp [hq])]; simp [keepR]
theorem keepR_all {q : Field → Bool} {d : Doc} {k : Nat} (h : d.length ≤ k) : keepR q d k = Doc.enc (d.filter q) := by
  rw [keepR, keepD, List.take_of_length_le h]
theorem keepR_len (q : Field → Bool) (d : Doc) (k : Nat) : (keepR q d k).length ≤ k := by
  rw [keepR, Doc.enc_len, keepD]
  have := List.length_filter_le q (d.take k)
  rw [List.length_take] at this; omega
def notP (p : ByteArray) (f : Field) : Bool := !hasP p f
theorem delF_notP (p : ByteArray) (d : Doc) : delF (hasP p) d = d.filter (notP p) := rfl
theorem delF_under (p : ByteArray) (d : Doc) : delF (notUnder p) d = d.filter (isUnder p) := by
  rw [delF]; congr 1; funext f; simp [notUnder]
theorem isUnder_iff {p : ByteArray} {f : Field} : isUnder p f = true ↔ f.path = p ∨ (p.size < f.path.size ∧ f.path.extract 0 p.size = p ∧ byteAt f.path p.size = 46) := by
  rw [isUnder, Bool.or_eq_true, hasPre_dot, decide_eq_true_eq]
theorem isUnder_not {p : ByteArray} {f : Field} : isUnder p f = false ↔ ¬ (f.path = p ∨ (p.size < f.path.size ∧ f.path.extract 0 p.size = p ∧ byteAt f.path p.size = 46)) := by
  rw [← isUnder_iff]; simp
/-! a field set, by the document: what is out so far, and was it put -/
open Classical in
noncomputable def rput (p : ByteArray) (v : Val) (x : Doc × Bool) (f : Field) : Doc × Bool := if x.2 = false ∧ ¬ slt f.path p then (x.1 ++ [⟨p, v⟩], true) else x
noncomputable def rstep (p : ByteArray) (v : Val) (x : Doc × Bool) (f : Field) : Doc × Bool := if f.path = p then rput p v x f else ((rput p v x f).1 ++ [f], (rput p v x f).2)
theorem rput_yes {p : ByteArray} {v : Val} {x : Doc × Bool} {f : Field} (h : x.2 = false) (h2 : ¬ slt f.path p) : rput p v x f = (x.1 ++ [⟨p, v⟩], true) := by rw [rput, if_pos ⟨h, h2⟩]
theorem rput_no {p : ByteArray} {v : Val} {x : Doc × Bool} {f : Field} (h : x.2 = true ∨ slt f.path p) : rput p v x f = x := by
  rw [rput, if_neg]; rintro ⟨h1, h2⟩; rcases h with h | h
  · rw [h1] at h; cases h
  · exact h2 h
theorem rstep_eq {p : ByteArray} {v : Val} {x : Doc × Bool} {f : Field} (h : f.path = p) : rstep p v x f = rput p v x f := by rw [rstep, if_pos h]
theorem rstep_ne {p : ByteArray} {v : Val} {x : Doc × Bool} {f : Field} (h : ¬ f.path = p) : rstep p v x f = ((rput p v x f).1 ++ [f], (rput p v x f).2) := by rw [rstep, if_neg h]
noncomputable def rfold (p : ByteArray) (v : Val) (d : Doc) (k : Nat) : Doc × Bool := (d.take k).foldl (rstep p v) ([], false)
noncomputable def rsetD (d : Doc) (p : ByteArray) (v : Val) : Doc := if (rfold p v d d.length).2 = true then (rfold p v d d.length).1 else (rfold p v d d.length).1 ++ [⟨p, v⟩]
theorem rfold_succ {p : ByteArray} {v : Val} {d : Doc} {k : Nat} {x : Field} (hx : d[k]? = some x) : rfold p v d (k + 1) = rstep p v (rfold p v d k) x := by
  rw [rfold, List.take_add_one, hx, List.foldl_append]; rfl
theorem rfold_len (p : ByteArray) (v : Val) (d : Doc) : ∀ k, (rfold p v d k).1.length ≤ 2 * k
  | 0 => by simp [rfold]
  | k + 1 => by
    have ih := rfold_len p v d k
    by_cases hk : k < d.length
    · have hx : d[k]? = some d[k] := by simp [hk]
      have hr : (rput p v (rfold p v d k) d[k]).1.length ≤ 2 * k + 1 := by
        rw [rput]; split
        · simp; omega
        · omega
      rw [rfold_succ hx, rstep]
      split
      · omega
      · simp; omega
    · have : rfold p v d (k + 1) = rfold p v d k := by rw [rfold, rfold, List.take_of_length_le (by omega), List.take_of_length_le (by omega)]
      rw [this]; omega
noncomputable def rRows (p : ByteArray) (v : Val) (d : Doc) (k : Nat) : List (List PV) := Doc.enc (rfold p v d k).1
noncomputable def rPut (p : ByteArray) (v : Val) (d : Doc) (k : Nat) : Bool := (rfold p v d k).2
/-- in a document by rising path it is what is set -/
theorem rfold_lo {p : ByteArray} {v : Val} {d : Doc} : ∀ {k : Nat}, k ≤ d.length → (∀ (j : Nat) y, j < k → d[j]? = some y → slt y.path p) → rfold p v d k = (d.take k, false)
  | 0, _, _ => by simp [rfold]
  | k + 1, hk, h => by
    have hx : d[k]? = some d[k] := by simp
    have hs := h k _ (by omega) hx
    have hne : d[k].path ≠ p := slt_ne hs
    rw [rfold_succ hx, rfold_lo (by omega) fun j y hj => h j y (by omega), rstep_ne hne, rput_no (.inr hs), List.take_add_one, hx]; rfl
theorem rfold_hi {p : ByteArray} {v : Val} {d : Doc} {m : Nat} (hs : sorted d) (hm : m < d.length) (hlo : ∀ (j : Nat) y, j < m → d[j]? = some y → slt y.path p) (hge : ∀ (j : Nat) y, m ≤ j → d[j]? = some y → ¬ slt y.path p) :
    ∀ {k : Nat}, m < k → k ≤ d.length → rfold p v d k = (d.take m ++ ⟨p, v⟩ :: ((d.take k).drop m).filter (fun f => decide (f.path ≠ p)), true) := by
  intro k
  induction k with
  | zero => intro h; omega
  | succ k ih =>
    intro hmk hk
    have hx : d[k]? = some d[k] := by simp
    by_cases e : m = k
    · subst e
      rw [rfold_succ hx, rfold_lo (by omega) hlo]
      have hn := hge m _ (Nat.le_refl _) hx
      have hd : (d.take (m + 1)).drop m = [d[m]] := by
        rw [List.take_add_one, hx, List.drop_append_of_le_length (by simp; omega), List.drop_of_length_le (by simp; omega)]; rfl
      rw [hd]
      by_cases hp : d[m].path = p
      · rw [rstep_eq hp, rput_yes rfl hn]; simp [hp]
      · rw [rstep_ne hp, rput_yes rfl hn]; simp [hp]
    · rw [rfold_succ hx, ih (by omega) (by omega)]
      have hd : (d.take (k + 1)).drop m = (d.take k).drop m ++ [d[k]] := by
        rw [List.take_add_one, hx, List.drop_append_of_le_length (by simp; omega)]; rfl
      rw [hd, List.filter_append]
      by_cases hp : d[k].path = p
      · rw [rstep_eq hp, rput_no (.inl rfl)]; simp [hp]
      · rw [rstep_ne hp, rput_no (.inl rfl)]; simp [hp]
end Go.Sym
