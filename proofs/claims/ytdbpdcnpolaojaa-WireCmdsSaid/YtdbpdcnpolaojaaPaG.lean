/- A document, its fields set and dropped in any order. -/
import Derived.Test.YtdbpdcnpolaojaaPaF
set_option linter.all false
set_option linter.unusedVariables false
set_option linter.unusedSimpArgs false
namespace Go.Sym
open Go
/-- two fields change places -/
def swapD (m : Doc) (i k : Nat) (x y : Field) : Doc := (m.set i y).set k x
theorem swap_perm {m : Doc} {i k : Nat} {x y : Field} (hx : m[i]? = some x) (hy : m[k]? = some y) : (swapD m i k x y).Perm m := by
  obtain ⟨hi, ex⟩ := List.getElem?_eq_some_iff.1 hx
  obtain ⟨hk, ey⟩ := List.getElem?_eq_some_iff.1 hy
  subst ex ey
  exact List.set_set_perm hi hk
theorem enc_set (m : Doc) (i : Nat) (x : Field) : (Doc.enc m).set i x.enc = Doc.enc (m.set i x) := by
  simp [Doc.enc]
theorem enc_swap (m : Doc) (i k : Nat) (x y : Field) : ((Doc.enc m).set i y.enc).set k x.enc = Doc.enc (swapD m i k x y) := by
  rw [enc_set, enc_set]; rfl
theorem swap_len (m : Doc) (i k : Nat) (x y : Field) : (swapD m i k x y).length = m.length := by
  rw [swapD, List.length_set, List.length_set]
/-- the paths differ -/
def diffP (d : Doc) : Prop := d.Pairwise fun x y => x.path ≠ y.path
theorem diff_of_may {d : Doc} (h : may d = true) : diffP d := by
  have := sorted_pw.1 (may_iff.1 h).2.2
  exact this.imp fun h => slt_ne h
theorem diff_perm {m d : Doc} (h : m.Perm d) (hd : diffP d) : diffP m :=
  (h.pairwise_iff (fun h => Ne.symm h)).2 hd
/-- what is out when so many fields are set -/
noncomputable def outK (m : Doc) (k : Nat) : Doc := (m.take k).foldl (fun o f => setR o f.path f.val) []
theorem outK_zero (m : Doc) : outK m 0 = [] := rfl
theorem outK_succ {m : Doc} {k : Nat} {x : Field} (hx : m[k]? = some x) : outK m (k + 1) = setR (outK m k) x.path x.val := by
  rw [outK, List.take_add_one, hx, List.foldl_append]; rfl
theorem ins_perm (d : Doc) (i : Nat) (f : Field) : (insAt d i f).Perm (d ++ [f]) := by
  rw [insAt]
  have h : (d.take i ++ f :: d.drop i).Perm (f :: (d.take i ++ d.drop i)) := List.perm_middle
  rw [List.take_append_drop] at h
  exact h.trans (List.perm_append_singleton f d).symm
theorem take_mem {m : Doc} {k : Nat} {x : Field} (hd : diffP m) (hx : m[k]? = some x) : ∀ y ∈ m.take k, y.path ≠ x.path := fun y hy => by
  obtain ⟨hk, e⟩ := List.getElem?_eq_some_iff.1 hx
  obtain ⟨j, hj, rfl⟩ := List.getElem_of_mem hy
  rw [List.length_take] at hj
  have h := List.pairwise_iff_getElem.1 hd j k (by omega) hk (by omega)
  rw [e] at h
  simpa using h
theorem getB_not {d : Doc} {p : ByteArray} (h : ∀ y ∈ d, y.path ≠ p) : getB d p = false := by
  rw [getB, List.any_eq_false]
  intro y hy
  simp [hasP, h y hy]
/-- a field more is set -/
theorem out_step {m d : Doc} {k : Nat} {x : Field} (hm : may d = true) (hp : m.Perm d) (hx : m[k]? = some x) (ho : may (outK m k) = true) (hq : (outK m k).Perm (m.take k)) :
    setE (outK m k) x.path x.val = 0 ∧ may (outK m (k + 1)) = true ∧ (outK m (k + 1)).Perm (m.take (k + 1)) := by
  obtain ⟨hk, _⟩ := List.getElem?_eq_some_iff.1 hx
  have hd := diff_perm hp (diff_of_may hm)
  obtain ⟨h1, h2, _⟩ := may_iff.1 hm
  have hxd : x ∈ d := hp.mem_iff.1 (List.mem_of_getElem? hx)
  have hB : getB (outK m k) x.path = false := getB_not fun y hy => take_mem hd hx y (hq.mem_iff.1 hy)
  have hl : (outK m k).length ≠ 16 := by
    have e1 := hq.length_eq
    have e2 := hp.length_eq
    rw [List.length_take] at e1; omega
  have ok := h2 x hxd
  have e := setE_new ⟨ho, ok.1, ok.2⟩ hB hl
  have er : setR (outK m k) x.path x.val = setDoc (outK m k) x.path x.val := by rw [setR, if_pos e]
  refine ⟨e, ?_, ?_⟩
  · rw [outK_succ hx, er]; exact may_set ho ok.1 ok.2 (.inr hl)
  · rw [outK_succ hx, er, setDoc, if_neg (by simp [hB]), List.take_add_one, hx]
    exact (ins_perm _ _ _).trans (hq.append_right _)
/-- two documents in order, of the same fields, are the same -/
theorem sorted_perm {d e : Doc} (h : d.Perm e) (hd : sorted d) (he : sorted e) : d = e := by
  refine h.eq_of_pairwise (le := fun x y => slt x.path y.path) ?_ (sorted_pw.1 hd) (sorted_pw.1 he)
  intro a b _ _ h1 h2
  have h3 := cmpS_lt.2 (slt_trans h1 h2)
  have h4 := cmpS_eq.2 (rfl : a.path = a.path)
  omega
theorem out_all {m d : Doc} (hm : may d = true) (hp : m.Perm d) (ho : may (outK m m.length) = true) (hq : (outK m m.length).Perm (m.take m.length)) : outK m m.length = d := by
  rw [List.take_length] at hq
  exact sorted_perm (hq.trans hp) (may_sorted ho) (may_sorted hm)
/-- what is left when so many fields are dropped -/
noncomputable def leftK (m d : Doc) (k : Nat) : Doc := (m.take k).foldl (fun o f => dropR o f.path) d
theorem leftK_zero (m d : Doc) : leftK m d 0 = d := rfl
theorem leftK_succ {m d : Doc} {k : Nat} {x : Field} (hx : m[k]? = some x) : leftK m d (k + 1) = dropR (leftK m d k) x.path := by
  rw [leftK, List.take_add_one, hx, List.foldl_append]; rfl
theorem may_del {d : Doc} (q : Field → Bool) (h : may d = true) : may (delF q d) = true := by
  obtain ⟨h1, h2, h3⟩ := may_iff.1 h
  refine may_iff.2 ⟨Nat.le_trans (delF_len q d) h1, fun f hf => h2 f (List.mem_filter.1 hf).1, ?_⟩
  exact sorted_pw.2 ((sorted_pw.1 h3).sublist List.filter_sublist)
theorem left_step {m d : Doc} {k : Nat} {x : Field} (hd : diffP m) (hx : m[k]? = some x) (ho : may (leftK m d k) = true) (hq : (leftK m d k).Perm (m.drop k)) :
    may (leftK m d (k + 1)) = true ∧ (leftK m d (k + 1)).Perm (m.drop (k + 1)) := by
  obtain ⟨hk, e⟩ := List.getElem?_eq_some_iff.1 hx
  rw [leftK_succ hx, dropR_ok ho]
  refine ⟨may_del _ ho, ?_⟩
  have h1 : (delF (hasP x.path) (leftK m d k)).Perm (delF (hasP x.path) (m.drop k)) := hq.filter _
  have h2 : delF (hasP x.path) (m.drop k) = m.drop (k + 1) := by
    rw [List.drop_eq_getElem_cons hk, e, delF, List.filter_cons_of_neg (by simp [hasP]), List.filter_eq_self]
    intro y hy
    obtain ⟨j, hj, rfl⟩ := List.getElem_of_mem hy
    rw [List.length_drop] at hj
    have h := List.pairwise_iff_getElem.1 hd k (k + 1 + j) hk (by omega) (by omega)
    rw [e] at h
    simp only [List.getElem_drop, hasP, Bool.not_eq_true', decide_eq_false_iff_not]
    exact fun h2 => h h2.symm
  rw [h2] at h1
  exact h1
end Go.Sym
