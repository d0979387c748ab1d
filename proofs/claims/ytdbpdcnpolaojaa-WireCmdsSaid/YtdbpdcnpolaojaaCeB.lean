/- Cells: their parts by name; the cells of values and documents, and back. -/
import Derived.Test.YtdbpdcnpolaojaaCeA
set_option linter.all false
set_option linter.unusedVariables false
set_option linter.unusedSimpArgs false
namespace Go.Sym
open Go
/-- a cell's parts, its list folded -/
def Cel.en (O : Opq) (c : Cel) : List PV := [.int .i64 c.kind, .int .i64 c.num, .str c.text, .sl false 0 false 4 (O.o Cels.enc c.list)]
theorem Cel.en_eq (O : Opq) (c : Cel) : c.enc = c.en O := by
  obtain ⟨k, n, t, l⟩ := c
  simp only [Cel.enc, Cel.en, O.h]
  rfl
theorem Cels.en_eq (O : Opq) (l : List Cel) : Cels.enc l = l.map (Cel.en O) := by
  rw [Cels.enc_map]; exact List.map_congr_left fun c _ => Cel.en_eq O c
theorem Cels.en_len (O : Opq) (l : List Cel) : (O.o Cels.enc l).length = l.length := by rw [O.h, Cels.enc_len]
/-- an element that is known -/
theorem Ex.cel (O : Opq) {l : List Cel} {k : Nat} {x : Cel} (hx : l[k]? = some x) {i : Int} {K : List PV → Prop} (hi : i = k) (h : K (x.en O)) : Ex (List PV) (fun row => 0 ≤ i ∧ (O.o Cels.enc l)[i.toNat]? = some row) K :=
  .mk (x.en O) ⟨by omega, by rw [O.h, Cels.en_eq O, List.getElem?_map, hi, Int.toNat_natCast, hx]; rfl⟩ h
/-- an element that is not -/
theorem Ex.celm (O : Opq) {l : List Cel} {i : Int} {K : List PV → Prop} (h : 0 ≤ i ∧ i < l.length) (k : ∀ x : Cel, l[i.toNat]? = some x → K (x.en O)) : Ex (List PV) (fun row => 0 ≤ i ∧ (O.o Cels.enc l)[i.toNat]? = some row) K :=
  have h' : i.toNat < l.length := by omega
  .mk (Cel.en O l[i.toNat]) ⟨h.1, by rw [O.h, Cels.en_eq O, List.getElem?_map]; simp [h']⟩ (k _ (by simp [h']))
def numC (n : Int) : Cel := .mk 1 n ByteArray.empty []
def textC (s : ByteArray) : Cel := .mk 2 0 s []
def listC (l : List Cel) : Cel := .mk 3 0 ByteArray.empty l
def noC : Cel := .mk 0 0 ByteArray.empty []
def valC (v : Val) : Cel := if v.kind = 1 then numC v.num else if v.kind = 2 then textC v.text else listC [numC v.re, numC v.im]
def fieldC (f : Field) : Cel := listC [textC f.path, valC f.val]
def docC (d : Doc) : Cel := listC (d.map fieldC)
/-- the cells of a document's first fields -/
def fieldsC (d : Doc) (k : Nat) : List (List PV) := Cels.enc ((d.take k).map fieldC)
theorem fieldsC_len {d : Doc} {k : Nat} (h : k ≤ d.length) : (fieldsC d k).length = k := by rw [fieldsC, Cels.enc_len]; simp; omega
theorem Cels.enc_append (l m : List Cel) : Cels.enc (l ++ m) = Cels.enc l ++ Cels.enc m := by simp [Cels.enc_map]
theorem fieldsC_step {d : Doc} {k : Nat} {f : Field} (h : d[k]? = some f) : fieldsC d (k + 1) = fieldsC d k ++ [(fieldC f).enc] := by
  rw [fieldsC, List.take_add_one, h, List.map_append, Cels.enc_append]; rfl
theorem fieldsC_all {d : Doc} {k : Nat} (h : d.length ≤ k) : fieldsC d k = Cels.enc (docC d).list := by
  rw [fieldsC, List.take_of_length_le h]; rfl
theorem fieldC_enc (O : Opq) (f : Field) : (fieldC f).enc = [.int .i64 3, .int .i64 0, .str ByteArray.empty, .sl false 0 false 4 [(textC f.path).en O, (O.o valC f.val).en O]] := by
  rw [fieldC, listC, Cel.enc, Cels.enc_map]
  simp only [List.map_cons, List.map_nil, Cel.en_eq O, O.h]
theorem fieldsC_more (O : Opq) {d : Doc} {k : Nat} {f : Field} (h : d[k]? = some f) : O.o (fieldsC d) (k + 1) = O.o (fieldsC d) k ++ [[.int .i64 3, .int .i64 0, .str ByteArray.empty, .sl false 0 false 4 [(textC f.path).en O, (O.o valC f.val).en O]]] := by
  rw [← fieldC_enc]
  simp only [O.h]
  exact fieldsC_step h
/-- a document's cell, or none -/
noncomputable def cellR (d : Doc) : Cel := if may d = true then docC d else noC
def noV : Val := ⟨0, 0, ByteArray.empty, 0, 0⟩
/-- the value of a cell that may be -/
def valOf (c : Cel) : Val :=
  if c.kind = 1 then numV c.num else if c.kind = 2 then textV c.text
  else match c.list with
    | [a, b] => if a.kind = 1 ∧ b.kind = 1 then pointV a.num b.num else noV
    | _ => noV
theorem list2 {α : Type} {l : List α} (h : l.length = 2) : ∃ a b, l = [a, b] := by
  match l, h with
  | [a, b], _ => exact ⟨a, b, rfl⟩
/-- is a cell of a field's form? -/
def isFieldC (c : Cel) : Bool := decide (c.kind = 3) && match c.list with
  | [a, _] => decide (a.kind = 2)
  | _ => false
def part0 (c : Cel) : Cel := c.list.headD noC
def part1 (c : Cel) : Cel := (c.list.drop 1).headD noC
def fieldOf (c : Cel) : Field := ⟨(part0 c).text, valOf (part1 c)⟩
noncomputable def docOf (c : Cel) : Option Doc :=
  if celErr c = 0 ∧ c.kind = 3 ∧ c.list.all isFieldC = true ∧ may (c.list.map fieldOf) = true then some (c.list.map fieldOf) else none
/-- the same, loosely read -/
def rvalOf (c : Cel) : Val :=
  match c.list with
  | [a, b] => pointV a.num b.num
  | _ => if c.kind = 2 then textV c.text else numV c.num
def rfieldOf (c : Cel) : Field := ⟨(part0 c).text, rvalOf (part1 c)⟩
def two (c : Cel) : Bool := decide (c.list.length = 2)
noncomputable def ofR (c : Cel) : Doc := (docOf c).getD []
noncomputable def ofE (c : Cel) : Int := if (docOf c).isSome = true then 0 else 5
def ofRows (f : Cel → Field) (l : List Cel) (k : Nat) : List (List PV) := Doc.enc ((l.take k).map f)
theorem ofRows_len {f : Cel → Field} {l : List Cel} {k : Nat} (h : k ≤ l.length) : (ofRows f l k).length = k := by rw [ofRows, Doc.enc_len]; simp; omega
theorem ofRows_more (O : Opq) {f : Cel → Field} {l : List Cel} {k : Nat} {x : Cel} (h : l[k]? = some x) : O.o (ofRows f l) (k + 1) = O.o (ofRows f l) k ++ [(f x).enc] := by
  simp only [O.h]
  rw [ofRows, List.take_add_one, h, List.map_append, ofRows]; simp [Doc.enc]
theorem ofRows_all (O : Opq) {f : Cel → Field} {l : List Cel} {k : Nat} (h : l.length ≤ k) : O.o (ofRows f l) k = O.o Doc.enc (O.o (List.map f) l) := by
  simp only [O.h]; rw [ofRows, List.take_of_length_le h]
theorem of_bad (O : Opq) {c : Cel} (h : ¬ (celErr c = 0 ∧ c.kind = 3 ∧ c.list.all isFieldC = true ∧ may (c.list.map fieldOf) = true)) : O.o ofE c = 5 ∧ O.o Doc.enc (O.o ofR c) = [] := by
  simp only [O.h]
  rw [ofE, ofR, docOf, if_neg h]; exact ⟨rfl, rfl⟩
theorem of_good (O : Opq) {c : Cel} (h : celErr c = 0 ∧ c.kind = 3 ∧ c.list.all isFieldC = true ∧ may (c.list.map fieldOf) = true) : O.o ofE c = 0 ∧ O.o ofR c = c.list.map fieldOf := by
  simp only [O.h]
  rw [ofE, ofR, docOf, if_pos h]; exact ⟨rfl, rfl⟩
theorem allF_step {l : List Cel} {p : Cel → Bool} {k : Nat} {x : Cel} (hx : l[k]? = some x) (h : p x = true) (g : ∀ (j : Nat) y, j < k → l[j]? = some y → p y = true) : ∀ (j : Nat) y, j < k + 1 → l[j]? = some y → p y = true := fun j y hj hy => by
  by_cases e : j = k
  · subst e; rw [hx] at hy; cases hy; exact h
  · exact g j y (by omega) hy
theorem allF_end {l : List Cel} {p : Cel → Bool} {k : Nat} (hk : l.length ≤ k) (g : ∀ (j : Nat) y, j < k → l[j]? = some y → p y = true) : l.all p = true := by
  rw [List.all_eq_true]
  intro x hx
  obtain ⟨j, hj, rfl⟩ := List.getElem_of_mem hx
  exact g j _ (by omega) (by simp)
theorem allF_not {l : List Cel} {p : Cel → Bool} {k : Nat} {x : Cel} (hx : l[k]? = some x) (h : p x = false) : ¬ l.all p = true := by
  rw [List.all_eq_true]
  intro g
  rw [g x (List.mem_of_getElem? hx)] at h; cases h
theorem list2at {l : List Cel} (h : l.length = 2) : ∃ a b, l = [a, b] ∧ l[0]? = some a ∧ l[1]? = some b := by
  match l, h with
  | [a, b], _ => exact ⟨a, b, rfl, rfl, rfl⟩
open Classical in
noncomputable def rdocOf (c : Cel) : Option Doc :=
  if c.list.all two = true ∧ may (c.list.map rfieldOf) = true ∧ docC (c.list.map rfieldOf) = c then some (c.list.map rfieldOf) else none
noncomputable def rofR (c : Cel) : Doc := (rdocOf c).getD []
noncomputable def rofB (c : Cel) : Bool := (rdocOf c).isSome
theorem rof_bad (O : Opq) {c : Cel} (h : ¬ (c.list.all two = true ∧ may (c.list.map rfieldOf) = true ∧ docC (c.list.map rfieldOf) = c)) : O.o rofB c = false ∧ O.o Doc.enc (O.o rofR c) = [] := by
  simp only [O.h]
  rw [rofB, rofR, rdocOf, if_neg h]; exact ⟨rfl, rfl⟩
theorem rof_good (O : Opq) {c : Cel} (h : c.list.all two = true ∧ may (c.list.map rfieldOf) = true ∧ docC (c.list.map rfieldOf) = c) : O.o rofB c = true ∧ O.o rofR c = c.list.map rfieldOf := by
  simp only [O.h]
  rw [rofB, rofR, rdocOf, if_pos h]; exact ⟨rfl, rfl⟩
theorem rfield2 {x a b : Cel} (h : x.list = [a, b]) : rfieldOf x = ⟨a.text, rvalOf b⟩ := by simp only [rfieldOf, part0, part1, h]; rfl
theorem rval_pt {b p q : Cel} (h : b.list = [p, q]) : rvalOf b = pointV p.num q.num := by rw [rvalOf, h]
theorem rval_txt {b : Cel} (h : b.list.length ≠ 2) (hk : b.kind = 2) : rvalOf b = textV b.text := by
  rw [rvalOf]; split
  · rename_i e; rw [e] at h; exact absurd rfl h
  · rw [if_pos hk]
theorem rval_num {b : Cel} (h : b.list.length ≠ 2) (hk : b.kind ≠ 2) : rvalOf b = numV b.num := by
  rw [rvalOf]; split
  · rename_i e; rw [e] at h; exact absurd rfl h
  · rw [if_neg hk]
theorem valC_size (v : Val) : (valC v).size ≤ 3 := by
  unfold valC; split
  · simp [numC, Cel.size, Cels.size]
  · split <;> simp [textC, listC, numC, Cel.size, Cels.size]
theorem fields_size : ∀ d : Doc, Cels.size (d.map fieldC) ≤ 5 * d.length
  | [] => by simp [Cels.size]
  | f :: d => by
    have := fields_size d
    have := valC_size f.val
    rw [List.map_cons, Cels.size, fieldC, listC, Cel.size, Cels.size, Cels.size, Cels.size, List.length_cons, textC, Cel.size, Cels.size]
    omega
/-- deeper than that, or of many cells? -/
def ldeep : Nat → Cel → Bool
  | 0, _ => true
  | n + 1, c => decide (5 < c.list.length) || c.list.any (ldeep n)
def lbnd : Nat → Nat
  | 0 => 0
  | n + 1 => 1 + 5 * lbnd n
theorem Cels.size_le {m : Nat} : ∀ {l : List Cel}, (∀ c ∈ l, c.size ≤ m) → Cels.size l ≤ l.length * m
  | [], _ => by simp [Cels.size]
  | c :: l, h => by
    have h1 := h c (by simp)
    have h2 := Cels.size_le (m := m) (l := l) fun d hd => h d (List.mem_cons_of_mem _ hd)
    rw [Cels.size, List.length_cons, Nat.succ_mul]; omega
theorem Cel.size_list (c : Cel) : c.size = 1 + Cels.size c.list := by obtain ⟨k, n, t, l⟩ := c; rfl
theorem ldeep_size : ∀ {n : Nat} {c : Cel}, ldeep n c = false → c.size ≤ lbnd n
  | 0, c, h => by simp [ldeep] at h
  | n + 1, c, h => by
    simp only [ldeep, Bool.or_eq_false_iff, decide_eq_false_iff_not, List.any_eq_false] at h
    have h1 := Cels.size_le (m := lbnd n) (l := c.list) fun d hd => ldeep_size (by simpa using h.2 d hd)
    have h2 : c.list.length * lbnd n ≤ 5 * lbnd n := Nat.mul_le_mul_right _ (by omega)
    rw [Cel.size_list, lbnd]; omega
theorem deepN_list {n : Nat} {c : Cel} : deepN (n + 1) c = c.list.any (deepN n) := by obtain ⟨k, m, t, l⟩ := c; rfl
theorem deepN_nil {n : Nat} {c : Cel} (h : c.list = []) : deepN (n + 1) c = false := by rw [deepN_list, h]; rfl
theorem deepN_mono : ∀ {n : Nat} {c : Cel}, deepN n c = false → deepN (n + 1) c = false
  | 0, c, h => by simp [deepN] at h
  | n + 1, c, h => by
    rw [deepN_list, List.any_eq_false] at h ⊢
    intro x hx
    have := deepN_mono (n := n) (c := x) (by simpa using h x hx)
    simpa using this
theorem valC_deep (v : Val) : deepN 2 (valC v) = false := by
  unfold valC
  split
  · rfl
  · split
    · rfl
    · rfl
theorem docC_deep (d : Doc) : deepN 4 (docC d) = false := by
  rw [deepN_list, List.any_eq_false]
  intro x hx
  simp only [docC, listC, Cel.list, List.mem_map] at hx
  obtain ⟨f, _, rfl⟩ := hx
  rw [deepN_list, Bool.not_eq_true, List.any_eq_false]
  intro y hy
  simp only [fieldC, listC, Cel.list, List.mem_cons, List.not_mem_nil, or_false] at hy
  rcases hy with rfl | rfl
  · simp [deepN, textC]
  · rw [valC_deep]; decide
theorem docC_deep12 (d : Doc) : deepN 12 (docC d) = false := by
  have h := docC_deep d
  iterate 8 replace h := deepN_mono h
  exact h
theorem pureC_num {n : Int} (h : -9007199254740992 ≤ n ∧ n ≤ 9007199254740992) : pureC (numC n) = true := by simp [numC, pureC, h]
theorem pureC_text {s : ByteArray} : pureC (textC s) = true := by simp [textC, pureC]
theorem pureC_list {l : List Cel} : pureC (listC l) = pureCs l := by simp [listC, pureC]
theorem pureC_val {v : Val} (h : v.Ok) : pureC (valC v) = true := by
  unfold valC
  rcases h with h | h | h
  · rw [if_pos h.1]; exact pureC_num h.2.2.2.2
  · rw [if_neg (by omega), if_neg (by omega), pureC_list]
    simp only [pureCs, pureC_num (n := v.re) (by omega), pureC_num (n := v.im) (by omega), Bool.and_self]
  · rw [if_neg (by omega), if_pos h.1]; exact pureC_text
theorem may_all {d : Doc} (h : may d = true) : ∀ f ∈ d, isPath f.path = true ∧ f.val.Ok := by
  simp only [may, decide_eq_true_eq] at h
  intro f hf
  obtain ⟨i, hi, rfl⟩ := List.getElem_of_mem hf
  obtain ⟨g, hg, h1, h2, _⟩ := h.2 i hi
  rw [List.getElem?_eq_getElem hi] at hg
  cases hg
  exact ⟨h1, h2⟩
theorem may_len {d : Doc} (h : may d = true) : d.length ≤ 16 := by
  simp only [may, decide_eq_true_eq] at h; exact h.1
theorem docC_pure {d : Doc} (h : ∀ f ∈ d, f.val.Ok) : pureC (docC d) = true := by
  rw [docC, pureC_list, pureCs_all, List.all_eq_true]
  intro x hx
  obtain ⟨f, hf, rfl⟩ := List.mem_map.1 hx
  rw [fieldC, pureC_list]
  simp only [pureCs, pureC_text, pureC_val (h f hf), Bool.and_self]
theorem isPath_size {s : ByteArray} (h : isPath s = true) : s.size ≤ 64 := by
  simp only [isPath, Bool.and_eq_true, decide_eq_true_eq] at h; exact h.2
theorem countC_text {s : ByteArray} {x : Int} (h : s.size ≤ 65536) : countC (textC s) x = x - 1 := by
  rw [textC, countC, if_neg (by omega), countCs]
theorem countC_num {n x : Int} : countC (numC n) x = x - 1 := by
  rw [numC, countC, if_neg (by decide), countCs]
theorem countC_val {v : Val} (h : v.Ok) {x : Int} (hx : 3 ≤ x) : x - 3 ≤ countC (valC v) x := by
  unfold valC
  split
  · rw [countC_num]; omega
  · split
    · rw [countC_text (by rcases h with h | h | h <;> omega)]; omega
    · rw [listC, countC, if_neg (by decide), countCs, if_neg (by omega), countC_num, countCs, if_neg (by omega), countC_num, countCs]; omega
theorem countC_field {f : Field} (h : isPath f.path = true) (hv : f.val.Ok) {x : Int} (hx : 5 ≤ x) : x - 5 ≤ countC (fieldC f) x := by
  have h1 := isPath_size h
  have h2 := countC_val hv (x := x - 1 - 1) (by omega)
  rw [fieldC, listC, countC, if_neg (by decide), countCs, if_neg (by omega), countC_text (by omega), countCs, if_neg (by omega), countCs]
  omega
theorem countCs_fields : ∀ {d : Doc}, (∀ f ∈ d, isPath f.path = true ∧ f.val.Ok) → ∀ {x : Int}, 5 * d.length ≤ x → x - 5 * d.length ≤ countCs (d.map fieldC) x
  | [], _, x, h => by simp [countCs]
  | f :: d, hf, x, h => by
    rw [List.map_cons, countCs, if_neg (by simp only [List.length_cons] at h; omega)]
    have h1 := countC_field (hf f (by simp)).1 (hf f (by simp)).2 (x := x) (by simp only [List.length_cons] at h; omega)
    have h2 := countCs_fields (d := d) (fun g hg => hf g (List.mem_cons_of_mem _ hg)) (x := countC (fieldC f) x) (by simp only [List.length_cons] at h; omega)
    simp only [List.length_cons]
    omega
theorem docC_ok {d : Doc} (h : may d = true) : celErr (docC d) = 0 := by
  have ha := may_all h
  have hl := may_len h
  rw [celErr, if_neg (by rw [docC_deep12]; decide), if_neg (by rw [docC_pure fun f hf => (ha f hf).2]; decide), if_neg]
  rw [docC, listC, countC, if_neg (by decide)]
  have := countCs_fields ha (x := 4096 - 1) (by omega)
  omega
theorem celErr_zero {c : Cel} : celErr c = 0 → deepN 12 c = false ∧ pureC c = true := by
  unfold celErr
  intro h
  split at h
  · cases h
  · split at h
    · cases h
    · rename_i h1 h2
      exact ⟨by simpa using h1, by simpa using h2⟩
theorem valOf_valC {v : Val} (h : v.Ok) : valOf (valC v) = v := by
  obtain ⟨k, n, t, a, b⟩ := v
  rcases h with h | h | h
  · obtain ⟨h1, h2, h3, h4, _⟩ := h
    simp only at h1 h2 h3 h4
    subst h1; subst h2; subst h3; subst h4; rfl
  · obtain ⟨h1, h2, h3, _⟩ := h
    simp only at h1 h2 h3
    subst h1; subst h2; subst h3; rfl
  · obtain ⟨h1, h2, h3, h4, _⟩ := h
    simp only at h1 h2 h3 h4
    subst h1; subst h2; subst h3; subst h4; rfl
theorem rvalOf_valC {v : Val} (h : v.Ok) : rvalOf (valC v) = v := by
  obtain ⟨k, n, t, a, b⟩ := v
  rcases h with h | h | h
  · obtain ⟨h1, h2, h3, h4, _⟩ := h
    simp only at h1 h2 h3 h4
    subst h1; subst h2; subst h3; subst h4; rfl
  · obtain ⟨h1, h2, h3, _⟩ := h
    simp only at h1 h2 h3
    subst h1; subst h2; subst h3; rfl
  · obtain ⟨h1, h2, h3, h4, _⟩ := h
    simp only at h1 h2 h3 h4
    subst h1; subst h2; subst h3; subst h4; rfl
theorem docOf_docC {d : Doc} (h : may d = true) : docOf (docC d) = some d := by
  have ha := may_all h
  have e : (docC d).list.map fieldOf = d := by
    simp only [docC, listC, Cel.list, List.map_map]
    conv => rhs; rw [← List.map_id d]
    refine List.map_congr_left fun f hf => ?_
    obtain ⟨p, v⟩ := f
    simp only [Function.comp, fieldOf, fieldC, part0, part1, listC, Cel.list, List.headD_cons, List.drop_one, List.tail_cons, textC, Cel.text, id]
    rw [valOf_valC (ha _ hf).2]
  rw [docOf, e, if_pos]
  refine ⟨docC_ok h, rfl, ?_, h⟩
  rw [List.all_eq_true]
  intro x hx
  simp only [docC, listC, Cel.list, List.mem_map] at hx
  obtain ⟨f, _, rfl⟩ := hx
  rfl
theorem rdocOf_docC {d : Doc} (h : may d = true) : rdocOf (docC d) = some d := by
  have ha := may_all h
  have e : (docC d).list.map rfieldOf = d := by
    simp only [docC, listC, Cel.list, List.map_map]
    conv => rhs; rw [← List.map_id d]
    refine List.map_congr_left fun f hf => ?_
    obtain ⟨p, v⟩ := f
    simp only [Function.comp, rfieldOf, fieldC, part0, part1, listC, Cel.list, List.headD_cons, List.drop_one, List.tail_cons, textC, Cel.text, id]
    rw [rvalOf_valC (ha _ hf).2]
  rw [rdocOf, e, if_pos]
  refine ⟨?_, h, rfl⟩
  rw [List.all_eq_true]
  intro x hx
  simp only [docC, listC, Cel.list, List.mem_map] at hx
  obtain ⟨f, _, rfl⟩ := hx
  rfl
theorem pure_num {c : Cel} (h : pureC c = true) (hk : c.kind = 1) : c = numC c.num := by
  obtain ⟨k, n, t, l⟩ := c
  replace hk : k = 1 := hk
  subst hk
  simp only [pureC, if_true, decide_eq_true_eq] at h
  obtain ⟨_, _, rfl, h4⟩ := h
  rw [List.length_eq_zero_iff.1 h4]; rfl
theorem pure_text {c : Cel} (h : pureC c = true) (hk : c.kind = 2) : c = textC c.text := by
  obtain ⟨k, n, t, l⟩ := c
  replace hk : k = 2 := hk
  subst hk
  simp [pureC] at h
  obtain ⟨rfl, rfl⟩ := h
  rfl
theorem pure_list {c : Cel} (h : pureC c = true) (hk : c.kind = 3) : c = listC c.list ∧ ∀ x ∈ c.list, pureC x = true := by
  obtain ⟨k, n, t, l⟩ := c
  replace hk : k = 3 := hk
  subst hk
  simp [pureC] at h
  obtain ⟨rfl, rfl, h⟩ := h
  rw [pureCs_all, List.all_eq_true] at h
  exact ⟨rfl, h⟩
theorem numV_num (n : Int) : valC (numV n) = numC n := rfl
/-- a cell whose value may be is that value's -/
theorem valC_valOf {c : Cel} (h : pureC c = true) (hv : (valOf c).Ok) : valC (valOf c) = c ∧ rvalOf c = valOf c := by
  by_cases h1 : c.kind = 1
  · have e := pure_num h h1
    rw [e]; exact ⟨rfl, rfl⟩
  · by_cases h2 : c.kind = 2
    · have e := pure_text h h2
      rw [e]; exact ⟨rfl, rfl⟩
    · have hno : ¬ noV.Ok := by simp [Val.Ok, noV]
      rw [valOf, if_neg h1, if_neg h2] at hv
      split at hv
      · rename_i a b hl
        split at hv
        · rename_i hab
          have h3 : c.kind = 3 := by
            obtain ⟨k, n, t, l⟩ := c
            simp only [Cel.kind] at h1 h2 ⊢
            simp only [pureC, if_neg h1, if_neg h2] at h
            split at h
            · assumption
            · cases h
          obtain ⟨e, hp⟩ := pure_list h h3
          rw [hl] at hp e
          have ea := pure_num (hp a (by simp)) hab.1
          have eb := pure_num (hp b (by simp)) hab.2
          rw [e, ea, eb]; exact ⟨rfl, rfl⟩
        · exact absurd hv hno
      · exact absurd hv hno
theorem fieldC_fieldOf {c : Cel} (h : pureC c = true) (hf : isFieldC c = true) (hv : (fieldOf c).val.Ok) : fieldC (fieldOf c) = c ∧ rfieldOf c = fieldOf c ∧ two c = true := by
  simp only [isFieldC, Bool.and_eq_true, decide_eq_true_eq] at hf
  obtain ⟨h3, h2⟩ := hf
  split at h2
  · rename_i a b hl
    obtain ⟨e, hp⟩ := pure_list h h3
    rw [hl] at hp e
    have ea := pure_text (hp a (by simp)) (by simpa using h2)
    rw [fieldOf, part1, hl] at hv
    obtain ⟨eb, er⟩ := valC_valOf (hp b (by simp)) hv
    rw [e]
    refine ⟨?_, ?_, rfl⟩
    · show listC [textC a.text, valC (valOf b)] = _
      rw [eb, ← ea]
    · show Field.mk a.text (rvalOf b) = ⟨a.text, valOf b⟩
      rw [er]
  · cases h2
/-- both read a cell alike -/
theorem docOf_eq (c : Cel) : docOf c = rdocOf c := by
  by_cases h : celErr c = 0 ∧ c.kind = 3 ∧ c.list.all isFieldC = true ∧ may (c.list.map fieldOf) = true
  · obtain ⟨h1, h2, h3, h4⟩ := h
    have hp := (celErr_zero h1).2
    obtain ⟨e, hp⟩ := pure_list hp h2
    have hd : docC (c.list.map fieldOf) = c := by
      have em : (c.list.map fieldOf).map fieldC = c.list := by
        rw [List.map_map]
        conv => rhs; rw [← List.map_id c.list]
        refine List.map_congr_left fun x hx => ?_
        exact (fieldC_fieldOf (hp x hx) (List.all_eq_true.1 h3 x hx) ((may_all h4) _ (List.mem_map_of_mem hx)).2).1
      rw [docC, em, ← e]
    rw [← hd, docOf_docC h4, rdocOf_docC h4]
  · rw [docOf, if_neg h, rdocOf, if_neg]
    intro ⟨h1, h2, h3⟩
    refine h ?_
    have := docOf_docC h2
    rw [h3, docOf] at this
    split at this
    · assumption
    · cases this
theorem rof_of (c : Cel) : rofR c = ofR c ∧ (rofB c = true ↔ ofE c = 0) := by
  rw [rofR, ofR, rofB, ofE, docOf_eq]
  refine ⟨rfl, ?_⟩
  split <;> simp_all
theorem docC_size {d : Doc} (h : may d = true) : (docC d).size ≤ 100 := by
  have := fields_size d
  have := may_len h
  rw [docC, listC, Cel.size]; omega
end Go.Sym
