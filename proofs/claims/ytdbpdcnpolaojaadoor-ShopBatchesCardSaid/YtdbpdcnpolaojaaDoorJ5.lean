/- Lists by rising keys: where a key stands. -/
import Derived.Test.YtdbpdcnpolaojaaDoorJ4
import Derived.Lib.Strings
set_option linter.all false
set_option linter.unusedVariables false
set_option linter.unusedSimpArgs false
namespace Go.Sym
open Go
section
variable {α : Type} (κ : α → ByteArray)
def sortedK (l : List α) : Prop := l.Pairwise fun x y => slt (κ x) (κ y)
def hasK (p : ByteArray) (x : α) : Bool := decide (κ x = p)
def getK (l : List α) (p : ByteArray) : Bool := l.any (hasK κ p)
open Classical in
noncomputable def posK (l : List α) (p : ByteArray) : Nat := l.findIdx fun x => decide (¬ slt (κ x) p)
noncomputable def posKZ (l : List α) (p : ByteArray) : Int := posK κ l p
def cmpK (x : α) (p : ByteArray) : Int := cmpS (κ x) p
variable {κ}
theorem cmpK_lt {x : α} {p : ByteArray} : cmpK κ x p < 0 ↔ slt (κ x) p := cmpS_lt
theorem cmpK_eq {x : α} {p : ByteArray} : cmpK κ x p = 0 ↔ κ x = p := cmpS_eq
theorem sortedK_lt {l : List α} (hs : sortedK κ l) {i j : Nat} {x y : α} (hij : i < j) (hx : l[i]? = some x) (hy : l[j]? = some y) : slt (κ x) (κ y) := by
  obtain ⟨h1, rfl⟩ := List.getElem?_eq_some_iff.1 hx
  obtain ⟨h2, rfl⟩ := List.getElem?_eq_some_iff.1 hy
  exact List.pairwise_iff_getElem.1 hs i j h1 h2 hij
theorem posKZ_at {d : List α} {p : ByteArray} {k : Int} (h0 : 0 ≤ k) (h1 : k ≤ d.length) (h4 : ∀ (j : Nat) y, j < k → d[j]? = some y → slt (κ y) p) (h5 : ∀ (j : Nat) y, k ≤ j → d[j]? = some y → ¬ slt (κ y) p) : posKZ κ d p = k := by
  obtain ⟨n, rfl⟩ := Int.eq_ofNat_of_zero_le h0
  have : posK κ d p = n := by
    by_cases hn : n < d.length
    · refine (List.findIdx_eq hn).2 ⟨by simpa using h5 n _ (by omega) (by simp [hn]), fun j hj => ?_⟩
      have := h4 j d[j] (by omega) (by simp)
      simpa using this
    · have hn : n = d.length := by omega
      subst hn
      refine List.findIdx_eq_length.2 fun x hx => ?_
      obtain ⟨j, hj, rfl⟩ := List.getElem_of_mem hx
      have := h4 j d[j] (by omega) (by simp [hj])
      simpa using this
  rw [posKZ, this]
theorem getK_at {d : List α} {p : ByteArray} {k : Int} {x : α} (h0 : 0 ≤ k) (hx : d[k.toNat]? = some x) (hs : sortedK κ d) (h4 : ∀ (j : Nat) y, j < k → d[j]? = some y → slt (κ y) p) (h5 : ∀ (j : Nat) y, k ≤ j → d[j]? = some y → ¬ slt (κ y) p) : getK κ d p = true ↔ κ x = p := by
  constructor
  · intro h
    obtain ⟨y, hy, hp⟩ := List.any_eq_true.1 h
    simp only [hasK, decide_eq_true_eq] at hp
    obtain ⟨j, hj, rfl⟩ := List.getElem_of_mem hy
    have hy' : d[j]? = some d[j] := by simp [hj]
    by_cases h1 : (j : Int) < k
    · exact absurd (h4 j _ h1 hy') (by rw [hp]; exact slt_irrefl p)
    · by_cases h2 : j = k.toNat
      · subst h2; rw [hy'] at hx; cases hx; exact hp
      · have := sortedK_lt hs (i := k.toNat) (j := j) (by omega) hx hy'
        rw [hp] at this
        exact absurd this (h5 k.toNat x (by omega) hx)
  · intro h
    exact List.any_eq_true.2 ⟨x, List.mem_of_getElem? hx, by simp [hasK, h]⟩
theorem getK_end {d : List α} {p : ByteArray} {k : Int} (hk : (d.length : Int) ≤ k) (h4 : ∀ (j : Nat) y, j < k → d[j]? = some y → slt (κ y) p) : getK κ d p = false := by
  cases h : getK κ d p with
  | false => rfl
  | true =>
    obtain ⟨y, hy, hp⟩ := List.any_eq_true.1 h
    simp only [hasK, decide_eq_true_eq] at hp
    obtain ⟨j, hj, rfl⟩ := List.getElem_of_mem hy
    have := h4 j d[j] (by omega) (by simp [hj])
    rw [hp] at this
    exact absurd this (slt_irrefl p)
theorem bsK_lo {d : List α} {p : ByteArray} {m : Int} {x : α} (hs : sortedK κ d) (h0 : 0 ≤ m) (hx : d[m.toNat]? = some x) (hc : slt (κ x) p) : ∀ (j : Nat) y, (j : Int) < m + 1 → d[j]? = some y → slt (κ y) p := fun j y hj hy => by
  by_cases e : j = m.toNat
  · subst e; rw [hx] at hy; cases hy; exact hc
  · exact slt_trans (sortedK_lt hs (i := j) (j := m.toNat) (by omega) hy hx) hc
theorem bsK_hi {d : List α} {p : ByteArray} {m : Int} {x : α} (hs : sortedK κ d) (h0 : 0 ≤ m) (hx : d[m.toNat]? = some x) (hc : ¬ slt (κ x) p) : ∀ (j : Nat) y, m ≤ (j : Int) → d[j]? = some y → ¬ slt (κ y) p := fun j y hj hy k => by
  by_cases e : j = m.toNat
  · subst e; rw [hx] at hy; cases hy; exact hc k
  · exact hc (slt_trans (sortedK_lt hs (i := m.toNat) (j := j) (by omega) hx hy) k)
def insK (d : List α) (i : Nat) (x : α) : List α := d.take i ++ x :: d.drop i
def insKZ (d : List α) (i : Int) (x : α) : List α := insK d i.toNat x
theorem map_insKZ {β : Type} (e : α → β) (d : List α) (i : Int) (x : α) : (insKZ d i x).map e = (d.map e).take i.toNat ++ [e x] ++ (d.map e).drop i.toNat := by
  simp [insKZ, insK, List.map_take, List.map_drop]
theorem posK_le (d : List α) (p : ByteArray) : posK κ d p ≤ d.length := List.findIdx_le_length
open Classical in
theorem posK_lo (d : List α) (p : ByteArray) : ∀ (j : Nat) y, j < posK κ d p → d[j]? = some y → slt (κ y) p := fun j y hj hy => by
  have := List.not_of_lt_findIdx (by unfold posK at hj; exact hj)
  obtain ⟨h1, h2⟩ := List.getElem?_eq_some_iff.1 hy
  rw [h2] at this
  simpa using this
open Classical in
theorem posK_hi {d : List α} (hs : sortedK κ d) (p : ByteArray) : ∀ (j : Nat) y, posK κ d p ≤ j → d[j]? = some y → ¬ slt (κ y) p := fun j y hj hy k => by
  have hjl := (List.getElem?_eq_some_iff.1 hy).1
  have hlt : posK κ d p < d.length := by omega
  have h1 : ¬ slt (κ (d[posK κ d p])) p := by
    have h2 : posK κ d p = d.findIdx fun x => decide (¬ slt (κ x) p) := rfl
    have h3 := List.findIdx_getElem (xs := d) (p := fun x => decide (¬ slt (κ x) p)) (w := by rw [← h2]; exact hlt)
    simp only [decide_eq_true_eq] at h3
    exact h3
  by_cases e : j = posK κ d p
  · subst e
    rw [(List.getElem?_eq_some_iff.1 hy).2] at h1
    exact h1 k
  · exact h1 (slt_trans (sortedK_lt hs (i := posK κ d p) (j := j) (by omega) (by simp [hlt]) hy) k)
theorem posK_there {d : List α} {p : ByteArray} (hs : sortedK κ d) (h : getK κ d p = true) : ∃ x, d[posK κ d p]? = some x ∧ κ x = p := by
  obtain ⟨y, hy, hp⟩ := List.any_eq_true.1 h
  simp only [hasK, decide_eq_true_eq] at hp
  have hlt : posK κ d p < d.length := List.findIdx_lt_length_of_exists ⟨y, hy, by rw [hp]; simpa using slt_irrefl p⟩
  refine ⟨d[posK κ d p], by simp [hlt], ?_⟩
  have hx : d[((posK κ d p : Nat) : Int).toNat]? = some d[posK κ d p] := by simp [hlt]
  exact (getK_at (k := (posK κ d p : Int)) (by omega) hx hs (fun j y hj hy => posK_lo d p j y (by omega) hy) (fun j y hj hy => posK_hi hs p j y (by omega) hy)).1 h
theorem insK_sorted {d : List α} {x : α} (hs : sortedK κ d) (h : getK κ d (κ x) = false) : sortedK κ (insK d (posK κ d (κ x)) x) := by
  have hno : ∀ y ∈ d, κ y ≠ κ x := fun y hy e => by
    have := List.any_eq_false.1 h y hy
    simp [hasK, e] at this
  rw [insK, sortedK, List.pairwise_append]
  refine ⟨hs.sublist (List.take_sublist _ _), List.pairwise_cons.2 ⟨fun y hy => ?_, hs.sublist (List.drop_sublist _ _)⟩, fun a ha b hb => ?_⟩
  · obtain ⟨j, hj, rfl⟩ := List.getElem_of_mem hy
    rw [List.length_drop] at hj
    rw [List.getElem_drop]
    have := posK_hi hs (κ x) (posK κ d (κ x) + j) d[posK κ d (κ x) + j] (by omega) (by simp)
    exact slt_not' this (hno _ (List.getElem_mem _))
  · obtain ⟨j, hj, rfl⟩ := List.getElem_of_mem ha
    rw [List.length_take] at hj
    rw [List.getElem_take]
    have h1 := posK_lo (κ := κ) d (κ x) j d[j] (by omega) (by simp)
    rcases List.mem_cons.1 hb with e | hb
    · subst e; exact h1
    · obtain ⟨i, hi, rfl⟩ := List.getElem_of_mem hb
      rw [List.length_drop] at hi
      rw [List.getElem_drop]
      exact sortedK_lt hs (i := j) (j := posK κ d (κ x) + i) (by omega) (by simp) (by simp)
theorem eraseIdx_sorted {d : List α} (hs : sortedK κ d) (i : Nat) : sortedK κ (d.eraseIdx i) := hs.sublist (List.eraseIdx_sublist ..)
end
end Go.Sym
namespace Go.Sym
open Go
structure Change where
  pos : Int
  key : ByteArray
  has : Bool
  doc : Doc
structure Sub where
  name : ByteArray
  pos : Int
structure Feed where
  base : Int
  total : Int
  changes : List Change
  subs : List Sub
def Change.enc (O : Opq) (c : Change) : List PV := [.int .i64 c.pos, .str c.key, .bool c.has, .sl false 0 false 6 (O.o Doc.enc c.doc)]
def Chs.enc (O : Opq) (l : List Change) : List (List PV) := l.map (Change.enc O)
def Sub.enc (s : Sub) : List PV := [.str s.name, .int .i64 s.pos]
def Subs.enc : List Sub → List (List PV) := List.map Sub.enc
def Feed.encB (O : Opq) (b1 b2 : Bool) (f : Feed) : List PV := [.int .i64 f.base, .int .i64 f.total, .sl b1 0 false 4 (O.o (Chs.enc O) f.changes), .sl b2 0 false 2 (O.o Subs.enc f.subs)]
def Feed.enc (O : Opq) (f : Feed) : List PV := [.int .i64 f.base, .int .i64 f.total, .sl false 0 false 4 (O.o (Chs.enc O) f.changes), .sl false 0 false 2 (O.o Subs.enc f.subs)]
theorem Chs.enc_len (O : Opq) (l : List Change) : (Chs.enc O l).length = l.length := by simp [Chs.enc]
theorem Subs.enc_len (l : List Sub) : (Subs.enc l).length = l.length := by simp [Subs.enc]
theorem Chs.len (O : Opq) (l : List Change) : (O.o (Chs.enc O) l).length = l.length := by rw [O.h, Chs.enc_len]
theorem Subs.len (O : Opq) (l : List Sub) : (O.o Subs.enc l).length = l.length := by rw [O.h, Subs.enc_len]
end Go.Sym
namespace Go.Sym
open Go
inductive Cel where
  | mk (kind num : Int) (text : ByteArray) (list : List Cel)
def Cel.kind : Cel → Int | .mk k _ _ _ => k
def Cel.num : Cel → Int | .mk _ n _ _ => n
def Cel.text : Cel → ByteArray | .mk _ _ t _ => t
def Cel.list : Cel → List Cel | .mk _ _ _ l => l
mutual
def Cel.enc : Cel → List PV
  | .mk k n t l => [.int .i64 k, .int .i64 n, .str t, .sl false 0 false 4 (Cels.enc l)]
def Cels.enc : List Cel → List (List PV)
  | [] => []
  | c :: l => c.enc :: Cels.enc l
end
theorem Cels.enc_map : ∀ l : List Cel, Cels.enc l = l.map Cel.enc
  | [] => by simp [Cels.enc]
  | c :: l => by rw [Cels.enc, Cels.enc_map l]; rfl
theorem Cels.enc_len (l : List Cel) : (Cels.enc l).length = l.length := by rw [Cels.enc_map]; simp
mutual
def Cel.size : Cel → Nat
  | .mk _ _ _ l => 1 + Cels.size l
def Cels.size : List Cel → Nat
  | [] => 0
  | c :: l => c.size + Cels.size l
end
theorem Cels.size_mem : ∀ {l : List Cel} {c : Cel}, c ∈ l → c.size ≤ Cels.size l
  | d :: l, c, h => by
    rw [Cels.size]
    rcases List.mem_cons.1 h with rfl | h
    · omega
    · have := Cels.size_mem h; omega
def deepN : Nat → Cel → Bool
  | 0, _ => true
  | n + 1, .mk _ _ _ l => l.any (deepN n)
open Classical in
mutual
noncomputable def pureC : Cel → Bool
  | .mk k n t l => if k = 1 then decide (-9007199254740992 ≤ n ∧ n ≤ 9007199254740992 ∧ t = ByteArray.empty ∧ l.length = 0) else if k = 2 then decide (n = 0 ∧ l.length = 0) else if k = 3 then decide (n = 0 ∧ t = ByteArray.empty ∧ pureCs l = true) else false
noncomputable def pureCs : List Cel → Bool
  | [] => true
  | c :: l => pureC c && pureCs l
end
theorem pureCs_all : ∀ l : List Cel, pureCs l = l.all pureC
  | [] => by simp [pureCs]
  | c :: l => by rw [pureCs, pureCs_all l]; rfl
noncomputable def notPure (c : Cel) : Bool := !pureC c
theorem pureCs_find {l : List Cel} : pureCs l = true ↔ findI notPure l = -1 := by
  rw [pureCs_all]
  constructor
  · intro h
    exact findI_none fun j y hj hy => by simp [notPure, List.all_eq_true.1 h y (List.mem_of_getElem? hy)]
  · intro h
    have hn : ¬ 0 ≤ findI notPure l := by rw [h]; decide
    rw [findI_ge] at hn
    rw [List.all_eq_true]
    intro x hx
    cases hp : pureC x with
    | true => rfl
    | false => exact absurd (List.any_eq_true.2 ⟨x, hx, by simp [notPure, hp]⟩) hn
mutual
def countC : Cel → Int → Int
  | .mk _ _ t l, x => if 65536 < t.size then -1 else countCs l (x - 1)
def countCs : List Cel → Int → Int
  | [], x => x
  | c :: l, x => if x < 0 then -1 else countCs l (countC c x)
end
mutual
theorem countC_le : ∀ (c : Cel) (x : Int), 0 ≤ x → -1 ≤ countC c x ∧ countC c x ≤ x
  | .mk k n t l, x, h => by
    rw [countC]
    split
    · omega
    · have := countCs_le l (x - 1) (by omega); omega
theorem countCs_le : ∀ (l : List Cel) (x : Int), -1 ≤ x → -1 ≤ countCs l x ∧ (countCs l x ≤ x ∨ countCs l x = -1)
  | [], x, h => by rw [countCs]; omega
  | c :: l, x, h => by
    rw [countCs]
    split
    · omega
    · have h1 := countC_le c x (by omega)
      have h2 := countCs_le l (countC c x) h1.1
      omega
end
theorem Cels.len_size : ∀ l : List Cel, l.length ≤ Cels.size l
  | [] => by simp [Cels.size]
  | .mk k n t m :: l => by
    rw [Cels.size, Cel.size, List.length_cons]
    have := Cels.len_size l
    omega
theorem Cel.len_size (c : Cel) : c.list.length ≤ c.size := by
  obtain ⟨k, n, t, l⟩ := c
  rw [Cel.size]
  have := Cels.len_size l
  show l.length ≤ _
  omega
noncomputable def celErr (c : Cel) : Int := if deepN 12 c = true then 13 else if pureC c = false then 1 else if countC c 4096 < 0 then 3 else 0
end Go.Sym
namespace Go.Sym
open Go
def Cel.en (O : Opq) (c : Cel) : List PV := [.int .i64 c.kind, .int .i64 c.num, .str c.text, .sl false 0 false 4 (O.o Cels.enc c.list)]
theorem Cel.en_eq (O : Opq) (c : Cel) : c.enc = c.en O := by
  obtain ⟨k, n, t, l⟩ := c
  simp only [Cel.enc, Cel.en, O.h]
  rfl
theorem Cels.en_eq (O : Opq) (l : List Cel) : Cels.enc l = l.map (Cel.en O) := by
  rw [Cels.enc_map]; exact List.map_congr_left fun c _ => Cel.en_eq O c
theorem Cels.en_len (O : Opq) (l : List Cel) : (O.o Cels.enc l).length = l.length := by rw [O.h, Cels.enc_len]
theorem Ex.cel (O : Opq) {l : List Cel} {k : Nat} {x : Cel} (hx : l[k]? = some x) {i : Int} {K : List PV → Prop} (hi : i = k) (h : K (x.en O)) : Ex (List PV) (fun row => 0 ≤ i ∧ (O.o Cels.enc l)[i.toNat]? = some row) K :=
  .mk (x.en O) ⟨by omega, by rw [O.h, Cels.en_eq O, List.getElem?_map, hi, Int.toNat_natCast, hx]; rfl⟩ h
def numC (n : Int) : Cel := .mk 1 n ByteArray.empty []
def textC (s : ByteArray) : Cel := .mk 2 0 s []
def listC (l : List Cel) : Cel := .mk 3 0 ByteArray.empty l
def noC : Cel := .mk 0 0 ByteArray.empty []
def valC (v : Val) : Cel := if v.kind = 1 then numC v.num else if v.kind = 2 then textC v.text else listC [numC v.re, numC v.im]
def fieldC (f : Field) : Cel := listC [textC f.path, valC f.val]
def docC (d : Doc) : Cel := listC (d.map fieldC)
def fieldsC (d : Doc) (k : Nat) : List (List PV) := Cels.enc ((d.take k).map fieldC)
theorem fieldsC_len {d : Doc} {k : Nat} (h : k ≤ d.length) : (fieldsC d k).length = k := by rw [fieldsC, Cels.enc_len]; simp; omega
theorem Cels.enc_append (l m : List Cel) : Cels.enc (l ++ m) = Cels.enc l ++ Cels.enc m := by simp [Cels.enc_map]
theorem fieldsC_step {d : Doc} {k : Nat} {f : Field} (h : d[k]? = some f) : fieldsC d (k + 1) = fieldsC d k ++ [(fieldC f).enc] := by
  rw [fieldsC, List.take_add_one, h, List.map_append, Cels.enc_append]; rfl
theorem fieldsC_all {d : Doc} {k : Nat} (h : d.length ≤ k) : fieldsC d k = Cels.enc (docC d).list := by
  rw [fieldsC, List.take_of_length_le h]; rfl
theorem fieldC_enc (O : Opq) (f : Field) : (fieldC f).enc = [.int .i64 3, .int .i64 0, .str ByteArray.empty, .sl false 0 false 4 [(textC f.path).en O, (O.o valC f.val).en O]] := by
  rw [fieldC, listC, Cel.enc, Cels.enc_map]
  simp only [List.map_cons, List.map_nil, Cel.en_eq O, O.h]
theorem fieldsC_more (O : Opq) {d : Doc} {k : Nat} {f : Field} (h : d[k]? = some f) : O.o (fieldsC d) (k + 1) = O.o (fieldsC d) k ++ [[.int .i64 3, .int .i64 0, .str ByteArray.empty, .sl false 0 false 4 [(textC f.path).en O, (O.o valC f.val).en O]]] := by
  rw [← fieldC_enc]
  simp only [O.h]
  exact fieldsC_step h
noncomputable def cellR (d : Doc) : Cel := if may d = true then docC d else noC
theorem valC_size (v : Val) : (valC v).size ≤ 3 := by
  unfold valC; split
  · simp [numC, Cel.size, Cels.size]
  · split <;> simp [textC, listC, numC, Cel.size, Cels.size]
theorem fields_size : ∀ d : Doc, Cels.size (d.map fieldC) ≤ 5 * d.length
  | [] => by simp [Cels.size]
  | f :: d => by
    have := fields_size d
    have := valC_size f.val
    rw [List.map_cons, Cels.size, fieldC, listC, Cel.size, Cels.size, Cels.size, Cels.size, List.length_cons, textC, Cel.size, Cels.size]
    omega
theorem Cel.size_list (c : Cel) : c.size = 1 + Cels.size c.list := by obtain ⟨k, n, t, l⟩ := c; rfl
theorem deepN_list {n : Nat} {c : Cel} : deepN (n + 1) c = c.list.any (deepN n) := by obtain ⟨k, m, t, l⟩ := c; rfl
theorem deepN_mono : ∀ {n : Nat} {c : Cel}, deepN n c = false → deepN (n + 1) c = false
  | 0, c, h => by simp [deepN] at h
  | n + 1, c, h => by
    rw [deepN_list, List.any_eq_false] at h ⊢
    intro x hx
    have := deepN_mono (n := n) (c := x) (by simpa using h x hx)
    simpa using this
theorem valC_deep (v : Val) : deepN 2 (valC v) = false := by
  unfold valC
  split
  · rfl
  · split
    · rfl
    · rfl
theorem docC_deep (d : Doc) : deepN 4 (docC d) = false := by
  rw [deepN_list, List.any_eq_false]
  intro x hx
  simp only [docC, listC, Cel.list, List.mem_map] at hx
  obtain ⟨f, _, rfl⟩ := hx
  rw [deepN_list, Bool.not_eq_true, List.any_eq_false]
  intro y hy
  simp only [fieldC, listC, Cel.list, List.mem_cons, List.not_mem_nil, or_false] at hy
  rcases hy with rfl | rfl
  · simp [deepN, textC]
  · rw [valC_deep]; decide
theorem docC_deep12 (d : Doc) : deepN 12 (docC d) = false := by
  have h := docC_deep d
  iterate 8 replace h := deepN_mono h
  exact h
theorem pureC_num {n : Int} (h : -9007199254740992 ≤ n ∧ n ≤ 9007199254740992) : pureC (numC n) = true := by simp [numC, pureC, h]
theorem pureC_text {s : ByteArray} : pureC (textC s) = true := by simp [textC, pureC]
theorem pureC_list {l : List Cel} : pureC (listC l) = pureCs l := by simp [listC, pureC]
theorem pureC_val {v : Val} (h : v.Ok) : pureC (valC v) = true := by
  unfold valC
  rcases h with h | h | h
  · rw [if_pos h.1]; exact pureC_num h.2.2.2.2
  · rw [if_neg (by omega), if_neg (by omega), pureC_list]
    simp only [pureCs, pureC_num (n := v.re) (by omega), pureC_num (n := v.im) (by omega), Bool.and_self]
  · rw [if_neg (by omega), if_pos h.1]; exact pureC_text
theorem may_all {d : Doc} (h : may d = true) : ∀ f ∈ d, isPath f.path = true ∧ f.val.Ok := by
  simp only [may, decide_eq_true_eq] at h
  intro f hf
  obtain ⟨i, hi, rfl⟩ := List.getElem_of_mem hf
  obtain ⟨g, hg, h1, h2, _⟩ := h.2 i hi
  rw [List.getElem?_eq_getElem hi] at hg
  cases hg
  exact ⟨h1, h2⟩
theorem may_len {d : Doc} (h : may d = true) : d.length ≤ 16 := by
  simp only [may, decide_eq_true_eq] at h; exact h.1
theorem docC_pure {d : Doc} (h : ∀ f ∈ d, f.val.Ok) : pureC (docC d) = true := by
  rw [docC, pureC_list, pureCs_all, List.all_eq_true]
  intro x hx
  obtain ⟨f, hf, rfl⟩ := List.mem_map.1 hx
  rw [fieldC, pureC_list]
  simp only [pureCs, pureC_text, pureC_val (h f hf), Bool.and_self]
theorem isPath_size {s : ByteArray} (h : isPath s = true) : s.size ≤ 64 := by
  simp only [isPath, Bool.and_eq_true, decide_eq_true_eq] at h; exact h.2
theorem countC_text {s : ByteArray} {x : Int} (h : s.size ≤ 65536) : countC (textC s) x = x - 1 := by
  rw [textC, countC, if_neg (by omega), countCs]
theorem countC_num {n x : Int} : countC (numC n) x = x - 1 := by
  rw [numC, countC, if_neg (by decide), countCs]
theorem countC_val {v : Val} (h : v.Ok) {x : Int} (hx : 3 ≤ x) : x - 3 ≤ countC (valC v) x := by
  unfold valC
  split
  · rw [countC_num]; omega
  · split
    · rw [countC_text (by rcases h with h | h | h <;> omega)]; omega
    · rw [listC, countC, if_neg (by decide), countCs, if_neg (by omega), countC_num, countCs, if_neg (by omega), countC_num, countCs]; omega
theorem countC_field {f : Field} (h : isPath f.path = true) (hv : f.val.Ok) {x : Int} (hx : 5 ≤ x) : x - 5 ≤ countC (fieldC f) x := by
  have h1 := isPath_size h
  have h2 := countC_val hv (x := x - 1 - 1) (by omega)
  rw [fieldC, listC, countC, if_neg (by decide), countCs, if_neg (by omega), countC_text (by omega), countCs, if_neg (by omega), countCs]
  omega
theorem countCs_fields : ∀ {d : Doc}, (∀ f ∈ d, isPath f.path = true ∧ f.val.Ok) → ∀ {x : Int}, 5 * d.length ≤ x → x - 5 * d.length ≤ countCs (d.map fieldC) x
  | [], _, x, h => by simp [countCs]
  | f :: d, hf, x, h => by
    rw [List.map_cons, countCs, if_neg (by simp only [List.length_cons] at h; omega)]
    have h1 := countC_field (hf f (by simp)).1 (hf f (by simp)).2 (x := x) (by simp only [List.length_cons] at h; omega)
    have h2 := countCs_fields (d := d) (fun g hg => hf g (List.mem_cons_of_mem _ hg)) (x := countC (fieldC f) x) (by simp only [List.length_cons] at h; omega)
    simp only [List.length_cons]
    omega
theorem docC_ok {d : Doc} (h : may d = true) : celErr (docC d) = 0 := by
  have ha := may_all h
  have hl := may_len h
  rw [celErr, if_neg (by rw [docC_deep12]; decide), if_neg (by rw [docC_pure fun f hf => (ha f hf).2]; decide), if_neg]
  rw [docC, listC, countC, if_neg (by decide)]
  have := countCs_fields ha (x := 4096 - 1) (by omega)
  omega
theorem celErr_zero {c : Cel} : celErr c = 0 → deepN 12 c = false ∧ pureC c = true := by
  unfold celErr
  intro h
  split at h
  · cases h
  · split at h
    · cases h
    · rename_i h1 h2
      exact ⟨by simpa using h1, by simpa using h2⟩
theorem pure_num {c : Cel} (h : pureC c = true) (hk : c.kind = 1) : c = numC c.num := by
  obtain ⟨k, n, t, l⟩ := c
  replace hk : k = 1 := hk
  subst hk
  simp only [pureC, if_true, decide_eq_true_eq] at h
  obtain ⟨_, _, rfl, h4⟩ := h
  rw [List.length_eq_zero_iff.1 h4]; rfl
theorem pure_text {c : Cel} (h : pureC c = true) (hk : c.kind = 2) : c = textC c.text := by
  obtain ⟨k, n, t, l⟩ := c
  replace hk : k = 2 := hk
  subst hk
  simp [pureC] at h
  obtain ⟨rfl, rfl⟩ := h
  rfl
theorem pure_list {c : Cel} (h : pureC c = true) (hk : c.kind = 3) : c = listC c.list ∧ ∀ x ∈ c.list, pureC x = true := by
  obtain ⟨k, n, t, l⟩ := c
  replace hk : k = 3 := hk
  subst hk
  simp [pureC] at h
  obtain ⟨rfl, rfl, h⟩ := h
  rw [pureCs_all, List.all_eq_true] at h
  exact ⟨rfl, h⟩
theorem docC_size {d : Doc} (h : may d = true) : (docC d).size ≤ 100 := by
  have := fields_size d
  have := may_len h
  rw [docC, listC, Cel.size]; omega
end Go.Sym
