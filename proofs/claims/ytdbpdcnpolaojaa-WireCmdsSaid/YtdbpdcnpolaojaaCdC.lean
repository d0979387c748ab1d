/- Cells by the document: depth, number, bytes. -/
import Derived.Test.YtdbpdcnpolaojaaCdB
set_option linter.all false
set_option linter.unusedVariables false
set_option linter.unusedSimpArgs false
namespace Go.Sym
open Go
def depthR : Nat → Cel → Int
  | 0, _ => 1
  | n + 1, c => c.list.foldl (fun a x => max a (depthR n x)) 0 + 1
theorem foldl_max {α : Type} (f : α → Int) : ∀ (l : List α) (a : Int) (m : Int), m < l.foldl (fun a x => max a (f x)) a ↔ m < a ∨ ∃ x ∈ l, m < f x
  | [], a, m => by simp
  | y :: l, a, m => by
    rw [List.foldl_cons, foldl_max f l]
    simp only [List.mem_cons, exists_eq_or_imp]
    rw [show m < max a (f y) ↔ m < a ∨ m < f y by omega, or_assoc]
theorem depthR_deep : ∀ (n : Nat) (c : Cel), (n : Int) < depthR (n + 1) c ↔ deepN n c = true
  | 0, c => by
    simp only [depthR, deepN, iff_true]
    have h : (-1 : Int) < c.list.foldl (fun a x => max a (depthR 0 x)) 0 := (foldl_max _ _ _ _).2 (.inl (by omega))
    simp only [depthR] at h
    omega
  | n + 1, c => by
    rw [depthR, deepN_list, List.any_eq_true]
    have h := foldl_max (depthR (n + 1)) c.list 0 n
    constructor
    · intro k
      rcases h.1 (by omega) with k | ⟨x, hx, k⟩
      · omega
      · exact ⟨x, hx, (depthR_deep n x).1 k⟩
    · rintro ⟨x, hx, k⟩
      have := h.2 (.inr ⟨x, hx, (depthR_deep n x).2 k⟩)
      omega
theorem depthR_low (n : Nat) (c : Cel) : 1 ≤ depthR n c := by
  cases n with
  | zero => simp [depthR]
  | succ n =>
    rw [depthR]
    have h : (-1 : Int) < c.list.foldl (fun a x => max a (depthR n x)) 0 := (foldl_max _ _ _ _).2 (.inl (by omega))
    omega
theorem depthR_high : ∀ (n : Nat) (c : Cel), depthR n c ≤ n + 1
  | 0, c => by simp [depthR]
  | n + 1, c => by
    rw [depthR]
    have h : ¬ ((n : Int) + 1 < c.list.foldl (fun a x => max a (depthR n x)) 0) := fun h => by
      rcases (foldl_max _ _ _ _).1 h with h | ⟨x, _, h⟩
      · omega
      · have := depthR_high n x; omega
    omega
/-- the depth of a list's first cells -/
def depI (n : Nat) (l : List Cel) (i : Nat) : Int := (l.take i).foldl (fun a x => max a (depthR n x)) 0
theorem depI_zero (n : Nat) (l : List Cel) : depI n l 0 = 0 := rfl
theorem depI_more {n : Nat} {l : List Cel} {i : Nat} {x : Cel} (h : l[i]? = some x) : depI n l (i + 1) = max (depI n l i) (depthR n x) := by
  rw [depI, List.take_add_one, h, List.foldl_append]; rfl
theorem depI_all {n : Nat} {c : Cel} {i : Nat} (h : c.list.length ≤ i) : depI n c.list i + 1 = depthR (n + 1) c := by
  rw [depI, List.take_of_length_le h, depthR]
theorem depI_low (n : Nat) (l : List Cel) (i : Nat) : 0 ≤ depI n l i := by
  have h : (-1 : Int) < depI n l i := (foldl_max _ _ _ _).2 (.inl (by omega))
  omega
theorem depI_high (n : Nat) (l : List Cel) (i : Nat) : depI n l i ≤ n + 1 := by
  have h : ¬ ((n : Int) + 1 < depI n l i) := fun h => by
    rcases (foldl_max _ _ _ _).1 h with h | ⟨x, _, h⟩
    · omega
    · have := depthR_high n x; omega
  omega
mutual
/-- how many cells, from so many on -/
def manyC : Cel → Int → Int
  | .mk _ _ t l, x => if 65536 < t.size then 5000 else manyCs l (x + 1)
def manyCs : List Cel → Int → Int
  | [], x => x
  | c :: l, x => if 4096 < x then x else manyCs l (manyC c x)
end
theorem countCs_neg : ∀ (l : List Cel) {y : Int}, y < 0 → countCs l y < 0
  | [], y, h => by rw [countCs]; exact h
  | c :: l, y, h => by rw [countCs, if_pos h]; decide
theorem manyCs_past (l : List Cel) {x : Int} (h : 4096 < x) : manyCs l x = x := by
  cases l with
  | nil => rw [manyCs]
  | cons c l => rw [manyCs, if_pos h]
mutual
theorem manyC_count : ∀ (c : Cel) (x : Int), x ≤ 4096 → (0 ≤ countC c (4096 - x) → manyC c x = 4096 - countC c (4096 - x)) ∧ (countC c (4096 - x) < 0 → 4096 < manyC c x)
  | .mk k n t l, x, hx => by
    rw [countC, manyC]
    split
    · omega
    · have := manyCs_count l (x + 1)
      rw [show (4096 - x - 1 : Int) = 4096 - (x + 1) by omega]; exact this
theorem manyCs_count : ∀ (l : List Cel) (x : Int), (0 ≤ countCs l (4096 - x) → manyCs l x = 4096 - countCs l (4096 - x)) ∧ (countCs l (4096 - x) < 0 → 4096 < manyCs l x)
  | [], x => by rw [countCs, manyCs]; omega
  | c :: l, x => by
    rw [countCs, manyCs]
    by_cases h : 4096 < x
    · rw [if_pos h, if_pos (by omega)]; omega
    · rw [if_neg h, if_neg (by omega)]
      have h1 := manyC_count c x (by omega)
      by_cases h2 : 0 ≤ countC c (4096 - x)
      · have h3 := h1.1 h2
        have h4 := manyCs_count l (manyC c x)
        rw [h3] at h4 ⊢
        rwa [show (4096 - (4096 - countC c (4096 - x)) : Int) = countC c (4096 - x) by omega] at h4
      · have h3 := h1.2 (by omega)
        have h4 := countCs_neg l (y := countC c (4096 - x)) (by omega)
        rw [manyCs_past l h3]; omega
end
theorem manyC_zero (c : Cel) : 4096 < manyC c 0 ↔ countC c 4096 < 0 := by
  have h := manyC_count c 0 (by omega)
  rw [show (4096 - 0 : Int) = 4096 by rfl] at h
  have := countC_le c 4096 (by omega)
  constructor
  · intro k
    by_cases h2 : 0 ≤ countC c 4096
    · have := h.1 h2; omega
    · omega
  · exact h.2
mutual
theorem manyC_le : ∀ (c : Cel) (x : Int), 0 ≤ x → x ≤ 4096 → 0 ≤ manyC c x ∧ manyC c x ≤ 5000
  | .mk k n t l, x, h0, h => by
    rw [manyC]; split
    · omega
    · exact manyCs_le l (x + 1) (by omega) (by omega)
theorem manyCs_le : ∀ (l : List Cel) (x : Int), 0 ≤ x → x ≤ 5000 → 0 ≤ manyCs l x ∧ manyCs l x ≤ 5000
  | [], x, h0, h => by rw [manyCs]; omega
  | c :: l, x, h0, h => by
    rw [manyCs]; split
    · omega
    · have := manyC_le c x h0 (by omega)
      exact manyCs_le l _ this.1 this.2
end
theorem celErr_ref (c : Cel) : celErr c = if 12 < depthR 13 c then 13 else if pureC c = false then 1 else if 4096 < manyC c 0 then 3 else 0 := by
  have h1 := depthR_deep 12 c
  have h2 := manyC_zero c
  rw [celErr]
  simp only [show ((12 : Nat) : Int) = 12 by rfl, Nat.reduceAdd] at h1
  simp only [h1, h2]
mutual
theorem putC_le : ∀ c : Cel, pureC c = true → shortC c = true → c.size ≤ 4096 → (putC c).length ≤ 65547 * c.size
  | .mk k n t l, hp, ht, hs => by
    rw [Cel.size] at hs ⊢
    have hk := pureC_kind hp
    rw [putC, List.length_cons]
    rcases hk with rfl | rfl | rfl
    · rw [if_pos rfl]
      simp only [pureC, if_true, decide_eq_true_eq] at hp
      have := numB_len (n := zig n) (k := 8) (by rw [zig]; split <;> omega)
      omega
    · rw [if_neg (by decide), if_pos rfl]
      simp only [shortC, Bool.and_eq_true, decide_eq_true_eq] at ht
      have := numB_len (n := t.size) (k := 8) (by omega)
      rw [List.length_append, size_list]; omega
    · rw [if_neg (by decide), if_neg (by decide)]
      simp only [shortC, Bool.and_eq_true, decide_eq_true_eq] at ht
      have hl := Cels.len_size l
      have := numB_len (n := l.length) (k := 8) (by omega)
      have hpl : pureCs l = true := by simp [pureC] at hp; exact hp.2.2
      have := putCs_le l hpl ht.2 (by omega)
      rw [List.length_append]; omega
theorem putCs_le : ∀ l : List Cel, pureCs l = true → shortCs l = true → Cels.size l ≤ 4096 → (putCs l).length ≤ 65547 * Cels.size l
  | [], _, _, _ => by simp [putCs]
  | c :: l, hp, ht, hs => by
    simp only [pureCs, shortCs, Bool.and_eq_true] at hp ht
    rw [Cels.size] at hs ⊢
    have := putC_le c hp.1 ht.1 (by omega)
    have := putCs_le l hp.2 ht.2 (by omega)
    rw [putCs, List.length_append]; omega
end
theorem putCs_take {v : List Cel} {i : Nat} {x : Cel} (h : v[i]? = some x) : putCs (v.take (i + 1)) = putCs (v.take i) ++ putC x := by
  rw [List.take_add_one, h, putCs_append]
  show _ ++ putCs [x] = _
  rw [putCs, putCs, List.append_nil]
/-- the bytes of a list's first cells -/
def listB (b1 : List UInt8) (v : List Cel) (i : Nat) : List UInt8 := b1 ++ putCs (v.take i)
theorem listB_zero (b1 : List UInt8) (v : List Cel) : listB b1 v 0 = b1 := by simp [listB, putCs]
theorem listB_more {b1 : List UInt8} {v : List Cel} {i : Nat} {x : Cel} (h : v[i]? = some x) : listB b1 v (i + 1) = listB b1 v i ++ putC x := by
  rw [listB, putCs_take h, listB, List.append_assoc]
theorem listB_all {b1 : List UInt8} {v : List Cel} {i : Nat} (h : v.length ≤ i) : listB b1 v i = b1 ++ putCs v := by
  rw [listB, List.take_of_length_le h]
theorem listB_le {b1 : List UInt8} {v : List Cel} {i : Nat} : (listB b1 v i).length ≤ (b1 ++ putCs v).length := by
  have : putCs v = putCs (v.take i) ++ putCs (v.drop i) := by rw [← putCs_append, List.take_append_drop]
  rw [this, listB]; simp only [List.length_append]; omega
def btsI (b1 : List UInt8) (v : List Cel) (i : Nat) : List (List PV) := bts (listB b1 v i)
theorem Cels.size_at : ∀ {v : List Cel} {i : Nat} {x : Cel}, v[i]? = some x → x.size ≤ Cels.size v := fun h => Cels.size_mem (List.mem_of_getElem? h)
end Go.Sym
