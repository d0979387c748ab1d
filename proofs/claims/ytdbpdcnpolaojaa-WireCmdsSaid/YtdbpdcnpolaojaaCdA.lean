/- Cells as bytes. -/
import Derived.Test.YtdbpdcnpolaojaaCeB
set_option linter.all false
set_option linter.unusedVariables false
set_option linter.unusedSimpArgs false
namespace Go.Sym
open Go
/-- bytes as rows -/
def bts (l : List UInt8) : List (List PV) := l.map fun b => [PV.int .u8 b.toNat]
theorem bts_len (l : List UInt8) : (bts l).length = l.length := by simp [bts]
theorem bts_append (l m : List UInt8) : bts (l ++ m) = bts l ++ bts m := by simp [bts]
theorem byteRows_eq (s : ByteArray) : byteRows s = bts s.data.toList := rfl
theorem u8lt (b : UInt8) : b.toNat < 256 := UInt8.toNat_lt b
/-- a count's bytes -/
def numB (n : Nat) : List UInt8 := if n < 128 then [UInt8.ofNat n] else UInt8.ofNat (n % 128 + 128) :: numB (n / 128)
termination_by n
decreasing_by omega
theorem numB_lo {n : Nat} (h : n < 128) : numB n = [UInt8.ofNat n] := by rw [numB, if_pos h]
theorem numB_hi {n : Nat} (h : ¬ n < 128) : numB n = UInt8.ofNat (n % 128 + 128) :: numB (n / 128) := by rw [numB, if_neg h]
theorem numB_pos (n : Nat) : 0 < (numB n).length := by rw [numB]; split <;> simp
theorem numB_len {n : Nat} : ∀ {k : Nat}, n < 128 ^ (k + 1) → (numB n).length ≤ k + 1 := by
  intro k
  induction k generalizing n with
  | zero => intro h; rw [numB_lo (by simpa using h)]; simp
  | succ k ih =>
    intro h
    by_cases hn : n < 128
    · rw [numB_lo hn]; simp
    · rw [numB_hi hn, List.length_cons]
      have := ih (n := n / 128) (by rw [Nat.div_lt_iff_lt_mul (by decide), ← Nat.pow_succ]; exact h)
      omega
def zig (m : Int) : Nat := if m < 0 then (-2 * m - 1).toNat else (2 * m).toNat
def zag (n : Nat) : Int := if n % 2 = 1 then -(((n + 1) / 2 : Nat) : Int) else ((n / 2 : Nat) : Int)
theorem zag_zig (m : Int) : zag (zig m) = m := by
  unfold zig
  split
  · rw [zag, if_pos (by omega)]; omega
  · rw [zag, if_neg (by omega)]; omega
theorem zig_zag (n : Nat) : zig (zag n) = n := by
  unfold zag
  split
  · rw [zig, if_pos (by omega)]; omega
  · rw [zig, if_neg (by omega)]; omega
mutual
/-- a cell's bytes -/
def putC : Cel → List UInt8
  | .mk k n t l => UInt8.ofNat k.toNat :: (if k = 1 then numB (zig n) else if k = 2 then numB t.size ++ t.data.toList else numB l.length ++ putCs l)
def putCs : List Cel → List UInt8
  | [] => []
  | c :: l => putC c ++ putCs l
end
theorem putC_pos (c : Cel) : 0 < (putC c).length := by obtain ⟨k, n, t, l⟩ := c; rw [putC]; simp
theorem putCs_len : ∀ l : List Cel, l.length ≤ (putCs l).length
  | [] => by simp
  | c :: l => by
    have := putC_pos c
    have := putCs_len l
    rw [putCs, List.length_append, List.length_cons]; omega
theorem putCs_append (l m : List Cel) : putCs (l ++ m) = putCs l ++ putCs m := by
  induction l with
  | nil => simp [putCs]
  | cons c l ih => rw [List.cons_append, putCs, putCs, ih, List.append_assoc]
/-- a count is read -/
def numR : List UInt8 → Nat → Nat → Option (Nat × List UInt8)
  | [], _, _ => none
  | c :: l, i, n => if i = 9 ∨ (c.toNat = 0 ∧ 0 < i) then none else if c.toNat < 128 then some (n + c.toNat * 128 ^ i, l) else numR l (i + 1) (n + (c.toNat % 128) * 128 ^ i)
structure Rd where
  b : List UInt8
  bad : Bool
  left : Int
def rdCells (f : Rd → Cel × Rd) : Nat → Rd → List Cel → List Cel × Rd
  | 0, r, cs => (cs, r)
  | m + 1, r, cs => if r.bad = true then (cs, r) else rdCells f m (f r).2 (cs ++ [(f r).1])
def bytesOf (l : List UInt8) : ByteArray := ⟨l.toArray⟩
/-- a cell is read, from its first byte and its count on -/
def rdPart (f : Rd → Cel × Rd) (k : Int) (m : Nat) (b : List UInt8) (left : Int) : Cel × Rd :=
  if k = 1 then (.mk k (zag m) ByteArray.empty [], ⟨b, false, left⟩)
  else if k = 2 ∧ m ≤ b.length then (.mk k 0 (bytesOf (b.take m)) [], ⟨b.drop m, false, left⟩)
  else if k = 3 ∧ m ≤ b.length then (.mk k 0 ByteArray.empty (rdCells f m ⟨b, false, left⟩ []).1, (rdCells f m ⟨b, false, left⟩ []).2)
  else (.mk k 0 ByteArray.empty [], ⟨b, true, left⟩)
def rdCell : Nat → Rd → Cel × Rd
  | 0, r => (noC, ⟨r.b, true, r.left - 1⟩)
  | n + 1, r => match r.b with
    | [] => (noC, ⟨[], true, r.left - 1⟩)
    | k :: l => if r.left - 1 < 0 ∨ r.bad = true then (noC, ⟨k :: l, true, r.left - 1⟩) else match numR l 0 0 with
      | none => (.mk k.toNat 0 ByteArray.empty [], ⟨l, true, r.left - 1⟩)
      | some (m, l') => rdPart (rdCell n) k.toNat m l' (r.left - 1)
theorem numR_put : ∀ (n i acc : Nat) (rest : List UInt8), n < 128 ^ (9 - i) → (n ≠ 0 ∨ i = 0) → i ≤ 9 → numR (numB n ++ rest) i acc = some (acc + n * 128 ^ i, rest) := by
  intro n
  induction n using Nat.strongRecOn with
  | _ n ih =>
    intro i acc rest h1 h2 h3
    have hi : i ≠ 9 := by
      rintro rfl
      simp at h1
      omega
    by_cases hn : n < 128
    · rw [numB_lo hn]
      have e : (UInt8.ofNat n).toNat = n := by rw [UInt8.toNat_ofNat']; omega
      simp only [List.cons_append, List.nil_append, numR, e]
      rw [if_neg (by omega), if_pos hn]
    · rw [numB_hi hn]
      have e : (UInt8.ofNat (n % 128 + 128)).toNat = n % 128 + 128 := by rw [UInt8.toNat_ofNat']; omega
      simp only [List.cons_append, numR, e]
      rw [if_neg (by omega), if_neg (by omega), ih (n / 128) (by omega) (i + 1) _ rest ?_ (by omega) (by omega)]
      · congr 2
        rw [show (n % 128 + 128) % 128 = n % 128 by omega, Nat.pow_succ, Nat.add_assoc, ← Nat.mul_assoc, Nat.mul_right_comm, ← Nat.add_mul]
        congr 2
        omega
      · have e9 : 9 - i = (9 - (i + 1)) + 1 := by omega
        rw [e9, Nat.pow_succ] at h1
        rw [Nat.div_lt_iff_lt_mul (by decide)]; exact h1
theorem numR_inv : ∀ (b : List UInt8) (i acc n : Nat) (rest : List UInt8), i ≤ 9 → numR b i acc = some (n, rest) → ∃ m, b = numB m ++ rest ∧ n = acc + m * 128 ^ i ∧ (m ≠ 0 ∨ i = 0) ∧ m < 128 ^ (9 - i)
  | [], i, acc, n, rest, _, h => by simp [numR] at h
  | c :: l, i, acc, n, rest, hi, h => by
    have hc := u8lt c
    rw [numR] at h
    split at h
    · cases h
    · rename_i h1
      have hi9 : i < 9 := by omega
      split at h
      · rename_i h2
        simp only [Option.some.injEq, Prod.mk.injEq] at h
        obtain ⟨h3, rfl⟩ := h
        refine ⟨c.toNat, ?_, h3.symm, by omega, ?_⟩
        · rw [numB_lo h2]; simp
        · rw [show 9 - i = (8 - i) + 1 by omega, Nat.pow_succ]
          have := Nat.one_le_two_pow (n := 0)
          have : 1 ≤ 128 ^ (8 - i) := Nat.one_le_pow _ _ (by decide)
          omega
      · rename_i h2
        obtain ⟨m, h3, h4, h5, h6⟩ := numR_inv l (i + 1) _ n rest (by omega) h
        have hm : m ≠ 0 := by omega
        refine ⟨m * 128 + c.toNat % 128, ?_, ?_, by omega, ?_⟩
        · rw [numB_hi (by omega), show (m * 128 + c.toNat % 128) / 128 = m by omega, show (m * 128 + c.toNat % 128) % 128 + 128 = c.toNat by omega, h3]
          simp
        · rw [h4, Nat.pow_succ, Nat.add_mul]
          rw [Nat.mul_comm (128 ^ i) 128, ← Nat.mul_assoc]; omega
        · rw [show 9 - i = (9 - (i + 1)) + 1 by omega, Nat.pow_succ]; omega
theorem bytesOf_list (t : ByteArray) : bytesOf t.data.toList = t := by
  obtain ⟨⟨l⟩⟩ := t; rfl
theorem bytesOf_toList (l : List UInt8) : (bytesOf l).data.toList = l := rfl
theorem bytesOf_size (l : List UInt8) : (bytesOf l).size = l.length := by rw [← size_list, bytesOf_toList]
mutual
/-- no text is too long -/
def shortC : Cel → Bool
  | .mk _ _ t l => decide (t.size ≤ 65536) && shortCs l
def shortCs : List Cel → Bool
  | [] => true
  | c :: l => shortC c && shortCs l
end
mutual
theorem countC_size : ∀ (c : Cel) (x : Int), 0 ≤ countC c x → countC c x = x - c.size ∧ shortC c = true
  | .mk k n t l, x, h => by
    rw [countC] at h ⊢
    split at h
    · omega
    · rename_i ht
      obtain ⟨h1, h2⟩ := countCs_size l (x - 1) h
      rw [if_neg ht, h1, Cel.size, shortC, h2, Bool.and_true, decide_eq_true_eq]
      omega
theorem countCs_size : ∀ (l : List Cel) (x : Int), 0 ≤ countCs l x → countCs l x = x - Cels.size l ∧ shortCs l = true
  | [], x, h => by simp [countCs, Cels.size, shortCs]
  | c :: l, x, h => by
    rw [countCs] at h ⊢
    split at h
    · omega
    · rename_i hx
      obtain ⟨h1, h2⟩ := countCs_size l (countC c x) h
      have h3 := countC_size c x (by omega)
      rw [if_neg hx, h1, h3.1, Cels.size, shortCs, h2, h3.2]
      exact ⟨by omega, rfl⟩
end
theorem shortCs_all : ∀ {l : List Cel}, shortCs l = true → ∀ c ∈ l, shortC c = true
  | c :: l, h, d, hd => by
    simp only [shortCs, Bool.and_eq_true] at h
    rcases List.mem_cons.1 hd with rfl | hd
    · exact h.1
    · exact shortCs_all h.2 d hd
/-- what a cell must be to be read back -/
structure GoodC (n : Nat) (c : Cel) : Prop where
  deep : deepN n c = false
  pure : pureC c = true
  short : shortC c = true
theorem rdCells_put {n : Nat} (hf : ∀ (c : Cel) rest (left : Int), left ≤ 1000000 → GoodC n c → (c.size : Int) ≤ left → rdCell n ⟨putC c ++ rest, false, left⟩ = (c, ⟨rest, false, left - c.size⟩)) : ∀ (l cs : List Cel) (rest : List UInt8) (left : Int), left ≤ 1000000 → (∀ c ∈ l, GoodC n c) → (Cels.size l : Int) ≤ left →
    rdCells (rdCell n) l.length ⟨putCs l ++ rest, false, left⟩ cs = (cs ++ l, ⟨rest, false, left - Cels.size l⟩)
  | [], cs, rest, left, _, _, _ => by simp [rdCells, putCs, Cels.size]
  | c :: l, cs, rest, left, h6, hg, hs => by
    rw [Cels.size] at hs
    rw [List.length_cons, rdCells, if_neg (by simp), putCs, List.append_assoc, hf c _ _ h6 (hg c (by simp)) (by omega)]
    simp only
    rw [rdCells_put hf l _ rest _ (by omega) (fun d hd => hg d (List.mem_cons_of_mem _ hd)) (by omega), Cels.size, List.append_assoc]
    congr 2
    omega
theorem pureC_kind {k n : Int} {t : ByteArray} {l : List Cel} (h : pureC (.mk k n t l) = true) : k = 1 ∨ k = 2 ∨ k = 3 := by
  by_cases h1 : k = 1
  · exact .inl h1
  by_cases h2 : k = 2
  · exact .inr (.inl h2)
  by_cases h3 : k = 3
  · exact .inr (.inr h3)
  simp [pureC, h1, h2, h3] at h
theorem rdCell_put : ∀ (n : Nat) (c : Cel) (rest : List UInt8) (left : Int), left ≤ 1000000 → GoodC n c → (c.size : Int) ≤ left → rdCell n ⟨putC c ++ rest, false, left⟩ = (c, ⟨rest, false, left - c.size⟩)
  | 0, c, _, _, _, h, _ => by have := h.deep; simp [deepN] at this
  | n + 1, c, rest, left, h6, h, hs => by
    have ih := rdCell_put n
    have hd := h.deep
    have hp := h.pure
    have ht := h.short
    have hsz : 1 ≤ c.size := by rw [Cel.size_list]; omega
    rcases pureC_kind (k := c.kind) (n := c.num) (t := c.text) (l := c.list) (by obtain ⟨k, m, t, l⟩ := c; exact hp) with hk | hk | hk
    · have e := pure_num hp hk
      rw [e] at hp ⊢
      obtain ⟨v, hv⟩ : ∃ v, v = c.num := ⟨_, rfl⟩
      rw [← hv] at hp ⊢
      rw [numC, putC, if_pos rfl]
      simp only [pureC, numC, if_true, decide_eq_true_eq] at hp
      have hz : zig v < 128 ^ (9 - 0) := by
        rw [zig]; split <;> omega
      simp only [rdCell, List.cons_append]
      rw [if_neg (by simp; omega), numR_put _ _ _ _ hz (by omega) (by omega)]
      simp only [rdPart, Cel.size, Cels.size, Nat.zero_add, Nat.pow_zero, Nat.mul_one]
      rw [show (((UInt8.ofNat (Int.toNat 1)).toNat : Nat) : Int) = 1 from rfl, if_pos rfl, zag_zig]; rfl
    · have e := pure_text hp hk
      have hts : c.text.size ≤ 65536 := by obtain ⟨k, m, t, l⟩ := c; simp only [shortC, Bool.and_eq_true, decide_eq_true_eq] at ht; exact ht.1
      rw [e]
      obtain ⟨v, hv⟩ : ∃ v, v = c.text := ⟨_, rfl⟩
      rw [← hv] at hts ⊢
      rw [textC, putC, if_neg (by decide), if_pos rfl]
      have hz : v.size < 128 ^ (9 - 0) := by omega
      simp only [rdCell, List.cons_append, List.append_assoc]
      rw [if_neg (by simp; omega), numR_put _ _ _ _ hz (by omega) (by omega)]
      have hl := size_list v
      simp only [rdPart, Cel.size, Cels.size, Nat.zero_add, Nat.pow_zero, Nat.mul_one]
      rw [show (((UInt8.ofNat (Int.toNat 2)).toNat : Nat) : Int) = 2 from rfl, if_neg (by decide), if_pos (by simp only [List.length_append]; exact ⟨trivial, by omega⟩), ← hl, List.take_left, List.drop_left, bytesOf_list]; rfl
    · obtain ⟨e, hpl⟩ := pure_list hp hk
      have hdl : ∀ x ∈ c.list, deepN n x = false := by
        rw [deepN_list, List.any_eq_false] at hd
        intro x hx; simpa using hd x hx
      have hsl : ∀ x ∈ c.list, shortC x = true := by
        obtain ⟨k, m, t, l⟩ := c
        simp only [shortC, Bool.and_eq_true] at ht
        exact shortCs_all ht.2
      have hsz2 := Cel.size_list c
      rw [e]
      obtain ⟨v, hv⟩ : ∃ v, v = c.list := ⟨_, rfl⟩
      rw [← hv] at hdl hsl hpl hsz2 ⊢
      have hvl := Cels.len_size v
      rw [listC, putC, if_neg (by decide), if_neg (by decide)]
      have hbig : v.length < 128 ^ (9 - 0) := by omega
      · simp only [rdCell, List.cons_append, List.append_assoc]
        rw [if_neg (by simp; omega), numR_put _ _ _ _ hbig (by omega) (by omega)]
        have hl := putCs_len v
        simp only [rdPart, Cel.size, Nat.zero_add, Nat.pow_zero, Nat.mul_one]
        rw [show (((UInt8.ofNat (Int.toNat 3)).toNat : Nat) : Int) = 3 from rfl, if_neg (by decide), if_neg (by simp), if_pos (by simp only [List.length_append]; exact ⟨trivial, by omega⟩)]
        rw [rdCells_put ih v [] rest _ (by omega) (fun x hx => ⟨hdl x hx, hpl x hx, hsl x hx⟩) (by omega)]
        simp only [List.nil_append]
        rw [show left - 1 - (Cels.size v : Int) = left - ((1 + Cels.size v : Nat) : Int) by omega]
/-- what is read is written so -/
theorem rdCells_inv {f : Rd → Cel × Rd} (hf : ∀ r : Rd, r.bad = false → (f r).2.bad = false → r.b = putC (f r).1 ++ (f r).2.b) : ∀ (m : Nat) (r : Rd) (cs : List Cel), r.bad = false → (rdCells f m r cs).2.bad = false →
    ∃ l, (rdCells f m r cs).1 = cs ++ l ∧ l.length = m ∧ r.b = putCs l ++ (rdCells f m r cs).2.b
  | 0, r, cs, _, _ => ⟨[], by simp [rdCells], rfl, by simp [rdCells, putCs]⟩
  | m + 1, r, cs, h, g => by
    rw [rdCells, if_neg (by simp [h])] at g ⊢
    cases hb : (f r).2.bad with
    | true =>
      exfalso
      cases m with
      | zero => rw [rdCells] at g; rw [hb] at g; cases g
      | succ m => rw [rdCells, if_pos hb, hb] at g; cases g
    | false =>
      obtain ⟨l, h1, h2, h3⟩ := rdCells_inv hf m (f r).2 (cs ++ [(f r).1]) hb g
      exact ⟨(f r).1 :: l, by rw [h1]; simp, by simp [h2], by rw [hf r h hb, h3, putCs, List.append_assoc]⟩
theorem rdCell_inv : ∀ (n : Nat) (r : Rd), r.bad = false → (rdCell n r).2.bad = false → r.b = putC (rdCell n r).1 ++ (rdCell n r).2.b
  | 0, r, _, g => by simp [rdCell] at g
  | n + 1, r, h, g => by
    have ih := rdCell_inv n
    obtain ⟨b, bad, left⟩ := r
    simp only at h
    subst h
    cases b with
    | nil => simp [rdCell] at g
    | cons k l =>
      have hk := u8lt k
      simp only [rdCell, Bool.false_eq_true, or_false] at g ⊢
      split at g
      · cases g
      · rename_i h1
        rw [if_neg h1]
        cases hn : numR l 0 0 with
        | none => rw [hn] at g; cases g
        | some p =>
          obtain ⟨m, l'⟩ := p
          rw [hn] at g
          obtain ⟨m', h2, h3, _, _⟩ := numR_inv l 0 0 m l' (by omega) hn
          have h3 : m' = m := by simpa using h3.symm
          subst h3
          simp only at g ⊢
          unfold rdPart at g ⊢
          split at g
          · rename_i e
            rw [if_pos e]
            simp only [putC, if_pos e, zig_zag, Int.toNat_natCast, UInt8.ofNat_toNat, List.cons_append, h2]
          · rename_i e
            rw [if_neg e]
            split at g
            · rename_i e2
              rw [if_pos e2]
              simp only [putC, if_neg e, if_pos e2.1, Int.toNat_natCast, UInt8.ofNat_toNat, List.cons_append, h2, bytesOf_toList, bytesOf_size, List.length_take, Nat.min_eq_left e2.2, List.append_assoc, List.take_append_drop]
            · rename_i e2
              rw [if_neg e2]
              split at g
              · rename_i e3
                rw [if_pos e3]
                obtain ⟨l2, h4, h5, h6⟩ := rdCells_inv ih m' ⟨l', false, left - 1⟩ [] rfl g
                simp only [List.nil_append] at h4 h6
                have e4 : ¬ ((k.toNat : Nat) : Int) = 2 := by omega
                simp only [putC, if_neg e, if_neg e4, Int.toNat_natCast, UInt8.ofNat_toNat, List.cons_append, h4, h5, h2, List.append_assoc, ← h6]
              · cases g
/-- which cell bytes are -/
noncomputable def decC (b : List UInt8) : Option Cel :=
  if b.length ≤ 65536 ∧ (rdCell 12 ⟨b, false, 4096⟩).2.bad = false ∧ (rdCell 12 ⟨b, false, 4096⟩).2.b = [] ∧ celErr (rdCell 12 ⟨b, false, 4096⟩).1 = 0 then some (rdCell 12 ⟨b, false, 4096⟩).1 else none
theorem celErr_good {c : Cel} (h : celErr c = 0) : GoodC 12 c ∧ c.size ≤ 4096 := by
  obtain ⟨h1, h2⟩ := celErr_zero h
  have h3 : 0 ≤ countC c 4096 := by
    unfold celErr at h
    rw [if_neg (by rw [h1]; decide), if_neg (by rw [h2]; decide)] at h
    split at h
    · cases h
    · omega
  obtain ⟨h4, h5⟩ := countC_size c 4096 h3
  exact ⟨⟨h1, h2, h5⟩, by omega⟩
theorem rd_put {c : Cel} (h : celErr c = 0) : rdCell 12 ⟨putC c, false, 4096⟩ = (c, ⟨[], false, 4096 - c.size⟩) := by
  obtain ⟨h1, h2⟩ := celErr_good h
  have := rdCell_put 12 c [] 4096 (by omega) h1 (by omega)
  rwa [List.append_nil] at this
theorem decC_iff {b : List UInt8} {c : Cel} : decC b = some c ↔ celErr c = 0 ∧ putC c = b ∧ b.length ≤ 65536 := by
  constructor
  · intro h
    rw [decC] at h
    split at h
    · rename_i h1
      obtain ⟨h1, h2, h3, h4⟩ := h1
      have h5 := rdCell_inv 12 ⟨b, false, 4096⟩ rfl h2
      rw [h3, List.append_nil] at h5
      replace h := Option.some.inj h
      rw [← h]
      exact ⟨h4, h5.symm, h1⟩
    · cases h
  · rintro ⟨h1, rfl, h3⟩
    rw [decC, rd_put h1, if_pos ⟨h3, rfl, rfl, h1⟩]
/-- the bytes of a cell that may be -/
noncomputable def encE (c : Cel) : Int := if celErr c ≠ 0 then celErr c else if (putC c).length ≤ 65536 then 0 else 3
noncomputable def encB (c : Cel) : List UInt8 := if encE c = 0 then putC c else []
theorem putC_inj {c d : Cel} (h : celErr c = 0) (g : celErr d = 0) (e : putC c = putC d) : c = d := by
  have h1 := rd_put h
  rw [e, rd_put g] at h1
  exact (congrArg Prod.fst h1).symm
end Go.Sym
