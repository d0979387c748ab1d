/- Cells as bytes. -/
import Derived.Test.YtdbpdcnpolaojaaDoorJ5
set_option linter.all false
set_option linter.unusedVariables false
set_option linter.unusedSimpArgs false
namespace Go.Sym
open Go
def bts (l : List UInt8) : List (List PV) := l.map fun b => [PV.int .u8 b.toNat]
theorem bts_len (l : List UInt8) : (bts l).length = l.length := by simp [bts]
theorem bts_append (l m : List UInt8) : bts (l ++ m) = bts l ++ bts m := by simp [bts]
theorem byteRows_eq (s : ByteArray) : byteRows s = bts s.data.toList := rfl
def numB (n : Nat) : List UInt8 := if n < 128 then [UInt8.ofNat n] else UInt8.ofNat (n % 128 + 128) :: numB (n / 128)
termination_by n
decreasing_by omega
theorem numB_lo {n : Nat} (h : n < 128) : numB n = [UInt8.ofNat n] := by rw [numB, if_pos h]
theorem numB_hi {n : Nat} (h : ¬ n < 128) : numB n = UInt8.ofNat (n % 128 + 128) :: numB (n / 128) := by rw [numB, if_neg h]
theorem numB_len {n : Nat} : ∀ {k : Nat}, n < 128 ^ (k + 1) → (numB n).length ≤ k + 1 := by
  intro k
  induction k generalizing n with
  | zero => intro h; rw [numB_lo (by simpa using h)]; simp
  | succ k ih =>
    intro h
    by_cases hn : n < 128
    · rw [numB_lo hn]; simp
    · rw [numB_hi hn, List.length_cons]
      have := ih (n := n / 128) (by rw [Nat.div_lt_iff_lt_mul (by decide), ← Nat.pow_succ]; exact h)
      omega
def zig (m : Int) : Nat := if m < 0 then (-2 * m - 1).toNat else (2 * m).toNat
mutual
def putC : Cel → List UInt8
  | .mk k n t l => UInt8.ofNat k.toNat :: (if k = 1 then numB (zig n) else if k = 2 then numB t.size ++ t.data.toList else numB l.length ++ putCs l)
def putCs : List Cel → List UInt8
  | [] => []
  | c :: l => putC c ++ putCs l
end
theorem putCs_append (l m : List Cel) : putCs (l ++ m) = putCs l ++ putCs m := by
  induction l with
  | nil => simp [putCs]
  | cons c l ih => rw [List.cons_append, putCs, putCs, ih, List.append_assoc]
mutual
def shortC : Cel → Bool
  | .mk _ _ t l => decide (t.size ≤ 65536) && shortCs l
def shortCs : List Cel → Bool
  | [] => true
  | c :: l => shortC c && shortCs l
end
mutual
theorem countC_size : ∀ (c : Cel) (x : Int), 0 ≤ countC c x → countC c x = x - c.size ∧ shortC c = true
  | .mk k n t l, x, h => by
    rw [countC] at h ⊢
    split at h
    · omega
    · rename_i ht
      obtain ⟨h1, h2⟩ := countCs_size l (x - 1) h
      rw [if_neg ht, h1, Cel.size, shortC, h2, Bool.and_true, decide_eq_true_eq]
      omega
theorem countCs_size : ∀ (l : List Cel) (x : Int), 0 ≤ countCs l x → countCs l x = x - Cels.size l ∧ shortCs l = true
  | [], x, h => by simp [countCs, Cels.size, shortCs]
  | c :: l, x, h => by
    rw [countCs] at h ⊢
    split at h
    · omega
    · rename_i hx
      obtain ⟨h1, h2⟩ := countCs_size l (countC c x) h
      have h3 := countC_size c x (by omega)
      rw [if_neg hx, h1, h3.1, Cels.size, shortCs, h2, h3.2]
      exact ⟨by omega, rfl⟩
end
theorem shortCs_all : ∀ {l : List Cel}, shortCs l = true → ∀ c ∈ l, shortC c = true
  | c :: l, h, d, hd => by
    simp only [shortCs, Bool.and_eq_true] at h
    rcases List.mem_cons.1 hd with rfl | hd
    · exact h.1
    · exact shortCs_all h.2 d hd
structure GoodC (n : Nat) (c : Cel) : Prop where
  deep : deepN n c = false
  pure : pureC c = true
  short : shortC c = true
theorem pureC_kind {k n : Int} {t : ByteArray} {l : List Cel} (h : pureC (.mk k n t l) = true) : k = 1 ∨ k = 2 ∨ k = 3 := by
  by_cases h1 : k = 1
  · exact .inl h1
  by_cases h2 : k = 2
  · exact .inr (.inl h2)
  by_cases h3 : k = 3
  · exact .inr (.inr h3)
  simp [pureC, h1, h2, h3] at h
theorem celErr_good {c : Cel} (h : celErr c = 0) : GoodC 12 c ∧ c.size ≤ 4096 := by
  obtain ⟨h1, h2⟩ := celErr_zero h
  have h3 : 0 ≤ countC c 4096 := by
    unfold celErr at h
    rw [if_neg (by rw [h1]; decide), if_neg (by rw [h2]; decide)] at h
    split at h
    · cases h
    · omega
  obtain ⟨h4, h5⟩ := countC_size c 4096 h3
  exact ⟨⟨h1, h2, h5⟩, by omega⟩
noncomputable def encE (c : Cel) : Int := if celErr c ≠ 0 then celErr c else if (putC c).length ≤ 65536 then 0 else 3
noncomputable def encB (c : Cel) : List UInt8 := if encE c = 0 then putC c else []
end Go.Sym
