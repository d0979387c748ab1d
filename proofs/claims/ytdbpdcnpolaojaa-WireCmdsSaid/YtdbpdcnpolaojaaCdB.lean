/- Cells that are read: bounds; bits. -/
import Derived.Test.YtdbpdcnpolaojaaCdA
import Derived.Test.YtdbpdcnpolaojaaBitsA
set_option linter.all false
set_option linter.unusedVariables false
set_option linter.unusedSimpArgs false
namespace Go.Sym
open Go
def numVal : Option (Nat × List UInt8) → Int
  | some p => p.1
  | none => 0
def numRest (b : List UInt8) : Option (Nat × List UInt8) → List UInt8
  | some p => p.2
  | none => b
theorem Named.shl7 {x i : Nat} {xv yv : Int} {K : Int → Prop} (hx : xv = x) (hy : yv = (7 * i : Nat)) (hi : i ≤ 8) (hx2 : x < 128) (k : ∀ n, n = ((x * 128 ^ i : Nat) : Int) → K n) : Named Int (fun _ => IntKind.i64.wrap (xv * 2 ^ min yv.toNat IntKind.i64.bits)) K := .mk fun n hn => k n (by
  have e : (2 : Nat) ^ (7 * i) = 128 ^ i := by rw [Nat.pow_mul]
  have h1 : x * 128 ^ i < 128 ^ 9 := by
    have h2 : (128 : Nat) ^ i ≤ 128 ^ 8 := Nat.pow_le_pow_right (by decide) hi
    calc x * 128 ^ i ≤ 127 * 128 ^ 8 := Nat.mul_le_mul (by omega) h2
      _ < 128 ^ 9 := by decide
  rw [hn, hx, hy, Int.toNat_natCast, show min (7 * i) IntKind.i64.bits = 7 * i by simp [IntKind.bits]; omega]
  rw [show ((x : Int) * 2 ^ (7 * i)) = ((x * 128 ^ i : Nat) : Int) by rw [← e]; simp]
  exact wrap64 (by omega))
theorem Named.or7 {a x i : Nat} {av bv : Int} {K : Int → Prop} (ha : av = a) (hb : bv = ((x * 128 ^ i : Nat) : Int)) (h1 : a < 128 ^ i) (hx : x < 128) (hi : i ≤ 8) (k : ∀ n, n = ((a + x * 128 ^ i : Nat) : Int) → K n) : Named Int (fun _ => bitsVal .or .i64 av bv) K := .mk fun n hn => k n (by
  have e : (2 : Nat) ^ (7 * i) = 128 ^ i := by rw [Nat.pow_mul]
  rw [hn, ha, hb, ← e]
  rw [← e] at h1
  refine or64 h1 ?_
  rw [e]
  have h2 : (128 : Nat) ^ i ≤ 128 ^ 8 := Nat.pow_le_pow_right (by decide) hi
  calc (x + 1) * 128 ^ i ≤ 128 * 128 ^ 8 := Nat.mul_le_mul (by omega) h2
    _ ≤ 9223372036854775808 := by decide)
theorem numR_len : ∀ (b : List UInt8) (i acc : Nat) {m : Nat} {l : List UInt8}, numR b i acc = some (m, l) → l.length ≤ b.length
  | [], i, acc, m, l, h => by simp [numR] at h
  | c :: b, i, acc, m, l, h => by
    rw [numR] at h
    split at h
    · cases h
    · split at h
      · simp only [Option.some.injEq, Prod.mk.injEq] at h
        rw [← h.2]; simp
      · have := numR_len b _ _ h
        simp; omega
theorem numR_lt {b : List UInt8} {m : Nat} {l : List UInt8} (h : numR b 0 0 = some (m, l)) : m < 9223372036854775808 := by
  obtain ⟨m', _, h2, _, h4⟩ := numR_inv b 0 0 m l (by omega) h
  have h4 : m' < 128 ^ 9 := h4
  omega
/-- what stays of a reader -/
structure RdOk (r s : Rd) (n : Nat) : Prop where
  len : s.b.length ≤ r.b.length
  left : (n : Int) = r.left - s.left
  low : -1 ≤ s.left
  good : s.bad = false → 0 ≤ s.left
theorem rdCells_ok {f : Rd → Cel × Rd} (hf : ∀ r : Rd, r.bad = false → 0 ≤ r.left → RdOk r (f r).2 (f r).1.size) : ∀ (m : Nat) (r : Rd) (cs : List Cel), -1 ≤ r.left → (r.bad = false → 0 ≤ r.left) →
    ∃ l, (rdCells f m r cs).1 = cs ++ l ∧ RdOk r (rdCells f m r cs).2 (Cels.size l)
  | 0, r, cs, h1, h2 => ⟨[], by simp [rdCells], ⟨Nat.le_refl _, by simp [rdCells, Cels.size], h1, h2⟩⟩
  | m + 1, r, cs, h1, h2 => by
    rw [rdCells]
    split
    · rename_i hb
      exact ⟨[], by simp, ⟨Nat.le_refl _, by simp [Cels.size], h1, fun h => absurd h (by simp [hb])⟩⟩
    · rename_i hb
      have hb : r.bad = false := by simpa using hb
      have h3 := hf r hb (h2 hb)
      obtain ⟨l, h4, h5⟩ := rdCells_ok hf m (f r).2 (cs ++ [(f r).1]) h3.low h3.good
      refine ⟨(f r).1 :: l, by rw [h4]; simp, ⟨Nat.le_trans h5.len h3.len, ?_, h5.low, h5.good⟩⟩
      have := h3.left
      have := h5.left
      rw [Cels.size]; omega
theorem rdCell_ok : ∀ (n : Nat) (r : Rd), r.bad = false → 0 ≤ r.left → RdOk r (rdCell n r).2 (rdCell n r).1.size
  | 0, r, _, h => ⟨Nat.le_refl _, by simp [rdCell, noC, Cel.size, Cels.size]; omega, by show -1 ≤ r.left - 1; omega, fun h => by cases h⟩
  | n + 1, ⟨[], bad, left⟩, _, h => ⟨Nat.le_refl _, by simp [rdCell, noC, Cel.size, Cels.size]; omega, by show -1 ≤ left - 1; simp only at h; omega, fun h => by cases h⟩
  | n + 1, ⟨k :: b, bad, left⟩, h0, h => by
    have ih := rdCell_ok n
    simp only at h0 h
    subst h0
    simp only [rdCell, Bool.false_eq_true, or_false]
    split
    · exact ⟨Nat.le_refl _, by simp [noC, Cel.size, Cels.size]; omega, by show -1 ≤ left - 1; omega, fun h => by cases h⟩
    · rename_i hl
      cases hn : numR b 0 0 with
      | none => exact ⟨by simp, by simp [Cel.size, Cels.size]; omega, by show -1 ≤ left - 1; omega, fun h => by cases h⟩
      | some p =>
        obtain ⟨m, l'⟩ := p
        have hln := numR_len b 0 0 hn
        simp only [rdPart]
        split
        · exact ⟨by simp only [List.length_cons]; omega, by simp [Cel.size, Cels.size]; omega, by show -1 ≤ left - 1; omega, fun _ => by show 0 ≤ left - 1; omega⟩
        · split
          · exact ⟨by simp only [List.length_cons, List.length_drop]; omega, by simp [Cel.size, Cels.size]; omega, by show -1 ≤ left - 1; omega, fun _ => by show 0 ≤ left - 1; omega⟩
          · split
            · obtain ⟨l2, h4, h5⟩ := rdCells_ok ih m ⟨l', false, left - 1⟩ [] (by show -1 ≤ left - 1; omega) (fun _ => by show 0 ≤ left - 1; omega)
              have h6 := h5.left
              have h7 := h5.len
              simp only [List.nil_append] at h4 h6 h7
              refine ⟨by simp only [List.length_cons]; omega, ?_, h5.low, h5.good⟩
              rw [h4, Cel.size]; simp only; omega
            · exact ⟨by simp only [List.length_cons]; omega, by simp [Cel.size, Cels.size]; omega, by show -1 ≤ left - 1; omega, fun h => by cases h⟩
noncomputable def decV (b : List UInt8) : Cel := (decC b).getD noC
noncomputable def decE (b : List UInt8) : Int := if 65536 < b.length then 3 else if (decC b).isSome = true then 0 else 5
end Go.Sym
