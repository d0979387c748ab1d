/- Bits. -/
import Derived.Test.YtdbpdcnpolaojaaSymJoined3
set_option linter.all false
set_option linter.unusedVariables false
set_option linter.unusedSimpArgs false
namespace Go.Sym
open Go
theorem Named.w8 {x : Int} {K : Int → Prop} (h : 0 ≤ x) (k : ∀ n, n = x % 256 → 0 ≤ n → n < 256 → K n) : Named Int (fun _ => IntKind.u8.wrap x) K := .mk fun n hn => by
  have : n = x % 256 := by rw [hn]; unfold IntKind.wrap; simp [IntKind.bits, IntKind.signed]
  exact k n this (by omega) (by omega)
theorem Named.w8s {x : Int} {K : Int → Prop} (h : 0 ≤ x ∧ x < 256) (k : ∀ n, n = x → K n) : Named Int (fun _ => IntKind.u8.wrap x) K := .mk fun n hn => by
  have : n = x % 256 := by rw [hn]; unfold IntKind.wrap; simp [IntKind.bits, IntKind.signed]
  exact k n (by omega)
theorem and127 : ∀ n : Fin 256, bitsVal .and .u8 (n.val : Int) 127 = ((n.val % 128 : Nat) : Int) := by decide +kernel
theorem or128 : ∀ n : Fin 256, bitsVal .or .u8 (n.val : Int) 128 = ((n.val % 128 + 128 : Nat) : Int) := by decide +kernel
theorem Named.and127 {x : Int} {K : Int → Prop} (h : 0 ≤ x ∧ x < 256) (k : ∀ n, n = x % 128 → K n) : Named Int (fun _ => bitsVal .and .u8 x 127) K := .mk fun n hn => k n (by
  have := Go.Sym.and127 ⟨x.toNat, by omega⟩
  simp only [show ((x.toNat : Nat) : Int) = x by omega] at this
  rw [hn, this]; omega)
theorem Named.or128 {x : Int} {K : Int → Prop} (h : 0 ≤ x ∧ x < 256) (k : ∀ n, n = x % 128 + 128 → K n) : Named Int (fun _ => bitsVal .or .u8 x 128) K := .mk fun n hn => k n (by
  have := Go.Sym.or128 ⟨x.toNat, by omega⟩
  simp only [show ((x.toNat : Nat) : Int) = x by omega] at this
  rw [hn, this]; omega)
theorem Named.shr7 {x : Int} {K : Int → Prop} (k : ∀ n, n = x / 128 → K n) : Named Int (fun _ => x.fdiv (2 ^ min (Int.toNat 7) IntKind.i64.bits)) K := .mk fun n hn => k n (by
  rw [hn]; exact Int.fdiv_eq_ediv_of_nonneg _ (by decide))
theorem Named.shr1 {x : Int} {K : Int → Prop} (k : ∀ n, n = x / 2 → K n) : Named Int (fun _ => x.fdiv (2 ^ min (Int.toNat 1) IntKind.i64.bits)) K := .mk fun n hn => k n (by
  rw [hn]; exact Int.fdiv_eq_ediv_of_nonneg _ (by decide))
theorem and1_64 {x : Int} (h : 0 ≤ x ∧ x < 9223372036854775808) : bitsVal .and .i64 x 1 = x % 2 := by
  obtain ⟨n, rfl⟩ : ∃ n : Nat, x = n := ⟨x.toNat, by omega⟩
  have hn : n < 2 ^ 64 := by omega
  show IntKind.i64.wrap ((BitVec.ofInt 64 (n : Int) &&& BitVec.ofInt 64 1).toNat : Int) = _
  rw [show BitVec.ofInt 64 ((n : Nat) : Int) = BitVec.ofNat 64 n by simp, show BitVec.ofInt 64 1 = BitVec.ofNat 64 1 by simp]
  rw [BitVec.toNat_and, BitVec.toNat_ofNat, BitVec.toNat_ofNat, Nat.mod_eq_of_lt hn, show 1 % 2 ^ 64 = 1 by decide, Nat.and_one_is_mod]
  unfold IntKind.wrap; simp [IntKind.bits, IntKind.signed]; omega
theorem Named.and1 {x : Int} {K : Int → Prop} (h : 0 ≤ x ∧ x < 9223372036854775808) (k : ∀ n, n = x % 2 → K n) : Named Int (fun _ => bitsVal .and .i64 x 1) K := .mk fun n hn => k n (by rw [hn, and1_64 h])
theorem or64 {x : Nat} {z k : Nat} (h1 : x < 2 ^ k) (h2 : (z + 1) * 2 ^ k ≤ 9223372036854775808) : bitsVal .or .i64 (x : Int) ((z * 2 ^ k : Nat) : Int) = ((x + z * 2 ^ k : Nat) : Int) := by
  have e := Nat.two_pow_add_eq_or_of_lt h1 z
  rw [Nat.succ_mul] at h2
  obtain ⟨y, hy⟩ : ∃ y, y = z * 2 ^ k := ⟨_, rfl⟩
  rw [Nat.mul_comm, ← hy] at e
  rw [← hy] at h2 ⊢
  obtain ⟨p, hp⟩ : ∃ p, p = 2 ^ k := ⟨_, rfl⟩
  rw [← hp] at h1 h2
  clear hy hp
  show IntKind.i64.wrap ((BitVec.ofInt 64 (x : Int) ||| BitVec.ofInt 64 ((y : Nat) : Int)).toNat : Int) = _
  rw [show BitVec.ofInt 64 ((x : Nat) : Int) = BitVec.ofNat 64 x by simp, show BitVec.ofInt 64 ((y : Nat) : Int) = BitVec.ofNat 64 y by simp]
  rw [BitVec.toNat_or, BitVec.toNat_ofNat, BitVec.toNat_ofNat, Nat.mod_eq_of_lt (by omega), Nat.mod_eq_of_lt (by omega), Nat.or_comm, ← e, Nat.add_comm]
  exact wrap64 (by omega)
theorem Named.i64o {x : Int} {K : Int → Prop} (h : -9223372036854775808 ≤ x ∧ x ≤ 9223372036854775808) (k : ∀ n, (x < 9223372036854775808 ∧ n = x) ∨ (x = 9223372036854775808 ∧ n = -9223372036854775808) → K n) : Named Int (fun _ => IntKind.i64.wrap x) K := .mk fun n hn => k n (by
  by_cases hx : x < 9223372036854775808
  · exact .inl ⟨hx, by rw [hn]; exact wrap64 ⟨h.1, hx⟩⟩
  · have : x = 9223372036854775808 := by omega
    subst this
    exact .inr ⟨rfl, by rw [hn]; decide +kernel⟩)
theorem Named.quo2 {x : Int} {K : Int → Prop} (h : x % 2 = 0 ∧ -9223372036854775808 ≤ x ∧ x < 9223372036854775808) (k : ∀ n, n = x / 2 → K n) : Named Int (fun _ => IntKind.i64.wrap (x.tdiv 2)) K := .mk fun n hn => k n (by
  have : x.tdiv 2 = x / 2 := Int.tdiv_eq_ediv_of_dvd (by omega)
  rw [hn, this, wrap64 (by omega)])
theorem Named.rem {x y : Int} {K : Int → Prop} (h : 0 ≤ x ∧ 0 < y) (k : ∀ n, n = x % y → K n) : Named Int (fun _ => x.tmod y) K := .mk fun n hn => k n (by
  rw [hn]; exact Int.tmod_eq_emod_of_nonneg h.1)
theorem Named.quo {x y : Int} {K : Int → Prop} (h : 0 ≤ x ∧ 0 < y ∧ x < 9223372036854775808) (k : ∀ n, n = x / y → K n) : Named Int (fun _ => IntKind.i64.wrap (x.tdiv y)) K := .mk fun n hn => k n (by
  have e : x.tdiv y = x / y := Int.tdiv_eq_ediv_of_nonneg h.1
  have h1 : 0 ≤ x / y := Int.ediv_nonneg h.1 (by omega)
  have h2 : x / y ≤ x := Int.ediv_le_self _ h.1
  rw [hn, e, wrap64 (by omega)])
end Go.Sym
