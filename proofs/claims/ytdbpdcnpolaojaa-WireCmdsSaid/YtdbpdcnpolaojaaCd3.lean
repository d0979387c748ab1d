/- Cells are read. -/
import Derived.Test.YtdbpdcnpolaojaaCd1
import Derived.Test.YtdbpdcnpolaojaaCdB
set_option linter.all false
set_option linter.unusedVariables false
set_option linter.unusedSimpArgs false
namespace Go.Sym
open Go Go.Proofs.Try
set_option maxRecDepth 100000
def u8R (b : UInt8) : List PV := [.int .u8 b.toNat]
theorem numR_at {b : List UInt8} {i n : Nat} {c : UInt8} (h : b[i]? = some c) : numR (b.drop i) i n = if i = 9 ∨ (c.toNat = 0 ∧ 0 < i) then none else if c.toNat < 128 then some (n + c.toNat * 128 ^ i, b.drop (i + 1)) else numR (b.drop (i + 1)) (i + 1) (n + (c.toNat % 128) * 128 ^ i) := by
  obtain ⟨hi, rfl⟩ := List.getElem?_eq_some_iff.1 h
  rw [List.drop_eq_getElem_cons hi, numR]
theorem pow_step {n x i : Nat} (h : n < 128 ^ i) (hx : x < 128) : n + x * 128 ^ i < 128 ^ (i + 1) := by
  rw [Nat.pow_succ]
  have : x * 128 ^ i ≤ 127 * 128 ^ i := Nat.mul_le_mul_right _ (by omega)
  omega
set_option maxHeartbeats 1000000 in
theorem rnumber_fn (O : Opq) (b : List UInt8) (R : Option (Nat × List UInt8)) (lf : Int) (hR : numR b 0 0 = R) (hb : b.length ≤ 1099511627776) : Fn prog 44 [.ptr 0 0] [.box [.sl true 0 false 1 (O.o bts b), .bool false, .int .i64 lf]] [.int .i64 (O.o numVal R)] [.box [.sl true 0 false 1 (O.o bts (O.o (numRest b) R)), .bool (O.o Option.isNone R), .int .i64 lf]] := by
  have hlen : (O.o bts b).length = b.length := by rw [O.h, bts_len]
  obtain ⟨N, hN⟩ : ∃ N : Nat, N = b.length := ⟨_, rfl⟩
  obtain ⟨z, hz⟩ : ∃ z : Nat, z = 0 := ⟨_, rfl⟩
  have hnone : R = none → O.o numVal R = 0 ∧ O.o (numRest b) R = b ∧ O.o Option.isNone R = true := fun h => by subst h; simp only [O.h]; exact ⟨rfl, rfl, rfl⟩
  have hsome : ∀ (n k : Nat), R = some (n, b.drop k) → O.o numVal R = n ∧ O.o bts (O.o (numRest b) R) = (O.o bts b).drop k ∧ O.o Option.isNone R = false := fun n k h => by
    subst h; simp only [O.h]; exact ⟨rfl, by simp [numRest, bts], rfl⟩
  obtain ⟨A, eA⟩ : ∃ A, A = O.o numVal R := ⟨_, rfl⟩
  obtain ⟨B, eB⟩ : ∃ B, B = O.o (numRest b) R := ⟨_, rfl⟩
  obtain ⟨C2, eC⟩ : ∃ B, B = O.o Option.isNone R := ⟨_, rfl⟩
  rw [← eA, ← eB, ← eC] at hnone hsome ⊢
  clear eA eB eC
  refine go (fn := Go.Proofs.Try.f44) (n := 50) (rv := [ResultVar.tmp 2]) rfl (by decide) rfl (by decide +kernel) rfl rfl (by simp) fun F L C => ?_
  cbv
  (repeat' first | (refine Named.i64 ?_ fun _ _ => ?_; (focus lia); cbv) | (refine Named.len fun _ _ hq => ?_; (try simp only [List.length_append, List.length_take, List.length_drop, List.length_replicate, List.length_set] at hq); cbv) | (refine Named.mk fun _ _ => ?_; cbv) | (refine Br.t ?_ ?_; (focus first | assumption | lia); cbv) | (refine Br.f ?_ ?_; (focus first | assumption | lia); cbv) | (refine Br.mk (fun _ => ?_) (fun _ => ?_) <;> cbv) | (refine Need.mk ?_ ?_; rotate_left; cbv) | (refine RetThen.mk [] [] ?_; cbv))
  refine LoopThen.mk (C.loopAt (ι := Nat × Nat) [(2, 5), (11, 47)] (fun x => [(2, .int .i64 0), (3, .int .i64 x.2), (11, .int .i64 x.1)]) (fun _ => [(0, .box [.sl true 0 false 1 (O.o bts b), .bool false, .int .i64 lf])])
    (fun x => x.1 ≤ N ∧ x.1 ≤ 9 ∧ x.2 < 128 ^ x.1 ∧ numR (b.drop x.1) x.1 x.2 = R) (fun x => N - x.1) (by decide +kernel) (Start.mk (z, z) [] [] ⟨by show z ≤ N; omega, by show z ≤ 9; omega, by show z < 128 ^ z; rw [hz]; decide, by rw [hz]; exact hR⟩ (by cbv; (repeat' apply And.intro) <;> first | exact True.intro | exact WkR.refl _ | rfl | lia)) ?_)
  intro x g
  cbv
  obtain ⟨i, n⟩ := x
  have g1 : i ≤ N := g.1
  have g2 : i ≤ 9 := g.2.1
  have g3 : n < 128 ^ i := g.2.2.1
  have g4 : numR (b.drop i) i n = R := g.2.2.2
  clear g hR
  by_cases hi : i < b.length
  · obtain ⟨c, hc⟩ : ∃ c, b[i]? = some c := ⟨b[i], by simp [hi]⟩
    rw [numR_at hc] at g4
    have hc8 := u8lt c
    obtain ⟨v, hv⟩ : ∃ v : Int, v = c.toNat := ⟨_, rfl⟩
    have rx : (O.o bts b)[i]? = some [.int .u8 v] := by rw [O.h, bts, List.getElem?_map, hc, hv]; rfl
    by_cases h1 : i = 9 ∨ (c.toNat = 0 ∧ 0 < i)
    · rw [if_pos h1] at g4
      have hno := hnone g4.symm
      clear hnone hsome g4 g3
      (repeat' first | (refine Named.i64 ?_ fun _ _ => ?_; (focus lia); cbv) | (refine Ex.at [.int .u8 v] ⟨by clear rx hc hno; lia, rx⟩ ?_; cbv) | (refine Named.len fun _ _ hq => ?_; (try simp only [List.length_append, List.length_take, List.length_drop, List.length_replicate, List.length_set] at hq); cbv) | (refine Named.mk fun _ _ => ?_; cbv) | (refine Br.t ?_ ?_; (focus first | assumption | lia); cbv) | (refine Br.f ?_ ?_; (focus first | assumption | lia); cbv) | (refine Br.mk (fun _ => ?_) (fun _ => ?_) <;> cbv) | (refine Need.mk ?_ ?_; rotate_left; cbv) | (refine RetThen.mk [] [] ?_; cbv))
      all_goals first
        | (exfalso; clear hc hno; lia)
        | exact ⟨WkR.of_eq (by rw [hno.2.1]), hno.2.2, hno.1, trivial⟩
        | (clear hc hno; lia)
        | trace_state
    · rw [if_neg h1] at g4
      by_cases h2 : c.toNat < 128
      · rw [if_pos h2] at g4
        have hy := hsome _ _ g4.symm
        clear hnone hsome g4
        (repeat' first | (refine Named.shl7 (x := c.toNat) (i := i) (by clear hy hc g3; lia) (by clear hy hc g3; lia) (by clear hy hc g3; lia) (by clear hy hc g3; lia) fun _ _ => ?_; cbv) | (refine Named.i64 ?_ fun _ _ => ?_; (focus lia); cbv) | (refine Ex.at [.int .u8 v] ⟨by clear rx hc; lia, rx⟩ ?_; cbv) | (refine Named.and127 ?_ fun _ _ => ?_; (focus lia); cbv) | (refine Named.or7 (a := n) (x := c.toNat) (i := i) rfl (by assumption) g3 (by clear hy hc g3; lia) (by clear hy hc g3; lia) fun _ _ => ?_; cbv) | (refine Named.len fun _ _ hq => ?_; (try simp only [List.length_append, List.length_take, List.length_drop, List.length_replicate, List.length_set] at hq); cbv) | (refine Named.mk fun _ _ => ?_; cbv) | (refine Br.t ?_ ?_; (focus first | assumption | lia); cbv) | (refine Br.f ?_ ?_; (focus first | assumption | lia); cbv) | (refine Br.mk (fun _ => ?_) (fun _ => ?_) <;> cbv) | (refine Need.mk ?_ ?_; rotate_left; cbv) | (refine RetThen.mk [] [] ?_; cbv))
        all_goals first
          | (exfalso; clear hc hy g3; lia)
          | (clear hc hy g3; lia)
          | (refine ⟨WkR.of_eq ?_, hy.2.2, ?_, trivial⟩
             · rename_i q1 q2 R2 hR2
               rw [hR2, show q1.toNat = i + 1 by clear rx hc hy g3; lia]; exact hy.2.1
             · rw [hy.1]; symm; assumption)
          | trace_state
      · rw [if_neg h2] at g4
        have g5 := pow_step (x := c.toNat % 128) g3 (by omega)
        clear hnone hsome
        (repeat' first | (refine Named.shl7 (x := c.toNat % 128) (i := i) (by clear g4 g5 hc g3; lia) (by clear g4 g5 hc g3; lia) (by clear g4 g5 hc g3; lia) (by clear g4 g5 hc g3; lia) fun _ _ => ?_; cbv) | (refine Named.i64 ?_ fun _ _ => ?_; (focus lia); cbv) | (refine Ex.at [.int .u8 v] ⟨by clear rx hc; lia, rx⟩ ?_; cbv) | (refine Named.and127 ?_ fun _ _ => ?_; (focus lia); cbv) | (refine Named.or7 (a := n) (x := c.toNat % 128) (i := i) rfl (by assumption) g3 (by clear g4 g5 hc g3; lia) (by clear g4 g5 hc g3; lia) fun _ _ => ?_; cbv) | (refine Back.to (i + 1, n + c.toNat % 128 * 128 ^ i) [] [] ?_ fun _ _ => ?_; rotate_left; cbv) | (refine Named.len fun _ _ hq => ?_; (try simp only [List.length_append, List.length_take, List.length_drop, List.length_replicate, List.length_set] at hq); cbv) | (refine Named.mk fun _ _ => ?_; cbv) | (refine Br.t ?_ ?_; (focus first | assumption | lia); cbv) | (refine Br.f ?_ ?_; (focus first | assumption | lia); cbv) | (refine Br.mk (fun _ => ?_) (fun _ => ?_) <;> cbv) | (refine Need.mk ?_ ?_; rotate_left; cbv) | (refine RetThen.mk [] [] ?_; cbv))
        all_goals try first
          | (exfalso; clear hc g4 g5 g3; lia)
          | (clear hc g4 g5 g3; lia)
          | exact ⟨⟨by dsimp only; clear g4 g5 hc g3; lia, by dsimp only; clear g4 g5 hc g3; lia, g5, g4⟩, by dsimp only; clear g4 g5 hc g3; lia⟩
        all_goals
          rename_i y ey
          subst ey
          (repeat' apply And.intro) <;> first | exact WkR.refl _ | assumption | (symm; assumption) | exact True.intro | (clear hc g4 g5 g3; dsimp only; lia) | trace_state
  · have hd : b.drop i = [] := List.drop_of_length_le (by omega)
    rw [hd, numR] at g4
    have hno := hnone g4.symm
    clear hnone hsome g4 g3
    (repeat' first | (refine Named.i64 ?_ fun _ _ => ?_; (focus lia); cbv) | (refine Named.len fun _ _ hq => ?_; (try simp only [List.length_append, List.length_take, List.length_drop, List.length_replicate, List.length_set] at hq); cbv) | (refine Named.mk fun _ _ => ?_; cbv) | (refine Br.t ?_ ?_; (focus first | assumption | lia); cbv) | (refine Br.f ?_ ?_; (focus first | assumption | lia); cbv) | (refine Br.mk (fun _ => ?_) (fun _ => ?_) <;> cbv) | (refine Need.mk ?_ ?_; rotate_left; cbv) | (refine RetThen.mk [] [] ?_; cbv))
    all_goals first
      | (exfalso; clear hno; lia)
      | exact ⟨WkR.of_eq (by rw [hno.2.1]), hno.2.2, hno.1, trivial⟩
      | (clear hno; lia)
      | trace_state
end Go.Sym
