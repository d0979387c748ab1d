/- Counts are written. -/
import Derived.Test.YtdbpdcnpolaojaaBase
import Derived.Test.YtdbpdcnpolaojaaBitsA
import Derived.Test.YtdbpdcnpolaojaaCdA
set_option linter.all false
set_option linter.unusedVariables false
set_option linter.unusedSimpArgs false
namespace Go.Sym
open Go Go.Proofs.Try
set_option maxRecDepth 100000
theorem bts_snoc (O : Opq) (l : List UInt8) {n : Nat} (h : n < 256) {v : Int} (hv : v = n) : O.o bts (l ++ [UInt8.ofNat n]) = O.o bts l ++ [[.int .u8 v]] := by
  simp only [O.h, bts_append]
  rw [hv]
  simp only [bts, List.map_cons, List.map_nil, UInt8.toNat_ofNat']
  rw [show n % 2 ^ 8 = n by omega]
theorem cnumber_fn (O : Opq) (nn : Nat) (b : List UInt8) (n : Nat) (hn : n < 4611686018427387904) (hb : b.length ≤ 1099511627) : Fn prog 43 [.ref 0, .int .i64 n] [.arr nn none 1 (O.o bts b)] [.ref 1] [.dead, .arr 2 none 1 (O.o bts (b ++ O.o numB n))] := by
  have hnb : O.o numB n = numB n := by rw [O.h]
  have hnl : (numB n).length ≤ 9 := numB_len (k := 8) (by omega)
  rw [hnb]
  obtain ⟨N, hN⟩ : ∃ N, N = b ++ numB n := ⟨_, rfl⟩
  have hNl : N.length ≤ b.length + 9 := by rw [hN, List.length_append]; omega
  rw [← hN]
  obtain ⟨B, hB⟩ : ∃ B, B = O.o bts b := ⟨_, rfl⟩
  rw [← hB]
  obtain ⟨M, hM⟩ : ∃ M, M = O.o bts N := ⟨_, rfl⟩
  rw [← hM]
  clear hnb
  refine go (fn := Go.Proofs.Try.f43) (n := 18) (rv := [ResultVar.tmp 4]) rfl (by decide) rfl (by decide +kernel) rfl rfl (by simp) fun F L C => ?_
  cbv
  (repeat' first | (refine Named.i64 ?_ fun _ _ => ?_; (focus lia); cbv) | (refine Named.len fun _ _ hq => ?_; (try simp only [List.length_append, List.length_take, List.length_drop, List.length_replicate, List.length_set] at hq); cbv) | (refine Named.mk fun _ _ => ?_; cbv) | (refine Br.t ?_ ?_; (focus first | assumption | lia); cbv) | (refine Br.f ?_ ?_; (focus first | assumption | lia); cbv) | (refine Br.mk (fun _ => ?_) (fun _ => ?_) <;> cbv) | (refine Need.mk ?_ ?_; rotate_left; cbv) | (refine RetThen.mk [] [] ?_; cbv))
  refine LoopThen.mk (C.loopAt (ι := List UInt8 × Nat) [(0, 1), (5, 14)] (fun x => [(0, .ref 50), (1, .int .i64 x.2)]) (fun x => [(50, .arr 0 none 1 (O.o bts x.1)), (0, .dead)])
    (fun x => x.1 ++ numB x.2 = N ∧ x.2 ≤ n) (fun x => x.2) (by decide +kernel) (Start.mk (b, n) [(50, .loc 0)] [] ⟨hN.symm, Nat.le_refl n⟩ ?_) ?_)
  · cbv
    (repeat' apply And.intro) <;> first | exact True.intro | exact WkR.refl _ | rfl | exact WkR.of_eq hB.symm | lia
  intro x g
  cbv
  obtain ⟨l, m⟩ := x
  have g1 : l ++ numB m = N := g.1
  have g2 : m ≤ n := g.2
  clear g
  have hlN : l.length ≤ N.length := by rw [← g1, List.length_append]; omega
  have hll : (O.o bts l).length = l.length := by rw [O.h, bts_len]
  by_cases hm : m < 128
  · rw [numB_lo hm] at g1
    have hst := fun {v : Int} (hv : v = m) => bts_snoc O l (n := m) (by omega) hv
    rw [g1, ← hM] at hst
    clear hM hB hN g1
    (repeat' first | (refine Named.i64 ?_ fun _ _ => ?_; (focus lia); cbv) | (refine Named.w8s ?_ fun _ _ => ?_; (focus lia); cbv) | (refine RetThen.mk [(1, .loc 1344)] [] ?_; cbv) | (refine Named.len fun _ _ hq => ?_; (try simp only [List.length_append, List.length_take, List.length_drop, List.length_replicate, List.length_set] at hq); cbv) | (refine Named.mk fun _ _ => ?_; cbv) | (refine Br.t ?_ ?_; (focus first | assumption | lia); cbv) | (refine Br.f ?_ ?_; (focus first | assumption | lia); cbv) | (refine Br.mk (fun _ => ?_) (fun _ => ?_) <;> cbv) | (refine Need.mk ?_ ?_; rotate_left; cbv) | (refine RetThen.mk [] [] ?_; cbv))
    all_goals first
      | lia
      | (simp only [List.length_cons, List.length_nil]; clear hst; lia)
      | (rename_i e1 e2 R eR; refine ⟨.of_eq ?_, trivial⟩; rw [eR]; exact hst (by lia))
      | trace_state
  · rw [numB_hi hm] at g1
    have hst := fun {v : Int} (hv : v = ((m % 128 + 128 : Nat) : Int)) => bts_snoc O l (n := m % 128 + 128) (by omega) hv
    have g3 : (l ++ [UInt8.ofNat (m % 128 + 128)]) ++ numB (m / 128) = N := by rw [← g1]; simp
    clear hM hB hN g1
    (repeat' first | (refine Named.i64 ?_ fun _ _ => ?_; (focus lia); cbv) | (refine Named.or128 ?_ fun _ _ => ?_; (focus lia); cbv) | (refine Named.w8 ?_ fun _ _ _ _ => ?_; (focus lia); cbv) | (refine Named.shr7 fun _ _ => ?_; cbv) | (refine Back.to (l ++ [UInt8.ofNat (m % 128 + 128)], m / 128) [(50, .loc 896)] [] ?_ fun _ _ => ?_; rotate_left; cbv) | (refine Named.len fun _ _ hq => ?_; (try simp only [List.length_append, List.length_take, List.length_drop, List.length_replicate, List.length_set] at hq); cbv) | (refine Named.mk fun _ _ => ?_; cbv) | (refine Br.t ?_ ?_; (focus first | assumption | lia); cbv) | (refine Br.f ?_ ?_; (focus first | assumption | lia); cbv) | (refine Br.mk (fun _ => ?_) (fun _ => ?_) <;> cbv) | (refine Need.mk ?_ ?_; rotate_left; cbv) | (refine RetThen.mk [] [] ?_; cbv))
    all_goals try first
      | lia
      | (simp only [List.length_cons, List.length_nil]; clear hst; lia)
      | exact ⟨⟨g3, by show m / 128 ≤ n; omega⟩, by show m / 128 < m; omega⟩
    rename_i R eR n1 e1 y ey
    subst ey
    refine ⟨.of_eq ?_, by clear hst; dsimp only; lia, trivial⟩
    rw [eR]; exact hst (by clear hst; lia)
end Go.Sym
