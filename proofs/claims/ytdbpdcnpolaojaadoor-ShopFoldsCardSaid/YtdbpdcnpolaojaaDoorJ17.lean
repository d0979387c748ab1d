/- Lists of cells are read; cells of bytes. -/
import Derived.Test.YtdbpdcnpolaojaaDoorJ15
import Derived.Test.YtdbpdcnpolaojaaDoorJ6
import Derived.Test.YtdbpdcnpolaojaaDoorJ8
import Derived.Test.YtdbpdcnpolaojaaDoorJ13
import Derived.Test.YtdbpdcnpolaojaaDoorJ16
set_option linter.all false
set_option linter.unusedVariables false
set_option linter.unusedSimpArgs false
namespace Go.Sym
open Go Go.Proofs.Tryd
set_option maxRecDepth 100000
theorem encode_fn (O : Opq) (c : Cel) (h : c.size ≤ 1099511627) : Fn prog 50 [.agg (c.en O)] [] [.sl false 0 false 1 (O.o bts (O.o encB c)), .int .i64 (O.o encE c)] [] := by
  have hck := ccheck_fn O c (by omega)
  rw [Cel.en_eq O] at hck
  have hce : O.o celErr c = celErr c := by rw [O.h]
  have h00 : O.o bts [] = [] := by rw [O.h]; rfl
  by_cases h0 : celErr c = 0
  · have hp := put0_ok O c h0
    rw [hce, h0] at hck
    by_cases hf : (putC c).length ≤ 65536
    · have he : O.o encE c = 0 ∧ O.o encB c = putC c := by simp only [O.h]; rw [encB, encE, if_neg (by simp [h0]), if_pos hf]; exact ⟨rfl, rfl⟩
      have hp := hp.1 hf
      rw [List.nil_append] at hp
      have hM : O.o bts (O.o encB c) = O.o bts (O.o putC c) := by rw [he.2, O.h putC]
      obtain ⟨M, eM⟩ : ∃ M, M = O.o bts (O.o putC c) := ⟨_, rfl⟩
      rw [← eM] at hp hM
      rw [hM, he.1]
      clear hM he hf hce h0
      obtain ⟨k, n, t, l⟩ := c
      refine go (fn := Go.Proofs.Tryd.f50) (n := 15) (rv := [ResultVar.tmp 2, ResultVar.tmp 3]) rfl (by decide) rfl (by decide +kernel) rfl rfl (by simp) fun F L C => ?_
      cbv
      (repeat' first | (refine Named.i64 ?_ fun _ _ => ?_; (focus lia); cbv) | (refine CallThen.mk _ _ (C.fn (hck)) ?_; cbv) | (refine CallThen.mk _ _ (C.fn (hp)) ?_; cbv) | (refine RetThen.mk [] [896] ?_; cbv) | (refine Named.len fun _ _ hq => ?_; (try simp only [List.length_append, List.length_take, List.length_drop, List.length_replicate, List.length_set] at hq); cbv) | (refine Named.mk fun _ _ => ?_; cbv) | (refine Br.t ?_ ?_; (focus first | assumption | lia); cbv) | (refine Br.f ?_ ?_; (focus first | assumption | lia); cbv) | (refine Br.mk (fun _ => ?_) (fun _ => ?_) <;> cbv) | (refine Need.mk ?_ ?_; rotate_left; cbv) | (refine RetThen.mk [] [] ?_; cbv))
      all_goals first
        | (refine Named.mk fun rs e => ⟨.of_eq e.symm, by cbv⟩; done)
        | (refine ⟨?_, trivial⟩; refine WkR.of_eq ?_; symm; assumption)
        | trace_state
    · have he : O.o encE c = 3 ∧ O.o encB c = [] := by simp only [O.h]; rw [encB, encE, if_neg (by simp [h0]), if_neg hf]; exact ⟨rfl, rfl⟩
      have hp := hp.2 (by rw [List.nil_append]; omega)
      rw [he.1, he.2, h00]
      clear he hf hce h0
      obtain ⟨k, n, t, l⟩ := c
      refine go (fn := Go.Proofs.Tryd.f50) (n := 15) (rv := [ResultVar.tmp 2, ResultVar.tmp 3]) rfl (by decide) rfl (by decide +kernel) rfl rfl (by simp) fun F L C => ?_
      cbv
      (repeat' first | (refine Named.i64 ?_ fun _ _ => ?_; (focus lia); cbv) | (refine CallThen.mk _ _ (C.fn (hck)) ?_; cbv) | (refine CallThen.mk _ _ (C.fn (hp)) ?_; cbv) | (refine Named.len fun _ _ hq => ?_; (try simp only [List.length_append, List.length_take, List.length_drop, List.length_replicate, List.length_set] at hq); cbv) | (refine Named.mk fun _ _ => ?_; cbv) | (refine Br.t ?_ ?_; (focus first | assumption | lia); cbv) | (refine Br.f ?_ ?_; (focus first | assumption | lia); cbv) | (refine Br.mk (fun _ => ?_) (fun _ => ?_) <;> cbv) | (refine Need.mk ?_ ?_; rotate_left; cbv) | (refine RetThen.mk [] [] ?_; cbv))
      all_goals first
        | exact ⟨rfl, trivial⟩
        | trace_state
  · have he : O.o encE c = celErr c ∧ O.o encB c = [] := by simp only [O.h]; rw [encB, encE, if_pos h0, if_neg h0]; exact ⟨rfl, rfl⟩
    rw [he.1, he.2, h00]
    rw [hce] at hck
    obtain ⟨v, hv⟩ : ∃ v, v = celErr c := ⟨_, rfl⟩
    rw [← hv] at h0 hck ⊢
    clear he hce hv
    obtain ⟨k, n, t, l⟩ := c
    refine go (fn := Go.Proofs.Tryd.f50) (n := 15) (rv := [ResultVar.tmp 2, ResultVar.tmp 3]) rfl (by decide) rfl (by decide +kernel) rfl rfl (by simp) fun F L C => ?_
    cbv
    (repeat' first | (refine Named.i64 ?_ fun _ _ => ?_; (focus lia); cbv) | (refine CallThen.mk _ _ (C.fn (hck)) ?_; cbv) | (refine Named.len fun _ _ hq => ?_; (try simp only [List.length_append, List.length_take, List.length_drop, List.length_replicate, List.length_set] at hq); cbv) | (refine Named.mk fun _ _ => ?_; cbv) | (refine Br.t ?_ ?_; (focus first | assumption | lia); cbv) | (refine Br.f ?_ ?_; (focus first | assumption | lia); cbv) | (refine Br.mk (fun _ => ?_) (fun _ => ?_) <;> cbv) | (refine Need.mk ?_ ?_; rotate_left; cbv) | (refine RetThen.mk [] [] ?_; cbv))
    all_goals first
      | exact ⟨rfl, trivial⟩
      | (exfalso; lia)
      | trace_state
end Go.Sym
