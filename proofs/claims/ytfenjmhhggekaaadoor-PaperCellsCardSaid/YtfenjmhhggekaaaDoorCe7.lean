/- A document's cell. -/
import Derived.Test.YtfenjmhhggekaaaDoorCe6
import Derived.Test.YtfenjmhhggekaaaDoorCe5
set_option linter.all false
set_option linter.unusedVariables false
set_option linter.unusedSimpArgs false
namespace Go.Sym
open Go Go.Proofs.Tryd
set_option maxRecDepth 100000
theorem pcell_fn (O : Opq) (d : Doc) (hd : d.length ≤ 1099511627) : Fn prog 51 [.sl false 0 false 6 (O.o Doc.enc d)] [] [.agg ((O.o cellR d).en O), .int .i64 (O.o docErr d)] [] := by
  have hlen : (O.o Doc.enc d).length = d.length := by rw [O.h, Doc.enc_len]
  have hmm : O.o docErr d = 0 ↔ may d = true := by rw [O.h]; exact docErr_zero
  have h0 : O.o Cels.enc [] = [] := by rw [O.h, Cels.enc]
  cases hm : may d with
  | false =>
    have hr : O.o cellR d = noC := by rw [O.h, cellR, if_neg (by simp [hm])]
    have he : O.o docErr d ≠ 0 := by rw [Ne, hmm, hm]; decide
    rw [hr]
    clear hr hmm
    refine go (fn := Go.Proofs.Tryd.f51) (n := 33) (rv := [ResultVar.cell 2 64, ResultVar.tmp 3]) rfl (by decide) rfl (by decide +kernel) rfl rfl (by simp) fun F L C => ?_
    cbv
    (repeat' first | (refine Named.i64 ?_ fun _ _ => ?_; (focus lia); cbv) | (refine CallThen.mk _ _ (C.fn (check_fn O d (by lia))) ?_; cbv) | (refine Named.len fun _ _ hq => ?_; (try simp only [List.length_append, List.length_take, List.length_drop, List.length_replicate, List.length_set] at hq); cbv) | (refine Named.mk fun _ _ => ?_; cbv) | (refine Br.t ?_ ?_; (focus first | assumption | lia); cbv) | (refine Br.f ?_ ?_; (focus first | assumption | lia); cbv) | (refine Br.mk (fun _ => ?_) (fun _ => ?_) <;> cbv) | (refine Need.mk ?_ ?_; rotate_left; cbv) | (refine RetThen.mk [] [] ?_; cbv))
    all_goals first
      | (exfalso; lia)
      | exact ⟨h0, trivial⟩
      | trace_state
  | true =>
    have hr : O.o cellR d = O.o docC d := by simp only [O.h]; rw [cellR, if_pos hm]
    have hp : (O.o docC d).kind = 3 ∧ (O.o docC d).num = 0 ∧ (O.o docC d).text = ByteArray.empty := by rw [O.h]; exact ⟨rfl, rfl, rfl⟩
    have he : O.o docErr d = 0 := hmm.2 hm
    rw [hr, he]
    have hdl := may_len hm
    have hck := check_fn O d (by lia)
    rw [he] at hck
    clear hr hmm he
    obtain ⟨N, hN⟩ : ∃ N : Nat, N = d.length := ⟨_, rfl⟩
    obtain ⟨z, hz⟩ : ∃ z : Nat, z = 0 := ⟨_, rfl⟩
    have hz0 : O.o (fieldsC d) z = [] := by rw [O.h, hz]; rfl
    have hen : ∀ k : Nat, N ≤ k → O.o (fieldsC d) k = O.o Cels.enc (O.o docC d).list := fun k h => by simp only [O.h]; exact fieldsC_all (by omega)
    have hfl : ∀ k : Nat, k ≤ N → (O.o (fieldsC d) k).length ≤ 1099511627 := fun k h => by rw [O.h, fieldsC_len (by omega)]; omega
    refine go (fn := Go.Proofs.Tryd.f51) (n := 33) (rv := [ResultVar.cell 2 64, ResultVar.tmp 3]) rfl (by decide) rfl (by decide +kernel) rfl rfl (by simp) fun F L C => ?_
    cbv
    (repeat' first | (refine Named.i64 ?_ fun _ _ => ?_; (focus lia); cbv) | (refine CallThen.mk _ _ (C.fn (hck)) ?_; cbv) | (refine Named.len fun _ _ hq => ?_; (try simp only [List.length_append, List.length_take, List.length_drop, List.length_replicate, List.length_set] at hq); cbv) | (refine Named.mk fun _ _ => ?_; cbv) | (refine Br.t ?_ ?_; (focus first | assumption | lia); cbv) | (refine Br.f ?_ ?_; (focus first | assumption | lia); cbv) | (refine Br.mk (fun _ => ?_) (fun _ => ?_) <;> cbv) | (refine Need.mk ?_ ?_; rotate_left; cbv) | (refine RetThen.mk [] [] ?_; cbv))
    refine LoopThen.mk (C.loopAt (ι := Nat) [(5, 5), (7, 7), (16, 31)] (fun k => [(5, .ref 50), (16, .int .i64 k)]) (fun k => [(50, .arr 0 none 4 (O.o (fieldsC d) k)), (256, .box [.int .i64 0, .int .i64 0, .str ByteArray.empty, .nils])])
      (fun k => k ≤ N) (fun k => N - k) (by decide +kernel) (Start.mk z [(50, .nil 4)] [] (by lia) ?_) ?_)
    · cbv
      (repeat' apply And.intro) <;> first | exact True.intro | exact WkR.refl _ | rfl | exact hz0 | lia
    intro k g
    cbv
    by_cases hk : k < d.length
    · obtain ⟨x, hx⟩ : ∃ x, d[k]? = some x := ⟨d[k], by simp [hk]⟩
      have hst := fieldsC_more O hx
      have hll := hfl k g
      clear hen hck hz0 hfl
      (repeat' first | (refine Named.i64 ?_ fun _ _ => ?_; (focus lia); cbv) | (refine Ex.known O Field.enc rfl hx ?_ ?_; (focus lia); cbv) | (refine CallThen.mk _ _ (C.fn (ctext_fn O _)) ?_; cbv) | (refine CallThen.mk _ _ (C.fn (value_fn O ⟨_, _, _, _, _⟩)) ?_; cbv) | (refine CallThen.mk _ _ (C.fn (clist_fn _ _ _ (by simp))) ?_; cbv) | (refine Back.up [(50, .loc 2048)] [] ?_ ?_ fun _ _ => ?_; rotate_left 2; cbv; refine And.intro ?_ ?_) | (refine Named.len fun _ _ hq => ?_; (try simp only [List.length_append, List.length_take, List.length_drop, List.length_replicate, List.length_set] at hq); cbv) | (refine Named.mk fun _ _ => ?_; cbv) | (refine Br.t ?_ ?_; (focus first | assumption | lia); cbv) | (refine Br.f ?_ ?_; (focus first | assumption | lia); cbv) | (refine Br.mk (fun _ => ?_) (fun _ => ?_) <;> cbv) | (refine Need.mk ?_ ?_; rotate_left; cbv) | (refine RetThen.mk [] [] ?_; cbv))
      all_goals (repeat' apply And.intro)
      all_goals try first
        | exact True.intro
        | exact WkR.refl _
        | (clear hst hx; lia)
      all_goals first
        | (refine WkR.of_eq ?_; subst_vars; exact hst)
        | (simp only [List.length_cons, List.length_nil]; clear hst hx; lia)
        | trace_state
    · have hll := hfl k g
      have hke := hen k (by omega)
      clear hen hck hz0 hfl
      (repeat' first | (refine Named.i64 ?_ fun _ _ => ?_; (focus lia); cbv) | (refine CallThen.mk _ _ (C.fn (clist0_fn _ hll)) ?_; cbv) | (refine Named.len fun _ _ hq => ?_; (try simp only [List.length_append, List.length_take, List.length_drop, List.length_replicate, List.length_set] at hq); cbv) | (refine Named.mk fun _ _ => ?_; cbv) | (refine Br.t ?_ ?_; (focus first | assumption | lia); cbv) | (refine Br.f ?_ ?_; (focus first | assumption | lia); cbv) | (refine Br.mk (fun _ => ?_) (fun _ => ?_) <;> cbv) | (refine Need.mk ?_ ?_; rotate_left; cbv) | (refine RetThen.mk [] [] ?_; cbv))
      all_goals first
        | lia
        | exact ⟨hp.1.symm, hp.2.1.symm, hp.2.2.symm, .of_eq hke.symm, trivial⟩
        | exact ⟨hp.1, hp.2.1, hp.2.2, .of_eq hke.symm, trivial⟩
        | trace_state
end Go.Sym
