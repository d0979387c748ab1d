/- A document's cell, by the document. -/
import Derived.Test.YtfenjmhhggekaaaDoorCe7
set_option linter.all false
set_option linter.unusedVariables false
set_option linter.unusedSimpArgs false
namespace Go.Sym
open Go Go.Proofs.Tryd
set_option maxRecDepth 100000
theorem wk_nilC (O : Opq) (k n : Int) (s : ByteArray) : WkL ((Cel.mk k n s []).en O) [.int .i64 k, .int .i64 n, .str s, .nils] := by
  refine .cons (.refl _) (.cons (.refl _) (.cons (.refl _) (.cons ?_ (.refl _))))
  show Wk (.sl false 0 false 4 (O.o Cels.enc [])) .nils
  rw [O.h, Cels.enc]; exact .nil _ _
theorem wk_listC (O : Opq) (nn : Nat) {l : List Cel} {r : List (List PV)} (h : WkR (O.o Cels.enc l) r) : WkL ((listC l).en O) [.int .i64 3, .int .i64 0, .str ByteArray.empty, .sl false nn false 4 r] :=
  .cons (.refl _) (.cons (.refl _) (.cons (.refl _) (.cons (.sl' rfl rfl h) (.refl _))))
theorem wk_cons (O : Opq) {c : Cel} {l : List Cel} {x : List PV} {r : List (List PV)} (h : WkL (c.en O) x) (t : WkR (O.o Cels.enc l) r) : WkR (O.o Cels.enc (c :: l)) (x :: r) := by
  rw [O.h] at t ⊢
  rw [Cels.enc, Cel.en_eq O]; exact .cons h t
theorem wk_nil (O : Opq) : WkR (O.o Cels.enc []) [] := by rw [O.h, Cels.enc]; exact .refl _
theorem wk_field (O : Opq) {d : Doc} {k : Nat} {f : Field} (hx : d[k]? = some f) {x : List PV} {nn : Nat} (h : WkL ((O.o valC f.val).en O) x) :
    WkR (O.o (fieldsC d) (k + 1)) (O.o (fieldsC d) k ++ [[.int .i64 3, .int .i64 0, .str ByteArray.empty, .sl false nn false 4 [[.int .i64 2, .int .i64 0, .str f.path, .nils], x]]]) := by
  rw [fieldsC_more O hx]
  refine .append (.refl _) (.cons (.cons (.refl _) (.cons (.refl _) (.cons (.refl _) (.cons (.sl' rfl rfl ?_) (.refl _))))) (.refl _))
  exact .cons (wk_nilC O _ _ _) (.cons h (.refl _))
set_option maxHeartbeats 1000000 in
theorem rpcellL_fn (O : Opq) (d : Doc) (hm : may d = true) : Fn prog 53 [.sl true 0 false 6 (O.o Doc.enc d)] [] [.agg ((O.o docC d).en O)] [] := by
  have hlen : (O.o Doc.enc d).length = d.length := by rw [O.h, Doc.enc_len]
  have hdl := may_len hm
  have hp : (O.o docC d).kind = 3 ∧ (O.o docC d).num = 0 ∧ (O.o docC d).text = ByteArray.empty := by rw [O.h]; exact ⟨rfl, rfl, rfl⟩
  obtain ⟨N, hN⟩ : ∃ N : Nat, N = d.length := ⟨_, rfl⟩
  obtain ⟨z, hz⟩ : ∃ z : Nat, z = 0 := ⟨_, rfl⟩
  have hz0 : O.o (fieldsC d) z = [] := by rw [O.h, hz]; rfl
  have hen : ∀ k : Nat, N ≤ k → O.o (fieldsC d) k = O.o Cels.enc (O.o docC d).list := fun k h => by simp only [O.h]; exact fieldsC_all (by omega)
  have hfl : ∀ k : Nat, k ≤ N → (O.o (fieldsC d) k).length ≤ 16 := fun k h => by rw [O.h, fieldsC_len (by omega)]; omega
  have hva := fun f hf => (may_all hm f hf).2
  refine go (fn := Go.Proofs.Tryd.f53) (n := 55) (rv := [ResultVar.cell 2 64]) rfl (by decide) rfl (by decide +kernel) rfl rfl (by simp) fun F L C => ?_
  cbv
  (repeat' first | (refine Named.i64 ?_ fun _ _ => ?_; (focus lia); cbv) | (refine Named.len fun _ _ hq => ?_; (try simp only [List.length_append, List.length_take, List.length_drop, List.length_replicate, List.length_set] at hq); cbv) | (refine Named.mk fun _ _ => ?_; cbv) | (refine Br.t ?_ ?_; (focus first | assumption | lia); cbv) | (refine Br.f ?_ ?_; (focus first | assumption | lia); cbv) | (refine Br.mk (fun _ => ?_) (fun _ => ?_) <;> cbv) | (refine Need.mk ?_ ?_; rotate_left; cbv) | (refine RetThen.mk [] [] ?_; cbv))
  refine LoopThen.mk (C.loopAt (ι := Nat) [(4, 6), (8, 54)] (fun k => [(4, .int .i64 k)]) (fun k => [(50, .arr 0 none 4 (O.o (fieldsC d) k)), (256, .box [.int .i64 0, .int .i64 0, .str ByteArray.empty, .nils]), (320, .box [.int .i64 3, .int .i64 0, .str ByteArray.empty, .ref 50])])
    (fun k => k ≤ N) (fun k => N - k) (by decide +kernel) (Start.mk z [(50, .nil 4)] [] (by lia) ?_) ?_)
  · cbv
    (repeat' apply And.intro) <;> first | exact True.intro | exact WkR.refl _ | rfl | exact hz0 | lia
  intro k g
  cbv
  by_cases hk : k < d.length
  · obtain ⟨x, hx⟩ : ∃ x, d[k]? = some x := ⟨d[k], by simp [hk]⟩
    have hwk := fun (nn : Nat) (y : List PV) (h : WkL ((O.o valC x.val).en O) y) => wk_field O hx (nn := nn) h
    have hok := hva x (List.mem_of_getElem? hx)
    have hw2 : x.val.kind = 2 → WkL ((O.o valC x.val).en O) [.int .i64 2, .int .i64 0, .str x.val.text, .nils] := fun h => by
      rw [O.h valC, valC, if_neg (by omega), if_pos h]; exact wk_nilC O _ _ _
    have hw1 : x.val.kind = 1 → WkL ((O.o valC x.val).en O) [.int .i64 1, .int .i64 x.val.num, .str ByteArray.empty, .nils] := fun h => by
      rw [O.h valC, valC, if_pos h]; exact wk_nilC O _ _ _
    have hw3 : x.val.kind = 3 → ∀ nn, WkL ((O.o valC x.val).en O) [.int .i64 3, .int .i64 0, .str ByteArray.empty, .sl false nn false 4 [[.int .i64 1, .int .i64 x.val.re, .str ByteArray.empty, .nils], [.int .i64 1, .int .i64 x.val.im, .str ByteArray.empty, .nils]]] := fun h nn => by
      rw [O.h valC, valC, if_neg (by omega), if_neg (by omega)]
      exact wk_listC O nn (wk_cons O (wk_nilC O _ _ _) (wk_cons O (wk_nilC O _ _ _) (wk_nil O)))
    have hll := hfl k g
    have hkk : x.val.kind = 1 ∨ x.val.kind = 2 ∨ x.val.kind = 3 := by rcases hok with h | h | h <;> simp [h.1]
    clear hen hz0 hfl hva hok
    (repeat' first | (refine Named.i64 ?_ fun _ _ => ?_; (focus lia); cbv) | (refine Ex.known O Field.enc rfl hx ?_ ?_; (focus lia); cbv) | (refine Back.up [(50, .loc 3520)] [] ?_ ?_ fun _ _ => ?_; rotate_left 2; cbv; refine And.intro ?_ ?_) | (refine Named.len fun _ _ hq => ?_; (try simp only [List.length_append, List.length_take, List.length_drop, List.length_replicate, List.length_set] at hq); cbv) | (refine Named.mk fun _ _ => ?_; cbv) | (refine Br.t ?_ ?_; (focus first | assumption | lia); cbv) | (refine Br.f ?_ ?_; (focus first | assumption | lia); cbv) | (refine Br.mk (fun _ => ?_) (fun _ => ?_) <;> cbv) | (refine Need.mk ?_ ?_; rotate_left; cbv) | (refine RetThen.mk [] [] ?_; cbv))
    all_goals (repeat' apply And.intro)
    all_goals try first
      | exact True.intro
      | exact WkR.refl _
      | (clear hwk hw1 hw2 hw3 hx; lia)
      | (simp only [List.length_cons, List.length_nil]; clear hwk hw1 hw2 hw3 hx; lia)
    all_goals (try subst_vars)
    all_goals first
      | exact hwk _ _ (hw2 (by assumption))
      | exact hwk _ _ (hw3 (by assumption) _)
      | exact hwk _ _ (hw1 (by rcases hkk with h | h | h; exact h; exact absurd h (by assumption); exact absurd h (by assumption)))
      | trace_state
  · have hll := hfl k g
    have hke := hen k (by omega)
    clear hen hz0 hfl hva
    (repeat' first | (refine Named.i64 ?_ fun _ _ => ?_; (focus lia); cbv) | (refine RetThen.mk [] [50] ?_; cbv) | (refine Named.len fun _ _ hq => ?_; (try simp only [List.length_append, List.length_take, List.length_drop, List.length_replicate, List.length_set] at hq); cbv) | (refine Named.mk fun _ _ => ?_; cbv) | (refine Br.t ?_ ?_; (focus first | assumption | lia); cbv) | (refine Br.f ?_ ?_; (focus first | assumption | lia); cbv) | (refine Br.mk (fun _ => ?_) (fun _ => ?_) <;> cbv) | (refine Need.mk ?_ ?_; rotate_left; cbv) | (refine RetThen.mk [] [] ?_; cbv))
    all_goals first
      | lia
      | exact ⟨hp.1, hp.2.1, hp.2.2, Named.mk fun rs e => ⟨.of_eq (by rw [e]; exact hke.symm), by cbv⟩⟩
      | trace_state
theorem rpcell_fn (O : Opq) (d : Doc) (hm : may d = true) : Fn prog 53 [.sl false 0 false 6 (O.o Doc.enc d)] [] [.agg ((O.o docC d).en O)] [] :=
  (rpcellL_fn O d hm).wkA (.cons (.lend rfl) .nil)
end Go.Sym
