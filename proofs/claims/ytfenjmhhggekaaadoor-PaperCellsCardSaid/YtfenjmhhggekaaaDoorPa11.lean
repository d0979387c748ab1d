/- Documents, by the document. -/
import Derived.Test.YtfenjmhhggekaaaDoorPa10
set_option linter.all false
set_option linter.unusedVariables false
set_option linter.unusedSimpArgs false
namespace Go.Sym
open Go Go.Proofs.Tryd
set_option maxRecDepth 100000
theorem none_fn (O : Opq) (d : Doc) (e want : Int) : Fn prog 26 [.sl false 0 false 6 (O.o Doc.enc d), .int .i64 e, .int .i64 want] [] [.bool (O.o noneB d e want)] [] := by
  have hlen : (O.o Doc.enc d).length = d.length := by rw [O.h, Doc.enc_len]
  refine go (fn := Go.Proofs.Tryd.f26) (n := 12) (rv := [ResultVar.tmp 6]) rfl (by decide) rfl (by decide +kernel) rfl rfl (by simp) fun F L C => ?_
  cbv
  (repeat' first | (refine Named.i64 ?_ fun _ _ => ?_; (focus lia); cbv) | (refine Named.len fun _ _ hq => ?_; (try simp only [List.length_append, List.length_take, List.length_drop, List.length_replicate, List.length_set] at hq); cbv) | (refine Named.mk fun _ _ => ?_; cbv) | (refine Br.t ?_ ?_; (focus first | assumption | lia); cbv) | (refine Br.f ?_ ?_; (focus first | assumption | lia); cbv) | (refine Br.mk (fun _ => ?_) (fun _ => ?_) <;> cbv) | (refine Need.mk ?_ ?_; rotate_left; cbv) | (refine RetThen.mk [] [] ?_; cbv))
  all_goals refine ⟨?_, trivial⟩
  all_goals simp only [O.h, noneB] at *
  all_goals first | (rw [decide_eq_true_eq]; lia) | (rw [decide_eq_false_iff_not]; lia)
theorem rdrop_fn (O : Opq) (d : Doc) (p : ByteArray) (hd : d.length ≤ 1099511627) : Fn prog 27 [.sl false 0 false 6 (O.o Doc.enc d), .str p] [] [.sl false 0 false 6 (O.o Doc.enc (O.o (delF (hasP p)) d))] [] := by
  have hlen : (O.o Doc.enc d).length = d.length := by rw [O.h, Doc.enc_len]
  obtain ⟨N, hN⟩ : ∃ N : Nat, N = d.length := ⟨_, rfl⟩
  obtain ⟨z, hz⟩ : ∃ z : Nat, z = 0 := ⟨_, rfl⟩
  refine go (fn := Go.Proofs.Tryd.f27) (n := 27) (rv := [ResultVar.tmp 4]) rfl (by decide) rfl (by decide +kernel) rfl rfl (by simp) fun F L C => ?_
  cbv
  (repeat' first | (refine Named.i64 ?_ fun _ _ => ?_; (focus lia); cbv) | (refine Named.len fun _ _ hq => ?_; (try simp only [List.length_append, List.length_take, List.length_drop, List.length_replicate, List.length_set] at hq); cbv) | (refine Named.mk fun _ _ => ?_; cbv) | (refine Br.t ?_ ?_; (focus first | assumption | lia); cbv) | (refine Br.f ?_ ?_; (focus first | assumption | lia); cbv) | (refine Br.mk (fun _ => ?_) (fun _ => ?_) <;> cbv) | (refine Need.mk ?_ ?_; rotate_left; cbv) | (refine RetThen.mk [] [] ?_; cbv))
  refine LoopThen.mk (C.loopAt (ι := Nat) [(5, 6), (8, 27)] (fun k => [(5, .ref 576), (6, .int .i64 k), (7, .top)]) (fun k => [(576, .arr 0 none 6 (O.o (keepR (notP p) d) k))])
    (fun k => k ≤ d.length) (fun k => N - k) (by decide +kernel) (Start.mk z [] [] (by lia) ?_) ?_)
  · cbv
    refine ⟨.of_eq (by simp only [O.h]; rw [hz]; rfl), ?_⟩
    (repeat' apply And.intro) <;> first | exact True.intro | exact WkR.refl _ | rfl | lia
  intro k h1
  have hkl : (O.o (keepR (notP p) d) k).length ≤ k := by rw [O.h]; exact keepR_len _ _ _
  cbv
  (repeat' first | (refine Named.i64 ?_ fun _ _ => ?_; (focus lia); cbv) | (refine Ex.map O Field.enc rfl ?_ fun _ _ => ?_; rotate_left; cbv) | (fail) | (refine Back.up [(576, .loc 1856)] [] ?_ ?_ fun _ _ => ?_; rotate_left 2; cbv; refine And.intro ?_ ?_) | (refine Back.up [] [] ?_ ?_ fun _ _ => ?_; rotate_left 2; cbv; refine And.intro ?_ ?_) | (refine RetThen.mk [] [576] ?_; cbv) | (refine Named.len fun _ _ hq => ?_; (try simp only [List.length_append, List.length_take, List.length_drop, List.length_replicate, List.length_set] at hq); cbv) | (refine Named.mk fun _ _ => ?_; cbv) | (refine Br.t ?_ ?_; (focus first | assumption | lia); cbv) | (refine Br.f ?_ ?_; (focus first | assumption | lia); cbv) | (refine Br.mk (fun _ => ?_) (fun _ => ?_) <;> cbv) | (refine Need.mk ?_ ?_; rotate_left; cbv) | (refine RetThen.mk [] [] ?_; cbv))
  all_goals (try simp only [List.length_cons, List.length_nil])
  all_goals (repeat' apply And.intro)
  all_goals try first
    | exact True.intro
    | exact WkR.refl _
    | lia
  all_goals (try subst_vars)
  all_goals simp only [O.h, natTo] at *
  all_goals try first
    | exact WkR.of_eq (keepR_no (by assumption) (by simp_all [notP, hasP]))
    | exact WkR.of_eq (keepR_yes (by assumption) (by simp_all [notP, hasP]))
    | exact WkR.of_eq (by rw [keepR_all (by lia)]; rw [delF_notP])
  all_goals trace_state
theorem runder_fn (O : Opq) (d : Doc) (p : ByteArray) (hd : d.length ≤ 1099511627) (hp : p.size ≤ 1099511627776) : Fn prog 28 [.sl false 0 false 6 (O.o Doc.enc d), .str p] [] [.sl false 0 false 6 (O.o Doc.enc (O.o (delF (notUnder p)) d))] [] := by
  have hlen : (O.o Doc.enc d).length = d.length := by rw [O.h, Doc.enc_len]
  obtain ⟨N, hN⟩ : ∃ N : Nat, N = d.length := ⟨_, rfl⟩
  obtain ⟨z, hz⟩ : ∃ z : Nat, z = 0 := ⟨_, rfl⟩
  refine go (fn := Go.Proofs.Tryd.f28) (n := 51) (rv := [ResultVar.tmp 4]) rfl (by decide) rfl (by decide +kernel) rfl rfl (by simp) fun F L C => ?_
  cbv
  (repeat' first | (refine Named.i64 ?_ fun _ _ => ?_; (focus lia); cbv) | (refine Named.len fun _ _ hq => ?_; (try simp only [List.length_append, List.length_take, List.length_drop, List.length_replicate, List.length_set] at hq); cbv) | (refine Named.mk fun _ _ => ?_; cbv) | (refine Br.t ?_ ?_; (focus first | assumption | lia); cbv) | (refine Br.f ?_ ?_; (focus first | assumption | lia); cbv) | (refine Br.mk (fun _ => ?_) (fun _ => ?_) <;> cbv) | (refine Need.mk ?_ ?_; rotate_left; cbv) | (refine RetThen.mk [] [] ?_; cbv))
  refine LoopThen.mk (C.loopAt (ι := Nat) [(5, 7), (9, 51)] (fun k => [(5, .ref 640), (6, .int .i64 k), (7, .top), (8, .top)]) (fun k => [(640, .arr 0 none 6 (O.o (keepR (isUnder p) d) k))])
    (fun k => k ≤ d.length) (fun k => N - k) (by decide +kernel) (Start.mk z [] [] (by lia) ?_) ?_)
  · cbv
    refine ⟨.of_eq (by simp only [O.h]; rw [hz]; rfl), ?_⟩
    (repeat' apply And.intro) <;> first | exact True.intro | exact WkR.refl _ | rfl | lia
  intro k h1
  have hkl : (O.o (keepR (isUnder p) d) k).length ≤ k := by rw [O.h]; exact keepR_len _ _ _
  cbv
  (repeat' first | (refine Named.i64 ?_ fun _ _ => ?_; (focus lia); cbv) | (refine Ex.map O Field.enc rfl ?_ fun _ _ => ?_; rotate_left; cbv) | (fail) | (refine Back.up [(640, .loc 3392)] [] ?_ ?_ fun _ _ => ?_; rotate_left 2; cbv; refine And.intro ?_ ?_) | (refine Back.up [] [] ?_ ?_ fun _ _ => ?_; rotate_left 2; cbv; refine And.intro ?_ ?_) | (refine RetThen.mk [] [640] ?_; cbv) | (refine Named.len fun _ _ hq => ?_; (try simp only [List.length_append, List.length_take, List.length_drop, List.length_replicate, List.length_set] at hq); cbv) | (refine Named.mk fun _ _ => ?_; cbv) | (refine Br.t ?_ ?_; (focus first | assumption | lia); cbv) | (refine Br.f ?_ ?_; (focus first | assumption | lia); cbv) | (refine Br.mk (fun _ => ?_) (fun _ => ?_) <;> cbv) | (refine Need.mk ?_ ?_; rotate_left; cbv) | (refine RetThen.mk [] [] ?_; cbv))
  all_goals (try simp only [List.length_cons, List.length_nil])
  all_goals (repeat' apply And.intro)
  all_goals try first
    | exact True.intro
    | exact WkR.refl _
    | lia
  all_goals (try subst_vars)
  all_goals simp only [O.h, natTo] at *
  all_goals try first
    | exact WkR.of_eq (keepR_no (by assumption) (isUnder_not.2 (by grind)))
    | exact WkR.of_eq (keepR_yes (by assumption) (isUnder_iff.2 (by grind)))
    | exact WkR.of_eq (by rw [keepR_all (by lia)]; rw [delF_under])
  all_goals trace_state
theorem rset_fn (O : Opq) (d : Doc) (p : ByteArray) (v : Val) (hd : d.length ≤ 1099511627) : Fn prog 30 [.sl false 0 false 6 (O.o Doc.enc d), .str p, .agg v.enc] [] [.sl false 0 false 6 (O.o Doc.enc (O.o rsetD d p v))] [] := by
  have hlen : (O.o Doc.enc d).length = d.length := by rw [O.h, Doc.enc_len]
  obtain ⟨N, hN⟩ : ∃ N : Nat, N = d.length := ⟨_, rfl⟩
  obtain ⟨z, hz⟩ : ∃ z : Nat, z = 0 := ⟨_, rfl⟩
  refine go (fn := Go.Proofs.Tryd.f30) (n := 54) (rv := [ResultVar.tmp 6]) rfl (by decide) rfl (by decide +kernel) rfl rfl (by simp) fun F L C => ?_
  cbv
  (repeat' first | (refine Named.i64 ?_ fun _ _ => ?_; (focus lia); cbv) | (refine Named.len fun _ _ hq => ?_; (try simp only [List.length_append, List.length_take, List.length_drop, List.length_replicate, List.length_set] at hq); cbv) | (refine Named.mk fun _ _ => ?_; cbv) | (refine Br.t ?_ ?_; (focus first | assumption | lia); cbv) | (refine Br.f ?_ ?_; (focus first | assumption | lia); cbv) | (refine Br.mk (fun _ => ?_) (fun _ => ?_) <;> cbv) | (refine Need.mk ?_ ?_; rotate_left; cbv) | (refine RetThen.mk [] [] ?_; cbv))
  refine LoopThen.mk (C.loopAt (ι := Nat) [(7, 9), (11, 47)] (fun k => [(7, .ref 768), (8, .bool (O.o (rPut p v d) k)), (9, .int .i64 k), (10, .top)]) (fun k => [(448, .box v.enc), (768, .arr 0 none 6 (O.o (rRows p v d) k))])
    (fun k => k ≤ d.length) (fun k => N - k) (by decide +kernel) (Start.mk z [] [] (by lia) ?_) ?_)
  · cbv
    (repeat' apply And.intro) <;> first | exact True.intro | exact WkR.refl _ | rfl | (exact .of_eq (by simp only [O.h]; rw [hz]; rfl)) | (simp only [O.h]; rw [hz]; rfl) | lia
  intro k h1
  have hkl : (O.o (rRows p v d) k).length ≤ 2 * k := by rw [O.h, rRows, Doc.enc_len]; exact rfold_len _ _ _ _
  obtain ⟨b, hb⟩ : ∃ b, b = O.o (rPut p v d) k := ⟨_, rfl⟩
  rw [← hb]
  have hb' : (rfold p v d k).2 = b := by rw [hb, O.h]; rfl
  clear hb
  by_cases hk : k < d.length
  · obtain ⟨x, hx⟩ : ∃ x, d[k]? = some x := ⟨d[k], by simp [hk]⟩
    have e := rfold_succ (p := p) (v := v) hx
    cases b
    all_goals
      cbv
      (repeat' first | (refine Named.i64 ?_ fun _ _ => ?_; (focus lia); cbv) | (refine Ex.known O Field.enc rfl hx ?_ ?_; (focus lia); cbv) | (refine Back.up [(768, .loc 3136)] [] ?_ ?_ fun _ _ => ?_; rotate_left 2; cbv; refine And.intro ?_ ?_) | (refine Back.up [(768, .loc 2240)] [] ?_ ?_ fun _ _ => ?_; rotate_left 2; cbv; refine And.intro ?_ ?_) | (refine Back.up [] [] ?_ ?_ fun _ _ => ?_; rotate_left 2; cbv; refine And.intro ?_ ?_) | (refine Named.len fun _ _ hq => ?_; (try simp only [List.length_append, List.length_take, List.length_drop, List.length_replicate, List.length_set] at hq); cbv) | (refine Named.mk fun _ _ => ?_; cbv) | (refine Br.t ?_ ?_; (focus first | assumption | lia); cbv) | (refine Br.f ?_ ?_; (focus first | assumption | lia); cbv) | (refine Br.mk (fun _ => ?_) (fun _ => ?_) <;> cbv) | (refine Need.mk ?_ ?_; rotate_left; cbv) | (refine RetThen.mk [] [] ?_; cbv))
    all_goals (try simp only [List.length_cons, List.length_nil])
    all_goals (repeat' apply And.intro)
    all_goals try first
      | exact True.intro
      | exact WkR.refl _
      | rfl
      | lia
      | (simp only [List.length_append, List.length_cons, List.length_nil]; lia)
    all_goals try first
      | (simp only [List.length_cons, List.length_nil] at *; lia)
      | (simp_all [O.h, rPut, rstep, rput]; done)
      | (refine WkR.of_eq ?_; simp_all [O.h, rRows, rstep, rput, Doc.enc, Field.enc, Val.enc]; done)
  · cases b
    all_goals
      cbv
      (repeat' first | (refine Named.i64 ?_ fun _ _ => ?_; (focus lia); cbv) | (refine RetThen.mk [] [768, 3648] ?_; cbv) | (refine Named.len fun _ _ hq => ?_; (try simp only [List.length_append, List.length_take, List.length_drop, List.length_replicate, List.length_set] at hq); cbv) | (refine Named.mk fun _ _ => ?_; cbv) | (refine Br.t ?_ ?_; (focus first | assumption | lia); cbv) | (refine Br.f ?_ ?_; (focus first | assumption | lia); cbv) | (refine Br.mk (fun _ => ?_) (fun _ => ?_) <;> cbv) | (refine Need.mk ?_ ?_; rotate_left; cbv) | (refine RetThen.mk [] [] ?_; cbv))
    all_goals (try simp only [List.length_cons, List.length_nil])
    all_goals (repeat' apply And.intro)
    all_goals try first
      | exact True.intro
      | lia
      | (simp only [List.length_cons, List.length_nil] at *; lia)
    all_goals
      have hkd : k = d.length := by clear hkl hb'; lia
      subst hkd
      refine WkR.of_eq ?_
      simp_all [O.h, rsetD, rRows, Doc.enc, Field.enc, Val.enc]
end Go.Sym
