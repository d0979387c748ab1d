/- Commands, by the document. -/
import Derived.Test.YtdbpdcnpolaojaaWi2
set_option linter.all false
set_option linter.unusedVariables false
set_option linter.unusedSimpArgs false
namespace Go.Sym
open Go Go.Proofs.Try
set_option maxRecDepth 100000
theorem r16num_fn (O : Opq) (n : Int) : Fn prog 24 [.int .i64 n] [] [.agg ((numC n).en O)] [] := by
  have h0 : O.o Cels.enc [] = [] := by rw [O.h, Cels.enc]
  refine go (fn := Go.Proofs.Try.f24) (n := 4) (rv := [ResultVar.cell 2 39]) rfl (by decide) rfl (by decide +kernel) rfl rfl (by simp) fun F L C => ?_
  cbv
  (repeat' first | (refine Named.i64 ?_ fun _ _ => ?_; (focus lia); cbv) | (refine Named.len fun _ _ hq => ?_; (try simp only [List.length_append, List.length_take, List.length_drop, List.length_replicate, List.length_set] at hq); cbv) | (refine Named.mk fun _ _ => ?_; cbv) | (refine Br.t ?_ ?_; (focus first | assumption | lia); cbv) | (refine Br.f ?_ ?_; (focus first | assumption | lia); cbv) | (refine Br.mk (fun _ => ?_) (fun _ => ?_) <;> cbv) | (refine Need.mk ?_ ?_; rotate_left; cbv) | (refine RetThen.mk [] [] ?_; cbv))
  exact ⟨h0, trivial⟩
theorem r16text_fn (O : Opq) (s : ByteArray) : Fn prog 25 [.str s] [] [.agg ((textC s).en O)] [] := by
  have h0 : O.o Cels.enc [] = [] := by rw [O.h, Cels.enc]
  refine go (fn := Go.Proofs.Try.f25) (n := 4) (rv := [ResultVar.cell 2 39]) rfl (by decide) rfl (by decide +kernel) rfl rfl (by simp) fun F L C => ?_
  cbv
  (repeat' first | (refine Named.i64 ?_ fun _ _ => ?_; (focus lia); cbv) | (refine Named.len fun _ _ hq => ?_; (try simp only [List.length_append, List.length_take, List.length_drop, List.length_replicate, List.length_set] at hq); cbv) | (refine Named.mk fun _ _ => ?_; cbv) | (refine Br.t ?_ ?_; (focus first | assumption | lia); cbv) | (refine Br.f ?_ ?_; (focus first | assumption | lia); cbv) | (refine Br.mk (fun _ => ?_) (fun _ => ?_) <;> cbv) | (refine Need.mk ?_ ?_; rotate_left; cbv) | (refine RetThen.mk [] [] ?_; cbv))
  exact ⟨h0, trivial⟩
theorem r16list0_fn (r : List (List PV)) : Fn prog 23 [.sl false 0 false 4 r] [] [.agg [.int .i64 3, .int .i64 0, .str ByteArray.empty, .sl false 0 false 4 r]] [] := by
  refine go (fn := Go.Proofs.Try.f23) (n := 4) (rv := [ResultVar.cell 2 39]) rfl (by decide) rfl (by decide +kernel) rfl rfl (by simp) fun F L C => ?_
  cbv
  (repeat' first | (refine Named.i64 ?_ fun _ _ => ?_; (focus lia); cbv) | (refine Named.len fun _ _ hq => ?_; (try simp only [List.length_append, List.length_take, List.length_drop, List.length_replicate, List.length_set] at hq); cbv) | (refine Named.mk fun _ _ => ?_; cbv) | (refine Br.t ?_ ?_; (focus first | assumption | lia); cbv) | (refine Br.f ?_ ?_; (focus first | assumption | lia); cbv) | (refine Br.mk (fun _ => ?_) (fun _ => ?_) <;> cbv) | (refine Need.mk ?_ ?_; rotate_left; cbv) | (refine RetThen.mk [] [] ?_; cbv))
  exact ⟨.refl _, trivial⟩
theorem r16list_fn (nn : Nat) (full : Bool) (r : List (List PV)) : Fn prog 23 [.sl false nn full 4 r] [] [.agg [.int .i64 3, .int .i64 0, .str ByteArray.empty, .sl false 0 false 4 r]] [] :=
  (r16list0_fn r).wkA (.cons (.wk (.sl' rfl rfl (.refl _))) .nil)
theorem rnums_fn (O : Opq) (q : Int → Cel) (l : List Int) (hl : l.length ≤ 1099511) (hg : ∀ x ∈ l, Fn prog 24 [.int .i64 x] [] [.agg ((O.o q x).en O)] []) : Fn prog 26 [.sl false 0 false 1 (O.o Ints.enc l)] [] [.agg ((O.o (listQ q) l).en O)] [] := by
  have hlen : (O.o Ints.enc l).length = l.length := by rw [O.h, Ints.enc, List.length_map]
  have hp : (O.o (listQ q) l).kind = 3 ∧ (O.o (listQ q) l).num = 0 ∧ (O.o (listQ q) l).text = ByteArray.empty := by rw [O.h]; exact ⟨rfl, rfl, rfl⟩
  have hall : ∀ i, l.length ≤ i → O.o (mapI q l) i = O.o Cels.enc (O.o (listQ q) l).list := fun i h => by rw [mapI_all O h]; simp only [O.h]; rfl
  have hll : ∀ i, i ≤ l.length → (O.o (mapI q l) i).length ≤ 1099511 := fun i h => by rw [O.h, mapI_len h]; omega
  obtain ⟨N, hN⟩ : ∃ N : Nat, N = l.length := ⟨_, rfl⟩
  obtain ⟨z, hz⟩ : ∃ z : Nat, z = 0 := ⟨_, rfl⟩
  have hz0 := mapI_zero O (q := q) (l := l) hz
  refine go (fn := Go.Proofs.Try.f26) (n := 21) (rv := [ResultVar.cell 2 39]) rfl (by decide) rfl (by decide +kernel) rfl rfl (by simp) fun F L C => ?_
  cbv
  (repeat' first | (refine Named.i64 ?_ fun _ _ => ?_; (focus lia); cbv) | (refine Named.len fun _ _ hq => ?_; (try simp only [List.length_append, List.length_take, List.length_drop, List.length_replicate, List.length_set] at hq); cbv) | (refine Named.mk fun _ _ => ?_; cbv) | (refine Br.t ?_ ?_; (focus first | assumption | lia); cbv) | (refine Br.f ?_ ?_; (focus first | assumption | lia); cbv) | (refine Br.mk (fun _ => ?_) (fun _ => ?_) <;> cbv) | (refine Need.mk ?_ ?_; rotate_left; cbv) | (refine RetThen.mk [] [] ?_; cbv))
  refine LoopThen.mk (C.loopAt (ι := Nat) [(3, 4), (6, 19)] (fun i => [(3, .ref 50), (4, .int .i64 i), (5, .top)]) (fun i => [(50, .arr 0 none 4 (O.o (mapI q l) i)), (256, .box [.int .i64 0, .int .i64 0, .str ByteArray.empty, .nils])])
    (fun i => i ≤ N) (fun i => N - i) (by decide +kernel) (Start.mk z [(50, .loc 448)] [] (by lia) ?_) ?_)
  · cbv
    (repeat' apply And.intro) <;> first | exact True.intro | exact WkR.refl _ | rfl | exact .of_eq hz0 | lia
  intro i g1
  cbv
  by_cases hi : i < l.length
  · obtain ⟨x, hx⟩ : ∃ x, l[i]? = some x := ⟨l[i], by simp [hi]⟩
    have hc := hg x (List.mem_of_getElem? hx)
    have hmo := mapI_more O (q := q) hx
    have hll := hll i (by omega)
    obtain ⟨y, ey⟩ : ∃ y, y = O.o q x := ⟨_, rfl⟩
    rw [← ey] at hc hmo
    clear hg hall ey
    (repeat' first | (refine Named.i64 ?_ fun _ _ => ?_; (focus lia); cbv) | (refine Ex.known O (fun x : Int => [PV.int .i64 x]) rfl hx ?_ ?_; (focus lia); cbv) | (refine CallThen.mk _ _ (C.fn (hc)) ?_; cbv) | (refine Back.up [(50, .loc 1344)] [] ?_ ?_ fun _ _ => ?_; rotate_left 2; cbv; refine And.intro ?_ ?_) | (refine Named.len fun _ _ hq => ?_; (try simp only [List.length_append, List.length_take, List.length_drop, List.length_replicate, List.length_set] at hq); cbv) | (refine Named.mk fun _ _ => ?_; cbv) | (refine Br.t ?_ ?_; (focus first | assumption | lia); cbv) | (refine Br.f ?_ ?_; (focus first | assumption | lia); cbv) | (refine Br.mk (fun _ => ?_) (fun _ => ?_) <;> cbv) | (refine Need.mk ?_ ?_; rotate_left; cbv) | (refine RetThen.mk [] [] ?_; cbv))
    all_goals (repeat' apply And.intro)
    all_goals first
      | exact True.intro
      | exact WkR.refl _
      | (refine WkR.of_eq ?_; subst_vars; exact hmo)
      | (simp only [List.length_cons, List.length_nil]; clear hx hc hmo; lia)
      | (clear hx hc hmo; lia)
      | trace_state
  · have hall := hall i (by omega)
    clear hg
    (repeat' first | (refine Named.i64 ?_ fun _ _ => ?_; (focus lia); cbv) | (refine CallThen.mk _ _ (C.fn (r16list_fn _ _ _)) ?_; cbv) | (refine Named.len fun _ _ hq => ?_; (try simp only [List.length_append, List.length_take, List.length_drop, List.length_replicate, List.length_set] at hq); cbv) | (refine Named.mk fun _ _ => ?_; cbv) | (refine Br.t ?_ ?_; (focus first | assumption | lia); cbv) | (refine Br.f ?_ ?_; (focus first | assumption | lia); cbv) | (refine Br.mk (fun _ => ?_) (fun _ => ?_) <;> cbv) | (refine Need.mk ?_ ?_; rotate_left; cbv) | (refine RetThen.mk [] [] ?_; cbv))
    all_goals first
      | exact ⟨hp.1.symm, hp.2.1.symm, hp.2.2.symm, .of_eq hall.symm, trivial⟩
      | exact ⟨hp.1, hp.2.1, hp.2.2, .of_eq hall.symm, trivial⟩
      | (exfalso; clear hall; lia)
      | trace_state
theorem rcmd_fn (O : Opq) (c : WCmd) (hl : c.nodes.length ≤ 1099511) : Fn prog 12 [.agg (c.enc O)] [] [.agg ((O.o cmdC c).en O)] [] := by
  rw [cmdC_en]
  refine go (fn := Go.Proofs.Try.f12) (n := 22) (rv := [ResultVar.cell 2 39]) rfl (by decide) rfl (by decide +kernel) rfl rfl (by simp) fun F L C => ?_
  cbv
  (repeat' first | (refine Named.i64 ?_ fun _ _ => ?_; (focus lia); cbv) | (refine CallThen.mk _ _ (C.fn (r16num_fn O _)) ?_; cbv) | (refine CallThen.mk _ _ (C.fn (r16text_fn O _)) ?_; cbv) | (refine CallThen.mk _ _ (C.fn (rnums_fn O numC c.nodes hl (fun x _ => by rw [O.h]; exact r16num_fn O x))) ?_; cbv) | (refine CallThen.mk _ _ (C.fn (r16list_fn _ _ _)) ?_; cbv) | (refine Named.len fun _ _ hq => ?_; (try simp only [List.length_append, List.length_take, List.length_drop, List.length_replicate, List.length_set] at hq); cbv) | (refine Named.mk fun _ _ => ?_; cbv) | (refine Br.t ?_ ?_; (focus first | assumption | lia); cbv) | (refine Br.f ?_ ?_; (focus first | assumption | lia); cbv) | (refine Br.mk (fun _ => ?_) (fun _ => ?_) <;> cbv) | (refine Need.mk ?_ ?_; rotate_left; cbv) | (refine RetThen.mk [] [] ?_; cbv))
  all_goals first
    | exact ⟨.refl _, trivial⟩
    | trace_state
theorem rbytes16_fn (O : Opq) (c : Cel) (h : c.size ≤ 1099511627776) : Fn prog 11 [.agg (c.en O)] [] [.sl false 0 false 1 (O.o bts (O.o rB c)), .bool (O.o okB c)] [] := by
  have hck := rccheck_fn O c h
  have h00 : O.o bts [] = [] := by rw [O.h]; rfl
  have hby : O.o celErr c = 0 → RBytes O c := fun h => by
    rw [O.h] at h
    obtain ⟨hg, hs⟩ := celErr_good h
    exact rbytes_fn O 4096 c hs (Nat.le_refl _) hg.pure hg.short
  have hy : O.o celErr c = 0 → O.o bts (O.o rB c) = O.o bts (O.o putC c) ∧ (O.o okB c = true ↔ (O.o bts (O.o putC c)).length ≤ 16384) := fun h => by
    simp only [O.h] at h ⊢
    rw [rB, if_pos h, okB, bts_len]
    simp [h]
  have hn : O.o celErr c ≠ 0 → O.o bts (O.o rB c) = [] ∧ O.o okB c = false := fun h => by
    simp only [O.h] at h ⊢
    rw [rB, if_neg h, okB]
    exact ⟨rfl, by simp [h]⟩
  obtain ⟨e, ee⟩ : ∃ e, e = O.o celErr c := ⟨_, rfl⟩
  obtain ⟨Q, eQ⟩ : ∃ e, e = O.o bts (O.o rB c) := ⟨_, rfl⟩
  obtain ⟨K, eK⟩ : ∃ e, e = O.o okB c := ⟨_, rfl⟩
  simp only [RBytes] at hby
  obtain ⟨M, eM⟩ : ∃ e, e = O.o bts (O.o putC c) := ⟨_, rfl⟩
  rw [← ee] at hck hby hy hn
  rw [← eQ, ← eK] at hy hn ⊢
  rw [← eM] at hy hby
  clear ee eQ eK eM
  obtain ⟨k, n, t, l⟩ := c
  by_cases h0 : e = 0
  · obtain ⟨h1, h2⟩ := hy h0
    have hby := hby h0
    clear hy hn
    refine go (fn := Go.Proofs.Try.f11) (n := 13) (rv := [ResultVar.tmp 2, ResultVar.tmp 3]) rfl (by decide) rfl (by decide +kernel) rfl rfl (by simp) fun F L C => ?_
    cbv
    (repeat' first | (refine Named.i64 ?_ fun _ _ => ?_; (focus lia); cbv) | (refine CallThen.mk _ _ (C.fn (hck)) ?_; cbv) | (refine CallThen.mk _ _ (C.fn (hby)) ?_; cbv) | (refine Named.len fun _ _ hq => ?_; (try simp only [List.length_append, List.length_take, List.length_drop, List.length_replicate, List.length_set] at hq); cbv) | (refine Named.mk fun _ _ => ?_; cbv) | (refine Br.t ?_ ?_; (focus first | assumption | lia); cbv) | (refine Br.f ?_ ?_; (focus first | assumption | lia); cbv) | (refine Br.mk (fun _ => ?_) (fun _ => ?_) <;> cbv) | (refine Need.mk ?_ ?_; rotate_left; cbv) | (refine RetThen.mk [] [] ?_; cbv))
    all_goals first
      | (exfalso; clear h1 h2; lia)
      | exact ⟨.of_eq h1, h2.2 (by lia), trivial⟩
      | (refine ⟨.of_eq h1, ?_, trivial⟩
         cases hK : K with
         | false => rfl
         | true => have := h2.1 hK; exfalso; lia)
      | trace_state
  · obtain ⟨h1, h2⟩ := hn h0
    clear hy hn hby
    refine go (fn := Go.Proofs.Try.f11) (n := 13) (rv := [ResultVar.tmp 2, ResultVar.tmp 3]) rfl (by decide) rfl (by decide +kernel) rfl rfl (by simp) fun F L C => ?_
    cbv
    (repeat' first | (refine Named.i64 ?_ fun _ _ => ?_; (focus lia); cbv) | (refine CallThen.mk _ _ (C.fn (hck)) ?_; cbv) | (refine Named.len fun _ _ hq => ?_; (try simp only [List.length_append, List.length_take, List.length_drop, List.length_replicate, List.length_set] at hq); cbv) | (refine Named.mk fun _ _ => ?_; cbv) | (refine Br.t ?_ ?_; (focus first | assumption | lia); cbv) | (refine Br.f ?_ ?_; (focus first | assumption | lia); cbv) | (refine Br.mk (fun _ => ?_) (fun _ => ?_) <;> cbv) | (refine Need.mk ?_ ?_; rotate_left; cbv) | (refine RetThen.mk [] [] ?_; cbv))
    all_goals first
      | (exfalso; clear h1 h2; lia)
      | exact ⟨h1, h2, trivial⟩
      | trace_state
theorem rCmd_fn (O : Opq) (c : WCmd) (hl : c.nodes.length ≤ 1099511) : Fn prog 6 [.agg (c.enc O)] [] [.sl false 0 false 1 (O.o bts (O.o rB (O.o cmdC c))), .bool (O.o okB (O.o cmdC c))] [] := by
  have h1 := rcmd_fn O c hl
  have h2 := rbytes16_fn O (O.o cmdC c) (by rw [O.h, cmdC_size]; omega)
  obtain ⟨x, ex⟩ : ∃ x, x = O.o cmdC c := ⟨_, rfl⟩
  rw [← ex] at h1 h2 ⊢
  refine go (fn := Go.Proofs.Try.f6) (n := 8) (rv := [ResultVar.tmp 2, ResultVar.tmp 3]) rfl (by decide) rfl (by decide +kernel) rfl rfl (by simp) fun F L C => ?_
  cbv
  (repeat' first | (refine Named.i64 ?_ fun _ _ => ?_; (focus lia); cbv) | (refine CallThen.mk _ _ (C.fn (h1)) ?_; cbv) | (refine CallThen.mk _ _ (C.fn (h2)) ?_; cbv) | (refine Named.len fun _ _ hq => ?_; (try simp only [List.length_append, List.length_take, List.length_drop, List.length_replicate, List.length_set] at hq); cbv) | (refine Named.mk fun _ _ => ?_; cbv) | (refine Br.t ?_ ?_; (focus first | assumption | lia); cbv) | (refine Br.f ?_ ?_; (focus first | assumption | lia); cbv) | (refine Br.mk (fun _ => ?_) (fun _ => ?_) <;> cbv) | (refine Need.mk ?_ ?_; rotate_left; cbv) | (refine RetThen.mk [] [] ?_; cbv))
  all_goals exact ⟨.refl _, trivial⟩
theorem rints_fn (O : Opq) (d e : List Int) (hd : d.length ≤ 1099511627776) : Fn prog 32 [.sl false 0 false 1 (O.o Ints.enc d), .sl false 0 false 1 (O.o Ints.enc e)] [] [.bool (O.o sameInts d e)] [] := by
  have hlen := Ints.len O d
  have hlen2 := Ints.len O e
  have hne : d ≠ e → O.o sameInts d e = false := fun h => by simp only [O.h]; exact sameInts_no h
  have heq : d = e → O.o sameInts d e = true := fun h => by simp only [O.h]; exact sameInts_iff.2 h
  obtain ⟨Q, eQ⟩ : ∃ Q, Q = O.o sameInts d e := ⟨_, rfl⟩
  rw [← eQ] at hne heq ⊢
  obtain ⟨N, hN⟩ : ∃ N : Nat, N = d.length := ⟨_, rfl⟩
  obtain ⟨z, hz⟩ : ∃ z : Nat, z = 0 := ⟨_, rfl⟩
  refine go (fn := Go.Proofs.Try.f32) (n := 24) (rv := [ResultVar.tmp 4]) rfl (by decide) rfl (by decide +kernel) rfl rfl (by simp) fun F L C => ?_
  cbv
  (repeat' first | (refine Named.i64 ?_ fun _ _ => ?_; (focus lia); cbv) | (refine Named.len fun _ _ hq => ?_; (try simp only [List.length_append, List.length_take, List.length_drop, List.length_replicate, List.length_set] at hq); cbv) | (refine Named.mk fun _ _ => ?_; cbv) | (refine Br.t ?_ ?_; (focus first | assumption | lia); cbv) | (refine Br.f ?_ ?_; (focus first | assumption | lia); cbv) | (refine Br.mk (fun _ => ?_) (fun _ => ?_) <;> cbv) | (refine Need.mk ?_ ?_; rotate_left; cbv) | (refine RetThen.mk [] [] ?_; cbv))
  rotate_left
  · exact ⟨hne fun h => by rw [h] at hlen; lia, trivial⟩
  have hl : d.length = e.length := by lia
  refine LoopThen.mk (C.loopAt (ι := Nat) [(4, 5), (11, 25)] (fun k => [(4, .bool false), (5, .int .i64 k)]) (fun _ => [])
    (fun k => k ≤ d.length ∧ ∀ (j : Nat), j < k → d[j]? = e[j]?) (fun k => N - k) (by decide +kernel) (Start.mk z [] [] ⟨by lia, fun j hj => by omega⟩ (by cbv; (repeat' apply And.intro) <;> first | exact True.intro | exact WkR.refl _ | rfl | lia)) ?_)
  intro k g
  cbv
  have g1 : k ≤ d.length := g.1
  have g2 := g.2
  clear g
  by_cases hk : k < d.length
  · obtain ⟨x, hx⟩ : ∃ x, d[k]? = some x := ⟨d[k], by simp [hk]⟩
    obtain ⟨y, hy⟩ : ∃ y, e[k]? = some y := ⟨e[k]'(by omega), by simp⟩
    have hst : x = y → ∀ (j : Nat), j < k + 1 → d[j]? = e[j]? := fun h j hj => by
      by_cases ej : j = k
      · subst ej; rw [hx, hy, h]
      · exact g2 j (by omega)
    have hnx : x ≠ y → Q = false := fun h => hne fun e => h (by rw [e, hy] at hx; exact (Option.some.inj hx).symm)
    clear hne heq g2 eQ
    (repeat' first | (refine Named.i64 ?_ fun _ _ => ?_; (focus lia); cbv) | (refine Ex.known O (fun x : Int => [PV.int .i64 x]) rfl hx ?_ ?_; (focus lia); cbv) | (refine Ex.known O (fun x : Int => [PV.int .i64 x]) rfl hy ?_ ?_; (focus lia); cbv) | (refine Back.up [] [] ?_ ?_ fun _ _ => ?_; rotate_left 2; cbv; refine And.intro ?_ ?_) | (refine Named.len fun _ _ hq => ?_; (try simp only [List.length_append, List.length_take, List.length_drop, List.length_replicate, List.length_set] at hq); cbv) | (refine Named.mk fun _ _ => ?_; cbv) | (refine Br.t ?_ ?_; (focus first | assumption | lia); cbv) | (refine Br.f ?_ ?_; (focus first | assumption | lia); cbv) | (refine Br.mk (fun _ => ?_) (fun _ => ?_) <;> cbv) | (refine Need.mk ?_ ?_; rotate_left; cbv) | (refine RetThen.mk [] [] ?_; cbv))
    all_goals (repeat' apply And.intro)
    all_goals first
      | exact True.intro
      | exact WkR.refl _
      | exact hnx (by assumption)
      | exact hst (by assumption)
      | (clear hx hy hst hnx; lia)
      | trace_state
  · have : d = e := List.ext_getElem? fun j => by
      by_cases hj : j < d.length
      · exact g2 j (by omega)
      · rw [List.getElem?_eq_none (by omega), List.getElem?_eq_none (by omega)]
    have hq := heq this
    clear hne heq g2 eQ
    (repeat' first | (refine Named.i64 ?_ fun _ _ => ?_; (focus lia); cbv) | (refine Named.len fun _ _ hq => ?_; (try simp only [List.length_append, List.length_take, List.length_drop, List.length_replicate, List.length_set] at hq); cbv) | (refine Named.mk fun _ _ => ?_; cbv) | (refine Br.t ?_ ?_; (focus first | assumption | lia); cbv) | (refine Br.f ?_ ?_; (focus first | assumption | lia); cbv) | (refine Br.mk (fun _ => ?_) (fun _ => ?_) <;> cbv) | (refine Need.mk ?_ ?_; rotate_left; cbv) | (refine RetThen.mk [] [] ?_; cbv))
    all_goals first
      | exact ⟨hq, trivial⟩
      | (exfalso; lia)
      | trace_state
theorem rsamecmd_fn (O : Opq) (c : WCmd) (hl : c.nodes.length ≤ 1099511627776) : Fn prog 8 [.agg (c.enc O), .agg (c.enc O)] [] [.bool true] [] := by
  have hi := rints_fn O c.nodes c.nodes hl
  rw [show O.o sameInts c.nodes c.nodes = true by simp only [O.h]; exact sameInts_iff.2 rfl] at hi
  have h : Fn prog 15 [.agg (c.enc O), .agg (c.enc O)] [] [.bool true] [] := by
    refine go (fn := Go.Proofs.Try.f15) (n := 43) (rv := [ResultVar.tmp 4]) rfl (by decide) rfl (by decide +kernel) rfl rfl (by simp) fun F L C => ?_
    cbv
    (repeat' first | (refine Named.i64 ?_ fun _ _ => ?_; (focus lia); cbv) | (refine CallThen.mk _ _ (C.fn (hi)) ?_; cbv) | (refine Named.len fun _ _ hq => ?_; (try simp only [List.length_append, List.length_take, List.length_drop, List.length_replicate, List.length_set] at hq); cbv) | (refine Named.mk fun _ _ => ?_; cbv) | (refine Br.t ?_ ?_; (focus first | assumption | lia); cbv) | (refine Br.f ?_ ?_; (focus first | assumption | lia); cbv) | (refine Br.mk (fun _ => ?_) (fun _ => ?_) <;> cbv) | (refine Need.mk ?_ ?_; rotate_left; cbv) | (refine RetThen.mk [] [] ?_; cbv))
    all_goals first
      | exact ⟨rfl, trivial⟩
      | (exfalso; rename_i h; exact h rfl)
      | trace_state
  refine go (fn := Go.Proofs.Try.f8) (n := 6) (rv := [ResultVar.tmp 4]) rfl (by decide) rfl (by decide +kernel) rfl rfl (by simp) fun F L C => ?_
  cbv
  (repeat' first | (refine Named.i64 ?_ fun _ _ => ?_; (focus lia); cbv) | (refine CallThen.mk _ _ (C.fn (h)) ?_; cbv) | (refine Named.len fun _ _ hq => ?_; (try simp only [List.length_append, List.length_take, List.length_drop, List.length_replicate, List.length_set] at hq); cbv) | (refine Named.mk fun _ _ => ?_; cbv) | (refine Br.t ?_ ?_; (focus first | assumption | lia); cbv) | (refine Br.f ?_ ?_; (focus first | assumption | lia); cbv) | (refine Br.mk (fun _ => ?_) (fun _ => ?_) <;> cbv) | (refine Need.mk ?_ ?_; rotate_left; cbv) | (refine RetThen.mk [] [] ?_; cbv))
theorem wok {c : Cel} : okB c = true ↔ wE c = 0 := by
  rw [okB, wE, decide_eq_true_eq]
  split <;> simp_all
def awCmd : WCmd := ⟨6, 0, 0, 0, ByteArray.empty, []⟩
def awBytes : ByteArray := ⟨#[3, 6, 1, 12, 1, 0, 1, 0, 1, 0, 2, 0, 3, 0]⟩
theorem awCmd_put : putC (cmdC awCmd) = awBytes.data.toList := by
  have hz : ∀ n, n < 128 → numB n = [UInt8.ofNat n] := fun n h => numB_lo h
  simp only [cmdC, awCmd, listC, numC, textC, numsC, putC, putCs, List.map_nil, if_true, zig]
  simp [hz, awBytes]
theorem awCmd_ok : celErr (cmdC awCmd) = 0 := by
  rw [celErr, if_neg (by decide), if_neg, if_neg]
  · simp [cmdC, awCmd, listC, numC, textC, numsC, countC, countCs]
  · simp [cmdC, awCmd, listC, numC, textC, numsC, pureC, pureCs]
theorem aw_read : rdV cmdOf cmdBad zeroCmd awBytes.data.toList = awCmd ∧ rdE cmdBad awBytes.data.toList = 0 := by
  have h := rdV_put (q := cmdOf) (bad := cmdBad) (zero := zeroCmd) awCmd_ok (by rw [awCmd_put]; decide) (cmdOf_cmdC awCmd).2
  rw [awCmd_put, (cmdOf_cmdC awCmd).1] at h
  exact h
theorem awake16_fn (O : Opq) : Fn prog 4 [] [] [.bool true] [] := by
  have h1 := wCmd_fn O awCmd (by simp [awCmd])
  have hwE : wE (cmdC awCmd) = 0 := by rw [wE, if_pos ⟨awCmd_ok, by rw [awCmd_put]; decide⟩]
  have hwB : wB (cmdC awCmd) = awBytes.data.toList := by rw [wB, if_pos hwE, awCmd_put]
  rw [show O.o wE (O.o cmdC awCmd) = 0 by simp only [O.h]; exact hwE, show O.o wB (O.o cmdC awCmd) = awBytes.data.toList by simp only [O.h]; exact hwB] at h1
  have h1' : Fn prog 5 [.agg [.int .i64 6, .int .i64 0, .int .i64 0, .int .i64 0, .str ByteArray.empty, .nils]] [] [.sl false 0 false 1 (O.o bts awBytes.data.toList), .int .i64 0] [] := by
    refine h1.wkA (.cons (.agg' (.cons (.refl _) (.cons (.refl _) (.cons (.refl _) (.cons (.refl _) (.cons (.refl _) (.cons (.wk ?_) .nil))))))) .nil)
    show Wk (.sl false 0 false 1 (O.o Ints.enc [])) _
    rw [O.h]; exact .nil _ _
  have h2 := (cmdOf_fn O awBytes.data.toList (by decide)).wkA (args' := [.sl false 0 false 1 (O.o bts awBytes.data.toList)]) (.cons (.lend rfl) .nil)
  rw [show O.o (rdV cmdOf cmdBad zeroCmd) awBytes.data.toList = awCmd by rw [O.h]; exact aw_read.1, show O.o (rdE cmdBad) awBytes.data.toList = 0 by rw [O.h]; exact aw_read.2] at h2
  have hby : O.o bts awBytes.data.toList = byteRows awBytes := by rw [O.h, byteRows_eq]
  obtain ⟨M, eM⟩ : ∃ M, M = O.o bts awBytes.data.toList := ⟨_, rfl⟩
  rw [← eM] at h1' h2 hby
  clear h1 eM
  refine go (fn := Go.Proofs.Try.f4) (n := 31) (rv := [ResultVar.tmp 0]) rfl (by decide) rfl (by decide +kernel) rfl rfl (by simp) fun F L C => ?_
  cbv
  (repeat' first | (refine Named.i64 ?_ fun _ _ => ?_; (focus lia); cbv) | (refine CallThen.mk _ _ (C.fn (h1')) ?_; cbv) | (refine CallThen.mk _ _ (C.fn (h2)) ?_; cbv) | (refine Ex.mk awBytes ?_ ?_; rotate_left; cbv) | (refine Named.len fun _ _ hq => ?_; (try simp only [List.length_append, List.length_take, List.length_drop, List.length_replicate, List.length_set] at hq); cbv) | (refine Named.mk fun _ _ => ?_; cbv) | (refine Br.t ?_ ?_; (focus first | assumption | lia); cbv) | (refine Br.f ?_ ?_; (focus first | assumption | lia); cbv) | (refine Br.mk (fun _ => ?_) (fun _ => ?_) <;> cbv) | (refine Need.mk ?_ ?_; rotate_left; cbv) | (refine RetThen.mk [] [] ?_; cbv))
  all_goals first
    | exact hby
    | exact ⟨rfl, trivial⟩
    | (exfalso; rename_i h; exact h rfl)
    | trace_state
theorem wireCmds_fn (O : Opq) (c : WCmd) (hl : c.nodes.length ≤ 9223372036854775807) (hs : c.defn.size ≤ 9223372036854775807) : Fn prog 3 [.agg (c.enc O)] [] [.bool true] [] := by
  have hlen := Ints.len O c.nodes
  have haw := awake16_fn O
  by_cases hg : 100 < c.nodes.length ∨ 3000 < c.defn.size
  · refine go (fn := Go.Proofs.Try.f3) (n := 67) (rv := [ResultVar.tmp 2]) rfl (by decide) rfl (by decide +kernel) rfl rfl (by simp) fun F L C => ?_
    cbv
    (repeat' first | (refine Named.i64 ?_ fun _ _ => ?_; (focus lia); cbv) | (refine CallThen.mk _ _ (C.fn (haw)) ?_; cbv) | (refine Named.len fun _ _ hq => ?_; (try simp only [List.length_append, List.length_take, List.length_drop, List.length_replicate, List.length_set] at hq); cbv) | (refine Named.mk fun _ _ => ?_; cbv) | (refine Br.t ?_ ?_; (focus first | assumption | lia); cbv) | (refine Br.f ?_ ?_; (focus first | assumption | lia); cbv) | (refine Br.mk (fun _ => ?_) (fun _ => ?_) <;> cbv) | (refine Need.mk ?_ ?_; rotate_left; cbv) | (refine RetThen.mk [] [] ?_; cbv))
    all_goals first
      | exact ⟨rfl, trivial⟩
      | (exfalso; lia)
      | trace_state
  have hw := wCmd_fn O c (by omega)
  have hr := rCmd_fn O c (by omega)
  have hsm := rsamecmd_fn O c (by omega)
  obtain ⟨x, ex⟩ : ∃ x, x = O.o cmdC c := ⟨_, rfl⟩
  have ex2 : x = cmdC c := by rw [ex, O.h]
  rw [← ex] at hw hr
  have hok : O.o okB x = okB x := by rw [O.h]
  cases hk : okB x with
  | false =>
    have hwE : O.o wE x = 1 := by
      rw [O.h]
      have : ¬ wE x = 0 := fun h => by rw [wok.2 h] at hk; cases hk
      rw [wE] at this ⊢; split at this <;> simp_all
    have hwB : O.o bts (O.o wB x) = [] := by
      simp only [O.h] at hwE ⊢
      rw [wB, if_neg (by rw [hwE]; decide)]; rfl
    rw [hwE, hwB] at hw
    rw [hok, hk] at hr
    clear hok ex ex2
    refine go (fn := Go.Proofs.Try.f3) (n := 67) (rv := [ResultVar.tmp 2]) rfl (by decide) rfl (by decide +kernel) rfl rfl (by simp) fun F L C => ?_
    cbv
    (repeat' first | (refine Named.i64 ?_ fun _ _ => ?_; (focus lia); cbv) | (refine CallThen.mk _ _ (C.fn (hw)) ?_; cbv) | (refine CallThen.mk _ _ (C.fn (hr)) ?_; cbv) | (refine CallThen.mk _ _ (C.fn (haw)) ?_; cbv) | (refine Named.len fun _ _ hq => ?_; (try simp only [List.length_append, List.length_take, List.length_drop, List.length_replicate, List.length_set] at hq); cbv) | (refine Named.mk fun _ _ => ?_; cbv) | (refine Br.t ?_ ?_; (focus first | assumption | lia); cbv) | (refine Br.f ?_ ?_; (focus first | assumption | lia); cbv) | (refine Br.mk (fun _ => ?_) (fun _ => ?_) <;> cbv) | (refine Need.mk ?_ ?_; rotate_left; cbv) | (refine RetThen.mk [] [] ?_; cbv))
    all_goals first
      | exact ⟨rfl, trivial⟩
      | (exfalso; lia)
      | (exfalso; rename_i h; exact h rfl)
      | trace_state
  | true =>
    have h0 := wok.1 hk
    have hwE : O.o wE x = 0 := by rw [O.h]; exact h0
    have hE : celErr x = 0 ∧ (putC x).length ≤ 16384 := by simpa [okB] using hk
    have hwB : O.o bts (O.o wB x) = O.o bts (putC x) := by simp only [O.h]; rw [wB, if_pos h0]
    have hrB : O.o bts (O.o rB x) = O.o bts (putC x) := by simp only [O.h]; rw [rB, if_pos hE.1]
    rw [hwE, hwB] at hw
    rw [hok, hk, hrB] at hr
    have hrd := rdV_put (q := cmdOf) (bad := cmdBad) (zero := zeroCmd) hE.1 hE.2 (by rw [ex2]; exact (cmdOf_cmdC c).2)
    have hco := (cmdOf_fn O (putC x) (by omega)).wkA (args' := [.sl false 0 false 1 (O.o bts (putC x))]) (.cons (.lend rfl) .nil)
    rw [show O.o (rdV cmdOf cmdBad zeroCmd) (putC x) = c by rw [O.h, hrd.1, ex2]; exact (cmdOf_cmdC c).1, show O.o (rdE cmdBad) (putC x) = 0 by rw [O.h]; exact hrd.2] at hco
    obtain ⟨M, eM⟩ : ∃ M, M = O.o bts (putC x) := ⟨_, rfl⟩
    have hby : M = byteRows (bytesOf (putC x)) := by rw [eM, bts_bytes, O.h]
    obtain ⟨S, eS⟩ : ∃ S, S = bytesOf (putC x) := ⟨_, rfl⟩
    rw [← eM] at hw hr hco
    rw [← eS] at hby
    clear hok ex ex2 eM eS hrd hE hwB hrB h0
    refine go (fn := Go.Proofs.Try.f3) (n := 67) (rv := [ResultVar.tmp 2]) rfl (by decide) rfl (by decide +kernel) rfl rfl (by simp) fun F L C => ?_
    cbv
    (repeat' first | (refine Named.i64 ?_ fun _ _ => ?_; (focus lia); cbv) | (refine CallThen.mk _ _ (C.fn (hw)) ?_; cbv) | (refine CallThen.mk _ _ (C.fn (hr)) ?_; cbv) | (refine CallThen.mk _ _ (C.fn (hco)) ?_; cbv) | (refine CallThen.mk _ _ (C.fn (hsm)) ?_; cbv) | (refine CallThen.mk _ _ (C.fn (haw)) ?_; cbv) | (refine Ex.mk S ?_ ?_; rotate_left; cbv) | (refine Named.len fun _ _ hq => ?_; (try simp only [List.length_append, List.length_take, List.length_drop, List.length_replicate, List.length_set] at hq); cbv) | (refine Named.mk fun _ _ => ?_; cbv) | (refine Br.t ?_ ?_; (focus first | assumption | lia); cbv) | (refine Br.f ?_ ?_; (focus first | assumption | lia); cbv) | (refine Br.mk (fun _ => ?_) (fun _ => ?_) <;> cbv) | (refine Need.mk ?_ ?_; rotate_left; cbv) | (refine RetThen.mk [] [] ?_; cbv))
    all_goals first
      | exact hby
      | exact ⟨rfl, trivial⟩
      | (exfalso; rename_i h; exact h rfl)
      | (exfalso; lia)
      | trace_state
end Go.Sym
