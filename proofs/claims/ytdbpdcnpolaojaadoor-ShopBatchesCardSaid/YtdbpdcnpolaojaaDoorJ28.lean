/- The law ShopBatches, walked. -/
import Derived.Test.YtdbpdcnpolaojaaDoorJ26
import Derived.Test.YtdbpdcnpolaojaaDoorJ27
import Derived.Test.YtdbpdcnpolaojaaDoorJ9
import Derived.Test.YtdbpdcnpolaojaaDoorJ4
import Derived.Test.YtdbpdcnpolaojaaDoorJ7
set_option linter.all false
set_option linter.unusedVariables false
set_option linter.unusedSimpArgs false
namespace Go.Sym
open Go Go.Proofs.Tryd
set_option maxRecDepth 100000
theorem apply_batchO (O : Opq) (l : List Ndoc) (ops : List Opn) (t : Int) (ht : 0 ≤ t ∧ t ≤ 2147483643) (hm : mayD l = true) (hs : SmallO (batchO ops) 1099511627) (R1 : List Ndoc) (R2 : Answer) (R3 : List Change) (hR : applyR l (batchO ops) t = (R1, R2, R3)) : Fn prog 9 [.sl false 0 false 2 (O.o (Nms.enc O) l), .agg [.int .i64 6, .str ByteArray.empty, .str ByteArray.empty, .nils, .nils, .bool false, .int .i64 0, .int .i64 0, .sl false 0 false 11 (O.o (Ops.enc O) ops), .nils, .nils], .int .i64 t] [] [.sl false 0 false 2 (O.o (Nms.enc O) R1), .agg (R2.enc O), .sl false 0 false 4 (O.o (Chs.enc O) R3), .int .i64 0] [] := by
  have h := apply_ok O l (batchO ops) t hm ht hs _ _ _ hR
  have e1 : O.o (Nms.enc O) [] = [] := by rw [O.h]; rfl
  have e2 : O.o (Chs.enc O) [] = [] := by rw [O.h]; rfl
  have e4 : O.o Doc.enc [] = [] := by rw [O.h]; rfl
  have ea : (batchO ops).en O = [.int .i64 6, .str ByteArray.empty, .str ByteArray.empty, .sl false 0 false 6 [], .sl false 0 false 6 [], .bool false, .int .i64 0, .int .i64 0, .sl false 0 false 11 (O.o (Ops.enc O) ops), .sl false 0 false 2 [], .sl false 0 false 4 []] := by
    rw [show (batchO ops).en O = [.int .i64 6, .str ByteArray.empty, .str ByteArray.empty, .sl false 0 false 6 (O.o Doc.enc []), .sl false 0 false 6 (O.o Doc.enc []), .bool false, .int .i64 0, .int .i64 0, .sl false 0 false 11 (O.o (Ops.enc O) ops), .sl false 0 false 2 (O.o (Nms.enc O) []), .sl false 0 false 4 (O.o (Chs.enc O) [])] from rfl, e4, e2, e1]
  rw [ea] at h
  refine h.wkA (.cons (.refl _) (.cons (.agg' ?_) (.cons (.refl _) .nil)))
  exact .cons (.refl _) (.cons (.refl _) (.cons (.refl _) (.cons (.wk (.nil _ _)) (.cons (.wk (.nil _ _)) (.cons (.refl _) (.cons (.refl _) (.cons (.refl _) (.cons (.refl _) (.cons (.wk (.nil _ _)) (.cons (.wk (.nil _ _)) .nil))))))))))
set_option maxHeartbeats 4000000 in
theorem shopBatches_fn (O : Opq) (l : List Ndoc) (ops : List Opn) (hl : l.length ≤ 9223372036854775807) (hol : ops.length ≤ 9223372036854775807) (hp : ∀ n ∈ l, pathsOk n.doc)
    : Fn prog 4 [.sl false 0 false 2 (O.o (Nms.enc O) l), .sl false 0 false 11 (O.o (Ops.enc O) ops)] [] [.bool true] [] := by
  have g1 := ldocs_fn O l hl
  have aw := awakeS_fn O
  have hlen := Ops.len O ops
  by_cases hs1 : smallD l = true
  · rw [show O.o smallD l = true by rw [O.h]; exact hs1] at g1
    have hsm := smallD_iff.1 hs1
    have hdl : ∀ n ∈ l, n.doc.length ≤ 1099511627776 := fun n hn => by have := hsm.2 n hn; omega
    have k3 := r12may_fn O l (by omega) fun n hn => ⟨hdl n hn, hp n hn⟩
    by_cases hg : mayD l = true
    · rw [show O.o mayD l = true by rw [O.h]; exact hg] at k3
      clear hp hdl hs1
      by_cases hb : ops.length < 1 ∨ 4 < ops.length
      · clear hg hsm
        refine go (fn := Go.Proofs.Tryd.f4) (n := 130) (rv := [ResultVar.tmp 4]) rfl (by decide) rfl (by decide +kernel) rfl rfl (by simp) fun F L C => ?_
        cbv
        (repeat' first | (refine Named.i64 ?_ fun _ _ => ?_; (focus lia); cbv) | (refine CallThen.mk _ _ (C.fn (g1)) ?_; cbv) | (refine CallThen.mk _ _ (C.fn (k3)) ?_; cbv) | (refine CallThen.mk _ _ (C.fn (aw)) ?_; cbv) | (refine Named.len fun _ _ hq => ?_; (try simp only [List.length_append, List.length_take, List.length_drop, List.length_replicate, List.length_set] at hq); cbv) | (refine Named.mk fun _ _ => ?_; cbv) | (refine Br.t ?_ ?_; (focus first | assumption | lia); cbv) | (refine Br.f ?_ ?_; (focus first | assumption | lia); cbv) | (refine Br.mk (fun _ => ?_) (fun _ => ?_) <;> cbv) | (refine Need.mk ?_ ?_; rotate_left; cbv) | (refine RetThen.mk [] [] ?_; cbv))
        all_goals first
          | exact ⟨rfl, trivial⟩
          | (exfalso; clear g1 k3 aw; lia)
          | trace_state
      · have b1 : ¬ ops.length < 1 := fun h => hb (.inl h)
        have b2 : ¬ 4 < ops.length := fun h => hb (.inr h)
        clear hb
        obtain ⟨N, hN⟩ : ∃ N : Nat, N = ops.length := ⟨_, rfl⟩
        obtain ⟨z, hz⟩ : ∃ z : Nat, z = 0 := ⟨_, rfl⟩
        obtain ⟨zc, hzc⟩ : ∃ z : Int, z = 0 := ⟨_, rfl⟩
        refine go (fn := Go.Proofs.Tryd.f4) (n := 130) (rv := [ResultVar.tmp 4]) rfl (by decide) rfl (by decide +kernel) rfl rfl (by simp) fun F L C => ?_
        cbv
        (repeat' first | (refine Named.i64 ?_ fun _ _ => ?_; (focus lia); cbv) | (refine CallThen.mk _ _ (C.fn (g1)) ?_; cbv) | (refine CallThen.mk _ _ (C.fn (k3)) ?_; cbv) | (refine Named.len fun _ _ hq => ?_; (try simp only [List.length_append, List.length_take, List.length_drop, List.length_replicate, List.length_set] at hq); cbv) | (refine Named.mk fun _ _ => ?_; cbv) | (refine Br.t ?_ ?_; (focus first | assumption | lia); cbv) | (refine Br.f ?_ ?_; (focus first | assumption | lia); cbv) | (refine Br.mk (fun _ => ?_) (fun _ => ?_) <;> cbv) | (refine Need.mk ?_ ?_; rotate_left; cbv) | (refine RetThen.mk [] [] ?_; cbv))
        all_goals try (exfalso; clear g1 k3 aw hg hsm; lia)
        refine LoopThen.mk (C.loopAt (ι := Nat × List Ndoc × Int) [(4, 11), (36, 82)] (fun x => [(4, .bool false), (5, .sl false 0 false 2 (O.o (Nms.enc O) x.2.1)), (6, .int .i64 x.2.2), (7, .int .i64 x.1)]) (fun x => [])
          (fun x => x.1 ≤ N ∧ (x.2.1, x.2.2) = seqB l (ops.take x.1) ∧ mayD x.2.1 = true ∧ ∀ (j : Nat) o, j < x.1 → ops[j]? = some o → lightO o = true ∧ writesB o = true) (fun x => N - x.1) (by decide +kernel) (Start.mk (z, l, zc) [] [] ⟨by show z ≤ N; omega, by show (l, zc) = seqB l (ops.take z); rw [hz, hzc]; rfl, hg, fun j o hj => by have : j < z := hj; omega⟩ ?_) ?_)
        · cbv
          (repeat' apply And.intro) <;> first | exact True.intro | exact WkR.refl _ | rfl | lia | trace_state
        intro x g
        cbv
        obtain ⟨i, now, code⟩ := x
        have i1 : i ≤ N := g.1
        have i2 : (now, code) = seqB l (ops.take i) := g.2.1
        have i3 : mayD now = true := g.2.2.1
        have i4 : ∀ (j : Nat) o, j < i → ops[j]? = some o → lightO o = true ∧ writesB o = true := g.2.2.2
        clear g
        by_cases hi : i < ops.length
        · obtain ⟨x, hx⟩ : ∃ x, ops[i]? = some x := ⟨ops[i], by simp [hi]⟩
          have g2 := llight_fn O x
          by_cases hlt : lightO x = true ∧ writesB x = true
          · rw [show O.o lightO x = true by rw [O.h]; exact hlt.1] at g2
            obtain ⟨cs, r1, r2⟩ := runB_one (l := now) (o := x)
            obtain ⟨R2, eR2⟩ : ∃ A, A = (runB now 0 [x] now []).2.1 := ⟨_, rfl⟩
            rw [← eR2] at r1 r2
            have hR : applyR now x 0 = ((stepB (now, 0) x).1, R2, cs) := by rw [applyR, if_pos hlt.2, batchR, if_neg (by simp [notWrites, hlt.2])]; exact r1
            have k1 := apply_ok O now x 0 i3 (by omega) (light_small hlt.1 _ (by decide)) _ R2 cs hR
            have hst : code = 0 → ((stepB (now, 0) x).1, R2.code) = seqB l (ops.take (i + 1)) := fun h => by rw [seqB_more hx, ← i2, h, r2]
            have hsk : code ≠ 0 → (now, code) = seqB l (ops.take (i + 1)) := fun h => by rw [seqB_more hx, ← i2, stepB, if_pos h]
            have hms : mayD (stepB (now, 0) x).1 = true := stepB_may i3
            have hal : ∀ (j : Nat) o, j < i + 1 → ops[j]? = some o → lightO o = true ∧ writesB o = true := fun j o hj ho => by
              by_cases e : j = i
              · subst e; rw [hx] at ho; cases ho; exact hlt
              · exact i4 j o (by omega) ho
            obtain ⟨now', e'⟩ : ∃ x', x' = (stepB (now, 0) x).1 := ⟨_, rfl⟩
            rw [← e'] at k1 hst hms
            have hkd : 1 ≤ x.kind ∧ x.kind ≤ 3 := by have := hlt.2; simp only [writesB, decide_eq_true_eq] at this; omega
            clear r1 r2 hR eR2 e' i4 i2 hlt hsm hg
            obtain ⟨kind, key, to, doc, want, has, n, most, list, docs, news⟩ := x
            obtain ⟨ac, ah, ad, ads, ans, an, at', ak⟩ := R2
            replace hst : code = 0 → (now', ac) = seqB l (ops.take (i + 1)) := hst
            replace hkd : 1 ≤ kind ∧ kind ≤ 3 := hkd
            by_cases hc : code = 0
            · have hst := hst hc
              clear hsk i3
              (repeat' first | (refine Named.i64 ?_ fun _ _ => ?_; (focus lia); cbv) | (refine Ex.opn O hx ?_ ?_; (focus lia); cbv) | (refine CallThen.mk _ _ (C.fn (g2)) ?_; cbv) | (refine CallThen.mk _ _ (C.fn (k1)) ?_; cbv) | (refine Back.to (i + 1, now', ac) [] [] ?_ fun _ _ => ?_; rotate_left; cbv) | (refine Named.len fun _ _ hq => ?_; (try simp only [List.length_append, List.length_take, List.length_drop, List.length_replicate, List.length_set] at hq); cbv) | (refine Named.mk fun _ _ => ?_; cbv) | (refine Br.t ?_ ?_; (focus first | assumption | lia); cbv) | (refine Br.f ?_ ?_; (focus first | assumption | lia); cbv) | (refine Br.mk (fun _ => ?_) (fun _ => ?_) <;> cbv) | (refine Need.mk ?_ ?_; rotate_left; cbv) | (refine RetThen.mk [] [] ?_; cbv))
              all_goals try first
                | (exfalso; clear hx g1 k3 g2 k1 hst hal hms; lia)
                | (clear hx g1 k3 g2 k1 hst hal hms; lia)
                | exact ⟨⟨by show i + 1 ≤ N; omega, hst, hms, hal⟩, by show N - (i + 1) < N - i; omega⟩
              all_goals first
                | (rename_i y ey; subst ey; (repeat' apply And.intro) <;> first | exact True.intro | exact WkR.refl _ | rfl | (dsimp only; clear hx g1 k3 g2 k1 hst hal hms; lia) | trace_state)
                | trace_state
            · have hsk := hsk hc
              clear hst hms
              (repeat' first | (refine Named.i64 ?_ fun _ _ => ?_; (focus lia); cbv) | (refine Ex.opn O hx ?_ ?_; (focus lia); cbv) | (refine CallThen.mk _ _ (C.fn (g2)) ?_; cbv) | (refine CallThen.mk _ _ (C.fn (k1)) ?_; cbv) | (refine Back.to (i + 1, now, code) [] [] ?_ fun _ _ => ?_; rotate_left; cbv) | (refine Named.len fun _ _ hq => ?_; (try simp only [List.length_append, List.length_take, List.length_drop, List.length_replicate, List.length_set] at hq); cbv) | (refine Named.mk fun _ _ => ?_; cbv) | (refine Br.t ?_ ?_; (focus first | assumption | lia); cbv) | (refine Br.f ?_ ?_; (focus first | assumption | lia); cbv) | (refine Br.mk (fun _ => ?_) (fun _ => ?_) <;> cbv) | (refine Need.mk ?_ ?_; rotate_left; cbv) | (refine RetThen.mk [] [] ?_; cbv))
              all_goals try first
                | (exfalso; clear hx g1 k3 g2 k1 hsk hal i3; lia)
                | (clear hx g1 k3 g2 k1 hsk hal i3; lia)
                | exact ⟨⟨by show i + 1 ≤ N; omega, hsk, i3, hal⟩, by show N - (i + 1) < N - i; omega⟩
              all_goals first
                | (rename_i y ey; subst ey; (repeat' apply And.intro) <;> first | exact True.intro | exact WkR.refl _ | rfl | (dsimp only; clear hx g1 k3 g2 k1 hsk hal i3; lia) | trace_state)
                | trace_state
          · have hkd : lightO x = true → ¬ (1 ≤ x.kind ∧ x.kind ≤ 3) := fun h k => hlt ⟨h, by simp only [writesB, decide_eq_true_eq]; omega⟩
            obtain ⟨s, es⟩ : ∃ s, s = O.o lightO x := ⟨_, rfl⟩
            have hkd : s = true → ¬ (1 ≤ x.kind ∧ x.kind ≤ 3) := by rw [es, O.h]; exact hkd
            rw [← es] at g2
            clear es hlt i2 i3 i4 hsm hg
            obtain ⟨kind, key, to, doc, want, has, n, most, list, docs, news⟩ := x
            replace hkd : s = true → ¬ (1 ≤ kind ∧ kind ≤ 3) := hkd
            cases s with
            | true =>
              have hkd := hkd rfl
              (repeat' first | (refine Named.i64 ?_ fun _ _ => ?_; (focus lia); cbv) | (refine Ex.opn O hx ?_ ?_; (focus lia); cbv) | (refine CallThen.mk _ _ (C.fn (g2)) ?_; cbv) | (refine CallThen.mk _ _ (C.fn (aw)) ?_; cbv) | (refine Named.len fun _ _ hq => ?_; (try simp only [List.length_append, List.length_take, List.length_drop, List.length_replicate, List.length_set] at hq); cbv) | (refine Named.mk fun _ _ => ?_; cbv) | (refine Br.t ?_ ?_; (focus first | assumption | lia); cbv) | (refine Br.f ?_ ?_; (focus first | assumption | lia); cbv) | (refine Br.mk (fun _ => ?_) (fun _ => ?_) <;> cbv) | (refine Need.mk ?_ ?_; rotate_left; cbv) | (refine RetThen.mk [] [] ?_; cbv))
              all_goals first
                | exact ⟨rfl, trivial⟩
                | (exfalso; clear hx g1 k3 g2 aw; lia)
                | trace_state
            | false =>
              clear hkd
              (repeat' first | (refine Named.i64 ?_ fun _ _ => ?_; (focus lia); cbv) | (refine Ex.opn O hx ?_ ?_; (focus lia); cbv) | (refine CallThen.mk _ _ (C.fn (g2)) ?_; cbv) | (refine CallThen.mk _ _ (C.fn (aw)) ?_; cbv) | (refine Named.len fun _ _ hq => ?_; (try simp only [List.length_append, List.length_take, List.length_drop, List.length_replicate, List.length_set] at hq); cbv) | (refine Named.mk fun _ _ => ?_; cbv) | (refine Br.t ?_ ?_; (focus first | assumption | lia); cbv) | (refine Br.f ?_ ?_; (focus first | assumption | lia); cbv) | (refine Br.mk (fun _ => ?_) (fun _ => ?_) <;> cbv) | (refine Need.mk ?_ ?_; rotate_left; cbv) | (refine RetThen.mk [] [] ?_; cbv))
              all_goals first
                | exact ⟨rfl, trivial⟩
                | (exfalso; clear hx g1 k3 g2 aw; lia)
                | trace_state
        · have e0 : ops.take i = ops := List.take_of_length_le (by omega)
          rw [e0] at i2
          have hal : ∀ o ∈ ops, lightO o = true ∧ writesB o = true := fun o ho => by
            obtain ⟨j, hj, rfl⟩ := List.getElem_of_mem ho
            exact i4 j _ (by omega) (by simp)
          obtain ⟨R1, R2, R3, hR⟩ : ∃ R1 R2 R3, applyR l (batchO ops) 7 = (R1, R2, R3) := ⟨_, _, _, rfl⟩
          have k1 := apply_batchO O l ops 7 (by omega) hg ⟨by simp [batchO, Opn.doc], by simp [batchO, Opn.want], fun x hx => by
            have h := light_small (hal x hx).1 1099511627 (by decide); exact ⟨h.doc, h.want⟩, by show ops.length ≤ _; omega⟩ R1 R2 R3 hR
          obtain ⟨c1, c2, c3, c4⟩ := batch_spec hg b1 b2 (fun o ho => (hal o ho).2) hR
          rw [← i2] at c1 c2 c3 c4
          replace c2 : R1 = if code = 0 then now else l := c2
          replace c3 : code = 0 → R3.length = ops.length ∧ R2.n = 7 + ops.length := c3
          replace c4 : code ≠ 0 → R3.length = 0 := c4
          have hmR : mayD R1 = true := by rw [c2]; split; exact i3; exact hg
          have y1 := mayD_iff.1 hmR
          have k5 := docs_same O R1 (by omega) (fun n hn => by have := may_len (y1.2.1 n hn).2; omega)
          have hrl := Chs.len O R3
          clear e0 i2 i4 hal hR hmR y1 i3 hsm hg
          obtain ⟨ac, ah, ad, ads, ans, an, at', ak⟩ := R2
          replace c1 : ac = code := c1
          replace c3 : code = 0 → R3.length = ops.length ∧ an = 7 + ops.length := c3
          by_cases hc : code = 0
          · rw [if_pos hc] at c2
            obtain ⟨c3, c5⟩ := c3 hc
            subst c2
            clear c4
            (repeat' first | (refine Named.i64 ?_ fun _ _ => ?_; (focus lia); cbv) | (refine CallThen.mk _ _ (C.fn (k1)) ?_; cbv) | (refine CallThen.mk _ _ (C.fn (k5)) ?_; cbv) | (refine CallThen.mk _ _ (C.fn (aw)) ?_; cbv) | (refine Named.len fun _ _ hq => ?_; (try simp only [List.length_append, List.length_take, List.length_drop, List.length_replicate, List.length_set] at hq); cbv) | (refine Named.mk fun _ _ => ?_; cbv) | (refine Br.t ?_ ?_; (focus first | assumption | lia); cbv) | (refine Br.f ?_ ?_; (focus first | assumption | lia); cbv) | (refine Br.mk (fun _ => ?_) (fun _ => ?_) <;> cbv) | (refine Need.mk ?_ ?_; rotate_left; cbv) | (refine RetThen.mk [] [] ?_; cbv))
            all_goals first
              | exact ⟨rfl, trivial⟩
              | (exfalso; clear g1 k3 k1 k5 aw; lia)
              | trace_state
          · rw [if_neg hc] at c2
            have c4 := c4 hc
            subst c2
            clear c3
            (repeat' first | (refine Named.i64 ?_ fun _ _ => ?_; (focus lia); cbv) | (refine CallThen.mk _ _ (C.fn (k1)) ?_; cbv) | (refine CallThen.mk _ _ (C.fn (k5)) ?_; cbv) | (refine CallThen.mk _ _ (C.fn (aw)) ?_; cbv) | (refine Named.len fun _ _ hq => ?_; (try simp only [List.length_append, List.length_take, List.length_drop, List.length_replicate, List.length_set] at hq); cbv) | (refine Named.mk fun _ _ => ?_; cbv) | (refine Br.t ?_ ?_; (focus first | assumption | lia); cbv) | (refine Br.f ?_ ?_; (focus first | assumption | lia); cbv) | (refine Br.mk (fun _ => ?_) (fun _ => ?_) <;> cbv) | (refine Need.mk ?_ ?_; rotate_left; cbv) | (refine RetThen.mk [] [] ?_; cbv))
            all_goals first
              | exact ⟨rfl, trivial⟩
              | (exfalso; clear g1 k3 k1 k5 aw; lia)
              | trace_state
    · rw [show O.o mayD l = false by rw [O.h]; simpa using hg] at k3
      clear hp hdl hs1 hsm hg
      refine go (fn := Go.Proofs.Tryd.f4) (n := 130) (rv := [ResultVar.tmp 4]) rfl (by decide) rfl (by decide +kernel) rfl rfl (by simp) fun F L C => ?_
      cbv
      (repeat' first | (refine Named.i64 ?_ fun _ _ => ?_; (focus lia); cbv) | (refine CallThen.mk _ _ (C.fn (g1)) ?_; cbv) | (refine CallThen.mk _ _ (C.fn (k3)) ?_; cbv) | (refine CallThen.mk _ _ (C.fn (aw)) ?_; cbv) | (refine Named.len fun _ _ hq => ?_; (try simp only [List.length_append, List.length_take, List.length_drop, List.length_replicate, List.length_set] at hq); cbv) | (refine Named.mk fun _ _ => ?_; cbv) | (refine Br.t ?_ ?_; (focus first | assumption | lia); cbv) | (refine Br.f ?_ ?_; (focus first | assumption | lia); cbv) | (refine Br.mk (fun _ => ?_) (fun _ => ?_) <;> cbv) | (refine Need.mk ?_ ?_; rotate_left; cbv) | (refine RetThen.mk [] [] ?_; cbv))
      all_goals first
        | exact ⟨rfl, trivial⟩
        | trace_state
  · rw [show O.o smallD l = false by rw [O.h]; simpa using hs1] at g1
    clear hp hs1
    refine go (fn := Go.Proofs.Tryd.f4) (n := 130) (rv := [ResultVar.tmp 4]) rfl (by decide) rfl (by decide +kernel) rfl rfl (by simp) fun F L C => ?_
    cbv
    (repeat' first | (refine Named.i64 ?_ fun _ _ => ?_; (focus lia); cbv) | (refine CallThen.mk _ _ (C.fn (g1)) ?_; cbv) | (refine CallThen.mk _ _ (C.fn (aw)) ?_; cbv) | (refine Named.len fun _ _ hq => ?_; (try simp only [List.length_append, List.length_take, List.length_drop, List.length_replicate, List.length_set] at hq); cbv) | (refine Named.mk fun _ _ => ?_; cbv) | (refine Br.t ?_ ?_; (focus first | assumption | lia); cbv) | (refine Br.f ?_ ?_; (focus first | assumption | lia); cbv) | (refine Br.mk (fun _ => ?_) (fun _ => ?_) <;> cbv) | (refine Need.mk ?_ ?_; rotate_left; cbv) | (refine RetThen.mk [] [] ?_; cbv))
    all_goals first
      | exact ⟨rfl, trivial⟩
      | trace_state
end Go.Sym
namespace Go.Sym
open Go Go.Proofs Go.Proofs.Tryd
set_option maxRecDepth 10000
theorem shape_str {n : Nat} {xs : List PV} (h : shape prog n 9 xs) : ∃ s : ByteArray, xs = [.str s] ∧ s.size ≤ 9223372036854775807 := by
  cases n with
  | zero => exact h.elim
  | succ n => simp only [shape, Tryd.underlying9] at h; exact h
theorem shape_int {n : Nat} {xs : List PV} (h : shape prog n 3 xs) : ∃ m : Int, xs = [.int .i64 m] ∧ -9223372036854775808 ≤ m ∧ m ≤ 9223372036854775807 := by
  cases n with
  | zero => exact h.elim
  | succ n =>
    simp only [shape, Tryd.underlying3] at h
    obtain ⟨m, rfl, hm⟩ := h
    refine ⟨m, rfl, ?_⟩
    simp only [Lit.wf, Bool.and_eq_true, decide_eq_true_eq] at hm
    exact hm
def inI (m : Int) : Prop := -9223372036854775808 ≤ m ∧ m ≤ 9223372036854775807
def inS (s : ByteArray) : Prop := s.size ≤ 9223372036854775807
theorem c3 : prog.cellsOf 3 = 1 := by decide +kernel
theorem c9 : prog.cellsOf 9 = 1 := by decide +kernel
theorem rows_of {α : Type} {e : α → List PV} {In : α → Prop} {Q : List PV → Prop} (hq : ∀ r, Q r → ∃ a, r = e a ∧ In a) : ∀ {rows : List (List PV)}, (∀ r ∈ rows, Q r) → ∃ l : List α, rows = l.map e ∧ ∀ a ∈ l, In a
  | [], _ => ⟨[], rfl, by simp⟩
  | r :: rows, h => by
    obtain ⟨a, ha, ia⟩ := hq r (h r (by simp))
    obtain ⟨l, hl, il⟩ := rows_of (rows := rows) hq fun r hr => h r (List.mem_cons_of_mem _ hr)
    exact ⟨a :: l, by simp [ha, hl], by simpa using ⟨ia, il⟩⟩
end Go.Sym
namespace Go.Sym
open Go Go.Proofs Go.Proofs.Tryd
set_option maxRecDepth 10000
def Val.In (v : Val) : Prop := inI v.kind ∧ inI v.num ∧ inS v.text ∧ inI v.re ∧ inI v.im
def Field.In (f : Field) : Prop := inS f.path ∧ f.val.In
theorem c33 : prog.cellsOf 46 = 2 := by decide +kernel
theorem c35 : prog.cellsOf 48 = 5 := by decide +kernel
theorem c37 : prog.cellsOf 50 = 6 := by decide +kernel
theorem shape_point {n : Nat} {xs : List PV} (h : shape prog n 46 xs) : ∃ a b : Int, xs = [.int .i64 a, .int .i64 b] ∧ inI a ∧ inI b := by
  cases n with
  | zero => exact h.elim
  | succ n =>
    simp only [shape, Tryd.underlying46, List.forall_mem_cons, List.not_mem_nil, false_imp_iff, implies_true, and_true, c33, c3] at h
    obtain ⟨hl, h1, h2⟩ := h
    match xs, hl with
    | [x, y], _ =>
    obtain ⟨a, ea, ia⟩ := shape_int (xs := [x]) h1
    obtain ⟨b, eb, ib⟩ := shape_int (xs := [y]) h2
    cases ea; cases eb
    exact ⟨a, b, rfl, ia, ib⟩
theorem shape_val {n : Nat} {xs : List PV} (h : shape prog n 48 xs) : ∃ v : Val, xs = v.enc ∧ v.In := by
  cases n with
  | zero => exact h.elim
  | succ n =>
    simp only [shape, Tryd.underlying48, List.forall_mem_cons, List.not_mem_nil, false_imp_iff, implies_true, and_true, c35, c33, c9, c3] at h
    obtain ⟨hl, h1, h2, h3, h4⟩ := h
    match xs, hl with
    | [x, y, z, u, w], _ =>
    obtain ⟨a, ea, ia⟩ := shape_int (xs := [x]) h1
    obtain ⟨b, eb, ib⟩ := shape_int (xs := [y]) h2
    obtain ⟨t, et, it⟩ := shape_str (xs := [z]) h3
    obtain ⟨p, q, ep, ip, iq⟩ := shape_point (xs := [u, w]) h4
    cases ea; cases eb; cases et; cases ep
    exact ⟨⟨a, b, t, p, q⟩, rfl, ia, ib, it, ip, iq⟩
theorem shape_field {n : Nat} {xs : List PV} (h : shape prog n 50 xs) : ∃ f : Field, xs = f.enc ∧ f.In := by
  cases n with
  | zero => exact h.elim
  | succ n =>
    simp only [shape, Tryd.underlying50, List.forall_mem_cons, List.not_mem_nil, false_imp_iff, implies_true, and_true, c37, c35, c9] at h
    obtain ⟨hl, h1, h2⟩ := h
    match xs, hl with
    | x :: ys, hl =>
    obtain ⟨t, et, it⟩ := shape_str (xs := [x]) h1
    have hy : (List.drop 1 (x :: ys)).take 5 = ys := List.take_of_length_le (Nat.le_of_eq (by simpa using hl))
    rw [hy] at h2
    obtain ⟨v, rfl, iv⟩ := shape_val h2
    cases et
    exact ⟨⟨t, v⟩, rfl, it, iv⟩
theorem shape_doc {n : Nat} {x : PV} (h : shape prog n 29 [x]) : ∃ d : Doc, Wk (.sl false 0 false 6 (Doc.enc d)) x ∧ d.length ≤ 9223372036854775807 ∧ ∀ f ∈ d, f.In := by
  cases n with
  | zero => exact h.elim
  | succ n =>
    simp only [shape, Tryd.underlying29, c37] at h
    rcases h with h | ⟨rows, h, hl, hr⟩
    · cases h
      exact ⟨[], .nil _ _, by simp, by simp⟩
    · cases h
      obtain ⟨d, rfl, hd⟩ := rows_of (fun r hr => shape_field hr) hr
      exact ⟨d, .sl' rfl rfl (.refl _), by simpa [maxLen] using hl, hd⟩
end Go.Sym
