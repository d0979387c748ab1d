/- Changes, one behind the other: the theorem of folds. -/
import Derived.Test.YtdbpdcnpolaojaaDoorJ26
set_option linter.all false
set_option linter.unusedVariables false
set_option linter.unusedSimpArgs false
namespace Go.Sym
open Go
theorem foldAll_len : ∀ {cs : List Change} {l : List Ndoc}, (foldAll l cs).length ≤ l.length + cs.length
  | [], l => by simp [foldAll]
  | c :: cs, l => by
    rw [foldAll_cons]
    have := foldAll_len (cs := cs) (l := foldD l c)
    have := foldD_len (l := l) (c := c)
    rw [List.length_cons]; omega
theorem foldAll_docs {m : Nat} : ∀ {cs : List Change} {l : List Ndoc}, (∀ n ∈ l, n.doc.length ≤ m) → (∀ c ∈ cs, c.doc.length ≤ m) → ∀ n ∈ foldAll l cs, n.doc.length ≤ m
  | [], l, h, _ => h
  | c :: cs, l, h, k => by
    rw [foldAll_cons]
    refine foldAll_docs (fun n hn => ?_) fun d hd => k d (List.mem_cons_of_mem _ hd)
    rcases foldD_mem hn with hn | ⟨_, rfl⟩
    · exact h n hn
    · exact k c (by simp)
theorem may_paths {d : Doc} (h : may d = true) : ∀ f ∈ d, f.path.size ≤ 9223372036854775807 := fun f hf => by
  obtain ⟨i, hi, rfl⟩ := List.getElem_of_mem hf
  simp only [may, decide_eq_true_eq] at h
  have := ((okAt_iff (k := i) (x := d[i]) (by simp)).1 (h.2 i hi)).1
  simp only [isPath, Bool.and_eq_true, decide_eq_true_eq] at this
  omega
structure Folded (l now : List Ndoc) (all : List Change) : Prop where
  may : mayD now = true
  now : now = foldAll l all
  pos : posFrom 0 all
  docs : ∀ c ∈ all, c.doc.length ≤ 20
theorem folds_step {l now : List Ndoc} {all : List Change} {o : Opn} (h : Folded l now all) (hd : o.doc.length ≤ 20) (hl : ∀ x ∈ o.list, x.doc.length ≤ 20) {R1 : List Ndoc} {R2 : Answer} {R3 : List Change} (hR : applyR now o all.length = (R1, R2, R3)) :
    Folded l R1 (all ++ R3) ∧ R3.length ≤ 4 ∧ (0 < R3.length → R2.n = all.length + R3.length ∧ R2.code = 0 ∧ o.kind ≠ 4 ∧ o.kind ≠ 5) ∧ (R2.code ≠ 0 ∨ o.kind = 4 ∨ o.kind = 5 → R1 = now) ∧ SmallA now R2 := by
  rcases applyR_spec o all.length h.may with ⟨a, h1, h2, _⟩ | ⟨h1, h2, h3, h4⟩
  · rw [hR] at h1; cases h1
    refine ⟨by rw [List.append_nil]; exact h, by simp, by simp, fun _ => rfl, h2⟩
  · rw [hR] at h1; cases h1
    have hk : o.kind ≠ 4 ∧ o.kind ≠ 5 := by
      rcases h3 with h3 | h3
      · simp only [writesB, decide_eq_true_eq] at h3; omega
      · omega
    refine ⟨⟨h2, by rw [foldAll_append, ← h.now], posFrom_append h.pos (by rw [Int.zero_add]; exact writeCs_pos _ _), fun c hc => ?_⟩, by rw [writeCs_len]; exact writesOf_len o, fun _ => ⟨by rw [writeCs_len]; rfl, rfl, hk⟩, fun k => ?_, small_ans _ _⟩
    · rcases List.mem_append.1 hc with hc | hc
      · exact h.docs c hc
      · exact writeCs_docs _ _ (writesOf_small hd hl) c hc
    · rcases k with k | k | k
      · exact absurd rfl k
      · exact absurd k hk.1
      · exact absurd k hk.2
end Go.Sym
namespace Go.Sym
open Go Go.Proofs.Tryd
set_option maxRecDepth 100000
theorem chs_app (O : Opq) (a b : List Change) : O.o (Chs.enc O) (a ++ b) = O.o (Chs.enc O) a ++ O.o (Chs.enc O) b := by simp only [O.h]; simp [Chs.enc]
set_option maxHeartbeats 4000000 in
theorem shopFolds_fn (O : Opq) (l : List Ndoc) (ops : List Opn) (hl : l.length ≤ 9223372036854775807) (hol : ops.length ≤ 9223372036854775807) (hp : ∀ n ∈ l, pathsOk n.doc)
    : Fn prog 3 [.sl false 0 false 2 (O.o (Nms.enc O) l), .sl false 0 false 11 (O.o (Ops.enc O) ops)] [] [.bool true] [] := by
  have g1 := ldocs_fn O l hl
  have aw := awakeS_fn O
  by_cases hs1 : smallD l = true
  · rw [show O.o smallD l = true by rw [O.h]; exact hs1] at g1
    have hsm := smallD_iff.1 hs1
    have hdl : ∀ n ∈ l, n.doc.length ≤ 1099511627776 := fun n hn => by have := hsm.2 n hn; omega
    have k3 := r12may_fn O l (by omega) fun n hn => ⟨hdl n hn, hp n hn⟩
    by_cases hg : mayD l = true
    · rw [show O.o mayD l = true by rw [O.h]; exact hg] at k3
      clear hp hdl hs1
      have hlen := Ops.len O ops
      obtain ⟨N, hN⟩ : ∃ N : Nat, N = ops.length := ⟨_, rfl⟩
      obtain ⟨z, hz⟩ : ∃ z : Nat, z = 0 := ⟨_, rfl⟩
      obtain ⟨nc, hnc⟩ : ∃ l : List Change, l = [] := ⟨_, rfl⟩
      have hnl : nc.length = z := by rw [hnc, hz]; rfl
      have hF0 : Folded l l nc := ⟨hg, by rw [hnc]; rfl, by rw [hnc]; exact posFrom_nil 0, by rw [hnc]; simp⟩
      have hne : O.o (Chs.enc O) nc = [] := by rw [O.h, hnc]; rfl
      refine go (fn := Go.Proofs.Tryd.f3) (n := 158) (rv := [ResultVar.tmp 4]) rfl (by decide) rfl (by decide +kernel) rfl rfl (by simp) fun F L C => ?_
      cbv
      (repeat' first | (refine Named.i64 ?_ fun _ _ => ?_; (focus lia); cbv) | (refine CallThen.mk _ _ (C.fn (g1)) ?_; cbv) | (refine CallThen.mk _ _ (C.fn (k3)) ?_; cbv) | (refine Named.len fun _ _ hq => ?_; (try simp only [List.length_append, List.length_take, List.length_drop, List.length_replicate, List.length_set] at hq); cbv) | (refine Named.mk fun _ _ => ?_; cbv) | (refine Br.t ?_ ?_; (focus first | assumption | lia); cbv) | (refine Br.f ?_ ?_; (focus first | assumption | lia); cbv) | (refine Br.mk (fun _ => ?_) (fun _ => ?_) <;> cbv) | (refine Need.mk ?_ ?_; rotate_left; cbv) | (refine RetThen.mk [] [] ?_; cbv))
      refine LoopThen.mk (C.loopAt (ι := Nat × List Ndoc × List Change) [(4, 12), (27, 117)] (fun x => [(4, .bool false), (5, .ref 1728), (6, .sl false 0 false 2 (O.o (Nms.enc O) x.2.1)), (7, .int .i64 x.1), (25, .top)]) (fun x => [(1728, .arr 0 none 4 (O.o (Chs.enc O) x.2.2))])
        (fun x => x.1 ≤ N ∧ x.1 ≤ 30 ∧ x.2.2.length ≤ 4 * x.1 ∧ Folded l x.2.1 x.2.2) (fun x => N - x.1) (by decide +kernel) (Start.mk (z, l, nc) [] [] ⟨by show z ≤ N; omega, by show z ≤ 30; omega, by show nc.length ≤ 4 * z; omega, hF0⟩ ?_) ?_)
      · cbv
        (repeat' apply And.intro) <;> first | exact True.intro | exact WkR.refl _ | rfl | exact .of_eq hne | exact hne | lia | trace_state
      clear hF0 hne hnc hnl
      intro x g
      cbv
      obtain ⟨i, now, all⟩ := x
      have i1 : i ≤ N := g.1
      have i2 : i ≤ 30 := g.2.1
      have i3 : all.length ≤ 4 * i := g.2.2.1
      have i4 : Folded l now all := g.2.2.2
      clear g
      have hcl := Chs.len O all
      by_cases hi : i < ops.length ∧ i < 30
      · obtain ⟨hi1, hi2⟩ := hi
        obtain ⟨x, hx⟩ : ∃ x, ops[i]? = some x := ⟨ops[i], by simp [hi1]⟩
        have g2 := llight_fn O x
        by_cases hlt : lightO x = true
        · rw [show O.o lightO x = true by rw [O.h]; exact hlt] at g2
          obtain ⟨R1, R2, R3, hR⟩ : ∃ R1 R2 R3, applyR now x all.length = (R1, R2, R3) := ⟨_, _, _, rfl⟩
          have k1 : ∀ v : Int, v = all.length → Fn prog 9 [.sl false 0 false 2 (O.o (Nms.enc O) now), .agg (x.en O), .int .i64 v] [] [.sl false 0 false 2 (O.o (Nms.enc O) R1), .agg (R2.enc O), .sl false 0 false 4 (O.o (Chs.enc O) R3), .int .i64 0] [] := fun v hv => by
            subst hv; exact apply_ok O now x all.length i4.may (by omega) (light_small hlt _ (by decide)) R1 R2 R3 hR
          obtain ⟨s1, s2, s3, s4, s5⟩ := folds_step i4 (light_small hlt 20 (by decide)).doc (fun y hy => ((light_small hlt 20 (by decide)).list y hy).1) hR
          have y1 := mayD_iff.1 i4.may
          have k5 := docs_same O now (by omega) (fun n hn => by have := may_len (y1.2.1 n hn).2; omega)
          have hrl := Chs.len O R3
          have hap := chs_app O all R3
          have hal : (all ++ R3).length ≤ 4 * (i + 1) := by rw [List.length_append]; omega
          obtain ⟨all2, e2⟩ : ∃ a, a = all ++ R3 := ⟨_, rfl⟩
          rw [← e2] at s1 hap hal
          clear hR e2 s5 y1 i4 hlt
          obtain ⟨kind, key, to, doc, want, has, n, most, list, docs, news⟩ := x
          obtain ⟨ac, ah, ad, ads, ans, an, at', ak⟩ := R2
          replace s3 : 0 < R3.length → an = all.length + R3.length ∧ ac = 0 ∧ kind ≠ 4 ∧ kind ≠ 5 := s3
          replace s4 : ac ≠ 0 ∨ kind = 4 ∨ kind = 5 → R1 = now := s4
          by_cases hb : ac ≠ 0 ∨ kind = 4 ∨ kind = 5
          · have hz3 : R3.length = 0 := by
              rcases Nat.eq_zero_or_pos R3.length with h | h
              · exact h
              · obtain ⟨_, h2, h3, h4⟩ := s3 h
                rcases hb with h | h | h
                · exact absurd h2 h
                · exact absurd h h3
                · exact absurd h h4
            have e1 := s4 hb
            subst e1
            clear s3 s4
            (repeat' first | (refine Named.i64 ?_ fun _ _ => ?_; (focus lia); cbv) | (refine Ex.opn O hx ?_ ?_; (focus lia); cbv) | (refine CallThen.mk _ _ (C.fn (g2)) ?_; cbv) | (refine CallThen.mk _ _ (C.fn (k1 _ ?_)) ?_; rotate_left; cbv) | (refine CallThen.mk _ _ (C.fn (k5)) ?_; cbv) | (refine Back.to (i + 1, R1, all2) [(1728, .loc 7616)] [] ?_ fun _ _ => ?_; rotate_left; cbv) | (refine Named.len fun _ _ hq => ?_; (try simp only [List.length_append, List.length_take, List.length_drop, List.length_replicate, List.length_set] at hq); cbv) | (refine Named.mk fun _ _ => ?_; cbv) | (refine Br.t ?_ ?_; (focus first | assumption | lia); cbv) | (refine Br.f ?_ ?_; (focus first | assumption | lia); cbv) | (refine Br.mk (fun _ => ?_) (fun _ => ?_) <;> cbv) | (refine Need.mk ?_ ?_; rotate_left; cbv) | (refine RetThen.mk [] [] ?_; cbv))
            all_goals try first
              | (exfalso; clear hx g1 k3 g2 k1 k5 hap s1; lia)
              | (clear hx g1 k3 g2 k1 k5 hap s1; lia)
              | exact ⟨⟨by show i + 1 ≤ N; omega, by show i + 1 ≤ 30; omega, hal, s1⟩, by show N - (i + 1) < N - i; omega⟩
            all_goals first
              | (rename_i y ey; subst ey; (repeat' apply And.intro) <;> first | exact True.intro | exact WkR.refl _ | rfl | (refine WkR.of_eq (Eq.trans hap ?_); symm; assumption) | (dsimp only; clear hx g1 k3 g2 k1 k5 hap s1; lia) | trace_state)
              | trace_state
          · have hb1 : ac = 0 := by by_cases h : ac = 0; exact h; exact absurd (.inl h) hb
            have hb2 : kind ≠ 4 := fun h => hb (.inr (.inl h))
            have hb3 : kind ≠ 5 := fun h => hb (.inr (.inr h))
            have s3 : 0 < R3.length → an = all.length + R3.length := fun h => (s3 h).1
            clear s4 hb
            subst hb1
            (repeat' first | (refine Named.i64 ?_ fun _ _ => ?_; (focus lia); cbv) | (refine Ex.opn O hx ?_ ?_; (focus lia); cbv) | (refine CallThen.mk _ _ (C.fn (g2)) ?_; cbv) | (refine CallThen.mk _ _ (C.fn (k1 _ ?_)) ?_; rotate_left; cbv) | (refine CallThen.mk _ _ (C.fn (k5)) ?_; cbv) | (refine Back.to (i + 1, R1, all2) [(1728, .loc 7616)] [] ?_ fun _ _ => ?_; rotate_left; cbv) | (refine Named.len fun _ _ hq => ?_; (try simp only [List.length_append, List.length_take, List.length_drop, List.length_replicate, List.length_set] at hq); cbv) | (refine Named.mk fun _ _ => ?_; cbv) | (refine Br.t ?_ ?_; (focus first | assumption | lia); cbv) | (refine Br.f ?_ ?_; (focus first | assumption | lia); cbv) | (refine Br.mk (fun _ => ?_) (fun _ => ?_) <;> cbv) | (refine Need.mk ?_ ?_; rotate_left; cbv) | (refine RetThen.mk [] [] ?_; cbv))
            all_goals try first
              | (exfalso; clear hx g1 k3 g2 k1 k5 hap s1; lia)
              | (clear hx g1 k3 g2 k1 k5 hap s1; lia)
              | exact ⟨⟨by show i + 1 ≤ N; omega, by show i + 1 ≤ 30; omega, hal, s1⟩, by show N - (i + 1) < N - i; omega⟩
            all_goals first
              | (rename_i y ey; subst ey; (repeat' apply And.intro) <;> first | exact True.intro | exact WkR.refl _ | rfl | (refine WkR.of_eq (Eq.trans hap ?_); symm; assumption) | (dsimp only; clear hx g1 k3 g2 k1 k5 hap s1; lia) | trace_state)
              | trace_state
        · rw [show O.o lightO x = false by rw [O.h]; simpa using hlt] at g2
          clear hlt
          obtain ⟨kind, key, to, doc, want, has, n, most, list, docs, news⟩ := x
          (repeat' first | (refine Named.i64 ?_ fun _ _ => ?_; (focus lia); cbv) | (refine Ex.opn O hx ?_ ?_; (focus lia); cbv) | (refine CallThen.mk _ _ (C.fn (g2)) ?_; cbv) | (refine Back.to (i + 1, now, all) [] [] ?_ fun _ _ => ?_; rotate_left; cbv) | (refine Named.len fun _ _ hq => ?_; (try simp only [List.length_append, List.length_take, List.length_drop, List.length_replicate, List.length_set] at hq); cbv) | (refine Named.mk fun _ _ => ?_; cbv) | (refine Br.t ?_ ?_; (focus first | assumption | lia); cbv) | (refine Br.f ?_ ?_; (focus first | assumption | lia); cbv) | (refine Br.mk (fun _ => ?_) (fun _ => ?_) <;> cbv) | (refine Need.mk ?_ ?_; rotate_left; cbv) | (refine RetThen.mk [] [] ?_; cbv))
          all_goals try first
            | (exfalso; clear hx g1 k3 g2 i4; lia)
            | (clear hx g1 k3 g2 i4; lia)
            | exact ⟨⟨by show i + 1 ≤ N; omega, by show i + 1 ≤ 30; omega, by show all.length ≤ 4 * (i + 1); omega, i4⟩, by show N - (i + 1) < N - i; omega⟩
          all_goals first
            | (rename_i y ey; subst ey; (repeat' apply And.intro) <;> first | exact True.intro | exact WkR.refl _ | rfl | (dsimp only; clear hx g1 k3 g2 i4; lia) | trace_state)
            | trace_state
      · clear g1 k3
        (repeat' first | (refine Named.i64 ?_ fun _ _ => ?_; (focus lia); cbv) | (refine Named.len fun _ _ hq => ?_; (try simp only [List.length_append, List.length_take, List.length_drop, List.length_replicate, List.length_set] at hq); cbv) | (refine Named.mk fun _ _ => ?_; cbv) | (refine Br.t ?_ ?_; (focus first | assumption | lia); cbv) | (refine Br.f ?_ ?_; (focus first | assumption | lia); cbv) | (refine Br.mk (fun _ => ?_) (fun _ => ?_) <;> cbv) | (refine Need.mk ?_ ?_; rotate_left; cbv) | (refine RetThen.mk [] [] ?_; cbv))
        all_goals try (exfalso; clear i4; lia)
        all_goals
          refine LoopThen.mk (C.loopAt (ι := Nat × List Ndoc) [(4, 4), (13, 15), (120, 149)] (fun x => [(4, .bool false), (13, .sl false 0 false 2 (O.o (Nms.enc O) x.2)), (14, .sl false 0 false 2 (O.o (Nms.enc O) x.2)), (15, .int .i64 x.1)]) (fun x => [(1728, .arr 0 none 4 (O.o (Chs.enc O) all))])
            (fun x => x.1 ≤ all.length ∧ x.2 = foldAll l (all.take x.1)) (fun x => all.length - x.1) (by decide +kernel) (Start.mk (z, l) [] [] ⟨by show z ≤ all.length; omega, by show l = foldAll l (all.take z); rw [hz]; rfl⟩ ?_) ?_)
          · cbv
            (repeat' apply And.intro) <;> first | exact True.intro | exact WkR.refl _ | rfl | lia | trace_state
          intro x g
          cbv
          obtain ⟨j, f⟩ := x
          have j1 : j ≤ all.length := g.1
          have j2 : f = foldAll l (all.take j) := g.2
          clear g
          have hfs : sortedK Ndoc.key f := by rw [j2]; exact foldAll_sorted (mayD_iff.1 hg).2.2
          have hfl : f.length ≤ 200 := by
            have := foldAll_len (l := l) (cs := all.take j)
            rw [List.length_take] at this
            have := (mayD_iff.1 hg).1
            rw [j2]; omega
          have hfd : ∀ n ∈ f, n.doc.length ≤ 20 := by
            rw [j2]
            exact foldAll_docs hsm.2 fun c hc => i4.docs c (List.mem_of_mem_take hc)
          by_cases hj : j < all.length
          · obtain ⟨c, hc⟩ : ∃ c, all[j]? = some c := ⟨all[j], by simp [hj]⟩
            have hcp : c.pos = j + 1 := by have := i4.pos j c hc; omega
            have hcd := i4.docs c (List.mem_of_getElem? hc)
            have f1 := fold_fn O f c (by omega) hfs (fun n hn => by have := hfd n hn; omega) (by omega)
            have f2 := rfold_fn O f c (by omega) hfs
            have hnx : foldD f c = foldAll l (all.take (j + 1)) := by rw [j2]; exact (foldAll_take hc).symm
            have k5 := docs_same O (foldD f c) (by have := foldD_len (l := f) (c := c); omega) (fun n hn => by
              rcases foldD_mem hn with h | ⟨_, rfl⟩
              · have := hfd n h; omega
              · exact Nat.le_trans hcd (by decide))
            rw [show O.o (foldD f) c = foldD f c by rw [O.h]] at f1 f2
            obtain ⟨f', ef⟩ : ∃ x, x = foldD f c := ⟨_, rfl⟩
            rw [← ef] at f1 f2 k5 hnx
            clear i4 hfs hfd ef hsm hg aw
            obtain ⟨cp, ck, ch, cd⟩ := c
            replace hcp : cp = j + 1 := hcp
            (repeat' first | (refine Named.i64 ?_ fun _ _ => ?_; (focus lia); cbv) | (refine Ex.known O (Change.enc O) rfl hc ?_ ?_; (focus lia); cbv) | (refine CallThen.mk _ _ (C.fn (f1)) ?_; cbv) | (refine CallThen.mk _ _ (C.fn (f2)) ?_; cbv) | (refine CallThen.mk _ _ (C.fn (k5)) ?_; cbv) | (refine Back.to (j + 1, f') [] [] ?_ fun _ _ => ?_; rotate_left; cbv) | (refine Named.len fun _ _ hq => ?_; (try simp only [List.length_append, List.length_take, List.length_drop, List.length_replicate, List.length_set] at hq); cbv) | (refine Named.mk fun _ _ => ?_; cbv) | (refine Br.t ?_ ?_; (focus first | assumption | lia); cbv) | (refine Br.f ?_ ?_; (focus first | assumption | lia); cbv) | (refine Br.mk (fun _ => ?_) (fun _ => ?_) <;> cbv) | (refine Need.mk ?_ ?_; rotate_left; cbv) | (refine RetThen.mk [] [] ?_; cbv))
            all_goals try first
              | (exfalso; clear hc f1 f2 k5 j2 hnx; lia)
              | (clear hc f1 f2 k5 j2 hnx; lia)
              | exact ⟨⟨by show j + 1 ≤ all.length; omega, hnx⟩, by show all.length - (j + 1) < all.length - j; omega⟩
            all_goals first
              | (rename_i y ey; subst ey; (repeat' apply And.intro) <;> first | exact True.intro | exact WkR.refl _ | rfl | (dsimp only; clear hc f1 f2 k5 j2 hnx; lia) | trace_state)
              | trace_state
          · have hff : f = now := by rw [j2, i4.now, List.take_of_length_le (by omega)]
            subst hff
            have k5 := docs_same O f (by omega) (fun n hn => by have := hfd n hn; omega)
            have k6 := r12may_fn O f (by omega) fun n hn => ⟨by have := hfd n hn; omega, may_paths ((mayD_iff.1 i4.may).2.1 n hn).2⟩
            rw [show O.o mayD f = true by rw [O.h]; exact i4.may] at k6
            clear j2 i4 hfs hfd hsm hg
            (repeat' first | (refine Named.i64 ?_ fun _ _ => ?_; (focus lia); cbv) | (refine CallThen.mk _ _ (C.fn (k5)) ?_; cbv) | (refine CallThen.mk _ _ (C.fn (k6)) ?_; cbv) | (refine CallThen.mk _ _ (C.fn (aw)) ?_; cbv) | (refine Named.len fun _ _ hq => ?_; (try simp only [List.length_append, List.length_take, List.length_drop, List.length_replicate, List.length_set] at hq); cbv) | (refine Named.mk fun _ _ => ?_; cbv) | (refine Br.t ?_ ?_; (focus first | assumption | lia); cbv) | (refine Br.f ?_ ?_; (focus first | assumption | lia); cbv) | (refine Br.mk (fun _ => ?_) (fun _ => ?_) <;> cbv) | (refine Need.mk ?_ ?_; rotate_left; cbv) | (refine RetThen.mk [] [] ?_; cbv))
            all_goals first
              | exact ⟨rfl, trivial⟩
              | (exfalso; clear k5 k6 aw; lia)
              | trace_state
    · rw [show O.o mayD l = false by rw [O.h]; simpa using hg] at k3
      clear hp hdl hs1 hsm hg
      refine go (fn := Go.Proofs.Tryd.f3) (n := 158) (rv := [ResultVar.tmp 4]) rfl (by decide) rfl (by decide +kernel) rfl rfl (by simp) fun F L C => ?_
      cbv
      (repeat' first | (refine Named.i64 ?_ fun _ _ => ?_; (focus lia); cbv) | (refine CallThen.mk _ _ (C.fn (g1)) ?_; cbv) | (refine CallThen.mk _ _ (C.fn (k3)) ?_; cbv) | (refine CallThen.mk _ _ (C.fn (aw)) ?_; cbv) | (refine Named.len fun _ _ hq => ?_; (try simp only [List.length_append, List.length_take, List.length_drop, List.length_replicate, List.length_set] at hq); cbv) | (refine Named.mk fun _ _ => ?_; cbv) | (refine Br.t ?_ ?_; (focus first | assumption | lia); cbv) | (refine Br.f ?_ ?_; (focus first | assumption | lia); cbv) | (refine Br.mk (fun _ => ?_) (fun _ => ?_) <;> cbv) | (refine Need.mk ?_ ?_; rotate_left; cbv) | (refine RetThen.mk [] [] ?_; cbv))
      all_goals first
        | exact ⟨rfl, trivial⟩
        | trace_state
  · rw [show O.o smallD l = false by rw [O.h]; simpa using hs1] at g1
    clear hp hs1
    refine go (fn := Go.Proofs.Tryd.f3) (n := 158) (rv := [ResultVar.tmp 4]) rfl (by decide) rfl (by decide +kernel) rfl rfl (by simp) fun F L C => ?_
    cbv
    (repeat' first | (refine Named.i64 ?_ fun _ _ => ?_; (focus lia); cbv) | (refine CallThen.mk _ _ (C.fn (g1)) ?_; cbv) | (refine CallThen.mk _ _ (C.fn (aw)) ?_; cbv) | (refine Named.len fun _ _ hq => ?_; (try simp only [List.length_append, List.length_take, List.length_drop, List.length_replicate, List.length_set] at hq); cbv) | (refine Named.mk fun _ _ => ?_; cbv) | (refine Br.t ?_ ?_; (focus first | assumption | lia); cbv) | (refine Br.f ?_ ?_; (focus first | assumption | lia); cbv) | (refine Br.mk (fun _ => ?_) (fun _ => ?_) <;> cbv) | (refine Need.mk ?_ ?_; rotate_left; cbv) | (refine RetThen.mk [] [] ?_; cbv))
    all_goals first
      | exact ⟨rfl, trivial⟩
      | trace_state
end Go.Sym
namespace Go.Sym
open Go
noncomputable def stepB (s : List Ndoc × Int) (o : Opn) : List Ndoc × Int := if s.2 ≠ 0 then s else if (writeA s.1 o).code ≠ 0 then (s.1, (writeA s.1 o).code) else (foldD s.1 (writeC o), 0)
noncomputable def seqB (l : List Ndoc) (ops : List Opn) : List Ndoc × Int := ops.foldl stepB (l, 0)
def batchO (ops : List Opn) : Opn := .mk 6 ByteArray.empty ByteArray.empty [] [] false 0 0 ops [] []
theorem seqB_more {l : List Ndoc} {ops : List Opn} {i : Nat} {o : Opn} (h : ops[i]? = some o) : seqB l (ops.take (i + 1)) = stepB (seqB l (ops.take i)) o := by
  rw [seqB, List.take_add_one, h, List.foldl_append]; rfl
theorem stepB_skip : ∀ (ops : List Opn) (s : List Ndoc × Int), s.2 ≠ 0 → ops.foldl stepB s = s
  | [], _, _ => rfl
  | o :: l, s, h => by rw [List.foldl_cons, show stepB s o = s by rw [stepB, if_pos h], stepB_skip l s h]
theorem stepB0 {now : List Ndoc} {o : Opn} : stepB (now, 0) o = if (writeA now o).code ≠ 0 then (now, (writeA now o).code) else (foldD now (writeC o), 0) := if_neg (fun h => h rfl)
theorem seq_run {first : List Ndoc} {t : Int} : ∀ (ops : List Opn) (now : List Ndoc) (out : List Change),
    (runB first t ops now out).2.1.code = (ops.foldl stepB (now, 0)).2 ∧ ((ops.foldl stepB (now, 0)).2 = 0 → (runB first t ops now out).1 = (ops.foldl stepB (now, 0)).1) ∧ ((ops.foldl stepB (now, 0)).2 ≠ 0 → (runB first t ops now out).1 = first)
  | [], now, out => by simp [runB]
  | o :: l, now, out => by
    rw [runB, List.foldl_cons, stepB0]
    by_cases h : (writeA now o).code ≠ 0
    · rw [if_pos h, if_pos h, stepB_skip l _ h]
      exact ⟨rfl, fun k => absurd k h, fun _ => rfl⟩
    · rw [if_neg h, if_neg h, foldD_pos]
      exact seq_run l _ _
theorem runB_one {l : List Ndoc} {o : Opn} : ∃ cs, runB l 0 [o] l [] = ((stepB (l, 0) o).1, (runB l 0 [o] l []).2.1, cs) ∧ (runB l 0 [o] l []).2.1.code = (stepB (l, 0) o).2 := by
  obtain ⟨h1, h2, h3⟩ := seq_run (first := l) (t := 0) [o] l []
  refine ⟨(runB l 0 [o] l []).2.2, ?_, h1⟩
  have e : (runB l 0 [o] l []).1 = (stepB (l, 0) o).1 := by
    by_cases h : (stepB (l, 0) o).2 = 0
    · exact h2 h
    · rw [h3 h, stepB0]
      rw [stepB0] at h
      split
      · rfl
      · rename_i k; rw [if_neg k] at h; exact absurd rfl h
  rw [← e]
theorem stepB_may {s : List Ndoc × Int} {o : Opn} (h : mayD s.1 = true) : mayD (stepB s o).1 = true := by
  rw [stepB]; split
  · exact h
  · split
    · exact h
    · rename_i k; exact write_may h (by simpa using k)
theorem batch_spec {l : List Ndoc} {ops : List Opn} (hm : mayD l = true) (h1 : ¬ ops.length < 1) (h4 : ¬ 4 < ops.length) (hw : ∀ o ∈ ops, writesB o = true) {R1 : List Ndoc} {R2 : Answer} {R3 : List Change} (hR : applyR l (batchO ops) 7 = (R1, R2, R3)) :
    R2.code = (seqB l ops).2 ∧ R1 = (if (seqB l ops).2 = 0 then (seqB l ops).1 else l) ∧ ((seqB l ops).2 = 0 → R3.length = ops.length ∧ R2.n = 7 + ops.length) ∧ ((seqB l ops).2 ≠ 0 → R3.length = 0) := by
  have hn : ¬ (ops.length < 1 ∨ 4 < ops.length ∨ ops.any notWrites = true) := by
    rintro (h | h | h)
    · exact h1 h
    · exact h4 h
    · obtain ⟨x, hx, hp⟩ := List.any_eq_true.1 h
      simp [notWrites, hw x hx] at hp
  rw [applyR, if_neg (by simp [writesB, batchO, Opn.kind]), if_pos (show (batchO ops).kind = 6 from rfl), batchR, show (batchO ops).list = ops from rfl, if_neg hn] at hR
  obtain ⟨k1, k2, k3⟩ := seq_run (first := l) (t := 7) ops l []
  rw [hR] at k1 k2 k3
  refine ⟨k1, ?_, fun h => ?_, fun h => ?_⟩
  · split
    · rename_i h; exact k2 h
    · rename_i h; exact k3 h
  · rcases runB_spec (first := l) (total := 7) ops l [] hm with ⟨_, _, _, _, a, b⟩ | ⟨a, _⟩
    · rw [hR] at b; cases b
      exact absurd (k1.trans h) a
    · rw [hR] at a; cases a
      exact ⟨by rw [List.nil_append, writeCs_len], by simp [answerN]⟩
  · rcases runB_spec (first := l) (total := 7) ops l [] hm with ⟨_, _, _, _, a, b⟩ | ⟨a, _⟩
    · rw [hR] at b; cases b; rfl
    · rw [hR] at a; cases a
      exact absurd (k1.symm.trans rfl) h
end Go.Sym
