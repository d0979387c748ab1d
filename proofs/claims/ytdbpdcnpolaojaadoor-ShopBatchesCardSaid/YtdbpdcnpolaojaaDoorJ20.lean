/- Are two lists alike, by the document. -/
import Derived.Test.YtdbpdcnpolaojaaDoorJ8
import Derived.Test.YtdbpdcnpolaojaaDoorJ19
import Derived.Test.YtdbpdcnpolaojaaDoorJ12
set_option linter.all false
set_option linter.unusedVariables false
set_option linter.unusedSimpArgs false
namespace Go.Sym
open Go Go.Proofs.Tryd
set_option maxRecDepth 100000
theorem r12docs_fn (O : Opq) (d e : List Ndoc) (hd : d.length ≤ 9223372036854775807) (hdd : ∀ c ∈ d, c.doc.length ≤ 9223372036854775807) : Fn prog 10 [.sl false 0 false 2 (O.o (Nms.enc O) d), .sl false 0 false 2 (O.o (Nms.enc O) e)] [] [.bool (O.o sameNs d e)] [] := by
  have hlen := Nms.len O d
  have hlen2 := Nms.len O e
  obtain ⟨N, hN⟩ : ∃ N : Nat, N = d.length := ⟨_, rfl⟩
  obtain ⟨z, hz⟩ : ∃ z : Nat, z = 0 := ⟨_, rfl⟩
  refine go (fn := Go.Proofs.Tryd.f10) (n := 40) (rv := [ResultVar.tmp 4]) rfl (by decide) rfl (by decide +kernel) rfl rfl (by simp) fun F L C => ?_
  cbv
  (repeat' first | (refine Named.i64 ?_ fun _ _ => ?_; (focus lia); cbv) | (refine Named.len fun _ _ hq => ?_; (try simp only [List.length_append, List.length_take, List.length_drop, List.length_replicate, List.length_set] at hq); cbv) | (refine Named.mk fun _ _ => ?_; cbv) | (refine Br.t ?_ ?_; (focus first | assumption | lia); cbv) | (refine Br.f ?_ ?_; (focus first | assumption | lia); cbv) | (refine Br.mk (fun _ => ?_) (fun _ => ?_) <;> cbv) | (refine Need.mk ?_ ?_; rotate_left; cbv) | (refine RetThen.mk [] [] ?_; cbv))
  all_goals try first
    | (refine ⟨?_, trivial⟩; simp only [O.h]; exact sameNs_len (by lia))
  refine LoopThen.mk (C.loopAt (ι := Nat) [(4, 5), (11, 41)] (fun k => [(4, .bool false), (5, .int .i64 k)]) (fun _ => [])
    (fun k => k ≤ d.length ∧ ∀ (j : Nat), j < k → d[j]? = e[j]?) (fun k => N - k) (by decide +kernel) (Start.mk z [] [] ⟨by lia, fun j hj => by omega⟩ (by cbv; (repeat' apply And.intro) <;> first | exact True.intro | exact WkR.refl _ | rfl | lia)) ?_)
  intro k g
  cbv
  have g1 : k ≤ d.length := g.1
  have g2 := g.2
  clear g
  by_cases hk : k < d.length
  · obtain ⟨x, hx⟩ : ∃ x, d[k]? = some x := ⟨d[k], by simp [hk]⟩
    obtain ⟨y, hy⟩ : ∃ y, e[k]? = some y := ⟨e[k]'(by lia), by simp⟩
    have hxd := hdd x (List.mem_of_getElem? hx)
    have hne : x ≠ y → O.o sameNs d e = false := fun h => by simp only [O.h]; exact sameNs_at (k := k) (by rw [hx, hy]; simpa using h)
    have hst : x = y → ∀ (j : Nat), j < k + 1 → d[j]? = e[j]? := fun h j hj => by
      by_cases ej : j = k
      · subst ej; rw [hx, hy, h]
      · exact g2 j (by omega)
    clear g2 hdd
    obtain ⟨key, doc⟩ := x
    obtain ⟨key', doc'⟩ := y
    have hsd : O.o sameDoc doc doc' = true ↔ doc = doc' := by rw [O.h]; exact sameDoc_iff
    (repeat' first | (refine Named.i64 ?_ fun _ _ => ?_; (focus lia); cbv) | (refine Ex.known O (Ndoc.enc O) rfl hx ?_ ?_; (focus lia); cbv) | (refine Ex.known O (Ndoc.enc O) rfl hy ?_ ?_; (focus lia); cbv) | (refine CallThen.bool (C.fn (rsameW_fn O doc doc' hxd)) (fun _ => ?_) (fun _ => ?_) <;> cbv) | (refine Back.up [] [] ?_ ?_ fun _ _ => ?_; rotate_left 2; cbv; refine And.intro ?_ ?_) | (refine Named.len fun _ _ hq => ?_; (try simp only [List.length_append, List.length_take, List.length_drop, List.length_replicate, List.length_set] at hq); cbv) | (refine Named.mk fun _ _ => ?_; cbv) | (refine Br.t ?_ ?_; (focus first | assumption | lia); cbv) | (refine Br.f ?_ ?_; (focus first | assumption | lia); cbv) | (refine Br.mk (fun _ => ?_) (fun _ => ?_) <;> cbv) | (refine Need.mk ?_ ?_; rotate_left; cbv) | (refine RetThen.mk [] [] ?_; cbv))
    all_goals (repeat' apply And.intro)
    all_goals try first
      | exact True.intro
      | exact WkR.refl _
      | (clear hx hy hne hst hsd; lia)
    all_goals first
      | (refine hne fun h => ?_; simp only [Ndoc.mk.injEq] at h; clear hx hy hst; grind)
      | (refine hst ?_; simp only [Ndoc.mk.injEq]; clear hx hy hne hst; grind)
      | trace_state
  · (repeat' first | (refine Named.i64 ?_ fun _ _ => ?_; (focus lia); cbv) | (refine Named.len fun _ _ hq => ?_; (try simp only [List.length_append, List.length_take, List.length_drop, List.length_replicate, List.length_set] at hq); cbv) | (refine Named.mk fun _ _ => ?_; cbv) | (refine Br.t ?_ ?_; (focus first | assumption | lia); cbv) | (refine Br.f ?_ ?_; (focus first | assumption | lia); cbv) | (refine Br.mk (fun _ => ?_) (fun _ => ?_) <;> cbv) | (refine Need.mk ?_ ?_; rotate_left; cbv) | (refine RetThen.mk [] [] ?_; cbv))
    all_goals (repeat' apply And.intro)
    all_goals try first
      | exact True.intro
      | lia
    all_goals
      simp only [O.h]
      exact sameNs_all (by clear g2; lia) fun j hj => g2 j (by clear g2; lia)
end Go.Sym
namespace Go.Sym
open Go Go.Proofs.Tryd
set_option maxRecDepth 100000
open Classical in
noncomputable def smallD (l : List Ndoc) : Bool := decide (l.length ≤ 40 ∧ ∀ (j : Nat) (n : Ndoc), l[j]? = some n → n.doc.length ≤ 20)
theorem smallD_iff {l : List Ndoc} : smallD l = true ↔ l.length ≤ 40 ∧ ∀ n ∈ l, n.doc.length ≤ 20 := by
  simp only [smallD, decide_eq_true_eq]
  constructor
  · rintro ⟨h, k⟩
    refine ⟨h, fun n hn => ?_⟩
    obtain ⟨i, hi, rfl⟩ := List.getElem_of_mem hn
    exact k i _ (List.getElem?_eq_getElem hi)
  · rintro ⟨h, k⟩
    exact ⟨h, fun j n hn => k n (List.mem_of_getElem? hn)⟩
theorem ldocs_fn (O : Opq) (l : List Ndoc) (hl : l.length ≤ 9223372036854775807) : Fn prog 5 [.sl false 0 false 2 (O.o (Nms.enc O) l)] [] [.bool (O.o smallD l)] [] := by
  have hlen := Nms.len O l
  have hno : ¬ (l.length ≤ 40 ∧ ∀ (j : Nat) (n : Ndoc), l[j]? = some n → n.doc.length ≤ 20) → O.o smallD l = false := fun h => by
    simp only [O.h, smallD, decide_eq_false_iff_not]; exact h
  have hyes : (l.length ≤ 40 ∧ ∀ (j : Nat) (n : Ndoc), l[j]? = some n → n.doc.length ≤ 20) → O.o smallD l = true := fun h => by
    simp only [O.h, smallD, decide_eq_true_eq]; exact h
  obtain ⟨Q, eQ⟩ : ∃ Q, Q = O.o smallD l := ⟨_, rfl⟩
  rw [← eQ] at hno hyes ⊢
  obtain ⟨N, hN⟩ : ∃ N : Nat, N = l.length := ⟨_, rfl⟩
  obtain ⟨z, hz⟩ : ∃ z : Nat, z = 0 := ⟨_, rfl⟩
  clear eQ
  refine go (fn := Go.Proofs.Tryd.f5) (n := 23) (rv := [ResultVar.tmp 2]) rfl (by decide) rfl (by decide +kernel) rfl rfl (by simp) fun F L C => ?_
  cbv
  (repeat' first | (refine Named.i64 ?_ fun _ _ => ?_; (focus lia); cbv) | (refine Named.len fun _ _ hq => ?_; (try simp only [List.length_append, List.length_take, List.length_drop, List.length_replicate, List.length_set] at hq); cbv) | (refine Named.mk fun _ _ => ?_; cbv) | (refine Br.t ?_ ?_; (focus first | assumption | lia); cbv) | (refine Br.f ?_ ?_; (focus first | assumption | lia); cbv) | (refine Br.mk (fun _ => ?_) (fun _ => ?_) <;> cbv) | (refine Need.mk ?_ ?_; rotate_left; cbv) | (refine RetThen.mk [] [] ?_; cbv))
  refine LoopThen.mk (C.loopAt (ι := Nat) [(2, 20)] (fun i => [(2, .bool false), (3, .int .i64 i)]) (fun _ => [])
    (fun i => (i ≤ N ∧ i ≤ 40) ∧ ∀ (j : Nat) (n : Ndoc), j < i → l[j]? = some n → n.doc.length ≤ 20) (fun i => N - i) (by decide +kernel) (Start.mk z [] [] ⟨by lia, fun j n hj => by omega⟩ (by cbv; (repeat' apply And.intro) <;> first | exact True.intro | exact WkR.refl _ | rfl | lia)) ?_)
  intro i g
  cbv
  have g1 : i ≤ N ∧ i ≤ 40 := g.1
  have g2 := g.2
  clear g
  by_cases hi : i < l.length
  · obtain ⟨x, hx⟩ : ∃ x, l[i]? = some x := ⟨l[i], by simp [hi]⟩
    have hno1 : 20 < x.doc.length → Q = false := fun h => hno fun k => by have := k.2 i x hx; omega
    have hno2 : 40 < l.length → Q = false := fun h => hno fun k => by have := k.1; omega
    have hst : x.doc.length ≤ 20 → ∀ (j : Nat) (n : Ndoc), j < i + 1 → l[j]? = some n → n.doc.length ≤ 20 := fun h j n hj hn => by
      by_cases e : j = i
      · subst e; rw [hx] at hn; cases hn; exact h
      · exact g2 j n (by omega) hn
    have hdl : (O.o Doc.enc x.doc).length = x.doc.length := by rw [O.h, Doc.enc_len]
    clear hno hyes g2
    obtain ⟨xk, xd⟩ := x
    replace hno1 : 20 < xd.length → Q = false := hno1
    replace hst : xd.length ≤ 20 → ∀ (j : Nat) (n : Ndoc), j < i + 1 → l[j]? = some n → n.doc.length ≤ 20 := hst
    replace hdl : (O.o Doc.enc xd).length = xd.length := hdl
    (repeat' first | (refine Named.i64 ?_ fun _ _ => ?_; (focus lia); cbv) | (refine Ex.known O (Ndoc.enc O) rfl hx ?_ ?_; (focus lia); cbv) | (refine Back.up [] [] ?_ ?_ fun _ _ => ?_; rotate_left 2; cbv; refine And.intro ?_ ?_) | (refine Named.len fun _ _ hq => ?_; (try simp only [List.length_append, List.length_take, List.length_drop, List.length_replicate, List.length_set] at hq); cbv) | (refine Named.mk fun _ _ => ?_; cbv) | (refine Br.t ?_ ?_; (focus first | assumption | lia); cbv) | (refine Br.f ?_ ?_; (focus first | assumption | lia); cbv) | (refine Br.mk (fun _ => ?_) (fun _ => ?_) <;> cbv) | (refine Need.mk ?_ ?_; rotate_left; cbv) | (refine RetThen.mk [] [] ?_; cbv))
    all_goals (repeat' apply And.intro)
    all_goals try first
      | exact True.intro
      | exact WkR.refl _
      | (clear hx hno1 hno2 hst; lia)
      | exact hno1 (by clear hx hno1 hno2 hst; lia)
      | exact hno2 (by clear hx hno1 hno2 hst; lia)
      | exact hst (by clear hx hno1 hno2 hst; lia)
    all_goals trace_state
  · have hy : l.length ≤ 40 → Q = true := fun h => hyes ⟨h, fun j n hn => g2 j n (by have := (List.getElem?_eq_some_iff.1 hn).1; omega) hn⟩
    have hn : ¬ l.length ≤ 40 → Q = false := fun h => hno fun k => h k.1
    clear hno hyes g2
    (repeat' first | (refine Named.i64 ?_ fun _ _ => ?_; (focus lia); cbv) | (refine Named.len fun _ _ hq => ?_; (try simp only [List.length_append, List.length_take, List.length_drop, List.length_replicate, List.length_set] at hq); cbv) | (refine Named.mk fun _ _ => ?_; cbv) | (refine Br.t ?_ ?_; (focus first | assumption | lia); cbv) | (refine Br.f ?_ ?_; (focus first | assumption | lia); cbv) | (refine Br.mk (fun _ => ?_) (fun _ => ?_) <;> cbv) | (refine Need.mk ?_ ?_; rotate_left; cbv) | (refine RetThen.mk [] [] ?_; cbv))
    all_goals first
      | (exfalso; clear hy hn; lia)
      | exact ⟨hy (by clear hy hn; lia), trivial⟩
      | exact ⟨(hy (by clear hy hn; lia)).symm, trivial⟩
      | exact ⟨hn (by clear hy hn; lia), trivial⟩
      | trace_state
end Go.Sym
namespace Go.Sym
open Go Go.Proofs.Tryd
set_option maxRecDepth 100000
def lightP (o : Opn) : Prop := (∀ (j : Nat) (x : Opn), o.list[j]? = some x → x.doc.length ≤ 20 ∧ x.want.length ≤ 20 ∧ x.list.length ≤ 5) ∧ o.doc.length ≤ 20 ∧ o.want.length ≤ 20 ∧ o.list.length ≤ 6 ∧ o.docs.length ≤ 30 ∧ o.news.length ≤ 20
open Classical in
noncomputable def lightO (o : Opn) : Bool := decide (lightP o)
theorem lightO_iff {o : Opn} : lightO o = true ↔ lightP o := by simp only [lightO, decide_eq_true_eq]
set_option maxHeartbeats 1000000 in
theorem llight_fn (O : Opq) (o : Opn) : Fn prog 8 [.agg (o.en O)] [] [.bool (O.o lightO o)] [] := by
  have hno : ¬ lightP o → O.o lightO o = false := fun h => by
    simp only [O.h, lightO, decide_eq_false_iff_not]; exact h
  have hyes : lightP o → O.o lightO o = true := fun h => by
    simp only [O.h]; exact lightO_iff.2 h
  obtain ⟨Q, eQ⟩ : ∃ Q, Q = O.o lightO o := ⟨_, rfl⟩
  rw [← eQ] at hno hyes ⊢
  clear eQ
  obtain ⟨kind, key, to, doc, want, has, n, most, ops, docs, news⟩ := o
  replace hno : ¬ ((∀ (j : Nat) (x : Opn), ops[j]? = some x → x.doc.length ≤ 20 ∧ x.want.length ≤ 20 ∧ x.list.length ≤ 5) ∧ doc.length ≤ 20 ∧ want.length ≤ 20 ∧ ops.length ≤ 6 ∧ docs.length ≤ 30 ∧ news.length ≤ 20) → Q = false := hno
  replace hyes : ((∀ (j : Nat) (x : Opn), ops[j]? = some x → x.doc.length ≤ 20 ∧ x.want.length ≤ 20 ∧ x.list.length ≤ 5) ∧ doc.length ≤ 20 ∧ want.length ≤ 20 ∧ ops.length ≤ 6 ∧ docs.length ≤ 30 ∧ news.length ≤ 20) → Q = true := hyes
  have hlen := Ops.len O ops
  have hl2 : (O.o Doc.enc doc).length = doc.length := by rw [O.h, Doc.enc_len]
  have hl3 : (O.o Doc.enc want).length = want.length := by rw [O.h, Doc.enc_len]
  have hl4 := Nms.len O docs
  have hl5 := Chs.len O news
  obtain ⟨N, hN⟩ : ∃ N : Nat, N = ops.length := ⟨_, rfl⟩
  obtain ⟨z, hz⟩ : ∃ z : Nat, z = 0 := ⟨_, rfl⟩
  refine go (fn := Go.Proofs.Tryd.f8) (n := 70) (rv := [ResultVar.tmp 2]) rfl (by decide) rfl (by decide +kernel) rfl rfl (by simp) fun F L C => ?_
  cbv
  (repeat' first | (refine Named.i64 ?_ fun _ _ => ?_; (focus lia); cbv) | (refine Named.len fun _ _ hq => ?_; (try simp only [List.length_append, List.length_take, List.length_drop, List.length_replicate, List.length_set] at hq); cbv) | (refine Named.mk fun _ _ => ?_; cbv) | (refine Br.t ?_ ?_; (focus first | assumption | lia); cbv) | (refine Br.f ?_ ?_; (focus first | assumption | lia); cbv) | (refine Br.mk (fun _ => ?_) (fun _ => ?_) <;> cbv) | (refine Need.mk ?_ ?_; rotate_left; cbv) | (refine RetThen.mk [] [] ?_; cbv))
  refine LoopThen.mk (C.loopAt (ι := Nat) [(2, 42)] (fun i => [(2, .bool false), (3, .int .i64 i)]) (fun _ => [(192, .box [.int .i64 kind, .str key, .str to, .sl false 0 false 6 (O.o Doc.enc doc), .sl false 0 false 6 (O.o Doc.enc want), .bool has, .int .i64 n, .int .i64 most, .sl false 0 false 11 (O.o (Ops.enc O) ops), .sl false 0 false 2 (O.o (Nms.enc O) docs), .sl false 0 false 4 (O.o (Chs.enc O) news)])])
    (fun i => (i ≤ N ∧ i ≤ 6) ∧ ∀ (j : Nat) (x : Opn), j < i → ops[j]? = some x → x.doc.length ≤ 20 ∧ x.want.length ≤ 20 ∧ x.list.length ≤ 5) (fun i => N - i) (by decide +kernel) (Start.mk z [] [] ⟨by omega, fun j n hj => by omega⟩ ?_) ?_)
  · cbv
    (repeat' apply And.intro) <;> first | exact True.intro | exact WkR.refl _ | rfl | lia | trace_state
  intro i g
  cbv
  have g1 : i ≤ N ∧ i ≤ 6 := g.1
  have g2 := g.2
  clear g
  by_cases hi : i < ops.length
  · obtain ⟨x, hx⟩ : ∃ x, ops[i]? = some x := ⟨ops[i], by simp [hi]⟩
    have hno1 : ¬ (x.doc.length ≤ 20 ∧ x.want.length ≤ 20 ∧ x.list.length ≤ 5) → Q = false := fun h => hno fun k => h (k.1 i x hx)
    have hno2 : 6 < ops.length → Q = false := fun h => hno fun k => by have := k.2.2.2.1; omega
    have hst : (x.doc.length ≤ 20 ∧ x.want.length ≤ 20 ∧ x.list.length ≤ 5) → ∀ (j : Nat) (y : Opn), j < i + 1 → ops[j]? = some y → y.doc.length ≤ 20 ∧ y.want.length ≤ 20 ∧ y.list.length ≤ 5 := fun h j n hj hn => by
      by_cases e : j = i
      · subst e; rw [hx] at hn; cases hn; exact h
      · exact g2 j n (by omega) hn
    have hx1 : (O.o Doc.enc x.doc).length = x.doc.length := by rw [O.h, Doc.enc_len]
    have hx2 : (O.o Doc.enc x.want).length = x.want.length := by rw [O.h, Doc.enc_len]
    have hx3 := Ops.len O x.list
    clear hno hyes g2
    obtain ⟨xkind, xkey, xto, xdoc, xwant, xhas, xn, xmost, xlist, xdocs, xnews⟩ := x
    replace hno1 : ¬ (xdoc.length ≤ 20 ∧ xwant.length ≤ 20 ∧ xlist.length ≤ 5) → Q = false := hno1
    replace hst : (xdoc.length ≤ 20 ∧ xwant.length ≤ 20 ∧ xlist.length ≤ 5) → ∀ (j : Nat) (y : Opn), j < i + 1 → ops[j]? = some y → y.doc.length ≤ 20 ∧ y.want.length ≤ 20 ∧ y.list.length ≤ 5 := hst
    replace hx1 : (O.o Doc.enc xdoc).length = xdoc.length := hx1
    replace hx2 : (O.o Doc.enc xwant).length = xwant.length := hx2
    replace hx3 : (O.o (Ops.enc O) xlist).length = xlist.length := hx3
    (repeat' first | (refine Named.i64 ?_ fun _ _ => ?_; (focus lia); cbv) | (refine Ex.opn O hx ?_ ?_; (focus lia); cbv) | (refine Back.up [] [] ?_ ?_ fun _ _ => ?_; rotate_left 2; cbv; refine And.intro ?_ ?_) | (refine Named.len fun _ _ hq => ?_; (try simp only [List.length_append, List.length_take, List.length_drop, List.length_replicate, List.length_set] at hq); cbv) | (refine Named.mk fun _ _ => ?_; cbv) | (refine Br.t ?_ ?_; (focus first | assumption | lia); cbv) | (refine Br.f ?_ ?_; (focus first | assumption | lia); cbv) | (refine Br.mk (fun _ => ?_) (fun _ => ?_) <;> cbv) | (refine Need.mk ?_ ?_; rotate_left; cbv) | (refine RetThen.mk [] [] ?_; cbv))
    all_goals (repeat' apply And.intro)
    all_goals try first
      | exact True.intro
      | exact WkR.refl _
      | (clear hx hno1 hno2 hst; lia)
      | exact hno1 (by clear hx hno1 hno2 hst; lia)
      | exact hno2 (by clear hx hno1 hno2 hst; lia)
      | exact hst (by clear hx hno1 hno2 hst; lia)
    all_goals trace_state
  · have hall : i ≤ 6 → ∀ (j : Nat) (x : Opn), ops[j]? = some x → x.doc.length ≤ 20 ∧ x.want.length ≤ 20 ∧ x.list.length ≤ 5 := fun _ j x h => g2 j x (by have := (List.getElem?_eq_some_iff.1 h).1; omega) h
    have hy : (doc.length ≤ 20 ∧ want.length ≤ 20 ∧ ops.length ≤ 6 ∧ docs.length ≤ 30 ∧ news.length ≤ 20) → Q = true := fun h => hyes ⟨hall g1.2, h⟩
    have hn : ¬ (doc.length ≤ 20 ∧ want.length ≤ 20 ∧ ops.length ≤ 6 ∧ docs.length ≤ 30 ∧ news.length ≤ 20) → Q = false := fun h => hno fun k => h k.2
    clear hno hyes g2 hall
    (repeat' first | (refine Named.i64 ?_ fun _ _ => ?_; (focus lia); cbv) | (refine Named.len fun _ _ hq => ?_; (try simp only [List.length_append, List.length_take, List.length_drop, List.length_replicate, List.length_set] at hq); cbv) | (refine Named.mk fun _ _ => ?_; cbv) | (refine Br.t ?_ ?_; (focus first | assumption | lia); cbv) | (refine Br.f ?_ ?_; (focus first | assumption | lia); cbv) | (refine Br.mk (fun _ => ?_) (fun _ => ?_) <;> cbv) | (refine Need.mk ?_ ?_; rotate_left; cbv) | (refine RetThen.mk [] [] ?_; cbv))
    all_goals first
      | (exfalso; clear hy hn; lia)
      | exact ⟨hy (by clear hy hn; lia), trivial⟩
      | exact ⟨(hy (by clear hy hn; lia)).symm, trivial⟩
      | exact ⟨hn (by clear hy hn; lia), trivial⟩
      | trace_state
end Go.Sym
