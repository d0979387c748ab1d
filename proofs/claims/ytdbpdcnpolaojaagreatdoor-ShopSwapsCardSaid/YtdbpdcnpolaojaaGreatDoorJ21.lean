/- Is what is asked small: the law's own guard. -/
import Derived.Test.YtdbpdcnpolaojaaGreatDoorJ20
import Derived.Test.YtdbpdcnpolaojaaGreatDoorJ15
import Derived.Test.YtdbpdcnpolaojaaGreatDoorJ16
set_option linter.all false
set_option linter.unusedVariables false
set_option linter.unusedSimpArgs false
namespace Go.Sym
open Go Go.Proofs.Tryz
set_option maxRecDepth 100000
def lightP (o : Opn) : Prop := (∀ (j : Nat) (x : Opn), o.list[j]? = some x → x.doc.length ≤ 20 ∧ x.want.length ≤ 20 ∧ x.list.length ≤ 5) ∧ o.doc.length ≤ 20 ∧ o.want.length ≤ 20 ∧ o.list.length ≤ 6 ∧ o.docs.length ≤ 30 ∧ o.news.length ≤ 20
open Classical in
noncomputable def lightO (o : Opn) : Bool := decide (lightP o)
theorem lightO_iff {o : Opn} : lightO o = true ↔ lightP o := by simp only [lightO, decide_eq_true_eq]
set_option maxHeartbeats 1000000 in
theorem llight_fn (O : Opq) (o : Opn) : Fn prog 28 [.agg (o.en O)] [] [.bool (O.o lightO o)] [] := by
  have hno : ¬ lightP o → O.o lightO o = false := fun h => by
    simp only [O.h, lightO, decide_eq_false_iff_not]; exact h
  have hyes : lightP o → O.o lightO o = true := fun h => by
    simp only [O.h]; exact lightO_iff.2 h
  obtain ⟨Q, eQ⟩ : ∃ Q, Q = O.o lightO o := ⟨_, rfl⟩
  rw [← eQ] at hno hyes ⊢
  clear eQ
  obtain ⟨kind, key, to, doc, want, has, n, most, ops, docs, news⟩ := o
  replace hno : ¬ ((∀ (j : Nat) (x : Opn), ops[j]? = some x → x.doc.length ≤ 20 ∧ x.want.length ≤ 20 ∧ x.list.length ≤ 5) ∧ doc.length ≤ 20 ∧ want.length ≤ 20 ∧ ops.length ≤ 6 ∧ docs.length ≤ 30 ∧ news.length ≤ 20) → Q = false := hno
  replace hyes : ((∀ (j : Nat) (x : Opn), ops[j]? = some x → x.doc.length ≤ 20 ∧ x.want.length ≤ 20 ∧ x.list.length ≤ 5) ∧ doc.length ≤ 20 ∧ want.length ≤ 20 ∧ ops.length ≤ 6 ∧ docs.length ≤ 30 ∧ news.length ≤ 20) → Q = true := hyes
  have hlen := Ops.len O ops
  have hl2 : (O.o Doc.enc doc).length = doc.length := by rw [O.h, Doc.enc_len]
  have hl3 : (O.o Doc.enc want).length = want.length := by rw [O.h, Doc.enc_len]
  have hl4 := Nms.len O docs
  have hl5 := Chs.len O news
  obtain ⟨N, hN⟩ : ∃ N : Nat, N = ops.length := ⟨_, rfl⟩
  obtain ⟨z, hz⟩ : ∃ z : Nat, z = 0 := ⟨_, rfl⟩
  refine go (fn := Go.Proofs.Tryz.f28) (n := 70) (rv := [ResultVar.tmp 2]) rfl (by decide) rfl (by decide +kernel) rfl rfl (by simp) fun F L C => ?_
  cbv
  (repeat' first | (refine Named.i64 ?_ fun _ _ => ?_; (focus lia); cbv) | (refine Named.len fun _ _ hq => ?_; (try simp only [List.length_append, List.length_take, List.length_drop, List.length_replicate, List.length_set] at hq); cbv) | (refine Named.mk fun _ _ => ?_; cbv) | (refine Br.t ?_ ?_; (focus first | assumption | lia); cbv) | (refine Br.f ?_ ?_; (focus first | assumption | lia); cbv) | (refine Br.mk (fun _ => ?_) (fun _ => ?_) <;> cbv) | (refine Need.mk ?_ ?_; rotate_left; cbv) | (refine RetThen.mk [] [] ?_; cbv))
  refine LoopThen.mk (C.loopAt (ι := Nat) [(2, 42)] (fun i => [(2, .bool false), (3, .int .i64 i)]) (fun _ => [(192, .box [.int .i64 kind, .str key, .str to, .sl false 0 false 6 (O.o Doc.enc doc), .sl false 0 false 6 (O.o Doc.enc want), .bool has, .int .i64 n, .int .i64 most, .sl false 0 false 11 (O.o (Ops.enc O) ops), .sl false 0 false 2 (O.o (Nms.enc O) docs), .sl false 0 false 4 (O.o (Chs.enc O) news)])])
    (fun i => (i ≤ N ∧ i ≤ 6) ∧ ∀ (j : Nat) (x : Opn), j < i → ops[j]? = some x → x.doc.length ≤ 20 ∧ x.want.length ≤ 20 ∧ x.list.length ≤ 5) (fun i => N - i) (by decide +kernel) (Start.mk z [] [] ⟨by omega, fun j n hj => by omega⟩ ?_) ?_)
  · cbv
    (repeat' apply And.intro) <;> first | exact True.intro | exact WkR.refl _ | rfl | lia | trace_state
  intro i g
  cbv
  have g1 : i ≤ N ∧ i ≤ 6 := g.1
  have g2 := g.2
  clear g
  by_cases hi : i < ops.length
  · obtain ⟨x, hx⟩ : ∃ x, ops[i]? = some x := ⟨ops[i], by simp [hi]⟩
    have hno1 : ¬ (x.doc.length ≤ 20 ∧ x.want.length ≤ 20 ∧ x.list.length ≤ 5) → Q = false := fun h => hno fun k => h (k.1 i x hx)
    have hno2 : 6 < ops.length → Q = false := fun h => hno fun k => by have := k.2.2.2.1; omega
    have hst : (x.doc.length ≤ 20 ∧ x.want.length ≤ 20 ∧ x.list.length ≤ 5) → ∀ (j : Nat) (y : Opn), j < i + 1 → ops[j]? = some y → y.doc.length ≤ 20 ∧ y.want.length ≤ 20 ∧ y.list.length ≤ 5 := fun h j n hj hn => by
      by_cases e : j = i
      · subst e; rw [hx] at hn; cases hn; exact h
      · exact g2 j n (by omega) hn
    have hx1 : (O.o Doc.enc x.doc).length = x.doc.length := by rw [O.h, Doc.enc_len]
    have hx2 : (O.o Doc.enc x.want).length = x.want.length := by rw [O.h, Doc.enc_len]
    have hx3 := Ops.len O x.list
    clear hno hyes g2
    obtain ⟨xkind, xkey, xto, xdoc, xwant, xhas, xn, xmost, xlist, xdocs, xnews⟩ := x
    replace hno1 : ¬ (xdoc.length ≤ 20 ∧ xwant.length ≤ 20 ∧ xlist.length ≤ 5) → Q = false := hno1
    replace hst : (xdoc.length ≤ 20 ∧ xwant.length ≤ 20 ∧ xlist.length ≤ 5) → ∀ (j : Nat) (y : Opn), j < i + 1 → ops[j]? = some y → y.doc.length ≤ 20 ∧ y.want.length ≤ 20 ∧ y.list.length ≤ 5 := hst
    replace hx1 : (O.o Doc.enc xdoc).length = xdoc.length := hx1
    replace hx2 : (O.o Doc.enc xwant).length = xwant.length := hx2
    replace hx3 : (O.o (Ops.enc O) xlist).length = xlist.length := hx3
    (repeat' first | (refine Named.i64 ?_ fun _ _ => ?_; (focus lia); cbv) | (refine Ex.opn O hx ?_ ?_; (focus lia); cbv) | (refine Back.up [] [] ?_ ?_ fun _ _ => ?_; rotate_left 2; cbv; refine And.intro ?_ ?_) | (refine Named.len fun _ _ hq => ?_; (try simp only [List.length_append, List.length_take, List.length_drop, List.length_replicate, List.length_set] at hq); cbv) | (refine Named.mk fun _ _ => ?_; cbv) | (refine Br.t ?_ ?_; (focus first | assumption | lia); cbv) | (refine Br.f ?_ ?_; (focus first | assumption | lia); cbv) | (refine Br.mk (fun _ => ?_) (fun _ => ?_) <;> cbv) | (refine Need.mk ?_ ?_; rotate_left; cbv) | (refine RetThen.mk [] [] ?_; cbv))
    all_goals (repeat' apply And.intro)
    all_goals try first
      | exact True.intro
      | exact WkR.refl _
      | (clear hx hno1 hno2 hst; lia)
      | exact hno1 (by clear hx hno1 hno2 hst; lia)
      | exact hno2 (by clear hx hno1 hno2 hst; lia)
      | exact hst (by clear hx hno1 hno2 hst; lia)
    all_goals trace_state
  · have hall : i ≤ 6 → ∀ (j : Nat) (x : Opn), ops[j]? = some x → x.doc.length ≤ 20 ∧ x.want.length ≤ 20 ∧ x.list.length ≤ 5 := fun _ j x h => g2 j x (by have := (List.getElem?_eq_some_iff.1 h).1; omega) h
    have hy : (doc.length ≤ 20 ∧ want.length ≤ 20 ∧ ops.length ≤ 6 ∧ docs.length ≤ 30 ∧ news.length ≤ 20) → Q = true := fun h => hyes ⟨hall g1.2, h⟩
    have hn : ¬ (doc.length ≤ 20 ∧ want.length ≤ 20 ∧ ops.length ≤ 6 ∧ docs.length ≤ 30 ∧ news.length ≤ 20) → Q = false := fun h => hno fun k => h k.2
    clear hno hyes g2 hall
    (repeat' first | (refine Named.i64 ?_ fun _ _ => ?_; (focus lia); cbv) | (refine Named.len fun _ _ hq => ?_; (try simp only [List.length_append, List.length_take, List.length_drop, List.length_replicate, List.length_set] at hq); cbv) | (refine Named.mk fun _ _ => ?_; cbv) | (refine Br.t ?_ ?_; (focus first | assumption | lia); cbv) | (refine Br.f ?_ ?_; (focus first | assumption | lia); cbv) | (refine Br.mk (fun _ => ?_) (fun _ => ?_) <;> cbv) | (refine Need.mk ?_ ?_; rotate_left; cbv) | (refine RetThen.mk [] [] ?_; cbv))
    all_goals first
      | (exfalso; clear hy hn; lia)
      | exact ⟨hy (by clear hy hn; lia), trivial⟩
      | exact ⟨(hy (by clear hy hn; lia)).symm, trivial⟩
      | exact ⟨hn (by clear hy hn; lia), trivial⟩
      | trace_state
end Go.Sym
namespace Go.Sym
open Go Go.Proofs.Tryz
set_option maxRecDepth 100000
theorem nms_setK (O : Opq) {l : List Ndoc} {i : Nat} {k : ByteArray} {d : Doc} : O.o (Nms.enc O) (l.set i ⟨k, d⟩) = (O.o (Nms.enc O) l).set i [.str k, .sl false 0 false 6 (O.o Doc.enc d)] := by
  simp only [O.h (Nms.enc O)]; rw [Nms.enc, List.map_set]; rfl
set_option maxHeartbeats 1000000 in
theorem fold_fn (O : Opq) (l : List Ndoc) (c : Change) (hl : l.length ≤ 1099511627) (hs : sortedK Ndoc.key l) (hd : ∀ n ∈ l, n.doc.length ≤ 1099511627) (hcd : c.doc.length ≤ 1099511627) : Fn prog 163 [.sl false 0 false 2 (O.o (Nms.enc O) l), .agg (c.enc O)] [] [.sl false 0 false 2 (O.o (Nms.enc O) (O.o (foldD l) c))] [] := by
  have hlen := Nms.len O l
  have how : Fn prog 78 [.sl false 0 false 2 (O.o (Nms.enc O) l)] [] [.ref 0] [.arr 0 none 2 (O.o (Nms.enc O) l)] := (ownN_fn O l hl hd).wkA (.cons (.lend rfl) .nil)
  have hat := atN_fn O true l c.key (by omega) hs
  have hg : O.o (getK Ndoc.key) l c.key = getK Ndoc.key l c.key := by rw [O.h]
  have hp : O.o (posKZ Ndoc.key) l c.key = posK Ndoc.key l c.key := by rw [O.h]; rfl
  have hple := posK_le (κ := Ndoc.key) l c.key
  have hcl := cloneW_fn O c.doc hcd
  have hins := fun (v : List (List PV)) (hv : v = [Ndoc.enc O ⟨c.key, c.doc⟩]) => insertN_fn O l (O.o (posKZ Ndoc.key) l c.key) ⟨c.key, c.doc⟩ v hv hl (by omega) (by omega)
  have hdel := fun (j : Int) (hj : j = O.o (posKZ Ndoc.key) l c.key + 1) (hlt : posK Ndoc.key l c.key < l.length) => deleteN_fn O l (O.o (posKZ Ndoc.key) l c.key) j hj hl (by omega) (by omega)
  cases hk : getK Ndoc.key l c.key with
  | false =>
    rw [hg, hk] at hat
    cases hh : c.has with
    | false =>
      have hr : O.o (Nms.enc O) (O.o (foldD l) c) = O.o (Nms.enc O) l := by rw [O.h (foldD l), foldD_no hh hk]
      rw [hr]
      clear hins hdel hcl hr hg hd
      obtain ⟨cp, ck, ch, cd⟩ := c
      replace hh : ch = false := hh
      subst hh
      refine go (fn := Go.Proofs.Tryz.f163) (n := 48) (rv := [ResultVar.tmp 4]) rfl (by decide) rfl (by decide +kernel) rfl rfl (by simp) fun F L C => ?_
      cbv
      (repeat' first | (refine Named.i64 ?_ fun _ _ => ?_; (focus lia); cbv) | (refine CallThen.mk _ _ (C.fn (how)) ?_; cbv) | (refine CallThen.mk _ _ (C.fn (hat)) ?_; cbv) | (refine RetThen.mk [] [640] ?_; cbv) | (refine Named.len fun _ _ hq => ?_; (try simp only [List.length_append, List.length_take, List.length_drop, List.length_replicate, List.length_set] at hq); cbv) | (refine Named.mk fun _ _ => ?_; cbv) | (refine Br.t ?_ ?_; (focus first | assumption | lia); cbv) | (refine Br.f ?_ ?_; (focus first | assumption | lia); cbv) | (refine Br.mk (fun _ => ?_) (fun _ => ?_) <;> cbv) | (refine Need.mk ?_ ?_; rotate_left; cbv) | (refine RetThen.mk [] [] ?_; cbv))
      all_goals first
        | (refine Named.mk fun rs e => ⟨.of_eq e.symm, by cbv⟩; done)
        | (refine ⟨.of_eq ?_, trivial⟩; symm; assumption)
        | trace_state
    | true =>
      have hr : O.o (insKZ l) (O.o (posKZ Ndoc.key) l c.key) ⟨c.key, c.doc⟩ = O.o (foldD l) c := by rw [O.h, hp, O.h (foldD l), foldD_ins hh hk]; rfl
      have hr2 : O.o insKZ l (O.o (posKZ Ndoc.key) l c.key) ⟨c.key, c.doc⟩ = O.o (foldD l) c := by rw [← hr, O.h insKZ, O.h (insKZ l)]
      rw [hr2] at hins
      obtain ⟨F, eF⟩ : ∃ F, F = O.o (foldD l) c := ⟨_, rfl⟩
      rw [← eF] at hins ⊢
      clear hdel hr hr2 hg hd eF
      obtain ⟨cp, ck, ch, cd⟩ := c
      replace hh : ch = true := hh
      subst hh
      refine go (fn := Go.Proofs.Tryz.f163) (n := 48) (rv := [ResultVar.tmp 4]) rfl (by decide) rfl (by decide +kernel) rfl rfl (by simp) fun F L C => ?_
      cbv
      (repeat' first | (refine Named.i64 ?_ fun _ _ => ?_; (focus lia); cbv) | (refine CallThen.mk _ _ (C.fn (how)) ?_; cbv) | (refine CallThen.mk _ _ (C.fn (hat)) ?_; cbv) | (refine CallThen.mk _ _ (C.fn (hcl)) ?_; cbv) | (refine CallThen.mk _ _ (C.fn (hins _ rfl)) ?_; cbv) | (refine Named.len fun _ _ hq => ?_; (try simp only [List.length_append, List.length_take, List.length_drop, List.length_replicate, List.length_set] at hq); cbv) | (refine Named.mk fun _ _ => ?_; cbv) | (refine Br.t ?_ ?_; (focus first | assumption | lia); cbv) | (refine Br.f ?_ ?_; (focus first | assumption | lia); cbv) | (refine Br.mk (fun _ => ?_) (fun _ => ?_) <;> cbv) | (refine Need.mk ?_ ?_; rotate_left; cbv) | (refine RetThen.mk [] [] ?_; cbv))
      all_goals first
        | exact ⟨.refl _, trivial⟩
        | trace_state
  | true =>
    obtain ⟨x, hx, hxk⟩ := posK_there hs hk
    have hlt := (List.getElem?_eq_some_iff.1 hx).1
    rw [hg, hk] at hat
    cases hh : c.has with
    | false =>
      have hr : O.o List.eraseIdx l (O.o (posKZ Ndoc.key) l c.key).toNat = O.o (foldD l) c := by rw [O.h List.eraseIdx, hp, O.h (foldD l), foldD_del hh hk]; rfl
      have hdel := fun j hj => hdel j hj hlt
      rw [hr] at hdel
      obtain ⟨F, eF⟩ : ∃ F, F = O.o (foldD l) c := ⟨_, rfl⟩
      rw [← eF] at hdel ⊢
      clear hins hcl hr hg hd eF hx hxk
      obtain ⟨cp, ck, ch, cd⟩ := c
      replace hh : ch = false := hh
      subst hh
      refine go (fn := Go.Proofs.Tryz.f163) (n := 48) (rv := [ResultVar.tmp 4]) rfl (by decide) rfl (by decide +kernel) rfl rfl (by simp) fun F L C => ?_
      cbv
      (repeat' first | (refine Named.i64 ?_ fun _ _ => ?_; (focus lia); cbv) | (refine CallThen.mk _ _ (C.fn (how)) ?_; cbv) | (refine CallThen.mk _ _ (C.fn (hat)) ?_; cbv) | (refine CallThen.mk _ _ (C.fn (hdel _ (by assumption))) ?_; cbv) | (refine Named.len fun _ _ hq => ?_; (try simp only [List.length_append, List.length_take, List.length_drop, List.length_replicate, List.length_set] at hq); cbv) | (refine Named.mk fun _ _ => ?_; cbv) | (refine Br.t ?_ ?_; (focus first | assumption | lia); cbv) | (refine Br.f ?_ ?_; (focus first | assumption | lia); cbv) | (refine Br.mk (fun _ => ?_) (fun _ => ?_) <;> cbv) | (refine Need.mk ?_ ?_; rotate_left; cbv) | (refine RetThen.mk [] [] ?_; cbv))
      all_goals first
        | exact ⟨.refl _, trivial⟩
        | (clear how hat hdel; lia)
        | trace_state
    | true =>
      have hr : O.o (Nms.enc O) (O.o (foldD l) c) = (O.o (Nms.enc O) l).set (posK Ndoc.key l c.key) [.str c.key, .sl false 0 false 6 (O.o Doc.enc c.doc)] := by
        rw [O.h (foldD l), foldD_set hh hk, nms_setK O]
      obtain ⟨F, eF⟩ : ∃ F, F = O.o (Nms.enc O) (O.o (foldD l) c) := ⟨_, rfl⟩
      rw [← eF] at hr ⊢
      rw [← hxk] at hr
      obtain ⟨i, hi⟩ : ∃ i, i = posK Ndoc.key l c.key := ⟨_, rfl⟩
      rw [hxk] at hr
      rw [← hi] at hx hp hr hlt
      rw [← hxk] at hr
      obtain ⟨w, hw⟩ : ∃ w, w = O.o (posKZ Ndoc.key) l c.key := ⟨_, rfl⟩
      rw [← hw] at hp hat
      clear hins hdel hg hd eF hi hw
      obtain ⟨cp, ck, ch, cd⟩ := c
      replace hh : ch = true := hh
      subst hh
      obtain ⟨xk, xd⟩ := x
      refine go (fn := Go.Proofs.Tryz.f163) (n := 48) (rv := [ResultVar.tmp 4]) rfl (by decide) rfl (by decide +kernel) rfl rfl (by simp) fun F L C => ?_
      cbv
      (repeat' first | (refine Named.i64 ?_ fun _ _ => ?_; (focus lia); cbv) | (refine CallThen.mk _ _ (C.fn (how)) ?_; cbv) | (refine CallThen.mk _ _ (C.fn (hat)) ?_; cbv) | (refine CallThen.mk _ _ (C.fn (hcl)) ?_; cbv) | (refine Ex.known O (Ndoc.enc O) rfl hx ?_ ?_; (focus lia); cbv) | (refine RetThen.mk [] [640] ?_; cbv) | (refine Named.len fun _ _ hq => ?_; (try simp only [List.length_append, List.length_take, List.length_drop, List.length_replicate, List.length_set] at hq); cbv) | (refine Named.mk fun _ _ => ?_; cbv) | (refine Br.t ?_ ?_; (focus first | assumption | lia); cbv) | (refine Br.f ?_ ?_; (focus first | assumption | lia); cbv) | (refine Br.mk (fun _ => ?_) (fun _ => ?_) <;> cbv) | (refine Need.mk ?_ ?_; rotate_left; cbv) | (refine RetThen.mk [] [] ?_; cbv))
      all_goals try (clear how hat hcl hx hr; lia)
      rename_i i2 e2 R eR hqq R2 eR2
      refine ⟨.of_eq ?_, trivial⟩
      have ei : i2 = i := by clear how hat hcl hx hr eR eR2; lia
      rw [eR2, eR, ei]
      exact hr
end Go.Sym
