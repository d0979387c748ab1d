/- What is compared and set stands then. -/
import Derived.Test.YtdbpdcnpolaojaaGreatDoorJ29
import Derived.Test.YtdbpdcnpolaojaaGreatDoorJ30
import Derived.Test.YtdbpdcnpolaojaaGreatDoorJ9
import Derived.Test.YtdbpdcnpolaojaaGreatDoorJ4
import Derived.Test.YtdbpdcnpolaojaaGreatDoorJ6
import Derived.Test.YtdbpdcnpolaojaaGreatDoorJ5
set_option linter.all false
set_option linter.unusedVariables false
set_option linter.unusedSimpArgs false
namespace Go.Sym
open Go
def getO (k : ByteArray) : Opn := .mk 4 k ByteArray.empty [] [] false 0 0 [] [] []
noncomputable def getA (l : List Ndoc) (k : ByteArray) : Answer := if isKey k = true then standA l k else refA 1
def docA (d : Doc) : Answer := ⟨0, true, d, [], [], 0, 0, []⟩
theorem applyR_get (l : List Ndoc) (k : ByteArray) (t : Int) : applyR l (getO k) t = (l, getA l k, []) := by
  rw [applyR, if_neg (by simp [writesB, getO, Opn.kind]), if_neg (by simp [getO, Opn.kind]), if_neg (by simp [getO, Opn.kind])]
  by_cases hk : isKey k = true
  · rw [if_pos ⟨rfl, hk⟩, getA, if_pos hk]; rfl
  · rw [if_neg (fun h => hk h.2), getA, if_neg hk]
theorem foldD_in {l : List Ndoc} {c : Change} (hs : sortedK Ndoc.key l) (h : c.has = true) : (⟨c.key, c.doc⟩ : Ndoc) ∈ foldD l c := by
  cases g : getK Ndoc.key l c.key
  · rw [foldD_ins h g, insK]; simp
  · obtain ⟨x, hx, _⟩ := posK_there hs g
    rw [foldD_set h g]
    exact List.mem_of_getElem? (i := posK Ndoc.key l c.key) (by rw [List.getElem?_set, if_pos rfl, if_pos (List.getElem?_eq_some_iff.1 hx).1])
theorem sorted_one {l : List Ndoc} (hs : sortedK Ndoc.key l) {x y : Ndoc} (hx : x ∈ l) (hy : y ∈ l) (h : x.key = y.key) : x = y := by
  obtain ⟨i, hi, rfl⟩ := List.getElem_of_mem hx
  obtain ⟨j, hj, rfl⟩ := List.getElem_of_mem hy
  by_cases e : i = j
  · subst e; rfl
  · exfalso
    rcases Nat.lt_or_gt_of_ne e with k | k
    · have := sortedK_lt hs (i := i) (j := j) k (List.getElem?_eq_getElem hi) (List.getElem?_eq_getElem hj)
      exact slt_ne this h
    · have := sortedK_lt hs (i := j) (j := i) k (List.getElem?_eq_getElem hj) (List.getElem?_eq_getElem hi)
      exact slt_ne this h.symm
theorem foldD_get {l : List Ndoc} {c : Change} (hs : sortedK Ndoc.key l) (h : c.has = true) : getK Ndoc.key (foldD l c) c.key = true ∧ docAt (foldD l c) c.key = c.doc := by
  have hm := foldD_in hs h
  have hg : getK Ndoc.key (foldD l c) c.key = true := List.any_eq_true.2 ⟨_, hm, by simp [hasK]⟩
  refine ⟨hg, ?_⟩
  obtain ⟨x, hx, hp⟩ := posK_there (foldD_sorted (c := c) hs) hg
  have := sorted_one (foldD_sorted (c := c) hs) (List.mem_of_getElem? hx) hm hp
  rw [docAt, hx, this]
theorem swaps_spec {l : List Ndoc} {o : Opn} (hm : mayD l = true) (hk : o.kind = 3) {R1 : List Ndoc} {R2 : Answer} {R3 : List Change} (hR : applyR l o 0 = (R1, R2, R3)) :
    (R2.code = 0 ∧ (getA l o.key).has = o.has ∧ getA R1 o.key = docA o.doc ∧ (o.has = true → getA l o.key = docA o.want)) ∨ (R2.code = 7 ∧ R2 = { getA l o.key with code := 7 } ∧ R1 = l) ∨ (R2.code ≠ 0 ∧ R2.code ≠ 7 ∧ R1 = l) := by
  have hw : writesB o = true := by simp [writesB, hk]
  have hs := (mayD_iff.1 hm).2.2
  rw [applyR, if_pos hw, batchR, if_neg (by simp [notWrites, hw]), runB] at hR
  by_cases hc : (writeA l o).code ≠ 0
  · rw [if_pos hc] at hR
    cases hR
    by_cases h7 : (writeA l o).code = 7
    · refine .inr (.inl ⟨h7, ?_, rfl⟩)
      rw [writeA] at h7 ⊢
      split at h7
      · cases h7
      · rename_i k1
        rw [if_neg k1]
        have k1 : isKey o.key = true := by simpa using k1
        rw [if_neg (by omega)] at h7 ⊢
        split at h7
        · cases h7
        · rename_i k3
          rw [if_neg k3]
          split at h7
          · rename_i k4
            rw [if_pos k4, getA, if_pos k1]
          · split at h7
            · cases h7
            · split at h7 <;> cases h7
    · exact .inr (.inr ⟨hc, h7, rfl⟩)
  · rw [if_neg hc, runB] at hR
    have hc : (writeA l o).code = 0 := by simpa using hc
    have hk1 := (writeA_ok hc).1
    refine .inl ?_
    cases hR
    have hC : writeC o = ⟨0, o.key, true, o.doc⟩ := by rw [writeC, if_neg (by omega)]
    have hf := foldD_get (l := l) (c := { writeC o with pos := 0 + ([] : List Change).length + 1 }) hs (by rw [hC])
    have e1 : ({ writeC o with pos := 0 + ([] : List Change).length + 1 } : Change).key = o.key := by rw [hC]
    have e2 : ({ writeC o with pos := 0 + ([] : List Change).length + 1 } : Change).doc = o.doc := by rw [hC]
    rw [e1, e2] at hf
    have hb : casBad l o = false := by
      cases hb : casBad l o with
      | false => rfl
      | true =>
        rw [writeA, if_neg (by simp [hk1]), if_neg (by omega)] at hc
        split at hc
        · cases hc
        · rw [if_pos ⟨hk, hb⟩] at hc; cases hc
    simp only [casBad, decide_eq_false_iff_not, not_or, Decidable.not_not, not_and] at hb
    refine ⟨rfl, ?_, ?_, fun h => ?_⟩
    · rw [getA, if_pos hk1, standA, ← hb.1]
      cases getK Ndoc.key l o.key <;> simp [ans0]
    · rw [getA, if_pos hk1, standA, if_pos hf.1, hf.2]; rfl
    · rw [getA, if_pos hk1, standA, if_pos (by rw [hb.1]; exact h)]
      rw [Classical.not_not.1 (hb.2 h)]; rfl
end Go.Sym
namespace Go.Sym
open Go Go.Proofs.Tryz
set_option maxRecDepth 100000
theorem small_get (k : ByteArray) (m : Nat) : SmallO (getO k) m := ⟨by simp [getO, Opn.doc], by simp [getO, Opn.want], by simp [getO, Opn.list], by simp [getO, Opn.list]⟩
theorem apply_getO (O : Opq) (l : List Ndoc) (k : ByteArray) (hm : mayD l = true) (W : Answer) (hW : getA l k = W) : Fn prog 30 [.sl false 0 false 2 (O.o (Nms.enc O) l), .agg [.int .i64 4, .str k, .str ByteArray.empty, .nils, .nils, .bool false, .int .i64 0, .int .i64 0, .nils, .nils, .nils], .int .i64 0] [] [.sl false 0 false 2 (O.o (Nms.enc O) l), .agg (W.enc O), .sl false 0 false 4 (O.o (Chs.enc O) []), .int .i64 0] [] := by
  have h := apply_ok O l (getO k) 0 hm (by omega) (small_get k _) _ _ _ (applyR_get l k 0)
  have e1 : O.o (Nms.enc O) [] = [] := by rw [O.h]; rfl
  have e2 : O.o (Chs.enc O) [] = [] := by rw [O.h]; rfl
  have e3 : O.o (Ops.enc O) [] = [] := by rw [O.h]; rfl
  have e4 : O.o Doc.enc [] = [] := by rw [O.h]; rfl
  rw [hW] at h
  have ea : (getO k).en O = [.int .i64 4, .str k, .str ByteArray.empty, .sl false 0 false 6 [], .sl false 0 false 6 [], .bool false, .int .i64 0, .int .i64 0, .sl false 0 false 11 [], .sl false 0 false 2 [], .sl false 0 false 4 []] := by
    rw [show (getO k).en O = [.int .i64 4, .str k, .str ByteArray.empty, .sl false 0 false 6 (O.o Doc.enc []), .sl false 0 false 6 (O.o Doc.enc []), .bool false, .int .i64 0, .int .i64 0, .sl false 0 false 11 (O.o (Ops.enc O) []), .sl false 0 false 2 (O.o (Nms.enc O) []), .sl false 0 false 4 (O.o (Chs.enc O) [])] from rfl, e4, e3, e2, e1]
  rw [ea] at h
  refine h.wkA (.cons (.refl _) (.cons (.agg' ?_) (.cons (.refl _) .nil)))
  exact .cons (.refl _) (.cons (.refl _) (.cons (.refl _) (.cons (.wk (.nil _ _)) (.cons (.wk (.nil _ _)) (.cons (.refl _) (.cons (.refl _) (.cons (.refl _) (.cons (.wk (.nil _ _)) (.cons (.wk (.nil _ _)) (.cons (.wk (.nil _ _)) .nil))))))))))
theorem ransw1_fn (O : Opq) (d : Doc) (hd : d.length ≤ 9223372036854775807) : Fn prog 33 [.agg ((docA d).enc O), .agg [.int .i64 0, .bool true, .sl false 0 false 6 (O.o Doc.enc d), .nils, .nils, .int .i64 0, .int .i64 0, .nils]] [] [.bool true] [] := by
  have h := ransw_fn O (docA d) (docA d) hd (by simp [docA]) (by simp [docA]) (by simp [docA])
  rw [show O.o sameAns (docA d) (docA d) = true by rw [O.h, sameAns]; simp] at h
  have e1 : O.o (Nms.enc O) [] = [] := by rw [O.h]; rfl
  have e2 : O.o (Chs.enc O) [] = [] := by rw [O.h]; rfl
  have e3 : O.o Prs.enc [] = [] := by rw [O.h]; rfl
  refine h.wkA (.cons (.refl _) (.cons ?_ .nil))
  show WkA (.agg [.int .i64 0, .bool true, .sl false 0 false 6 (O.o Doc.enc d), .sl false 0 false 2 (O.o (Nms.enc O) []), .sl false 0 false 4 (O.o (Chs.enc O) []), .int .i64 0, .int .i64 0, .sl false 0 false 2 (O.o Prs.enc [])]) _
  rw [e1, e2, e3]
  refine .agg' ?_
  exact .cons (.refl _) (.cons (.refl _) (.cons (.refl _) (.cons (.wk (.nil _ _)) (.cons (.wk (.nil _ _)) (.cons (.refl _) (.cons (.refl _) (.cons (.wk (.nil _ _)) .nil)))))))
set_option maxHeartbeats 2000000 in
theorem shopSwaps_fn (O : Opq) (l : List Ndoc) (o : Opn) (hl : l.length ≤ 9223372036854775807) (hp : ∀ n ∈ l, pathsOk n.doc)
    : Fn prog 7 [.sl false 0 false 2 (O.o (Nms.enc O) l), .agg (o.en O)] [] [.bool true] [] := by
  have g1 := ldocs_fn O l hl
  have g2 := llight_fn O o
  have aw := awakeS_fn O
  by_cases hs1 : smallD l = true
  · rw [show O.o smallD l = true by rw [O.h]; exact hs1] at g1
    have hsm := smallD_iff.1 hs1
    have hdl : ∀ n ∈ l, n.doc.length ≤ 1099511627776 := fun n hn => by have := hsm.2 n hn; omega
    have k3 := r12may_fn O l (by omega) fun n hn => ⟨hdl n hn, hp n hn⟩
    by_cases hg : mayD l = true ∧ lightO o = true ∧ o.kind = 3
    · rw [show O.o mayD l = true by rw [O.h]; exact hg.1] at k3
      rw [show O.o lightO o = true by rw [O.h]; exact hg.2.1] at g2
      obtain ⟨R1, R2, R3, hR⟩ : ∃ R1 R2 R3, applyR l o 0 = (R1, R2, R3) := ⟨_, _, _, rfl⟩
      have k1 := apply_ok O l o 0 hg.1 (by omega) (light_small hg.2.1 _ (by decide)) R1 R2 R3 hR
      obtain ⟨z1, z2, z3, z4⟩ := applyR_small hg.1 (light_small hg.2.1 20 (by decide)) hR
      have y2 := mayD_iff.1 hg.1
      have k5 := docs_same O l (by omega) (fun n hn => by have := may_len (y2.2.1 n hn).2; omega)
      have k6 := smallA_same O z2 (by omega) (fun n hn => may_len (y2.2.1 n hn).2)
      have k7 := ransw1_fn O o.doc (by have := (light_small hg.2.1 20 (by decide)).doc; omega)
      have k8 := ransw1_fn O o.want (by have := (light_small hg.2.1 20 (by decide)).want; omega)
      have q1 := apply_getO O l o.key hg.1
      have q2 := apply_getO O R1 o.key z1
      have hk := hg.2.2
      rcases swaps_spec hg.1 hg.2.2 hR with ⟨c1, c2, c3, c4⟩ | ⟨c1, c2, c3⟩ | ⟨c1, c2, c3⟩
      · have q2 := q2 _ c3
        clear hg hsm hdl hp hR z1 z2 z3 z4 y2 hs1 c3 k5 k6
        obtain ⟨kind, key, to, doc, want, has, n, most, ops, docs, news⟩ := o
        replace hk : kind = 3 := hk
        subst hk
        cases has with
        | true =>
          have q1 := q1 _ (c4 rfl)
          clear c2 c4
          obtain ⟨ac, ah, ad, ads, ans, an, at', ak⟩ := R2
          replace c1 : ac = 0 := c1
          subst c1
          refine go (fn := Go.Proofs.Tryz.f7) (n := 127) (rv := [ResultVar.tmp 4]) rfl (by decide) rfl (by decide +kernel) rfl rfl (by simp) fun F L C => ?_
          cbv
          (repeat' first | (refine Named.i64 ?_ fun _ _ => ?_; (focus lia); cbv) | (refine CallThen.mk _ _ (C.fn (g1)) ?_; cbv) | (refine CallThen.mk _ _ (C.fn (g2)) ?_; cbv) | (refine CallThen.mk _ _ (C.fn (k3)) ?_; cbv) | (refine CallThen.mk _ _ (C.fn (q1)) ?_; cbv) | (refine CallThen.mk _ _ (C.fn (k1)) ?_; cbv) | (refine CallThen.mk _ _ (C.fn (q2)) ?_; cbv) | (refine CallThen.mk _ _ (C.fn (k7)) ?_; cbv) | (refine CallThen.mk _ _ (C.fn (k8)) ?_; cbv) | (refine CallThen.mk _ _ (C.fn (aw)) ?_; cbv) | (refine Named.len fun _ _ hq => ?_; (try simp only [List.length_append, List.length_take, List.length_drop, List.length_replicate, List.length_set] at hq); cbv) | (refine Named.mk fun _ _ => ?_; cbv) | (refine Br.t ?_ ?_; (focus first | assumption | lia); cbv) | (refine Br.f ?_ ?_; (focus first | assumption | lia); cbv) | (refine Br.mk (fun _ => ?_) (fun _ => ?_) <;> cbv) | (refine Need.mk ?_ ?_; rotate_left; cbv) | (refine RetThen.mk [] [] ?_; cbv))
          all_goals first
            | exact ⟨rfl, trivial⟩
            | trace_state
        | false =>
          obtain ⟨W, hW⟩ : ∃ W, getA l key = W := ⟨_, rfl⟩
          have q1 := q1 W hW
          replace c2 : (getA l key).has = false := c2
          rw [hW] at c2
          clear c4 hW
          obtain ⟨ac, ah, ad, ads, ans, an, at', ak⟩ := R2
          obtain ⟨wc, wh, wd, wds, wns, wn, wt, wk⟩ := W
          replace c1 : ac = 0 := c1
          replace c2 : wh = false := c2
          subst c1; subst c2
          refine go (fn := Go.Proofs.Tryz.f7) (n := 127) (rv := [ResultVar.tmp 4]) rfl (by decide) rfl (by decide +kernel) rfl rfl (by simp) fun F L C => ?_
          cbv
          (repeat' first | (refine Named.i64 ?_ fun _ _ => ?_; (focus lia); cbv) | (refine CallThen.mk _ _ (C.fn (g1)) ?_; cbv) | (refine CallThen.mk _ _ (C.fn (g2)) ?_; cbv) | (refine CallThen.mk _ _ (C.fn (k3)) ?_; cbv) | (refine CallThen.mk _ _ (C.fn (q1)) ?_; cbv) | (refine CallThen.mk _ _ (C.fn (k1)) ?_; cbv) | (refine CallThen.mk _ _ (C.fn (q2)) ?_; cbv) | (refine CallThen.mk _ _ (C.fn (k7)) ?_; cbv) | (refine CallThen.mk _ _ (C.fn (k8)) ?_; cbv) | (refine CallThen.mk _ _ (C.fn (aw)) ?_; cbv) | (refine Named.len fun _ _ hq => ?_; (try simp only [List.length_append, List.length_take, List.length_drop, List.length_replicate, List.length_set] at hq); cbv) | (refine Named.mk fun _ _ => ?_; cbv) | (refine Br.t ?_ ?_; (focus first | assumption | lia); cbv) | (refine Br.f ?_ ?_; (focus first | assumption | lia); cbv) | (refine Br.mk (fun _ => ?_) (fun _ => ?_) <;> cbv) | (refine Need.mk ?_ ?_; rotate_left; cbv) | (refine RetThen.mk [] [] ?_; cbv))
          all_goals first
            | exact ⟨rfl, trivial⟩
            | trace_state
      · obtain ⟨W, hW⟩ : ∃ W, getA l o.key = W := ⟨_, rfl⟩
        have q1 := q1 W hW
        obtain ⟨V, hV⟩ : ∃ W, getA R1 o.key = W := ⟨_, rfl⟩
        have q2 := q2 V hV
        rw [hW] at c2
        clear hW hV hg hsm hdl hp hR z1 z2 z3 z4 y2 hs1 k7 k8
        subst c3; subst c2
        obtain ⟨kind, key, to, doc, want, has, n, most, ops, docs, news⟩ := o
        replace hk : kind = 3 := hk
        subst hk
        obtain ⟨wc, wh, wd, wds, wns, wn, wt, wk⟩ := W
        obtain ⟨vc, vh, vd, vds, vns, vn, vt, vk⟩ := V
        refine go (fn := Go.Proofs.Tryz.f7) (n := 127) (rv := [ResultVar.tmp 4]) rfl (by decide) rfl (by decide +kernel) rfl rfl (by simp) fun F L C => ?_
        cbv
        (repeat' first | (refine Named.i64 ?_ fun _ _ => ?_; (focus lia); cbv) | (refine CallThen.mk _ _ (C.fn (g1)) ?_; cbv) | (refine CallThen.mk _ _ (C.fn (g2)) ?_; cbv) | (refine CallThen.mk _ _ (C.fn (k3)) ?_; cbv) | (refine CallThen.mk _ _ (C.fn (q1)) ?_; cbv) | (refine CallThen.mk _ _ (C.fn (k1)) ?_; cbv) | (refine CallThen.mk _ _ (C.fn (q2)) ?_; cbv) | (refine CallThen.mk _ _ (C.fn (k5)) ?_; cbv) | (refine CallThen.mk _ _ (C.fn (k6)) ?_; cbv) | (refine CallThen.mk _ _ (C.fn (aw)) ?_; cbv) | (refine Named.len fun _ _ hq => ?_; (try simp only [List.length_append, List.length_take, List.length_drop, List.length_replicate, List.length_set] at hq); cbv) | (refine Named.mk fun _ _ => ?_; cbv) | (refine Br.t ?_ ?_; (focus first | assumption | lia); cbv) | (refine Br.f ?_ ?_; (focus first | assumption | lia); cbv) | (refine Br.mk (fun _ => ?_) (fun _ => ?_) <;> cbv) | (refine Need.mk ?_ ?_; rotate_left; cbv) | (refine RetThen.mk [] [] ?_; cbv))
        all_goals first
          | exact ⟨rfl, trivial⟩
          | trace_state
      · obtain ⟨W, hW⟩ : ∃ W, getA l o.key = W := ⟨_, rfl⟩
        have q1 := q1 W hW
        obtain ⟨V, hV⟩ : ∃ W, getA R1 o.key = W := ⟨_, rfl⟩
        have q2 := q2 V hV
        clear hW hV hg hsm hdl hp hR z1 z2 z3 z4 y2 hs1 k6 k7 k8
        subst c3
        obtain ⟨kind, key, to, doc, want, has, n, most, ops, docs, news⟩ := o
        replace hk : kind = 3 := hk
        subst hk
        obtain ⟨ac, ah, ad, ads, ans, an, at', ak⟩ := R2
        replace c1 : ac ≠ 0 := c1
        replace c2 : ac ≠ 7 := c2
        obtain ⟨wc, wh, wd, wds, wns, wn, wt, wk⟩ := W
        obtain ⟨vc, vh, vd, vds, vns, vn, vt, vk⟩ := V
        refine go (fn := Go.Proofs.Tryz.f7) (n := 127) (rv := [ResultVar.tmp 4]) rfl (by decide) rfl (by decide +kernel) rfl rfl (by simp) fun F L C => ?_
        cbv
        (repeat' first | (refine Named.i64 ?_ fun _ _ => ?_; (focus lia); cbv) | (refine CallThen.mk _ _ (C.fn (g1)) ?_; cbv) | (refine CallThen.mk _ _ (C.fn (g2)) ?_; cbv) | (refine CallThen.mk _ _ (C.fn (k3)) ?_; cbv) | (refine CallThen.mk _ _ (C.fn (q1)) ?_; cbv) | (refine CallThen.mk _ _ (C.fn (k1)) ?_; cbv) | (refine CallThen.mk _ _ (C.fn (q2)) ?_; cbv) | (refine CallThen.mk _ _ (C.fn (k5)) ?_; cbv) | (refine CallThen.mk _ _ (C.fn (aw)) ?_; cbv) | (refine Named.len fun _ _ hq => ?_; (try simp only [List.length_append, List.length_take, List.length_drop, List.length_replicate, List.length_set] at hq); cbv) | (refine Named.mk fun _ _ => ?_; cbv) | (refine Br.t ?_ ?_; (focus first | assumption | lia); cbv) | (refine Br.f ?_ ?_; (focus first | assumption | lia); cbv) | (refine Br.mk (fun _ => ?_) (fun _ => ?_) <;> cbv) | (refine Need.mk ?_ ?_; rotate_left; cbv) | (refine RetThen.mk [] [] ?_; cbv))
        all_goals first
          | exact ⟨rfl, trivial⟩
          | trace_state
    · obtain ⟨s2, e2⟩ : ∃ s, s = O.o lightO o := ⟨_, rfl⟩
      obtain ⟨s3, e3⟩ : ∃ s, s = O.o mayD l := ⟨_, rfl⟩
      have hg : ¬ (s3 = true ∧ s2 = true ∧ o.kind = 3) := by rw [e2, e3, O.h, O.h]; exact hg
      rw [← e2] at g2
      rw [← e3] at k3
      clear e2 e3 hp hs1 hsm hdl
      obtain ⟨kind, key, to, doc, want, has, n, most, ops, docs, news⟩ := o
      replace hg : ¬ (s3 = true ∧ s2 = true ∧ kind = 3) := hg
      cases s2 <;> cases s3
      all_goals
        refine go (fn := Go.Proofs.Tryz.f7) (n := 127) (rv := [ResultVar.tmp 4]) rfl (by decide) rfl (by decide +kernel) rfl rfl (by simp) fun F L C => ?_
        cbv
        (repeat' first | (refine Named.i64 ?_ fun _ _ => ?_; (focus lia); cbv) | (refine CallThen.mk _ _ (C.fn (g1)) ?_; cbv) | (refine CallThen.mk _ _ (C.fn (g2)) ?_; cbv) | (refine CallThen.mk _ _ (C.fn (k3)) ?_; cbv) | (refine CallThen.mk _ _ (C.fn (aw)) ?_; cbv) | (refine Named.len fun _ _ hq => ?_; (try simp only [List.length_append, List.length_take, List.length_drop, List.length_replicate, List.length_set] at hq); cbv) | (refine Named.mk fun _ _ => ?_; cbv) | (refine Br.t ?_ ?_; (focus first | assumption | lia); cbv) | (refine Br.f ?_ ?_; (focus first | assumption | lia); cbv) | (refine Br.mk (fun _ => ?_) (fun _ => ?_) <;> cbv) | (refine Need.mk ?_ ?_; rotate_left; cbv) | (refine RetThen.mk [] [] ?_; cbv))
        all_goals first
          | exact ⟨rfl, trivial⟩
          | (exfalso; clear g1 g2 k3 aw; simp_all; done)
          | trace_state
  · rw [show O.o smallD l = false by rw [O.h]; simpa using hs1] at g1
    clear hp hs1 g2
    obtain ⟨kind, key, to, doc, want, has, n, most, ops, docs, news⟩ := o
    refine go (fn := Go.Proofs.Tryz.f7) (n := 127) (rv := [ResultVar.tmp 4]) rfl (by decide) rfl (by decide +kernel) rfl rfl (by simp) fun F L C => ?_
    cbv
    (repeat' first | (refine Named.i64 ?_ fun _ _ => ?_; (focus lia); cbv) | (refine CallThen.mk _ _ (C.fn (g1)) ?_; cbv) | (refine CallThen.mk _ _ (C.fn (aw)) ?_; cbv) | (refine Named.len fun _ _ hq => ?_; (try simp only [List.length_append, List.length_take, List.length_drop, List.length_replicate, List.length_set] at hq); cbv) | (refine Named.mk fun _ _ => ?_; cbv) | (refine Br.t ?_ ?_; (focus first | assumption | lia); cbv) | (refine Br.f ?_ ?_; (focus first | assumption | lia); cbv) | (refine Br.mk (fun _ => ?_) (fun _ => ?_) <;> cbv) | (refine Need.mk ?_ ?_; rotate_left; cbv) | (refine RetThen.mk [] [] ?_; cbv))
    all_goals first
      | exact ⟨rfl, trivial⟩
      | trace_state
end Go.Sym
namespace Go.Sym
open Go Go.Proofs Go.Proofs.Tryz
set_option maxRecDepth 10000
theorem shape_str {n : Nat} {xs : List PV} (h : shape prog n 9 xs) : ∃ s : ByteArray, xs = [.str s] ∧ s.size ≤ 9223372036854775807 := by
  cases n with
  | zero => exact h.elim
  | succ n => simp only [shape, Tryz.underlying9] at h; exact h
theorem shape_int {n : Nat} {xs : List PV} (h : shape prog n 3 xs) : ∃ m : Int, xs = [.int .i64 m] ∧ -9223372036854775808 ≤ m ∧ m ≤ 9223372036854775807 := by
  cases n with
  | zero => exact h.elim
  | succ n =>
    simp only [shape, Tryz.underlying3] at h
    obtain ⟨m, rfl, hm⟩ := h
    refine ⟨m, rfl, ?_⟩
    simp only [Lit.wf, Bool.and_eq_true, decide_eq_true_eq] at hm
    exact hm
def inI (m : Int) : Prop := -9223372036854775808 ≤ m ∧ m ≤ 9223372036854775807
def inS (s : ByteArray) : Prop := s.size ≤ 9223372036854775807
theorem c3 : prog.cellsOf 3 = 1 := by decide +kernel
theorem c9 : prog.cellsOf 9 = 1 := by decide +kernel
theorem rows_of {α : Type} {e : α → List PV} {In : α → Prop} {Q : List PV → Prop} (hq : ∀ r, Q r → ∃ a, r = e a ∧ In a) : ∀ {rows : List (List PV)}, (∀ r ∈ rows, Q r) → ∃ l : List α, rows = l.map e ∧ ∀ a ∈ l, In a
  | [], _ => ⟨[], rfl, by simp⟩
  | r :: rows, h => by
    obtain ⟨a, ha, ia⟩ := hq r (h r (by simp))
    obtain ⟨l, hl, il⟩ := rows_of (rows := rows) hq fun r hr => h r (List.mem_cons_of_mem _ hr)
    exact ⟨a :: l, by simp [ha, hl], by simpa using ⟨ia, il⟩⟩
end Go.Sym
namespace Go.Sym
open Go Go.Proofs Go.Proofs.Tryz
set_option maxRecDepth 10000
def Val.In (v : Val) : Prop := inI v.kind ∧ inI v.num ∧ inS v.text ∧ inI v.re ∧ inI v.im
def Field.In (f : Field) : Prop := inS f.path ∧ f.val.In
theorem c33 : prog.cellsOf 134 = 2 := by decide +kernel
theorem c35 : prog.cellsOf 136 = 5 := by decide +kernel
theorem c37 : prog.cellsOf 138 = 6 := by decide +kernel
theorem shape_point {n : Nat} {xs : List PV} (h : shape prog n 134 xs) : ∃ a b : Int, xs = [.int .i64 a, .int .i64 b] ∧ inI a ∧ inI b := by
  cases n with
  | zero => exact h.elim
  | succ n =>
    simp only [shape, Tryz.underlying134, List.forall_mem_cons, List.not_mem_nil, false_imp_iff, implies_true, and_true, c33, c3] at h
    obtain ⟨hl, h1, h2⟩ := h
    match xs, hl with
    | [x, y], _ =>
    obtain ⟨a, ea, ia⟩ := shape_int (xs := [x]) h1
    obtain ⟨b, eb, ib⟩ := shape_int (xs := [y]) h2
    cases ea; cases eb
    exact ⟨a, b, rfl, ia, ib⟩
theorem shape_val {n : Nat} {xs : List PV} (h : shape prog n 136 xs) : ∃ v : Val, xs = v.enc ∧ v.In := by
  cases n with
  | zero => exact h.elim
  | succ n =>
    simp only [shape, Tryz.underlying136, List.forall_mem_cons, List.not_mem_nil, false_imp_iff, implies_true, and_true, c35, c33, c9, c3] at h
    obtain ⟨hl, h1, h2, h3, h4⟩ := h
    match xs, hl with
    | [x, y, z, u, w], _ =>
    obtain ⟨a, ea, ia⟩ := shape_int (xs := [x]) h1
    obtain ⟨b, eb, ib⟩ := shape_int (xs := [y]) h2
    obtain ⟨t, et, it⟩ := shape_str (xs := [z]) h3
    obtain ⟨p, q, ep, ip, iq⟩ := shape_point (xs := [u, w]) h4
    cases ea; cases eb; cases et; cases ep
    exact ⟨⟨a, b, t, p, q⟩, rfl, ia, ib, it, ip, iq⟩
theorem shape_field {n : Nat} {xs : List PV} (h : shape prog n 138 xs) : ∃ f : Field, xs = f.enc ∧ f.In := by
  cases n with
  | zero => exact h.elim
  | succ n =>
    simp only [shape, Tryz.underlying138, List.forall_mem_cons, List.not_mem_nil, false_imp_iff, implies_true, and_true, c37, c35, c9] at h
    obtain ⟨hl, h1, h2⟩ := h
    match xs, hl with
    | x :: ys, hl =>
    obtain ⟨t, et, it⟩ := shape_str (xs := [x]) h1
    have hy : (List.drop 1 (x :: ys)).take 5 = ys := List.take_of_length_le (Nat.le_of_eq (by simpa using hl))
    rw [hy] at h2
    obtain ⟨v, rfl, iv⟩ := shape_val h2
    cases et
    exact ⟨⟨t, v⟩, rfl, it, iv⟩
theorem shape_doc {n : Nat} {x : PV} (h : shape prog n 23 [x]) : ∃ d : Doc, Wk (.sl false 0 false 6 (Doc.enc d)) x ∧ d.length ≤ 9223372036854775807 ∧ ∀ f ∈ d, f.In := by
  cases n with
  | zero => exact h.elim
  | succ n =>
    simp only [shape, Tryz.underlying23, c37] at h
    rcases h with h | ⟨rows, h, hl, hr⟩
    · cases h
      exact ⟨[], .nil _ _, by simp, by simp⟩
    · cases h
      obtain ⟨d, rfl, hd⟩ := rows_of (fun r hr => shape_field hr) hr
      exact ⟨d, .sl' rfl rfl (.refl _), by simpa [maxLen] using hl, hd⟩
end Go.Sym
namespace Go.Sym
open Go Go.Proofs Go.Proofs.Tryz
set_option maxRecDepth 10000
theorem cFe0 : prog.cellsOf 4 = 1 := by decide +kernel
theorem cFe1 : prog.cellsOf 147 = 4 := by decide +kernel
theorem cFe4 : prog.cellsOf 23 = 1 := by decide +kernel
theorem shape_bool {n : Nat} {xs : List PV} (h : shape prog n 4 xs) : ∃ b : Bool, xs = [.bool b] := by
  cases n with
  | zero => exact h.elim
  | succ n => simp only [shape, Tryz.underlying4] at h; exact h
theorem rows_wk {α : Type} {e : α → List PV} {In : α → Prop} {Q : List PV → Prop} (hq : ∀ r, Q r → ∃ a, WkL (e a) r ∧ In a) : ∀ {rows : List (List PV)}, (∀ r ∈ rows, Q r) → ∃ l : List α, WkR (l.map e) rows ∧ l.length = rows.length ∧ ∀ a ∈ l, In a
  | [], _ => ⟨[], .refl _, rfl, by simp⟩
  | r :: rows, h => by
    obtain ⟨a, ha, ia⟩ := hq r (h r (by simp))
    obtain ⟨l, hl, ll, il⟩ := rows_wk (rows := rows) hq fun r hr => h r (List.mem_cons_of_mem _ hr)
    exact ⟨a :: l, .cons ha hl, by simp [ll], by simpa using ⟨ia, il⟩⟩
def Change.In (c : Change) : Prop := inI c.pos ∧ inS c.key ∧ c.doc.length ≤ 9223372036854775807 ∧ ∀ f ∈ c.doc, f.In
def Sub.In (s : Sub) : Prop := inS s.name ∧ inI s.pos
def Feed.In (f : Feed) : Prop := inI f.base ∧ inI f.total ∧ f.changes.length ≤ 9223372036854775807 ∧ f.subs.length ≤ 9223372036854775807 ∧ (∀ c ∈ f.changes, c.In) ∧ ∀ s ∈ f.subs, s.In
theorem shape_change {n : Nat} {xs : List PV} (h : shape prog n 147 xs) : ∃ c : Change, WkL (Change.enc Opq.id c) xs ∧ c.In := by
  cases n with
  | zero => exact h.elim
  | succ n =>
    simp only [shape, Tryz.underlying147, List.forall_mem_cons, List.not_mem_nil, false_imp_iff, implies_true, and_true, cFe1, cFe0, cFe4, c9, c3] at h
    obtain ⟨hl, h1, h2, h3, h4⟩ := h
    match xs, hl with
    | [x, y, z, u], _ =>
    obtain ⟨a, ea, ia⟩ := shape_int (xs := [x]) h1
    obtain ⟨t, et, it⟩ := shape_str (xs := [y]) h2
    obtain ⟨b, eb⟩ := shape_bool (xs := [z]) h3
    obtain ⟨d, wd, ld, id⟩ := shape_doc (x := u) h4
    cases ea; cases et; cases eb
    exact ⟨⟨a, t, b, d⟩, .cons (.refl _) (.cons (.refl _) (.cons (.refl _) (.cons wd (.refl _)))), ia, it, ld, id⟩
theorem shape_changes {n : Nat} {x : PV} (h : shape prog n 26 [x]) : ∃ l : List Change, Wk (.sl false 0 false 4 (Chs.enc Opq.id l)) x ∧ l.length ≤ 9223372036854775807 ∧ ∀ c ∈ l, c.In := by
  cases n with
  | zero => exact h.elim
  | succ n =>
    simp only [shape, Tryz.underlying26, cFe1] at h
    rcases h with h | ⟨rows, h, hl, hr⟩
    · cases h
      exact ⟨[], .nil _ _, by simp, by simp⟩
    · cases h
      obtain ⟨l, hw, hll, hi⟩ := rows_wk (fun r hr => shape_change hr) hr
      exact ⟨l, .sl' rfl rfl hw, by rw [hll]; simpa [maxLen] using hl, hi⟩
end Go.Sym
namespace Go.Sym
open Go Go.Proofs Go.Proofs.Tryz
set_option maxRecDepth 10000
inductive Cel.In : Cel → Prop
  | mk {k n : Int} {t : ByteArray} {l : List Cel} (hk : inI k) (hn : inI n) (ht : inS t) (hl : l.length ≤ 9223372036854775807) (h : ∀ c ∈ l, c.In) : Cel.In (.mk k n t l)
theorem rows_wkx {α : Type} {e : α → List PV} {In : α → Prop} {Q : List PV → Prop} (hq : ∀ r, Q r → ∃ a, WkL (e a) r ∧ In a) : ∀ {rows : List (List PV)}, (∀ r ∈ rows, Q r) → ∃ l : List α, WkR (l.map e) rows ∧ l.length = rows.length ∧ ∀ a ∈ l, In a
  | [], _ => ⟨[], .refl _, rfl, by simp⟩
  | r :: rows, h => by
    obtain ⟨a, ha, ia⟩ := hq r (h r (by simp))
    obtain ⟨l, hl, ll, il⟩ := rows_wkx (rows := rows) hq fun r hr => h r (List.mem_cons_of_mem _ hr)
    exact ⟨a :: l, .cons ha hl, by simp [ll], by simpa using ⟨ia, il⟩⟩
end Go.Sym
