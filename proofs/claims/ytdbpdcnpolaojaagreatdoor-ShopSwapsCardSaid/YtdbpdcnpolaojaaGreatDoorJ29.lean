/- What is asked: get. -/
import Derived.Test.YtdbpdcnpolaojaaGreatDoorJ26
import Derived.Test.YtdbpdcnpolaojaaGreatDoorJ16
set_option linter.all false
set_option linter.unusedVariables false
set_option linter.unusedSimpArgs false
namespace Go.Sym
open Go Go.Proofs.Tryz
set_option maxRecDepth 100000
set_option maxHeartbeats 4000000 in
theorem apply_get (O : Opq) (l : List Ndoc) (o : Opn) (total : Int) (hm : mayD l = true) (ht : 0 ≤ total ∧ total ≤ 2147483643) (hk : o.kind = 4) (hkey : isKey o.key = true) (hR : True)
    : Fn prog 30 [.sl false 0 false 2 (O.o (Nms.enc O) l), .agg (o.en O), .int .i64 total] [] [.sl false 0 false 2 (O.o (Nms.enc O) l), .agg ((O.o (standA l) o.key).enc O), .sl false 0 false 4 [], .int .i64 0] [] := by
  have hlen := Nms.len O l
  obtain ⟨m1, m2, m3⟩ := mayD_iff.1 hm
  have hdl : ∀ n ∈ l, n.doc.length ≤ 1099511627 := fun n hn => by have := may_len (m2 n hn).2; omega
  have hck := scheck_fn O l (by omega) (fun n hn => by have := hdl n hn; omega)
  have how : Fn prog 78 [.sl false 0 false 2 (O.o (Nms.enc O) l)] [] [.sl false 0 false 2 (O.o (Nms.enc O) l)] [] := (ownNW_fn O l (by omega) hdl).wkA (.cons (.lend rfl) .nil)
  rw [show O.o mayDE l = 0 by rw [O.h]; exact mayDE_zero.2 hm] at hck
  have hw := writes_fn O o
  have hsc := stands_fn O l o.key (by omega) m3 hdl
  have hkf := key_fn O o.key
  rw [show O.o isKey o.key = true by rw [O.h]; exact hkey] at hkf
  have hw0 : O.o writesB o = false := by rw [O.h, writesB, hk]; decide
  rw [hw0] at hw
  obtain ⟨R3, e3⟩ : ∃ R : List Change, R = [] := ⟨_, rfl⟩
  have h30 : O.o (Chs.enc O) R3 = [] := by rw [e3, O.h]; rfl
  rw [← h30]
  obtain ⟨R2, e2⟩ : ∃ R, R = O.o (standA l) o.key := ⟨_, rfl⟩
  rw [← e2] at hsc ⊢
  clear hm m2 m3 hdl e2 hw0 hkey
  have hd3 : ∀ c ∈ R3, c.doc.length ≤ 1099511627 := by rw [e3]; simp
  have hc3 := Chs.len O R3
  have h3l : R3.length ≤ 1099511627776 := by rw [e3]; simp
  obtain ⟨N, hN⟩ : ∃ N : Nat, N = R3.length := ⟨_, rfl⟩
  obtain ⟨z, hz⟩ : ∃ z : Nat, z = 0 := ⟨_, rfl⟩
  have hR3 : O.o (Chs.enc O) R3 = [] := h30
  clear hR
  obtain ⟨kind, key, to, doc, want, has, n, most, list, docs, news⟩ := o
  replace hk : kind = 4 := hk
  refine go (fn := Go.Proofs.Tryz.f30) (n := 89) (rv := [ResultVar.tmp 6, ResultVar.cell 7 52, ResultVar.tmp 8, ResultVar.tmp 9]) rfl (by decide) rfl (by decide +kernel) rfl rfl (by simp) fun F L C => ?_
  cbv
  (repeat' first | (refine Named.i64 ?_ fun _ _ => ?_; (focus lia); cbv) | (refine CallThen.mk _ _ (C.fn (hck)) ?_; cbv) | (refine CallThen.mk _ _ (C.fn (how)) ?_; cbv) | (refine CallThen.mk _ _ (C.fn (hw)) ?_; cbv) | (refine CallThen.mk _ _ (C.fn (hkf)) ?_; cbv) | (refine CallThen.mk _ _ (C.fn (hsc)) ?_; cbv) | (refine Named.len fun _ _ hq => ?_; (try simp only [List.length_append, List.length_take, List.length_drop, List.length_replicate, List.length_set] at hq); cbv) | (refine Named.mk fun _ _ => ?_; cbv) | (refine Br.t ?_ ?_; (focus first | assumption | lia); cbv) | (refine Br.f ?_ ?_; (focus first | assumption | lia); cbv) | (refine Br.mk (fun _ => ?_) (fun _ => ?_) <;> cbv) | (refine Need.mk ?_ ?_; rotate_left; cbv) | (refine RetThen.mk [] [] ?_; cbv))
  all_goals try (exfalso; clear hck how hd3 hR3; lia)
  refine LoopThen.mk (C.loopAt (ι := Nat) [(12, 12), (75, 88)] (fun i => [(75, .int .i64 i), (11, .ref 50)]) (fun i => [(50, .arr 0 none 4 (O.o (Chs.enc O) R3)), (384, .box [.int .i64 kind, .str key, .str to, .sl false 0 false 6 (O.o Doc.enc doc), .sl false 0 false 6 (O.o Doc.enc want), .bool has, .int .i64 n, .int .i64 most, .sl false 0 false 11 (O.o (Ops.enc O) list), .sl false 0 false 2 (O.o (Nms.enc O) docs), .sl false 0 false 4 (O.o (Chs.enc O) news)]), (576, .box [.int .i64 0, .bool false, .nils, .nils, .nils, .int .i64 0, .int .i64 0, .nils]), (768, .box (R2.enc O))])
    (fun i => i ≤ N) (fun i => N - i) (by decide +kernel) (Start.mk z [(50, .nil 4)] [] (by lia) ?_) ?_)
  · cbv
    (repeat' apply And.intro) <;> first | exact True.intro | exact WkR.refl _ | rfl | exact hR3 | lia | trace_state
  intro i g1
  cbv
  by_cases hi : i < R3.length
  · exfalso
    rw [e3] at hi
    simp at hi
  · clear hd3 hck how hR3
    (repeat' first | (refine Named.i64 ?_ fun _ _ => ?_; (focus lia); cbv) | (refine RetThen.mk [] [50] ?_; cbv) | (refine Named.len fun _ _ hq => ?_; (try simp only [List.length_append, List.length_take, List.length_drop, List.length_replicate, List.length_set] at hq); cbv) | (refine Named.mk fun _ _ => ?_; cbv) | (refine Br.t ?_ ?_; (focus first | assumption | lia); cbv) | (refine Br.f ?_ ?_; (focus first | assumption | lia); cbv) | (refine Br.mk (fun _ => ?_) (fun _ => ?_) <;> cbv) | (refine Need.mk ?_ ?_; rotate_left; cbv) | (refine RetThen.mk [] [] ?_; cbv))
    all_goals (repeat' apply And.intro)
    all_goals first
      | exact True.intro
      | exact WkR.refl _
      | rfl
      | lia
      | (refine Named.mk fun rs e => ⟨.of_eq e.symm, ?_⟩; cbv)
      | (refine WkR.of_eq ?_; symm; assumption)
      | trace_state
end Go.Sym
namespace Go.Sym
open Go Go.Proofs.Tryz
set_option maxRecDepth 100000
set_option maxHeartbeats 4000000 in
theorem apply_no (O : Opq) (l : List Ndoc) (o : Opn) (total : Int) (hm : mayD l = true) (ht : 0 ≤ total ∧ total ≤ 2147483643) (hk : o.kind ≠ 1 ∧ o.kind ≠ 2 ∧ o.kind ≠ 3 ∧ o.kind ≠ 5 ∧ o.kind ≠ 6 ∧ (o.kind = 4 → isKey o.key = false)) (hR : True)
    : Fn prog 30 [.sl false 0 false 2 (O.o (Nms.enc O) l), .agg (o.en O), .int .i64 total] [] [.sl false 0 false 2 (O.o (Nms.enc O) l), .agg ((refA 1).enc O), .sl false 0 false 4 [], .int .i64 0] [] := by
  have hlen := Nms.len O l
  obtain ⟨m1, m2, m3⟩ := mayD_iff.1 hm
  have hdl : ∀ n ∈ l, n.doc.length ≤ 1099511627 := fun n hn => by have := may_len (m2 n hn).2; omega
  have hck := scheck_fn O l (by omega) (fun n hn => by have := hdl n hn; omega)
  have how : Fn prog 78 [.sl false 0 false 2 (O.o (Nms.enc O) l)] [] [.sl false 0 false 2 (O.o (Nms.enc O) l)] [] := (ownNW_fn O l (by omega) hdl).wkA (.cons (.lend rfl) .nil)
  rw [show O.o mayDE l = 0 by rw [O.h]; exact mayDE_zero.2 hm] at hck
  have hw := writes_fn O o
  have hkf := key_fn O o.key
  have hkk : o.kind = 4 → O.o isKey o.key = false := fun h => by rw [O.h]; exact hk.2.2.2.2.2 h
  have hw0 : O.o writesB o = false := by rw [O.h, writesB]; exact decide_eq_false (by omega)
  rw [hw0] at hw
  obtain ⟨R3, e3⟩ : ∃ R : List Change, R = [] := ⟨_, rfl⟩
  have h30 : O.o (Chs.enc O) R3 = [] := by rw [e3, O.h]; rfl
  rw [← h30]
  obtain ⟨R2, e2⟩ : ∃ R, R = refA 1 := ⟨_, rfl⟩
  have hrf := refused_fn O 1
  rw [← e2] at hrf ⊢
  clear hm m2 m3 hdl e2 hw0
  have hk : o.kind ≠ 5 ∧ o.kind ≠ 6 := ⟨hk.2.2.2.1, hk.2.2.2.2.1⟩
  obtain ⟨B, eB⟩ : ∃ B, B = O.o isKey o.key := ⟨_, rfl⟩
  rw [← eB] at hkf hkk
  clear eB
  by_cases h4 : o.kind = 4
  · have hB := hkk h4
    rw [hB] at hkf
    have hk : o.kind = 4 := h4
    clear hkk h4
    have hd3 : ∀ c ∈ R3, c.doc.length ≤ 1099511627 := by rw [e3]; simp
    have hc3 := Chs.len O R3
    have h3l : R3.length ≤ 1099511627776 := by rw [e3]; simp
    obtain ⟨N, hN⟩ : ∃ N : Nat, N = R3.length := ⟨_, rfl⟩
    obtain ⟨z, hz⟩ : ∃ z : Nat, z = 0 := ⟨_, rfl⟩
    have hR3 : O.o (Chs.enc O) R3 = [] := h30
    clear hR
    obtain ⟨kind, key, to, doc, want, has, n, most, list, docs, news⟩ := o
    replace hk : kind = 4 := hk
    refine go (fn := Go.Proofs.Tryz.f30) (n := 89) (rv := [ResultVar.tmp 6, ResultVar.cell 7 52, ResultVar.tmp 8, ResultVar.tmp 9]) rfl (by decide) rfl (by decide +kernel) rfl rfl (by simp) fun F L C => ?_
    cbv
    (repeat' first | (refine Named.i64 ?_ fun _ _ => ?_; (focus lia); cbv) | (refine CallThen.mk _ _ (C.fn (hck)) ?_; cbv) | (refine CallThen.mk _ _ (C.fn (how)) ?_; cbv) | (refine CallThen.mk _ _ (C.fn (hw)) ?_; cbv) | (refine CallThen.mk _ _ (C.fn (hkf)) ?_; cbv) | (refine CallThen.mk _ _ (C.fn (hrf)) ?_; cbv) | (refine Named.len fun _ _ hq => ?_; (try simp only [List.length_append, List.length_take, List.length_drop, List.length_replicate, List.length_set] at hq); cbv) | (refine Named.mk fun _ _ => ?_; cbv) | (refine Br.t ?_ ?_; (focus first | assumption | lia); cbv) | (refine Br.f ?_ ?_; (focus first | assumption | lia); cbv) | (refine Br.mk (fun _ => ?_) (fun _ => ?_) <;> cbv) | (refine Need.mk ?_ ?_; rotate_left; cbv) | (refine RetThen.mk [] [] ?_; cbv))
    all_goals try (exfalso; clear hck how hd3 hR3; lia)
    refine LoopThen.mk (C.loopAt (ι := Nat) [(12, 12), (75, 88)] (fun i => [(75, .int .i64 i), (11, .ref 50)]) (fun i => [(50, .arr 0 none 4 (O.o (Chs.enc O) R3)), (384, .box [.int .i64 kind, .str key, .str to, .sl false 0 false 6 (O.o Doc.enc doc), .sl false 0 false 6 (O.o Doc.enc want), .bool has, .int .i64 n, .int .i64 most, .sl false 0 false 11 (O.o (Ops.enc O) list), .sl false 0 false 2 (O.o (Nms.enc O) docs), .sl false 0 false 4 (O.o (Chs.enc O) news)]), (576, .box [.int .i64 0, .bool false, .nils, .nils, .nils, .int .i64 0, .int .i64 0, .nils]), (768, .box (R2.enc O))])
      (fun i => i ≤ N) (fun i => N - i) (by decide +kernel) (Start.mk z [(50, .nil 4)] [] (by lia) ?_) ?_)
    · cbv
      (repeat' apply And.intro) <;> first | exact True.intro | exact WkR.refl _ | rfl | exact hR3 | lia | trace_state
    intro i g1
    cbv
    by_cases hi : i < R3.length
    · exfalso
      rw [e3] at hi
      simp at hi
    · clear hd3 hck how hR3
      (repeat' first | (refine Named.i64 ?_ fun _ _ => ?_; (focus lia); cbv) | (refine RetThen.mk [] [50] ?_; cbv) | (refine Named.len fun _ _ hq => ?_; (try simp only [List.length_append, List.length_take, List.length_drop, List.length_replicate, List.length_set] at hq); cbv) | (refine Named.mk fun _ _ => ?_; cbv) | (refine Br.t ?_ ?_; (focus first | assumption | lia); cbv) | (refine Br.f ?_ ?_; (focus first | assumption | lia); cbv) | (refine Br.mk (fun _ => ?_) (fun _ => ?_) <;> cbv) | (refine Need.mk ?_ ?_; rotate_left; cbv) | (refine RetThen.mk [] [] ?_; cbv))
      all_goals (repeat' apply And.intro)
      all_goals first
        | exact True.intro
        | exact WkR.refl _
        | rfl
        | lia
        | (refine Named.mk fun rs e => ⟨.of_eq e.symm, ?_⟩; cbv)
        | (refine WkR.of_eq ?_; symm; assumption)
        | trace_state
  · have hk : o.kind ≠ 5 ∧ o.kind ≠ 6 ∧ o.kind ≠ 4 := ⟨hk.1, hk.2, h4⟩
    clear hkk h4
    have hd3 : ∀ c ∈ R3, c.doc.length ≤ 1099511627 := by rw [e3]; simp
    have hc3 := Chs.len O R3
    have h3l : R3.length ≤ 1099511627776 := by rw [e3]; simp
    obtain ⟨N, hN⟩ : ∃ N : Nat, N = R3.length := ⟨_, rfl⟩
    obtain ⟨z, hz⟩ : ∃ z : Nat, z = 0 := ⟨_, rfl⟩
    have hR3 : O.o (Chs.enc O) R3 = [] := h30
    clear hR
    obtain ⟨kind, key, to, doc, want, has, n, most, list, docs, news⟩ := o
    replace hk : kind ≠ 5 ∧ kind ≠ 6 ∧ kind ≠ 4 := hk
    refine go (fn := Go.Proofs.Tryz.f30) (n := 89) (rv := [ResultVar.tmp 6, ResultVar.cell 7 52, ResultVar.tmp 8, ResultVar.tmp 9]) rfl (by decide) rfl (by decide +kernel) rfl rfl (by simp) fun F L C => ?_
    cbv
    (repeat' first | (refine Named.i64 ?_ fun _ _ => ?_; (focus lia); cbv) | (refine CallThen.mk _ _ (C.fn (hck)) ?_; cbv) | (refine CallThen.mk _ _ (C.fn (how)) ?_; cbv) | (refine CallThen.mk _ _ (C.fn (hw)) ?_; cbv) | (refine CallThen.mk _ _ (C.fn (hkf)) ?_; cbv) | (refine CallThen.mk _ _ (C.fn (hrf)) ?_; cbv) | (refine Named.len fun _ _ hq => ?_; (try simp only [List.length_append, List.length_take, List.length_drop, List.length_replicate, List.length_set] at hq); cbv) | (refine Named.mk fun _ _ => ?_; cbv) | (refine Br.t ?_ ?_; (focus first | assumption | lia); cbv) | (refine Br.f ?_ ?_; (focus first | assumption | lia); cbv) | (refine Br.mk (fun _ => ?_) (fun _ => ?_) <;> cbv) | (refine Need.mk ?_ ?_; rotate_left; cbv) | (refine RetThen.mk [] [] ?_; cbv))
    all_goals try (exfalso; clear hck how hd3 hR3; lia)
    refine LoopThen.mk (C.loopAt (ι := Nat) [(12, 12), (75, 88)] (fun i => [(75, .int .i64 i), (11, .ref 50)]) (fun i => [(50, .arr 0 none 4 (O.o (Chs.enc O) R3)), (384, .box [.int .i64 kind, .str key, .str to, .sl false 0 false 6 (O.o Doc.enc doc), .sl false 0 false 6 (O.o Doc.enc want), .bool has, .int .i64 n, .int .i64 most, .sl false 0 false 11 (O.o (Ops.enc O) list), .sl false 0 false 2 (O.o (Nms.enc O) docs), .sl false 0 false 4 (O.o (Chs.enc O) news)]), (576, .box [.int .i64 0, .bool false, .nils, .nils, .nils, .int .i64 0, .int .i64 0, .nils]), (768, .box (R2.enc O))])
      (fun i => i ≤ N) (fun i => N - i) (by decide +kernel) (Start.mk z [(50, .nil 4)] [] (by lia) ?_) ?_)
    · cbv
      (repeat' apply And.intro) <;> first | exact True.intro | exact WkR.refl _ | rfl | exact hR3 | lia | trace_state
    intro i g1
    cbv
    by_cases hi : i < R3.length
    · exfalso
      rw [e3] at hi
      simp at hi
    · clear hd3 hck how hR3
      (repeat' first | (refine Named.i64 ?_ fun _ _ => ?_; (focus lia); cbv) | (refine RetThen.mk [] [50] ?_; cbv) | (refine Named.len fun _ _ hq => ?_; (try simp only [List.length_append, List.length_take, List.length_drop, List.length_replicate, List.length_set] at hq); cbv) | (refine Named.mk fun _ _ => ?_; cbv) | (refine Br.t ?_ ?_; (focus first | assumption | lia); cbv) | (refine Br.f ?_ ?_; (focus first | assumption | lia); cbv) | (refine Br.mk (fun _ => ?_) (fun _ => ?_) <;> cbv) | (refine Need.mk ?_ ?_; rotate_left; cbv) | (refine RetThen.mk [] [] ?_; cbv))
      all_goals (repeat' apply And.intro)
      all_goals first
        | exact True.intro
        | exact WkR.refl _
        | rfl
        | lia
        | (refine Named.mk fun rs e => ⟨.of_eq e.symm, ?_⟩; cbv)
        | (refine WkR.of_eq ?_; symm; assumption)
        | trace_state
end Go.Sym
namespace Go.Sym
open Go Go.Proofs.Tryz
set_option maxRecDepth 100000
theorem apply_bad (O : Opq) (l : List Ndoc) (o : Opn) (total : Int) (hl : l.length ≤ 1099511627776) (hd : ∀ n ∈ l, n.doc.length ≤ 1099511627776) (hm : ¬ (mayD l = true ∧ 0 ≤ total ∧ total ≤ 2147483643)) : Fn prog 30 [.sl false 0 false 2 (O.o (Nms.enc O) l), .agg (o.en O), .int .i64 total] [] [.sl false 0 false 2 [], .agg (ans0.enc O), .sl false 0 false 4 [], .int .i64 1] [] := by
  have h0 : O.o Doc.enc [] = [] := by rw [O.h]; rfl
  have h1 : O.o (Nms.enc O) [] = [] := by rw [O.h]; rfl
  have h2 : O.o (Chs.enc O) [] = [] := by rw [O.h]; rfl
  have h3 : O.o Prs.enc [] = [] := by rw [O.h]; rfl
  have hck := scheck_fn O l hl hd
  have he : O.o mayDE l = 0 ↔ mayD l = true := by rw [O.h]; exact mayDE_zero
  rw [← he] at hm
  obtain ⟨e, ee⟩ : ∃ e, e = O.o mayDE l := ⟨_, rfl⟩
  rw [← ee] at hck hm
  clear he ee hd
  obtain ⟨kind, key, to, doc, want, has, n, most, list, docs, news⟩ := o
  refine go (fn := Go.Proofs.Tryz.f30) (n := 89) (rv := [ResultVar.tmp 6, ResultVar.cell 7 52, ResultVar.tmp 8, ResultVar.tmp 9]) rfl (by decide) rfl (by decide +kernel) rfl rfl (by simp) fun F L C => ?_
  cbv
  (repeat' first | (refine Named.i64 ?_ fun _ _ => ?_; (focus lia); cbv) | (refine CallThen.mk _ _ (C.fn (hck)) ?_; cbv) | (refine Named.len fun _ _ hq => ?_; (try simp only [List.length_append, List.length_take, List.length_drop, List.length_replicate, List.length_set] at hq); cbv) | (refine Named.mk fun _ _ => ?_; cbv) | (refine Br.t ?_ ?_; (focus first | assumption | lia); cbv) | (refine Br.f ?_ ?_; (focus first | assumption | lia); cbv) | (refine Br.mk (fun _ => ?_) (fun _ => ?_) <;> cbv) | (refine Need.mk ?_ ?_; rotate_left; cbv) | (refine RetThen.mk [] [] ?_; cbv))
  all_goals first
    | (exfalso; clear hck; lia)
    | ((repeat' apply And.intro) <;> first | rfl | exact WkR.refl _ | exact h0 | exact h1 | exact h2 | exact h3 | exact True.intro | trace_state)
    | trace_state
end Go.Sym
namespace Go.Sym
open Go
def dA : Doc := [⟨ta, numV 1⟩]
def casO : Opn := .mk 3 tx ByteArray.empty dA [] false 0 0 [] [] []
theorem may_dA : may dA = true := by
  refine may_true (by simp [dA]) fun i hi => ?_
  have : i = 0 := by simp [dA] at hi; exact hi
  subst this
  exact (okAt_iff (x := ⟨ta, numV 1⟩) rfl).2 ⟨by decide, .inl ⟨rfl, rfl, rfl, rfl, by decide, by decide⟩, by simp⟩
theorem putC_dA : (putC (docC dA)).length ≤ 512 := by
  have h : ta.size = 1 := rfl
  simp [dA, docC, fieldC, valC, numV, numC, textC, listC, putC, putCs, numB_lo, zig, h]
theorem light_dA : lightD dA = true := by
  rw [lightD, may_dA, Bool.true_and, decide_eq_true_eq]; exact putC_dA
theorem key_tx : isKey tx = true := by decide
theorem getK_no : getK Ndoc.key ([] : List Ndoc) tx = false := by simp [getK]
theorem getK_tx : getK Ndoc.key [(⟨tx, dA⟩ : Ndoc)] tx = true := by simp [getK, hasK]
theorem cas_no : casBad [] casO = false := by simp [casBad, casO, Opn.key, Opn.has, getK_no]
theorem cas_at : casBad [⟨tx, dA⟩] casO = true := by simp [casBad, casO, Opn.key, Opn.has, getK_tx]
theorem docAt_tx : docAt [⟨tx, dA⟩] tx = dA := by
  have : posK Ndoc.key [(⟨tx, dA⟩ : Ndoc)] tx = 0 := by
    obtain ⟨x, hx, hn⟩ := posK_there (κ := Ndoc.key) (d := [(⟨tx, dA⟩ : Ndoc)]) (p := tx) (List.pairwise_singleton _ _) getK_tx
    have := (List.getElem?_eq_some_iff.1 hx).1
    simp at this; omega
  rw [docAt, this]; rfl
theorem write_no : writeA [] casO = ans0 := by
  rw [writeA, if_neg (by simp [casO, Opn.key, key_tx]), if_neg (by simp [casO, Opn.kind]), if_neg (by simp [casO, Opn.doc, Opn.has, may_dA]), if_neg (by simp [cas_no]), if_neg (by simp [casO, Opn.doc, light_dA]), if_neg (by simp)]
theorem write_at : writeA [⟨tx, dA⟩] casO = ⟨7, true, dA, [], [], 0, 0, []⟩ := by
  rw [writeA, if_neg (by simp [casO, Opn.key, key_tx]), if_neg (by simp [casO, Opn.kind]), if_neg (by simp [casO, Opn.doc, Opn.has, may_dA]), if_pos ⟨rfl, cas_at⟩]
  rw [standA, if_pos (by simp [casO, Opn.key, getK_tx])]
  simp [casO, Opn.key, docAt_tx]
theorem shop_awake1 : batchR [] [casO] 5 = ([⟨tx, dA⟩], ⟨0, false, [], [], [], 6, 0, []⟩, [⟨6, tx, true, dA⟩]) := by
  rw [batchR, if_neg (by simp [notWrites, writesB, casO, Opn.kind]), runB, if_neg (by simp [write_no, ans0]), runB]
  simp [foldD, writeC, casO, Opn.kind, Opn.key, Opn.doc, getK_no, insK]
theorem shop_awake2 : batchR [⟨tx, dA⟩] [casO] 6 = ([⟨tx, dA⟩], ⟨7, true, dA, [], [], 0, 0, []⟩, []) := by
  rw [batchR, if_neg (by simp [notWrites, writesB, casO, Opn.kind]), runB, if_pos (by simp [write_at])]
  simp [write_at]
theorem mayD_no : mayD [] = true := mayD_iff.2 ⟨by simp, by simp, List.Pairwise.nil⟩
theorem mayD_at : mayD [⟨tx, dA⟩] = true := mayD_iff.2 ⟨by simp, by simp [key_tx, may_dA], List.pairwise_singleton _ _⟩
end Go.Sym
namespace Go.Sym
open Go
noncomputable def foldAll (l : List Ndoc) (cs : List Change) : List Ndoc := cs.foldl foldD l
theorem foldAll_cons {l : List Ndoc} {c : Change} {cs : List Change} : foldAll l (c :: cs) = foldAll (foldD l c) cs := rfl
theorem foldD_len_get {l : List Ndoc} {c : Change} (hs : sortedK Ndoc.key l) (h : c.has = true ∧ getK Ndoc.key l c.key = false → l.length ≠ 24) (hl : l.length ≤ 24) : (foldD l c).length ≤ 24 := by
  cases hh : c.has <;> cases g : getK Ndoc.key l c.key
  · rw [foldD_no hh g]; exact hl
  · rw [foldD_del hh g, List.length_eraseIdx]; split <;> omega
  · rw [foldD_ins hh g, insK]; simp; have := h ⟨hh, g⟩; omega
  · rw [foldD_set hh g]; simpa using hl
theorem write_may {l : List Ndoc} {o : Opn} (hm : mayD l = true) (h : (writeA l o).code = 0) : mayD (foldD l (writeC o)) = true := by
  rw [mayD, Bool.and_eq_true, decide_eq_true_eq] at hm ⊢
  have h1 := fold_write_ok hm.2 h
  obtain ⟨k1, k2, k3, k4, k5⟩ := writeA_ok h
  refine ⟨foldD_len_get (docsOk_iff.1 hm.2).2 (fun hc => ?_) hm.1, h1.1⟩
  have hk : (writeC o).key = o.key := by unfold writeC; split <;> rfl
  rw [hk] at hc
  exact k5 hc.2
def writeCs (t : Int) : List Opn → List Change
  | [] => []
  | o :: l => { writeC o with pos := t + 1 } :: writeCs (t + 1) l
theorem writeCs_len : ∀ (l : List Opn) (t : Int), (writeCs t l).length = l.length
  | [], _ => rfl
  | _ :: l, t => by rw [writeCs, List.length_cons, List.length_cons, writeCs_len l]
theorem writeCs_docs {m : Nat} : ∀ (l : List Opn) (t : Int), (∀ o ∈ l, o.doc.length ≤ m) → ∀ c ∈ writeCs t l, c.doc.length ≤ m
  | [], _, _, c, h => by simp [writeCs] at h
  | o :: l, t, h, c, hc => by
    rw [writeCs] at hc
    rcases List.mem_cons.1 hc with rfl | hc
    · show (writeC o).doc.length ≤ m
      unfold writeC; split
      · simp
      · exact h o (by simp)
    · exact writeCs_docs l _ (fun x hx => h x (List.mem_cons_of_mem _ hx)) c hc
def answerN (n : Int) : Answer := ⟨0, false, [], [], [], n, 0, []⟩
theorem runB_spec {first : List Ndoc} {total : Int} : ∀ (ops : List Opn) (now : List Ndoc) (out : List Change), mayD now = true →
    (∃ (now' : List Ndoc) (o : Opn), mayD now' = true ∧ o ∈ ops ∧ (writeA now' o).code ≠ 0 ∧ runB first total ops now out = (first, writeA now' o, [])) ∨
    (runB first total ops now out = (foldAll now (writeCs (total + out.length) ops), answerN (total + out.length + ops.length), out ++ writeCs (total + out.length) ops) ∧ mayD (foldAll now (writeCs (total + out.length) ops)) = true)
  | [], now, out, h => .inr ⟨by simp [runB, writeCs, foldAll, answerN], h⟩
  | o :: l, now, out, h => by
    rw [runB]
    by_cases hc : (writeA now o).code ≠ 0
    · rw [if_pos hc]; exact .inl ⟨now, o, h, by simp, hc, rfl⟩
    · rw [if_neg hc]
      have hw := write_may h (by simpa using hc)
      have hf : mayD (foldD now { writeC o with pos := total + out.length + 1 }) = true := by rw [foldD_pos]; exact hw
      have e1 : total + ((out ++ [{ writeC o with pos := total + out.length + 1 }]).length : Int) = total + out.length + 1 := by simp; omega
      rcases runB_spec l _ (out ++ [{ writeC o with pos := total + out.length + 1 }]) hf with ⟨now', x, h1, h2, h3, h4⟩ | ⟨h1, h2⟩
      · exact .inl ⟨now', x, h1, List.mem_cons_of_mem _ h2, h3, h4⟩
      · rw [e1] at h1 h2
        refine .inr ⟨?_, ?_⟩
        · rw [h1, writeCs, foldAll_cons, List.append_assoc]
          simp only [List.length_cons, List.singleton_append, Prod.mk.injEq, true_and, and_true]
          simp only [answerN]
          congr 1
          omega
        · rw [writeCs, foldAll_cons]; exact h2
theorem docAt_len {l : List Ndoc} (hm : mayD l = true) (p : ByteArray) : (docAt l p).length ≤ 16 := by
  rw [docAt]
  split
  · rename_i n hn
    exact may_len ((mayD_iff.1 hm).2.1 n (List.mem_of_getElem? hn)).2
  · simp
structure SmallA (l : List Ndoc) (a : Answer) : Prop where
  doc : a.doc.length ≤ 16
  docs : a.docs.length ≤ l.length ∧ ∀ n ∈ a.docs, n ∈ l
  news : a.news = []
  keys : a.keys = []
theorem small_ref (l : List Ndoc) (e : Int) : SmallA l (refA e) := ⟨by simp [refA], by simp [refA], rfl, rfl⟩
theorem small_ans (l : List Ndoc) (e : Int) : SmallA l (answerN e) := ⟨by simp [answerN], by simp [answerN], rfl, rfl⟩
theorem small_ans0 (l : List Ndoc) : SmallA l ans0 := ⟨by simp [ans0], by simp [ans0], rfl, rfl⟩
theorem small_stand {l m : List Ndoc} (hm : mayD m = true) (p : ByteArray) : SmallA l (standA m p) := by
  rw [standA]; split
  · exact ⟨docAt_len hm p, by simp, rfl, rfl⟩
  · exact small_ans0 l
theorem small_write {l m : List Ndoc} (hm : mayD m = true) (o : Opn) : SmallA l (writeA m o) := by
  rw [writeA]
  split
  · exact small_ref _ _
  · split
    · split
      · exact small_ans0 _
      · exact small_ref _ _
    · split
      · exact small_ref _ _
      · split
        · have := small_stand (l := l) hm o.key
          exact ⟨this.doc, this.docs, this.news, this.keys⟩
        · split
          · exact small_ref _ _
          · split
            · exact small_ref _ _
            · exact small_ans0 _
theorem small_scan (l : List Ndoc) (o : Opn) : SmallA l (scanA l o) := by
  rw [scanA]; split
  · exact small_ref _ _
  · refine ⟨by simp, ⟨?_, fun n hn => ?_⟩, rfl, rfl⟩
    · have h1 := List.length_filter_le (inScan o) l
      simp only [List.length_take]; omega
    · exact (List.mem_filter.1 (List.mem_of_mem_take hn)).1
noncomputable def writesOf (o : Opn) : List Opn := if writesB o = true then [o] else if o.kind = 6 ∧ ¬ (o.list.length < 1 ∨ 4 < o.list.length ∨ o.list.any notWrites = true) then o.list else []
theorem applyR_spec {l : List Ndoc} (o : Opn) (total : Int) (hm : mayD l = true) :
    (∃ a, applyR l o total = (l, a, []) ∧ SmallA l a ∧ (a.code = 0 → o.kind = 4 ∨ o.kind = 5)) ∨
    (applyR l o total = (foldAll l (writeCs total (writesOf o)), answerN (total + (writesOf o).length), writeCs total (writesOf o)) ∧ mayD (foldAll l (writeCs total (writesOf o))) = true ∧ (writesB o = true ∨ o.kind = 6) ∧ writesOf o ≠ []) := by
  rw [applyR]
  by_cases hw : writesB o = true
  · rw [if_pos hw]
    have e : writesOf o = [o] := by rw [writesOf, if_pos hw]
    have hb : batchR l [o] total = runB l total [o] l [] := by rw [batchR, if_neg (by simp [notWrites, hw])]
    rw [hb, e]
    rcases runB_spec (first := l) (total := total) [o] l [] hm with ⟨now', x, h1, h2, h3, h4⟩ | ⟨h1, h2⟩
    · exact .inl ⟨_, h4, small_write h1 x, fun k => absurd k h3⟩
    · simp only [List.length_nil, Int.natCast_zero, Int.add_zero, List.nil_append] at h1 h2
      exact .inr ⟨h1, h2, .inl hw, by simp⟩
  · rw [if_neg hw]
    by_cases h6 : o.kind = 6
    · rw [if_pos h6]
      by_cases hg : o.list.length < 1 ∨ 4 < o.list.length ∨ o.list.any notWrites = true
      · rw [batchR, if_pos hg]
        exact .inl ⟨_, rfl, small_ref _ _, fun k => by cases k⟩
      · have e : writesOf o = o.list := by rw [writesOf, if_neg hw, if_pos ⟨h6, hg⟩]
        rw [batchR, if_neg hg, e]
        rcases runB_spec (first := l) (total := total) o.list l [] hm with ⟨now', x, h1, h2, h3, h4⟩ | ⟨h1, h2⟩
        · exact .inl ⟨_, h4, small_write h1 x, fun k => absurd k h3⟩
        · simp only [List.length_nil, Int.natCast_zero, Int.add_zero, List.nil_append] at h1 h2
          exact .inr ⟨h1, h2, .inr h6, fun k => hg (.inl (by rw [k]; simp))⟩
    · rw [if_neg h6]
      by_cases h5 : o.kind = 5
      · rw [if_pos h5]; exact .inl ⟨_, rfl, small_scan _ _, fun _ => .inr h5⟩
      · rw [if_neg h5]
        by_cases h4 : o.kind = 4 ∧ isKey o.key = true
        · rw [if_pos h4]; exact .inl ⟨_, rfl, small_stand hm _, fun _ => .inl h4.1⟩
        · rw [if_neg h4]; exact .inl ⟨_, rfl, small_ref _ _, fun k => by cases k⟩
theorem writesOf_small {o : Opn} {m : Nat} (h1 : o.doc.length ≤ m) (h2 : ∀ x ∈ o.list, x.doc.length ≤ m) : ∀ x ∈ writesOf o, x.doc.length ≤ m := by
  intro x hx
  unfold writesOf at hx
  split at hx
  · rw [List.mem_singleton.1 hx]; exact h1
  · split at hx
    · exact h2 x hx
    · simp at hx
theorem writesOf_len (o : Opn) : (writesOf o).length ≤ 4 := by
  unfold writesOf
  split
  · simp
  · split
    · rename_i h; have := h.2; omega
    · simp
end Go.Sym
