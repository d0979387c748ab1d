/- Arguments that are documents by their keys, answers, and what is asked. -/
import Derived.Test.YtdbpdcnpolaojaaGreatDoorJ31
import Derived.Test.YtdbpdcnpolaojaaGreatDoorJ7
import Derived.Test.YtdbpdcnpolaojaaGreatDoorJ30
set_option linter.all false
set_option linter.unusedVariables false
set_option linter.unusedSimpArgs false
namespace Go.Sym
open Go Go.Proofs Go.Proofs.Tryz
set_option maxRecDepth 10000
theorem shape_errno {n : Nat} {xs : List PV} (h : shape prog n 34 xs) : ∃ m : Int, xs = [.int .i64 m] ∧ -9223372036854775808 ≤ m ∧ m ≤ 9223372036854775807 := by
  cases n with
  | zero => exact h.elim
  | succ n =>
    simp only [shape, Tryz.underlying34] at h
    obtain ⟨m, rfl, hm⟩ := h
    refine ⟨m, rfl, ?_⟩
    simp only [Lit.wf, Bool.and_eq_true, decide_eq_true_eq] at hm
    exact hm
theorem cOp0 : prog.cellsOf 132 = 2 := by decide +kernel
theorem cOp1 : prog.cellsOf 9 = 1 := by decide +kernel
theorem cOp2 : prog.cellsOf 23 = 1 := by decide +kernel
def Ndoc.In (c : Ndoc) : Prop := inS (c.key) ∧ ((c.doc).length ≤ 9223372036854775807 ∧ ∀ y ∈ c.doc, y.In)
theorem shape_ndoc {n : Nat} {xs : List PV} (h : shape prog n 132 xs) : ∃ c : Ndoc, WkL (Ndoc.enc Opq.id c) xs ∧ c.In := by
  cases n with
  | zero => exact h.elim
  | succ n =>
    simp only [shape, Tryz.underlying132, List.forall_mem_cons, List.not_mem_nil, false_imp_iff, implies_true, and_true, cOp0, cOp1, cOp2] at h
    obtain ⟨hl, h0, h1⟩ := h
    match xs, hl with
    | [x0, x1], _ =>
    obtain ⟨a0, e0, i0⟩ := shape_str (xs := [x0]) h0
    obtain ⟨a1, w1, i1⟩ := shape_doc (x := x1) h1
    cases e0
    exact ⟨⟨a0, a1⟩, (WkL.append (WkL.refl [_]) (WkL.cons w1 (WkL.refl []))), ⟨i0, i1⟩⟩
theorem shape_ndocs {n : Nat} {x : PV} (h : shape prog n 25 [x]) : ∃ l : List Ndoc, Wk (.sl false 0 false 2 (l.map (Ndoc.enc Opq.id))) x ∧ l.length ≤ 9223372036854775807 ∧ ∀ c ∈ l, c.In := by
  cases n with
  | zero => exact h.elim
  | succ n =>
    simp only [shape, Tryz.underlying25, cOp0] at h
    rcases h with h | ⟨rows, h, hl, hr⟩
    · cases h
      exact ⟨[], .nil _ _, by simp, by simp⟩
    · cases h
      obtain ⟨l, hw, hll, hi⟩ := rows_wkx (fun r hr => shape_ndoc hr) hr
      exact ⟨l, .sl' rfl rfl hw, by rw [hll]; simpa [maxLen] using hl, hi⟩
theorem cOp3 : prog.cellsOf 156 = 2 := by decide +kernel
def PairK.In (c : PairK) : Prop := inS (c.key) ∧ inS (c.val)
theorem shape_pairk {n : Nat} {xs : List PV} (h : shape prog n 156 xs) : ∃ c : PairK, WkL (PairK.enc c) xs ∧ c.In := by
  cases n with
  | zero => exact h.elim
  | succ n =>
    simp only [shape, Tryz.underlying156, List.forall_mem_cons, List.not_mem_nil, false_imp_iff, implies_true, and_true, cOp3, cOp1] at h
    obtain ⟨hl, h0, h1⟩ := h
    match xs, hl with
    | [x0, x1], _ =>
    obtain ⟨a0, e0, i0⟩ := shape_str (xs := [x0]) h0
    obtain ⟨a1, e1, i1⟩ := shape_str (xs := [x1]) h1
    cases e0; cases e1
    exact ⟨⟨a0, a1⟩, (WkL.append (WkL.refl [_]) (WkL.refl [_])), ⟨i0, i1⟩⟩
theorem shape_pairks {n : Nat} {x : PV} (h : shape prog n 50 [x]) : ∃ l : List PairK, Wk (.sl false 0 false 2 (l.map (PairK.enc))) x ∧ l.length ≤ 9223372036854775807 ∧ ∀ c ∈ l, c.In := by
  cases n with
  | zero => exact h.elim
  | succ n =>
    simp only [shape, Tryz.underlying50, cOp3] at h
    rcases h with h | ⟨rows, h, hl, hr⟩
    · cases h
      exact ⟨[], .nil _ _, by simp, by simp⟩
    · cases h
      obtain ⟨l, hw, hll, hi⟩ := rows_wkx (fun r hr => shape_pairk hr) hr
      exact ⟨l, .sl' rfl rfl hw, by rw [hll]; simpa [maxLen] using hl, hi⟩
theorem cOp4 : prog.cellsOf 52 = 8 := by decide +kernel
theorem cOp5 : prog.cellsOf 34 = 1 := by decide +kernel
theorem cOp6 : prog.cellsOf 4 = 1 := by decide +kernel
theorem cOp7 : prog.cellsOf 25 = 1 := by decide +kernel
theorem cOp8 : prog.cellsOf 26 = 1 := by decide +kernel
theorem cOp9 : prog.cellsOf 3 = 1 := by decide +kernel
theorem cOp10 : prog.cellsOf 50 = 1 := by decide +kernel
def Answer.In (c : Answer) : Prop := inI (c.code) ∧ ((c.doc).length ≤ 9223372036854775807 ∧ ∀ y ∈ c.doc, y.In) ∧ ((c.docs).length ≤ 9223372036854775807 ∧ ∀ y ∈ c.docs, y.In) ∧ ((c.news).length ≤ 9223372036854775807 ∧ ∀ y ∈ c.news, y.In) ∧ inI (c.n) ∧ inI (c.total) ∧ ((c.keys).length ≤ 9223372036854775807 ∧ ∀ y ∈ c.keys, y.In)
theorem shape_answer {n : Nat} {xs : List PV} (h : shape prog n 52 xs) : ∃ c : Answer, WkL (Answer.enc Opq.id c) xs ∧ c.In := by
  cases n with
  | zero => exact h.elim
  | succ n =>
    simp only [shape, Tryz.underlying52, List.forall_mem_cons, List.not_mem_nil, false_imp_iff, implies_true, and_true, cOp4, cOp5, cOp6, cOp2, cOp7, cOp8, cOp9, cOp10] at h
    obtain ⟨hl, h0, h1, h2, h3, h4, h5, h6, h7⟩ := h
    match xs, hl with
    | [x0, x1, x2, x3, x4, x5, x6, x7], _ =>
    obtain ⟨a0, e0, i0⟩ := shape_errno (xs := [x0]) h0
    obtain ⟨a1, e1⟩ := shape_bool (xs := [x1]) h1
    obtain ⟨a2, w2, i2⟩ := shape_doc (x := x2) h2
    obtain ⟨a3, w3, i3⟩ := shape_ndocs (x := x3) h3
    obtain ⟨a4, w4, i4⟩ := shape_changes (x := x4) h4
    obtain ⟨a5, e5, i5⟩ := shape_int (xs := [x5]) h5
    obtain ⟨a6, e6, i6⟩ := shape_int (xs := [x6]) h6
    obtain ⟨a7, w7, i7⟩ := shape_pairks (x := x7) h7
    cases e0; cases e1; cases e5; cases e6
    exact ⟨⟨a0, a1, a2, a3, a4, a5, a6, a7⟩, (WkL.append (WkL.refl [_]) (WkL.append (WkL.refl [_]) (WkL.append (WkL.cons w2 (WkL.refl [])) (WkL.append (WkL.cons w3 (WkL.refl [])) (WkL.append (WkL.cons w4 (WkL.refl [])) (WkL.append (WkL.refl [_]) (WkL.append (WkL.refl [_]) (WkL.cons w7 (WkL.refl []))))))))), ⟨i0, i2, i3, i4, i5, i6, i7⟩⟩
theorem cOp11 : prog.cellsOf 28 = 11 := by decide +kernel
theorem cOp12 : prog.cellsOf 24 = 1 := by decide +kernel
inductive Opn.In : Opn → Prop
  | mk {c : Opn} (h : inI (c.kind) ∧ inS (c.key) ∧ inS (c.to) ∧ ((c.doc).length ≤ 9223372036854775807 ∧ ∀ y ∈ c.doc, y.In) ∧ ((c.want).length ≤ 9223372036854775807 ∧ ∀ y ∈ c.want, y.In) ∧ inI (c.n) ∧ inI (c.most) ∧ ((c.docs).length ≤ 9223372036854775807 ∧ ∀ y ∈ c.docs, y.In) ∧ ((c.news).length ≤ 9223372036854775807 ∧ ∀ y ∈ c.news, y.In)) (hl : c.list.length ≤ 9223372036854775807) (hr : ∀ y ∈ c.list, y.In) : c.In
theorem shape_opn : ∀ {n : Nat} {xs : List PV}, shape prog n 28 xs → ∃ c : Opn, WkL (Opn.enc Opq.id c) xs ∧ c.In
  | 0, _, h => h.elim
  | 1, _, h => by
    simp only [shape, Tryz.underlying28, List.forall_mem_cons, List.not_mem_nil, false_imp_iff, implies_true, and_true] at h
    exact h.2.1.elim
  | n + 2, xs, h => by
    have ih := fun (r : List PV) => shape_opn (n := n) (xs := r)
    rw [shape] at h
    simp only [Tryz.underlying28, List.forall_mem_cons, List.not_mem_nil, false_imp_iff, implies_true, and_true, cOp11, cOp9, cOp1, cOp2, cOp6, cOp12, cOp7, cOp8] at h
    obtain ⟨hl, h0, h1, h2, h3, h4, h5, h6, h7, h8, h9, h10⟩ := h
    match xs, hl with
    | [x0, x1, x2, x3, x4, x5, x6, x7, x8, x9, x10], _ =>
    obtain ⟨a0, e0, i0⟩ := shape_int (xs := [x0]) h0
    obtain ⟨a1, e1, i1⟩ := shape_str (xs := [x1]) h1
    obtain ⟨a2, e2, i2⟩ := shape_str (xs := [x2]) h2
    obtain ⟨a3, w3, i3⟩ := shape_doc (x := x3) h3
    obtain ⟨a4, w4, i4⟩ := shape_doc (x := x4) h4
    obtain ⟨a5, e5⟩ := shape_bool (xs := [x5]) h5
    obtain ⟨a6, e6, i6⟩ := shape_int (xs := [x6]) h6
    obtain ⟨a7, e7, i7⟩ := shape_int (xs := [x7]) h7
    obtain ⟨a8, w8, ll8, il8⟩ : ∃ l : List Opn, Wk (.sl false 0 false 11 (Ops.enc Opq.id l)) x8 ∧ l.length ≤ 9223372036854775807 ∧ ∀ c ∈ l, c.In := by
      simp only [List.drop_succ_cons, List.drop_zero, List.take_succ_cons, List.take_zero, shape, Tryz.underlying24, cOp11] at h8
      rcases h8 with h8 | ⟨rows, h8, hl, hr⟩
      · cases h8
        exact ⟨[], .nil _ _, by simp, by simp⟩
      · cases h8
        obtain ⟨l, hw, hll, hi⟩ := rows_wkx (fun r hr => ih r hr) hr
        rw [← Ops.enc_map] at hw
        exact ⟨l, .sl' rfl rfl hw, by rw [hll]; simpa [maxLen] using hl, hi⟩
    obtain ⟨a9, w9, i9⟩ := shape_ndocs (x := x9) h9
    obtain ⟨a10, w10, i10⟩ := shape_changes (x := x10) h10
    cases e0; cases e1; cases e2; cases e5; cases e6; cases e7
    exact ⟨.mk a0 a1 a2 a3 a4 a5 a6 a7 a8 a9 a10, (WkL.append (WkL.refl [_]) (WkL.append (WkL.refl [_]) (WkL.append (WkL.refl [_]) (WkL.append (WkL.cons w3 (WkL.refl [])) (WkL.append (WkL.cons w4 (WkL.refl [])) (WkL.append (WkL.refl [_]) (WkL.append (WkL.refl [_]) (WkL.append (WkL.refl [_]) (WkL.append (WkL.cons w8 (WkL.refl [])) (WkL.append (WkL.cons w9 (WkL.refl [])) (WkL.cons w10 (WkL.refl [])))))))))))), .mk ⟨i0, i1, i2, i3, i4, i6, i7, i9, i10⟩ ll8 il8⟩
end Go.Sym
namespace Go.Sym
open Go Go.Proofs.Tryz
theorem WkL.aggA {xs ys : List PV} (h : WkL xs ys) : WkA (.agg xs) (.agg ys) := .agg' ⟨h.len, fun j x y p q => .wk (h.at' j x y p q)⟩
theorem Doc.paths {d : Doc} (h : ∀ f ∈ d, f.In) : pathsOk d := fun f hf => (h f hf).1
theorem Opn.paths {o : Opn} (h : o.In) : PathsO o := by
  cases h with
  | mk h hl hr =>
    obtain ⟨_, _, _, hd, hw, _⟩ := h
    refine ⟨Doc.paths hd.2, Doc.paths hw.2, fun x hx => ?_⟩
    cases hr x hx with
    | mk h' _ _ =>
      obtain ⟨_, _, _, hd', hw', _⟩ := h'
      exact ⟨Doc.paths hd'.2, Doc.paths hw'.2⟩
theorem shopSame_law {n1 : Nat} {x1 : List PV} {n2 : Nat} {x2 : List PV} {n3 : Nat} {x3 : PV} (s1 : shape prog n1 52 x1) (s2 : shape prog n2 52 x2) (s3 : shape prog n3 23 [x3]) : Fn prog 8 [.agg x1, .agg x2, x3] [] [.bool true] [] := by
  obtain ⟨a, wa, a1, a2, a3, a4, a5, a6, a7⟩ := shape_answer s1
  obtain ⟨b, wb, b1, b2, b3, b4, b5, b6, b7⟩ := shape_answer s2
  obtain ⟨d, wd, d1, d2⟩ := shape_doc s3
  have h := shopSame_fn Opq.id a b d a3.1 b3.1 ⟨a4.1, fun c hc => (a4.2 c hc).2.2.1⟩ a7.1 (Doc.paths d2)
  exact h.wkA (.cons wa.aggA (.cons wb.aggA (.cons (.wk wd) .nil)))
theorem shopApplies_law {n1 : Nat} {x1 : PV} {n2 : Nat} {x2 : List PV} {t : Int} (s1 : shape prog n1 25 [x1]) (s2 : shape prog n2 28 x2) (_ : (Lit.int .i64 t).wf = true) : Fn prog 6 [x1, .agg x2, .int .i64 t] [] [.bool true] [] := by
  obtain ⟨l, wl, l1, l2⟩ := shape_ndocs s1
  obtain ⟨o, wo, io⟩ := shape_opn s2
  have h := shopApplies_fn Opq.id l o t l1 (fun n hn => Doc.paths (l2 n hn).2.2) (Opn.paths io)
  rw [← Opn.en_eq] at h
  exact h.wkA (.cons (.wk wl) (.cons wo.aggA (.refl _)))
theorem shopSwaps_law {n1 : Nat} {x1 : PV} {n2 : Nat} {x2 : List PV} (s1 : shape prog n1 25 [x1]) (s2 : shape prog n2 28 x2) : Fn prog 7 [x1, .agg x2] [] [.bool true] [] := by
  obtain ⟨l, wl, l1, l2⟩ := shape_ndocs s1
  obtain ⟨o, wo, io⟩ := shape_opn s2
  have h := shopSwaps_fn Opq.id l o l1 (fun n hn => Doc.paths (l2 n hn).2.2)
  rw [← Opn.en_eq] at h
  exact h.wkA (.cons (.wk wl) (.cons wo.aggA (.refl _)))
end Go.Sym
