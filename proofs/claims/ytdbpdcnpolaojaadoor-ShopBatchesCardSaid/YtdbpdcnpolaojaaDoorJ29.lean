/- Arguments that are feeds. -/
import Derived.Test.YtdbpdcnpolaojaaDoorJ28
import Derived.Test.YtdbpdcnpolaojaaDoorJ5
import Derived.Test.YtdbpdcnpolaojaaDoorJ7
import Derived.Test.YtdbpdcnpolaojaaDoorJ8
import Derived.Test.YtdbpdcnpolaojaaDoorJ27
set_option linter.all false
set_option linter.unusedVariables false
set_option linter.unusedSimpArgs false
namespace Go.Sym
open Go Go.Proofs Go.Proofs.Tryd
set_option maxRecDepth 10000
theorem cFe0 : prog.cellsOf 4 = 1 := by decide +kernel
theorem cFe1 : prog.cellsOf 40 = 4 := by decide +kernel
theorem cFe4 : prog.cellsOf 29 = 1 := by decide +kernel
theorem shape_bool {n : Nat} {xs : List PV} (h : shape prog n 4 xs) : ∃ b : Bool, xs = [.bool b] := by
  cases n with
  | zero => exact h.elim
  | succ n => simp only [shape, Tryd.underlying4] at h; exact h
theorem rows_wk {α : Type} {e : α → List PV} {In : α → Prop} {Q : List PV → Prop} (hq : ∀ r, Q r → ∃ a, WkL (e a) r ∧ In a) : ∀ {rows : List (List PV)}, (∀ r ∈ rows, Q r) → ∃ l : List α, WkR (l.map e) rows ∧ l.length = rows.length ∧ ∀ a ∈ l, In a
  | [], _ => ⟨[], .refl _, rfl, by simp⟩
  | r :: rows, h => by
    obtain ⟨a, ha, ia⟩ := hq r (h r (by simp))
    obtain ⟨l, hl, ll, il⟩ := rows_wk (rows := rows) hq fun r hr => h r (List.mem_cons_of_mem _ hr)
    exact ⟨a :: l, .cons ha hl, by simp [ll], by simpa using ⟨ia, il⟩⟩
def Change.In (c : Change) : Prop := inI c.pos ∧ inS c.key ∧ c.doc.length ≤ 9223372036854775807 ∧ ∀ f ∈ c.doc, f.In
def Sub.In (s : Sub) : Prop := inS s.name ∧ inI s.pos
def Feed.In (f : Feed) : Prop := inI f.base ∧ inI f.total ∧ f.changes.length ≤ 9223372036854775807 ∧ f.subs.length ≤ 9223372036854775807 ∧ (∀ c ∈ f.changes, c.In) ∧ ∀ s ∈ f.subs, s.In
theorem shape_change {n : Nat} {xs : List PV} (h : shape prog n 40 xs) : ∃ c : Change, WkL (Change.enc Opq.id c) xs ∧ c.In := by
  cases n with
  | zero => exact h.elim
  | succ n =>
    simp only [shape, Tryd.underlying40, List.forall_mem_cons, List.not_mem_nil, false_imp_iff, implies_true, and_true, cFe1, cFe0, cFe4, c9, c3] at h
    obtain ⟨hl, h1, h2, h3, h4⟩ := h
    match xs, hl with
    | [x, y, z, u], _ =>
    obtain ⟨a, ea, ia⟩ := shape_int (xs := [x]) h1
    obtain ⟨t, et, it⟩ := shape_str (xs := [y]) h2
    obtain ⟨b, eb⟩ := shape_bool (xs := [z]) h3
    obtain ⟨d, wd, ld, id⟩ := shape_doc (x := u) h4
    cases ea; cases et; cases eb
    exact ⟨⟨a, t, b, d⟩, .cons (.refl _) (.cons (.refl _) (.cons (.refl _) (.cons wd (.refl _)))), ia, it, ld, id⟩
theorem shape_changes {n : Nat} {x : PV} (h : shape prog n 26 [x]) : ∃ l : List Change, Wk (.sl false 0 false 4 (Chs.enc Opq.id l)) x ∧ l.length ≤ 9223372036854775807 ∧ ∀ c ∈ l, c.In := by
  cases n with
  | zero => exact h.elim
  | succ n =>
    simp only [shape, Tryd.underlying26, cFe1] at h
    rcases h with h | ⟨rows, h, hl, hr⟩
    · cases h
      exact ⟨[], .nil _ _, by simp, by simp⟩
    · cases h
      obtain ⟨l, hw, hll, hi⟩ := rows_wk (fun r hr => shape_change hr) hr
      exact ⟨l, .sl' rfl rfl hw, by rw [hll]; simpa [maxLen] using hl, hi⟩
end Go.Sym
namespace Go.Sym
open Go Go.Proofs Go.Proofs.Tryd
set_option maxRecDepth 10000
inductive Cel.In : Cel → Prop
  | mk {k n : Int} {t : ByteArray} {l : List Cel} (hk : inI k) (hn : inI n) (ht : inS t) (hl : l.length ≤ 9223372036854775807) (h : ∀ c ∈ l, c.In) : Cel.In (.mk k n t l)
theorem rows_wkx {α : Type} {e : α → List PV} {In : α → Prop} {Q : List PV → Prop} (hq : ∀ r, Q r → ∃ a, WkL (e a) r ∧ In a) : ∀ {rows : List (List PV)}, (∀ r ∈ rows, Q r) → ∃ l : List α, WkR (l.map e) rows ∧ l.length = rows.length ∧ ∀ a ∈ l, In a
  | [], _ => ⟨[], .refl _, rfl, by simp⟩
  | r :: rows, h => by
    obtain ⟨a, ha, ia⟩ := hq r (h r (by simp))
    obtain ⟨l, hl, ll, il⟩ := rows_wkx (rows := rows) hq fun r hr => h r (List.mem_cons_of_mem _ hr)
    exact ⟨a :: l, .cons ha hl, by simp [ll], by simpa using ⟨ia, il⟩⟩
end Go.Sym
namespace Go.Sym
open Go Go.Proofs Go.Proofs.Tryd
set_option maxRecDepth 10000
theorem cOp0 : prog.cellsOf 44 = 2 := by decide +kernel
theorem cOp1 : prog.cellsOf 9 = 1 := by decide +kernel
theorem cOp2 : prog.cellsOf 29 = 1 := by decide +kernel
def Ndoc.In (c : Ndoc) : Prop := inS (c.key) ∧ ((c.doc).length ≤ 9223372036854775807 ∧ ∀ y ∈ c.doc, y.In)
theorem shape_ndoc {n : Nat} {xs : List PV} (h : shape prog n 44 xs) : ∃ c : Ndoc, WkL (Ndoc.enc Opq.id c) xs ∧ c.In := by
  cases n with
  | zero => exact h.elim
  | succ n =>
    simp only [shape, Tryd.underlying44, List.forall_mem_cons, List.not_mem_nil, false_imp_iff, implies_true, and_true, cOp0, cOp1, cOp2] at h
    obtain ⟨hl, h0, h1⟩ := h
    match xs, hl with
    | [x0, x1], _ =>
    obtain ⟨a0, e0, i0⟩ := shape_str (xs := [x0]) h0
    obtain ⟨a1, w1, i1⟩ := shape_doc (x := x1) h1
    cases e0
    exact ⟨⟨a0, a1⟩, (WkL.append (WkL.refl [_]) (WkL.cons w1 (WkL.refl []))), ⟨i0, i1⟩⟩
theorem shape_ndocs {n : Nat} {x : PV} (h : shape prog n 22 [x]) : ∃ l : List Ndoc, Wk (.sl false 0 false 2 (l.map (Ndoc.enc Opq.id))) x ∧ l.length ≤ 9223372036854775807 ∧ ∀ c ∈ l, c.In := by
  cases n with
  | zero => exact h.elim
  | succ n =>
    simp only [shape, Tryd.underlying22, cOp0] at h
    rcases h with h | ⟨rows, h, hl, hr⟩
    · cases h
      exact ⟨[], .nil _ _, by simp, by simp⟩
    · cases h
      obtain ⟨l, hw, hll, hi⟩ := rows_wkx (fun r hr => shape_ndoc hr) hr
      exact ⟨l, .sl' rfl rfl hw, by rw [hll]; simpa [maxLen] using hl, hi⟩
def PairK.In (c : PairK) : Prop := inS (c.key) ∧ inS (c.val)
theorem cOp6 : prog.cellsOf 4 = 1 := by decide +kernel
theorem cOp7 : prog.cellsOf 22 = 1 := by decide +kernel
theorem cOp8 : prog.cellsOf 26 = 1 := by decide +kernel
theorem cOp9 : prog.cellsOf 3 = 1 := by decide +kernel
def Answer.In (c : Answer) : Prop := inI (c.code) ∧ ((c.doc).length ≤ 9223372036854775807 ∧ ∀ y ∈ c.doc, y.In) ∧ ((c.docs).length ≤ 9223372036854775807 ∧ ∀ y ∈ c.docs, y.In) ∧ ((c.news).length ≤ 9223372036854775807 ∧ ∀ y ∈ c.news, y.In) ∧ inI (c.n) ∧ inI (c.total) ∧ ((c.keys).length ≤ 9223372036854775807 ∧ ∀ y ∈ c.keys, y.In)
theorem cOp11 : prog.cellsOf 31 = 11 := by decide +kernel
theorem cOp12 : prog.cellsOf 23 = 1 := by decide +kernel
inductive Opn.In : Opn → Prop
  | mk {c : Opn} (h : inI (c.kind) ∧ inS (c.key) ∧ inS (c.to) ∧ ((c.doc).length ≤ 9223372036854775807 ∧ ∀ y ∈ c.doc, y.In) ∧ ((c.want).length ≤ 9223372036854775807 ∧ ∀ y ∈ c.want, y.In) ∧ inI (c.n) ∧ inI (c.most) ∧ ((c.docs).length ≤ 9223372036854775807 ∧ ∀ y ∈ c.docs, y.In) ∧ ((c.news).length ≤ 9223372036854775807 ∧ ∀ y ∈ c.news, y.In)) (hl : c.list.length ≤ 9223372036854775807) (hr : ∀ y ∈ c.list, y.In) : c.In
theorem shape_opn : ∀ {n : Nat} {xs : List PV}, shape prog n 31 xs → ∃ c : Opn, WkL (Opn.enc Opq.id c) xs ∧ c.In
  | 0, _, h => h.elim
  | 1, _, h => by
    simp only [shape, Tryd.underlying31, List.forall_mem_cons, List.not_mem_nil, false_imp_iff, implies_true, and_true] at h
    exact h.2.1.elim
  | n + 2, xs, h => by
    have ih := fun (r : List PV) => shape_opn (n := n) (xs := r)
    rw [shape] at h
    simp only [Tryd.underlying31, List.forall_mem_cons, List.not_mem_nil, false_imp_iff, implies_true, and_true, cOp11, cOp9, cOp1, cOp2, cOp6, cOp12, cOp7, cOp8] at h
    obtain ⟨hl, h0, h1, h2, h3, h4, h5, h6, h7, h8, h9, h10⟩ := h
    match xs, hl with
    | [x0, x1, x2, x3, x4, x5, x6, x7, x8, x9, x10], _ =>
    obtain ⟨a0, e0, i0⟩ := shape_int (xs := [x0]) h0
    obtain ⟨a1, e1, i1⟩ := shape_str (xs := [x1]) h1
    obtain ⟨a2, e2, i2⟩ := shape_str (xs := [x2]) h2
    obtain ⟨a3, w3, i3⟩ := shape_doc (x := x3) h3
    obtain ⟨a4, w4, i4⟩ := shape_doc (x := x4) h4
    obtain ⟨a5, e5⟩ := shape_bool (xs := [x5]) h5
    obtain ⟨a6, e6, i6⟩ := shape_int (xs := [x6]) h6
    obtain ⟨a7, e7, i7⟩ := shape_int (xs := [x7]) h7
    obtain ⟨a8, w8, ll8, il8⟩ : ∃ l : List Opn, Wk (.sl false 0 false 11 (Ops.enc Opq.id l)) x8 ∧ l.length ≤ 9223372036854775807 ∧ ∀ c ∈ l, c.In := by
      simp only [List.drop_succ_cons, List.drop_zero, List.take_succ_cons, List.take_zero, shape, Tryd.underlying23, cOp11] at h8
      rcases h8 with h8 | ⟨rows, h8, hl, hr⟩
      · cases h8
        exact ⟨[], .nil _ _, by simp, by simp⟩
      · cases h8
        obtain ⟨l, hw, hll, hi⟩ := rows_wkx (fun r hr => ih r hr) hr
        rw [← Ops.enc_map] at hw
        exact ⟨l, .sl' rfl rfl hw, by rw [hll]; simpa [maxLen] using hl, hi⟩
    obtain ⟨a9, w9, i9⟩ := shape_ndocs (x := x9) h9
    obtain ⟨a10, w10, i10⟩ := shape_changes (x := x10) h10
    cases e0; cases e1; cases e2; cases e5; cases e6; cases e7
    exact ⟨.mk a0 a1 a2 a3 a4 a5 a6 a7 a8 a9 a10, (WkL.append (WkL.refl [_]) (WkL.append (WkL.refl [_]) (WkL.append (WkL.refl [_]) (WkL.append (WkL.cons w3 (WkL.refl [])) (WkL.append (WkL.cons w4 (WkL.refl [])) (WkL.append (WkL.refl [_]) (WkL.append (WkL.refl [_]) (WkL.append (WkL.refl [_]) (WkL.append (WkL.cons w8 (WkL.refl [])) (WkL.append (WkL.cons w9 (WkL.refl [])) (WkL.cons w10 (WkL.refl [])))))))))))), .mk ⟨i0, i1, i2, i3, i4, i6, i7, i9, i10⟩ ll8 il8⟩
theorem shape_opns {n : Nat} {x : PV} (h : shape prog n 23 [x]) : ∃ l : List Opn, Wk (.sl false 0 false 11 (l.map (Opn.enc Opq.id))) x ∧ l.length ≤ 9223372036854775807 ∧ ∀ c ∈ l, c.In := by
  cases n with
  | zero => exact h.elim
  | succ n =>
    simp only [shape, Tryd.underlying23, cOp11] at h
    rcases h with h | ⟨rows, h, hl, hr⟩
    · cases h
      exact ⟨[], .nil _ _, by simp, by simp⟩
    · cases h
      obtain ⟨l, hw, hll, hi⟩ := rows_wkx (fun r hr => shape_opn hr) hr
      exact ⟨l, .sl' rfl rfl hw, by rw [hll]; simpa [maxLen] using hl, hi⟩
end Go.Sym
namespace Go.Sym
open Go Go.Proofs.Tryd
theorem shopFolds_law {n1 : Nat} {x1 : PV} {n2 : Nat} {x2 : PV} (s1 : shape prog n1 22 [x1]) (s2 : shape prog n2 23 [x2]) : Fn prog 3 [x1, x2] [] [.bool true] [] := by
  obtain ⟨l, wl, l1, l2⟩ := shape_ndocs s1
  obtain ⟨o, wo, o1, o2⟩ := shape_opns s2
  have h := shopFolds_fn Opq.id l o l1 o1 (fun n hn f hf => ((l2 n hn).2.2 f hf).1)
  rw [show Opq.id.o (Ops.enc Opq.id) o = o.map (Opn.enc Opq.id) from Ops.enc_map Opq.id o] at h
  exact h.wkA (.cons (.wk wl) (.cons (.wk wo) .nil))
theorem shopBatches_law {n1 : Nat} {x1 : PV} {n2 : Nat} {x2 : PV} (s1 : shape prog n1 22 [x1]) (s2 : shape prog n2 23 [x2]) : Fn prog 4 [x1, x2] [] [.bool true] [] := by
  obtain ⟨l, wl, l1, l2⟩ := shape_ndocs s1
  obtain ⟨o, wo, o1, o2⟩ := shape_opns s2
  have h := shopBatches_fn Opq.id l o l1 o1 (fun n hn f hf => ((l2 n hn).2.2 f hf).1)
  rw [show Opq.id.o (Ops.enc Opq.id) o = o.map (Opn.enc Opq.id) from Ops.enc_map Opq.id o] at h
  exact h.wkA (.cons (.wk wl) (.cons (.wk wo) .nil))
end Go.Sym
