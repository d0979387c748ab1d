/- Changes follow, by the document. -/
import Derived.Test.YtfenjmhhggekaaaDoorFe12
set_option linter.all false
set_option linter.unusedVariables false
set_option linter.unusedSimpArgs false
namespace Go.Sym
open Go Go.Proofs.Tryd
set_option maxRecDepth 100000
theorem retB {O : Opq} {g f : Feed} {β : Type} {e e' : β} (h : g = f) (he : e = e') : g.base = f.base ∧ g.total = f.total ∧ WkR (O.o (Chs.enc O) g.changes) (O.o (Chs.enc O) f.changes) ∧ WkR (O.o Subs.enc g.subs) (O.o Subs.enc f.subs) ∧ e = e' ∧ True := by
  subst h he; exact ⟨rfl, rfl, .refl _, .refl _, rfl, trivial⟩
set_option maxHeartbeats 4000000 in
theorem radd_fn (O : Opq) (f : Feed) (l : List Change) (hm : mayF f = true) (hi : inF f) (hll : l.length ≤ 1099511627) (hld : ∀ c ∈ l, inC c ∧ c.doc.length ≤ 1099511627) (hp : ∀ c ∈ f.changes ++ l, ∀ x ∈ c.doc, x.path.size ≤ 9223372036854775807) : Fn prog 49 [.agg (f.enc O), .sl false 0 false 4 (O.o (Chs.enc O) l)] [] [.agg (Feed.enc O (O.o addR f l)), .bool (O.o addOk f l)] [] := by
  have hl := hi.1
  have hs := hi.2.1
  have hl1 := Chs.len O f.changes
  have hl2 := Subs.len O f.subs
  have hl3 := Chs.len O l
  obtain ⟨q1, q2, q3, q4, _⟩ := (mayF_iff.1 hm).1
  have hM : O.o mayF (addF f l) = mayF (addF f l) := by rw [O.h]
  have hgd : ∀ c ∈ (addF f l).changes, c.doc.length ≤ 1099511627776 ∧ ∀ x ∈ c.doc, x.path.size ≤ 9223372036854775807 := fun c hc => by
    refine ⟨?_, hp c hc⟩
    rcases List.mem_append.1 hc with h | h
    · exact (inF_c hi c h).2
    · have := (hld c h).2; omega
  have hgl : (addF f l).changes.length ≤ 1099511627776 := by rw [addF_len]; omega
  have hgs : (addF f l).subs.length ≤ 1099511627776 := by show f.subs.length ≤ _; omega
  have hgc : O.o (Chs.enc O) (addF f l).changes = O.o (Chs.enc O) f.changes ++ O.o (Chs.enc O) l := by simp only [O.h]; simp [addF, Chs.enc]
  clear hp hld
  have hno : mayF (addF f l) = false → O.o addOk f l = false ∧ O.o addR f l = f := fun h => by
    obtain ⟨x1, x2⟩ := addE_no hm h
    exact ⟨by rw [O.h]; exact addOk_no (by rw [x1]; decide), by rw [O.h]; exact x2⟩
  have hyes : mayF (addF f l) = true → O.o addOk f l = true ∧ O.o addR f l = addF f l := fun h => by
    obtain ⟨x1, x2⟩ := addE_ok hm h
    exact ⟨by rw [O.h]; exact addOk_iff.2 x1, by rw [O.h]; exact x2⟩
  refine go (fn := Go.Proofs.Tryd.f49) (n := 31) (rv := [ResultVar.cell 4 53, ResultVar.tmp 5]) rfl (by decide) rfl (by decide +kernel) rfl rfl (by simp) fun F L C => ?_
  cbv
  (repeat' first | (refine Named.i64 ?_ fun _ _ => ?_; (focus lia); cbv) | (refine Named.len fun _ _ hq => ?_; (try simp only [List.length_append, List.length_take, List.length_drop, List.length_replicate, List.length_set] at hq); cbv) | (refine Named.mk fun _ _ => ?_; cbv) | (refine Br.t ?_ ?_; (focus first | assumption | lia); cbv) | (refine Br.f ?_ ?_; (focus first | assumption | lia); cbv) | (refine Br.mk (fun _ => ?_) (fun _ => ?_) <;> cbv) | (refine Need.mk ?_ ?_; rotate_left; cbv) | (refine RetThen.mk [] [] ?_; cbv))
  all_goals try (clear hgd hM hgc hno hyes; lia)
  all_goals try (simp only [List.length_nil] at *; clear hgd hM hgc hno hyes; lia)
  · obtain ⟨x1, x2⟩ := hno (mayF_head fun h => by have h3 : f.total + l.length ≤ 2147483647 := h.2.2.1; clear hgd hM hgc hno hyes; lia)
    exact retB x2 x1
  · rename_i n1 e1 n2 e2 h1 n3 e3 n4 e4 R1 eR1 hq1 R eR
    have eg : addF f l = ⟨f.base, n4, f.changes ++ l, f.subs⟩ := by rw [addF, e4, e3, hl3]
    have eR2 : R = O.o (Chs.enc O) (f.changes ++ l) := by rw [eR, eR1, List.nil_append, ← hgc]; rfl
    subst eR2
    rw [eg] at hgd hgl hgs hM hno hyes
    clear hgc hq eR
    obtain ⟨w, hw⟩ : ∃ w, w = f.changes ++ l := ⟨_, rfl⟩
    rw [← hw] at hgd hgl hgs hM hno hyes eg ⊢
    (repeat' first | (refine Named.i64 ?_ fun _ _ => ?_; (focus lia); cbv) | (refine CallThen.bool (C.fn (rmayA_fn O ⟨f.base, n4, w, f.subs⟩ (.inl rfl) (.inr rfl) hgl hgs hgd)) (fun _ => ?_) (fun _ => ?_) <;> cbv) | (refine RetThen.mk [] [1792] ?_; cbv) | (refine Named.len fun _ _ hq => ?_; (try simp only [List.length_append, List.length_take, List.length_drop, List.length_replicate, List.length_set] at hq); cbv) | (refine Named.mk fun _ _ => ?_; cbv) | (refine Br.t ?_ ?_; (focus first | assumption | lia); cbv) | (refine Br.f ?_ ?_; (focus first | assumption | lia); cbv) | (refine Br.mk (fun _ => ?_) (fun _ => ?_) <;> cbv) | (refine Need.mk ?_ ?_; rotate_left; cbv) | (refine RetThen.mk [] [] ?_; cbv))
    · rename_i h3
      obtain ⟨x1, x2⟩ := hyes (by rw [← hM]; exact h3)
      refine ⟨?_, ?_, Named.mk fun rs e => ⟨.of_eq ?_, ?_⟩⟩
      · show (O.o addR f l).base = _; rw [x2]
      · show (O.o addR f l).total = _; rw [x2]
      · show O.o (Chs.enc O) (O.o addR f l).changes = _; rw [x2, e]
      · cbv
        refine ⟨.of_eq ?_, x1, trivial⟩
        show O.o Subs.enc (O.o addR f l).subs = _; rw [x2]
    · rename_i h3
      obtain ⟨x1, x2⟩ := hno (by rw [← hM]; exact h3)
      exact retB x2 x1
end Go.Sym
