/- The law FeedReads. -/
import Derived.Test.YtfenjmhhggekaaaDoorFe16
import Derived.Test.YtfenjmhhggekaaaDoorFe12
set_option linter.all false
set_option linter.unusedVariables false
set_option linter.unusedSimpArgs false
namespace Go.Sym
open Go Go.Proofs.Tryd
set_option maxRecDepth 100000
set_option maxHeartbeats 4000000 in
theorem feedReads_fn (O : Opq) (f : Feed) (n : ByteArray) (a m : Int) (hl : f.changes.length ≤ 9223372036854775807) (hp : ∀ c ∈ f.changes, inC c ∧ ∀ x ∈ c.doc, x.path.size ≤ 9223372036854775807) (hn : n.size ≤ 9223372036854775807) :
    Fn prog 6 [.agg (f.enc O), .str n, .agg [.int .i64 a, .int .i64 m]] [] [.bool true] [] := by
  have hL : O.o lightF f = lightF f := by rw [O.h]
  by_cases hlf : lightF f = true ∧ n.size ≤ 200
  · obtain ⟨hlf, hn2⟩ := hlf
    rw [hlf] at hL
    have hlf := of_decide_eq_true hlf
    have hlc := lightC_iff.1 hlf.1
    have hi : inF f := ⟨by omega, by omega, fun c hc => ⟨(hp c hc).1, by have := hlc.2 c hc; omega⟩⟩
    have hcd : ∀ c ∈ f.changes, c.doc.length ≤ 1099511627776 ∧ ∀ x ∈ c.doc, x.path.size ≤ 9223372036854775807 := fun c hc => ⟨by have := hlc.2 c hc; omega, (hp c hc).2⟩
    have hmf := rmayF_fn O f (by omega) (by omega) hcd
    have h1 := read_fn O f n m hi.1 hi.2.1 hi.2.2
    have h2 := pull_fn O f a m hi.1 hi.2.1 hi.2.2
    have hM : O.o mayF f = mayF f := by rw [O.h]
    cases hm : mayF f with
    | false =>
      rw [hM, hm] at hmf
      obtain ⟨x1, x2, x3⟩ := readE_bad (n := n) (m := m) hm
      obtain ⟨x4, x5⟩ := pullE_bad (f := f) (a := a) (m := m) (by simp [hm])
      rw [show O.o readR f n m = [] by rw [O.h]; exact x2, show O.o readAt f n m = 0 by rw [O.h]; exact x3, show O.o readE f n m = 1 by rw [O.h]; exact x1, show O.o (Chs.enc O) [] = [] by rw [O.h]; rfl] at h1
      rw [show O.o pullR f a m = [] by rw [O.h]; exact x5, show O.o pullE f a m = 1 by rw [O.h]; exact x4, show O.o (Chs.enc O) [] = [] by rw [O.h]; rfl] at h2
      have hnil : ([] : List (List PV)).length = 0 := rfl
      clear hp hlc hlf hi hcd x1 x2 x3 x4 x5
      refine go (fn := Go.Proofs.Tryd.f6) (n := 111) (rv := [ResultVar.tmp 6]) rfl (by decide) rfl (by decide +kernel) rfl rfl (by simp) fun F L C => ?_
      cbv
      (repeat' first | (refine Named.i64 ?_ fun _ _ => ?_; (focus lia); cbv) | (refine CallThen.boolT (C.fn (lightF_fn O f hl)) ?_ ?_; (focus assumption); cbv) | (refine CallThen.boolF (C.fn (lightF_fn O f hl)) ?_ ?_; (focus assumption); cbv) | (refine CallThen.bool (C.fn (lightF_fn O f hl)) (fun _ => ?_) (fun _ => ?_) <;> cbv) | (refine CallThen.mk _ _ (C.fn (awakeF_fn O)) ?_; cbv) | (refine CallThen.mk _ _ (C.fn (h1)) ?_; cbv) | (refine CallThen.mk _ _ (C.fn (h2)) ?_; cbv) | (refine CallThen.mk _ _ (C.fn (hmf)) ?_; cbv) | (refine Named.len fun _ _ hq => ?_; (try simp only [List.length_append, List.length_take, List.length_drop, List.length_replicate, List.length_set] at hq); cbv) | (refine Named.mk fun _ _ => ?_; cbv) | (refine Br.t ?_ ?_; (focus first | assumption | lia); cbv) | (refine Br.f ?_ ?_; (focus first | assumption | lia); cbv) | (refine Br.mk (fun _ => ?_) (fun _ => ?_) <;> cbv) | (refine Need.mk ?_ ?_; rotate_left; cbv) | (refine RetThen.mk [] [] ?_; cbv))
      all_goals first | lia | (exfalso; lia) | trace_state
    | true =>
      rw [hM, hm] at hmf
      have r1 := rread_fn O f n m hm
      have r2 := rpull_fn O f a m hm
      have hpm : ∀ (g : Feed) (a m : Int), ∀ c ∈ pullF g a m, c ∈ g.changes := fun g a m c hc => List.mem_of_mem_drop (List.mem_of_mem_take hc)
      have hR : (readR f n m).length ≤ 1099511627776 ∧ ∀ c ∈ readR f n m, c.doc.length ≤ 1099511627776 := by
        rw [readR]; split
        · refine ⟨by rw [pullF, List.length_take, List.length_drop]; omega, fun c hc => (hcd c (hpm _ _ _ c hc)).1⟩
        · exact ⟨by simp, by simp⟩
      have hQ : (pullR f a m).length ≤ 1099511627776 ∧ ∀ c ∈ pullR f a m, c.doc.length ≤ 1099511627776 := by
        rw [pullR]; split
        · refine ⟨by rw [pullF, List.length_take, List.length_drop]; omega, fun c hc => (hcd c (hpm _ _ _ c hc)).1⟩
        · exact ⟨by simp, by simp⟩
      have hR2 : (O.o readR f n m).length ≤ 1099511627776 ∧ ∀ c ∈ O.o readR f n m, c.doc.length ≤ 1099511627776 := by simp only [O.h]; exact hR
      have hQ2 : (O.o pullR f a m).length ≤ 1099511627776 ∧ ∀ c ∈ O.o pullR f a m, c.doc.length ≤ 1099511627776 := by simp only [O.h]; exact hQ
      obtain ⟨R, eR⟩ : ∃ R, R = O.o readR f n m := ⟨_, rfl⟩
      obtain ⟨Q, eQ⟩ : ∃ R, R = O.o pullR f a m := ⟨_, rfl⟩
      rw [← eR] at h1 r1 hR2
      rw [← eQ] at h2 r2 hQ2
      have s1 := news_fn O R R hR2.1 hR2.2
      have s2 := news_fn O Q Q hQ2.1 hQ2.2
      rw [show O.o sameC R R = true by rw [O.h]; exact sameC_iff.2 rfl] at s1
      rw [show O.o sameC Q Q = true by rw [O.h]; exact sameC_iff.2 rfl] at s2
      clear hp hlc hlf hi hcd hR hQ hR2 hQ2 hpm eR eQ
      refine go (fn := Go.Proofs.Tryd.f6) (n := 111) (rv := [ResultVar.tmp 6]) rfl (by decide) rfl (by decide +kernel) rfl rfl (by simp) fun F L C => ?_
      cbv
      (repeat' first | (refine Named.i64 ?_ fun _ _ => ?_; (focus lia); cbv) | (refine CallThen.boolT (C.fn (lightF_fn O f hl)) ?_ ?_; (focus assumption); cbv) | (refine CallThen.boolF (C.fn (lightF_fn O f hl)) ?_ ?_; (focus assumption); cbv) | (refine CallThen.bool (C.fn (lightF_fn O f hl)) (fun _ => ?_) (fun _ => ?_) <;> cbv) | (refine CallThen.mk _ _ (C.fn (awakeF_fn O)) ?_; cbv) | (refine CallThen.mk _ _ (C.fn (h1)) ?_; cbv) | (refine CallThen.mk _ _ (C.fn (h2)) ?_; cbv) | (refine CallThen.mk _ _ (C.fn (hmf)) ?_; cbv) | (refine CallThen.mk _ _ (C.fn (r1)) ?_; cbv) | (refine CallThen.mk _ _ (C.fn (r2)) ?_; cbv) | (refine CallThen.mk _ _ (C.fn (s1)) ?_; cbv) | (refine CallThen.mk _ _ (C.fn (s2)) ?_; cbv) | (refine Named.len fun _ _ hq => ?_; (try simp only [List.length_append, List.length_take, List.length_drop, List.length_replicate, List.length_set] at hq); cbv) | (refine Named.mk fun _ _ => ?_; cbv) | (refine Br.t ?_ ?_; (focus first | assumption | lia); cbv) | (refine Br.f ?_ ?_; (focus first | assumption | lia); cbv) | (refine Br.mk (fun _ => ?_) (fun _ => ?_) <;> cbv) | (refine Need.mk ?_ ?_; rotate_left; cbv) | (refine RetThen.mk [] [] ?_; cbv))
      all_goals first | lia | (exfalso; lia) | trace_state
  · clear hp
    refine go (fn := Go.Proofs.Tryd.f6) (n := 111) (rv := [ResultVar.tmp 6]) rfl (by decide) rfl (by decide +kernel) rfl rfl (by simp) fun F L C => ?_
    cbv
    (repeat' first | (refine Named.i64 ?_ fun _ _ => ?_; (focus lia); cbv) | (refine CallThen.boolT (C.fn (lightF_fn O f hl)) ?_ ?_; (focus assumption); cbv) | (refine CallThen.boolF (C.fn (lightF_fn O f hl)) ?_ ?_; (focus assumption); cbv) | (refine CallThen.bool (C.fn (lightF_fn O f hl)) (fun _ => ?_) (fun _ => ?_) <;> cbv) | (refine CallThen.mk _ _ (C.fn (awakeF_fn O)) ?_; cbv) | (refine Named.len fun _ _ hq => ?_; (try simp only [List.length_append, List.length_take, List.length_drop, List.length_replicate, List.length_set] at hq); cbv) | (refine Named.mk fun _ _ => ?_; cbv) | (refine Br.t ?_ ?_; (focus first | assumption | lia); cbv) | (refine Br.f ?_ ?_; (focus first | assumption | lia); cbv) | (refine Br.mk (fun _ => ?_) (fun _ => ?_) <;> cbv) | (refine Need.mk ?_ ?_; rotate_left; cbv) | (refine RetThen.mk [] [] ?_; cbv))
    all_goals first
      | lia
      | (exfalso; simp_all; done)
      | (exfalso; rw [← hL] at hlf; exact hlf ⟨by assumption, by lia⟩)
      | trace_state
end Go.Sym
