/- The law FeedAdds. -/
import Derived.Test.YtfenjmhhggekaaaDoorFe13
namespace Go.Sym
open Go Go.Proofs.Tryd
set_option maxRecDepth 100000
set_option maxHeartbeats 4000000 in
theorem feedAdds_fn (O : Opq) (f : Feed) (l : List Change) (hl : f.changes.length ≤ 9223372036854775807) (hll : l.length ≤ 9223372036854775807) (hp : ∀ c ∈ f.changes ++ l, inC c ∧ ∀ x ∈ c.doc, x.path.size ≤ 9223372036854775807) :
    Fn prog 9 [.agg (f.enc O), .sl false 0 false 4 (O.o (Chs.enc O) l)] [] [.bool true] [] := by
  have hL : O.o lightF f = lightF f := by rw [O.h]
  have hC : O.o lightC l = lightC l := by rw [O.h]
  by_cases hlf : lightF f = true ∧ lightC l = true
  · obtain ⟨hlf, hcl⟩ := hlf
    rw [hlf] at hL
    rw [hcl] at hC
    have hlf := of_decide_eq_true hlf
    have hlc := lightC_iff.1 hlf.1
    have hld := lightC_iff.1 hcl
    have hi : inF f := ⟨by omega, by omega, fun c hc => ⟨(hp c (List.mem_append_left _ hc)).1, by have := hlc.2 c hc; omega⟩⟩
    have hid : ∀ c ∈ l, inC c ∧ c.doc.length ≤ 1099511627 := fun c hc => ⟨(hp c (List.mem_append_right _ hc)).1, by have := hld.2 c hc; omega⟩
    have hmf := rmayF_fn O f (by omega) (by omega) fun c hc => ⟨by have := hlc.2 c hc; omega, (hp c (List.mem_append_left _ hc)).2⟩
    have hck := fcheck_fn O f (by omega) (by omega) (inF_c hi)
    have had := add_fn O f l hi (by omega) hid
    have hM : O.o mayF f = mayF f := by rw [O.h]
    have hE : O.o feedErr f = feedErr f := by rw [O.h]
    cases hm : mayF f with
    | false =>
      obtain ⟨x1, x2⟩ := addE_bad (l := l) hm
      rw [hM, hm] at hmf
      rw [hE, feedErr_one hm] at hck
      rw [show O.o addR f l = zeroF by rw [O.h]; exact x2, show O.o addE f l = 1 by rw [O.h]; exact x1] at had
      have hsm := lsame_fn O zeroF zeroF 1 1 (by simp [zeroF]) (by simp [zeroF]) (by simp [zeroF])
      rw [show O.o lsm zeroF 1 zeroF 1 = true by rw [O.h]; exact lsm_iff.2 ⟨rfl, rfl⟩] at hsm
      have hsm2 := hsm.wkA (args' := [.agg (zeroF.enc O), .int .i64 1, .agg [.int .i64 0, .int .i64 0, .nils, .nils], .int .i64 1]) (.cons (.refl _) (.cons (.refl _) (.cons (.agg' (.cons (.refl _) (.cons (.refl _) (.cons (.wk (by rw [show O.o (Chs.enc O) zeroF.changes = [] by rw [O.h]; rfl]; exact .nil _ _)) (.cons (.wk (by rw [show O.o Subs.enc zeroF.subs = [] by rw [O.h]; rfl]; exact .nil _ _)) .nil))))) (.refl _))))
      clear hp hlc hld hlf hi hid hsm x1 x2
      refine go (fn := Go.Proofs.Tryd.f9) (n := 68) (rv := [ResultVar.tmp 4]) rfl (by decide) rfl (by decide +kernel) rfl rfl (by simp) fun F L C => ?_
      cbv
      (repeat' first | (refine Named.i64 ?_ fun _ _ => ?_; (focus lia); cbv) | (refine CallThen.boolT (C.fn (lightF_fn O f hl)) ?_ ?_; (focus assumption); cbv) | (refine CallThen.boolF (C.fn (lightF_fn O f hl)) ?_ ?_; (focus assumption); cbv) | (refine CallThen.bool (C.fn (lightF_fn O f hl)) (fun _ => ?_) (fun _ => ?_) <;> cbv) | (refine CallThen.boolT (C.fn (lightC_fn O l hll)) ?_ ?_; (focus assumption); cbv) | (refine CallThen.boolF (C.fn (lightC_fn O l hll)) ?_ ?_; (focus assumption); cbv) | (refine CallThen.bool (C.fn (lightC_fn O l hll)) (fun _ => ?_) (fun _ => ?_) <;> cbv) | (refine CallThen.mk _ _ (C.fn (awakeF_fn O)) ?_; cbv) | (refine CallThen.mk _ _ (C.fn (had)) ?_; cbv) | (refine CallThen.mk _ _ (C.fn (hmf)) ?_; cbv) | (refine CallThen.mk _ _ (C.fn (hck)) ?_; cbv) | (refine CallThen.mk _ _ (C.fn (hsm2)) ?_; cbv) | (refine Named.len fun _ _ hq => ?_; (try simp only [List.length_append, List.length_take, List.length_drop, List.length_replicate, List.length_set] at hq); cbv) | (refine Named.mk fun _ _ => ?_; cbv) | (refine Br.t ?_ ?_; (focus first | assumption | lia); cbv) | (refine Br.f ?_ ?_; (focus first | assumption | lia); cbv) | (refine Br.mk (fun _ => ?_) (fun _ => ?_) <;> cbv) | (refine Need.mk ?_ ?_; rotate_left; cbv) | (refine RetThen.mk [] [] ?_; cbv))
      all_goals first | lia | (exfalso; lia) | trace_state
    | true =>
      have hra := radd_fn O f l hm hi (by omega) hid fun c hc => (hp c hc).2
      have hsf := fsame_fn O f (O.o addR f l) (by omega) (by omega) (fun c hc => (inF_c hi c hc).2)
      have hrf := rsameF_fn O f (O.o addR f l) (by omega) (by omega) (fun c hc => (inF_c hi c hc).2)
      have hrl : (addR f l).changes.length ≤ 1099511627776 ∧ (addR f l).subs.length ≤ 1099511627776 ∧ ∀ c ∈ (addR f l).changes, c.doc.length ≤ 1099511627776 := by
        rw [addR, if_pos hm]
        split
        · refine ⟨by rw [addF_len]; omega, by show f.subs.length ≤ _; omega, fun c hc => ?_⟩
          rcases List.mem_append.1 hc with h | h
          · exact (inF_c hi c h).2
          · have := (hid c h).2; omega
        · exact ⟨by omega, by omega, fun c hc => (inF_c hi c hc).2⟩
      obtain ⟨w, hw⟩ : ∃ w, w = O.o addR f l := ⟨_, rfl⟩
      have hrl2 : w.changes.length ≤ 1099511627776 ∧ w.subs.length ≤ 1099511627776 ∧ ∀ c ∈ w.changes, c.doc.length ≤ 1099511627776 := by rw [hw, O.h]; exact hrl
      rw [← hw] at had hra hsf hrf
      rw [hM, hm] at hmf
      rw [hE, feedErr_zero.2 hm] at hck
      have hsm := fun e c => lsame_fn O w w e c hrl2.1 hrl2.2.1 hrl2.2.2
      cases hg : mayF (addF f l) with
      | false =>
        obtain ⟨x1, x2⟩ := addE_no hm hg
        have hsm := hsm 1 1
        rw [show O.o lsm w 1 w 1 = true by rw [O.h]; exact lsm_iff.2 ⟨rfl, rfl⟩] at hsm
        rw [show O.o addE f l = 1 by rw [O.h]; exact x1] at had
        rw [show O.o addOk f l = false by rw [O.h]; exact addOk_no (by rw [x1]; decide)] at hra
        clear hp hlc hld hlf hi hid x1 x2 hrl hrl2 hw
        refine go (fn := Go.Proofs.Tryd.f9) (n := 68) (rv := [ResultVar.tmp 4]) rfl (by decide) rfl (by decide +kernel) rfl rfl (by simp) fun F L C => ?_
        cbv
        (repeat' first | (refine Named.i64 ?_ fun _ _ => ?_; (focus lia); cbv) | (refine CallThen.boolT (C.fn (lightF_fn O f hl)) ?_ ?_; (focus assumption); cbv) | (refine CallThen.boolF (C.fn (lightF_fn O f hl)) ?_ ?_; (focus assumption); cbv) | (refine CallThen.bool (C.fn (lightF_fn O f hl)) (fun _ => ?_) (fun _ => ?_) <;> cbv) | (refine CallThen.boolT (C.fn (lightC_fn O l hll)) ?_ ?_; (focus assumption); cbv) | (refine CallThen.boolF (C.fn (lightC_fn O l hll)) ?_ ?_; (focus assumption); cbv) | (refine CallThen.bool (C.fn (lightC_fn O l hll)) (fun _ => ?_) (fun _ => ?_) <;> cbv) | (refine CallThen.mk _ _ (C.fn (awakeF_fn O)) ?_; cbv) | (refine CallThen.mk _ _ (C.fn (had)) ?_; cbv) | (refine CallThen.mk _ _ (C.fn (hmf)) ?_; cbv) | (refine CallThen.mk _ _ (C.fn (hck)) ?_; cbv) | (refine CallThen.mk _ _ (C.fn (hra)) ?_; cbv) | (refine CallThen.mk _ _ (C.fn (hsm)) ?_; cbv) | (refine CallThen.bool (C.fn (hsf)) (fun _ => ?_) (fun _ => ?_) <;> cbv) | (refine CallThen.boolT (C.fn (hrf)) ?_ ?_; (focus assumption); cbv) | (refine CallThen.boolF (C.fn (hrf)) ?_ ?_; (focus assumption); cbv) | (refine CallThen.bool (C.fn (hrf)) (fun _ => ?_) (fun _ => ?_) <;> cbv) | (refine Named.len fun _ _ hq => ?_; (try simp only [List.length_append, List.length_take, List.length_drop, List.length_replicate, List.length_set] at hq); cbv) | (refine Named.mk fun _ _ => ?_; cbv) | (refine Br.t ?_ ?_; (focus first | assumption | lia); cbv) | (refine Br.f ?_ ?_; (focus first | assumption | lia); cbv) | (refine Br.mk (fun _ => ?_) (fun _ => ?_) <;> cbv) | (refine Need.mk ?_ ?_; rotate_left; cbv) | (refine RetThen.mk [] [] ?_; cbv))
        all_goals first | lia | (exfalso; lia) | trace_state
      | true =>
        obtain ⟨x1, x2⟩ := addE_ok hm hg
        have hsm := hsm 0 0
        rw [show O.o lsm w 0 w 0 = true by rw [O.h]; exact lsm_iff.2 ⟨rfl, rfl⟩] at hsm
        rw [show O.o addE f l = 0 by rw [O.h]; exact x1] at had
        rw [show O.o addOk f l = true by rw [O.h]; exact addOk_iff.2 x1] at hra
        clear hp hlc hld hlf hi hid x1 x2 hrl hrl2 hw
        refine go (fn := Go.Proofs.Tryd.f9) (n := 68) (rv := [ResultVar.tmp 4]) rfl (by decide) rfl (by decide +kernel) rfl rfl (by simp) fun F L C => ?_
        cbv
        (repeat' first | (refine Named.i64 ?_ fun _ _ => ?_; (focus lia); cbv) | (refine CallThen.boolT (C.fn (lightF_fn O f hl)) ?_ ?_; (focus assumption); cbv) | (refine CallThen.boolF (C.fn (lightF_fn O f hl)) ?_ ?_; (focus assumption); cbv) | (refine CallThen.bool (C.fn (lightF_fn O f hl)) (fun _ => ?_) (fun _ => ?_) <;> cbv) | (refine CallThen.boolT (C.fn (lightC_fn O l hll)) ?_ ?_; (focus assumption); cbv) | (refine CallThen.boolF (C.fn (lightC_fn O l hll)) ?_ ?_; (focus assumption); cbv) | (refine CallThen.bool (C.fn (lightC_fn O l hll)) (fun _ => ?_) (fun _ => ?_) <;> cbv) | (refine CallThen.mk _ _ (C.fn (awakeF_fn O)) ?_; cbv) | (refine CallThen.mk _ _ (C.fn (had)) ?_; cbv) | (refine CallThen.mk _ _ (C.fn (hmf)) ?_; cbv) | (refine CallThen.mk _ _ (C.fn (hck)) ?_; cbv) | (refine CallThen.mk _ _ (C.fn (hra)) ?_; cbv) | (refine CallThen.mk _ _ (C.fn (hsm)) ?_; cbv) | (refine CallThen.bool (C.fn (hsf)) (fun _ => ?_) (fun _ => ?_) <;> cbv) | (refine CallThen.boolT (C.fn (hrf)) ?_ ?_; (focus assumption); cbv) | (refine CallThen.boolF (C.fn (hrf)) ?_ ?_; (focus assumption); cbv) | (refine CallThen.bool (C.fn (hrf)) (fun _ => ?_) (fun _ => ?_) <;> cbv) | (refine Named.len fun _ _ hq => ?_; (try simp only [List.length_append, List.length_take, List.length_drop, List.length_replicate, List.length_set] at hq); cbv) | (refine Named.mk fun _ _ => ?_; cbv) | (refine Br.t ?_ ?_; (focus first | assumption | lia); cbv) | (refine Br.f ?_ ?_; (focus first | assumption | lia); cbv) | (refine Br.mk (fun _ => ?_) (fun _ => ?_) <;> cbv) | (refine Need.mk ?_ ?_; rotate_left; cbv) | (refine RetThen.mk [] [] ?_; cbv))
        all_goals first | lia | (exfalso; lia) | trace_state
  · clear hp
    refine go (fn := Go.Proofs.Tryd.f9) (n := 68) (rv := [ResultVar.tmp 4]) rfl (by decide) rfl (by decide +kernel) rfl rfl (by simp) fun F L C => ?_
    cbv
    (repeat' first | (refine Named.i64 ?_ fun _ _ => ?_; (focus lia); cbv) | (refine CallThen.boolT (C.fn (lightF_fn O f hl)) ?_ ?_; (focus assumption); cbv) | (refine CallThen.boolF (C.fn (lightF_fn O f hl)) ?_ ?_; (focus assumption); cbv) | (refine CallThen.bool (C.fn (lightF_fn O f hl)) (fun _ => ?_) (fun _ => ?_) <;> cbv) | (refine CallThen.boolT (C.fn (lightC_fn O l hll)) ?_ ?_; (focus assumption); cbv) | (refine CallThen.boolF (C.fn (lightC_fn O l hll)) ?_ ?_; (focus assumption); cbv) | (refine CallThen.bool (C.fn (lightC_fn O l hll)) (fun _ => ?_) (fun _ => ?_) <;> cbv) | (refine CallThen.mk _ _ (C.fn (awakeF_fn O)) ?_; cbv) | (refine Named.len fun _ _ hq => ?_; (try simp only [List.length_append, List.length_take, List.length_drop, List.length_replicate, List.length_set] at hq); cbv) | (refine Named.mk fun _ _ => ?_; cbv) | (refine Br.t ?_ ?_; (focus first | assumption | lia); cbv) | (refine Br.f ?_ ?_; (focus first | assumption | lia); cbv) | (refine Br.mk (fun _ => ?_) (fun _ => ?_) <;> cbv) | (refine Need.mk ?_ ?_; rotate_left; cbv) | (refine RetThen.mk [] [] ?_; cbv))
    all_goals first
      | lia
      | (exfalso; simp_all; done)
      | (exfalso; rw [← hL, ← hC] at hlf; exact hlf ⟨by assumption, by assumption⟩)
      | trace_state
end Go.Sym
