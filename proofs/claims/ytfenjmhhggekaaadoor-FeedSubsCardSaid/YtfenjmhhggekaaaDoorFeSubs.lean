/- The law FeedSubs. -/
import Derived.Test.YtfenjmhhggekaaaDoorFe15
set_option linter.all false
set_option linter.unusedVariables false
set_option linter.unusedSimpArgs false
namespace Go.Sym
open Go Go.Proofs.Tryd
set_option maxRecDepth 100000
theorem may_range {g : Feed} (h : mayF g = true) : g.changes.length ≤ 1099511627776 ∧ g.subs.length ≤ 1099511627776 := by
  obtain ⟨q1, q2, q3, q4, q5⟩ := (mayF_iff.1 h).1
  exact ⟨by omega, by omega⟩
theorem mem_of_in {f g : Feed} (h : g.changes = f.changes ∨ g.changes = []) : ∀ c ∈ g.changes, c ∈ f.changes := fun c hc => by
  rcases h with h | h <;> rw [h] at hc
  · exact hc
  · cases hc
theorem zero_wk {O : Opq} : WkA (.agg (zeroF.enc O)) (.agg [.int .i64 0, .int .i64 0, .nils, .nils]) :=
  .agg' (.cons (.refl _) (.cons (.refl _) (.cons (.wk (by rw [show O.o (Chs.enc O) zeroF.changes = [] by rw [O.h]; rfl]; exact .nil _ _)) (.cons (.wk (by rw [show O.o Subs.enc zeroF.subs = [] by rw [O.h]; rfl]; exact .nil _ _)) .nil))))
set_option maxHeartbeats 8000000 in
theorem feedSubs_fn (O : Opq) (f : Feed) (n : ByteArray) (a : Int) (hl : f.changes.length ≤ 9223372036854775807) (hp : ∀ c ∈ f.changes, inC c ∧ ∀ x ∈ c.doc, x.path.size ≤ 9223372036854775807) (hn : n.size ≤ 9223372036854775807) :
    Fn prog 12 [.agg (f.enc O), .str n, .int .i64 a] [] [.bool true] [] := by
  have hL : O.o lightF f = lightF f := by rw [O.h]
  by_cases hlf : lightF f = true ∧ n.size ≤ 200
  · obtain ⟨hlf, hn2⟩ := hlf
    rw [hlf] at hL
    have hlf := of_decide_eq_true hlf
    have hlc := lightC_iff.1 hlf.1
    have hi : inF f := ⟨by omega, by omega, fun c hc => ⟨(hp c hc).1, by have := hlc.2 c hc; omega⟩⟩
    have hcd : ∀ c ∈ f.changes, c.doc.length ≤ 1099511627776 ∧ ∀ x ∈ c.doc, x.path.size ≤ 9223372036854775807 := fun c hc => ⟨by have := hlc.2 c hc; omega, (hp c hc).2⟩
    have hmf := rmayF_fn O f (by omega) (by omega) hcd
    have h1 := open_fn O f n a hi
    have h2 := ack_fn O f n a hi
    have h3 := close_fn O f n hi
    have h4 := ftrim_fn O f a hi
    have hM : O.o mayF f = mayF f := by rw [O.h]
    cases hm : mayF f with
    | false =>
      rw [hM, hm] at hmf
      obtain ⟨x1, x2⟩ := openE_bad (n := n) (a := a) hm
      obtain ⟨x3, x4⟩ := ackE_bad (n := n) (a := a) hm
      obtain ⟨x5, x6⟩ := closeE_bad (n := n) hm
      rw [show O.o openR f n a = zeroF by rw [O.h]; exact x2, show O.o openE f n a = 1 by rw [O.h]; exact x1] at h1
      rw [show O.o ackR f n a = zeroF by rw [O.h]; exact x4, show O.o ackE f n a = 1 by rw [O.h]; exact x3] at h2
      rw [show O.o closeR f n = zeroF by rw [O.h]; exact x6, show O.o closeE f n = 1 by rw [O.h]; exact x5] at h3
      rw [show O.o trimR f a = zeroF by rw [O.h, trimR, hm]; rfl, show O.o feedErr f = 1 by rw [O.h]; exact feedErr_one hm] at h4
      have hsm := lsame_fn O zeroF zeroF 1 1 (by simp [zeroF]) (by simp [zeroF]) (by simp [zeroF])
      rw [show O.o lsm zeroF 1 zeroF 1 = true by rw [O.h]; exact lsm_iff.2 ⟨rfl, rfl⟩] at hsm
      have hsm2 := hsm.wkA (args' := [.agg (zeroF.enc O), .int .i64 1, .agg [.int .i64 0, .int .i64 0, .nils, .nils], .int .i64 1]) (.cons (.refl _) (.cons (.refl _) (.cons zero_wk (.refl _))))
      clear hp hlc hlf hi hcd hsm x1 x2 x3 x4 x5 x6
      refine go (fn := Go.Proofs.Tryd.f12) (n := 160) (rv := [ResultVar.tmp 6]) rfl (by decide) rfl (by decide +kernel) rfl rfl (by simp) fun F L C => ?_
      cbv
      (repeat' first | (refine Named.i64 ?_ fun _ _ => ?_; (focus lia); cbv) | (refine CallThen.boolT (C.fn (lightF_fn O f hl)) ?_ ?_; (focus assumption); cbv) | (refine CallThen.boolF (C.fn (lightF_fn O f hl)) ?_ ?_; (focus assumption); cbv) | (refine CallThen.bool (C.fn (lightF_fn O f hl)) (fun _ => ?_) (fun _ => ?_) <;> cbv) | (refine CallThen.mk _ _ (C.fn (awakeF_fn O)) ?_; cbv) | (refine CallThen.mk _ _ (C.fn (h1)) ?_; cbv) | (refine CallThen.mk _ _ (C.fn (h2)) ?_; cbv) | (refine CallThen.mk _ _ (C.fn (h3)) ?_; cbv) | (refine CallThen.mk _ _ (C.fn (h4)) ?_; cbv) | (refine CallThen.mk _ _ (C.fn (hmf)) ?_; cbv) | (refine CallThen.mk _ _ (C.fn (hsm2)) ?_; cbv) | (refine Named.len fun _ _ hq => ?_; (try simp only [List.length_append, List.length_take, List.length_drop, List.length_replicate, List.length_set] at hq); cbv) | (refine Named.mk fun _ _ => ?_; cbv) | (refine Br.t ?_ ?_; (focus first | assumption | lia); cbv) | (refine Br.f ?_ ?_; (focus first | assumption | lia); cbv) | (refine Br.mk (fun _ => ?_) (fun _ => ?_) <;> cbv) | (refine Need.mk ?_ ?_; rotate_left; cbv) | (refine RetThen.mk [] [] ?_; cbv))
      all_goals first | lia | (exfalso; lia) | trace_state
    | true =>
      rw [hM, hm] at hmf
      have r1 := ropen_fn O f n a hm
      have r2 := rack_fn O f n a hm
      have r3 := rclose_fn O f n hm
      have r4 := rtrim_fn O f a hm (by omega)
      have hA : mayF (O.o openR f n a) = true ∧ ∀ c ∈ (O.o openR f n a).changes, c ∈ f.changes := by simp only [O.h]; exact ⟨openR_may n a hm, mem_of_in openR_in⟩
      have hB : mayF (O.o ackR f n a) = true ∧ ∀ c ∈ (O.o ackR f n a).changes, c ∈ f.changes := by simp only [O.h]; exact ⟨ackR_may n a hm, mem_of_in ackR_in⟩
      have hC : mayF (O.o closeR f n) = true ∧ ∀ c ∈ (O.o closeR f n).changes, c ∈ f.changes := by simp only [O.h]; exact ⟨closeR_may n hm, mem_of_in closeR_in⟩
      have hD : mayF (O.o trimR f a) = true ∧ ∀ c ∈ (O.o trimR f a).changes, c ∈ f.changes := by simp only [O.h]; exact ⟨trimR_may a hm, trimR_in⟩
      rw [show O.o feedErr f = 0 by rw [O.h]; exact feedErr_zero.2 hm] at h4
      obtain ⟨A, eA⟩ : ∃ A, A = O.o openR f n a := ⟨_, rfl⟩
      obtain ⟨B, eB⟩ : ∃ A, A = O.o ackR f n a := ⟨_, rfl⟩
      obtain ⟨G, eG⟩ : ∃ A, A = O.o closeR f n := ⟨_, rfl⟩
      obtain ⟨D, eD⟩ : ∃ A, A = O.o trimR f a := ⟨_, rfl⟩
      obtain ⟨p, ep⟩ : ∃ A, A = O.o openE f n a := ⟨_, rfl⟩
      obtain ⟨q, eq⟩ : ∃ A, A = O.o ackE f n a := ⟨_, rfl⟩
      obtain ⟨r, er⟩ : ∃ A, A = O.o closeE f n := ⟨_, rfl⟩
      rw [← eA] at hA h1 r1
      rw [← eB] at hB h2 r2
      rw [← eG] at hC h3 r3
      rw [← eD] at hD h4 r4
      rw [← ep] at h1 r1
      rw [← eq] at h2 r2
      rw [← er] at h3 r3
      have sm : ∀ (g : Feed) (e : Int), (mayF g = true ∧ ∀ c ∈ g.changes, c ∈ f.changes) → Fn prog 48 [.agg (g.enc O), .int .i64 e, .agg (g.enc O), .int .i64 e] [] [.bool true] [] := fun g e hg => by
        have h := lsame_fn O g g e e (may_range hg.1).1 (may_range hg.1).2 fun c hc => (hcd c (hg.2 c hc)).1
        rwa [show O.o lsm g e g e = true by rw [O.h]; exact lsm_iff.2 ⟨rfl, rfl⟩] at h
      have my : ∀ (g : Feed), (mayF g = true ∧ ∀ c ∈ g.changes, c ∈ f.changes) → Fn prog 35 [.agg (g.enc O)] [] [.bool true] [] := fun g hg => by
        have h := rmayF_fn O g (may_range hg.1).1 (may_range hg.1).2 fun c hc => hcd c (hg.2 c hc)
        rwa [show O.o mayF g = true by rw [O.h]; exact hg.1] at h
      have s1 := sm A p hA
      have s2 := sm B q hB
      have s3 := sm G r hC
      have s4 := sm D 0 hD
      have m1 := my A hA
      have m2 := my B hB
      have m3 := my G hC
      have m4 := my D hD
      have hDb : ∀ s ∈ D.subs, D.base ≤ s.pos := fun s hs => (mayF_sub hD.1 s hs).2.1
      have hDl := (may_range hD.1).2
      have hDs := Subs.len O D.subs
      obtain ⟨N, hN⟩ : ∃ N : Nat, N = D.subs.length := ⟨_, rfl⟩
      obtain ⟨z, hz⟩ : ∃ z : Nat, z = 0 := ⟨_, rfl⟩
      clear hp hlc hlf hi hcd hA hB hC hD eA eB eG eD ep eq er sm my
      refine go (fn := Go.Proofs.Tryd.f12) (n := 160) (rv := [ResultVar.tmp 6]) rfl (by decide) rfl (by decide +kernel) rfl rfl (by simp) fun F L C => ?_
      cbv
      (repeat' first | (refine Named.i64 ?_ fun _ _ => ?_; (focus lia); cbv) | (refine CallThen.boolT (C.fn (lightF_fn O f hl)) ?_ ?_; (focus assumption); cbv) | (refine CallThen.boolF (C.fn (lightF_fn O f hl)) ?_ ?_; (focus assumption); cbv) | (refine CallThen.bool (C.fn (lightF_fn O f hl)) (fun _ => ?_) (fun _ => ?_) <;> cbv) | (refine CallThen.mk _ _ (C.fn (awakeF_fn O)) ?_; cbv) | (refine CallThen.mk _ _ (C.fn (h1)) ?_; cbv) | (refine CallThen.mk _ _ (C.fn (h2)) ?_; cbv) | (refine CallThen.mk _ _ (C.fn (h3)) ?_; cbv) | (refine CallThen.mk _ _ (C.fn (h4)) ?_; cbv) | (refine CallThen.mk _ _ (C.fn (hmf)) ?_; cbv) | (refine CallThen.mk _ _ (C.fn (r1)) ?_; cbv) | (refine CallThen.mk _ _ (C.fn (r2)) ?_; cbv) | (refine CallThen.mk _ _ (C.fn (r3)) ?_; cbv) | (refine CallThen.mk _ _ (C.fn (r4)) ?_; cbv) | (refine CallThen.mk _ _ (C.fn (s1)) ?_; cbv) | (refine CallThen.mk _ _ (C.fn (s2)) ?_; cbv) | (refine CallThen.mk _ _ (C.fn (s3)) ?_; cbv) | (refine CallThen.mk _ _ (C.fn (s4)) ?_; cbv) | (refine Named.len fun _ _ hq => ?_; (try simp only [List.length_append, List.length_take, List.length_drop, List.length_replicate, List.length_set] at hq); cbv) | (refine Named.mk fun _ _ => ?_; cbv) | (refine Br.t ?_ ?_; (focus first | assumption | lia); cbv) | (refine Br.f ?_ ?_; (focus first | assumption | lia); cbv) | (refine Br.mk (fun _ => ?_) (fun _ => ?_) <;> cbv) | (refine Need.mk ?_ ?_; rotate_left; cbv) | (refine RetThen.mk [] [] ?_; cbv))
      all_goals try lia
      refine LoopThen.mk (C.loopAt (ι := Nat) [(6, 6), (18, 18), (130, 145)] (fun k => [(6, .bool false), (18, .int .i64 k)]) (fun _ => [(320, .box (f.enc O)), (576, .box (A.enc O)), (704, .box (B.enc O)), (832, .box (G.enc O)), (960, .box (D.enc O)), (1152, .box (G.enc O))])
        (fun k => k ≤ D.subs.length) (fun k => N - k) (by decide +kernel) (Start.mk z [] [] (by lia) (by cbv; (repeat' apply And.intro) <;> first | exact True.intro | exact WkR.refl _ | rfl | lia)) ?_)
      intro k g
      cbv
      by_cases hk : k < D.subs.length
      · obtain ⟨x, hx⟩ : ∃ x, D.subs[k]? = some x := ⟨D.subs[k], by simp [hk]⟩
        have hb := hDb x (List.mem_of_getElem? hx)
        (repeat' first | (refine Named.i64 ?_ fun _ _ => ?_; (focus lia); cbv) | (refine Ex.known O Sub.enc rfl hx ?_ ?_; (focus lia); cbv) | (refine Back.up [] [] ?_ ?_ fun _ _ => ?_; rotate_left 2; cbv; refine And.intro ?_ ?_) | (refine Named.len fun _ _ hq => ?_; (try simp only [List.length_append, List.length_take, List.length_drop, List.length_replicate, List.length_set] at hq); cbv) | (refine Named.mk fun _ _ => ?_; cbv) | (refine Br.t ?_ ?_; (focus first | assumption | lia); cbv) | (refine Br.f ?_ ?_; (focus first | assumption | lia); cbv) | (refine Br.mk (fun _ => ?_) (fun _ => ?_) <;> cbv) | (refine Need.mk ?_ ?_; rotate_left; cbv) | (refine RetThen.mk [] [] ?_; cbv))
        all_goals (repeat' apply And.intro)
        all_goals first
          | exact True.intro
          | exact WkR.refl _
          | (clear hx hDb; lia)
          | trace_state
      · (repeat' first | (refine Named.i64 ?_ fun _ _ => ?_; (focus lia); cbv) | (refine CallThen.mk _ _ (C.fn (m1)) ?_; cbv) | (refine CallThen.mk _ _ (C.fn (m2)) ?_; cbv) | (refine CallThen.mk _ _ (C.fn (m3)) ?_; cbv) | (refine CallThen.mk _ _ (C.fn (m4)) ?_; cbv) | (refine CallThen.mk _ _ (C.fn (awakeF_fn O)) ?_; cbv) | (refine Named.len fun _ _ hq => ?_; (try simp only [List.length_append, List.length_take, List.length_drop, List.length_replicate, List.length_set] at hq); cbv) | (refine Named.mk fun _ _ => ?_; cbv) | (refine Br.t ?_ ?_; (focus first | assumption | lia); cbv) | (refine Br.f ?_ ?_; (focus first | assumption | lia); cbv) | (refine Br.mk (fun _ => ?_) (fun _ => ?_) <;> cbv) | (refine Need.mk ?_ ?_; rotate_left; cbv) | (refine RetThen.mk [] [] ?_; cbv))
        all_goals first | lia | trace_state
  · clear hp
    refine go (fn := Go.Proofs.Tryd.f12) (n := 160) (rv := [ResultVar.tmp 6]) rfl (by decide) rfl (by decide +kernel) rfl rfl (by simp) fun F L C => ?_
    cbv
    (repeat' first | (refine Named.i64 ?_ fun _ _ => ?_; (focus lia); cbv) | (refine CallThen.boolT (C.fn (lightF_fn O f hl)) ?_ ?_; (focus assumption); cbv) | (refine CallThen.boolF (C.fn (lightF_fn O f hl)) ?_ ?_; (focus assumption); cbv) | (refine CallThen.bool (C.fn (lightF_fn O f hl)) (fun _ => ?_) (fun _ => ?_) <;> cbv) | (refine CallThen.mk _ _ (C.fn (awakeF_fn O)) ?_; cbv) | (refine Named.len fun _ _ hq => ?_; (try simp only [List.length_append, List.length_take, List.length_drop, List.length_replicate, List.length_set] at hq); cbv) | (refine Named.mk fun _ _ => ?_; cbv) | (refine Br.t ?_ ?_; (focus first | assumption | lia); cbv) | (refine Br.f ?_ ?_; (focus first | assumption | lia); cbv) | (refine Br.mk (fun _ => ?_) (fun _ => ?_) <;> cbv) | (refine Need.mk ?_ ?_; rotate_left; cbv) | (refine RetThen.mk [] [] ?_; cbv))
    all_goals first
      | lia
      | (exfalso; simp_all; done)
      | (exfalso; rw [← hL] at hlf; exact hlf ⟨by assumption, by lia⟩)
      | trace_state
end Go.Sym
