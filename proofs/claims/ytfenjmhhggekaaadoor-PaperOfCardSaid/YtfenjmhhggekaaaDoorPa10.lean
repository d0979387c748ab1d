/- What is dropped from a document. -/
import Derived.Test.YtfenjmhhggekaaaDoorPa8
import Derived.Test.YtfenjmhhggekaaaDoorPaE
set_option linter.all false
set_option linter.unusedVariables false
set_option linter.unusedSimpArgs false
namespace Go.Sym
open Go Go.Proofs.Tryd
set_option maxRecDepth 100000
theorem dropP_fn (O : Opq) (p : ByteArray) (f : Field) : Fn prog 70 [.agg f.enc, .ptr 0 0] [.box [.str p]] [.bool (O.o hasP p f)] [.box [.str p]] := by
  refine go (fn := Go.Proofs.Tryd.f70) (n := 6) (rv := [ResultVar.tmp 3]) rfl (by decide) rfl (by decide +kernel) rfl rfl (by simp) fun F L C => ?_
  cbv
  (repeat' first | (refine Named.i64 ?_ fun _ _ => ?_; (focus lia); cbv) | (refine Named.len fun _ _ hq => ?_; (try simp only [List.length_append, List.length_take, List.length_drop, List.length_replicate, List.length_set] at hq); cbv) | (refine Named.mk fun _ _ => ?_; cbv) | (refine Br.t ?_ ?_; (focus first | assumption | lia); cbv) | (refine Br.f ?_ ?_; (focus first | assumption | lia); cbv) | (refine Br.mk (fun _ => ?_) (fun _ => ?_) <;> cbv) | (refine Need.mk ?_ ?_; rotate_left; cbv) | (refine RetThen.mk [] [] ?_; cbv))
  all_goals (try subst_vars)
  all_goals (try simp only [O.h, natTo, natPred, emp] at *)
  all_goals (try subst_vars)
  all_goals (repeat' apply And.intro)
  all_goals first
    | exact True.intro
    | exact WkR.refl _
    | lia
    | (simp_all [hasP]; done)
    | (simp_all [hasP] <;> lia)
    | (grind [hasP])
    | skip
theorem idxB_fn (O : Opq) (g : Nat) (q : Field → Bool) (d : Doc) (p : ByteArray) (hg : ∀ f, Fn prog g [.agg f.enc, .ptr 0 0] [.box [.str p]] [.bool (O.o q f)] [.box [.str p]]) (hd : d.length ≤ 1099511627776) : Fn prog 73 [.sl true 0 false 6 (O.o Doc.enc d), .fn g [] [.ptr 0 0]] [.box [.str p]] [.int .i64 (O.o (findI q) d)] [.box [.str p]] := by
  have hlen : (O.o Doc.enc d).length = d.length := by rw [O.h, Doc.enc_len]
  obtain ⟨N, hN⟩ : ∃ N : Nat, N = d.length := ⟨_, rfl⟩
  refine go (fn := Go.Proofs.Tryd.f73) (n := 17) (rv := [ResultVar.tmp 4]) rfl (by decide) rfl (by decide +kernel) rfl rfl (by simp) fun F L C => ?_
  cbv
  (repeat' first | (refine Named.i64 ?_ fun _ _ => ?_; (focus lia); cbv) | (refine Named.len fun _ _ hq => ?_; (try simp only [List.length_append, List.length_take, List.length_drop, List.length_replicate, List.length_set] at hq); cbv) | (refine Named.mk fun _ _ => ?_; cbv) | (refine Br.t ?_ ?_; (focus first | assumption | lia); cbv) | (refine Br.f ?_ ?_; (focus first | assumption | lia); cbv) | (refine Br.mk (fun _ => ?_) (fun _ => ?_) <;> cbv) | (refine Need.mk ?_ ?_; rotate_left; cbv) | (refine RetThen.mk [] [] ?_; cbv))
  refine LoopThen.mk (C.loopAt (ι := Nat) [(4, 5), (8, 18)] (fun k => [(4, .int .i64 0), (8, .int .i64 k)]) (fun _ => [(0, .box [.str p])])
    (fun k => k ≤ d.length ∧ ∀ (j : Nat) y, j < k → d[j]? = some y → q y = false) (fun k => N - k) (by decide +kernel) (Start.mk 0 [] [] (by simp) (by cbv; (repeat' apply And.intro) <;> first | exact True.intro | exact WkR.refl _ | rfl | lia)) ?_)
  rintro k ⟨h1, h2⟩
  cbv
  (repeat' first | (refine Named.i64 ?_ fun _ _ => ?_; (focus lia); cbv) | (refine Ex.map O Field.enc rfl ?_ fun _ _ => ?_; rotate_left; cbv) | (refine CallThen.bool (C.fn (hg ⟨_, _, _, _, _, _⟩)) (fun _ => ?_) (fun _ => ?_) <;> cbv) | (refine Back.up [] [] ?_ ?_ fun _ _ => ?_; rotate_left 2; cbv) | (refine Named.len fun _ _ hq => ?_; (try simp only [List.length_append, List.length_take, List.length_drop, List.length_replicate, List.length_set] at hq); cbv) | (refine Named.mk fun _ _ => ?_; cbv) | (refine Br.t ?_ ?_; (focus first | assumption | lia); cbv) | (refine Br.f ?_ ?_; (focus first | assumption | lia); cbv) | (refine Br.mk (fun _ => ?_) (fun _ => ?_) <;> cbv) | (refine Need.mk ?_ ?_; rotate_left; cbv) | (refine RetThen.mk [] [] ?_; cbv))
  all_goals (try subst_vars)
  all_goals (try simp only [O.h, natTo, natPred, emp] at *)
  all_goals (try subst_vars)
  all_goals (repeat' apply And.intro)
  all_goals first
    | exact True.intro
    | exact WkR.refl _
    | lia
    | exact findI_at (k := k) (by assumption) (by assumption) h2
    | exact findI_none fun j y hj => h2 j y (by lia)
    | exact srch_step h2 (by assumption) (by assumption)
theorem deleteFunc_fn (O : Opq) (g : Nat) (q : Field → Bool) (d : Doc) (p : ByteArray) (hg : ∀ f, Fn prog g [.agg f.enc, .ptr 0 0] [.box [.str p]] [.bool (O.o q f)] [.box [.str p]]) (hd : d.length ≤ 1099511627) :
    Fn prog 69 [.ref 0, .fn g [] [.ptr 1 0]] [.arr 0 none 6 (O.o Doc.enc d), .box [.str p]] [.sl false 0 false 6 (O.o Doc.enc (O.o delF q d))] [.dead, .box [.str p]] := by
  have hlen : (O.o Doc.enc d).length = d.length := by rw [O.h, Doc.enc_len]
  obtain ⟨N, hN⟩ : ∃ N : Nat, N = d.length := ⟨_, rfl⟩
  have hf : O.o (findI q) d = findI q d := congrFun (O.h (findI q)) d
  have hge : -1 ≤ findI q d ∧ findI q d ≤ d.length := by
    have := List.findIdx_le_length (p := q) (xs := d)
    rw [findI]; split <;> omega
  refine go (fn := Go.Proofs.Tryd.f69) (n := 40) (rv := [ResultVar.tmp 4]) rfl (by decide) rfl (by decide +kernel) rfl rfl (by simp) fun F L C => ?_
  cbv
  (repeat' first | (refine Named.i64 ?_ fun _ _ => ?_; (focus lia); cbv) | (refine CallThen.mk _ _ (C.fn (idxB_fn O g q d p hg (by lia))) ?_; cbv) | (refine RetThen.mk [] [0] ?_; cbv) | (refine Named.len fun _ _ hq => ?_; (try simp only [List.length_append, List.length_take, List.length_drop, List.length_replicate, List.length_set] at hq); cbv) | (refine Named.mk fun _ _ => ?_; cbv) | (refine Br.t ?_ ?_; (focus first | assumption | lia); cbv) | (refine Br.f ?_ ?_; (focus first | assumption | lia); cbv) | (refine Br.mk (fun _ => ?_) (fun _ => ?_) <;> cbv) | (refine Need.mk ?_ ?_; rotate_left; cbv) | (refine RetThen.mk [] [] ?_; cbv))
  · rename_i h1 r hr
    rw [hf] at h1
    subst hr
    exact ⟨WkR.of_eq (by simp only [O.h]; rw [delF_none h1]), trivial⟩
  have hne : findI q d ≠ -1 := by rw [← hf]; assumption
  obtain ⟨k0, x0, e0, hx0, hq0, hn0⟩ := findI_first hne
  have hk0 : k0 < d.length := (List.getElem?_eq_some_iff.1 hx0).1
  obtain ⟨f1, f2⟩ := keptN_first hx0 hq0 hn0
  refine LoopThen.mk (C.loopAt (ι := Nat) [(5, 7), (16, 35)] (fun j => [(5, .int .i64 (O.o (keptI q d) j)), (6, .int .i64 j)]) (fun j => [(0, .arr 0 none 6 (O.o (delRows q d) j)), (1, .box [.str p])])
    (fun j => j ≤ d.length) (fun j => N - j) (by decide +kernel) (Start.mk (k0 + 1) [] [] (by lia) ?_) ?_)
  · obtain ⟨z, hz⟩ : ∃ z : Nat, z = k0 + 1 := ⟨_, rfl⟩
    rw [← hz]
    cbv
    refine ⟨WkR.of_eq ?_, ?_⟩
    · simp only [O.h]; rw [hz, f2]
    (repeat' apply And.intro) <;> first | exact True.intro | rfl | (simp only [O.h]; rw [hz, keptI, f1]; lia) | lia
  intro j h1
  have hrl : (O.o (delRows q d) j).length = d.length := by rw [O.h, delRows_len]
  have hkl := keptN_le q d j
  have hki : O.o (keptI q d) j = keptN q d j := by rw [O.h]; rfl
  by_cases hj : j < d.length
  · obtain ⟨x, hx⟩ : ∃ x, d[j]? = some x := ⟨d[j], by simp [hj]⟩
    obtain ⟨y, hy⟩ : ∃ y, d[keptN q d j]? = some y := ⟨d[keptN q d j]'(by omega), by simp⟩
    have r1 : (O.o (delRows q d) j)[j]? = some x.enc := by rw [O.h]; exact delRows_at (by omega) hx
    have r2 : (O.o (delRows q d) j)[keptN q d j]? = some y.enc := by rw [O.h]; exact delRows_at (Nat.le_refl _) hy
    cbv
    (repeat' first | (refine Named.i64 ?_ fun _ _ => ?_; (focus lia); cbv) | (refine Named.len fun _ _ hq => ?_; (try simp only [List.length_append, List.length_take, List.length_drop, List.length_replicate, List.length_set] at hq); cbv) | (refine Named.mk fun _ _ => ?_; cbv) | (refine Br.t ?_ ?_; (focus first | assumption | lia); cbv) | (refine Br.f ?_ ?_; (focus first | assumption | lia); cbv) | (refine Br.mk (fun _ => ?_) (fun _ => ?_) <;> cbv) | (refine Need.mk ?_ ?_; rotate_left; cbv) | (refine RetThen.mk [] [] ?_; cbv))
    · refine Ex.at (Field.enc x) ?_ ?_
      · rename_i k ek
        refine ⟨by lia, ?_⟩
        rw [show (Int.ofNat k).toNat = j by lia]
        exact r1
      cbv
      (repeat' first | (refine Named.i64 ?_ fun _ _ => ?_; (focus lia); cbv) | (refine CallThen.bool (C.fn (hg ⟨_, _, _, _, _, _⟩)) (fun _ => ?_) (fun _ => ?_) <;> cbv) | (refine Ex.at (Field.enc y) ?_ ?_; rotate_left; cbv) | (refine Back.up [] [] ?_ ?_ fun _ _ => ?_; rotate_left 2; cbv) | (refine Named.len fun _ _ hq => ?_; (try simp only [List.length_append, List.length_take, List.length_drop, List.length_replicate, List.length_set] at hq); cbv) | (refine Named.mk fun _ _ => ?_; cbv) | (refine Br.t ?_ ?_; (focus first | assumption | lia); cbv) | (refine Br.f ?_ ?_; (focus first | assumption | lia); cbv) | (refine Br.mk (fun _ => ?_) (fun _ => ?_) <;> cbv) | (refine Need.mk ?_ ?_; rotate_left; cbv) | (refine RetThen.mk [] [] ?_; cbv))
      all_goals try first
        | omega
        | (clear hy hx r1 r2; lia)
      · rename_i a1 a2 k' ek'
        subst ek'
        simp only [O.h] at *
        exact ⟨WkR.of_eq (delRows_drop hx (by assumption)), by rw [keptI, keptI, keptN_drop hx (by assumption)], by clear hy hx r1 r2; lia, trivial⟩
      · rename_i a1 a2 a3 a4 a5 a6 a7 a8 k' ek'
        subst ek'
        simp only [O.h] at *
        refine ⟨WkR.of_eq ?_, ?_, by clear hy hx r1 r2; lia, trivial⟩
        · rw [delRows_keep hx (by assumption), a4, a2]; rfl
        · rw [keptI, keptN_keep hx (by assumption), a6, keptI]; rfl
      · rename_i k' ek'
        refine ⟨by clear hy hx r1 r2; lia, ?_⟩
        rw [show (Int.ofNat k').toNat = keptN q d j by clear hy hx r1 r2; lia]
        exact r2
    all_goals (clear hy hx r1 r2; lia)
  · cbv
    (repeat' first | (refine Named.i64 ?_ fun _ _ => ?_; (focus lia); cbv) | (refine RetThen.mk [] [0] ?_; cbv) | (refine Named.len fun _ _ hq => ?_; (try simp only [List.length_append, List.length_take, List.length_drop, List.length_replicate, List.length_set] at hq); cbv) | (refine Named.mk fun _ _ => ?_; cbv) | (refine Br.t ?_ ?_; (focus first | assumption | lia); cbv) | (refine Br.f ?_ ?_; (focus first | assumption | lia); cbv) | (refine Br.mk (fun _ => ?_) (fun _ => ?_) <;> cbv) | (refine Need.mk ?_ ?_; rotate_left; cbv) | (refine RetThen.mk [] [] ?_; cbv))
    all_goals try first
      | lia
    have hjd : j = d.length := by lia
    rename_i lo elo n en r er hr m em s es
    have q1 : lo = keptN q d j := by lia
    have q2 : m = keptN q d j := by lia
    subst hjd
    refine ⟨WkR.of_eq ?_, trivial⟩
    simp only [O.h] at *
    rw [es, er, q1, q2, List.drop_zero, List.append_assoc, List.take_append_of_le_length (by rw [List.length_take, hrl]; omega), List.take_take, Nat.min_self]
    exact (delRows_end q d rfl).symm
theorem dropQ_fn (O : Opq) (p : ByteArray) (f : Field) : Fn prog 70 [.agg f.enc, .ptr 0 0] [.box [.str p]] [.bool (O.o (hasP p) f)] [.box [.str p]] := by
  have h := dropP_fn O p f
  rwa [show O.o hasP p f = O.o (hasP p) f by simp only [O.h]] at h
theorem drop_fn (O : Opq) (d : Doc) (p : ByteArray) (hd : d.length ≤ 1099511627) : Fn prog 22 [.sl false 0 false 6 (O.o Doc.enc d), .str p] [] [.sl false 0 false 6 (O.o Doc.enc (O.o dropR d p)), .int .i64 (O.o docErr d)] [] := by
  refine go (fn := Go.Proofs.Tryd.f22) (n := 14) (rv := [ResultVar.tmp 4, ResultVar.tmp 5]) rfl (by decide) rfl (by decide +kernel) rfl rfl (by simp) fun F L C => ?_
  cbv
  (repeat' first | (refine Named.i64 ?_ fun _ _ => ?_; (focus lia); cbv) | (refine CallThen.mk _ _ (C.fn (check_fn O d (by lia))) ?_; cbv) | (refine CallThen.mk _ _ (C.fn (clone_fn O d hd)) ?_; cbv) | (refine CallThen.mk _ _ (C.fn (deleteFunc_fn O _ _ d p (dropQ_fn O p) hd)) ?_; cbv) | (refine Named.len fun _ _ hq => ?_; (try simp only [List.length_append, List.length_take, List.length_drop, List.length_replicate, List.length_set] at hq); cbv) | (refine Named.mk fun _ _ => ?_; cbv) | (refine Br.t ?_ ?_; (focus first | assumption | lia); cbv) | (refine Br.f ?_ ?_; (focus first | assumption | lia); cbv) | (refine Br.mk (fun _ => ?_) (fun _ => ?_) <;> cbv) | (refine Need.mk ?_ ?_; rotate_left; cbv) | (refine RetThen.mk [] [] ?_; cbv))
  all_goals simp only [O.h, docErr_zero] at *
  · rename_i h; exact ⟨WkR.of_eq (by rw [dropR_ok h]), h, trivial⟩
  · exact ⟨by rw [dropR_bad (by assumption)]; rfl, trivial⟩
/-! below a path -/
theorem hasPre0_fn (O : Opq) (s p : ByteArray) : Fn prog 109 [.str s, .str p] [] [.bool (O.o hasPre s p)] [] := by
  refine go (fn := Go.Proofs.Tryd.f109) (n := 16) (rv := [ResultVar.tmp 4]) rfl (by decide) rfl (by decide +kernel) rfl rfl (by simp) fun F L C => ?_
  cbv
  (repeat' first | (refine Named.i64 ?_ fun _ _ => ?_; (focus lia); cbv) | (refine Named.len fun _ _ hq => ?_; (try simp only [List.length_append, List.length_take, List.length_drop, List.length_replicate, List.length_set] at hq); cbv) | (refine Named.mk fun _ _ => ?_; cbv) | (refine Br.t ?_ ?_; (focus first | assumption | lia); cbv) | (refine Br.f ?_ ?_; (focus first | assumption | lia); cbv) | (refine Br.mk (fun _ => ?_) (fun _ => ?_) <;> cbv) | (refine Need.mk ?_ ?_; rotate_left; cbv) | (refine RetThen.mk [] [] ?_; cbv))
  all_goals try lia
  all_goals (try subst_vars)
  all_goals simp only [O.h, hasPre] at *
  all_goals refine ⟨?_, trivial⟩
  · rename_i h1 h2
    rw [decide_eq_true_eq]; exact ⟨by lia, h2.symm⟩
  · rename_i h1 h2
    rw [decide_eq_false_iff_not]; exact fun h => h2 h.2
  · rw [decide_eq_false_iff_not]; lia
theorem hasPrefix_fn (O : Opq) (s p : ByteArray) : Fn prog 72 [.str s, .str p] [] [.bool (O.o hasPre s p)] [] := by
  refine go (fn := Go.Proofs.Tryd.f72) (n := 6) (rv := [ResultVar.tmp 4]) rfl (by decide) rfl (by decide +kernel) rfl rfl (by simp) fun F L C => ?_
  cbv
  (repeat' first | (refine Named.i64 ?_ fun _ _ => ?_; (focus lia); cbv) | (refine CallThen.mk _ _ (C.fn (hasPre0_fn O _ _)) ?_; cbv) | (refine Named.len fun _ _ hq => ?_; (try simp only [List.length_append, List.length_take, List.length_drop, List.length_replicate, List.length_set] at hq); cbv) | (refine Named.mk fun _ _ => ?_; cbv) | (refine Br.t ?_ ?_; (focus first | assumption | lia); cbv) | (refine Br.f ?_ ?_; (focus first | assumption | lia); cbv) | (refine Br.mk (fun _ => ?_) (fun _ => ?_) <;> cbv) | (refine Need.mk ?_ ?_; rotate_left; cbv) | (refine RetThen.mk [] [] ?_; cbv))
theorem underP_fn (O : Opq) (p : ByteArray) (hp : p.size ≤ 1099511627776) (f : Field) : Fn prog 71 [.agg f.enc, .ptr 0 0] [.box [.str p]] [.bool (O.o (notUnder p) f)] [.box [.str p]] := by
  have hd : dot.size = 1 := rfl
  refine go (fn := Go.Proofs.Tryd.f71) (n := 14) (rv := [ResultVar.tmp 3]) rfl (by decide) rfl (by decide +kernel) rfl rfl (by simp) fun F L C => ?_
  cbv
  (repeat' first | (refine Named.i64 ?_ fun _ _ => ?_; (focus lia); cbv) | (refine CallThen.bool (C.fn (hasPrefix_fn O _ _)) (fun _ => ?_) (fun _ => ?_) <;> cbv) | (refine Named.len fun _ _ hq => ?_; (try simp only [List.length_append, List.length_take, List.length_drop, List.length_replicate, List.length_set] at hq); cbv) | (refine Named.mk fun _ _ => ?_; cbv) | (refine Br.t ?_ ?_; (focus first | assumption | lia); cbv) | (refine Br.f ?_ ?_; (focus first | assumption | lia); cbv) | (refine Br.mk (fun _ => ?_) (fun _ => ?_) <;> cbv) | (refine Need.mk ?_ ?_; rotate_left; cbv) | (refine RetThen.mk [] [] ?_; cbv))
  all_goals try first
    | (show p.size + dot.size ≤ _; lia)
  all_goals refine ⟨?_, trivial⟩
  all_goals simp only [O.h, notUnder, isUnder] at *
  · simp_all
  · rename_i h1 s hs h2
    subst hs
    have h2 : hasPre f.path (p ++ dot) = true := h2
    simp [h2]
  · rename_i h1 s hs h2
    subst hs
    have h2 : hasPre f.path (p ++ dot) = false := h2
    simp [h1, h2]
theorem under_fn (O : Opq) (d : Doc) (p : ByteArray) (hd : d.length ≤ 1099511627) (hp : p.size ≤ 1099511627776) : Fn prog 23 [.sl false 0 false 6 (O.o Doc.enc d), .str p] [] [.sl false 0 false 6 (O.o Doc.enc (O.o underR d p)), .int .i64 (O.o docErr d)] [] := by
  refine go (fn := Go.Proofs.Tryd.f23) (n := 14) (rv := [ResultVar.tmp 4, ResultVar.tmp 5]) rfl (by decide) rfl (by decide +kernel) rfl rfl (by simp) fun F L C => ?_
  cbv
  (repeat' first | (refine Named.i64 ?_ fun _ _ => ?_; (focus lia); cbv) | (refine CallThen.mk _ _ (C.fn (check_fn O d (by lia))) ?_; cbv) | (refine CallThen.mk _ _ (C.fn (clone_fn O d hd)) ?_; cbv) | (refine CallThen.mk _ _ (C.fn (deleteFunc_fn O _ _ d p (underP_fn O p hp) hd)) ?_; cbv) | (refine Named.len fun _ _ hq => ?_; (try simp only [List.length_append, List.length_take, List.length_drop, List.length_replicate, List.length_set] at hq); cbv) | (refine Named.mk fun _ _ => ?_; cbv) | (refine Br.t ?_ ?_; (focus first | assumption | lia); cbv) | (refine Br.f ?_ ?_; (focus first | assumption | lia); cbv) | (refine Br.mk (fun _ => ?_) (fun _ => ?_) <;> cbv) | (refine Need.mk ?_ ?_; rotate_left; cbv) | (refine RetThen.mk [] [] ?_; cbv))
  all_goals simp only [O.h, docErr_zero] at *
  · rename_i h; exact ⟨WkR.of_eq (by rw [underR_ok h]), h, trivial⟩
  · exact ⟨by rw [underR_bad (by assumption)]; rfl, trivial⟩
end Go.Sym
