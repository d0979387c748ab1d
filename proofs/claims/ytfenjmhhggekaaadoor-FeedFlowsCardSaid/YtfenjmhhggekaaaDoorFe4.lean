/- Changes and subscriptions of their own memory. -/
import Derived.Test.YtfenjmhhggekaaaDoorPa8
import Derived.Test.YtfenjmhhggekaaaDoorFeA
import Derived.Test.YtfenjmhhggekaaaDoorSymJoined3
set_option linter.all false
set_option linter.unusedVariables false
set_option linter.unusedSimpArgs false
namespace Go.Sym
open Go Go.Proofs.Tryd
set_option maxRecDepth 100000
theorem cloneW_fn (O : Opq) (d : Doc) (hd : d.length ≤ 1099511627) : Fn prog 67 [.sl false 0 false 6 (O.o Doc.enc d)] [] [.sl false 0 false 6 (O.o Doc.enc d)] [] := by
  have hlen : (O.o Doc.enc d).length = d.length := by rw [O.h, Doc.enc_len]
  refine .inl (Fn.nilOr (pre := []) (post := []) (fun h0 => ?_) ?_)
  · refine goB (fn := Go.Proofs.Tryd.f67) (n := 7) (rv := [ResultVar.tmp 2]) rfl (by decide) rfl (by decide +kernel) rfl rfl (by simp) fun F L C => ?_
    cbv
    (repeat' first | (refine Named.i64 ?_ fun _ _ => ?_; (focus lia); cbv) | (refine RetThen.mk [] [] ?_; cbv) | (refine Named.len fun _ _ hq => ?_; (try simp only [List.length_append, List.length_take, List.length_drop, List.length_replicate, List.length_set] at hq); cbv) | (refine Named.mk fun _ _ => ?_; cbv) | (refine Br.t ?_ ?_; (focus first | assumption | lia); cbv) | (refine Br.f ?_ ?_; (focus first | assumption | lia); cbv) | (refine Br.mk (fun _ => ?_) (fun _ => ?_) <;> cbv) | (refine Need.mk ?_ ?_; rotate_left; cbv) | (refine RetThen.mk [] [] ?_; cbv))
    all_goals exact ⟨h0, trivial⟩
  · refine goB (fn := Go.Proofs.Tryd.f67) (n := 7) (rv := [ResultVar.tmp 2]) rfl (by decide) rfl (by decide +kernel) rfl rfl (by simp) fun F L C => ?_
    cbv
    (repeat' first | (refine Named.i64 ?_ fun _ _ => ?_; (focus lia); cbv) | (fail) | (refine RetThen.mk [] [576] ?_; cbv) | (refine Named.len fun _ _ hq => ?_; (try simp only [List.length_append, List.length_take, List.length_drop, List.length_replicate, List.length_set] at hq); cbv) | (refine Named.mk fun _ _ => ?_; cbv) | (refine Br.t ?_ ?_; (focus first | assumption | lia); cbv) | (refine Br.f ?_ ?_; (focus first | assumption | lia); cbv) | (refine Br.mk (fun _ => ?_) (fun _ => ?_) <;> cbv) | (refine Need.mk ?_ ?_; rotate_left; cbv) | (refine RetThen.mk [] [] ?_; cbv))
    · refine ⟨WkR.of_eq ?_, trivial⟩
      clear hlen
      subst_vars
      rfl
    · have : ([] : List (List PV)).length = 0 := rfl
      lia
theorem cloneC_fn (O : Opq) (d : List Change) (hd : d.length ≤ 1099511627) : Fn prog 112 [.sl true 0 false 4 (O.o (Chs.enc O) d)] [] [.ref 0] [.arr 0 none 4 (O.o (Chs.enc O) d)] := by
  have hlen := Chs.len O d
  refine .inl (Fn.nilOr (pre := []) (post := []) (fun h0 => ?_) ?_)
  · refine goB (fn := Go.Proofs.Tryd.f112) (n := 7) (rv := [ResultVar.tmp 2]) rfl (by decide) rfl (by decide +kernel) rfl rfl (by simp) fun F L C => ?_
    cbv
    (repeat' first | (refine Named.i64 ?_ fun _ _ => ?_; (focus lia); cbv) | (refine RetThen.mk [(0, .nil 4)] [] ?_; cbv) | (refine Named.len fun _ _ hq => ?_; (try simp only [List.length_append, List.length_take, List.length_drop, List.length_replicate, List.length_set] at hq); cbv) | (refine Named.mk fun _ _ => ?_; cbv) | (refine Br.t ?_ ?_; (focus first | assumption | lia); cbv) | (refine Br.f ?_ ?_; (focus first | assumption | lia); cbv) | (refine Br.mk (fun _ => ?_) (fun _ => ?_) <;> cbv) | (refine Need.mk ?_ ?_; rotate_left; cbv) | (refine RetThen.mk [] [] ?_; cbv))
    all_goals exact ⟨h0, trivial⟩
  · refine goB (fn := Go.Proofs.Tryd.f112) (n := 7) (rv := [ResultVar.tmp 2]) rfl (by decide) rfl (by decide +kernel) rfl rfl (by simp) fun F L C => ?_
    cbv
    (repeat' first | (refine Named.i64 ?_ fun _ _ => ?_; (focus lia); cbv) | (refine RetThen.mk [(0, .loc 576)] [] ?_; cbv) | (refine Named.len fun _ _ hq => ?_; (try simp only [List.length_append, List.length_take, List.length_drop, List.length_replicate, List.length_set] at hq); cbv) | (refine Named.mk fun _ _ => ?_; cbv) | (refine Br.t ?_ ?_; (focus first | assumption | lia); cbv) | (refine Br.f ?_ ?_; (focus first | assumption | lia); cbv) | (refine Br.mk (fun _ => ?_) (fun _ => ?_) <;> cbv) | (refine Need.mk ?_ ?_; rotate_left; cbv) | (refine RetThen.mk [] [] ?_; cbv))
    · rename_i r hr
      subst hr
      exact ⟨WkR.of_eq rfl, trivial⟩
    · have : ([] : List (List PV)).length = 0 := rfl
      lia
theorem cloneS_fn (O : Opq) (d : List Sub) (hd : d.length ≤ 1099511627) : Fn prog 116 [.sl false 0 false 2 (O.o Subs.enc d)] [] [.ref 0] [.arr 0 none 2 (O.o Subs.enc d)] := by
  have hlen := Subs.len O d
  refine .inl (Fn.nilOr (pre := []) (post := []) (fun h0 => ?_) ?_)
  · refine goB (fn := Go.Proofs.Tryd.f116) (n := 7) (rv := [ResultVar.tmp 2]) rfl (by decide) rfl (by decide +kernel) rfl rfl (by simp) fun F L C => ?_
    cbv
    (repeat' first | (refine Named.i64 ?_ fun _ _ => ?_; (focus lia); cbv) | (refine RetThen.mk [(0, .nil 2)] [] ?_; cbv) | (refine Named.len fun _ _ hq => ?_; (try simp only [List.length_append, List.length_take, List.length_drop, List.length_replicate, List.length_set] at hq); cbv) | (refine Named.mk fun _ _ => ?_; cbv) | (refine Br.t ?_ ?_; (focus first | assumption | lia); cbv) | (refine Br.f ?_ ?_; (focus first | assumption | lia); cbv) | (refine Br.mk (fun _ => ?_) (fun _ => ?_) <;> cbv) | (refine Need.mk ?_ ?_; rotate_left; cbv) | (refine RetThen.mk [] [] ?_; cbv))
    all_goals exact ⟨h0, trivial⟩
  · refine goB (fn := Go.Proofs.Tryd.f116) (n := 7) (rv := [ResultVar.tmp 2]) rfl (by decide) rfl (by decide +kernel) rfl rfl (by simp) fun F L C => ?_
    cbv
    (repeat' first | (refine Named.i64 ?_ fun _ _ => ?_; (focus lia); cbv) | (refine RetThen.mk [(0, .loc 576)] [] ?_; cbv) | (refine Named.len fun _ _ hq => ?_; (try simp only [List.length_append, List.length_take, List.length_drop, List.length_replicate, List.length_set] at hq); cbv) | (refine Named.mk fun _ _ => ?_; cbv) | (refine Br.t ?_ ?_; (focus first | assumption | lia); cbv) | (refine Br.f ?_ ?_; (focus first | assumption | lia); cbv) | (refine Br.mk (fun _ => ?_) (fun _ => ?_) <;> cbv) | (refine Need.mk ?_ ?_; rotate_left; cbv) | (refine RetThen.mk [] [] ?_; cbv))
    · rename_i r hr
      subst hr
      exact ⟨WkR.of_eq rfl, trivial⟩
    · have : ([] : List (List PV)).length = 0 := rfl
      lia
theorem chs_set (O : Opq) {l : List Change} {k : Nat} {x : Change} (hx : l[k]? = some x) : (O.o (Chs.enc O) l).set k (Change.enc O x) = O.o (Chs.enc O) l := by
  obtain ⟨hk, rfl⟩ := List.getElem?_eq_some_iff.1 hx
  simp only [O.h]
  rw [Chs.enc, ← List.map_set, List.set_getElem_self]
set_option maxHeartbeats 4000000 in
theorem changesB_fn (O : Opq) (l : List Change) (hl : l.length ≤ 1099511627) (hd : ∀ c ∈ l, c.doc.length ≤ 1099511627) : Fn prog 76 [.sl true 0 false 4 (O.o (Chs.enc O) l)] [] [.sl false 0 false 4 (O.o (Chs.enc O) l)] [] := by
  have hlen := Chs.len O l
  obtain ⟨N, hN⟩ : ∃ N : Nat, N = l.length := ⟨_, rfl⟩
  obtain ⟨z, hz⟩ : ∃ z : Nat, z = 0 := ⟨_, rfl⟩
  refine go (fn := Go.Proofs.Tryd.f76) (n := 22) (rv := [ResultVar.tmp 2]) rfl (by decide) rfl (by decide +kernel) rfl rfl (by simp) fun F L C => ?_
  cbv
  (repeat' first | (refine Named.i64 ?_ fun _ _ => ?_; (focus lia); cbv) | (refine CallThen.mk _ _ (C.fn (cloneC_fn O l hl)) ?_; cbv) | (refine Named.len fun _ _ hq => ?_; (try simp only [List.length_append, List.length_take, List.length_drop, List.length_replicate, List.length_set] at hq); cbv) | (refine Named.mk fun _ _ => ?_; cbv) | (refine Br.t ?_ ?_; (focus first | assumption | lia); cbv) | (refine Br.f ?_ ?_; (focus first | assumption | lia); cbv) | (refine Br.mk (fun _ => ?_) (fun _ => ?_) <;> cbv) | (refine Need.mk ?_ ?_; rotate_left; cbv) | (refine RetThen.mk [] [] ?_; cbv))
  refine LoopThen.mk (C.loopAt (ι := Nat) [(3, 4), (9, 21)] (fun k => [(9, .int .i64 k)]) (fun _ => [(512, .arr 0 none 4 (O.o (Chs.enc O) l))])
    (fun k => k ≤ l.length) (fun k => N - k) (by decide +kernel) (Start.mk z [] [] (by lia) (by cbv; (repeat' apply And.intro) <;> first | exact True.intro | exact WkR.refl _ | rfl | lia)) ?_)
  intro k g
  cbv
  by_cases hk : k < l.length
  · obtain ⟨x, hx⟩ : ∃ x, l[k]? = some x := ⟨l[k], by simp [hk]⟩
    have hi := hd x (List.mem_of_getElem? hx)
    have hse := chs_set O hx
    clear hd
    obtain ⟨p, key, has, doc⟩ := x
    (repeat' first | (refine Named.i64 ?_ fun _ _ => ?_; (focus lia); cbv) | (refine Ex.known O (Change.enc O) rfl hx ?_ ?_; (focus lia); cbv) | (refine CallThen.mk _ _ (C.fn (cloneW_fn O doc hi)) ?_; cbv) | (refine Back.up [] [] ?_ ?_ fun _ _ => ?_; rotate_left 2; cbv; refine And.intro ?_ ?_) | (refine Named.len fun _ _ hq => ?_; (try simp only [List.length_append, List.length_take, List.length_drop, List.length_replicate, List.length_set] at hq); cbv) | (refine Named.mk fun _ _ => ?_; cbv) | (refine Br.t ?_ ?_; (focus first | assumption | lia); cbv) | (refine Br.f ?_ ?_; (focus first | assumption | lia); cbv) | (refine Br.mk (fun _ => ?_) (fun _ => ?_) <;> cbv) | (refine Need.mk ?_ ?_; rotate_left; cbv) | (refine RetThen.mk [] [] ?_; cbv))
    all_goals (repeat' apply And.intro)
    all_goals try first
      | exact True.intro
      | exact WkR.refl _
      | (clear hse hx; lia)
    · rename_i i1 ei1 R eR n1 en1 n2 en2
      exact WkR.of_eq (by rw [eR, show i1 = k from ei1]; exact hse.symm)
  · (repeat' first | (refine Named.i64 ?_ fun _ _ => ?_; (focus lia); cbv) | (refine RetThen.mk [] [512] ?_; cbv) | (refine Named.len fun _ _ hq => ?_; (try simp only [List.length_append, List.length_take, List.length_drop, List.length_replicate, List.length_set] at hq); cbv) | (refine Named.mk fun _ _ => ?_; cbv) | (refine Br.t ?_ ?_; (focus first | assumption | lia); cbv) | (refine Br.f ?_ ?_; (focus first | assumption | lia); cbv) | (refine Br.mk (fun _ => ?_) (fun _ => ?_) <;> cbv) | (refine Need.mk ?_ ?_; rotate_left; cbv) | (refine RetThen.mk [] [] ?_; cbv))
    all_goals (repeat' apply And.intro)
    all_goals first
      | exact True.intro
      | exact WkR.refl _
      | (refine WkR.of_eq ?_; subst_vars; rfl)
      | lia
theorem changes_fn (O : Opq) (l : List Change) (hl : l.length ≤ 1099511627) (hd : ∀ c ∈ l, c.doc.length ≤ 1099511627) : Fn prog 76 [.sl false 0 false 4 (O.o (Chs.enc O) l)] [] [.sl false 0 false 4 (O.o (Chs.enc O) l)] [] :=
  (changesB_fn O l hl hd).wkA (.cons (.lend rfl) .nil)
/-- a feed of its own memory, its changes laid by -/
theorem own_fn (O : Opq) (f : Feed) (hl : f.changes.length ≤ 1099511627) (hs : f.subs.length ≤ 1099511627) (hd : ∀ c ∈ f.changes, c.doc.length ≤ 1099511627) : Fn prog 81 [.agg (f.enc O)] [] [.agg [.int .i64 f.base, .int .i64 f.total, .sl false 0 false 4 (O.o (Chs.enc O) f.changes), .ref 0]] [.arr 0 none 2 (O.o Subs.enc f.subs)] := by
  have hl1 := Chs.len O f.changes
  have hl2 := Subs.len O f.subs
  refine go (fn := Go.Proofs.Tryd.f81) (n := 11) (rv := [ResultVar.cell 2 53]) rfl (by decide) rfl (by decide +kernel) rfl rfl (by simp) fun F L C => ?_
  cbv
  (repeat' first | (refine Named.i64 ?_ fun _ _ => ?_; (focus lia); cbv) | (refine CallThen.mk _ _ (C.fn (changes_fn O f.changes hl hd)) ?_; cbv) | (refine CallThen.mk _ _ (C.fn (cloneS_fn O f.subs hs)) ?_; cbv) | (refine RetThen.mk [(0, .loc 640)] [] ?_; cbv) | (refine Named.len fun _ _ hq => ?_; (try simp only [List.length_append, List.length_take, List.length_drop, List.length_replicate, List.length_set] at hq); cbv) | (refine Named.mk fun _ _ => ?_; cbv) | (refine Br.t ?_ ?_; (focus first | assumption | lia); cbv) | (refine Br.f ?_ ?_; (focus first | assumption | lia); cbv) | (refine Br.mk (fun _ => ?_) (fun _ => ?_) <;> cbv) | (refine Need.mk ?_ ?_; rotate_left; cbv) | (refine RetThen.mk [] [] ?_; cbv))
  all_goals exact ⟨.refl _, .refl _, trivial⟩
theorem ownW_fn (O : Opq) (f : Feed) (hl : f.changes.length ≤ 1099511627) (hs : f.subs.length ≤ 1099511627) (hd : ∀ c ∈ f.changes, c.doc.length ≤ 1099511627) : Fn prog 81 [.agg (f.enc O)] [] [.agg (f.enc O)] [] := by
  have hl1 := Chs.len O f.changes
  have hl2 := Subs.len O f.subs
  refine go (fn := Go.Proofs.Tryd.f81) (n := 11) (rv := [ResultVar.cell 2 53]) rfl (by decide) rfl (by decide +kernel) rfl rfl (by simp) fun F L C => ?_
  cbv
  (repeat' first | (refine Named.i64 ?_ fun _ _ => ?_; (focus lia); cbv) | (refine CallThen.mk _ _ (C.fn (changes_fn O f.changes hl hd)) ?_; cbv) | (refine CallThen.mk _ _ (C.fn (cloneS_fn O f.subs hs)) ?_; cbv) | (refine RetThen.mk [] [640] ?_; cbv) | (refine Named.len fun _ _ hq => ?_; (try simp only [List.length_append, List.length_take, List.length_drop, List.length_replicate, List.length_set] at hq); cbv) | (refine Named.mk fun _ _ => ?_; cbv) | (refine Br.t ?_ ?_; (focus first | assumption | lia); cbv) | (refine Br.f ?_ ?_; (focus first | assumption | lia); cbv) | (refine Br.mk (fun _ => ?_) (fun _ => ?_) <;> cbv) | (refine Need.mk ?_ ?_; rotate_left; cbv) | (refine RetThen.mk [] [] ?_; cbv))
  all_goals
    refine ⟨.refl _, Named.mk fun _ e => ⟨.of_eq e.symm, by cbv⟩⟩
theorem clipC_fn (O : Opq) (l : List Change) (hl : l.length ≤ 1099511627) : Fn prog 84 [.sl false 0 false 4 (O.o (Chs.enc O) l)] [] [.sl false 0 true 4 (O.o (Chs.enc O) l)] [] := by
  have hlen := Chs.len O l
  refine go (fn := Go.Proofs.Tryd.f84) (n := 8) (rv := [ResultVar.tmp 2]) rfl (by decide) rfl (by decide +kernel) rfl rfl (by simp) fun F L C => ?_
  cbv
  (repeat' first | (refine Named.i64 ?_ fun _ _ => ?_; (focus lia); cbv) | (refine Named.len fun _ _ hq => ?_; (try simp only [List.length_append, List.length_take, List.length_drop, List.length_replicate, List.length_set] at hq); cbv) | (refine Named.mk fun _ _ => ?_; cbv) | (refine Br.t ?_ ?_; (focus first | assumption | lia); cbv) | (refine Br.f ?_ ?_; (focus first | assumption | lia); cbv) | (refine Br.mk (fun _ => ?_) (fun _ => ?_) <;> cbv) | (refine Need.mk ?_ ?_; rotate_left; cbv) | (refine RetThen.mk [] [] ?_; cbv))
  all_goals first
    | lia
    | skip
  · rename_i n en m em R eR
    refine ⟨WkR.of_eq ?_, trivial⟩
    rw [eR, show n.toNat - Int.toNat 0 = (O.o (Chs.enc O) l).length by lia]
    exact (List.take_of_length_le (Nat.le_refl _)).symm
end Go.Sym
