/- What is trimmed, by the document. -/
import Derived.Test.YtfenjmhhggekaaaDoorFe14
import Derived.Test.YtfenjmhhggekaaaDoorFeD
set_option linter.all false
set_option linter.unusedVariables false
set_option linter.unusedSimpArgs false
namespace Go.Sym
open Go Go.Proofs.Tryd
set_option maxRecDepth 100000
def baseJ (b : Int) (j : Nat) : Int := b + j
def dropC (O : Opq) (l : List Change) (j : Nat) : List (List PV) := Chs.enc O (l.drop j)
theorem dropC_len (O : Opq) (l : List Change) (j : Nat) : (dropC O l j).length = l.length - j := by rw [dropC, Chs.enc_len, List.length_drop]
set_option maxHeartbeats 4000000 in
theorem rtrim_fn (O : Opq) (f : Feed) (pos : Int) (hm : mayF f = true) (hl : f.changes.length ≤ 1099511627) : Fn prog 59 [.agg (f.enc O), .int .i64 pos] [] [.agg (Feed.enc O (O.o trimR f pos))] [] := by
  have hl2 := Subs.len O f.subs
  obtain ⟨q1, q2, q3, q4, q5⟩ := (mayF_iff.1 hm).1
  obtain ⟨N, hN⟩ : ∃ N : Nat, N = f.subs.length := ⟨_, rfl⟩
  obtain ⟨z, hz⟩ : ∃ z : Nat, z = 0 := ⟨_, rfl⟩
  obtain ⟨p, hp⟩ : ∃ p : Int, p = min pos f.total := ⟨_, rfl⟩
  have hx : O.o trimR f pos = cutF f (lowK p f.subs f.subs.length) := by
    rw [O.h, trimR, if_pos hm, ← hp, lowK, List.take_length]
  have hlow : lowK p f.subs f.subs.length ≤ p := lowS_le _ _
  obtain ⟨w, hw⟩ : ∃ w, w = lowK p f.subs f.subs.length := ⟨_, rfl⟩
  rw [← hw] at hx hlow
  obtain ⟨M, hM⟩ : ∃ M : Nat, M = (w - f.base).toNat := ⟨_, rfl⟩
  have hMl : M ≤ f.changes.length := by omega
  refine go (fn := Go.Proofs.Tryd.f59) (n := 44) (rv := [ResultVar.cell 4 53]) rfl (by decide) rfl (by decide +kernel) rfl rfl (by simp) fun F L C => ?_
  cbv
  (repeat' first | (refine Named.i64 ?_ fun _ _ => ?_; (focus lia); cbv) | (refine Named.len fun _ _ hq => ?_; (try simp only [List.length_append, List.length_take, List.length_drop, List.length_replicate, List.length_set] at hq); cbv) | (refine Named.mk fun _ _ => ?_; cbv) | (refine Br.t ?_ ?_; (focus first | assumption | lia); cbv) | (refine Br.f ?_ ?_; (focus first | assumption | lia); cbv) | (refine Br.mk (fun _ => ?_) (fun _ => ?_) <;> cbv) | (refine Need.mk ?_ ?_; rotate_left; cbv) | (refine RetThen.mk [] [] ?_; cbv))
  all_goals
    refine LoopThen.mk (C.loopAt (ι := Nat) [(1, 1), (5, 5), (12, 32)] (fun k => [(1, .int .i64 (O.o (lowK p f.subs) k)), (5, .int .i64 k)]) (fun _ => [(256, .box (f.enc O)), (384, .box [.int .i64 0, .int .i64 0, .nils, .nils])])
      (fun k => k ≤ f.subs.length) (fun k => N - k) (by decide +kernel) (Start.mk z [] [] (by lia) ?_) ?_)
    · cbv
      (repeat' apply And.intro) <;> first | exact True.intro | exact WkR.refl _ | (simp only [O.h]; rw [hz]; show p = _; lia) | lia | trace_state
    intro k g
    cbv
    by_cases hk : k < f.subs.length
    · obtain ⟨x, hx⟩ : ∃ x, f.subs[k]? = some x := ⟨f.subs[k], by simp [hk]⟩
      have e1 : O.o (lowK p f.subs) (k + 1) = min (O.o (lowK p f.subs) k) x.pos := by simp only [O.h]; exact lowK_succ hx
      (repeat' first | (refine Named.i64 ?_ fun _ _ => ?_; (focus lia); cbv) | (refine Ex.known O Sub.enc rfl hx ?_ ?_; (focus lia); cbv) | (refine Back.up [] [] ?_ ?_ fun _ _ => ?_; rotate_left 2; cbv; refine And.intro ?_ ?_) | (refine Named.len fun _ _ hq => ?_; (try simp only [List.length_append, List.length_take, List.length_drop, List.length_replicate, List.length_set] at hq); cbv) | (refine Named.mk fun _ _ => ?_; cbv) | (refine Br.t ?_ ?_; (focus first | assumption | lia); cbv) | (refine Br.f ?_ ?_; (focus first | assumption | lia); cbv) | (refine Br.mk (fun _ => ?_) (fun _ => ?_) <;> cbv) | (refine Need.mk ?_ ?_; rotate_left; cbv) | (refine RetThen.mk [] [] ?_; cbv))
      all_goals (repeat' apply And.intro)
      all_goals try first
        | exact True.intro
        | exact WkR.refl _
        | (clear hx e1; lia)
      all_goals first
        | (rename_i n1 en1 n2 en2; subst en2; show O.o (lowK p f.subs) (k + 1) = _; rw [e1]; clear hx e1; lia)
        | trace_state
    · have hke : k = f.subs.length := by omega
      have hlk : O.o (lowK p f.subs) k = w := by rw [O.h, hke, hw]
      (repeat' first | (refine Named.i64 ?_ fun _ _ => ?_; (focus lia); cbv) | (refine Named.len fun _ _ hq => ?_; (try simp only [List.length_append, List.length_take, List.length_drop, List.length_replicate, List.length_set] at hq); cbv) | (refine Named.mk fun _ _ => ?_; cbv) | (refine Br.t ?_ ?_; (focus first | assumption | lia); cbv) | (refine Br.f ?_ ?_; (focus first | assumption | lia); cbv) | (refine Br.mk (fun _ => ?_) (fun _ => ?_) <;> cbv) | (refine Need.mk ?_ ?_; rotate_left; cbv) | (refine RetThen.mk [] [] ?_; cbv))
      refine LoopThen.mk (C.loopAt (ι := Nat) [(33, 44)] (fun _ => []) (fun j => [(256, .box [(.int .i64 (O.o (baseJ f.base) j)), .int .i64 f.total, .sl false 0 false 4 (O.o (dropC O f.changes) j), .sl false 0 false 2 (O.o Subs.enc f.subs)]), (384, .box [.int .i64 0, .int .i64 0, .nils, .nils])])
        (fun j => j ≤ M) (fun j => M - j) (by decide +kernel) (Start.mk z [] [] (by lia) ?_) ?_)
      · cbv
        (repeat' apply And.intro) <;> first | exact True.intro | exact WkR.refl _ | lia | (refine .of_eq ?_; simp only [O.h]; rw [hz]; rfl) | (simp only [O.h]; rw [hz]; exact Int.add_zero _) | trace_state
      intro j gj
      cbv
      have hbj : O.o (baseJ f.base) j = f.base + j := by rw [O.h]; rfl
      have hdl : (O.o (dropC O f.changes) j).length = f.changes.length - j := by rw [O.h, dropC_len]
      by_cases hj : j < M
      · have hsd : O.o (dropC O f.changes) (j + 1) = (O.o (dropC O f.changes) j).drop 1 := by
          simp only [O.h, dropC, Chs.enc, List.map_drop, List.drop_drop]
        have hbs : O.o (baseJ f.base) (j + 1) = f.base + j + 1 := by rw [O.h]; show f.base + ((j + 1 : Nat) : Int) = _; omega
        (repeat' first | (refine Named.i64 ?_ fun _ _ => ?_; (focus lia); cbv) | (refine Back.up [] [] ?_ ?_ fun _ _ => ?_; rotate_left 2; cbv; refine And.intro ?_ ?_) | (refine Named.len fun _ _ hq => ?_; (try simp only [List.length_append, List.length_take, List.length_drop, List.length_replicate, List.length_set] at hq); cbv) | (refine Named.mk fun _ _ => ?_; cbv) | (refine Br.t ?_ ?_; (focus first | assumption | lia); cbv) | (refine Br.f ?_ ?_; (focus first | assumption | lia); cbv) | (refine Br.mk (fun _ => ?_) (fun _ => ?_) <;> cbv) | (refine Need.mk ?_ ?_; rotate_left; cbv) | (refine RetThen.mk [] [] ?_; cbv))
        all_goals (repeat' apply And.intro)
        all_goals try first
          | exact True.intro
          | exact WkR.refl _
          | (clear hsd; lia)
        · rename_i n1 en1 R eR j2 ej2
          subst ej2
          exact .of_eq (by rw [eR]; exact hsd)
      · have hjM : j = M := by omega
        have hx2 : O.o trimR f pos = ⟨f.base + j, f.total, f.changes.drop j, f.subs⟩ := by
          rw [hx, cutF]
          split
          · rw [hjM, hM, show f.base + ((w - f.base).toNat : Int) = w by omega]
          · rw [hjM, hM, show (w - f.base).toNat = 0 by omega]; cases f; simp
        (repeat' first | (refine Named.i64 ?_ fun _ _ => ?_; (focus lia); cbv) | (refine Named.len fun _ _ hq => ?_; (try simp only [List.length_append, List.length_take, List.length_drop, List.length_replicate, List.length_set] at hq); cbv) | (refine Named.mk fun _ _ => ?_; cbv) | (refine Br.t ?_ ?_; (focus first | assumption | lia); cbv) | (refine Br.f ?_ ?_; (focus first | assumption | lia); cbv) | (refine Br.mk (fun _ => ?_) (fun _ => ?_) <;> cbv) | (refine Need.mk ?_ ?_; rotate_left; cbv) | (refine RetThen.mk [] [] ?_; cbv))
        all_goals try (clear hx2 hx; lia)
        refine ⟨?_, ?_, .of_eq ?_, .of_eq ?_, trivial⟩
        · show (O.o trimR f pos).base = O.o (baseJ f.base) j; rw [hx2, hbj]
        · show (O.o trimR f pos).total = _; rw [hx2]
        · show O.o (Chs.enc O) (O.o trimR f pos).changes = O.o (dropC O f.changes) j; rw [hx2]; simp only [O.h]; rfl
        · show O.o Subs.enc (O.o trimR f pos).subs = _; rw [hx2]
end Go.Sym
