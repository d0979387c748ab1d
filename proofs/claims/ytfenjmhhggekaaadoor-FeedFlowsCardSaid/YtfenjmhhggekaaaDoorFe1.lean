/- A feed is checked. -/
import Derived.Test.YtfenjmhhggekaaaDoorPa8
import Derived.Test.YtfenjmhhggekaaaDoorFeA
import Derived.Test.YtfenjmhhggekaaaDoorSymJoined3
set_option linter.all false
set_option linter.unusedVariables false
set_option linter.unusedSimpArgs false
namespace Go.Sym
open Go Go.Proofs.Tryd
set_option maxRecDepth 100000
set_option maxHeartbeats 4000000 in
theorem fcheckB_fn (O : Opq) (f : Feed) (hl : f.changes.length ≤ 1099511627776) (hs : f.subs.length ≤ 1099511627776) (hd : ∀ c ∈ f.changes, inC c ∧ c.doc.length ≤ 1099511627776) : Fn prog 47 [.agg (f.encB O true true)] [] [.int .i64 (O.o feedErr f)] [] := by
  have hl1 := Chs.len O f.changes
  have hl2 := Subs.len O f.subs
  have hbad : ¬ headF f → O.o feedErr f = 1 := fun h => by rw [O.h]; exact feedErr_one (mayF_head h)
  obtain ⟨N, hN⟩ : ∃ N : Nat, N = f.changes.length := ⟨_, rfl⟩
  obtain ⟨M, hM⟩ : ∃ N : Nat, N = f.subs.length := ⟨_, rfl⟩
  obtain ⟨z, hz⟩ : ∃ z : Nat, z = 0 := ⟨_, rfl⟩
  refine go (fn := Go.Proofs.Tryd.f47) (n := 121) (rv := [ResultVar.tmp 2]) rfl (by decide) rfl (by decide +kernel) rfl rfl (by simp) fun F L C => ?_
  cbv
  (repeat' first | (refine Named.i64 ?_ fun _ _ => ?_; (focus lia); cbv) | (refine Named.len fun _ _ hq => ?_; (try simp only [List.length_append, List.length_take, List.length_drop, List.length_replicate, List.length_set] at hq); cbv) | (refine Named.mk fun _ _ => ?_; cbv) | (refine Br.t ?_ ?_; (focus first | assumption | lia); cbv) | (refine Br.f ?_ ?_; (focus first | assumption | lia); cbv) | (refine Br.mk (fun _ => ?_) (fun _ => ?_) <;> cbv) | (refine Need.mk ?_ ?_; rotate_left; cbv) | (refine RetThen.mk [] [] ?_; cbv))
  all_goals try first
    | lia
    | (refine ⟨hbad fun h => ?_, trivial⟩; obtain ⟨q1, q2, q3, q4, q5⟩ := h; lia)
  have hh : headF f := ⟨by lia, by lia, by lia, by lia, by lia⟩
  have hb0 := hh.1
  have hb1 : f.base ≤ 2147483647 := by have := hh.2.1; have := hh.2.2.1; omega
  refine LoopThen.mk (C.loopAt (ι := Nat) [(2, 4), (42, 78)] (fun k => [(2, .int .i64 0), (42, .int .i64 k)]) (fun _ => [(192, .box (f.encB O true true))])
    (fun k => k ≤ f.changes.length ∧ allC f k) (fun k => N - k) (by decide +kernel) (Start.mk z [] [] ⟨by lia, by rw [hz]; exact allC_zero f⟩ (by cbv; (repeat' apply And.intro) <;> first | exact True.intro | exact WkR.refl _ | rfl | lia)) ?_)
  intro k g
  cbv
  have g1 : k ≤ f.changes.length := g.1
  have g2 : allC f k := g.2
  clear g
  by_cases hk : k < f.changes.length
  · obtain ⟨x, hx⟩ : ∃ x, f.changes[k]? = some x := ⟨f.changes[k], by simp [hk]⟩
    have hi := hd x (List.mem_of_getElem? hx)
    have hc : ¬ okC f.base x k → O.o feedErr f = 1 := fun h => by rw [O.h]; exact feedErr_one (mayF_badC hx h)
    have hst : okC f.base x k → allC f (k + 1) := allC_step g2 hx
    have hi1 := hi.1
    have hi2 := hi.2
    clear hbad hd g2 hi
    obtain ⟨p, key, has, doc⟩ := x
    have hp : ∀ n : Int, n = k + 1 → (IntKind.i64.wrap (p - f.base) = n ↔ p = f.base + n) := fun n hn => wrap_pos hi1 hb0 hb1 (by omega) (by omega)
    have hn0 : O.o docErr doc = 0 ↔ may doc = true := by rw [O.h, docErr_zero]
    have hn1 : O.o isKey key = isKey key := by rw [O.h]
    have hn2 : (O.o Doc.enc doc).length = doc.length := by rw [O.h, Doc.enc_len]
    have hn3 : doc = [] ↔ doc.length = 0 := by simp
    cases has <;> (repeat' first | (refine Named.i64 ?_ fun _ _ => ?_; (focus lia); cbv) | (refine Ex.known O (Change.enc O) rfl hx ?_ ?_; (focus lia); cbv) | (refine CallThen.bool (C.fn (key_fn O key)) (fun _ => ?_) (fun _ => ?_) <;> cbv) | (refine CallThen.mk _ _ (C.fn (check_fn O doc hi2)) ?_; cbv) | (refine Back.up [] [] ?_ ?_ fun _ _ => ?_; rotate_left 2; cbv; refine And.intro ?_ ?_) | (refine Named.len fun _ _ hq => ?_; (try simp only [List.length_append, List.length_take, List.length_drop, List.length_replicate, List.length_set] at hq); cbv) | (refine Named.mk fun _ _ => ?_; cbv) | (refine Br.t ?_ ?_; (focus first | assumption | lia); cbv) | (refine Br.f ?_ ?_; (focus first | assumption | lia); cbv) | (refine Br.mk (fun _ => ?_) (fun _ => ?_) <;> cbv) | (refine Need.mk ?_ ?_; rotate_left; cbv) | (refine RetThen.mk [] [] ?_; cbv))
    all_goals (repeat' apply And.intro)
    all_goals try first
      | exact True.intro
      | exact WkR.refl _
      | lia
    all_goals try first
      | (refine hc fun h => ?_; obtain ⟨a1, a2, a3, a4⟩ := h; simp only at a1 a2 a3 a4; clear hc hst hx; grind)
      | (refine hst ⟨?_, ?_, ?_, ?_⟩ <;> simp only <;> clear hc hst hx <;> grind)
    all_goals trace_state
  · clear hbad
    (repeat' first | (refine Named.i64 ?_ fun _ _ => ?_; (focus lia); cbv) | (refine Named.len fun _ _ hq => ?_; (try simp only [List.length_append, List.length_take, List.length_drop, List.length_replicate, List.length_set] at hq); cbv) | (refine Named.mk fun _ _ => ?_; cbv) | (refine Br.t ?_ ?_; (focus first | assumption | lia); cbv) | (refine Br.f ?_ ?_; (focus first | assumption | lia); cbv) | (refine Br.mk (fun _ => ?_) (fun _ => ?_) <;> cbv) | (refine Need.mk ?_ ?_; rotate_left; cbv) | (refine RetThen.mk [] [] ?_; cbv))
    all_goals try lia
    have hal : allC f f.changes.length := by
      have : k = f.changes.length := by lia
      rwa [← this]
    refine LoopThen.mk (C.loopAt (ι := Nat) [(2, 2), (5, 6), (82, 121)] (fun k => [(2, .int .i64 0), (82, .int .i64 k)]) (fun _ => [(192, .box (f.encB O true true))])
      (fun k => k ≤ f.subs.length ∧ allS f k) (fun k => M - k) (by decide +kernel) (Start.mk z [] [] ⟨by lia, by rw [hz]; exact allS_zero f⟩ (by cbv; (repeat' apply And.intro) <;> first | exact True.intro | exact WkR.refl _ | rfl | lia)) ?_)
    intro i g
    cbv
    have g3 : i ≤ f.subs.length := g.1
    have g4 : allS f i := g.2
    clear g g2
    by_cases hi : i < f.subs.length
    · obtain ⟨x, hx⟩ : ∃ x, f.subs[i]? = some x := ⟨f.subs[i], by simp [hi]⟩
      obtain ⟨y, hy⟩ : ∃ y, f.subs[i - 1]? = some y := ⟨f.subs[i - 1], by simp⟩
      have hc : ¬ okS f.base f.total f.subs x i → O.o feedErr f = 1 := fun h => by rw [O.h]; exact feedErr_one (mayF_badS hx h)
      have hst : okS f.base f.total f.subs x i → allS f (i + 1) := allS_step g4 hx
      clear g4 hal hd hh
      obtain ⟨nm, p⟩ := x
      obtain ⟨nm2, p2⟩ := y
      have hn1 : O.o isKey nm = isKey nm := by rw [O.h]
      (repeat' first | (refine Named.i64 ?_ fun _ _ => ?_; (focus lia); cbv) | (refine Ex.known O Sub.enc rfl hx ?_ ?_; (focus lia); cbv) | (refine Ex.known O Sub.enc rfl hy ?_ ?_; (focus lia); cbv) | (refine CallThen.bool (C.fn (key_fn O nm)) (fun _ => ?_) (fun _ => ?_) <;> cbv) | (refine Back.up [] [] ?_ ?_ fun _ _ => ?_; rotate_left 2; cbv; refine And.intro ?_ ?_) | (refine Named.len fun _ _ hq => ?_; (try simp only [List.length_append, List.length_take, List.length_drop, List.length_replicate, List.length_set] at hq); cbv) | (refine Named.mk fun _ _ => ?_; cbv) | (refine Br.t ?_ ?_; (focus first | assumption | lia); cbv) | (refine Br.f ?_ ?_; (focus first | assumption | lia); cbv) | (refine Br.mk (fun _ => ?_) (fun _ => ?_) <;> cbv) | (refine Need.mk ?_ ?_; rotate_left; cbv) | (refine RetThen.mk [] [] ?_; cbv))
      all_goals (repeat' apply And.intro)
      all_goals try first
        | exact True.intro
        | exact WkR.refl _
        | lia
      all_goals try first
        | (refine hc fun h => ?_; obtain ⟨a1, a2, a3, a4⟩ := h; simp only at a1 a2 a3 a4; first | (clear hc hst hx hy a4; grind) | (obtain ⟨g, hg, hgs⟩ := a4 (by lia); rw [hy] at hg; cases hg; clear hc hst hx hy a4; grind [slt_asymm, slt_irrefl]))
        | (refine hst ⟨?_, ?_, ?_, fun h0 => ⟨_, hy, ?_⟩⟩ <;> simp only <;> clear hc hst hx hy <;> first | lia | grind | exact slt_not (by assumption) | skip)
      all_goals trace_state
    · (repeat' first | (refine Named.i64 ?_ fun _ _ => ?_; (focus lia); cbv) | (refine Named.len fun _ _ hq => ?_; (try simp only [List.length_append, List.length_take, List.length_drop, List.length_replicate, List.length_set] at hq); cbv) | (refine Named.mk fun _ _ => ?_; cbv) | (refine Br.t ?_ ?_; (focus first | assumption | lia); cbv) | (refine Br.f ?_ ?_; (focus first | assumption | lia); cbv) | (refine Br.mk (fun _ => ?_) (fun _ => ?_) <;> cbv) | (refine Need.mk ?_ ?_; rotate_left; cbv) | (refine RetThen.mk [] [] ?_; cbv))
      all_goals try lia
      all_goals
        refine ⟨?_, trivial⟩
        simp only [O.h]
        rw [feedErr, if_pos (mayF_iff.2 ⟨hh, hal, by have : i = f.subs.length := by lia
                                                     rwa [← this]⟩)]
theorem feed_wk {O : Opq} {f : Feed} {b1 b2 f1 f2 : Bool} {n1 n2 : Nat} (h1 : b1 = true ∨ n1 = 0) (h2 : b2 = true ∨ n2 = 0) : WkA (.agg (f.encB O true true)) (.agg [.int .i64 f.base, .int .i64 f.total, .sl b1 n1 f1 4 (O.o (Chs.enc O) f.changes), .sl b2 n2 f2 2 (O.o Subs.enc f.subs)]) := by
  refine .agg' (.cons (.refl _) (.cons (.refl _) (.cons ?_ (.cons ?_ .nil))))
  · cases b1 with
    | true => exact .bor (by cases f1 <;> rfl) (.refl _)
    | false => obtain rfl : n1 = 0 := by simpa using h1
               exact .lend (by cases f1 <;> rfl)
  · cases b2 with
    | true => exact .bor (by cases f2 <;> rfl) (.refl _)
    | false => obtain rfl : n2 = 0 := by simpa using h2
               exact .lend (by cases f2 <;> rfl)
theorem fcheckA_fn (O : Opq) (f : Feed) {b1 b2 f1 f2 : Bool} {n1 n2 : Nat} (h1 : b1 = true ∨ n1 = 0) (h2 : b2 = true ∨ n2 = 0) (hl : f.changes.length ≤ 1099511627776) (hs : f.subs.length ≤ 1099511627776) (hd : ∀ c ∈ f.changes, inC c ∧ c.doc.length ≤ 1099511627776) :
    Fn prog 47 [.agg [.int .i64 f.base, .int .i64 f.total, .sl b1 n1 f1 4 (O.o (Chs.enc O) f.changes), .sl b2 n2 f2 2 (O.o Subs.enc f.subs)]] [] [.int .i64 (O.o feedErr f)] [] :=
  (fcheckB_fn O f hl hs hd).wkA (.cons (feed_wk h1 h2) .nil)
theorem fcheck_fn (O : Opq) (f : Feed) (hl : f.changes.length ≤ 1099511627776) (hs : f.subs.length ≤ 1099511627776) (hd : ∀ c ∈ f.changes, inC c ∧ c.doc.length ≤ 1099511627776) : Fn prog 47 [.agg (f.enc O)] [] [.int .i64 (O.o feedErr f)] [] :=
  fcheckA_fn O f (.inr rfl) (.inr rfl) hl hs hd
end Go.Sym
