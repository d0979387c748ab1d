/- Why a cell may not be, by the document. -/
import Derived.Test.YtdbpdcnpolaojaaBase
import Derived.Test.YtdbpdcnpolaojaaSymJoined3
import Derived.Test.YtdbpdcnpolaojaaCdC
set_option linter.all false
set_option linter.unusedVariables false
set_option linter.unusedSimpArgs false
namespace Go.Sym
open Go Go.Proofs.Try
set_option maxRecDepth 100000
theorem rdepth_fn (O : Opq) : ∀ (n : Nat) (c : Cel) (w : Int), n ≤ 100 → c.size ≤ 1099511627776 → w = n → Fn prog 35 [.agg (c.en O), .int .i64 w] [] [.int .i64 (O.o (depthR n) c)] []
  | 0, c, w, _, _, hw => by
    have hq : O.o (depthR 0) c = 1 := by rw [O.h]; rfl
    rw [hq]
    obtain ⟨k, m, t, l⟩ := c
    refine go (fn := Go.Proofs.Try.f35) (n := 29) (rv := [ResultVar.tmp 4]) rfl (by decide) rfl (by decide +kernel) rfl rfl (by simp) fun F L C => ?_
    cbv
    (repeat' first | (refine Named.i64 ?_ fun _ _ => ?_; (focus lia); cbv) | (refine Named.len fun _ _ hq => ?_; (try simp only [List.length_append, List.length_take, List.length_drop, List.length_replicate, List.length_set] at hq); cbv) | (refine Named.mk fun _ _ => ?_; cbv) | (refine Br.t ?_ ?_; (focus first | assumption | lia); cbv) | (refine Br.f ?_ ?_; (focus first | assumption | lia); cbv) | (refine Br.mk (fun _ => ?_) (fun _ => ?_) <;> cbv) | (refine Need.mk ?_ ?_; rotate_left; cbv) | (refine RetThen.mk [] [] ?_; cbv))
    all_goals first | lia | trace_state
  | n + 1, c, w, hn, hs, hw => by
    have hsz := Cel.size_list c
    have ih := fun (e : Cel) (he : e ∈ c.list) {w : Int} (hw : w = n) => rdepth_fn O n e w (by omega) (by have := Cels.size_mem he; omega) hw
    have hll : c.list.length ≤ 1099511627776 := Nat.le_trans (Cel.len_size c) hs
    have hall := fun (i : Nat) (h : c.list.length ≤ i) => depI_all (n := n) h
    have hq : O.o (depthR (n + 1)) c = depthR (n + 1) c := by rw [O.h]
    obtain ⟨Q, eQ⟩ : ∃ Q, Q = O.o (depthR (n + 1)) c := ⟨_, rfl⟩
    rw [← eQ] at hq ⊢
    rw [← hq] at hall
    obtain ⟨k, m, t, l⟩ := c
    replace ih : ∀ e ∈ l, ∀ {w : Int}, w = n → Fn prog 35 [.agg (e.en O), .int .i64 w] [] [.int .i64 (O.o (depthR n) e)] [] := ih
    replace hll : l.length ≤ 1099511627776 := hll
    replace hall : ∀ i, l.length ≤ i → depI n l i + 1 = Q := hall
    have hl1 := Cels.en_len O l
    have hdo : ∀ i, O.o (depI n l) i = depI n l i := fun i => by rw [O.h]
    have hlo := fun i => depI_low n l i
    have hhi := fun i => depI_high n l i
    simp only [← hdo] at hall hlo hhi
    obtain ⟨N, hN⟩ : ∃ N : Nat, N = l.length := ⟨_, rfl⟩
    obtain ⟨z, hz⟩ : ∃ z : Nat, z = 0 := ⟨_, rfl⟩
    have hz0 : O.o (depI n l) z = 0 := by rw [hdo, hz]; rfl
    clear hq eQ hsz hs
    refine go (fn := Go.Proofs.Try.f35) (n := 29) (rv := [ResultVar.tmp 4]) rfl (by decide) rfl (by decide +kernel) rfl rfl (by simp) fun F L C => ?_
    cbv
    (repeat' first | (refine Named.i64 ?_ fun _ _ => ?_; (focus lia); cbv) | (refine Named.len fun _ _ hq => ?_; (try simp only [List.length_append, List.length_take, List.length_drop, List.length_replicate, List.length_set] at hq); cbv) | (refine Named.mk fun _ _ => ?_; cbv) | (refine Br.t ?_ ?_; (focus first | assumption | lia); cbv) | (refine Br.f ?_ ?_; (focus first | assumption | lia); cbv) | (refine Br.mk (fun _ => ?_) (fun _ => ?_) <;> cbv) | (refine Need.mk ?_ ?_; rotate_left; cbv) | (refine RetThen.mk [] [] ?_; cbv))
    all_goals try (exfalso; clear ih hall hdo hlo hhi; lia)
    refine LoopThen.mk (C.loopAt (ι := Nat) [(5, 7), (10, 28)] (fun i => [(4, .int .i64 0), (5, .int .i64 (O.o (depI n l) i)), (6, .int .i64 i)]) (fun _ => [(256, .box [.int .i64 k, .int .i64 m, .str t, .sl false 0 false 4 (O.o Cels.enc l)])])
      (fun i => i ≤ l.length) (fun i => N - i) (by decide +kernel) (Start.mk z [] [] (by lia) ?_) ?_)
    · cbv
      (repeat' apply And.intro) <;> first | exact True.intro | exact WkR.refl _ | rfl | exact hz0 | lia
    intro i g1
    cbv
    have hlo := hlo i
    have hhi := hhi i
    by_cases hi : i < l.length
    · obtain ⟨x, hx⟩ : ∃ x, l[i]? = some x := ⟨l[i], by simp [hi]⟩
      have hc := fun {w : Int} (hw : w = n) => ih x (List.mem_of_getElem? hx) hw
      have hmo : O.o (depI n l) (i + 1) = max (O.o (depI n l) i) (O.o (depthR n) x) := by simp only [O.h]; exact depI_more hx
      have hd1 : O.o (depthR n) x ≤ n + 1 := by rw [O.h]; exact depthR_high n x
      have hd0 : 1 ≤ O.o (depthR n) x := by rw [O.h]; exact depthR_low n x
      obtain ⟨D, eD⟩ : ∃ D, D = O.o (depthR n) x := ⟨_, rfl⟩
      rw [← eD] at hc hmo hd1 hd0
      clear ih hall eD hdo
      (repeat' first | (refine Named.i64 ?_ fun _ _ => ?_; (focus lia); cbv) | (refine Ex.cel O hx ?_ ?_; (focus lia); cbv) | (refine CallThen.mk _ _ (C.fn (hc (by clear hmo hx; lia))) ?_; cbv) | (refine Back.up [] [] ?_ ?_ fun _ _ => ?_; rotate_left 2; cbv; refine And.intro ?_ ?_) | (refine Named.len fun _ _ hq => ?_; (try simp only [List.length_append, List.length_take, List.length_drop, List.length_replicate, List.length_set] at hq); cbv) | (refine Named.mk fun _ _ => ?_; cbv) | (refine Br.t ?_ ?_; (focus first | assumption | lia); cbv) | (refine Br.f ?_ ?_; (focus first | assumption | lia); cbv) | (refine Br.mk (fun _ => ?_) (fun _ => ?_) <;> cbv) | (refine Need.mk ?_ ?_; rotate_left; cbv) | (refine RetThen.mk [] [] ?_; cbv))
      all_goals (repeat' apply And.intro)
      all_goals first
        | exact True.intro
        | exact WkR.refl _
        | (rename_i y ey; subst ey; show O.o (depI n l) (i + 1) = _; clear hx hc; lia)
        | (clear hmo hx hc; lia)
        | trace_state
    · have hall := hall i (by omega)
      clear ih hdo
      (repeat' first | (refine Named.i64 ?_ fun _ _ => ?_; (focus lia); cbv) | (refine Named.len fun _ _ hq => ?_; (try simp only [List.length_append, List.length_take, List.length_drop, List.length_replicate, List.length_set] at hq); cbv) | (refine Named.mk fun _ _ => ?_; cbv) | (refine Br.t ?_ ?_; (focus first | assumption | lia); cbv) | (refine Br.f ?_ ?_; (focus first | assumption | lia); cbv) | (refine Br.mk (fun _ => ?_) (fun _ => ?_) <;> cbv) | (refine Need.mk ?_ ?_; rotate_left; cbv) | (refine RetThen.mk [] [] ?_; cbv))
      all_goals first
        | (clear hall; lia)
        | (refine ⟨?_, trivial⟩; lia)
        | lia
        | trace_state
theorem rkind_fn (O : Opq) : ∀ (n : Nat) (c : Cel), c.size ≤ n → n ≤ 1099511627776 → Fn prog 36 [.agg (c.en O)] [] [.bool (O.o pureC c)] []
  | 0, c, h, _ => by rw [Cel.size_list] at h; omega
  | n + 1, .mk k m t l, h, hn => by
    have hsz : (Cel.mk k m t l).size = 1 + Cels.size l := rfl
    have hll := Cels.len_size l
    have ih := fun (e : Cel) (he : e ∈ l) => rkind_fn O n e (by have := Cels.size_mem he; omega) (by omega)
    have hP : pureC (.mk k m t l) = if k = 1 then decide (-9007199254740992 ≤ m ∧ m ≤ 9007199254740992 ∧ t = ByteArray.empty ∧ l.length = 0) else if k = 2 then decide (m = 0 ∧ l.length = 0) else if k = 3 then decide (m = 0 ∧ t = ByteArray.empty ∧ pureCs l = true) else false := by rw [pureC]
    have hl1 := Cels.en_len O l
    have hq : O.o pureC (.mk k m t l) = pureC (.mk k m t l) := by rw [O.h]
    obtain ⟨Q, eQ⟩ : ∃ Q, Q = O.o pureC (.mk k m t l) := ⟨_, rfl⟩
    rw [← eQ] at hq ⊢
    rw [← hq] at hP
    have hcs := pureCs_all l
    have hno : k ≠ 3 → 0 < l.length → Q = false := fun h1 h2 => by
      rw [hP]
      by_cases k1 : k = 1
      · rw [if_pos k1]; exact decide_eq_false fun h => by omega
      · rw [if_neg k1]
        by_cases k2 : k = 2
        · rw [if_pos k2]; exact decide_eq_false fun h => by omega
        · rw [if_neg k2, if_neg h1]
    have hno2 : ∀ e ∈ l, pureC e = false → k = 3 → Q = false := fun e he h1 h3 => by
      rw [hP, if_neg (by omega), if_neg (by omega), if_pos h3]
      have : pureCs l = false := by
        rw [hcs]
        cases ha : l.all pureC with
        | false => rfl
        | true => rw [List.all_eq_true.1 ha e he] at h1; cases h1
      simp [this]
    obtain ⟨N, hN⟩ : ∃ N : Nat, N = l.length := ⟨_, rfl⟩
    obtain ⟨z, hz⟩ : ∃ z : Nat, z = 0 := ⟨_, rfl⟩
    clear hq eQ
    refine go (fn := Go.Proofs.Try.f36) (n := 54) (rv := [ResultVar.tmp 2]) rfl (by decide) rfl (by decide +kernel) rfl rfl (by simp) fun F L C => ?_
    cbv
    refine LoopThen.mk (C.loopAt (ι := Nat) [(2, 22)] (fun i => [(2, .bool false), (3, .int .i64 i)]) (fun _ => [(192, .box [.int .i64 k, .int .i64 m, .str t, .sl false 0 false 4 (O.o Cels.enc l)])])
      (fun i => i ≤ l.length ∧ (0 < i → k = 3) ∧ ∀ (j : Nat) y, j < i → l[j]? = some y → pureC y = true) (fun i => N - i) (by decide +kernel) (Start.mk z [] [] ⟨by lia, fun h => by omega, fun j y hj => by omega⟩ (by cbv; (repeat' apply And.intro) <;> first | exact True.intro | exact WkR.refl _ | rfl | lia)) ?_)
    intro i g
    cbv
    have g1 : i ≤ l.length := g.1
    have g2 : 0 < i → k = 3 := g.2.1
    have g3 := g.2.2
    clear g
    by_cases hi : i < l.length
    · obtain ⟨x, hx⟩ : ∃ x, l[i]? = some x := ⟨l[i], by simp [hi]⟩
      have hc := ih x (List.mem_of_getElem? hx)
      have hno := fun h1 => hno h1 (by omega)
      have hno2 : O.o pureC x = false → k = 3 → Q = false := fun h1 => hno2 x (List.mem_of_getElem? hx) (by rwa [O.h] at h1)
      have hst : O.o pureC x = true → ∀ (j : Nat) y, j < i + 1 → l[j]? = some y → pureC y = true := fun h => by rw [O.h] at h; exact allF_step hx h g3
      obtain ⟨B, eB⟩ : ∃ B, B = O.o pureC x := ⟨_, rfl⟩
      rw [← eB] at hc hno2 hst
      clear ih hP hcs g3 eB
      (repeat' first | (refine Named.i64 ?_ fun _ _ => ?_; (focus lia); cbv) | (refine Ex.cel O hx ?_ ?_; (focus lia); cbv) | (refine CallThen.bool (C.fn (hc)) (fun _ => ?_) (fun _ => ?_) <;> cbv) | (refine Back.up [] [] ?_ ?_ fun _ _ => ?_; rotate_left 2; cbv; refine And.intro ?_ ?_) | (refine Named.len fun _ _ hq => ?_; (try simp only [List.length_append, List.length_take, List.length_drop, List.length_replicate, List.length_set] at hq); cbv) | (refine Named.mk fun _ _ => ?_; cbv) | (refine Br.t ?_ ?_; (focus first | assumption | lia); cbv) | (refine Br.f ?_ ?_; (focus first | assumption | lia); cbv) | (refine Br.mk (fun _ => ?_) (fun _ => ?_) <;> cbv) | (refine Need.mk ?_ ?_; rotate_left; cbv) | (refine RetThen.mk [] [] ?_; cbv))
      all_goals (repeat' apply And.intro)
      all_goals try first
        | exact True.intro
        | exact WkR.refl _
        | (clear hst hno hno2 hx hc; lia)
      all_goals first
        | exact hno (by assumption)
        | exact hno2 (by assumption) (by assumption)
        | exact hst (by assumption)
        | (intro _; assumption)
        | trace_state
    · have hal := allF_end (by omega) g3
      rw [← hcs] at hal
      have hl0 : k ≠ 3 → l.length = 0 := fun h => by
        by_cases h0 : 0 < i
        · exact absurd (g2 h0) h
        · omega
      have hl0' : l.length = 0 ∨ k = 3 := by
        by_cases h : k = 3
        · exact .inr h
        · exact .inl (hl0 h)
      clear ih hcs g3 hno hno2 g2 hl0
      simp only [hal] at hP
      (repeat' first | (refine Named.i64 ?_ fun _ _ => ?_; (focus lia); cbv) | (refine Named.len fun _ _ hq => ?_; (try simp only [List.length_append, List.length_take, List.length_drop, List.length_replicate, List.length_set] at hq); cbv) | (refine Named.mk fun _ _ => ?_; cbv) | (refine Br.t ?_ ?_; (focus first | assumption | lia); cbv) | (refine Br.f ?_ ?_; (focus first | assumption | lia); cbv) | (refine Br.mk (fun _ => ?_) (fun _ => ?_) <;> cbv) | (refine Need.mk ?_ ?_; rotate_left; cbv) | (refine RetThen.mk [] [] ?_; cbv))
      all_goals try first
        | (clear hP; lia)
      all_goals
        refine ⟨?_, trivial⟩
        rw [hP]
        first
          | (simp_all [emp]; done)
          | (simp_all [emp]; lia)
          | (have h0 : l.length = 0 := by (clear hP; lia)
             simp_all [emp]; done)
          | grind
          | trace_state
theorem rmany_fn (O : Opq) : ∀ (n : Nat) (c : Cel), c.size ≤ n → n ≤ 1099511627776 → ∀ x : Int, 0 ≤ x → x ≤ 4096 → Fn prog 37 [.agg (c.en O), .int .i64 x] [] [.int .i64 (O.o manyC c x)] []
  | 0, c, h, _ => by rw [Cel.size_list] at h; omega
  | n + 1, .mk k m t l, h, hn => by
    intro x hx0 hx1
    have hsz : (Cel.mk k m t l).size = 1 + Cels.size l := rfl
    have hll := Cels.len_size l
    have ih := fun (e : Cel) (he : e ∈ l) => rmany_fn O n e (by have := Cels.size_mem he; omega) (by omega)
    have hl1 := Cels.en_len O l
    have eQ2 : O.o manyC (.mk k m t l) x = if 65536 < t.size then 5000 else manyCs l (x + 1) := by rw [O.h, manyC]
    obtain ⟨Q, eQ⟩ : ∃ Q, Q = O.o manyC (.mk k m t l) x := ⟨_, rfl⟩
    rw [← eQ] at eQ2 ⊢
    obtain ⟨N, hN⟩ : ∃ N : Nat, N = l.length := ⟨_, rfl⟩
    obtain ⟨z, hz⟩ : ∃ z : Nat, z = 0 := ⟨_, rfl⟩
    obtain ⟨x0, ex0⟩ : ∃ y, y = x + 1 := ⟨_, rfl⟩
    clear eQ
    by_cases ht : 65536 < t.size
    · rw [if_pos ht] at eQ2
      clear ih
      refine go (fn := Go.Proofs.Try.f37) (n := 29) (rv := [ResultVar.tmp 4]) rfl (by decide) rfl (by decide +kernel) rfl rfl (by simp) fun F L C => ?_
      cbv
      (repeat' first | (refine Named.i64 ?_ fun _ _ => ?_; (focus lia); cbv) | (refine Named.len fun _ _ hq => ?_; (try simp only [List.length_append, List.length_take, List.length_drop, List.length_replicate, List.length_set] at hq); cbv) | (refine Named.mk fun _ _ => ?_; cbv) | (refine Br.t ?_ ?_; (focus first | assumption | lia); cbv) | (refine Br.f ?_ ?_; (focus first | assumption | lia); cbv) | (refine Br.mk (fun _ => ?_) (fun _ => ?_) <;> cbv) | (refine Need.mk ?_ ?_; rotate_left; cbv) | (refine RetThen.mk [] [] ?_; cbv))
      all_goals first | lia | (refine ⟨?_, trivial⟩; lia) | trace_state
    · rw [if_neg ht] at eQ2
      refine go (fn := Go.Proofs.Try.f37) (n := 29) (rv := [ResultVar.tmp 4]) rfl (by decide) rfl (by decide +kernel) rfl rfl (by simp) fun F L C => ?_
      cbv
      (repeat' first | (refine Named.i64 ?_ fun _ _ => ?_; (focus lia); cbv) | (refine Named.len fun _ _ hq => ?_; (try simp only [List.length_append, List.length_take, List.length_drop, List.length_replicate, List.length_set] at hq); cbv) | (refine Named.mk fun _ _ => ?_; cbv) | (refine Br.t ?_ ?_; (focus first | assumption | lia); cbv) | (refine Br.f ?_ ?_; (focus first | assumption | lia); cbv) | (refine Br.mk (fun _ => ?_) (fun _ => ?_) <;> cbv) | (refine Need.mk ?_ ?_; rotate_left; cbv) | (refine RetThen.mk [] [] ?_; cbv))
      all_goals try (clear ih; lia)
      refine LoopThen.mk (C.loopAt (ι := Nat × Int) [(1, 1), (5, 5), (12, 29)] (fun y => [(1, .int .i64 y.2), (4, .int .i64 0), (5, .int .i64 y.1)]) (fun _ => [(256, .box [.int .i64 k, .int .i64 m, .str t, .sl false 0 false 4 (O.o Cels.enc l)])])
        (fun y => y.1 ≤ l.length ∧ 0 ≤ y.2 ∧ y.2 ≤ 5000 ∧ manyCs (l.drop y.1) y.2 = Q) (fun y => N - y.1) (by decide +kernel) (Start.mk (z, x0) [] [] ⟨by show z ≤ _; omega, by show 0 ≤ x0; omega, by show x0 ≤ _; omega, by rw [hz, eQ2, ex0]; rfl⟩ ?_) ?_)
      · cbv
        (repeat' apply And.intro) <;> first | exact True.intro | exact WkR.refl _ | rfl | (clear ih; lia) | trace_state
      intro y g
      cbv
      obtain ⟨i, v⟩ := y
      have g1 : i ≤ l.length := g.1
      have g2 : 0 ≤ v := g.2.1
      have g3 : v ≤ 5000 := g.2.2.1
      have g4 : manyCs (l.drop i) v = Q := g.2.2.2
      clear g
      by_cases hi : i < l.length
      · obtain ⟨e, he⟩ : ∃ e, l[i]? = some e := ⟨l[i], by simp [hi]⟩
        have hdr : manyCs (l.drop i) v = if 4096 < v then v else manyCs (l.drop (i + 1)) (manyC e v) := by
          obtain ⟨_, ee⟩ := List.getElem?_eq_some_iff.1 he
          rw [List.drop_eq_getElem_cons hi, manyCs, ee]
        rw [hdr] at g4
        by_cases hv : 4096 < v
        · rw [if_pos hv] at g4
          clear ih hdr eQ2
          (repeat' first | (refine Named.i64 ?_ fun _ _ => ?_; (focus lia); cbv) | (refine Named.len fun _ _ hq => ?_; (try simp only [List.length_append, List.length_take, List.length_drop, List.length_replicate, List.length_set] at hq); cbv) | (refine Named.mk fun _ _ => ?_; cbv) | (refine Br.t ?_ ?_; (focus first | assumption | lia); cbv) | (refine Br.f ?_ ?_; (focus first | assumption | lia); cbv) | (refine Br.mk (fun _ => ?_) (fun _ => ?_) <;> cbv) | (refine Need.mk ?_ ?_; rotate_left; cbv) | (refine RetThen.mk [] [] ?_; cbv))
          all_goals first | (exfalso; lia) | (refine ⟨?_, trivial⟩; lia) | lia | trace_state
        · rw [if_neg hv] at g4
          have hc := ih e (List.mem_of_getElem? he) v g2 (by omega)
          have hle := manyC_le e v g2 (by omega)
          have hcc : O.o manyC e v = manyC e v := by rw [O.h]
          obtain ⟨w, ew⟩ : ∃ w, w = O.o manyC e v := ⟨_, rfl⟩
          rw [← ew] at hc hcc
          rw [← hcc] at hle g4
          clear ih hdr eQ2 hcc ew
          (repeat' first | (refine Named.i64 ?_ fun _ _ => ?_; (focus lia); cbv) | (refine Ex.cel O he ?_ ?_; (focus lia); cbv) | (refine CallThen.mk _ _ (C.fn (hc)) ?_; cbv) | (refine Back.to (i + 1, w) [] [] ?_ fun _ _ => ?_; rotate_left; cbv) | (refine Named.len fun _ _ hq => ?_; (try simp only [List.length_append, List.length_take, List.length_drop, List.length_replicate, List.length_set] at hq); cbv) | (refine Named.mk fun _ _ => ?_; cbv) | (refine Br.t ?_ ?_; (focus first | assumption | lia); cbv) | (refine Br.f ?_ ?_; (focus first | assumption | lia); cbv) | (refine Br.mk (fun _ => ?_) (fun _ => ?_) <;> cbv) | (refine Need.mk ?_ ?_; rotate_left; cbv) | (refine RetThen.mk [] [] ?_; cbv))
          all_goals try first
            | (exfalso; clear he hc g4; lia)
            | (clear he hc g4; lia)
            | exact ⟨⟨by dsimp only; omega, by dsimp only; omega, by dsimp only; omega, g4⟩, by dsimp only; omega⟩
          all_goals first
            | (rename_i y ey; subst ey; (repeat' apply And.intro) <;> first | exact True.intro | exact WkR.refl _ | rfl | (dsimp only; clear he hc g4; lia))
            | trace_state
      · have hd : l.drop i = [] := List.drop_of_length_le (by omega)
        rw [hd, manyCs] at g4
        clear ih
        (repeat' first | (refine Named.i64 ?_ fun _ _ => ?_; (focus lia); cbv) | (refine Named.len fun _ _ hq => ?_; (try simp only [List.length_append, List.length_take, List.length_drop, List.length_replicate, List.length_set] at hq); cbv) | (refine Named.mk fun _ _ => ?_; cbv) | (refine Br.t ?_ ?_; (focus first | assumption | lia); cbv) | (refine Br.f ?_ ?_; (focus first | assumption | lia); cbv) | (refine Br.mk (fun _ => ?_) (fun _ => ?_) <;> cbv) | (refine Need.mk ?_ ?_; rotate_left; cbv) | (refine RetThen.mk [] [] ?_; cbv))
        all_goals first | (exfalso; lia) | (refine ⟨?_, trivial⟩; lia) | lia | trace_state
theorem rccheck_fn (O : Opq) (c : Cel) (h : c.size ≤ 1099511627776) : Fn prog 21 [.agg (c.en O)] [] [.int .i64 (O.o celErr c)] [] := by
  have h1 := rdepth_fn O 13 c 13 (by omega) h rfl
  have h2 := rkind_fn O _ c (Nat.le_refl _) h
  have h3 := rmany_fn O _ c (Nat.le_refl _) h 0 (by omega) (by omega)
  have hE : O.o celErr c = if 12 < O.o (depthR 13) c then 13 else if O.o pureC c = false then 1 else if 4096 < O.o manyC c 0 then 3 else 0 := by simp only [O.h]; exact celErr_ref c
  obtain ⟨a, ea⟩ : ∃ a, a = O.o (depthR 13) c := ⟨_, rfl⟩
  obtain ⟨b, eb⟩ : ∃ a, a = O.o pureC c := ⟨_, rfl⟩
  obtain ⟨w, ew⟩ : ∃ a, a = O.o manyC c 0 := ⟨_, rfl⟩
  obtain ⟨Q, eQ⟩ : ∃ a, a = O.o celErr c := ⟨_, rfl⟩
  rw [← ea] at h1 hE
  rw [← eb] at h2 hE
  rw [← ew] at h3 hE
  rw [← eQ] at hE ⊢
  clear h ea eb ew eQ
  obtain ⟨k, m, t, l⟩ := c
  cases b
  all_goals
    simp only [if_true, if_false, Bool.false_eq_true, Bool.true_eq_false] at hE
    refine go (fn := Go.Proofs.Try.f21) (n := 11) (rv := [ResultVar.tmp 2]) rfl (by decide) rfl (by decide +kernel) rfl rfl (by simp) fun F L C => ?_
    cbv
    (repeat' first | (refine Named.i64 ?_ fun _ _ => ?_; (focus lia); cbv) | (refine CallThen.mk _ _ (C.fn (h1)) ?_; cbv) | (refine CallThen.mk _ _ (C.fn (h2)) ?_; cbv) | (refine CallThen.mk _ _ (C.fn (h3)) ?_; cbv) | (refine Named.len fun _ _ hq => ?_; (try simp only [List.length_append, List.length_take, List.length_drop, List.length_replicate, List.length_set] at hq); cbv) | (refine Named.mk fun _ _ => ?_; cbv) | (refine Br.t ?_ ?_; (focus first | assumption | lia); cbv) | (refine Br.f ?_ ?_; (focus first | assumption | lia); cbv) | (refine Br.mk (fun _ => ?_) (fun _ => ?_) <;> cbv) | (refine Need.mk ?_ ?_; rotate_left; cbv) | (refine RetThen.mk [] [] ?_; cbv))
    all_goals first
      | (refine ⟨?_, trivial⟩; rw [hE, if_pos (by assumption)]; done)
      | (refine ⟨?_, trivial⟩; rw [hE, if_neg (by assumption)]; done)
      | (refine ⟨?_, trivial⟩; rw [hE, if_neg (by assumption), if_pos (by assumption)]; done)
      | (refine ⟨?_, trivial⟩; rw [hE, if_neg (by assumption), if_neg (by assumption)]; done)
      | trace_state
end Go.Sym
