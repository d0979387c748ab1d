/- Cells that the law leaves out; the laws of cells. -/
import Derived.Test.YtfenjmhhggekaaaDoorCe10
import Derived.Test.YtfenjmhhggekaaaDoorCeArg
import Derived.Test.YtfenjmhhggekaaaDoorPa11
set_option linter.all false
set_option linter.unusedVariables false
set_option linter.unusedSimpArgs false
namespace Go.Sym
open Go Go.Proofs.Tryd
set_option maxRecDepth 100000
theorem Cel.In.len {c : Cel} (h : c.In) : c.list.length ≤ 9223372036854775807 := by cases h with | mk _ _ _ hl _ => exact hl
theorem Cel.In.sub {c : Cel} (h : c.In) : ∀ d ∈ c.list, d.In := by cases h with | mk _ _ _ _ hs => exact hs
theorem Cel.In.txt {c : Cel} (h : c.In) : c.text.size ≤ 9223372036854775807 := by cases h with | mk _ _ ht _ _ => exact ht
theorem ldeep_fn (O : Opq) : ∀ (n : Nat) (c : Cel), n ≤ 100 → c.In → Fn prog 39 [.agg (c.en O), .int .i64 n] [] [.bool (O.o (ldeep n) c)] []
  | 0, c, _, hi => by
    have hq : O.o (ldeep 0) c = true := by rw [O.h]; rfl
    rw [hq]
    obtain ⟨k, m, t, l⟩ := c
    refine go (fn := Go.Proofs.Tryd.f39) (n := 27) (rv := [ResultVar.tmp 4]) rfl (by decide) rfl (by decide +kernel) rfl rfl (by simp) fun F L C => ?_
    cbv
    (repeat' first | (refine Named.i64 ?_ fun _ _ => ?_; (focus lia); cbv) | (refine Named.len fun _ _ hq => ?_; (try simp only [List.length_append, List.length_take, List.length_drop, List.length_replicate, List.length_set] at hq); cbv) | (refine Named.mk fun _ _ => ?_; cbv) | (refine Br.t ?_ ?_; (focus first | assumption | lia); cbv) | (refine Br.f ?_ ?_; (focus first | assumption | lia); cbv) | (refine Br.mk (fun _ => ?_) (fun _ => ?_) <;> cbv) | (refine Need.mk ?_ ?_; rotate_left; cbv) | (refine RetThen.mk [] [] ?_; cbv))
  | n + 1, c, hn, hin => by
    have ih := fun (e : Cel) (he : e ∈ c.list) => ldeep_fn O n e (by omega) (hin.sub e he)
    have hll := hin.len
    have hq : O.o (ldeep (n + 1)) c = (decide (5 < c.list.length) || c.list.any (ldeep n)) := by rw [O.h]; rfl
    obtain ⟨Q, eQ⟩ : ∃ Q, Q = O.o (ldeep (n + 1)) c := ⟨_, rfl⟩
    rw [← eQ] at hq ⊢
    obtain ⟨k, m, t, l⟩ := c
    simp only [Cel.list] at ih hq hll
    have hl1 := Cels.en_len O l
    obtain ⟨N, hN⟩ : ∃ N : Nat, N = l.length := ⟨_, rfl⟩
    obtain ⟨z, hz⟩ : ∃ z : Nat, z = 0 := ⟨_, rfl⟩
    obtain ⟨v, hv⟩ : ∃ v : Int, v = ((n + 1 : Nat) : Int) := ⟨_, rfl⟩
    rw [← hv]
    by_cases h5 : 5 < l.length
    · have hQ : Q = true := by rw [hq]; simp [h5]
      clear ih hq eQ
      refine go (fn := Go.Proofs.Tryd.f39) (n := 27) (rv := [ResultVar.tmp 4]) rfl (by decide) rfl (by decide +kernel) rfl rfl (by simp) fun F L C => ?_
      cbv
      (repeat' first | (refine Named.i64 ?_ fun _ _ => ?_; (focus lia); cbv) | (refine Named.len fun _ _ hq => ?_; (try simp only [List.length_append, List.length_take, List.length_drop, List.length_replicate, List.length_set] at hq); cbv) | (refine Named.mk fun _ _ => ?_; cbv) | (refine Br.t ?_ ?_; (focus first | assumption | lia); cbv) | (refine Br.f ?_ ?_; (focus first | assumption | lia); cbv) | (refine Br.mk (fun _ => ?_) (fun _ => ?_) <;> cbv) | (refine Need.mk ?_ ?_; rotate_left; cbv) | (refine RetThen.mk [] [] ?_; cbv))
      all_goals first
        | exact ⟨hQ, trivial⟩
        | (exfalso; lia)
        | trace_state
    have hq2 : Q = l.any (ldeep n) := by rw [hq]; simp [h5]
    clear hq eQ hin
    refine go (fn := Go.Proofs.Tryd.f39) (n := 27) (rv := [ResultVar.tmp 4]) rfl (by decide) rfl (by decide +kernel) rfl rfl (by simp) fun F L C => ?_
    cbv
    (repeat' first | (refine Named.i64 ?_ fun _ _ => ?_; (focus lia); cbv) | (refine Named.len fun _ _ hq => ?_; (try simp only [List.length_append, List.length_take, List.length_drop, List.length_replicate, List.length_set] at hq); cbv) | (refine Named.mk fun _ _ => ?_; cbv) | (refine Br.t ?_ ?_; (focus first | assumption | lia); cbv) | (refine Br.f ?_ ?_; (focus first | assumption | lia); cbv) | (refine Br.mk (fun _ => ?_) (fun _ => ?_) <;> cbv) | (refine Need.mk ?_ ?_; rotate_left; cbv) | (refine RetThen.mk [] [] ?_; cbv))
    all_goals try (exfalso; clear ih hq2; lia)
    refine LoopThen.mk (C.loopAt (ι := Nat) [(4, 5), (14, 28)] (fun i => [(4, .bool false), (5, .int .i64 i)]) (fun _ => [(256, .box [.int .i64 k, .int .i64 m, .str t, .sl false 0 false 4 (O.o Cels.enc l)])])
      (fun i => i ≤ l.length ∧ ∀ (j : Nat) y, j < i → l[j]? = some y → ldeep n y = false) (fun i => N - i) (by decide +kernel) (Start.mk z [] [] ⟨by lia, fun j y hj => by omega⟩ (by cbv; (repeat' apply And.intro) <;> first | exact True.intro | exact WkR.refl _ | rfl | lia)) ?_)
    intro i g
    cbv
    have g1 : i ≤ l.length := g.1
    have g2 := g.2
    clear g
    by_cases hi : i < l.length
    · obtain ⟨x, hx⟩ : ∃ x, l[i]? = some x := ⟨l[i], by simp [hi]⟩
      have hc := ih x (List.mem_of_getElem? hx)
      have hyes : O.o (ldeep n) x = true → Q = true := fun h => by rw [hq2, List.any_eq_true]; exact ⟨x, List.mem_of_getElem? hx, by rwa [O.h] at h⟩
      have hst : O.o (ldeep n) x = false → ∀ (j : Nat) y, j < i + 1 → l[j]? = some y → ldeep n y = false := fun h => by rw [O.h] at h; exact srch_step g2 hx h
      have hc := fun {w : Int} (hw : w = n) => (show Fn prog 39 [.agg (x.en O), .int .i64 w] [] [.bool (O.o (ldeep n) x)] [] by rw [hw]; exact hc)
      clear ih g2 hq2
      (repeat' first | (refine Named.i64 ?_ fun _ _ => ?_; (focus lia); cbv) | (refine Ex.cel O hx ?_ ?_; (focus lia); cbv) | (refine CallThen.bool (C.fn (hc (by clear hst hyes hx; lia))) (fun _ => ?_) (fun _ => ?_) <;> cbv) | (refine Back.up [] [] ?_ ?_ fun _ _ => ?_; rotate_left 2; cbv; refine And.intro ?_ ?_) | (refine Named.len fun _ _ hq => ?_; (try simp only [List.length_append, List.length_take, List.length_drop, List.length_replicate, List.length_set] at hq); cbv) | (refine Named.mk fun _ _ => ?_; cbv) | (refine Br.t ?_ ?_; (focus first | assumption | lia); cbv) | (refine Br.f ?_ ?_; (focus first | assumption | lia); cbv) | (refine Br.mk (fun _ => ?_) (fun _ => ?_) <;> cbv) | (refine Need.mk ?_ ?_; rotate_left; cbv) | (refine RetThen.mk [] [] ?_; cbv))
      all_goals (repeat' apply And.intro)
      all_goals try first
        | exact True.intro
        | exact WkR.refl _
        | (clear hst hyes hx hc; lia)
      all_goals first
        | exact hyes (by assumption)
        | exact hst (by assumption)
        | trace_state
    · (repeat' first | (refine Named.i64 ?_ fun _ _ => ?_; (focus lia); cbv) | (refine Named.len fun _ _ hq => ?_; (try simp only [List.length_append, List.length_take, List.length_drop, List.length_replicate, List.length_set] at hq); cbv) | (refine Named.mk fun _ _ => ?_; cbv) | (refine Br.t ?_ ?_; (focus first | assumption | lia); cbv) | (refine Br.f ?_ ?_; (focus first | assumption | lia); cbv) | (refine Br.mk (fun _ => ?_) (fun _ => ?_) <;> cbv) | (refine Need.mk ?_ ?_; rotate_left; cbv) | (refine RetThen.mk [] [] ?_; cbv))
      all_goals try (clear ih g2 hq2; lia)
      all_goals
        refine ⟨?_, trivial⟩
        rw [hq2, List.any_eq_false]
        intro x hx
        obtain ⟨j, hj, rfl⟩ := List.getElem_of_mem hx
        simpa using g2 j _ (by omega) (by simp)
theorem rfield_in {c : Cel} (h : c.In) : ∀ f ∈ c.list.map rfieldOf, f.path.size ≤ 9223372036854775807 := by
  intro f hf
  obtain ⟨x, hx, rfl⟩ := List.mem_map.1 hf
  have hx := h.sub x hx
  show (part0 x).text.size ≤ _
  rw [part0]
  cases hl : x.list with
  | nil => simp [noC, Cel.text]
  | cons a l => exact (hx.sub a (by rw [hl]; simp)).txt
set_option maxHeartbeats 1000000 in
theorem paperCells_fn (O : Opq) (d : Doc) (hd : ∀ f ∈ d, f.path.size ≤ 9223372036854775807) (hdl : d.length ≤ 9223372036854775807) : Fn prog 10 [.sl false 0 false 6 (O.o Doc.enc d)] [] [.bool true] [] := by
  have hlen : (O.o Doc.enc d).length = d.length := by rw [O.h, Doc.enc_len]
  by_cases h40 : 40 < d.length
  · refine go (fn := Go.Proofs.Tryd.f10) (n := 53) (rv := [ResultVar.tmp 2]) rfl (by decide) rfl (by decide +kernel) rfl rfl (by simp) fun F L C => ?_
    cbv
    (repeat' first | (refine Named.i64 ?_ fun _ _ => ?_; (focus lia); cbv) | (refine CallThen.mk _ _ (C.fn (awake_fn O)) ?_; cbv) | (refine Named.len fun _ _ hq => ?_; (try simp only [List.length_append, List.length_take, List.length_drop, List.length_replicate, List.length_set] at hq); cbv) | (refine Named.mk fun _ _ => ?_; cbv) | (refine Br.t ?_ ?_; (focus first | assumption | lia); cbv) | (refine Br.f ?_ ?_; (focus first | assumption | lia); cbv) | (refine Br.mk (fun _ => ?_) (fun _ => ?_) <;> cbv) | (refine Need.mk ?_ ?_; rotate_left; cbv) | (refine RetThen.mk [] [] ?_; cbv))
    all_goals first
      | (exfalso; lia)
      | exact ⟨rfl, trivial⟩
      | trace_state
  have hmay := may_fn O d (by omega) hd
  have hcell := pcell_fn O d (by omega)
  have hmm : O.o may d = may d := by rw [O.h]
  cases hm : may d with
  | false =>
    have hr : O.o cellR d = noC := by rw [O.h, cellR, if_neg (by simp [hm])]
    have he : O.o docErr d = 1 := by rw [O.h, docErr, if_neg (by simp [hm])]
    rw [hm] at hmm
    rw [hmm] at hmay
    rw [hr, he] at hcell
    have hs := rsameC_fn O noC noC (by decide)
    have hS : O.o sameCel noC noC = true := by rw [O.h]; exact sameCel_iff.2 rfl
    rw [hS] at hs
    have h0 : O.o Cels.enc [] = [] := by rw [O.h, Cels.enc]
    have hs2 : Fn prog 52 [.agg (noC.en O), .agg [.int .i64 0, .int .i64 0, .str ByteArray.empty, .nils]] [] [.bool true] [] := by
      refine hs.wkA (.cons (.refl _) (.cons (.agg' (.cons (.refl _) (.cons (.refl _) (.cons (.refl _) (.cons (.wk ?_) .nil))))) .nil))
      show Wk (.sl false 0 false 4 (O.o Cels.enc [])) _
      rw [h0]; exact .nil _ _
    clear hs hS hr he hmm
    refine go (fn := Go.Proofs.Tryd.f10) (n := 53) (rv := [ResultVar.tmp 2]) rfl (by decide) rfl (by decide +kernel) rfl rfl (by simp) fun F L C => ?_
    cbv
    (repeat' first | (refine Named.i64 ?_ fun _ _ => ?_; (focus lia); cbv) | (refine CallThen.mk _ _ (C.fn (hmay)) ?_; cbv) | (refine CallThen.mk _ _ (C.fn (hcell)) ?_; cbv) | (refine CallThen.mk _ _ (C.fn (hs2)) ?_; cbv) | (refine CallThen.mk _ _ (C.fn (awake_fn O)) ?_; cbv) | (refine Named.len fun _ _ hq => ?_; (try simp only [List.length_append, List.length_take, List.length_drop, List.length_replicate, List.length_set] at hq); cbv) | (refine Named.mk fun _ _ => ?_; cbv) | (refine Br.t ?_ ?_; (focus first | assumption | lia); cbv) | (refine Br.f ?_ ?_; (focus first | assumption | lia); cbv) | (refine Br.mk (fun _ => ?_) (fun _ => ?_) <;> cbv) | (refine Need.mk ?_ ?_; rotate_left; cbv) | (refine RetThen.mk [] [] ?_; cbv))
    all_goals first
      | (exfalso; lia)
      | exact ⟨rfl, trivial⟩
      | trace_state
  | true =>
    have hr : O.o cellR d = O.o docC d := by simp only [O.h]; rw [cellR, if_pos hm]
    have he : O.o docErr d = 0 := by rw [O.h, docErr, if_pos hm]
    rw [hm] at hmm
    rw [hmm] at hmay
    rw [hr, he] at hcell
    have hsz : (O.o docC d).size ≤ 100 := by rw [O.h]; exact docC_size hm
    have hof := pof_fn O (O.o docC d) (by omega)
    have hk : ofR (docC d) = d ∧ ofE (docC d) = 0 := by rw [ofR, ofE, docOf_docC hm]; exact ⟨rfl, rfl⟩
    rw [show O.o ofR (O.o docC d) = d by simp only [O.h]; exact hk.1, show O.o ofE (O.o docC d) = 0 by simp only [O.h]; exact hk.2] at hof
    have hs := rsameC_fn O (O.o docC d) (O.o docC d) (by omega)
    rw [show O.o sameCel (O.o docC d) (O.o docC d) = true by simp only [O.h]; exact sameCel_iff.2 rfl] at hs
    have hrc := rpcell_fn O d hm
    have hsd := rsame_fn O d d (by omega)
    rw [show O.o sameDoc d d = true by simp only [O.h]; simp [sameDoc]] at hsd
    clear hk hr he hmm
    refine go (fn := Go.Proofs.Tryd.f10) (n := 53) (rv := [ResultVar.tmp 2]) rfl (by decide) rfl (by decide +kernel) rfl rfl (by simp) fun F L C => ?_
    cbv
    (repeat' first | (refine Named.i64 ?_ fun _ _ => ?_; (focus lia); cbv) | (refine CallThen.mk _ _ (C.fn (hmay)) ?_; cbv) | (refine CallThen.mk _ _ (C.fn (hcell)) ?_; cbv) | (refine CallThen.mk _ _ (C.fn (hof)) ?_; cbv) | (refine CallThen.mk _ _ (C.fn (hrc)) ?_; cbv) | (refine CallThen.mk _ _ (C.fn (hs)) ?_; cbv) | (refine CallThen.mk _ _ (C.fn (hsd)) ?_; cbv) | (refine CallThen.mk _ _ (C.fn (awake_fn O)) ?_; cbv) | (refine Named.len fun _ _ hq => ?_; (try simp only [List.length_append, List.length_take, List.length_drop, List.length_replicate, List.length_set] at hq); cbv) | (refine Named.mk fun _ _ => ?_; cbv) | (refine Br.t ?_ ?_; (focus first | assumption | lia); cbv) | (refine Br.f ?_ ?_; (focus first | assumption | lia); cbv) | (refine Br.mk (fun _ => ?_) (fun _ => ?_) <;> cbv) | (refine Need.mk ?_ ?_; rotate_left; cbv) | (refine RetThen.mk [] [] ?_; cbv))
    all_goals first
      | (exfalso; lia)
      | exact ⟨rfl, trivial⟩
      | trace_state
set_option maxHeartbeats 1000000 in
theorem paperOf_fn (O : Opq) (c : Cel) (hin : c.In) : Fn prog 7 [.agg (c.en O)] [] [.bool true] [] := by
  have hln := hin.len
  have hlen := Cels.en_len O c.list
  have hsub := hin.sub
  have hof := fun h => pof_fn O c h
  have hrof := fun h => rof_fn O c h (rfield_in hin)
  have hro := rof_of c
  have hR : O.o rofR c = O.o ofR c := by simp only [O.h]; exact hro.1
  have hB : O.o rofB c = true ↔ O.o ofE c = 0 := by simp only [O.h]; exact hro.2
  rw [hR] at hrof
  have hE : O.o rofB c = false → O.o ofE c = 5 ∧ (O.o ofR c) = [] := fun h => by
    simp only [O.h] at h ⊢
    have : rdocOf c = none := by rw [rofB] at h; cases hx : rdocOf c with
      | none => rfl
      | some _ => rw [hx] at h; cases h
    rw [ofE, ofR, docOf_eq, this]; exact ⟨rfl, rfl⟩
  have hsz : c.list.length ≤ 40 → (∀ (j : Nat) y, j < c.list.length → c.list[j]? = some y → ldeep 4 y = false) → c.size ≤ 1099511627 := fun h1 h2 => by
    have := Cels.size_le (m := 156) (l := c.list) fun x hx => by
      obtain ⟨j, hj, rfl⟩ := List.getElem_of_mem hx
      exact ldeep_size (h2 j _ hj (by simp))
    have h3 : c.list.length * 156 ≤ 40 * 156 := Nat.mul_le_mul_right _ h1
    rw [Cel.size_list]; omega
  have hnone := fun (h : O.o rofB c = false) => none_fn O (O.o ofR c) (O.o ofE c) 5
  have hsd0 := fun h => rsame_fn O (O.o ofR c) (O.o ofR c) h
  have hdl : (O.o ofR c).length ≤ 16 := by
    rw [O.h, ofR, docOf]
    split
    · rename_i h; exact may_len h.2.2.2
    · simp
  have hsd := hsd0 (by omega)
  clear hsd0
  rw [show O.o sameDoc (O.o ofR c) (O.o ofR c) = true by simp only [O.h]; simp [sameDoc]] at hsd
  have hnone2 : O.o rofB c = false → Fn prog 26 [.sl false 0 false 6 (O.o Doc.enc (O.o ofR c)), .int .i64 (O.o ofE c), .int .i64 5] [] [.bool true] [] := fun h => by
    have := hnone h
    rwa [show O.o noneB (O.o ofR c) (O.o ofE c) 5 = true by rw [(hE h).1, (hE h).2]; simp only [O.h]; simp [noneB]] at this
  obtain ⟨D, eD⟩ : ∃ D, D = O.o ofR c := ⟨_, rfl⟩
  obtain ⟨w, ew⟩ : ∃ w, w = O.o ofE c := ⟨_, rfl⟩
  obtain ⟨b, eb⟩ : ∃ b, b = O.o rofB c := ⟨_, rfl⟩
  rw [← eD, ← ew] at hof hnone2
  rw [← eD, ← eb] at hrof
  rw [← eD] at hsd
  rw [← ew, ← eb] at hB
  rw [← eb] at hnone2
  clear hR hE hnone eD ew eb hro hdl hin
  obtain ⟨k, m, t, l⟩ := c
  simp only [Cel.list] at hln hlen hsub hsz
  obtain ⟨N, hN⟩ : ∃ N : Nat, N = l.length := ⟨_, rfl⟩
  obtain ⟨z, hz⟩ : ∃ z : Nat, z = 0 := ⟨_, rfl⟩
  by_cases h40 : 40 < l.length
  · refine go (fn := Go.Proofs.Tryd.f7) (n := 64) (rv := [ResultVar.tmp 2]) rfl (by decide) rfl (by decide +kernel) rfl rfl (by simp) fun F L C => ?_
    cbv
    (repeat' first | (refine Named.i64 ?_ fun _ _ => ?_; (focus lia); cbv) | (refine CallThen.mk _ _ (C.fn (awake_fn O)) ?_; cbv) | (refine Named.len fun _ _ hq => ?_; (try simp only [List.length_append, List.length_take, List.length_drop, List.length_replicate, List.length_set] at hq); cbv) | (refine Named.mk fun _ _ => ?_; cbv) | (refine Br.t ?_ ?_; (focus first | assumption | lia); cbv) | (refine Br.f ?_ ?_; (focus first | assumption | lia); cbv) | (refine Br.mk (fun _ => ?_) (fun _ => ?_) <;> cbv) | (refine Need.mk ?_ ?_; rotate_left; cbv) | (refine RetThen.mk [] [] ?_; cbv))
    all_goals first
      | (exfalso; clear hsub hsz hof hrof; lia)
      | exact ⟨rfl, trivial⟩
      | trace_state
  refine go (fn := Go.Proofs.Tryd.f7) (n := 64) (rv := [ResultVar.tmp 2]) rfl (by decide) rfl (by decide +kernel) rfl rfl (by simp) fun F L C => ?_
  cbv
  (repeat' first | (refine Named.i64 ?_ fun _ _ => ?_; (focus lia); cbv) | (refine Named.len fun _ _ hq => ?_; (try simp only [List.length_append, List.length_take, List.length_drop, List.length_replicate, List.length_set] at hq); cbv) | (refine Named.mk fun _ _ => ?_; cbv) | (refine Br.t ?_ ?_; (focus first | assumption | lia); cbv) | (refine Br.f ?_ ?_; (focus first | assumption | lia); cbv) | (refine Br.mk (fun _ => ?_) (fun _ => ?_) <;> cbv) | (refine Need.mk ?_ ?_; rotate_left; cbv) | (refine RetThen.mk [] [] ?_; cbv))
  all_goals try (exfalso; clear hsub hsz hof hrof; lia)
  refine LoopThen.mk (C.loopAt (ι := Nat) [(2, 3), (13, 36)] (fun i => [(2, .bool false), (3, .int .i64 i)]) (fun _ => [(192, .box [.int .i64 k, .int .i64 m, .str t, .sl false 0 false 4 (O.o Cels.enc l)])])
    (fun i => i ≤ l.length ∧ ∀ (j : Nat) y, j < i → l[j]? = some y → ldeep 4 y = false) (fun i => N - i) (by decide +kernel) (Start.mk z [] [] ⟨by lia, fun j y hj => by omega⟩ (by cbv; (repeat' apply And.intro) <;> first | exact True.intro | exact WkR.refl _ | rfl | lia)) ?_)
  intro i g
  cbv
  have g1 : i ≤ l.length := g.1
  have g2 := g.2
  clear g
  by_cases hi : i < l.length
  · obtain ⟨x, hx⟩ : ∃ x, l[i]? = some x := ⟨l[i], by simp [hi]⟩
    have hc := ldeep_fn O 4 x (by omega) (hsub x (List.mem_of_getElem? hx))
    have hlx := Cels.en_len O x.list
    have hlb := (hsub x (List.mem_of_getElem? hx)).len
    have hst : O.o (ldeep 4) x = false → ∀ (j : Nat) y, j < i + 1 → l[j]? = some y → ldeep 4 y = false := fun h => by rw [O.h] at h; exact srch_step g2 hx h
    obtain ⟨B, eB⟩ : ∃ B, B = O.o (ldeep 4) x := ⟨_, rfl⟩
    rw [← eB] at hc hst
    obtain ⟨kx, mx, tx, lx⟩ := x
    simp only [Cel.list] at hlx hlb
    clear hsub hsz hof hrof hsd hnone2 hB g2 eB
    (repeat' first | (refine Named.i64 ?_ fun _ _ => ?_; (focus lia); cbv) | (refine Ex.cel O hx ?_ ?_; (focus lia); cbv) | (refine CallThen.bool (C.fn (hc)) (fun _ => ?_) (fun _ => ?_) <;> cbv) | (refine CallThen.mk _ _ (C.fn (awake_fn O)) ?_; cbv) | (refine Back.up [] [] ?_ ?_ fun _ _ => ?_; rotate_left 2; cbv; refine And.intro ?_ ?_) | (refine Named.len fun _ _ hq => ?_; (try simp only [List.length_append, List.length_take, List.length_drop, List.length_replicate, List.length_set] at hq); cbv) | (refine Named.mk fun _ _ => ?_; cbv) | (refine Br.t ?_ ?_; (focus first | assumption | lia); cbv) | (refine Br.f ?_ ?_; (focus first | assumption | lia); cbv) | (refine Br.mk (fun _ => ?_) (fun _ => ?_) <;> cbv) | (refine Need.mk ?_ ?_; rotate_left; cbv) | (refine RetThen.mk [] [] ?_; cbv))
    all_goals (repeat' apply And.intro)
    all_goals try first
      | exact True.intro
      | exact WkR.refl _
      | (clear hst hx hc; lia)
    all_goals first
      | exact hst (by assumption)
      | trace_state
  · have hs := hsz (by omega) fun j y h => g2 j y (by omega)
    have hof := hof hs
    have hrof := hrof hs
    clear hsz hsub g2 hs
    cases hb : b with
    | false =>
      rw [hb] at hrof hB
      have hnone := hnone2 hb
      have hw : w ≠ 0 := fun h => by have := hB.2 h; cases this
      clear hB hnone2 hsd
      (repeat' first | (refine Named.i64 ?_ fun _ _ => ?_; (focus lia); cbv) | (refine CallThen.mk _ _ (C.fn (hof)) ?_; cbv) | (refine CallThen.mk _ _ (C.fn (hrof)) ?_; cbv) | (refine CallThen.mk _ _ (C.fn (hnone)) ?_; cbv) | (refine CallThen.mk _ _ (C.fn (awake_fn O)) ?_; cbv) | (refine Named.len fun _ _ hq => ?_; (try simp only [List.length_append, List.length_take, List.length_drop, List.length_replicate, List.length_set] at hq); cbv) | (refine Named.mk fun _ _ => ?_; cbv) | (refine Br.t ?_ ?_; (focus first | assumption | lia); cbv) | (refine Br.f ?_ ?_; (focus first | assumption | lia); cbv) | (refine Br.mk (fun _ => ?_) (fun _ => ?_) <;> cbv) | (refine Need.mk ?_ ?_; rotate_left; cbv) | (refine RetThen.mk [] [] ?_; cbv))
      all_goals first
        | (exfalso; lia)
        | exact ⟨rfl, trivial⟩
        | trace_state
    | true =>
      rw [hb] at hrof hB
      have hw : w = 0 := hB.1 rfl
      clear hB hnone2
      (repeat' first | (refine Named.i64 ?_ fun _ _ => ?_; (focus lia); cbv) | (refine CallThen.mk _ _ (C.fn (hof)) ?_; cbv) | (refine CallThen.mk _ _ (C.fn (hrof)) ?_; cbv) | (refine CallThen.mk _ _ (C.fn (hsd)) ?_; cbv) | (refine CallThen.mk _ _ (C.fn (awake_fn O)) ?_; cbv) | (refine Named.len fun _ _ hq => ?_; (try simp only [List.length_append, List.length_take, List.length_drop, List.length_replicate, List.length_set] at hq); cbv) | (refine Named.mk fun _ _ => ?_; cbv) | (refine Br.t ?_ ?_; (focus first | assumption | lia); cbv) | (refine Br.f ?_ ?_; (focus first | assumption | lia); cbv) | (refine Br.mk (fun _ => ?_) (fun _ => ?_) <;> cbv) | (refine Need.mk ?_ ?_; rotate_left; cbv) | (refine RetThen.mk [] [] ?_; cbv))
      all_goals first
        | (exfalso; lia)
        | exact ⟨rfl, trivial⟩
        | trace_state
end Go.Sym
