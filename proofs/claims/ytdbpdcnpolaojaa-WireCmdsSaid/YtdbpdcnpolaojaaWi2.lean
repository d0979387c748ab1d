/- Commands as bytes. -/
import Derived.Test.YtdbpdcnpolaojaaWi1
set_option linter.all false
set_option linter.unusedVariables false
set_option linter.unusedSimpArgs false
namespace Go.Sym
open Go Go.Proofs.Try
set_option maxRecDepth 100000
theorem wcmd_fn (O : Opq) (c : WCmd) (hl : c.nodes.length ≤ 1099511) : Fn prog 10 [.agg (c.enc O)] [] [.agg ((O.o cmdC c).en O)] [] := by
  rw [cmdC_en]
  refine go (fn := Go.Proofs.Try.f10) (n := 22) (rv := [ResultVar.cell 2 39]) rfl (by decide) rfl (by decide +kernel) rfl rfl (by simp) fun F L C => ?_
  cbv
  (repeat' first | (refine Named.i64 ?_ fun _ _ => ?_; (focus lia); cbv) | (refine CallThen.mk _ _ (C.fn (cnum_fn O _)) ?_; cbv) | (refine CallThen.mk _ _ (C.fn (ctext_fn O _)) ?_; cbv) | (refine CallThen.mk _ _ (C.fn (eachInt_fn O numC _ c.nodes hl (fun x _ => by rw [O.h]; exact cnum_fn O x))) ?_; cbv) | (refine CallThen.mk _ _ (C.fn (clist_fn _ _ _ (by simp))) ?_; cbv) | (refine Named.len fun _ _ hq => ?_; (try simp only [List.length_append, List.length_take, List.length_drop, List.length_replicate, List.length_set] at hq); cbv) | (refine Named.mk fun _ _ => ?_; cbv) | (refine Br.t ?_ ?_; (focus first | assumption | lia); cbv) | (refine Br.f ?_ ?_; (focus first | assumption | lia); cbv) | (refine Br.mk (fun _ => ?_) (fun _ => ?_) <;> cbv) | (refine Need.mk ?_ ?_; rotate_left; cbv) | (refine RetThen.mk [] [] ?_; cbv))
  all_goals first
    | exact ⟨.refl _, trivial⟩
    | trace_state
theorem wencode_fn (O : Opq) (c : Cel) (h : c.size ≤ 1099511627) : Fn prog 9 [.agg (c.en O)] [] [.sl false 0 false 1 (O.o bts (O.o wB c)), .int .i64 (O.o wE c)] [] := by
  have hen := encode_fn O c h
  have h00 : O.o bts [] = [] := by rw [O.h]; rfl
  have hlen : (O.o bts (O.o encB c)).length = (O.o encB c).length := by rw [O.h, bts_len]
  have hgood : O.o encE c = 0 → (O.o encB c).length ≤ 16384 → O.o wE c = 0 ∧ O.o bts (O.o wB c) = O.o bts (O.o encB c) := fun h1 h2 => by
    simp only [O.h] at h1 h2 ⊢
    have h3 := h1
    rw [encB, if_pos h1] at h2 ⊢
    rw [encE] at h3
    split at h3
    · rename_i h4; exact absurd h3 h4
    · rename_i h4
      have h5 : wE c = 0 := by rw [wE, if_pos ⟨by simpa using h4, h2⟩]
      rw [wB, if_pos h5]; exact ⟨h5, rfl⟩
  have hbad : ¬ (O.o encE c = 0 ∧ (O.o encB c).length ≤ 16384) → O.o wE c = 1 ∧ O.o wB c = [] := fun h1 => by
    simp only [O.h] at h1 ⊢
    have h5 : wE c = 1 := by
      rw [wE, if_neg]
      rintro ⟨h2, h3⟩
      have he : encE c = 0 := by rw [encE, if_neg (by simp [h2]), if_pos (by omega)]
      exact h1 ⟨he, by rw [encB, if_pos he]; exact h3⟩
    rw [wB, if_neg (by rw [h5]; decide)]; exact ⟨h5, rfl⟩
  obtain ⟨e, ee⟩ : ∃ e, e = O.o encE c := ⟨_, rfl⟩
  obtain ⟨B, eB⟩ : ∃ B, B = O.o encB c := ⟨_, rfl⟩
  rw [← ee, ← eB] at hen hgood hbad
  rw [← eB] at hlen
  clear ee eB
  by_cases hg : e = 0 ∧ B.length ≤ 16384
  · obtain ⟨h1, h2⟩ := hgood hg.1 hg.2
    rw [h1, h2]
    obtain ⟨g1, g2⟩ := hg
    clear hgood hbad h1 h2
    obtain ⟨k, n, t, l⟩ := c
    refine go (fn := Go.Proofs.Try.f9) (n := 18) (rv := [ResultVar.tmp 2, ResultVar.tmp 3]) rfl (by decide) rfl (by decide +kernel) rfl rfl (by simp) fun F L C => ?_
    cbv
    (repeat' first | (refine Named.i64 ?_ fun _ _ => ?_; (focus lia); cbv) | (refine CallThen.mk _ _ (C.fn (hen)) ?_; cbv) | (refine Named.len fun _ _ hq => ?_; (try simp only [List.length_append, List.length_take, List.length_drop, List.length_replicate, List.length_set] at hq); cbv) | (refine Named.mk fun _ _ => ?_; cbv) | (refine Br.t ?_ ?_; (focus first | assumption | lia); cbv) | (refine Br.f ?_ ?_; (focus first | assumption | lia); cbv) | (refine Br.mk (fun _ => ?_) (fun _ => ?_) <;> cbv) | (refine Need.mk ?_ ?_; rotate_left; cbv) | (refine RetThen.mk [] [] ?_; cbv))
    all_goals first
      | exact ⟨.refl _, trivial⟩
      | (exfalso; clear hen; lia)
      | trace_state
  · obtain ⟨h1, h2⟩ := hbad hg
    rw [h1, h2, h00]
    clear hgood hbad h1 h2
    obtain ⟨k, n, t, l⟩ := c
    refine go (fn := Go.Proofs.Try.f9) (n := 18) (rv := [ResultVar.tmp 2, ResultVar.tmp 3]) rfl (by decide) rfl (by decide +kernel) rfl rfl (by simp) fun F L C => ?_
    cbv
    (repeat' first | (refine Named.i64 ?_ fun _ _ => ?_; (focus lia); cbv) | (refine CallThen.mk _ _ (C.fn (hen)) ?_; cbv) | (refine Named.len fun _ _ hq => ?_; (try simp only [List.length_append, List.length_take, List.length_drop, List.length_replicate, List.length_set] at hq); cbv) | (refine Named.mk fun _ _ => ?_; cbv) | (refine Br.t ?_ ?_; (focus first | assumption | lia); cbv) | (refine Br.f ?_ ?_; (focus first | assumption | lia); cbv) | (refine Br.mk (fun _ => ?_) (fun _ => ?_) <;> cbv) | (refine Need.mk ?_ ?_; rotate_left; cbv) | (refine RetThen.mk [] [] ?_; cbv))
    all_goals first
      | exact ⟨rfl, trivial⟩
      | (exfalso; clear hen; lia)
      | trace_state
theorem wCmd_fn (O : Opq) (c : WCmd) (hl : c.nodes.length ≤ 1099511) : Fn prog 5 [.agg (c.enc O)] [] [.sl false 0 false 1 (O.o bts (O.o wB (O.o cmdC c))), .int .i64 (O.o wE (O.o cmdC c))] [] := by
  have h1 := wcmd_fn O c hl
  have h2 := wencode_fn O (O.o cmdC c) (by rw [O.h, cmdC_size]; omega)
  obtain ⟨x, ex⟩ : ∃ x, x = O.o cmdC c := ⟨_, rfl⟩
  rw [← ex] at h1 h2 ⊢
  refine go (fn := Go.Proofs.Try.f5) (n := 8) (rv := [ResultVar.tmp 2, ResultVar.tmp 3]) rfl (by decide) rfl (by decide +kernel) rfl rfl (by simp) fun F L C => ?_
  cbv
  (repeat' first | (refine Named.i64 ?_ fun _ _ => ?_; (focus lia); cbv) | (refine CallThen.mk _ _ (C.fn (h1)) ?_; cbv) | (refine CallThen.mk _ _ (C.fn (h2)) ?_; cbv) | (refine Named.len fun _ _ hq => ?_; (try simp only [List.length_append, List.length_take, List.length_drop, List.length_replicate, List.length_set] at hq); cbv) | (refine Named.mk fun _ _ => ?_; cbv) | (refine Br.t ?_ ?_; (focus first | assumption | lia); cbv) | (refine Br.f ?_ ?_; (focus first | assumption | lia); cbv) | (refine Br.mk (fun _ => ?_) (fun _ => ?_) <;> cbv) | (refine Need.mk ?_ ?_; rotate_left; cbv) | (refine RetThen.mk [] [] ?_; cbv))
  all_goals exact ⟨.refl _, trivial⟩
theorem wparts_fn (O : Opq) (n : Nat) (b : Bool) (c : Cel) (w : Int) (hw : w = n) (hn : n ≤ 1000) (hl : c.list.length ≤ 1099511627776) : Fn prog 28 [.ptr 0 0, .agg (c.en O), .int .i64 w] [.box [.bool b]] [.sl false 0 false 4 (O.o Cels.enc (O.o (partsC n) c))] [.box [.bool (O.o (partsBad n b) c)]] := by
  have hlen := Cels.en_len O c.list
  have hy : c.kind = 3 ∧ c.list.length = n → O.o (partsBad n b) c = b ∧ O.o Cels.enc (O.o (partsC n) c) = O.o Cels.enc c.list := fun h => by
    simp only [O.h]; rw [partsBad, partsC, if_pos h]; simp [h]
  have hno : ¬ (c.kind = 3 ∧ c.list.length = n) → O.o (partsBad n b) c = true ∧ WkR (O.o Cels.enc (O.o (partsC n) c)) (List.replicate n [.int .i64 0, .int .i64 0, .str ByteArray.empty, .nils]) := fun h => by
    simp only [O.h]
    constructor
    · rw [partsBad]; simp only [decide_eq_false h]; simp
    · rw [partsC, if_neg h, Cels.enc_map, List.map_replicate]
      refine ⟨by simp, fun i r r' h1 h2 => ?_⟩
      rw [List.getElem?_replicate] at h1 h2
      split at h1
      · rename_i hi
        rw [if_pos hi] at h2
        cases h1; cases h2
        rw [noC, Cel.enc, Cels.enc]
        exact .cons (.refl _) (.cons (.refl _) (.cons (.refl _) (.cons (.nil _ _) (.refl _))))
      · cases h1
  obtain ⟨Q, eQ⟩ : ∃ Q, Q = O.o Cels.enc (O.o (partsC n) c) := ⟨_, rfl⟩
  obtain ⟨B, eB⟩ : ∃ B, B = O.o (partsBad n b) c := ⟨_, rfl⟩
  rw [← eQ, ← eB] at hy hno ⊢
  clear eQ eB
  obtain ⟨k, m, t, l⟩ := c
  replace hlen : (O.o Cels.enc l).length = l.length := hlen
  replace hl : l.length ≤ 1099511627776 := hl
  replace hy : k = 3 ∧ l.length = n → B = b ∧ Q = O.o Cels.enc l := hy
  replace hno : ¬ (k = 3 ∧ l.length = n) → B = true ∧ WkR Q (List.replicate n [.int .i64 0, .int .i64 0, .str ByteArray.empty, .nils]) := hno
  by_cases hg : k = 3 ∧ l.length = n
  · obtain ⟨h1, h2⟩ := hy hg
    obtain ⟨g1, g2⟩ := hg
    clear hy hno
    refine go (fn := Go.Proofs.Try.f28) (n := 21) (rv := [ResultVar.tmp 6]) rfl (by decide) rfl (by decide +kernel) rfl rfl (by simp) fun F L C => ?_
    cbv
    (repeat' first | (refine Named.i64 ?_ fun _ _ => ?_; (focus lia); cbv) | (refine Named.len fun _ _ hq => ?_; (try simp only [List.length_append, List.length_take, List.length_drop, List.length_replicate, List.length_set] at hq); cbv) | (refine Named.mk fun _ _ => ?_; cbv) | (refine Br.t ?_ ?_; (focus first | assumption | lia); cbv) | (refine Br.f ?_ ?_; (focus first | assumption | lia); cbv) | (refine Br.mk (fun _ => ?_) (fun _ => ?_) <;> cbv) | (refine Need.mk ?_ ?_; rotate_left; cbv) | (refine RetThen.mk [] [] ?_; cbv))
    all_goals first
      | (exfalso; clear h2; lia)
      | exact ⟨h1, .of_eq h2, trivial⟩
      | trace_state
  · obtain ⟨h1, h2⟩ := hno hg
    clear hy hno
    refine go (fn := Go.Proofs.Try.f28) (n := 21) (rv := [ResultVar.tmp 6]) rfl (by decide) rfl (by decide +kernel) rfl rfl (by simp) fun F L C => ?_
    cbv
    (repeat' first | (refine Named.i64 ?_ fun _ _ => ?_; (focus lia); cbv) | (refine RetThen.mk [] [1472] ?_; cbv) | (refine Named.len fun _ _ hq => ?_; (try simp only [List.length_append, List.length_take, List.length_drop, List.length_replicate, List.length_set] at hq); cbv) | (refine Named.mk fun _ _ => ?_; cbv) | (refine Br.t ?_ ?_; (focus first | assumption | lia); cbv) | (refine Br.f ?_ ?_; (focus first | assumption | lia); cbv) | (refine Br.mk (fun _ => ?_) (fun _ => ?_) <;> cbv) | (refine Need.mk ?_ ?_; rotate_left; cbv) | (refine RetThen.mk [] [] ?_; cbv))
    all_goals first
      | (exfalso; clear h2; lia)
      | (clear h2; lia)
      | (refine ⟨h1, ?_, trivial⟩; rename_i R hR; rw [hR, show w.toNat = n by clear h2; lia]; exact h2)
      | (refine ⟨h1, Named.mk fun rs e => ⟨?_, by cbv⟩⟩; rename_i R hR; rw [e, hR, show w.toNat = n by clear h2; lia]; exact h2)
      | trace_state
theorem wnum_fn (O : Opq) (b : Bool) (c : Cel) : Fn prog 29 [.ptr 0 0, .agg (c.en O)] [.box [.bool b]] [.int .i64 c.num] [.box [.bool (O.o (numBad b) c)]] := by
  have h1 : b = true → O.o (numBad b) c = true := fun h => by rw [O.h, numBad, h]; rfl
  have h2 : c.kind ≠ 1 → O.o (numBad b) c = true := fun h => by rw [O.h, numBad]; simp [h]
  have h3 : c.kind = 1 → O.o (numBad b) c = b := fun h => by rw [O.h, numBad]; simp [h]
  obtain ⟨B, eB⟩ : ∃ B, B = O.o (numBad b) c := ⟨_, rfl⟩
  rw [← eB] at h1 h2 h3 ⊢
  clear eB
  obtain ⟨k, m, t, l⟩ := c
  cases b
  all_goals
    refine go (fn := Go.Proofs.Try.f29) (n := 17) (rv := [ResultVar.tmp 4]) rfl (by decide) rfl (by decide +kernel) rfl rfl (by simp) fun F L C => ?_
    cbv
    (repeat' first | (refine Named.i64 ?_ fun _ _ => ?_; (focus lia); cbv) | (refine Named.len fun _ _ hq => ?_; (try simp only [List.length_append, List.length_take, List.length_drop, List.length_replicate, List.length_set] at hq); cbv) | (refine Named.mk fun _ _ => ?_; cbv) | (refine Br.t ?_ ?_; (focus first | assumption | lia); cbv) | (refine Br.f ?_ ?_; (focus first | assumption | lia); cbv) | (refine Br.mk (fun _ => ?_) (fun _ => ?_) <;> cbv) | (refine Need.mk ?_ ?_; rotate_left; cbv) | (refine RetThen.mk [] [] ?_; cbv))
    all_goals first
      | exact ⟨h1 rfl, rfl, trivial⟩
      | exact ⟨h1 rfl, trivial⟩
      | exact ⟨h2 (by assumption), rfl, trivial⟩
      | exact ⟨h2 (by assumption), trivial⟩
      | exact ⟨h3 (by assumption), trivial⟩
      | trace_state
theorem wtext_fn (O : Opq) (b : Bool) (c : Cel) : Fn prog 30 [.ptr 0 0, .agg (c.en O)] [.box [.bool b]] [.str c.text] [.box [.bool (O.o (textBad b) c)]] := by
  have h1 : b = true → O.o (textBad b) c = true := fun h => by rw [O.h, textBad, h]; rfl
  have h2 : c.kind ≠ 2 → O.o (textBad b) c = true := fun h => by rw [O.h, textBad]; simp [h]
  have h3 : c.kind = 2 → O.o (textBad b) c = b := fun h => by rw [O.h, textBad]; simp [h]
  obtain ⟨B, eB⟩ : ∃ B, B = O.o (textBad b) c := ⟨_, rfl⟩
  rw [← eB] at h1 h2 h3 ⊢
  clear eB
  obtain ⟨k, m, t, l⟩ := c
  cases b
  all_goals
    refine go (fn := Go.Proofs.Try.f30) (n := 17) (rv := [ResultVar.tmp 4]) rfl (by decide) rfl (by decide +kernel) rfl rfl (by simp) fun F L C => ?_
    cbv
    (repeat' first | (refine Named.i64 ?_ fun _ _ => ?_; (focus lia); cbv) | (refine Named.len fun _ _ hq => ?_; (try simp only [List.length_append, List.length_take, List.length_drop, List.length_replicate, List.length_set] at hq); cbv) | (refine Named.mk fun _ _ => ?_; cbv) | (refine Br.t ?_ ?_; (focus first | assumption | lia); cbv) | (refine Br.f ?_ ?_; (focus first | assumption | lia); cbv) | (refine Br.mk (fun _ => ?_) (fun _ => ?_) <;> cbv) | (refine Need.mk ?_ ?_; rotate_left; cbv) | (refine RetThen.mk [] [] ?_; cbv))
    all_goals first
      | exact ⟨h1 rfl, rfl, trivial⟩
      | exact ⟨h1 rfl, trivial⟩
      | exact ⟨h2 (by assumption), rfl, trivial⟩
      | exact ⟨h2 (by assumption), trivial⟩
      | exact ⟨h3 (by assumption), trivial⟩
      | trace_state
set_option maxHeartbeats 1000000 in
theorem wrcmd_fn (O : Opq) (b : Bool) (c : Cel) (h : c.size ≤ 1099511) : Fn prog 14 [.ptr 0 0, .agg (c.en O)] [.box [.bool b]] [.agg (WCmd.enc O (O.o cmdOf c))] [.box [.bool (O.o (cmdBad b) c)]] := by
  have hll : c.list.length ≤ 1099511 := Nat.le_trans (Cel.len_size c) h
  have hp := wparts_fn O 6 b c 6 rfl (by omega) (by omega)
  have hpl := partsC_len 6 c
  have hsz : ∀ i, (at' (partsC 6 c) i).list.length ≤ 1099511 := fun i => by
    rw [at', List.getD_eq_getElem?_getD]
    cases hx : (partsC 6 c)[i]? with
    | none => simp [noC, Cel.list]
    | some x =>
      have hm := List.mem_of_getElem? hx
      simp only [Option.getD_some]
      unfold partsC at hm
      split at hm
      · have := Cels.size_mem hm
        have := Cel.size_list c
        have := Cel.len_size x
        omega
      · rw [(List.mem_replicate.1 hm).2]; simp [noC, Cel.list]
  have hx : O.o cmdOf c = ⟨(at' (partsC 6 c) 0).num, (at' (partsC 6 c) 1).num, (at' (partsC 6 c) 2).num, (at' (partsC 6 c) 3).num, (at' (partsC 6 c) 4).text, O.o (List.map Cel.num) (at' (partsC 6 c) 5).list⟩ := by simp only [O.h]; rfl
  have hb : O.o (cmdBad b) c = O.o (listBad numBad (O.o (textBad (O.o (numBad (O.o (numBad (O.o (numBad (O.o (numBad (O.o (partsBad 6 b) c)) (at' (partsC 6 c) 0))) (at' (partsC 6 c) 1))) (at' (partsC 6 c) 2))) (at' (partsC 6 c) 3))) (at' (partsC 6 c) 4))) (at' (partsC 6 c) 5) := by simp only [O.h]; rfl
  rw [hx, hb]
  have hPl : (O.o Cels.enc (O.o (partsC 6) c)).length = 6 := by rw [Cels.en_len, O.h, hpl]
  have ho : O.o (partsC 6) c = partsC 6 c := by rw [O.h]
  rw [ho] at hp hPl
  obtain ⟨B0, e0⟩ : ∃ B, B = O.o (partsBad 6 b) c := ⟨_, rfl⟩
  rw [← e0] at hp ⊢
  obtain ⟨P, eP⟩ : ∃ P, P = partsC 6 c := ⟨_, rfl⟩
  rw [← eP] at hp hpl hPl hsz ⊢
  have a0 := at_some (l := P) (i := 0) (by omega)
  have a1 := at_some (l := P) (i := 1) (by omega)
  have a2 := at_some (l := P) (i := 2) (by omega)
  have a3 := at_some (l := P) (i := 3) (by omega)
  have a4 := at_some (l := P) (i := 4) (by omega)
  have a5 := at_some (l := P) (i := 5) (by omega)
  have s5 := hsz 5
  obtain ⟨p0, e0⟩ : ∃ p, p = at' P 0 := ⟨_, rfl⟩
  obtain ⟨p1, e1⟩ : ∃ p, p = at' P 1 := ⟨_, rfl⟩
  obtain ⟨p2, e2⟩ : ∃ p, p = at' P 2 := ⟨_, rfl⟩
  obtain ⟨p3, e3⟩ : ∃ p, p = at' P 3 := ⟨_, rfl⟩
  obtain ⟨p4, e4⟩ : ∃ p, p = at' P 4 := ⟨_, rfl⟩
  obtain ⟨p5, e5⟩ : ∃ p, p = at' P 5 := ⟨_, rfl⟩
  rw [← e0] at a0
  rw [← e1] at a1
  rw [← e2] at a2
  rw [← e3] at a3
  rw [← e4] at a4
  rw [← e5] at a5 s5
  rw [← e0, ← e1, ← e2, ← e3, ← e4, ← e5]
  have hlst := fun b => listInt_fn O Cel.num numBad 29 b p5 s5 (fun x _ b => wnum_fn O b x)
  clear hx hb eP e1 e2 e3 e4 e5 e0 hsz hpl ho
  obtain ⟨k, m, t, l⟩ := c
  refine go (fn := Go.Proofs.Try.f14) (n := 40) (rv := [ResultVar.cell 4 24]) rfl (by decide) rfl (by decide +kernel) rfl rfl (by simp) fun F L C => ?_
  cbv
  (repeat' first | (refine Named.i64 ?_ fun _ _ => ?_; (focus lia); cbv) | (refine CallThen.mk _ _ (C.fn (hp)) ?_; cbv) | (refine Ex.cel O a0 ?_ ?_; (focus lia); cbv) | (refine Ex.cel O a1 ?_ ?_; (focus lia); cbv) | (refine Ex.cel O a2 ?_ ?_; (focus lia); cbv) | (refine Ex.cel O a3 ?_ ?_; (focus lia); cbv) | (refine Ex.cel O a4 ?_ ?_; (focus lia); cbv) | (refine Ex.cel O a5 ?_ ?_; (focus lia); cbv) | (refine CallThen.mk _ _ (C.fn (wnum_fn O _ p0)) ?_; cbv) | (refine CallThen.mk _ _ (C.fn (wnum_fn O _ p1)) ?_; cbv) | (refine CallThen.mk _ _ (C.fn (wnum_fn O _ p2)) ?_; cbv) | (refine CallThen.mk _ _ (C.fn (wnum_fn O _ p3)) ?_; cbv) | (refine CallThen.mk _ _ (C.fn (wtext_fn O _ p4)) ?_; cbv) | (refine CallThen.mk _ _ (C.fn (hlst _)) ?_; cbv) | (refine Named.len fun _ _ hq => ?_; (try simp only [List.length_append, List.length_take, List.length_drop, List.length_replicate, List.length_set] at hq); cbv) | (refine Named.mk fun _ _ => ?_; cbv) | (refine Br.t ?_ ?_; (focus first | assumption | lia); cbv) | (refine Br.f ?_ ?_; (focus first | assumption | lia); cbv) | (refine Br.mk (fun _ => ?_) (fun _ => ?_) <;> cbv) | (refine Need.mk ?_ ?_; rotate_left; cbv) | (refine RetThen.mk [] [] ?_; cbv))
  all_goals first
    | (clear hp a0 a1 a2 a3 a4 a5 hlst; lia)
    | ((repeat' apply And.intro) <;> first | exact True.intro | exact WkR.refl _ | rfl | trace_state)
set_option maxHeartbeats 1000000 in
theorem readCmd_fn (O : Opq) (q : Cel → WCmd) (bad : Bool → Cel → Bool) (zero : WCmd) (b : List UInt8) (hb : b.length ≤ 1099511627776) (hz : zero = ⟨0, 0, 0, 0, ByteArray.empty, []⟩ ∧ O.o Ints.enc [] = [])
    (hof : celErr (O.o decV b) = 0 → Fn prog 14 [.ptr 0 0, .agg ((O.o decV b).en O)] [.box [.bool false]] [.agg (WCmd.enc O (O.o q (O.o decV b)))] [.box [.bool (O.o (bad false) (O.o decV b))]]) :
    Fn prog 13 [.sl true 0 false 1 (O.o bts b), .fn 14 [] []] [] [.agg (WCmd.enc O (O.o (rdV q bad zero) b)), .int .i64 (O.o (rdE bad) b)] [] := by
  have hlen : (O.o bts b).length = b.length := by rw [O.h, bts_len]
  have hdec := decode_fn O b hb
  have hde : O.o decE b = decE b := by rw [O.h]
  have hdz : O.o decE b = 0 → celErr (O.o decV b) = 0 := fun h => by rw [hde] at h; rw [O.h]; exact (decE_zero h).1
  have hok : b.length ≤ 16384 → O.o decE b = 0 → O.o (bad false) (O.o decV b) = false → O.o (rdV q bad zero) b = O.o q (O.o decV b) ∧ O.o (rdE bad) b = 0 := fun h1 h2 h3 => by
    simp only [O.h] at h2 h3 ⊢
    have : rdOk bad b = true := by rw [rdOk, h3, h2]; simp [h1]
    rw [rdV, rdE, if_pos this, if_pos this]; exact ⟨rfl, rfl⟩
  have hno : ¬ (b.length ≤ 16384 ∧ O.o decE b = 0 ∧ O.o (bad false) (O.o decV b) = false) → O.o (rdV q bad zero) b = zero ∧ O.o (rdE bad) b = 5 := fun h => by
    simp only [O.h] at h ⊢
    have : ¬ rdOk bad b = true := fun k => h (by
      simp only [rdOk, Bool.and_eq_true, decide_eq_true_eq, Bool.not_eq_true'] at k; exact ⟨k.1.1, k.1.2, k.2⟩)
    rw [rdV, rdE, if_neg this, if_neg this]; exact ⟨rfl, rfl⟩
  obtain ⟨C0, eC⟩ : ∃ c, c = O.o decV b := ⟨_, rfl⟩
  obtain ⟨e, ee⟩ : ∃ e, e = O.o decE b := ⟨_, rfl⟩
  obtain ⟨B, eB⟩ : ∃ B, B = O.o (bad false) (O.o decV b) := ⟨_, rfl⟩
  rw [← eB] at hof hok hno
  rw [← eC] at hof hdec hdz hok
  rw [← ee] at hdec hdz hok hno
  obtain ⟨X, eX⟩ : ∃ X, X = O.o q C0 := ⟨_, rfl⟩
  rw [← eX] at hok hof
  have hof := fun h => hof (hdz h)
  clear eC ee eB hde hdz eX
  by_cases hg : b.length ≤ 16384 ∧ e = 0 ∧ B = false
  · obtain ⟨h1, h2⟩ := hok hg.1 hg.2.1 hg.2.2
    rw [h1, h2]
    obtain ⟨g1, g2, g3⟩ := hg
    have hof := hof g2
    rw [g3] at hof
    clear hok hno h1 h2
    obtain ⟨k0, n0, t0, l0⟩ := C0
    refine go (fn := Go.Proofs.Try.f13) (n := 34) (rv := [ResultVar.cell 4 24, ResultVar.tmp 5]) rfl (by decide) rfl (by decide +kernel) rfl rfl (by simp) fun F L C => ?_
    cbv
    (repeat' first | (refine Named.i64 ?_ fun _ _ => ?_; (focus lia); cbv) | (refine CallThen.mk _ _ (C.fn (hdec)) ?_; cbv) | (refine CallThen.mk _ _ (C.fn (hof)) ?_; cbv) | (refine Named.len fun _ _ hq => ?_; (try simp only [List.length_append, List.length_take, List.length_drop, List.length_replicate, List.length_set] at hq); cbv) | (refine Named.mk fun _ _ => ?_; cbv) | (refine Br.t ?_ ?_; (focus first | assumption | lia); cbv) | (refine Br.f ?_ ?_; (focus first | assumption | lia); cbv) | (refine Br.mk (fun _ => ?_) (fun _ => ?_) <;> cbv) | (refine Need.mk ?_ ?_; rotate_left; cbv) | (refine RetThen.mk [] [] ?_; cbv))
    all_goals first
      | (exfalso; clear hdec hof; lia)
      | ((repeat' apply And.intro) <;> first | exact True.intro | exact WkR.refl _ | rfl)
      | trace_state
  · obtain ⟨h1, h2⟩ := hno hg
    rw [h1, h2]
    clear hok hno h1 h2
    obtain ⟨k0, n0, t0, l0⟩ := C0
    cases B
    all_goals
      refine go (fn := Go.Proofs.Try.f13) (n := 34) (rv := [ResultVar.cell 4 24, ResultVar.tmp 5]) rfl (by decide) rfl (by decide +kernel) rfl rfl (by simp) fun F L C => ?_
      cbv
      (repeat' first | (refine Named.i64 ?_ fun _ _ => ?_; (focus lia); cbv) | (refine CallThen.mk _ _ (C.fn (hdec)) ?_; cbv) | (refine CallThen.mk _ _ (C.fn (hof (by assumption))) ?_; cbv) | (refine Named.len fun _ _ hq => ?_; (try simp only [List.length_append, List.length_take, List.length_drop, List.length_replicate, List.length_set] at hq); cbv) | (refine Named.mk fun _ _ => ?_; cbv) | (refine Br.t ?_ ?_; (focus first | assumption | lia); cbv) | (refine Br.f ?_ ?_; (focus first | assumption | lia); cbv) | (refine Br.mk (fun _ => ?_) (fun _ => ?_) <;> cbv) | (refine Need.mk ?_ ?_; rotate_left; cbv) | (refine RetThen.mk [] [] ?_; cbv))
      all_goals first
        | (exfalso; clear hdec hof; lia)
        | (obtain ⟨hz1, hz2⟩ := hz; subst hz1; (repeat' apply And.intro) <;> first | exact True.intro | exact WkR.refl _ | exact hz2 | rfl)
        | trace_state
def zeroCmd : WCmd := ⟨0, 0, 0, 0, ByteArray.empty, []⟩
theorem cmdOf_fn (O : Opq) (b : List UInt8) (hb : b.length ≤ 1099511627776) : Fn prog 7 [.sl true 0 false 1 (O.o bts b)] [] [.agg (WCmd.enc O (O.o (rdV cmdOf cmdBad zeroCmd) b)), .int .i64 (O.o (rdE cmdBad) b)] [] := by
  have h := readCmd_fn O cmdOf cmdBad zeroCmd b hb ⟨rfl, by rw [O.h]; rfl⟩ fun h => wrcmd_fn O false (O.o decV b) (by have := (celErr_good h).2; omega)
  obtain ⟨x, ex⟩ : ∃ x, x = O.o (rdV cmdOf cmdBad zeroCmd) b := ⟨_, rfl⟩
  rw [← ex] at h ⊢
  refine go (fn := Go.Proofs.Try.f7) (n := 7) (rv := [ResultVar.cell 2 24, ResultVar.tmp 3]) rfl (by decide) rfl (by decide +kernel) rfl rfl (by simp) fun F L C => ?_
  cbv
  (repeat' first | (refine Named.i64 ?_ fun _ _ => ?_; (focus lia); cbv) | (refine CallThen.mk _ _ (C.fn (h)) ?_; cbv) | (refine Named.len fun _ _ hq => ?_; (try simp only [List.length_append, List.length_take, List.length_drop, List.length_replicate, List.length_set] at hq); cbv) | (refine Named.mk fun _ _ => ?_; cbv) | (refine Br.t ?_ ?_; (focus first | assumption | lia); cbv) | (refine Br.f ?_ ?_; (focus first | assumption | lia); cbv) | (refine Br.mk (fun _ => ?_) (fun _ => ?_) <;> cbv) | (refine Need.mk ?_ ?_; rotate_left; cbv) | (refine RetThen.mk [] [] ?_; cbv))
  all_goals exact ⟨.refl _, trivial⟩
end Go.Sym
