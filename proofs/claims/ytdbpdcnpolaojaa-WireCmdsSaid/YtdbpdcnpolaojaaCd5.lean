/- Lists of cells are read; cells of bytes. -/
import Derived.Test.YtdbpdcnpolaojaaCd4
import Derived.Test.YtdbpdcnpolaojaaCd2
set_option linter.all false
set_option linter.unusedVariables false
set_option linter.unusedSimpArgs false
namespace Go.Sym
open Go Go.Proofs.Try
set_option maxRecDepth 100000
theorem Cels.en_snoc (O : Opq) (l : List Cel) (c : Cel) : O.o Cels.enc (l ++ [c]) = O.o Cels.enc l ++ [c.en O] := by
  simp only [O.h, Cels.enc_append, Cels.enc, Cel.en_eq O]
set_option maxHeartbeats 1000000 in
theorem rd_list {O : Opq} {n : Nat} (ih : RdSays O n) (hn : n ≤ 12) {k : UInt8} {b l : List UInt8} {m : Nat} {lf w : Int} {CS : List Cel} {S : Rd} (hb : b.length ≤ 65536) (h0 : 0 ≤ lf - 1) (h1 : lf ≤ 4096) (hw : w = (n + 1 : Nat)) (h : numR b 0 0 = some (m, l)) (hkk : (k.toNat : Int) = 3) (hm : m ≤ l.length)
    (hC : rdCells (rdCell n) m ⟨l, false, lf - 1⟩ [] = (CS, S)) :
    Fn prog 39 [.ptr 0 0, .int .i64 w] [.box [.sl true 0 false 1 (O.o bts (k :: b)), .bool false, .int .i64 lf]] [.agg ((Cel.mk k.toNat 0 ByteArray.empty CS).en O)] [.box [.sl true 0 false 1 (O.o bts S.b), .bool S.bad, .int .i64 S.left]] := by
  have hlen : (O.o bts (k :: b)).length = b.length + 1 := by rw [O.h, bts_len]; rfl
  have hlen2 : (O.o bts l).length = l.length := by rw [O.h, bts_len]
  have hll := numR_len b 0 0 h
  have hml := numR_lt h
  have h00 : O.o Cels.enc [] = [] := by rw [O.h, Cels.enc]
  have hk := u8lt k
  obtain ⟨v, hv⟩ : ∃ v : Int, v = k.toNat := ⟨_, rfl⟩
  have rx : (O.o bts (k :: b))[0]? = some [.int .u8 v] := by rw [O.h, hv]; rfl
  rw [← hv] at hkk ⊢
  obtain ⟨lf', hlf⟩ : ∃ l, l = lf - 1 := ⟨_, rfl⟩
  try rw [← hlf]
  obtain ⟨mi, hmi⟩ : ∃ x : Int, x = m := ⟨_, rfl⟩
  have hnum := fun {R : List (List PV)} {q : Int} (hR : R = O.o bts b) (hq : q = lf') => (by rw [hR, hq]; exact rnumber_fn O b (some (m, l)) lf' h (by omega) : Fn prog 44 [.ptr 0 0] [.box [.sl true 0 false 1 R, .bool false, .int .i64 q]] [.int .i64 (O.o numVal (some (m, l)))] [.box [.sl true 0 false 1 (O.o bts (O.o (numRest b) (some (m, l)))), .bool (O.o Option.isNone (some (m, l))), .int .i64 lf']])
  rw [show O.o numVal (some (m, l)) = mi by rw [O.h, hmi]; rfl, show O.o (numRest b) (some (m, l)) = l by rw [O.h]; rfl, show O.o Option.isNone (some (m, l)) = false by rw [O.h]; rfl] at hnum
  have hdr : (O.o bts (k :: b)).drop 1 = O.o bts b := by simp only [O.h]; rfl
  obtain ⟨z, hz⟩ : ∃ z : List Cel, z = [] := ⟨_, rfl⟩
  have hz0 : O.o Cels.enc z = [] := by rw [hz]; exact h00
  rw [← hlf, ← hz] at hC
  have hzl : z.length = 0 := by rw [hz]; rfl
  refine go (fn := Go.Proofs.Try.f39) (n := 144) (rv := [ResultVar.cell 4 39]) rfl (by decide) rfl (by decide +kernel) rfl rfl (by simp) fun F L C => ?_
  cbv
  (repeat' first | (refine Named.i64 ?_ fun _ _ => ?_; (focus lia); cbv) | (refine Ex.at [.int .u8 v] ⟨by clear rx hnum hdr; lia, rx⟩ ?_; cbv) | (refine CallThen.mk _ _ (C.fn (hnum ?_ ?_)) ?_; rotate_left 2; cbv) | (refine Named.len fun _ _ hq => ?_; (try simp only [List.length_append, List.length_take, List.length_drop, List.length_replicate, List.length_set] at hq); cbv) | (refine Named.mk fun _ _ => ?_; cbv) | (refine Br.t ?_ ?_; (focus first | assumption | lia); cbv) | (refine Br.f ?_ ?_; (focus first | assumption | lia); cbv) | (refine Br.mk (fun _ => ?_) (fun _ => ?_) <;> cbv) | (refine Need.mk ?_ ?_; rotate_left; cbv) | (refine RetThen.mk [] [] ?_; cbv))
  all_goals try first
    | (exfalso; clear rx hnum hdr ih; lia)
    | (clear rx hnum hdr ih; lia)
    | (subst_vars; exact hdr)
  refine LoopThen.mk (C.loopAt (ι := Nat × Rd × List Cel) [(6, 6), (125, 144)] (fun x => [(6, .int .i64 x.1)]) (fun x => [(50, .arr 0 none 4 (O.o Cels.enc x.2.2)), (0, .box [.sl true 0 false 1 (O.o bts x.2.1.b), .bool x.2.1.bad, .int .i64 x.2.1.left]), (384, .box [.int .i64 0, .int .i64 0, .str ByteArray.empty, .nils]), (448, .box [.int .i64 v, .int .i64 0, .str ByteArray.empty, .ref 50])])
    (fun x => rdCells (rdCell n) x.1 x.2.1 x.2.2 = (CS, S) ∧ x.2.2.length + x.1 = m ∧ (x.2.1.bad = false → 0 ≤ x.2.1.left) ∧ x.2.1.left ≤ 4096 ∧ x.2.1.b.length ≤ 65536) (fun x => x.1) (by decide +kernel) (Start.mk (m, ⟨l, false, lf'⟩, z) [(50, .nil 4)] [] ⟨hC, by show z.length + m = m; omega, fun _ => by show 0 ≤ lf'; omega, by show lf' ≤ 4096; omega, by show l.length ≤ 65536; omega⟩ ?_) ?_)
  · cbv
    (repeat' apply And.intro) <;> first | exact True.intro | exact WkR.refl _ | rfl | exact hz0 | (clear rx hnum hdr ih; lia)
  intro x g
  cbv
  obtain ⟨j, ⟨rb, bad, rl⟩, dn⟩ := x
  have g1 : rdCells (rdCell n) j ⟨rb, bad, rl⟩ dn = (CS, S) := g.1
  have g2 : dn.length + j = m := g.2.1
  have g3 : bad = false → 0 ≤ rl := g.2.2.1
  have g4 : rl ≤ 4096 := g.2.2.2.1
  have g5 : rb.length ≤ 65536 := g.2.2.2.2
  have hdl := Cels.en_len O dn
  clear g hC hnum hdr rx hz0 h
  cases bad with
  | true =>
    have e : rdCells (rdCell n) j ⟨rb, true, rl⟩ dn = (dn, ⟨rb, true, rl⟩) := by cases j <;> simp [rdCells]
    rw [e] at g1
    cases g1
    clear ih e
    (repeat' first | (refine Named.i64 ?_ fun _ _ => ?_; (focus lia); cbv) | (refine RetThen.mk [] [50] ?_; cbv) | (refine Named.len fun _ _ hq => ?_; (try simp only [List.length_append, List.length_take, List.length_drop, List.length_replicate, List.length_set] at hq); cbv) | (refine Named.mk fun _ _ => ?_; cbv) | (refine Br.t ?_ ?_; (focus first | assumption | lia); cbv) | (refine Br.f ?_ ?_; (focus first | assumption | lia); cbv) | (refine Br.mk (fun _ => ?_) (fun _ => ?_) <;> cbv) | (refine Need.mk ?_ ?_; rotate_left; cbv) | (refine RetThen.mk [] [] ?_; cbv))
    all_goals first
      | (refine ⟨.refl _, Named.mk fun rs e => ⟨.of_eq e.symm, by cbv⟩⟩; done)
      | trace_state
  | false =>
    cases j with
    | zero =>
      rw [rdCells] at g1
      cases g1
      clear ih
      (repeat' first | (refine Named.i64 ?_ fun _ _ => ?_; (focus lia); cbv) | (refine RetThen.mk [] [50] ?_; cbv) | (refine Named.len fun _ _ hq => ?_; (try simp only [List.length_append, List.length_take, List.length_drop, List.length_replicate, List.length_set] at hq); cbv) | (refine Named.mk fun _ _ => ?_; cbv) | (refine Br.t ?_ ?_; (focus first | assumption | lia); cbv) | (refine Br.f ?_ ?_; (focus first | assumption | lia); cbv) | (refine Br.mk (fun _ => ?_) (fun _ => ?_) <;> cbv) | (refine Need.mk ?_ ?_; rotate_left; cbv) | (refine RetThen.mk [] [] ?_; cbv))
      all_goals first
        | (exfalso; lia)
        | (refine ⟨.refl _, Named.mk fun rs e => ⟨.of_eq e.symm, by cbv⟩⟩; done)
        | trace_state
    | succ j =>
      rw [rdCells, if_neg (by simp)] at g1
      obtain ⟨⟨Cx, Sx⟩, hx⟩ : ∃ p : Cel × Rd, rdCell n ⟨rb, false, rl⟩ = p := ⟨_, rfl⟩
      have hok := rdCell_ok n ⟨rb, false, rl⟩ rfl (g3 rfl)
      rw [hx] at g1 hok
      have hk1 : Sx.b.length ≤ rb.length := hok.len
      have hk2 : (Cx.size : Int) = rl - Sx.left := hok.left
      have hk3 := hok.good
      have hc := fun {q : Int} (hq : q = n) => ih rb rl Cx Sx q g5 (g3 rfl) g4 hx hq
      have hsn := Cels.en_snoc O dn Cx
      have hinv : rdCells (rdCell n) j Sx (dn ++ [Cx]) = (CS, S) := g1
      have hll2 : (dn ++ [Cx]).length + j = m := by simp; omega
      obtain ⟨dn', hdn'⟩ : ∃ d, d = dn ++ [Cx] := ⟨_, rfl⟩
      rw [← hdn'] at hsn hinv hll2
      clear ih g1 hx hok hdn'
      obtain ⟨sb, sbad, sl⟩ := Sx
      replace hk1 : sb.length ≤ rb.length := hk1
      replace hk2 : (Cx.size : Int) = rl - sl := hk2
      replace hk3 : sbad = false → 0 ≤ sl := hk3
      have hI1 : sl ≤ 4096 := by omega
      have hI2 : sb.length ≤ 65536 := by omega
      (repeat' first | (refine Named.i64 ?_ fun _ _ => ?_; (focus lia); cbv) | (refine CallThen.mk _ _ (C.fn (hc (by clear hsn hinv; lia))) ?_; cbv) | (refine Back.to (j, ⟨sb, sbad, sl⟩, dn') [(50, .loc 9280)] [] ?_ fun _ _ => ?_; rotate_left; cbv) | (refine Named.len fun _ _ hq => ?_; (try simp only [List.length_append, List.length_take, List.length_drop, List.length_replicate, List.length_set] at hq); cbv) | (refine Named.mk fun _ _ => ?_; cbv) | (refine Br.t ?_ ?_; (focus first | assumption | lia); cbv) | (refine Br.f ?_ ?_; (focus first | assumption | lia); cbv) | (refine Br.mk (fun _ => ?_) (fun _ => ?_) <;> cbv) | (refine Need.mk ?_ ?_; rotate_left; cbv) | (refine RetThen.mk [] [] ?_; cbv))
      all_goals try first
        | (exfalso; clear hc hsn hinv; lia)
        | (clear hc hsn hinv; lia)
        | exact ⟨⟨hinv, hll2, hk3, hI1, hI2⟩, by show j < j + 1; omega⟩
        | (simp only [List.length_cons, List.length_nil]; clear hc hsn hinv; lia)
      all_goals first
        | (rename_i R hR q1 q2 y ey; subst ey; refine ⟨.of_eq ?_, ?_⟩
           · rw [hR]; exact hsn
           · (repeat' apply And.intro) <;> first | exact True.intro | exact WkR.refl _ | rfl | (clear hc hsn hinv; dsimp only; lia))
        | trace_state
theorem rdCell_says (O : Opq) : ∀ n : Nat, n ≤ 12 → RdSays O n
  | 0, hn => fun b lf C S w hb h0 h1 h hw => by
    rw [rdCell] at h
    cases h
    exact rd_bad hb h0 h1 hw hn (.inr (.inl rfl))
  | n + 1, hn => fun b lf C S w hb h0 h1 h hw => by
    have ih := rdCell_says O n (by omega)
    cases b with
    | nil =>
      simp only [rdCell] at h
      cases h
      exact rd_bad hb h0 h1 hw hn (.inl rfl)
    | cons k b =>
      simp only [rdCell, Bool.false_eq_true, or_false] at h
      split at h
      · rename_i hl
        cases h
        exact rd_bad hb h0 h1 hw hn (.inr (.inr hl))
      · rename_i hl
        simp only [List.length_cons] at hb
        cases hR : numR b 0 0 with
        | none =>
          rw [hR] at h
          cases h
          exact rd_none (by omega) (by omega) h1 hw hR
        | some p =>
          obtain ⟨m, l⟩ := p
          rw [hR] at h
          simp only [rdPart] at h
          split at h
          · rename_i hk
            cases h
            have := rd_num (O := O) (by omega) (by omega) h1 hw hR hk
            rwa [O.h zag] at this
          · rename_i hk1
            split at h
            · rename_i hk
              cases h
              exact rd_text (by omega) (by omega) h1 hw hR hk.1 hk.2 rfl
            · rename_i hk2
              split at h
              · rename_i hk
                obtain ⟨⟨CS, S'⟩, hC⟩ : ∃ p, rdCells (rdCell n) m ⟨l, false, lf - 1⟩ [] = p := ⟨_, rfl⟩
                rw [hC] at h
                cases h
                exact rd_list ih (by omega) (by omega) (by omega) h1 hw hR hk.1 hk.2 hC
              · rename_i hk3
                cases h
                exact rd_else (l := l) (by omega) (by omega) h1 hw hR ⟨hk1, fun e => by omega, fun e => by omega⟩
theorem encode_fn (O : Opq) (c : Cel) (h : c.size ≤ 1099511627) : Fn prog 16 [.agg (c.en O)] [] [.sl false 0 false 1 (O.o bts (O.o encB c)), .int .i64 (O.o encE c)] [] := by
  have hck := ccheck_fn O c (by omega)
  rw [Cel.en_eq O] at hck
  have hce : O.o celErr c = celErr c := by rw [O.h]
  have h00 : O.o bts [] = [] := by rw [O.h]; rfl
  by_cases h0 : celErr c = 0
  · have hp := put0_ok O c h0
    rw [hce, h0] at hck
    by_cases hf : (putC c).length ≤ 65536
    · have he : O.o encE c = 0 ∧ O.o encB c = putC c := by simp only [O.h]; rw [encB, encE, if_neg (by simp [h0]), if_pos hf]; exact ⟨rfl, rfl⟩
      have hp := hp.1 hf
      rw [List.nil_append] at hp
      have hM : O.o bts (O.o encB c) = O.o bts (O.o putC c) := by rw [he.2, O.h putC]
      obtain ⟨M, eM⟩ : ∃ M, M = O.o bts (O.o putC c) := ⟨_, rfl⟩
      rw [← eM] at hp hM
      rw [hM, he.1]
      clear hM he hf hce h0
      obtain ⟨k, n, t, l⟩ := c
      refine go (fn := Go.Proofs.Try.f16) (n := 15) (rv := [ResultVar.tmp 2, ResultVar.tmp 3]) rfl (by decide) rfl (by decide +kernel) rfl rfl (by simp) fun F L C => ?_
      cbv
      (repeat' first | (refine Named.i64 ?_ fun _ _ => ?_; (focus lia); cbv) | (refine CallThen.mk _ _ (C.fn (hck)) ?_; cbv) | (refine CallThen.mk _ _ (C.fn (hp)) ?_; cbv) | (refine RetThen.mk [] [896] ?_; cbv) | (refine Named.len fun _ _ hq => ?_; (try simp only [List.length_append, List.length_take, List.length_drop, List.length_replicate, List.length_set] at hq); cbv) | (refine Named.mk fun _ _ => ?_; cbv) | (refine Br.t ?_ ?_; (focus first | assumption | lia); cbv) | (refine Br.f ?_ ?_; (focus first | assumption | lia); cbv) | (refine Br.mk (fun _ => ?_) (fun _ => ?_) <;> cbv) | (refine Need.mk ?_ ?_; rotate_left; cbv) | (refine RetThen.mk [] [] ?_; cbv))
      all_goals first
        | (refine Named.mk fun rs e => ⟨.of_eq e.symm, by cbv⟩; done)
        | (refine ⟨?_, trivial⟩; refine WkR.of_eq ?_; symm; assumption)
        | trace_state
    · have he : O.o encE c = 3 ∧ O.o encB c = [] := by simp only [O.h]; rw [encB, encE, if_neg (by simp [h0]), if_neg hf]; exact ⟨rfl, rfl⟩
      have hp := hp.2 (by rw [List.nil_append]; omega)
      rw [he.1, he.2, h00]
      clear he hf hce h0
      obtain ⟨k, n, t, l⟩ := c
      refine go (fn := Go.Proofs.Try.f16) (n := 15) (rv := [ResultVar.tmp 2, ResultVar.tmp 3]) rfl (by decide) rfl (by decide +kernel) rfl rfl (by simp) fun F L C => ?_
      cbv
      (repeat' first | (refine Named.i64 ?_ fun _ _ => ?_; (focus lia); cbv) | (refine CallThen.mk _ _ (C.fn (hck)) ?_; cbv) | (refine CallThen.mk _ _ (C.fn (hp)) ?_; cbv) | (refine Named.len fun _ _ hq => ?_; (try simp only [List.length_append, List.length_take, List.length_drop, List.length_replicate, List.length_set] at hq); cbv) | (refine Named.mk fun _ _ => ?_; cbv) | (refine Br.t ?_ ?_; (focus first | assumption | lia); cbv) | (refine Br.f ?_ ?_; (focus first | assumption | lia); cbv) | (refine Br.mk (fun _ => ?_) (fun _ => ?_) <;> cbv) | (refine Need.mk ?_ ?_; rotate_left; cbv) | (refine RetThen.mk [] [] ?_; cbv))
      all_goals first
        | exact ⟨rfl, trivial⟩
        | trace_state
  · have he : O.o encE c = celErr c ∧ O.o encB c = [] := by simp only [O.h]; rw [encB, encE, if_pos h0, if_neg h0]; exact ⟨rfl, rfl⟩
    rw [he.1, he.2, h00]
    rw [hce] at hck
    obtain ⟨v, hv⟩ : ∃ v, v = celErr c := ⟨_, rfl⟩
    rw [← hv] at h0 hck ⊢
    clear he hce hv
    obtain ⟨k, n, t, l⟩ := c
    refine go (fn := Go.Proofs.Try.f16) (n := 15) (rv := [ResultVar.tmp 2, ResultVar.tmp 3]) rfl (by decide) rfl (by decide +kernel) rfl rfl (by simp) fun F L C => ?_
    cbv
    (repeat' first | (refine Named.i64 ?_ fun _ _ => ?_; (focus lia); cbv) | (refine CallThen.mk _ _ (C.fn (hck)) ?_; cbv) | (refine Named.len fun _ _ hq => ?_; (try simp only [List.length_append, List.length_take, List.length_drop, List.length_replicate, List.length_set] at hq); cbv) | (refine Named.mk fun _ _ => ?_; cbv) | (refine Br.t ?_ ?_; (focus first | assumption | lia); cbv) | (refine Br.f ?_ ?_; (focus first | assumption | lia); cbv) | (refine Br.mk (fun _ => ?_) (fun _ => ?_) <;> cbv) | (refine Need.mk ?_ ?_; rotate_left; cbv) | (refine RetThen.mk [] [] ?_; cbv))
    all_goals first
      | exact ⟨rfl, trivial⟩
      | (exfalso; lia)
      | trace_state
theorem decode_fn (O : Opq) (b : List UInt8) (hb : b.length ≤ 1099511627776) : Fn prog 27 [.sl true 0 false 1 (O.o bts b)] [] [.agg ((O.o decV b).en O), .int .i64 (O.o decE b)] [] := by
  have hlen : (O.o bts b).length = b.length := by rw [O.h, bts_len]
  have h00 : O.o Cels.enc [] = [] := by rw [O.h, Cels.enc]
  have hbad : decC b = none → O.o decV b = noC ∧ O.o decE b = if 65536 < b.length then 3 else 5 := fun h => by
    simp only [O.h]; rw [decV, decE, h]; exact ⟨rfl, rfl⟩
  by_cases hl : 65536 < b.length
  · have hd : decC b = none := by rw [decC, if_neg (by omega)]
    obtain ⟨h1, h2⟩ := hbad hd
    rw [h1, h2, if_pos hl]
    clear hbad hd h1 h2
    refine go (fn := Go.Proofs.Try.f27) (n := 33) (rv := [ResultVar.cell 2 39, ResultVar.tmp 3]) rfl (by decide) rfl (by decide +kernel) rfl rfl (by simp) fun F L C => ?_
    cbv
    (repeat' first | (refine Named.i64 ?_ fun _ _ => ?_; (focus lia); cbv) | (refine Named.len fun _ _ hq => ?_; (try simp only [List.length_append, List.length_take, List.length_drop, List.length_replicate, List.length_set] at hq); cbv) | (refine Named.mk fun _ _ => ?_; cbv) | (refine Br.t ?_ ?_; (focus first | assumption | lia); cbv) | (refine Br.f ?_ ?_; (focus first | assumption | lia); cbv) | (refine Br.mk (fun _ => ?_) (fun _ => ?_) <;> cbv) | (refine Need.mk ?_ ?_; rotate_left; cbv) | (refine RetThen.mk [] [] ?_; cbv))
    all_goals first
      | exact ⟨h00, trivial⟩
      | (exfalso; lia)
      | trace_state
  obtain ⟨⟨C, S⟩, hC⟩ : ∃ p, rdCell 12 ⟨b, false, 4096⟩ = p := ⟨_, rfl⟩
  have hok := rdCell_ok 12 ⟨b, false, 4096⟩ rfl (by show (0 : Int) ≤ 4096; decide)
  rw [hC] at hok
  have hk2 : (C.size : Int) = 4096 - S.left := hok.left
  have hk3 : -1 ≤ S.left := hok.low
  have hrd := rdCell_says O 12 (by omega) b 4096 C S 12 (by omega) (by decide) (by decide) hC rfl
  have hck := ccheck_fn O C (by omega)
  rw [Cel.en_eq O] at hck
  have hce : O.o celErr C = celErr C := by rw [O.h]
  obtain ⟨v, hv⟩ : ∃ v, v = O.o celErr C := ⟨_, rfl⟩
  rw [← hv] at hck hce
  have hdc : decC b = if S.bad = false ∧ S.b = [] ∧ v = 0 then some C else none := by
    rw [decC, hC, hce]; simp only [show b.length ≤ 65536 by omega, true_and]
  rw [if_neg hl] at hbad
  have hlen2 : (O.o bts S.b).length = S.b.length := by rw [O.h, bts_len]
  have hnil : S.b = [] ↔ S.b.length = 0 := List.length_eq_zero_iff.symm
  by_cases hg : S.bad = false ∧ S.b = [] ∧ v = 0
  · rw [if_pos hg] at hdc
    have he : O.o decV b = C ∧ O.o decE b = 0 := by simp only [O.h]; rw [decV, decE, hdc, if_neg hl]; exact ⟨rfl, rfl⟩
    rw [he.1, he.2]
    obtain ⟨g1, g2, g3⟩ := hg
    have g2 := hnil.1 g2
    rw [g1] at hrd
    clear hbad he hC hok hdc hv hce hnil
    obtain ⟨sb, sbad, sl⟩ := S
    obtain ⟨k, n, t, l⟩ := C
    refine go (fn := Go.Proofs.Try.f27) (n := 33) (rv := [ResultVar.cell 2 39, ResultVar.tmp 3]) rfl (by decide) rfl (by decide +kernel) rfl rfl (by simp) fun F L C => ?_
    cbv
    (repeat' first | (refine Named.i64 ?_ fun _ _ => ?_; (focus lia); cbv) | (refine CallThen.mk _ _ (C.fn (hrd)) ?_; cbv) | (refine CallThen.mk _ _ (C.fn (hck)) ?_; cbv) | (refine Named.len fun _ _ hq => ?_; (try simp only [List.length_append, List.length_take, List.length_drop, List.length_replicate, List.length_set] at hq); cbv) | (refine Named.mk fun _ _ => ?_; cbv) | (refine Br.t ?_ ?_; (focus first | assumption | lia); cbv) | (refine Br.f ?_ ?_; (focus first | assumption | lia); cbv) | (refine Br.mk (fun _ => ?_) (fun _ => ?_) <;> cbv) | (refine Need.mk ?_ ?_; rotate_left; cbv) | (refine RetThen.mk [] [] ?_; cbv))
    all_goals first
      | exact ⟨rfl, rfl, rfl, .refl _, trivial⟩
      | exact ⟨.refl _, trivial⟩
      | (exfalso; clear hrd hck; dsimp only at *; lia)
      | trace_state
  · rw [if_neg hg] at hdc
    obtain ⟨h1, h2⟩ := hbad hdc
    rw [h1, h2]
    rw [hnil] at hg
    clear hbad hC hok hdc hv hce hnil h1 h2
    obtain ⟨sb, sbad, sl⟩ := S
    obtain ⟨k, n, t, l⟩ := C
    replace hg : ¬ (sbad = false ∧ sb.length = 0 ∧ v = 0) := hg
    replace hlen2 : (O.o bts sb).length = sb.length := hlen2
    cases sbad
    all_goals
      refine go (fn := Go.Proofs.Try.f27) (n := 33) (rv := [ResultVar.cell 2 39, ResultVar.tmp 3]) rfl (by decide) rfl (by decide +kernel) rfl rfl (by simp) fun F L C => ?_
      cbv
      (repeat' first | (refine Named.i64 ?_ fun _ _ => ?_; (focus lia); cbv) | (refine CallThen.mk _ _ (C.fn (hrd)) ?_; cbv) | (refine CallThen.mk _ _ (C.fn (hck)) ?_; cbv) | (refine Named.len fun _ _ hq => ?_; (try simp only [List.length_append, List.length_take, List.length_drop, List.length_replicate, List.length_set] at hq); cbv) | (refine Named.mk fun _ _ => ?_; cbv) | (refine Br.t ?_ ?_; (focus first | assumption | lia); cbv) | (refine Br.f ?_ ?_; (focus first | assumption | lia); cbv) | (refine Br.mk (fun _ => ?_) (fun _ => ?_) <;> cbv) | (refine Need.mk ?_ ?_; rotate_left; cbv) | (refine RetThen.mk [] [] ?_; cbv))
      all_goals first
        | exact ⟨h00, trivial⟩
        | (exfalso; clear hrd hck; lia)
        | trace_state
end Go.Sym
