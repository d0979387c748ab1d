/- The law PaperOrders. -/
import Derived.Test.YtfenjmhhggekaaaDoorPa11
import Derived.Test.YtfenjmhhggekaaaDoorPaG
namespace Go.Sym
open Go Go.Proofs.Tryd
set_option maxRecDepth 100000
def byteR (b : Nat) : List PV := [.int .u8 b]
def bytesR : List Nat → List (List PV) := List.map byteR
theorem mod_ok {b n : Nat} {w l r : Int} (hb : b < 256) (hw : w = IntKind.i64.wrap (Int.ofNat b)) (hl : l = n) (hr : r = w.tmod l) (hn : 0 < n) : 0 ≤ r ∧ r < n := by
  have e : IntKind.i64.wrap (Int.ofNat b) = b := by
    have h : ∀ n : Fin 256, IntKind.i64.wrap (Int.ofNat n.val) = n.val := by decide +kernel
    exact h ⟨b, hb⟩
  subst hr hl hw
  rw [e]
  exact ⟨Int.tmod_nonneg _ (by omega), Int.tmod_lt_of_pos _ (by omega)⟩
set_option maxHeartbeats 20000000 in
theorem paperOrders_fn (O : Opq) (d : Doc) (mix : List Nat) (hd : ∀ f ∈ d, f.path.size ≤ 9223372036854775807) (hdl : d.length ≤ 9223372036854775807) (hml : mix.length ≤ 9223372036854775807) (hmb : ∀ b ∈ mix, b < 256) :
    Fn prog 4 [.sl false 0 false 6 (O.o Doc.enc d), .sl false 0 false 1 (O.o bytesR mix)] [] [.bool true] [] := by
  have hlen : (O.o Doc.enc d).length = d.length := by rw [O.h, Doc.enc_len]
  have hlen2 : (O.o bytesR mix).length = mix.length := by rw [O.h]; simp [bytesR]
  obtain ⟨N, hN⟩ : ∃ N : Nat, N = d.length := ⟨_, rfl⟩
  obtain ⟨z, hz⟩ : ∃ z : Nat, z = 0 := ⟨_, rfl⟩
  refine go (fn := Go.Proofs.Tryd.f4) (n := 118) (rv := [ResultVar.tmp 4]) rfl (by decide) rfl (by decide +kernel) rfl rfl (by simp) fun F L C => ?_
  cbv
  repeat' first
    | (refine Named.i64 ?_ fun _ _ => ?_; (focus lia); cbv)
    | (refine CallThen.mk _ _ (C.fn (awake_fn O)) ?_; cbv)
    | (refine CallThen.boolT (C.fn (may_fn O d (by lia) hd)) ?_ ?_; (focus assumption); cbv)
    | (refine CallThen.boolF (C.fn (may_fn O d (by lia) hd)) ?_ ?_; (focus assumption); cbv)
    | (refine CallThen.bool (C.fn (may_fn O d (by lia) hd)) (fun _ => ?_) (fun _ => ?_) <;> cbv)
    | (refine Named.len fun _ _ hq => ?_; (try simp only [List.length_append, List.length_take, List.length_drop, List.length_replicate, List.length_set] at hq); cbv)
    | (refine Named.mk fun _ _ => ?_; cbv)
    | (refine Br.t ?_ ?_; (focus first | assumption | lia); cbv)
    | (refine Br.f ?_ ?_; (focus first | assumption | lia); cbv)
    | (refine Br.mk (fun _ => ?_) (fun _ => ?_) <;> cbv)
    | (refine Need.mk ?_ ?_; rotate_left; cbv)
    | (refine RetThen.mk [] [] ?_; cbv)
  rotate_right
  · constructor <;> (simp only [List.length_nil]; lia)
  rename_i r hr
  have hmd : may d = true := by
    have h : O.o may d = true := by assumption
    rwa [O.h] at h
  refine LoopThen.mk (C.loopAt (ι := Nat × Doc) [(6, 8), (28, 62)] (fun x => [(5, .ref 1856), (6, .int .i64 x.1), (7, .top), (8, .top), (25, .top)]) (fun x => [(1856, .arr 0 none 6 (O.o Doc.enc x.2))])
    (fun x => x.1 ≤ d.length ∧ x.2.Perm d) (fun x => N - x.1) (by decide +kernel) (Start.mk (z, d) [] [] ⟨by lia, .refl _⟩ ?_) ?_)
  · cbv
    refine ⟨.of_eq (by simp only [O.h]; rw [hr]; simp only [O.h]; rfl), ?_⟩
    (repeat' apply And.intro) <;> first | exact True.intro | exact WkR.refl _ | rfl | lia
  intro x g
  cbv
  obtain ⟨k, m⟩ := x
  have h1 : k ≤ d.length := g.1
  have h2 : m.Perm d := g.2
  clear g
  have hml2 : m.length = d.length := h2.length_eq
  have hlen3 : (O.o Doc.enc m).length = d.length := by rw [O.h, Doc.enc_len]; exact hml2
  by_cases hk : k < d.length ∧ k < mix.length
  · obtain ⟨x, hx⟩ : ∃ x, m[k]? = some x := ⟨m[k], by simp [hml2, hk.1]⟩
    obtain ⟨b, hb⟩ : ∃ b, mix[k]? = some b := ⟨mix[k], by simp [hk.2]⟩
    repeat' first
      | (refine Named.i64 ?_ fun _ _ => ?_; (focus lia); cbv)
      | (refine Ex.known O byteR rfl hb ?_ ?_; (focus lia); cbv)
      | (fail)
      | (refine Named.len fun _ _ hq => ?_; (try simp only [List.length_append, List.length_take, List.length_drop, List.length_replicate, List.length_set] at hq); cbv)
      | (refine Named.mk fun _ _ => ?_; cbv)
      | (refine Br.t ?_ ?_; (focus first | assumption | lia); cbv)
      | (refine Br.f ?_ ?_; (focus first | assumption | lia); cbv)
      | (refine Br.mk (fun _ => ?_) (fun _ => ?_) <;> cbv)
      | (refine Need.mk ?_ ?_; rotate_left; cbv)
      | (refine RetThen.mk [] [] ?_; cbv)
    · rename_i l1 el1 l2 el2 w ew l3 el3 r3 er3 k' ek'
      have q : 0 ≤ r3 ∧ r3 < (O.o Doc.enc m).length := mod_ok (hmb b (List.mem_of_getElem? hb)) ew el3 er3 (by omega)
      rw [hlen3] at q
      obtain ⟨y, hy⟩ : ∃ y, m[r3.toNat]? = some y := ⟨m[r3.toNat]'(by omega), by simp⟩
      have kk : k' = k := by clear hx hb hy er3 ew; lia
      subst kk
      refine Ex.at (Field.enc x) ?_ ?_
      · refine ⟨by clear hx hb hy er3 ew; lia, ?_⟩
        simp only [O.h]
        rw [show (Int.ofNat k').toNat = k' from rfl, Doc.enc, List.getElem?_map, hx]; rfl
      cbv
      repeat' first
        | (refine Named.i64 ?_ fun _ _ => ?_; (focus lia); cbv)
        | (refine Named.len fun _ _ hq => ?_; (try simp only [List.length_append, List.length_take, List.length_drop, List.length_replicate, List.length_set] at hq); cbv)
        | (refine Named.mk fun _ _ => ?_; cbv)
        | (refine Br.t ?_ ?_; (focus first | assumption | lia); cbv)
        | (refine Br.f ?_ ?_; (focus first | assumption | lia); cbv)
        | (refine Br.mk (fun _ => ?_) (fun _ => ?_) <;> cbv)
        | (refine Need.mk ?_ ?_; rotate_left; cbv)
        | (refine RetThen.mk [] [] ?_; cbv)
      · rename_i c ec
        refine Ex.at (Field.enc y) ?_ ?_
        · refine ⟨by clear hx hb hy er3 ew; lia, ?_⟩
          simp only [O.h]
          rw [show (Int.ofNat c).toNat = c from rfl, ec, Doc.enc, List.getElem?_map, hy]; rfl
        cbv
        repeat' first
          | (refine Named.i64 ?_ fun _ _ => ?_; (focus lia); cbv)
          | (refine Named.len fun _ _ hq => ?_; (try simp only [List.length_append, List.length_take, List.length_drop, List.length_replicate, List.length_set] at hq); cbv)
          | (refine Named.mk fun _ _ => ?_; cbv)
          | (refine Br.t ?_ ?_; (focus first | assumption | lia); cbv)
          | (refine Br.f ?_ ?_; (focus first | assumption | lia); cbv)
          | (refine Br.mk (fun _ => ?_) (fun _ => ?_) <;> cbv)
          | (refine Need.mk ?_ ?_; rotate_left; cbv)
          | (refine RetThen.mk [] [] ?_; cbv)
        · rename_i c2 ec2
          refine Ex.at (Field.enc x) ?_ ?_
          · refine ⟨by clear hx hb hy er3 ew; lia, ?_⟩
            simp only [O.h]
            rw [show (Int.ofNat c2).toNat = k' by clear hx hb hy er3 ew; lia, Doc.enc, List.getElem?_map, hx]; rfl
          cbv
          repeat' first
            | (refine Named.i64 ?_ fun _ _ => ?_; (focus lia); cbv)
            | (refine Named.len fun _ _ hq => ?_; (try simp only [List.length_append, List.length_take, List.length_drop, List.length_replicate, List.length_set] at hq); cbv)
            | (refine Named.mk fun _ _ => ?_; cbv)
            | (refine Br.t ?_ ?_; (focus first | assumption | lia); cbv)
            | (refine Br.f ?_ ?_; (focus first | assumption | lia); cbv)
            | (refine Br.mk (fun _ => ?_) (fun _ => ?_) <;> cbv)
            | (refine Need.mk ?_ ?_; rotate_left; cbv)
            | (refine RetThen.mk [] [] ?_; cbv)
          · rename_i R eR c3 ec3
            have eR2 : R = Doc.enc (m.set k' y) := by
              have e0 : c2 = k' := by clear hq eR hx hb hy er3 ew; lia
              rw [eR, e0]; simp only [O.h]; exact enc_set m k' y
            have er : R[r3.toNat]? = some y.enc := by
              rw [eR2, Doc.enc, List.getElem?_map, List.getElem?_set]
              by_cases hh : k' = r3.toNat
              · rw [if_pos hh, if_pos (by omega)]; rfl
              · rw [if_neg hh, hy]; rfl
            refine Ex.at (Field.enc y) ?_ ?_
            · refine ⟨by clear er eR2 hq eR hx hb hy er3 ew; lia, ?_⟩
              rw [show (Int.ofNat c3).toNat = r3.toNat by clear er eR2 hq eR hx hb hy er3 ew; lia]
              exact er
            cbv
            repeat' first
              | (refine Named.i64 ?_ fun _ _ => ?_; (focus lia); cbv)
              | (refine Back.to (k' + 1, swapD m k' r3.toNat x y) [] [] ?_ fun _ _ => ?_; rotate_left; cbv)
              | (refine Named.len fun _ _ hq => ?_; (try simp only [List.length_append, List.length_take, List.length_drop, List.length_replicate, List.length_set] at hq); cbv)
              | (refine Named.mk fun _ _ => ?_; cbv)
              | (refine Br.t ?_ ?_; (focus first | assumption | lia); cbv)
              | (refine Br.f ?_ ?_; (focus first | assumption | lia); cbv)
              | (refine Br.mk (fun _ => ?_) (fun _ => ?_) <;> cbv)
              | (refine Need.mk ?_ ?_; rotate_left; cbv)
              | (refine RetThen.mk [] [] ?_; cbv)
            · rename_i R2 eR3 n1 en1 st est
              subst est
              refine ⟨WkR.of_eq ?_, WkR.refl _, WkR.refl _, ?_, WkR.refl _, WkR.refl _, WkR.refl _, trivial⟩
              · have e3 : c3 = r3.toNat := ec3
                rw [eR3, e3, eR2]; simp only [O.h]; exact (enc_set (m.set k' y) r3.toNat x).symm
              · clear er eR2 eR3 hq eR hx hb hy er3 ew; lia
            · exact ⟨⟨by clear er eR2 hq eR hx hb hy er3 ew; lia, (swap_perm hx hy).trans h2⟩, by clear er eR2 hq eR hx hb hy er3 ew; lia⟩
          all_goals (clear hx hb hy er3 ew; lia)
        all_goals (clear hx hb hy er3 ew; lia)
      all_goals (clear hx hb hy er3 ew; lia)
    all_goals (clear hx hb; lia)
  · repeat' first
    | (refine Named.i64 ?_ fun _ _ => ?_; (focus lia); cbv)
    | (refine Named.len fun _ _ hq => ?_; (try simp only [List.length_append, List.length_take, List.length_drop, List.length_replicate, List.length_set] at hq); cbv)
    | (refine Named.mk fun _ _ => ?_; cbv)
    | (refine Br.t ?_ ?_; (focus first | assumption | lia); cbv)
    | (refine Br.f ?_ ?_; (focus first | assumption | lia); cbv)
    | (refine Br.mk (fun _ => ?_) (fun _ => ?_) <;> cbv)
    | (refine Need.mk ?_ ?_; rotate_left; cbv)
    | (refine RetThen.mk [] [] ?_; cbv)
    all_goals
      clear hk
      refine LoopThen.mk (C.loopAt (ι := Nat) [(4, 4), (9, 12), (64, 87)] (fun j => [(9, .sl false 0 false 6 (O.o Doc.enc (O.o (outK m) j))), (10, .int .i64 j), (11, .top), (12, .top), (63, .top)]) (fun _ => [(1856, .arr 0 none 6 (O.o Doc.enc m))])
        (fun j => j ≤ d.length ∧ may (outK m j) = true ∧ (outK m j).Perm (m.take j)) (fun j => N - j) (by decide +kernel) (Start.mk z [] [4160] ⟨by lia, by rw [hz]; exact ⟨may_true (by simp [outK_zero]) (by simp [outK_zero]), by simp [outK_zero]⟩⟩ ?_) ?_)
      · cbv
        refine ⟨.refl _, .refl _, .refl _, Named.mk fun rs e => ⟨.of_eq (by simp only [O.h]; rw [hz, e]; rfl), ?_⟩⟩
        cbv
        (repeat' apply And.intro) <;> first | exact True.intro | exact WkR.refl _ | rfl | lia
      intro j g
      cbv
      have g1 : j ≤ d.length := g.1
      have g2 : may (outK m j) = true := g.2.1
      have g3 : (outK m j).Perm (m.take j) := g.2.2
      clear g
      have hlen4 : (O.o Doc.enc (O.o (outK m) j)).length ≤ d.length := by
        simp only [O.h]; rw [Doc.enc_len, g3.length_eq, List.length_take]; omega
      have hlen5 : (O.o (outK m) j).length ≤ d.length := by
        simp only [O.h]; rw [g3.length_eq, List.length_take]; omega
      by_cases hj : j < d.length
      · obtain ⟨x, hx⟩ : ∃ x, m[j]? = some x := ⟨m[j], by simp [hml2, hj]⟩
        obtain ⟨s1, s2, s3⟩ := out_step hmd h2 hx g2 g3
        have s4 : O.o setE (O.o (outK m) j) x.path x.val = 0 := by simp only [O.h]; exact s1
        have s5 : O.o (outK m) (j + 1) = O.o setR (O.o (outK m) j) x.path x.val := by simp only [O.h]; exact outK_succ hx
        repeat' first
          | (refine Named.i64 ?_ fun _ _ => ?_; (focus lia); cbv)
          | (refine Ex.known O Field.enc rfl hx ?_ ?_; (focus lia); cbv)
          | (refine CallThen.mk _ _ (C.fn (set_fn O (O.o (outK m) j) x.path ⟨_, _, _, _, _⟩ (by lia))) ?_; cbv)
          | (refine Back.up [] [] ?_ ?_ fun _ _ => ?_; rotate_left 2; cbv; refine And.intro ?_ ?_)
          | (refine Named.len fun _ _ hq => ?_; (try simp only [List.length_append, List.length_take, List.length_drop, List.length_replicate, List.length_set] at hq); cbv)
          | (refine Named.mk fun _ _ => ?_; cbv)
          | (refine Br.t ?_ ?_; (focus first | assumption | lia); cbv)
          | (refine Br.f ?_ ?_; (focus first | assumption | lia); cbv)
          | (refine Br.mk (fun _ => ?_) (fun _ => ?_) <;> cbv)
          | (refine Need.mk ?_ ?_; rotate_left; cbv)
          | (refine RetThen.mk [] [] ?_; cbv)
        all_goals try first
          | exact WkR.refl _
          | (clear hx s1 s2 s3 s4 s5 g2 g3; lia)
        · rename_i j2 ej2
          subst ej2
          refine ⟨.refl _, .refl _, .of_eq (by simp only [O.h] at s5 ⊢; rw [s5]), by clear hx s1 s2 s3 s4 s5 g2 g3; lia, ?_⟩
          (repeat' apply And.intro) <;> first | exact True.intro | exact WkR.refl _
        · exact ⟨hj, s2, s3⟩
      · have ej : O.o (outK m) j = d := by
          have e2 : j = m.length := by rw [hml2]; omega
          subst e2
          simp only [O.h]; exact out_all hmd h2 g2 g3
        have hsd : O.o sameDoc (O.o (outK m) j) d = true := by rw [ej, O.h]; exact sameDoc_iff.2 rfl
        repeat' first
          | (refine Named.i64 ?_ fun _ _ => ?_; (focus lia); cbv)
          | (refine CallThen.boolT (C.fn (rsame_fn O (O.o (outK m) j) d (by lia))) ?_ ?_; (focus assumption); cbv)
          | (refine CallThen.boolF (C.fn (rsame_fn O (O.o (outK m) j) d (by lia))) ?_ ?_; (focus assumption); cbv)
          | (refine CallThen.bool (C.fn (rsame_fn O (O.o (outK m) j) d (by lia))) (fun _ => ?_) (fun _ => ?_) <;> cbv)
          | (refine Named.len fun _ _ hq => ?_; (try simp only [List.length_append, List.length_take, List.length_drop, List.length_replicate, List.length_set] at hq); cbv)
          | (refine Named.mk fun _ _ => ?_; cbv)
          | (refine Br.t ?_ ?_; (focus first | assumption | lia); cbv)
          | (refine Br.f ?_ ?_; (focus first | assumption | lia); cbv)
          | (refine Br.mk (fun _ => ?_) (fun _ => ?_) <;> cbv)
          | (refine Need.mk ?_ ?_; rotate_left; cbv)
          | (refine RetThen.mk [] [] ?_; cbv)
        refine LoopThen.mk (C.loopAt (ι := Nat) [(4, 4), (9, 9), (13, 15), (92, 118)] (fun k => [(9, .sl false 0 false 6 (O.o Doc.enc (O.o (leftK m d) k))), (13, .int .i64 k), (14, .top), (15, .top)]) (fun _ => [(1856, .arr 0 none 6 (O.o Doc.enc m))])
          (fun k => k ≤ d.length ∧ may (leftK m d k) = true ∧ (leftK m d k).Perm (m.drop k)) (fun k => N - k) (by decide +kernel) (Start.mk z [] [] ⟨by lia, by rw [hz]; exact ⟨hmd, h2.symm⟩⟩ ?_) ?_)
        · cbv
          refine ⟨.refl _, .refl _, .refl _, .of_eq (by simp only [O.h] at ej ⊢; rw [hz, leftK_zero, ej]), by rw [hz]; rfl, ?_⟩
          (repeat' apply And.intro) <;> first | exact True.intro | exact WkR.refl _
        intro k g
        cbv
        have f1 : k ≤ d.length := g.1
        have f2 : may (leftK m d k) = true := g.2.1
        have f3 : (leftK m d k).Perm (m.drop k) := g.2.2
        clear g
        have q1 : (O.o (leftK m d) k).length = d.length - k := by simp only [O.h]; rw [f3.length_eq, List.length_drop, hml2]
        have q2 : (O.o Doc.enc (O.o (leftK m d) k)).length = d.length - k := by rw [O.h, Doc.enc_len, q1]
        have q3 : O.o docErr (O.o (leftK m d) k) = 0 := by simp only [O.h]; exact docErr_zero.2 f2
        by_cases hk2 : k < d.length
        · obtain ⟨x, hx⟩ : ∃ x, m[k]? = some x := ⟨m[k], by simp [hml2, hk2]⟩
          obtain ⟨s2, s3⟩ := left_step (diff_perm h2 (diff_of_may hmd)) hx f2 f3
          have s5 : O.o (leftK m d) (k + 1) = O.o dropR (O.o (leftK m d) k) x.path := by simp only [O.h]; exact leftK_succ hx
          have q4 : (O.o Doc.enc (O.o dropR (O.o (leftK m d) k) x.path)).length = d.length - (k + 1) := by
            rw [← s5, O.h, Doc.enc_len, O.h, s3.length_eq, List.length_drop, hml2]
          repeat' first
            | (refine Named.i64 ?_ fun _ _ => ?_; (focus lia); cbv)
            | (refine Ex.known O Field.enc rfl hx ?_ ?_; (focus lia); cbv)
            | (refine CallThen.mk _ _ (C.fn (drop_fn O (O.o (leftK m d) k) x.path (by lia))) ?_; cbv)
            | (refine Back.up [] [] ?_ ?_ fun _ _ => ?_; rotate_left 2; cbv; refine And.intro ?_ ?_)
            | (refine Named.len fun _ _ hq => ?_; (try simp only [List.length_append, List.length_take, List.length_drop, List.length_replicate, List.length_set] at hq); cbv)
            | (refine Named.mk fun _ _ => ?_; cbv)
            | (refine Br.t ?_ ?_; (focus first | assumption | lia); cbv)
            | (refine Br.f ?_ ?_; (focus first | assumption | lia); cbv)
            | (refine Br.mk (fun _ => ?_) (fun _ => ?_) <;> cbv)
            | (refine Need.mk ?_ ?_; rotate_left; cbv)
            | (refine RetThen.mk [] [] ?_; cbv)
          all_goals try first
            | exact WkR.refl _
            | (clear hx s2 s3 s5 f2 f3; lia)
          · rename_i j2 ej2
            subst ej2
            refine ⟨.refl _, .refl _, .of_eq (by simp only [O.h] at s5 ⊢; rw [s5]), by clear hx s2 s3 s5 f2 f3; lia, ?_⟩
            (repeat' apply And.intro) <;> first | exact True.intro | exact WkR.refl _
          · exact ⟨hk2, s2, s3⟩
        · repeat' first
    | (refine Named.i64 ?_ fun _ _ => ?_; (focus lia); cbv)
    | (refine CallThen.mk _ _ (C.fn (awake_fn O)) ?_; cbv)
    | (refine Named.len fun _ _ hq => ?_; (try simp only [List.length_append, List.length_take, List.length_drop, List.length_replicate, List.length_set] at hq); cbv)
    | (refine Named.mk fun _ _ => ?_; cbv)
    | (refine Br.t ?_ ?_; (focus first | assumption | lia); cbv)
    | (refine Br.f ?_ ?_; (focus first | assumption | lia); cbv)
    | (refine Br.mk (fun _ => ?_) (fun _ => ?_) <;> cbv)
    | (refine Need.mk ?_ ?_; rotate_left; cbv)
    | (refine RetThen.mk [] [] ?_; cbv)
          all_goals lia
end Go.Sym
