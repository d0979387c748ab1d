/- What comes of anything that is asked, as the program and the document tell it: all cases in one. -/
import Derived.Test.YtdbpdcnpolaojaaGreatDoorJ27
import Derived.Test.YtdbpdcnpolaojaaGreatDoorJ28
import Derived.Test.YtdbpdcnpolaojaaGreatDoorJ29
import Derived.Test.YtdbpdcnpolaojaaGreatDoorJ9
import Derived.Test.YtdbpdcnpolaojaaGreatDoorJ21
set_option linter.all false
set_option linter.unusedVariables false
set_option linter.unusedSimpArgs false
namespace Go.Sym
open Go Go.Proofs.Tryz
set_option maxRecDepth 100000
structure SmallO (o : Opn) (m : Nat) : Prop where
  doc : o.doc.length ≤ m
  want : o.want.length ≤ m
  list : ∀ x ∈ o.list, x.doc.length ≤ m ∧ x.want.length ≤ m
  len : o.list.length ≤ 1000000000
theorem apply_ok (O : Opq) (l : List Ndoc) (o : Opn) (total : Int) (hm : mayD l = true) (ht : 0 ≤ total ∧ total ≤ 2147483643) (hs : SmallO o 1099511627) (R1 : List Ndoc) (R2 : Answer) (R3 : List Change) (hR : applyR l o total = (R1, R2, R3))
    : Fn prog 30 [.sl false 0 false 2 (O.o (Nms.enc O) l), .agg (o.en O), .int .i64 total] [] [.sl false 0 false 2 (O.o (Nms.enc O) R1), .agg (R2.enc O), .sl false 0 false 4 (O.o (Chs.enc O) R3), .int .i64 0] [] := by
  have e0 : O.o (Chs.enc O) [] = [] := by rw [O.h]; rfl
  rw [applyR] at hR
  by_cases hw : writesB o = true
  · rw [if_pos hw] at hR
    exact apply_one O l o total hm ht hw ⟨hs.doc, hs.want⟩ R1 R2 R3 hR
  · rw [if_neg hw] at hR
    by_cases h6 : o.kind = 6
    · rw [if_pos h6] at hR
      exact apply_more O l o total hm ht h6 hs.list (Nat.le_trans hs.len (by decide)) R1 R2 R3 hR
    · rw [if_neg h6] at hR
      by_cases h5 : o.kind = 5
      · rw [if_pos h5] at hR
        cases hR
        have := apply_scan O l o total hm ht h5 trivial
        rw [show O.o (scanA l) o = scanA l o by rw [O.h]] at this
        rw [e0]; exact this
      · rw [if_neg h5] at hR
        by_cases h4 : o.kind = 4 ∧ isKey o.key = true
        · rw [if_pos h4] at hR
          cases hR
          have := apply_get O l o total hm ht h4.1 h4.2 trivial
          rw [show O.o (standA l) o.key = standA l o.key by rw [O.h]] at this
          rw [e0]; exact this
        · rw [if_neg h4] at hR
          cases hR
          have hn : ¬ (o.kind = 1 ∨ o.kind = 2 ∨ o.kind = 3) := by simpa [writesB] using hw
          rw [e0]
          exact apply_no O l o total hm ht ⟨fun e => hn (.inl e), fun e => hn (.inr (.inl e)), fun e => hn (.inr (.inr e)), h5, h6, fun e => by
            cases hk : isKey o.key with
            | false => rfl
            | true => exact absurd ⟨e, hk⟩ h4⟩ trivial
theorem rapply_ok (O : Opq) (l : List Ndoc) (o : Opn) (total : Int) (hm : mayD l = true) (ht : 0 ≤ total ∧ total ≤ 2147483643) (hs : SmallO o 1099511627) (hp : (∀ f ∈ o.doc, f.path.size ≤ 9223372036854775807) ∧ (∀ f ∈ o.want, f.path.size ≤ 9223372036854775807) ∧ ∀ x ∈ o.list, (∀ f ∈ x.doc, f.path.size ≤ 9223372036854775807) ∧ ∀ f ∈ x.want, f.path.size ≤ 9223372036854775807) (R1 : List Ndoc) (R2 : Answer) (R3 : List Change) (hR : applyR l o total = (R1, R2, R3))
    : Fn prog 34 [.sl false 0 false 2 (O.o (Nms.enc O) l), .agg (o.en O), .int .i64 total] [] [.sl false 0 false 2 (O.o (Nms.enc O) R1), .agg (R2.enc O), .sl false 0 false 4 (O.o (Chs.enc O) R3)] [] := by
  have hm2 := hm
  rw [mayD, Bool.and_eq_true, decide_eq_true_eq] at hm2
  rw [applyR] at hR
  by_cases hw : writesB o = true
  · rw [if_pos hw] at hR
    exact rapply_one O l o total hm2.2 (by omega) ht hw ⟨⟨hs.doc, hp.1⟩, hs.want, hp.2.1⟩ R1 R2 R3 hR
  · rw [if_neg hw] at hR
    by_cases h6 : o.kind = 6
    · rw [if_pos h6] at hR
      exact rapply_more O l o total hm2.2 (by omega) ht h6 hs.len (fun x hx => ⟨⟨(hs.list x hx).1, (hp.2.2 x hx).1⟩, (hs.list x hx).2, (hp.2.2 x hx).2⟩) R1 R2 R3 hR
    · rw [if_neg h6] at hR
      by_cases h5 : o.kind = 5
      · rw [if_pos h5] at hR
        cases hR
        have := rapply_scan O l o total (by omega) h5
        rw [show O.o (scanA l) o = scanA l o by rw [O.h]] at this
        exact this
      · rw [if_neg h5] at hR
        have hn : ¬ (o.kind = 1 ∨ o.kind = 2 ∨ o.kind = 3) := by simpa [writesB] using hw
        by_cases h4 : o.kind = 4
        · by_cases hk : isKey o.key = true
          · rw [if_pos ⟨h4, hk⟩] at hR
            cases hR
            exact rapply_get O l o total hm2.2 (by omega) h4 _ (by rw [if_pos hk])
          · rw [if_neg (fun k => hk k.2)] at hR
            cases hR
            exact rapply_get O l o total hm2.2 (by omega) h4 _ (by rw [if_neg hk])
        · rw [if_neg (fun k => h4 k.1)] at hR
          cases hR
          exact rapply_bad O l o total ⟨fun e => hn (.inl e), fun e => hn (.inr (.inl e)), fun e => hn (.inr (.inr e)), h4, h5, h6⟩
end Go.Sym
namespace Go.Sym
open Go Go.Proofs.Tryz
def envM (m : Nat → List Mode) : Env := { ty := fun t => tyOf t, mode := m }
theorem hEM (m : Nat → List Mode) : EnvOk prog (envM m) := env_ok (by rfl) ty_ok
def modeOf (f : Nat) (l : List Mode) : Nat → List Mode := fun g => match Nat.beq g f with
  | true => l
  | false => env.mode g
structure CtxM (m : Nat → List Mode) (n0 : Nat) (F : FnT) (L : LpT) : Prop where
  fn : ∀ {f args H res H'}, Fn prog f args H res H' → F f args H res H'
  loop : ∀ {ι : Type} (S : ι → ASt) (I : ι → Prop) (μ : ι → Nat) {b : Code} {st : ASt} {K : AEx → ASt → Prop}, regOk b = true → Start S I n0 st → (∀ i, I i → cw (envM m) F L b (S i) (bodyK S I μ n0 i K)) → L b st K
theorem CtxM.loopAt {m : Nat → List Mode} {n0 : Nat} {F : FnT} {L : LpT} (C : CtxM m n0 F L) {ι : Type} {b : Code} {st : ASt} {K : AEx → ASt → Prop} (rs : List (Nat × Nat)) (us : ι → List (Nat × PV)) (h : ι → Heap) (I : ι → Prop) (μ : ι → Nat) (hr : regOk b = true)
    (start : Start (fun i => ⟨sets (resets st.tmps rs) (us i), h i⟩) I n0 st) (body : ∀ i, I i → cw (envM m) F L b ⟨sets (resets st.tmps rs) (us i), h i⟩ (bodyK (fun i => ⟨sets (resets st.tmps rs) (us i), h i⟩) I μ n0 i K)) : L b st K :=
  C.loop _ I μ hr start body
theorem goM (m : Nat → List Mode) {f : Nat} {fn : Func} {code : Code} {args res : List PV} {H H' : List Sym.Obj} {n : Nat} {rv : List ResultVar} (hf : prog.funcs[f]? = some fn) (hname : fn.name ≠ "runtime.NumGoroutine") (hb : fn.body = some code) (hr : regOk code = true)
    (hn : fn.ntmps - args.length = n) (hrv : fn.results.toList = rv) (h64 : H.length ≤ 64) (h : ∀ F L, CtxM m H.length F L → cw (envM m) F L code ⟨args ++ tops n, heapOf 0 H⟩ (retK (envM m) rv H.length res H')) : Fn prog f args H res H' :=
  .inl (fnB_of_cw (hEM m) hm hf hname hb hr hn hrv fun fc hfc => h _ _ ⟨fun h => h, fun S I μ _ _ _ hr start body => loop_rule S I μ (hEM m) (by omega) hm hfc hr start body⟩)
end Go.Sym
namespace Go.Sym
open Go Go.Proofs.Tryz
set_option maxRecDepth 100000
theorem small_cas : SmallO casO 1099511627 := ⟨by decide, by simp [casO, Opn.want], by simp [casO, Opn.list], by simp [casO, Opn.list]⟩
theorem awakeS_fn (O : Opq) : Fn prog 29 [] [] [.bool true] [] := by
  have r1 : applyR [] casO 5 = ([⟨tx, dA⟩], ⟨0, false, [], [], [], 6, 0, []⟩, [⟨6, tx, true, dA⟩]) := by rw [applyR, if_pos (by simp [writesB, casO, Opn.kind])]; exact shop_awake1
  have r2 : applyR [⟨tx, dA⟩] casO 6 = ([⟨tx, dA⟩], ⟨7, true, dA, [], [], 0, 0, []⟩, []) := by rw [applyR, if_pos (by simp [writesB, casO, Opn.kind])]; exact shop_awake2
  have k1 := apply_ok O [] casO 5 mayD_no (by simp) small_cas _ _ _ r1
  have k2 := apply_ok O [⟨tx, dA⟩] casO 6 mayD_at (by simp) small_cas _ _ _ r2
  have e1 : O.o (Nms.enc O) [] = [] := by rw [O.h]; rfl
  have e2 : O.o (Chs.enc O) [] = [] := by rw [O.h]; rfl
  have e3 : O.o (Ops.enc O) [] = [] := by rw [O.h]; rfl
  have e4 : O.o Doc.enc [] = [] := by rw [O.h]; rfl
  have e5 : O.o Doc.enc dA = [[.str ta, .int .i64 1, .int .i64 1, .str ByteArray.empty, .int .i64 0, .int .i64 0]] := by rw [O.h]; rfl
  have l1 : (O.o (Chs.enc O) [⟨6, tx, true, dA⟩]).length = 1 := Chs.len O _
  have ea : casO.en O = [.int .i64 3, .str tx, .str ByteArray.empty, .sl false 0 false 6 [[.str ta, .int .i64 1, .int .i64 1, .str ByteArray.empty, .int .i64 0, .int .i64 0]], .sl false 0 false 6 [], .bool false, .int .i64 0, .int .i64 0, .sl false 0 false 11 [], .sl false 0 false 2 [], .sl false 0 false 4 []] := by
    rw [show casO.en O = [.int .i64 3, .str tx, .str ByteArray.empty, .sl false 0 false 6 (O.o Doc.enc dA), .sl false 0 false 6 (O.o Doc.enc []), .bool false, .int .i64 0, .int .i64 0, .sl false 0 false 11 (O.o (Ops.enc O) []), .sl false 0 false 2 (O.o (Nms.enc O) []), .sl false 0 false 4 (O.o (Chs.enc O) [])] from rfl, e5, e4, e3, e2, e1]
  rw [e1, ea] at k1
  rw [ea, e2] at k2
  refine goM (modeOf 30 [.bor, .keep]) (fn := Go.Proofs.Tryz.f29) (n := 64) (rv := [ResultVar.tmp 0]) rfl (by decide) rfl (by decide +kernel) rfl rfl (by simp) fun F L C => ?_
  cbv
  (repeat' first | (refine Named.i64 ?_ fun _ _ => ?_; (focus lia); cbv) | (refine CallThen.mk _ _ (C.fn (Fn.wkA (k1) ?_)) ?_; (focus ((repeat' apply WkAL.cons) <;> first | exact WkAL.nil | exact WkA.refl _ | exact WkA.lend rfl | exact WkA.bor rfl (WkR.refl _) | exact WkA.wk (Wk.nil _ _) | exact WkA.wk (Wk.sl' rfl rfl (WkR.refl _)) | (refine WkA.agg' ?_; ((repeat' apply WkAL.cons) <;> first | exact WkAL.nil | exact WkA.refl _ | exact WkA.lend rfl | exact WkA.bor rfl (WkR.refl _) | exact WkA.wk (Wk.nil _ _) | exact WkA.wk (Wk.sl' rfl rfl (WkR.refl _)) | (refine WkA.agg' ?_; ((repeat' apply WkAL.cons) <;> first | exact WkAL.nil | exact WkA.refl _ | exact WkA.lend rfl | exact WkA.bor rfl (WkR.refl _) | exact WkA.wk (Wk.nil _ _) | exact WkA.wk (Wk.sl' rfl rfl (WkR.refl _)))))))); cbv) | (refine CallThen.mk _ _ (C.fn (Fn.wkA (k2) ?_)) ?_; (focus ((repeat' apply WkAL.cons) <;> first | exact WkAL.nil | exact WkA.refl _ | exact WkA.lend rfl | exact WkA.bor rfl (WkR.refl _) | exact WkA.wk (Wk.nil _ _) | exact WkA.wk (Wk.sl' rfl rfl (WkR.refl _)) | (refine WkA.agg' ?_; ((repeat' apply WkAL.cons) <;> first | exact WkAL.nil | exact WkA.refl _ | exact WkA.lend rfl | exact WkA.bor rfl (WkR.refl _) | exact WkA.wk (Wk.nil _ _) | exact WkA.wk (Wk.sl' rfl rfl (WkR.refl _)) | (refine WkA.agg' ?_; ((repeat' apply WkAL.cons) <;> first | exact WkAL.nil | exact WkA.refl _ | exact WkA.lend rfl | exact WkA.bor rfl (WkR.refl _) | exact WkA.wk (Wk.nil _ _) | exact WkA.wk (Wk.sl' rfl rfl (WkR.refl _)))))))); cbv) | (refine Named.len fun _ _ hq => ?_; (try simp only [List.length_append, List.length_take, List.length_drop, List.length_replicate, List.length_set] at hq); cbv) | (refine Named.mk fun _ _ => ?_; cbv) | (refine Br.t ?_ ?_; (focus first | assumption | lia); cbv) | (refine Br.f ?_ ?_; (focus first | assumption | lia); cbv) | (refine Br.mk (fun _ => ?_) (fun _ => ?_) <;> cbv) | (refine Need.mk ?_ ?_; rotate_left; cbv) | (refine RetThen.mk [] [] ?_; cbv))
  all_goals first
    | exact ⟨rfl, trivial⟩
    | (exfalso; rename_i n e h; exact h (by rw [e, O.h]; rfl))
end Go.Sym
namespace Go.Sym
open Go Go.Proofs.Tryz
set_option maxRecDepth 100000
set_option maxHeartbeats 2000000 in
theorem shopSame_fn (O : Opq) (a b : Answer) (d : Doc) (ha : a.docs.length ≤ 9223372036854775807) (hb : b.docs.length ≤ 9223372036854775807) (hn : a.news.length ≤ 9223372036854775807 ∧ ∀ c ∈ a.news, c.doc.length ≤ 9223372036854775807) (hk : a.keys.length ≤ 9223372036854775807) (hp : ∀ f ∈ d, f.path.size ≤ 9223372036854775807)
    : Fn prog 8 [.agg (a.enc O), .agg (b.enc O), .sl false 0 false 6 (O.o Doc.enc d)] [] [.bool true] [] := by
  have g1 := ldocs_fn O a.docs ha
  have g2 := ldocs_fn O b.docs hb
  have hl1 : (O.o Doc.enc a.doc).length = a.doc.length := by rw [O.h, Doc.enc_len]
  have hl2 : (O.o Doc.enc b.doc).length = b.doc.length := by rw [O.h, Doc.enc_len]
  have hl3 : (O.o Doc.enc d).length = d.length := by rw [O.h, Doc.enc_len]
  have hl4 := Chs.len O a.news
  have hl5 := Chs.len O b.news
  have k1 : O.o smallD a.docs = true → a.doc.length ≤ 20 → Fn prog 37 [.agg (a.enc O), .agg (b.enc O)] [] [.bool (O.o sameAns a b)] [] := fun h h2 => by
    rw [O.h] at h
    have := smallD_iff.1 h
    exact sansw_fn O a b (by omega) ⟨by omega, fun c hc => by have := this.2 c hc; omega⟩ hn hk
  have k2 : O.o smallD a.docs = true → a.doc.length ≤ 20 → Fn prog 33 [.agg (a.enc O), .agg (b.enc O)] [] [.bool (O.o sameAns a b)] [] := fun h h2 => by
    rw [O.h] at h
    have := smallD_iff.1 h
    exact ransw_fn O a b (by omega) ⟨by omega, fun c hc => by have := this.2 c hc; omega⟩ hn hk
  have k3 : O.o smallD a.docs = true → a.doc.length ≤ 20 → Fn prog 37 [.agg (a.enc O), .agg (a.enc O)] [] [.bool true] [] := fun h h2 => by
    rw [O.h] at h
    have := smallD_iff.1 h
    have := sansw_fn O a a (by omega) ⟨by omega, fun c hc => by have := this.2 c hc; omega⟩ hn hk
    rw [show O.o sameAns a a = true by rw [O.h, sameAns]; simp] at this
    exact this
  have k4 : d.length ≤ 20 → Fn prog 38 [.sl false 0 false 6 (O.o Doc.enc d)] [] [.bool (O.o lightD d)] [] := fun h => slight_fn O d (by omega)
  have k5 : d.length ≤ 20 → Fn prog 39 [.sl false 0 false 6 (O.o Doc.enc d)] [] [.bool (O.o lightD d)] [] := fun h => r12light_fn O d (by omega) hp
  have aw := awakeS_fn O
  obtain ⟨s1, e1⟩ : ∃ s, s = O.o smallD a.docs := ⟨_, rfl⟩
  obtain ⟨s2, e2⟩ : ∃ s, s = O.o smallD b.docs := ⟨_, rfl⟩
  obtain ⟨s3, e3⟩ : ∃ s, s = O.o sameAns a b := ⟨_, rfl⟩
  obtain ⟨s4, e4⟩ : ∃ s, s = O.o lightD d := ⟨_, rfl⟩
  rw [← e1] at g1 k1 k2 k3
  rw [← e2] at g2
  rw [← e3] at k1 k2
  rw [← e4] at k4 k5
  clear e1 e2 e3 e4 hn hk hp ha hb
  obtain ⟨c, h, dd, ds, ns, n, t, ks⟩ := a
  obtain ⟨c', h', dd', ds', ns', n', t', ks'⟩ := b
  replace hl1 : (O.o Doc.enc dd).length = dd.length := hl1
  replace hl2 : (O.o Doc.enc dd').length = dd'.length := hl2
  replace hl4 : (O.o (Chs.enc O) ns).length = ns.length := hl4
  replace hl5 : (O.o (Chs.enc O) ns').length = ns'.length := hl5
  by_cases hD : d.length ≤ 20 ∧ dd.length ≤ 20 ∧ s1 = true
  · replace k1 := k1 hD.2.2 hD.2.1
    replace k2 := k2 hD.2.2 hD.2.1
    replace k3 := k3 hD.2.2 hD.2.1
    replace k4 := k4 hD.1
    replace k5 := k5 hD.1
    cases s1 with
    | false => exact absurd hD.2.2 (by simp)
    | true =>
    cases s2 <;> cases s3 <;> cases s4
    all_goals
      refine go (fn := Go.Proofs.Tryz.f8) (n := 66) (rv := [ResultVar.tmp 6]) rfl (by decide) rfl (by decide +kernel) rfl rfl (by simp) fun F L C => ?_
      cbv
      (repeat' first | (refine Named.i64 ?_ fun _ _ => ?_; (focus lia); cbv) | (refine CallThen.mk _ _ (C.fn (g1)) ?_; cbv) | (refine CallThen.mk _ _ (C.fn (g2)) ?_; cbv) | (refine CallThen.mk _ _ (C.fn (k1)) ?_; cbv) | (refine CallThen.mk _ _ (C.fn (k2)) ?_; cbv) | (refine CallThen.mk _ _ (C.fn (k3)) ?_; cbv) | (refine CallThen.mk _ _ (C.fn (k4)) ?_; cbv) | (refine CallThen.mk _ _ (C.fn (k5)) ?_; cbv) | (refine CallThen.mk _ _ (C.fn (aw)) ?_; cbv) | (refine Named.len fun _ _ hq => ?_; (try simp only [List.length_append, List.length_take, List.length_drop, List.length_replicate, List.length_set] at hq); cbv) | (refine Named.mk fun _ _ => ?_; cbv) | (refine Br.t ?_ ?_; (focus first | assumption | lia); cbv) | (refine Br.f ?_ ?_; (focus first | assumption | lia); cbv) | (refine Br.mk (fun _ => ?_) (fun _ => ?_) <;> cbv) | (refine Need.mk ?_ ?_; rotate_left; cbv) | (refine RetThen.mk [] [] ?_; cbv))
      all_goals first
        | exact ⟨rfl, trivial⟩
        | (exfalso; clear g1 g2 k1 k2 k3 k4 k5 aw; lia)
        | trace_state
  · clear k1 k2 k3 k4 k5
    cases s1 <;> cases s2
    all_goals
      refine go (fn := Go.Proofs.Tryz.f8) (n := 66) (rv := [ResultVar.tmp 6]) rfl (by decide) rfl (by decide +kernel) rfl rfl (by simp) fun F L C => ?_
      cbv
      (repeat' first | (refine Named.i64 ?_ fun _ _ => ?_; (focus lia); cbv) | (refine CallThen.mk _ _ (C.fn (g1)) ?_; cbv) | (refine CallThen.mk _ _ (C.fn (g2)) ?_; cbv) | (refine CallThen.mk _ _ (C.fn (aw)) ?_; cbv) | (refine Named.len fun _ _ hq => ?_; (try simp only [List.length_append, List.length_take, List.length_drop, List.length_replicate, List.length_set] at hq); cbv) | (refine Named.mk fun _ _ => ?_; cbv) | (refine Br.t ?_ ?_; (focus first | assumption | lia); cbv) | (refine Br.f ?_ ?_; (focus first | assumption | lia); cbv) | (refine Br.mk (fun _ => ?_) (fun _ => ?_) <;> cbv) | (refine Need.mk ?_ ?_; rotate_left; cbv) | (refine RetThen.mk [] [] ?_; cbv))
      all_goals first
        | exact ⟨rfl, trivial⟩
        | (exfalso; refine hD ⟨?_, ?_, rfl⟩ <;> (clear g1 g2 aw; lia))
        | trace_state
end Go.Sym
namespace Go.Sym
open Go Go.Proofs.Tryz
set_option maxRecDepth 100000
def pathsOk (d : Doc) : Prop := ∀ f ∈ d, f.path.size ≤ 9223372036854775807
structure PathsO (o : Opn) : Prop where
  doc : pathsOk o.doc
  want : pathsOk o.want
  list : ∀ x ∈ o.list, pathsOk x.doc ∧ pathsOk x.want
theorem light_small {o : Opn} (h : lightO o = true) (m : Nat) (hm : 20 ≤ m) : SmallO o m := by
  obtain ⟨h1, h2, h3, h4, h5, h6⟩ := lightO_iff.1 h
  refine ⟨by omega, by omega, fun x hx => ?_, by omega⟩
  obtain ⟨i, hi, rfl⟩ := List.getElem_of_mem hx
  have := h1 i _ (List.getElem?_eq_getElem hi)
  omega
theorem ransw0_fn (O : Opq) : Fn prog 33 [.agg (ans0.enc O), .agg [.int .i64 0, .bool false, .nils, .nils, .nils, .int .i64 0, .int .i64 0, .nils]] [] [.bool true] [] := by
  have h := ransw_fn O ans0 ans0 (by simp [ans0]) (by simp [ans0]) (by simp [ans0]) (by simp [ans0])
  rw [show O.o sameAns ans0 ans0 = true by rw [O.h, sameAns]; simp] at h
  have e1 : O.o (Nms.enc O) [] = [] := by rw [O.h]; rfl
  have e2 : O.o (Chs.enc O) [] = [] := by rw [O.h]; rfl
  have e3 : O.o Prs.enc [] = [] := by rw [O.h]; rfl
  have e4 : O.o Doc.enc [] = [] := by rw [O.h]; rfl
  refine h.wkA (.cons (.refl _) (.cons ?_ .nil))
  show WkA (.agg [.int .i64 0, .bool false, .sl false 0 false 6 (O.o Doc.enc []), .sl false 0 false 2 (O.o (Nms.enc O) []), .sl false 0 false 4 (O.o (Chs.enc O) []), .int .i64 0, .int .i64 0, .sl false 0 false 2 (O.o Prs.enc [])]) _
  rw [e1, e2, e3, e4]
  refine .agg' ?_
  exact .cons (.refl _) (.cons (.refl _) (.cons (.wk (.nil _ _)) (.cons (.wk (.nil _ _)) (.cons (.wk (.nil _ _)) (.cons (.refl _) (.cons (.refl _) (.cons (.wk (.nil _ _)) .nil)))))))
theorem smallA_same (O : Opq) {l : List Ndoc} {a : Answer} (h : SmallA l a) (hl : l.length ≤ 24) (hd : ∀ n ∈ l, n.doc.length ≤ 16) : Fn prog 33 [.agg (a.enc O), .agg (a.enc O)] [] [.bool true] [] := by
  have k := ransw_fn O a a (by have := h.doc; omega) ⟨by have := h.docs.1; omega, fun c hc => by have := hd c (h.docs.2 c hc); omega⟩ (by rw [h.news]; simp) (by rw [h.keys]; simp)
  rw [show O.o sameAns a a = true by rw [O.h, sameAns]; simp] at k
  exact k
theorem docs_same (O : Opq) (l : List Ndoc) (hl : l.length ≤ 9223372036854775807) (hd : ∀ n ∈ l, n.doc.length ≤ 9223372036854775807) : Fn prog 35 [.sl false 0 false 2 (O.o (Nms.enc O) l), .sl false 0 false 2 (O.o (Nms.enc O) l)] [] [.bool true] [] := by
  have k := r12docs_fn O l l hl hd
  rw [show O.o sameNs l l = true by rw [O.h, sameNs]; simp] at k
  exact k
theorem news_same (O : Opq) (l : List Change) (hl : l.length ≤ 9223372036854775807) (hd : ∀ n ∈ l, n.doc.length ≤ 9223372036854775807) : Fn prog 36 [.sl false 0 false 4 (O.o (Chs.enc O) l), .sl false 0 false 4 (O.o (Chs.enc O) l)] [] [.bool true] [] := by
  have k := newsW_fn O l l hl hd
  rw [show O.o sameC l l = true by rw [O.h, sameC]; simp] at k
  exact k
theorem applyR_small {l : List Ndoc} {o : Opn} {total : Int} (hm : mayD l = true) (hs : SmallO o 20) {R1 : List Ndoc} {R2 : Answer} {R3 : List Change} (hR : applyR l o total = (R1, R2, R3)) :
    mayD R1 = true ∧ (SmallA l R2) ∧ R3.length ≤ 4 ∧ (∀ c ∈ R3, c.doc.length ≤ 20) := by
  rcases applyR_spec o total hm with ⟨a, h1, h2, _⟩ | ⟨h1, h2, _⟩
  · rw [hR] at h1; cases h1
    exact ⟨hm, h2, by simp, by simp⟩
  · rw [hR] at h1; cases h1
    exact ⟨h2, small_ans _ _, by rw [writeCs_len]; exact writesOf_len o, writeCs_docs _ _ (writesOf_small hs.doc fun x hx => (hs.list x hx).1)⟩
set_option maxHeartbeats 2000000 in
theorem shopApplies_fn (O : Opq) (l : List Ndoc) (o : Opn) (total : Int) (hl : l.length ≤ 9223372036854775807) (hp : ∀ n ∈ l, pathsOk n.doc) (ho : PathsO o)
    : Fn prog 6 [.sl false 0 false 2 (O.o (Nms.enc O) l), .agg (o.en O), .int .i64 total] [] [.bool true] [] := by
  have g1 := ldocs_fn O l hl
  have g2 := llight_fn O o
  have aw := awakeS_fn O
  by_cases hg : smallD l = true ∧ lightO o = true
  · rw [show O.o smallD l = true by rw [O.h]; exact hg.1] at g1
    rw [show O.o lightO o = true by rw [O.h]; exact hg.2] at g2
    have hsm := smallD_iff.1 hg.1
    have hdl : ∀ n ∈ l, n.doc.length ≤ 1099511627776 := fun n hn => by have := hsm.2 n hn; omega
    have k2 := scheck_fn O l (by omega) hdl
    have k3 := r12may_fn O l (by omega) fun n hn => ⟨hdl n hn, hp n hn⟩
    by_cases hb : mayD l = true ∧ 0 ≤ total ∧ total ≤ 2147483643
    · rw [show O.o mayDE l = 0 by rw [O.h]; exact mayDE_zero.2 hb.1] at k2
      rw [show O.o mayD l = true by rw [O.h]; exact hb.1] at k3
      obtain ⟨R1, R2, R3, hR⟩ : ∃ R1 R2 R3, applyR l o total = (R1, R2, R3) := ⟨_, _, _, rfl⟩
      have k1 := apply_ok O l o total hb.1 hb.2 (light_small hg.2 _ (by decide)) R1 R2 R3 hR
      have k4 := rapply_ok O l o total hb.1 hb.2 (light_small hg.2 _ (by decide)) ⟨ho.doc, ho.want, ho.list⟩ R1 R2 R3 hR
      obtain ⟨z1, z2, z3, z4⟩ := applyR_small hb.1 (light_small hg.2 20 (by decide)) hR
      have y1 := mayD_iff.1 z1
      have y2 := mayD_iff.1 hb.1
      have k5 := docs_same O R1 (by omega) (fun n hn => by have := may_len (y1.2.1 n hn).2; omega)
      have k6 := smallA_same O z2 (by omega) (fun n hn => may_len (y2.2.1 n hn).2)
      have k7 := news_same O R3 (by omega) (fun n hn => by have := z4 n hn; omega)
      clear hg hsm hdl hp ho hR z1 z2 z3 z4 y1 y2
      obtain ⟨kind, key, to, doc, want, has, n, most, ops, docs, news⟩ := o
      obtain ⟨ac, ah, ad, ads, ans, an, at', ak⟩ := R2
      refine go (fn := Go.Proofs.Tryz.f6) (n := 94) (rv := [ResultVar.tmp 6]) rfl (by decide) rfl (by decide +kernel) rfl rfl (by simp) fun F L C => ?_
      cbv
      (repeat' first | (refine Named.i64 ?_ fun _ _ => ?_; (focus lia); cbv) | (refine CallThen.mk _ _ (C.fn (g1)) ?_; cbv) | (refine CallThen.mk _ _ (C.fn (g2)) ?_; cbv) | (refine CallThen.mk _ _ (C.fn (k1)) ?_; cbv) | (refine CallThen.mk _ _ (C.fn (k2)) ?_; cbv) | (refine CallThen.mk _ _ (C.fn (k3)) ?_; cbv) | (refine CallThen.mk _ _ (C.fn (k4)) ?_; cbv) | (refine CallThen.mk _ _ (C.fn (k5)) ?_; cbv) | (refine CallThen.mk _ _ (C.fn (k6)) ?_; cbv) | (refine CallThen.mk _ _ (C.fn (k7)) ?_; cbv) | (refine CallThen.mk _ _ (C.fn (aw)) ?_; cbv) | (refine Named.len fun _ _ hq => ?_; (try simp only [List.length_append, List.length_take, List.length_drop, List.length_replicate, List.length_set] at hq); cbv) | (refine Named.mk fun _ _ => ?_; cbv) | (refine Br.t ?_ ?_; (focus first | assumption | lia); cbv) | (refine Br.f ?_ ?_; (focus first | assumption | lia); cbv) | (refine Br.mk (fun _ => ?_) (fun _ => ?_) <;> cbv) | (refine Need.mk ?_ ?_; rotate_left; cbv) | (refine RetThen.mk [] [] ?_; cbv))
      all_goals first
        | exact ⟨rfl, trivial⟩
        | (exfalso; clear g1 g2 k1 k2 k3 k4 k5 k6 k7 aw; lia)
        | trace_state
    · have k1 := apply_bad O l o total (by omega) hdl hb
      have k6 := ransw0_fn O
      have hm : (O.o mayD l = true ∧ O.o mayDE l = 0) ∨ (O.o mayD l = false ∧ O.o mayDE l = 1) := by
        simp only [O.h, mayDE]
        cases mayD l <;> simp
      have hb2 : ¬ (O.o mayD l = true ∧ 0 ≤ total ∧ total ≤ 2147483643) := by simpa only [O.h] using hb
      obtain ⟨m1, e1⟩ : ∃ m, m = O.o mayD l := ⟨_, rfl⟩
      obtain ⟨m2, e2⟩ : ∃ m, m = O.o mayDE l := ⟨_, rfl⟩
      rw [← e1] at k3 hm hb2
      rw [← e2] at k2 hm
      clear e1 e2 hg hsm hdl hp ho hb
      obtain ⟨kind, key, to, doc, want, has, n, most, ops, docs, news⟩ := o
      rcases hm with ⟨rfl, rfl⟩ | ⟨rfl, rfl⟩
      all_goals
        refine go (fn := Go.Proofs.Tryz.f6) (n := 94) (rv := [ResultVar.tmp 6]) rfl (by decide) rfl (by decide +kernel) rfl rfl (by simp) fun F L C => ?_
        cbv
        (repeat' first | (refine Named.i64 ?_ fun _ _ => ?_; (focus lia); cbv) | (refine CallThen.mk _ _ (C.fn (g1)) ?_; cbv) | (refine CallThen.mk _ _ (C.fn (g2)) ?_; cbv) | (refine CallThen.mk _ _ (C.fn (k1)) ?_; cbv) | (refine CallThen.mk _ _ (C.fn (k2)) ?_; cbv) | (refine CallThen.mk _ _ (C.fn (k3)) ?_; cbv) | (refine CallThen.mk _ _ (C.fn (k6)) ?_; cbv) | (refine CallThen.mk _ _ (C.fn (aw)) ?_; cbv) | (refine Named.len fun _ _ hq => ?_; (try simp only [List.length_append, List.length_take, List.length_drop, List.length_replicate, List.length_set] at hq); cbv) | (refine Named.mk fun _ _ => ?_; cbv) | (refine Br.t ?_ ?_; (focus first | assumption | lia); cbv) | (refine Br.f ?_ ?_; (focus first | assumption | lia); cbv) | (refine Br.mk (fun _ => ?_) (fun _ => ?_) <;> cbv) | (refine Need.mk ?_ ?_; rotate_left; cbv) | (refine RetThen.mk [] [] ?_; cbv))
        all_goals first
          | exact ⟨rfl, trivial⟩
          | (exfalso; clear g1 g2 k1 k2 k3 k6 aw; refine hb2 ⟨rfl, ?_⟩; lia)
          | trace_state
  · obtain ⟨s1, e1⟩ : ∃ s, s = O.o smallD l := ⟨_, rfl⟩
    obtain ⟨s2, e2⟩ : ∃ s, s = O.o lightO o := ⟨_, rfl⟩
    have hg : ¬ (s1 = true ∧ s2 = true) := by rw [e1, e2, O.h, O.h]; exact hg
    rw [← e1] at g1
    rw [← e2] at g2
    clear e1 e2 hp ho
    obtain ⟨kind, key, to, doc, want, has, n, most, ops, docs, news⟩ := o
    cases s1 <;> cases s2
    all_goals try (exfalso; exact hg ⟨rfl, rfl⟩)
    all_goals
      refine go (fn := Go.Proofs.Tryz.f6) (n := 94) (rv := [ResultVar.tmp 6]) rfl (by decide) rfl (by decide +kernel) rfl rfl (by simp) fun F L C => ?_
      cbv
      (repeat' first | (refine Named.i64 ?_ fun _ _ => ?_; (focus lia); cbv) | (refine CallThen.mk _ _ (C.fn (g1)) ?_; cbv) | (refine CallThen.mk _ _ (C.fn (g2)) ?_; cbv) | (refine CallThen.mk _ _ (C.fn (aw)) ?_; cbv) | (refine Named.len fun _ _ hq => ?_; (try simp only [List.length_append, List.length_take, List.length_drop, List.length_replicate, List.length_set] at hq); cbv) | (refine Named.mk fun _ _ => ?_; cbv) | (refine Br.t ?_ ?_; (focus first | assumption | lia); cbv) | (refine Br.f ?_ ?_; (focus first | assumption | lia); cbv) | (refine Br.mk (fun _ => ?_) (fun _ => ?_) <;> cbv) | (refine Need.mk ?_ ?_; rotate_left; cbv) | (refine RetThen.mk [] [] ?_; cbv))
      all_goals first
        | exact ⟨rfl, trivial⟩
        | trace_state
end Go.Sym
