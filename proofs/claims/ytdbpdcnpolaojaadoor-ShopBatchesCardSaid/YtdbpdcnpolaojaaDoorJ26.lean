/- What the laws' own small question comes to. -/
import Derived.Test.YtdbpdcnpolaojaaDoorJ24
import Derived.Test.YtdbpdcnpolaojaaDoorJ19
import Derived.Test.YtdbpdcnpolaojaaDoorJ21
import Derived.Test.YtdbpdcnpolaojaaDoorJ25
import Derived.Test.YtdbpdcnpolaojaaDoorJ9
import Derived.Test.YtdbpdcnpolaojaaDoorJ20
set_option linter.all false
set_option linter.unusedVariables false
set_option linter.unusedSimpArgs false
namespace Go.Sym
open Go
def dA : Doc := [⟨ta, numV 1⟩]
def casO : Opn := .mk 3 tx ByteArray.empty dA [] false 0 0 [] [] []
theorem may_dA : may dA = true := by
  refine may_true (by simp [dA]) fun i hi => ?_
  have : i = 0 := by simp [dA] at hi; exact hi
  subst this
  exact (okAt_iff (x := ⟨ta, numV 1⟩) rfl).2 ⟨by decide, .inl ⟨rfl, rfl, rfl, rfl, by decide, by decide⟩, by simp⟩
theorem putC_dA : (putC (docC dA)).length ≤ 512 := by
  have h : ta.size = 1 := rfl
  simp [dA, docC, fieldC, valC, numV, numC, textC, listC, putC, putCs, numB_lo, zig, h]
theorem light_dA : lightD dA = true := by
  rw [lightD, may_dA, Bool.true_and, decide_eq_true_eq]; exact putC_dA
theorem key_tx : isKey tx = true := by decide
theorem getK_no : getK Ndoc.key ([] : List Ndoc) tx = false := by simp [getK]
theorem getK_tx : getK Ndoc.key [(⟨tx, dA⟩ : Ndoc)] tx = true := by simp [getK, hasK]
theorem cas_no : casBad [] casO = false := by simp [casBad, casO, Opn.key, Opn.has, getK_no]
theorem cas_at : casBad [⟨tx, dA⟩] casO = true := by simp [casBad, casO, Opn.key, Opn.has, getK_tx]
theorem docAt_tx : docAt [⟨tx, dA⟩] tx = dA := by
  have : posK Ndoc.key [(⟨tx, dA⟩ : Ndoc)] tx = 0 := by
    obtain ⟨x, hx, hn⟩ := posK_there (κ := Ndoc.key) (d := [(⟨tx, dA⟩ : Ndoc)]) (p := tx) (List.pairwise_singleton _ _) getK_tx
    have := (List.getElem?_eq_some_iff.1 hx).1
    simp at this; omega
  rw [docAt, this]; rfl
theorem write_no : writeA [] casO = ans0 := by
  rw [writeA, if_neg (by simp [casO, Opn.key, key_tx]), if_neg (by simp [casO, Opn.kind]), if_neg (by simp [casO, Opn.doc, Opn.has, may_dA]), if_neg (by simp [cas_no]), if_neg (by simp [casO, Opn.doc, light_dA]), if_neg (by simp)]
theorem write_at : writeA [⟨tx, dA⟩] casO = ⟨7, true, dA, [], [], 0, 0, []⟩ := by
  rw [writeA, if_neg (by simp [casO, Opn.key, key_tx]), if_neg (by simp [casO, Opn.kind]), if_neg (by simp [casO, Opn.doc, Opn.has, may_dA]), if_pos ⟨rfl, cas_at⟩]
  rw [standA, if_pos (by simp [casO, Opn.key, getK_tx])]
  simp [casO, Opn.key, docAt_tx]
theorem shop_awake1 : batchR [] [casO] 5 = ([⟨tx, dA⟩], ⟨0, false, [], [], [], 6, 0, []⟩, [⟨6, tx, true, dA⟩]) := by
  rw [batchR, if_neg (by simp [notWrites, writesB, casO, Opn.kind]), runB, if_neg (by simp [write_no, ans0]), runB]
  simp [foldD, writeC, casO, Opn.kind, Opn.key, Opn.doc, getK_no, insK]
theorem shop_awake2 : batchR [⟨tx, dA⟩] [casO] 6 = ([⟨tx, dA⟩], ⟨7, true, dA, [], [], 0, 0, []⟩, []) := by
  rw [batchR, if_neg (by simp [notWrites, writesB, casO, Opn.kind]), runB, if_pos (by simp [write_at])]
  simp [write_at]
theorem mayD_no : mayD [] = true := mayD_iff.2 ⟨by simp, by simp, List.Pairwise.nil⟩
theorem mayD_at : mayD [⟨tx, dA⟩] = true := mayD_iff.2 ⟨by simp, by simp [key_tx, may_dA], List.pairwise_singleton _ _⟩
end Go.Sym
namespace Go.Sym
open Go
noncomputable def foldAll (l : List Ndoc) (cs : List Change) : List Ndoc := cs.foldl foldD l
def posFrom (t : Int) (cs : List Change) : Prop := ∀ (i : Nat) c, cs[i]? = some c → c.pos = t + i + 1
theorem foldAll_cons {l : List Ndoc} {c : Change} {cs : List Change} : foldAll l (c :: cs) = foldAll (foldD l c) cs := rfl
theorem foldAll_append {l : List Ndoc} {a b : List Change} : foldAll l (a ++ b) = foldAll (foldAll l a) b := List.foldl_append
theorem foldAll_take {l : List Ndoc} {cs : List Change} {i : Nat} {c : Change} (h : cs[i]? = some c) : foldAll l (cs.take (i + 1)) = foldD (foldAll l (cs.take i)) c := by
  rw [List.take_add_one, h, foldAll_append]; rfl
theorem foldAll_sorted : ∀ {cs : List Change} {l : List Ndoc}, sortedK Ndoc.key l → sortedK Ndoc.key (foldAll l cs)
  | [], _, h => h
  | c :: cs, l, h => by rw [foldAll_cons]; exact foldAll_sorted (cs := cs) (foldD_sorted h)
theorem posFrom_nil (t : Int) : posFrom t [] := by intro i c h; simp at h
theorem posFrom_cons {t : Int} {c : Change} {cs : List Change} (h : c.pos = t + 1) (k : posFrom (t + 1) cs) : posFrom t (c :: cs) := by
  intro i d hd
  cases i with
  | zero => simp at hd; subst hd; simpa using h
  | succ i => have := k i d (by simpa using hd); omega
theorem posFrom_append {t : Int} {a b : List Change} (h : posFrom t a) (k : posFrom (t + a.length) b) : posFrom t (a ++ b) := by
  intro i c hc
  by_cases hi : i < a.length
  · rw [List.getElem?_append_left hi] at hc; exact h i c hc
  · rw [List.getElem?_append_right (by omega)] at hc
    have := k (i - a.length) c hc; omega
theorem foldD_len_get {l : List Ndoc} {c : Change} (hs : sortedK Ndoc.key l) (h : c.has = true ∧ getK Ndoc.key l c.key = false → l.length ≠ 24) (hl : l.length ≤ 24) : (foldD l c).length ≤ 24 := by
  cases hh : c.has <;> cases g : getK Ndoc.key l c.key
  · rw [foldD_no hh g]; exact hl
  · rw [foldD_del hh g, List.length_eraseIdx]; split <;> omega
  · rw [foldD_ins hh g, insK]; simp; have := h ⟨hh, g⟩; omega
  · rw [foldD_set hh g]; simpa using hl
theorem write_may {l : List Ndoc} {o : Opn} (hm : mayD l = true) (h : (writeA l o).code = 0) : mayD (foldD l (writeC o)) = true := by
  rw [mayD, Bool.and_eq_true, decide_eq_true_eq] at hm ⊢
  have h1 := fold_write_ok hm.2 h
  obtain ⟨k1, k2, k3, k4, k5⟩ := writeA_ok h
  refine ⟨foldD_len_get (docsOk_iff.1 hm.2).2 (fun hc => ?_) hm.1, h1.1⟩
  have hk : (writeC o).key = o.key := by unfold writeC; split <;> rfl
  rw [hk] at hc
  exact k5 hc.2
def writeCs (t : Int) : List Opn → List Change
  | [] => []
  | o :: l => { writeC o with pos := t + 1 } :: writeCs (t + 1) l
theorem writeCs_len : ∀ (l : List Opn) (t : Int), (writeCs t l).length = l.length
  | [], _ => rfl
  | _ :: l, t => by rw [writeCs, List.length_cons, List.length_cons, writeCs_len l]
theorem writeCs_pos : ∀ (l : List Opn) (t : Int), posFrom t (writeCs t l)
  | [], t => posFrom_nil t
  | _ :: l, t => posFrom_cons rfl (writeCs_pos l _)
theorem writeCs_docs {m : Nat} : ∀ (l : List Opn) (t : Int), (∀ o ∈ l, o.doc.length ≤ m) → ∀ c ∈ writeCs t l, c.doc.length ≤ m
  | [], _, _, c, h => by simp [writeCs] at h
  | o :: l, t, h, c, hc => by
    rw [writeCs] at hc
    rcases List.mem_cons.1 hc with rfl | hc
    · show (writeC o).doc.length ≤ m
      unfold writeC; split
      · simp
      · exact h o (by simp)
    · exact writeCs_docs l _ (fun x hx => h x (List.mem_cons_of_mem _ hx)) c hc
def answerN (n : Int) : Answer := ⟨0, false, [], [], [], n, 0, []⟩
theorem runB_spec {first : List Ndoc} {total : Int} : ∀ (ops : List Opn) (now : List Ndoc) (out : List Change), mayD now = true →
    (∃ (now' : List Ndoc) (o : Opn), mayD now' = true ∧ o ∈ ops ∧ (writeA now' o).code ≠ 0 ∧ runB first total ops now out = (first, writeA now' o, [])) ∨
    (runB first total ops now out = (foldAll now (writeCs (total + out.length) ops), answerN (total + out.length + ops.length), out ++ writeCs (total + out.length) ops) ∧ mayD (foldAll now (writeCs (total + out.length) ops)) = true)
  | [], now, out, h => .inr ⟨by simp [runB, writeCs, foldAll, answerN], h⟩
  | o :: l, now, out, h => by
    rw [runB]
    by_cases hc : (writeA now o).code ≠ 0
    · rw [if_pos hc]; exact .inl ⟨now, o, h, by simp, hc, rfl⟩
    · rw [if_neg hc]
      have hw := write_may h (by simpa using hc)
      have hf : mayD (foldD now { writeC o with pos := total + out.length + 1 }) = true := by rw [foldD_pos]; exact hw
      have e1 : total + ((out ++ [{ writeC o with pos := total + out.length + 1 }]).length : Int) = total + out.length + 1 := by simp; omega
      rcases runB_spec l _ (out ++ [{ writeC o with pos := total + out.length + 1 }]) hf with ⟨now', x, h1, h2, h3, h4⟩ | ⟨h1, h2⟩
      · exact .inl ⟨now', x, h1, List.mem_cons_of_mem _ h2, h3, h4⟩
      · rw [e1] at h1 h2
        refine .inr ⟨?_, ?_⟩
        · rw [h1, writeCs, foldAll_cons, List.append_assoc]
          simp only [List.length_cons, List.singleton_append, Prod.mk.injEq, true_and, and_true]
          simp only [answerN]
          congr 1
          omega
        · rw [writeCs, foldAll_cons]; exact h2
theorem docAt_len {l : List Ndoc} (hm : mayD l = true) (p : ByteArray) : (docAt l p).length ≤ 16 := by
  rw [docAt]
  split
  · rename_i n hn
    exact may_len ((mayD_iff.1 hm).2.1 n (List.mem_of_getElem? hn)).2
  · simp
structure SmallA (l : List Ndoc) (a : Answer) : Prop where
  doc : a.doc.length ≤ 16
  docs : a.docs.length ≤ l.length ∧ ∀ n ∈ a.docs, n ∈ l
  news : a.news = []
  keys : a.keys = []
theorem small_ref (l : List Ndoc) (e : Int) : SmallA l (refA e) := ⟨by simp [refA], by simp [refA], rfl, rfl⟩
theorem small_ans (l : List Ndoc) (e : Int) : SmallA l (answerN e) := ⟨by simp [answerN], by simp [answerN], rfl, rfl⟩
theorem small_ans0 (l : List Ndoc) : SmallA l ans0 := ⟨by simp [ans0], by simp [ans0], rfl, rfl⟩
theorem small_stand {l m : List Ndoc} (hm : mayD m = true) (p : ByteArray) : SmallA l (standA m p) := by
  rw [standA]; split
  · exact ⟨docAt_len hm p, by simp, rfl, rfl⟩
  · exact small_ans0 l
theorem small_write {l m : List Ndoc} (hm : mayD m = true) (o : Opn) : SmallA l (writeA m o) := by
  rw [writeA]
  split
  · exact small_ref _ _
  · split
    · split
      · exact small_ans0 _
      · exact small_ref _ _
    · split
      · exact small_ref _ _
      · split
        · have := small_stand (l := l) hm o.key
          exact ⟨this.doc, this.docs, this.news, this.keys⟩
        · split
          · exact small_ref _ _
          · split
            · exact small_ref _ _
            · exact small_ans0 _
theorem small_scan (l : List Ndoc) (o : Opn) : SmallA l (scanA l o) := by
  rw [scanA]; split
  · exact small_ref _ _
  · refine ⟨by simp, ⟨?_, fun n hn => ?_⟩, rfl, rfl⟩
    · have h1 := List.length_filter_le (inScan o) l
      simp only [List.length_take]; omega
    · exact (List.mem_filter.1 (List.mem_of_mem_take hn)).1
noncomputable def writesOf (o : Opn) : List Opn := if writesB o = true then [o] else if o.kind = 6 ∧ ¬ (o.list.length < 1 ∨ 4 < o.list.length ∨ o.list.any notWrites = true) then o.list else []
theorem applyR_spec {l : List Ndoc} (o : Opn) (total : Int) (hm : mayD l = true) :
    (∃ a, applyR l o total = (l, a, []) ∧ SmallA l a ∧ (a.code = 0 → o.kind = 4 ∨ o.kind = 5)) ∨
    (applyR l o total = (foldAll l (writeCs total (writesOf o)), answerN (total + (writesOf o).length), writeCs total (writesOf o)) ∧ mayD (foldAll l (writeCs total (writesOf o))) = true ∧ (writesB o = true ∨ o.kind = 6) ∧ writesOf o ≠ []) := by
  rw [applyR]
  by_cases hw : writesB o = true
  · rw [if_pos hw]
    have e : writesOf o = [o] := by rw [writesOf, if_pos hw]
    have hb : batchR l [o] total = runB l total [o] l [] := by rw [batchR, if_neg (by simp [notWrites, hw])]
    rw [hb, e]
    rcases runB_spec (first := l) (total := total) [o] l [] hm with ⟨now', x, h1, h2, h3, h4⟩ | ⟨h1, h2⟩
    · exact .inl ⟨_, h4, small_write h1 x, fun k => absurd k h3⟩
    · simp only [List.length_nil, Int.natCast_zero, Int.add_zero, List.nil_append] at h1 h2
      exact .inr ⟨h1, h2, .inl hw, by simp⟩
  · rw [if_neg hw]
    by_cases h6 : o.kind = 6
    · rw [if_pos h6]
      by_cases hg : o.list.length < 1 ∨ 4 < o.list.length ∨ o.list.any notWrites = true
      · rw [batchR, if_pos hg]
        exact .inl ⟨_, rfl, small_ref _ _, fun k => by cases k⟩
      · have e : writesOf o = o.list := by rw [writesOf, if_neg hw, if_pos ⟨h6, hg⟩]
        rw [batchR, if_neg hg, e]
        rcases runB_spec (first := l) (total := total) o.list l [] hm with ⟨now', x, h1, h2, h3, h4⟩ | ⟨h1, h2⟩
        · exact .inl ⟨_, h4, small_write h1 x, fun k => absurd k h3⟩
        · simp only [List.length_nil, Int.natCast_zero, Int.add_zero, List.nil_append] at h1 h2
          exact .inr ⟨h1, h2, .inr h6, fun k => hg (.inl (by rw [k]; simp))⟩
    · rw [if_neg h6]
      by_cases h5 : o.kind = 5
      · rw [if_pos h5]; exact .inl ⟨_, rfl, small_scan _ _, fun _ => .inr h5⟩
      · rw [if_neg h5]
        by_cases h4 : o.kind = 4 ∧ isKey o.key = true
        · rw [if_pos h4]; exact .inl ⟨_, rfl, small_stand hm _, fun _ => .inl h4.1⟩
        · rw [if_neg h4]; exact .inl ⟨_, rfl, small_ref _ _, fun k => by cases k⟩
theorem writesOf_small {o : Opn} {m : Nat} (h1 : o.doc.length ≤ m) (h2 : ∀ x ∈ o.list, x.doc.length ≤ m) : ∀ x ∈ writesOf o, x.doc.length ≤ m := by
  intro x hx
  unfold writesOf at hx
  split at hx
  · rw [List.mem_singleton.1 hx]; exact h1
  · split at hx
    · exact h2 x hx
    · simp at hx
theorem writesOf_len (o : Opn) : (writesOf o).length ≤ 4 := by
  unfold writesOf
  split
  · simp
  · split
    · rename_i h; have := h.2; omega
    · simp
end Go.Sym
namespace Go.Sym
open Go Go.Proofs.Tryd
set_option maxRecDepth 100000
structure SmallO (o : Opn) (m : Nat) : Prop where
  doc : o.doc.length ≤ m
  want : o.want.length ≤ m
  list : ∀ x ∈ o.list, x.doc.length ≤ m ∧ x.want.length ≤ m
  len : o.list.length ≤ 1000000000
theorem apply_ok (O : Opq) (l : List Ndoc) (o : Opn) (total : Int) (hm : mayD l = true) (ht : 0 ≤ total ∧ total ≤ 2147483643) (hs : SmallO o 1099511627) (R1 : List Ndoc) (R2 : Answer) (R3 : List Change) (hR : applyR l o total = (R1, R2, R3))
    : Fn prog 9 [.sl false 0 false 2 (O.o (Nms.enc O) l), .agg (o.en O), .int .i64 total] [] [.sl false 0 false 2 (O.o (Nms.enc O) R1), .agg (R2.enc O), .sl false 0 false 4 (O.o (Chs.enc O) R3), .int .i64 0] [] := by
  have e0 : O.o (Chs.enc O) [] = [] := by rw [O.h]; rfl
  rw [applyR] at hR
  by_cases hw : writesB o = true
  · rw [if_pos hw] at hR
    exact apply_one O l o total hm ht hw ⟨hs.doc, hs.want⟩ R1 R2 R3 hR
  · rw [if_neg hw] at hR
    by_cases h6 : o.kind = 6
    · rw [if_pos h6] at hR
      exact apply_more O l o total hm ht h6 hs.list (Nat.le_trans hs.len (by decide)) R1 R2 R3 hR
    · rw [if_neg h6] at hR
      by_cases h5 : o.kind = 5
      · rw [if_pos h5] at hR
        cases hR
        have := apply_scan O l o total hm ht h5 trivial
        rw [show O.o (scanA l) o = scanA l o by rw [O.h]] at this
        rw [e0]; exact this
      · rw [if_neg h5] at hR
        by_cases h4 : o.kind = 4 ∧ isKey o.key = true
        · rw [if_pos h4] at hR
          cases hR
          have := apply_get O l o total hm ht h4.1 h4.2 trivial
          rw [show O.o (standA l) o.key = standA l o.key by rw [O.h]] at this
          rw [e0]; exact this
        · rw [if_neg h4] at hR
          cases hR
          have hn : ¬ (o.kind = 1 ∨ o.kind = 2 ∨ o.kind = 3) := by simpa [writesB] using hw
          rw [e0]
          exact apply_no O l o total hm ht ⟨fun e => hn (.inl e), fun e => hn (.inr (.inl e)), fun e => hn (.inr (.inr e)), h5, h6, fun e => by
            cases hk : isKey o.key with
            | false => rfl
            | true => exact absurd ⟨e, hk⟩ h4⟩ trivial
end Go.Sym
namespace Go.Sym
open Go Go.Proofs.Tryd
def envM (m : Nat → List Mode) : Env := { ty := fun t => tyOf t, mode := m }
theorem hEM (m : Nat → List Mode) : EnvOk prog (envM m) := env_ok (by rfl) ty_ok
def modeOf (f : Nat) (l : List Mode) : Nat → List Mode := fun g => match Nat.beq g f with
  | true => l
  | false => env.mode g
structure CtxM (m : Nat → List Mode) (n0 : Nat) (F : FnT) (L : LpT) : Prop where
  fn : ∀ {f args H res H'}, Fn prog f args H res H' → F f args H res H'
  loop : ∀ {ι : Type} (S : ι → ASt) (I : ι → Prop) (μ : ι → Nat) {b : Code} {st : ASt} {K : AEx → ASt → Prop}, regOk b = true → Start S I n0 st → (∀ i, I i → cw (envM m) F L b (S i) (bodyK S I μ n0 i K)) → L b st K
theorem CtxM.loopAt {m : Nat → List Mode} {n0 : Nat} {F : FnT} {L : LpT} (C : CtxM m n0 F L) {ι : Type} {b : Code} {st : ASt} {K : AEx → ASt → Prop} (rs : List (Nat × Nat)) (us : ι → List (Nat × PV)) (h : ι → Heap) (I : ι → Prop) (μ : ι → Nat) (hr : regOk b = true)
    (start : Start (fun i => ⟨sets (resets st.tmps rs) (us i), h i⟩) I n0 st) (body : ∀ i, I i → cw (envM m) F L b ⟨sets (resets st.tmps rs) (us i), h i⟩ (bodyK (fun i => ⟨sets (resets st.tmps rs) (us i), h i⟩) I μ n0 i K)) : L b st K :=
  C.loop _ I μ hr start body
theorem goM (m : Nat → List Mode) {f : Nat} {fn : Func} {code : Code} {args res : List PV} {H H' : List Sym.Obj} {n : Nat} {rv : List ResultVar} (hf : prog.funcs[f]? = some fn) (hname : fn.name ≠ "runtime.NumGoroutine") (hb : fn.body = some code) (hr : regOk code = true)
    (hn : fn.ntmps - args.length = n) (hrv : fn.results.toList = rv) (h64 : H.length ≤ 64) (h : ∀ F L, CtxM m H.length F L → cw (envM m) F L code ⟨args ++ tops n, heapOf 0 H⟩ (retK (envM m) rv H.length res H')) : Fn prog f args H res H' :=
  .inl (fnB_of_cw (hEM m) hm hf hname hb hr hn hrv fun fc hfc => h _ _ ⟨fun h => h, fun S I μ _ _ _ hr start body => loop_rule S I μ (hEM m) (by omega) hm hfc hr start body⟩)
end Go.Sym
namespace Go.Sym
open Go Go.Proofs.Tryd
set_option maxRecDepth 100000
theorem small_cas : SmallO casO 1099511627 := ⟨by decide, by simp [casO, Opn.want], by simp [casO, Opn.list], by simp [casO, Opn.list]⟩
theorem awakeS_fn (O : Opq) : Fn prog 7 [] [] [.bool true] [] := by
  have r1 : applyR [] casO 5 = ([⟨tx, dA⟩], ⟨0, false, [], [], [], 6, 0, []⟩, [⟨6, tx, true, dA⟩]) := by rw [applyR, if_pos (by simp [writesB, casO, Opn.kind])]; exact shop_awake1
  have r2 : applyR [⟨tx, dA⟩] casO 6 = ([⟨tx, dA⟩], ⟨7, true, dA, [], [], 0, 0, []⟩, []) := by rw [applyR, if_pos (by simp [writesB, casO, Opn.kind])]; exact shop_awake2
  have k1 := apply_ok O [] casO 5 mayD_no (by simp) small_cas _ _ _ r1
  have k2 := apply_ok O [⟨tx, dA⟩] casO 6 mayD_at (by simp) small_cas _ _ _ r2
  have e1 : O.o (Nms.enc O) [] = [] := by rw [O.h]; rfl
  have e2 : O.o (Chs.enc O) [] = [] := by rw [O.h]; rfl
  have e3 : O.o (Ops.enc O) [] = [] := by rw [O.h]; rfl
  have e4 : O.o Doc.enc [] = [] := by rw [O.h]; rfl
  have e5 : O.o Doc.enc dA = [[.str ta, .int .i64 1, .int .i64 1, .str ByteArray.empty, .int .i64 0, .int .i64 0]] := by rw [O.h]; rfl
  have l1 : (O.o (Chs.enc O) [⟨6, tx, true, dA⟩]).length = 1 := Chs.len O _
  have ea : casO.en O = [.int .i64 3, .str tx, .str ByteArray.empty, .sl false 0 false 6 [[.str ta, .int .i64 1, .int .i64 1, .str ByteArray.empty, .int .i64 0, .int .i64 0]], .sl false 0 false 6 [], .bool false, .int .i64 0, .int .i64 0, .sl false 0 false 11 [], .sl false 0 false 2 [], .sl false 0 false 4 []] := by
    rw [show casO.en O = [.int .i64 3, .str tx, .str ByteArray.empty, .sl false 0 false 6 (O.o Doc.enc dA), .sl false 0 false 6 (O.o Doc.enc []), .bool false, .int .i64 0, .int .i64 0, .sl false 0 false 11 (O.o (Ops.enc O) []), .sl false 0 false 2 (O.o (Nms.enc O) []), .sl false 0 false 4 (O.o (Chs.enc O) [])] from rfl, e5, e4, e3, e2, e1]
  rw [e1, ea] at k1
  rw [ea, e2] at k2
  refine goM (modeOf 9 [.bor, .keep]) (fn := Go.Proofs.Tryd.f7) (n := 64) (rv := [ResultVar.tmp 0]) rfl (by decide) rfl (by decide +kernel) rfl rfl (by simp) fun F L C => ?_
  cbv
  (repeat' first | (refine Named.i64 ?_ fun _ _ => ?_; (focus lia); cbv) | (refine CallThen.mk _ _ (C.fn (Fn.wkA (k1) ?_)) ?_; (focus ((repeat' apply WkAL.cons) <;> first | exact WkAL.nil | exact WkA.refl _ | exact WkA.lend rfl | exact WkA.bor rfl (WkR.refl _) | exact WkA.wk (Wk.nil _ _) | exact WkA.wk (Wk.sl' rfl rfl (WkR.refl _)) | (refine WkA.agg' ?_; ((repeat' apply WkAL.cons) <;> first | exact WkAL.nil | exact WkA.refl _ | exact WkA.lend rfl | exact WkA.bor rfl (WkR.refl _) | exact WkA.wk (Wk.nil _ _) | exact WkA.wk (Wk.sl' rfl rfl (WkR.refl _)) | (refine WkA.agg' ?_; ((repeat' apply WkAL.cons) <;> first | exact WkAL.nil | exact WkA.refl _ | exact WkA.lend rfl | exact WkA.bor rfl (WkR.refl _) | exact WkA.wk (Wk.nil _ _) | exact WkA.wk (Wk.sl' rfl rfl (WkR.refl _)))))))); cbv) | (refine CallThen.mk _ _ (C.fn (Fn.wkA (k2) ?_)) ?_; (focus ((repeat' apply WkAL.cons) <;> first | exact WkAL.nil | exact WkA.refl _ | exact WkA.lend rfl | exact WkA.bor rfl (WkR.refl _) | exact WkA.wk (Wk.nil _ _) | exact WkA.wk (Wk.sl' rfl rfl (WkR.refl _)) | (refine WkA.agg' ?_; ((repeat' apply WkAL.cons) <;> first | exact WkAL.nil | exact WkA.refl _ | exact WkA.lend rfl | exact WkA.bor rfl (WkR.refl _) | exact WkA.wk (Wk.nil _ _) | exact WkA.wk (Wk.sl' rfl rfl (WkR.refl _)) | (refine WkA.agg' ?_; ((repeat' apply WkAL.cons) <;> first | exact WkAL.nil | exact WkA.refl _ | exact WkA.lend rfl | exact WkA.bor rfl (WkR.refl _) | exact WkA.wk (Wk.nil _ _) | exact WkA.wk (Wk.sl' rfl rfl (WkR.refl _)))))))); cbv) | (refine Named.len fun _ _ hq => ?_; (try simp only [List.length_append, List.length_take, List.length_drop, List.length_replicate, List.length_set] at hq); cbv) | (refine Named.mk fun _ _ => ?_; cbv) | (refine Br.t ?_ ?_; (focus first | assumption | lia); cbv) | (refine Br.f ?_ ?_; (focus first | assumption | lia); cbv) | (refine Br.mk (fun _ => ?_) (fun _ => ?_) <;> cbv) | (refine Need.mk ?_ ?_; rotate_left; cbv) | (refine RetThen.mk [] [] ?_; cbv))
  all_goals first
    | exact ⟨rfl, trivial⟩
    | (exfalso; rename_i n e h; exact h (by rw [e, O.h]; rfl))
end Go.Sym
namespace Go.Sym
open Go Go.Proofs.Tryd
set_option maxRecDepth 100000
def pathsOk (d : Doc) : Prop := ∀ f ∈ d, f.path.size ≤ 9223372036854775807
theorem light_small {o : Opn} (h : lightO o = true) (m : Nat) (hm : 20 ≤ m) : SmallO o m := by
  obtain ⟨h1, h2, h3, h4, h5, h6⟩ := lightO_iff.1 h
  refine ⟨by omega, by omega, fun x hx => ?_, by omega⟩
  obtain ⟨i, hi, rfl⟩ := List.getElem_of_mem hx
  have := h1 i _ (List.getElem?_eq_getElem hi)
  omega
theorem docs_same (O : Opq) (l : List Ndoc) (hl : l.length ≤ 9223372036854775807) (hd : ∀ n ∈ l, n.doc.length ≤ 9223372036854775807) : Fn prog 10 [.sl false 0 false 2 (O.o (Nms.enc O) l), .sl false 0 false 2 (O.o (Nms.enc O) l)] [] [.bool true] [] := by
  have k := r12docs_fn O l l hl hd
  rw [show O.o sameNs l l = true by rw [O.h, sameNs]; simp] at k
  exact k
end Go.Sym
