/- What folds and writes come to. -/
import Derived.Test.YtdbpdcnpolaojaaDoorJ8
import Derived.Test.YtdbpdcnpolaojaaDoorJ5
import Derived.Test.YtdbpdcnpolaojaaDoorJ18
import Derived.Test.YtdbpdcnpolaojaaDoorJ12
import Derived.Test.YtdbpdcnpolaojaaDoorJ7
import Derived.Test.YtdbpdcnpolaojaaDoorJ4
import Derived.Lib.Strings
import Derived.Test.YtdbpdcnpolaojaaDoorJ9
import Derived.Test.YtdbpdcnpolaojaaDoorJ15
set_option linter.all false
set_option linter.unusedVariables false
set_option linter.unusedSimpArgs false
namespace Go.Sym
open Go
noncomputable def writeP (l : List Ndoc) (o : Opn) : Change := ⟨0, o.key, decide (o.kind ≠ 2), if o.kind = 2 ∧ isKey o.key = true ∧ getK Ndoc.key l o.key = true then [] else o.doc⟩
theorem foldD_set {l : List Ndoc} {c : Change} (h : c.has = true) (g : getK Ndoc.key l c.key = true) : foldD l c = l.set (posK Ndoc.key l c.key) ⟨c.key, c.doc⟩ := by rw [foldD, if_pos h, if_pos g]
theorem foldD_ins {l : List Ndoc} {c : Change} (h : c.has = true) (g : getK Ndoc.key l c.key = false) : foldD l c = insK l (posK Ndoc.key l c.key) ⟨c.key, c.doc⟩ := by rw [foldD, if_pos h, if_neg (by simp [g])]
theorem foldD_del {l : List Ndoc} {c : Change} (h : c.has = false) (g : getK Ndoc.key l c.key = true) : foldD l c = l.eraseIdx (posK Ndoc.key l c.key) := by rw [foldD, if_neg (by simp [h]), if_pos g]
theorem foldD_no {l : List Ndoc} {c : Change} (h : c.has = false) (g : getK Ndoc.key l c.key = false) : foldD l c = l := by rw [foldD, if_neg (by simp [h]), if_neg (by simp [g])]
theorem foldD_pos {l : List Ndoc} {c : Change} (p : Int) : foldD l { c with pos := p } = foldD l c := rfl
theorem set_sorted {l : List Ndoc} {i : Nat} {x y : Ndoc} (hs : sortedK Ndoc.key l) (hx : l[i]? = some x) (e : y.key = x.key) : sortedK Ndoc.key (l.set i y) := by
  have hm : (l.set i y).map Ndoc.key = l.map Ndoc.key := by
    apply List.ext_getElem?
    intro j
    rw [List.getElem?_map, List.getElem?_map, List.getElem?_set]
    split
    · rename_i h; subst h
      split
      · rw [hx]; simp [e]
      · rename_i h; rw [List.getElem?_eq_none (by omega)] at hx; cases hx
    · rfl
  have h2 : ∀ m : List Ndoc, sortedK Ndoc.key m ↔ (m.map Ndoc.key).Pairwise slt := fun m => by rw [List.pairwise_map]; rfl
  rw [h2, hm, ← h2]; exact hs
theorem foldD_sorted {l : List Ndoc} {c : Change} (hs : sortedK Ndoc.key l) : sortedK Ndoc.key (foldD l c) := by
  cases h : c.has <;> cases g : getK Ndoc.key l c.key
  · rw [foldD_no h g]; exact hs
  · rw [foldD_del h g]; exact eraseIdx_sorted hs _
  · rw [foldD_ins h g]; exact insK_sorted (x := ⟨c.key, c.doc⟩) hs g
  · obtain ⟨x, hx, hp⟩ := posK_there hs g
    rw [foldD_set h g]; exact set_sorted hs hx hp.symm
theorem foldD_mem {l : List Ndoc} {c : Change} {n : Ndoc} (h : n ∈ foldD l c) : n ∈ l ∨ c.has = true ∧ n = ⟨c.key, c.doc⟩ := by
  cases hh : c.has <;> cases g : getK Ndoc.key l c.key
  · rw [foldD_no hh g] at h; exact .inl h
  · rw [foldD_del hh g] at h; exact .inl (List.mem_of_mem_eraseIdx h)
  · rw [foldD_ins hh g, insK] at h
    rcases List.mem_append.1 h with h | h
    · exact .inl (List.mem_of_mem_take h)
    · rcases List.mem_cons.1 h with h | h
      · exact .inr ⟨rfl, h⟩
      · exact .inl (List.mem_of_mem_drop h)
  · rw [foldD_set hh g] at h
    rcases List.mem_or_eq_of_mem_set h with h | h
    · exact .inl h
    · exact .inr ⟨rfl, h⟩
theorem foldD_len {l : List Ndoc} {c : Change} : (foldD l c).length ≤ l.length + 1 := by
  cases hh : c.has <;> cases g : getK Ndoc.key l c.key
  · rw [foldD_no hh g]; omega
  · rw [foldD_del hh g, List.length_eraseIdx]; split <;> omega
  · rw [foldD_ins hh g, insK]; simp; omega
  · rw [foldD_set hh g]; simp
theorem writeA_ok {l : List Ndoc} {o : Opn} (h : (writeA l o).code = 0) : isKey o.key = true ∧ writeP l o = writeC o ∧ (o.kind ≠ 2 → may o.doc = true) ∧ (o.kind = 2 → getK Ndoc.key l o.key = true) ∧ (getK Ndoc.key l o.key = false → l.length ≠ 24) := by
  rw [writeA] at h
  split at h
  · cases h
  · rename_i hk
    have hk : isKey o.key = true := by simpa using hk
    split at h
    · rename_i h2
      split at h
      · rename_i g
        refine ⟨hk, ?_, fun e => absurd h2 e, fun _ => g, fun e => by rw [g] at e; cases e⟩
        rw [writeP, writeC, if_pos ⟨h2, hk, g⟩, if_pos h2]; simp [h2]
      · cases h
    · rename_i h2
      have hP : writeP l o = writeC o := by rw [writeP, writeC, if_neg (fun k => h2 k.1), if_neg h2]; simp [h2]
      split at h
      · cases h
      · rename_i h3
        have hm : may o.doc = true := by
          cases hm : may o.doc with
          | true => rfl
          | false => exact absurd (.inl hm) h3
        split at h
        · cases h
        · split at h
          · cases h
          · split at h
            · cases h
            · rename_i h6
              exact ⟨hk, hP, fun _ => hm, fun e => absurd e h2, fun g e => h6 ⟨g, e⟩⟩
theorem fold_write_ok {l : List Ndoc} {o : Opn} (hl : docsOk l = true) (h : (writeA l o).code = 0) : docsOk (foldD l (writeC o)) = true ∧ (foldD l (writeC o)).length ≤ l.length + 1 := by
  obtain ⟨h1, _, h3, _⟩ := writeA_ok h
  obtain ⟨k1, k2⟩ := docsOk_iff.1 hl
  refine ⟨docsOk_iff.2 ⟨fun n hn => ?_, foldD_sorted k2⟩, foldD_len⟩
  rcases foldD_mem hn with hn | ⟨hh, rfl⟩
  · exact k1 n hn
  · unfold writeC at hh ⊢
    split at hh
    · cases hh
    · rename_i h2
      rw [if_neg h2]; exact ⟨h1, h3 h2⟩
theorem docsOk_bd {l : List Ndoc} (h : docsOk l = true) : ∀ n ∈ l, n.doc.length ≤ 16 := fun n hn => may_len ((docsOk_iff.1 h).1 n hn).2
theorem runB_docs {first : List Ndoc} {total : Int} {m : Nat} : ∀ (ops : List Opn) (now : List Ndoc) (out : List Change), (∀ o ∈ ops, o.doc.length ≤ m) → (∀ c ∈ out, c.doc.length ≤ m) → ∀ c ∈ (runB first total ops now out).2.2, c.doc.length ≤ m
  | [], now, out, _, h => by rw [runB]; exact h
  | o :: l, now, out, ho, h => by
    rw [runB]
    split
    · simp
    · refine runB_docs l _ _ (fun x hx => ho x (List.mem_cons_of_mem _ hx)) fun c hc => ?_
      rcases List.mem_append.1 hc with hc | hc
      · exact h c hc
      · rw [List.mem_singleton.1 hc]
        show (writeC o).doc.length ≤ m
        unfold writeC; split
        · simp
        · exact ho o (by simp)
theorem batchR_docs {l : List Ndoc} {ops : List Opn} {total : Int} {m : Nat} (h : ∀ o ∈ ops, o.doc.length ≤ m) : ∀ c ∈ (batchR l ops total).2.2, c.doc.length ≤ m := by
  rw [batchR]; split
  · simp
  · exact runB_docs ops l [] h (by simp)
end Go.Sym
namespace Go.Sym
open Go
def tx : ByteArray := ⟨#[120]⟩
def ty : ByteArray := ⟨#[121]⟩
def ta : ByteArray := ⟨#[97]⟩
end Go.Sym
namespace Go.Sym
open Go
theorem Sub.enc_inj {s t : Sub} : s.enc = t.enc ↔ s = t := by cases s; cases t; simp [Sub.enc]
end Go.Sym
namespace Go.Sym
open Go
open Classical in
noncomputable def rfoldL (c : Change) : Bool → List Ndoc → List Ndoc
  | p, [] => if p = false then [⟨c.key, c.doc⟩] else []
  | p, d :: l => (if p = false ∧ ¬ slt d.key c.key then [⟨c.key, c.doc⟩] else []) ++ (if d.key ≠ c.key then [d] else []) ++ rfoldL c (p || decide (¬ slt d.key c.key)) l
theorem rfoldL_put {c : Change} : ∀ l : List Ndoc, rfoldL c true l = l.filter fun d => decide (d.key ≠ c.key)
  | [] => by simp [rfoldL]
  | d :: l => by
    rw [rfoldL, if_neg (by simp), Bool.true_or, rfoldL_put l, List.filter_cons]
    by_cases h : d.key = c.key <;> simp [h]
theorem filter_ne {c : ByteArray} : ∀ {l : List Ndoc}, (∀ d ∈ l, d.key ≠ c) → (l.filter fun d => decide (d.key ≠ c)) = l := fun {l} h => List.filter_eq_self.2 fun d hd => by simpa using h d hd
theorem rfoldL_lo {c : Change} : ∀ (l m : List Ndoc), (∀ d ∈ l, slt d.key c.key) → rfoldL c false (l ++ m) = l ++ rfoldL c false m
  | [], m, _ => rfl
  | d :: l, m, h => by
    have hd := h d (by simp)
    rw [List.cons_append, rfoldL, if_neg (by simp [hd]), if_pos (slt_ne hd)]
    simp only [hd, not_true_eq_false, decide_false, Bool.or_false, List.nil_append]
    rw [rfoldL_lo l m fun x hx => h x (List.mem_cons_of_mem _ hx)]; rfl
theorem rfold_eq {c : Change} {l : List Ndoc} (hs : sortedK Ndoc.key l) : rfoldL c (!c.has) l = foldD l c := by
  have hlo : ∀ d ∈ l.take (posK Ndoc.key l c.key), slt d.key c.key := fun d hd => by
    obtain ⟨j, hj, rfl⟩ := List.getElem_of_mem hd
    rw [List.length_take] at hj
    rw [List.getElem_take]
    exact posK_lo (κ := Ndoc.key) l c.key j _ (by omega) (by simp)
  have hhi : ∀ d ∈ l.drop (posK Ndoc.key l c.key), ¬ slt d.key c.key := fun d hd => by
    obtain ⟨j, hj, rfl⟩ := List.getElem_of_mem hd
    rw [List.length_drop] at hj
    rw [List.getElem_drop]
    exact posK_hi hs c.key (posK Ndoc.key l c.key + j) _ (by omega) (by simp)
  have hno : getK Ndoc.key l c.key = false → ∀ d ∈ l, d.key ≠ c.key := fun h d hd e => by
    have := List.any_eq_false.1 h d hd
    simp [hasK, e] at this
  have hsplit : l = l.take (posK Ndoc.key l c.key) ++ l.drop (posK Ndoc.key l c.key) := (List.take_append_drop _ _).symm
  cases hh : c.has
  · rw [Bool.not_false, rfoldL_put]
    cases g : getK Ndoc.key l c.key
    · rw [foldD_no hh g, filter_ne (hno g)]
    · obtain ⟨x, hx, hp⟩ := posK_there hs g
      obtain ⟨hlt, ex⟩ := List.getElem?_eq_some_iff.1 hx
      rw [foldD_del hh g, List.eraseIdx_eq_take_drop_succ]
      have hd : l.drop (posK Ndoc.key l c.key) = x :: l.drop (posK Ndoc.key l c.key + 1) := by rw [List.drop_eq_getElem_cons hlt, ex]
      conv => lhs; rw [hsplit, hd]
      rw [List.filter_append, List.filter_cons, if_neg (by simp [hp]), filter_ne fun d hd => slt_ne (hlo d hd), filter_ne fun d hd => ?_]
      obtain ⟨j, hj, rfl⟩ := List.getElem_of_mem hd
      rw [List.length_drop] at hj
      rw [List.getElem_drop]
      have := sortedK_lt hs (i := posK Ndoc.key l c.key) (j := posK Ndoc.key l c.key + 1 + j) (by omega) hx (List.getElem?_eq_getElem (by omega))
      rw [hp] at this
      exact fun e => slt_ne this e.symm
  · rw [Bool.not_true]
    cases g : getK Ndoc.key l c.key
    · rw [foldD_ins hh g, insK]
      conv => lhs; rw [hsplit]
      rw [rfoldL_lo _ _ hlo]
      congr 1
      have hn2 : ∀ d ∈ l.drop (posK Ndoc.key l c.key), d.key ≠ c.key := fun d hd => hno g d (List.mem_of_mem_drop hd)
      revert hhi hn2
      generalize l.drop (posK Ndoc.key l c.key) = m
      intro hhi hn2
      cases m with
      | nil => simp [rfoldL]
      | cons d m =>
        have hd := hhi d (by simp)
        rw [rfoldL, if_pos ⟨rfl, hd⟩, if_pos (hn2 d (by simp))]
        simp only [hd, not_false_eq_true, decide_true, Bool.or_true]
        rw [rfoldL_put, filter_ne fun x hx => hn2 x (List.mem_cons_of_mem _ hx)]; rfl
    · obtain ⟨x, hx, hp⟩ := posK_there hs g
      obtain ⟨hlt, ex⟩ := List.getElem?_eq_some_iff.1 hx
      have hd : l.drop (posK Ndoc.key l c.key) = x :: l.drop (posK Ndoc.key l c.key + 1) := by rw [List.drop_eq_getElem_cons hlt, ex]
      rw [foldD_set hh g, List.set_eq_take_append_cons_drop, if_pos hlt]
      conv => lhs; rw [hsplit, hd]
      rw [rfoldL_lo _ _ hlo]
      congr 1
      have hxn : ¬ slt x.key c.key := by rw [hp]; exact slt_irrefl _
      rw [rfoldL, if_pos ⟨rfl, hxn⟩, if_neg (by simp [hp])]
      simp only [hxn, not_false_eq_true, decide_true, Bool.or_true]
      rw [rfoldL_put, filter_ne fun d hd => ?_]
      · rfl
      · obtain ⟨j, hj, rfl⟩ := List.getElem_of_mem hd
        rw [List.length_drop] at hj
        rw [List.getElem_drop]
        have := sortedK_lt hs (i := posK Ndoc.key l c.key) (j := posK Ndoc.key l c.key + 1 + j) (by omega) hx (List.getElem?_eq_getElem (by omega))
        rw [hp] at this
        exact fun e => slt_ne this e.symm
end Go.Sym
namespace Go.Sym
open Go Go.Proofs.Tryd
set_option maxRecDepth 100000
theorem r11docs_fn (O : Opq) (l : List Ndoc) (hl : l.length ≤ 1099511627776) (hd : ∀ n ∈ l, n.doc.length ≤ 1099511627776 ∧ ∀ f ∈ n.doc, f.path.size ≤ 9223372036854775807) : Fn prog 13 [.sl false 0 false 2 (O.o (Nms.enc O) l)] [] [.bool (O.o docsOk l)] [] := by
  have hlen := Nms.len O l
  have hbad : docsOk l = false → O.o docsOk l = false := fun h => by rw [O.h]; exact h
  have hgood : docsOk l = true → O.o docsOk l = true := fun h => by rw [O.h]; exact h
  obtain ⟨Q, eQ⟩ : ∃ Q, Q = O.o docsOk l := ⟨_, rfl⟩
  rw [← eQ] at hbad hgood ⊢
  obtain ⟨N, hN⟩ : ∃ N : Nat, N = l.length := ⟨_, rfl⟩
  obtain ⟨z, hz⟩ : ∃ z : Nat, z = 0 := ⟨_, rfl⟩
  clear eQ
  refine go (fn := Go.Proofs.Tryd.f13) (n := 52) (rv := [ResultVar.tmp 2]) rfl (by decide) rfl (by decide +kernel) rfl rfl (by simp) fun F L C => ?_
  cbv
  (repeat' first | (refine Named.i64 ?_ fun _ _ => ?_; (focus lia); cbv) | (refine Named.len fun _ _ hq => ?_; (try simp only [List.length_append, List.length_take, List.length_drop, List.length_replicate, List.length_set] at hq); cbv) | (refine Named.mk fun _ _ => ?_; cbv) | (refine Br.t ?_ ?_; (focus first | assumption | lia); cbv) | (refine Br.f ?_ ?_; (focus first | assumption | lia); cbv) | (refine Br.mk (fun _ => ?_) (fun _ => ?_) <;> cbv) | (refine Need.mk ?_ ?_; rotate_left; cbv) | (refine RetThen.mk [] [] ?_; cbv))
  refine LoopThen.mk (C.loopAt (ι := Nat) [(2, 52)] (fun i => [(2, .bool false), (3, .int .i64 i)]) (fun _ => [])
    (fun i => i ≤ N ∧ ∀ j, j < i → okN l j) (fun i => N - i) (by decide +kernel) (Start.mk z [] [] ⟨by lia, fun j hj => by omega⟩ (by cbv; (repeat' apply And.intro) <;> first | exact True.intro | exact WkR.refl _ | rfl | lia)) ?_)
  intro i g
  cbv
  have g1 : i ≤ N := g.1
  have g2 := g.2
  clear g
  by_cases hi : i < l.length
  · obtain ⟨x, hx⟩ : ∃ x, l[i]? = some x := ⟨l[i], by simp [hi]⟩
    have hxd := hd x (List.mem_of_getElem? hx)
    have hno : ¬ (isKey x.key = true ∧ may x.doc = true ∧ (0 < i → ∃ g, l[i - 1]? = some g ∧ slt g.key x.key)) → Q = false := fun h => hbad (docsOk_bad hx h)
    have hst : (isKey x.key = true ∧ may x.doc = true ∧ (0 < i → ∃ g, l[i - 1]? = some g ∧ slt g.key x.key)) → ∀ j, j < i + 1 → okN l j := fun h => okN_step g2 ((okN_iff hx).2 h)
    have hc := may_fn O x.doc hxd.1 hxd.2
    have hk2 : isKey x.key = true ↔ 1 ≤ x.key.size ∧ x.key.size ≤ 64 := by simp [isKey]
    have hc2 : O.o may x.doc = may x.doc := by rw [O.h]
    obtain ⟨e, ee⟩ : ∃ b, b = O.o may x.doc := ⟨_, rfl⟩
    rw [← ee] at hc hc2
    rw [hk2, ← hc2] at hno hst
    clear hbad hgood g2 ee hk2 hc2 hd hxd
    by_cases h0 : 0 < i
    · obtain ⟨y, hy⟩ : ∃ y, l[i - 1]? = some y := ⟨l[i - 1], by simp⟩
      have hyy : (0 < i → ∃ g, l[i - 1]? = some g ∧ slt g.key x.key) ↔ slt y.key x.key := ⟨fun h => by obtain ⟨g, h1, h2⟩ := h h0; rw [hy] at h1; cases h1; exact h2, fun h _ => ⟨y, hy, h⟩⟩
      rw [hyy] at hno hst
      clear hyy
      obtain ⟨xk, xd⟩ := x
      obtain ⟨yk, yd⟩ := y
      simp only at hno hst hc
      obtain ⟨i1, hi1⟩ : ∃ j, j = i - 1 := ⟨_, rfl⟩
      rw [← hi1] at hy
      (repeat' first | (refine Named.i64 ?_ fun _ _ => ?_; (focus lia); cbv) | (refine Ex.known O (Ndoc.enc O) rfl hx ?_ ?_; (focus lia); cbv) | (refine Ex.known O (Ndoc.enc O) rfl hy ?_ ?_; (focus lia); cbv) | (refine CallThen.bool (C.fn (hc)) (fun _ => ?_) (fun _ => ?_) <;> cbv) | (refine Back.up [] [] ?_ ?_ fun _ _ => ?_; rotate_left 2; cbv; refine And.intro ?_ ?_) | (refine Named.len fun _ _ hq => ?_; (try simp only [List.length_append, List.length_take, List.length_drop, List.length_replicate, List.length_set] at hq); cbv) | (refine Named.mk fun _ _ => ?_; cbv) | (refine Br.t ?_ ?_; (focus first | assumption | lia); cbv) | (refine Br.f ?_ ?_; (focus first | assumption | lia); cbv) | (refine Br.mk (fun _ => ?_) (fun _ => ?_) <;> cbv) | (refine Need.mk ?_ ?_; rotate_left; cbv) | (refine RetThen.mk [] [] ?_; cbv))
      all_goals (repeat' apply And.intro)
      all_goals try first
        | exact True.intro
        | exact WkR.refl _
        | (clear hx hy hno hst hc; lia)
      all_goals first
        | (refine hno fun h => ?_; clear hno hst hx hy hc; grind [slt_asymm, slt_irrefl, slt_not])
        | (refine hst ⟨⟨by clear hno hst hx hy hc; lia, by clear hno hst hx hy hc; lia⟩, by assumption, ?_⟩; clear hno hst hx hy hc; grind [slt_asymm, slt_irrefl, slt_not])
        | trace_state
    · have hyy : (0 < i → ∃ g, l[i - 1]? = some g ∧ slt g.key x.key) ↔ True := ⟨fun _ => trivial, fun _ h => absurd h h0⟩
      rw [hyy] at hno hst
      clear hyy
      obtain ⟨xk, xd⟩ := x
      simp only at hno hst hc
      (repeat' first | (refine Named.i64 ?_ fun _ _ => ?_; (focus lia); cbv) | (refine Ex.known O (Ndoc.enc O) rfl hx ?_ ?_; (focus lia); cbv) | (refine CallThen.bool (C.fn (hc)) (fun _ => ?_) (fun _ => ?_) <;> cbv) | (refine Back.up [] [] ?_ ?_ fun _ _ => ?_; rotate_left 2; cbv; refine And.intro ?_ ?_) | (refine Named.len fun _ _ hq => ?_; (try simp only [List.length_append, List.length_take, List.length_drop, List.length_replicate, List.length_set] at hq); cbv) | (refine Named.mk fun _ _ => ?_; cbv) | (refine Br.t ?_ ?_; (focus first | assumption | lia); cbv) | (refine Br.f ?_ ?_; (focus first | assumption | lia); cbv) | (refine Br.mk (fun _ => ?_) (fun _ => ?_) <;> cbv) | (refine Need.mk ?_ ?_; rotate_left; cbv) | (refine RetThen.mk [] [] ?_; cbv))
      all_goals (repeat' apply And.intro)
      all_goals try first
        | exact True.intro
        | exact WkR.refl _
        | (clear hx hno hst hc; lia)
      all_goals first
        | (refine hno fun h => ?_; clear hno hst hx hc; grind)
        | (refine hst ⟨⟨by clear hno hst hx hc; lia, by clear hno hst hx hc; lia⟩, by assumption, trivial⟩)
        | trace_state
  · have hg := hgood (docsOk_good fun j hj => g2 j (by omega))
    clear hbad hgood g2 hd
    (repeat' first | (refine Named.i64 ?_ fun _ _ => ?_; (focus lia); cbv) | (refine Named.len fun _ _ hq => ?_; (try simp only [List.length_append, List.length_take, List.length_drop, List.length_replicate, List.length_set] at hq); cbv) | (refine Named.mk fun _ _ => ?_; cbv) | (refine Br.t ?_ ?_; (focus first | assumption | lia); cbv) | (refine Br.f ?_ ?_; (focus first | assumption | lia); cbv) | (refine Br.mk (fun _ => ?_) (fun _ => ?_) <;> cbv) | (refine Need.mk ?_ ?_; rotate_left; cbv) | (refine RetThen.mk [] [] ?_; cbv))
    all_goals first
      | exact ⟨hg, trivial⟩
      | exact ⟨hg.symm, trivial⟩
      | (exfalso; lia)
      | trace_state
theorem r12may_fn (O : Opq) (l : List Ndoc) (hl : l.length ≤ 1099511627776) (hd : ∀ n ∈ l, n.doc.length ≤ 1099511627776 ∧ ∀ f ∈ n.doc, f.path.size ≤ 9223372036854775807) : Fn prog 6 [.sl false 0 false 2 (O.o (Nms.enc O) l)] [] [.bool (O.o mayD l)] [] := by
  have hlen := Nms.len O l
  have h := r11docs_fn O l hl hd
  have hE : O.o mayD l = true ↔ l.length ≤ 24 ∧ O.o docsOk l = true := by
    simp only [O.h, mayD, Bool.and_eq_true, decide_eq_true_eq]
  obtain ⟨e, ee⟩ : ∃ e, e = O.o docsOk l := ⟨_, rfl⟩
  obtain ⟨Q, eQ⟩ : ∃ e, e = O.o mayD l := ⟨_, rfl⟩
  rw [← ee] at h hE
  rw [← eQ] at hE ⊢
  clear ee eQ hd
  refine go (fn := Go.Proofs.Tryd.f6) (n := 9) (rv := [ResultVar.tmp 2]) rfl (by decide) rfl (by decide +kernel) rfl rfl (by simp) fun F L C => ?_
  cbv
  (repeat' first | (refine Named.i64 ?_ fun _ _ => ?_; (focus lia); cbv) | (refine CallThen.bool (C.fn (h)) (fun _ => ?_) (fun _ => ?_) <;> cbv) | (refine Named.len fun _ _ hq => ?_; (try simp only [List.length_append, List.length_take, List.length_drop, List.length_replicate, List.length_set] at hq); cbv) | (refine Named.mk fun _ _ => ?_; cbv) | (refine Br.t ?_ ?_; (focus first | assumption | lia); cbv) | (refine Br.f ?_ ?_; (focus first | assumption | lia); cbv) | (refine Br.mk (fun _ => ?_) (fun _ => ?_) <;> cbv) | (refine Need.mk ?_ ?_; rotate_left; cbv) | (refine RetThen.mk [] [] ?_; cbv))
  all_goals first
    | (refine ⟨?_, trivial⟩; exact hE.2 ⟨by clear hE h; lia, by assumption⟩)
    | (refine ⟨?_, trivial⟩
       cases hb : Q with
       | false => rfl
       | true =>
         exfalso
         obtain ⟨k1, k2⟩ := hE.1 hb
         first
           | (rw [k2] at *; contradiction)
           | (clear hE h; lia)
           | (simp_all; done))
    | trace_state
end Go.Sym
namespace Go.Sym
open Go Go.Proofs.Tryd
set_option maxRecDepth 100000
theorem rsameLW_fn (O : Opq) (d e : Doc) (hd : d.length ≤ 9223372036854775807) : Fn prog 23 [.sl true 0 false 6 (O.o Doc.enc d), .sl true 0 false 6 (O.o Doc.enc e)] [] [.bool (O.o sameDoc d e)] [] := by
  have hlen : (O.o Doc.enc d).length = d.length := by rw [O.h, Doc.enc_len]
  have hlen2 : (O.o Doc.enc e).length = e.length := by rw [O.h, Doc.enc_len]
  obtain ⟨N, hN⟩ : ∃ N : Nat, N = d.length := ⟨_, rfl⟩
  refine go (fn := Go.Proofs.Tryd.f23) (n := 24) (rv := [ResultVar.tmp 4]) rfl (by decide) rfl (by decide +kernel) rfl rfl (by simp) fun F L C => ?_
  cbv
  (repeat' first | (refine Named.i64 ?_ fun _ _ => ?_; (focus lia); cbv) | (refine Named.len fun _ _ hq => ?_; (try simp only [List.length_append, List.length_take, List.length_drop, List.length_replicate, List.length_set] at hq); cbv) | (refine Named.mk fun _ _ => ?_; cbv) | (refine Br.t ?_ ?_; (focus first | assumption | lia); cbv) | (refine Br.f ?_ ?_; (focus first | assumption | lia); cbv) | (refine Br.mk (fun _ => ?_) (fun _ => ?_) <;> cbv) | (refine Need.mk ?_ ?_; rotate_left; cbv) | (refine RetThen.mk [] [] ?_; cbv))
  rotate_left
  · exact ⟨by simp only [O.h]; exact sameDoc_len (by lia), trivial⟩
  have hl : d.length = e.length := by lia
  refine LoopThen.mk (C.loopAt (ι := Nat) [(4, 5), (11, 25)] (fun k => [(4, .bool false), (5, .int .i64 k)]) (fun _ => [])
    (fun k => k ≤ d.length ∧ ∀ (j : Nat), j < k → d[j]? = e[j]?) (fun k => N - k) (by decide +kernel) (Start.mk 0 [] [] (by simp) (by cbv; (repeat' apply And.intro) <;> first | exact True.intro | exact WkR.refl _ | rfl | lia)) ?_)
  rintro k ⟨h1, h2⟩
  cbv
  (repeat' first | (refine Named.i64 ?_ fun _ _ => ?_; (focus lia); cbv) | (refine Ex.map O Field.enc rfl ?_ fun _ _ => ?_; rotate_left; cbv) | (refine Back.up [] [] ?_ ?_ fun _ _ => ?_; rotate_left 2; cbv) | (refine Named.len fun _ _ hq => ?_; (try simp only [List.length_append, List.length_take, List.length_drop, List.length_replicate, List.length_set] at hq); cbv) | (refine Named.mk fun _ _ => ?_; cbv) | (refine Br.t ?_ ?_; (focus first | assumption | lia); cbv) | (refine Br.f ?_ ?_; (focus first | assumption | lia); cbv) | (refine Br.mk (fun _ => ?_) (fun _ => ?_) <;> cbv) | (refine Need.mk ?_ ?_; rotate_left; cbv) | (refine RetThen.mk [] [] ?_; cbv))
  all_goals (try subst_vars)
  all_goals (try simp only [O.h, natTo, natPred, emp, fieldCells] at *)
  all_goals (try subst_vars)
  all_goals (repeat' apply And.intro)
  all_goals first
    | exact True.intro
    | exact WkR.refl _
    | lia
    | exact below_step h2 (by grind)
    | exact sameDoc_at (k := k) (by grind)
    | exact sameDoc_all hl fun j hj => h2 j (by lia)
theorem rsameW_fn (O : Opq) (d e : Doc) (hd : d.length ≤ 9223372036854775807) : Fn prog 23 [.sl false 0 false 6 (O.o Doc.enc d), .sl false 0 false 6 (O.o Doc.enc e)] [] [.bool (O.o sameDoc d e)] [] :=
  (rsameLW_fn O d e hd).wkA (.cons (.lend rfl) (.cons (.lend rfl) .nil))
end Go.Sym
