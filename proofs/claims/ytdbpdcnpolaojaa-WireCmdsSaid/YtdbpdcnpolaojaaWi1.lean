/- Commands' cells. -/
import Derived.Test.YtdbpdcnpolaojaaCd5
import Derived.Test.YtdbpdcnpolaojaaCd6
import Derived.Test.YtdbpdcnpolaojaaCd7
import Derived.Test.YtdbpdcnpolaojaaWiA
set_option linter.all false
set_option linter.unusedVariables false
set_option linter.unusedSimpArgs false
namespace Go.Sym
open Go Go.Proofs.Try
set_option maxRecDepth 100000
def rowI {α : Type} (e : List α → List (List PV)) (q : Cel → α) (l : List Cel) (i : Nat) : List (List PV) := e ((l.take i).map q)
theorem rowI_all (O : Opq) {α : Type} {e : List α → List (List PV)} {q : Cel → α} {l : List Cel} {i : Nat} (h : l.length ≤ i) : O.o (rowI e q l) i = O.o e (O.o (List.map q) l) := by
  simp only [O.h]; rw [rowI, List.take_of_length_le h]
theorem rowI_len {α : Type} {e : List α → List (List PV)} (he : ∀ l, (e l).length = l.length) {q : Cel → α} {l : List Cel} {i : Nat} (h : i ≤ l.length) : (rowI e q l i).length = i := by
  rw [rowI, he]; simp; omega
theorem rowI_more (O : Opq) {α : Type} {e : List α → List (List PV)} (he : ∀ l m, e (l ++ m) = e l ++ e m) {q : Cel → α} {l : List Cel} {i : Nat} {x : Cel} (h : l[i]? = some x) : O.o (rowI e q l) (i + 1) = O.o (rowI e q l) i ++ e [q x] := by
  simp only [O.h]; rw [rowI, List.take_add_one, h, List.map_append, he]; rfl
set_option maxHeartbeats 1000000 in
theorem eachInt_fn (O : Opq) (q : Int → Cel) (g : Nat) (l : List Int) (hl : l.length ≤ 1099511) (hg : ∀ x ∈ l, Fn prog g (.int .i64 x :: []) [] [.agg ((O.o q x).en O)] []) :
    Fn prog 20 [.sl false 0 false 1 (O.o Ints.enc l), .fn g [] []] [] [.agg ((O.o (listQ q) l).en O)] [] := by
  have hlen : (O.o Ints.enc l).length = l.length := by rw [O.h, Ints.enc, List.length_map]
  have hp : (O.o (listQ q) l).kind = 3 ∧ (O.o (listQ q) l).num = 0 ∧ (O.o (listQ q) l).text = ByteArray.empty := by rw [O.h]; exact ⟨rfl, rfl, rfl⟩
  have hall : ∀ i, l.length ≤ i → O.o (mapI q l) i = O.o Cels.enc (O.o (listQ q) l).list := fun i h => by rw [mapI_all O h]; simp only [O.h]; rfl
  have hll : ∀ i, i ≤ l.length → (O.o (mapI q l) i).length ≤ 1099511 := fun i h => by rw [O.h, mapI_len h]; omega
  obtain ⟨N, hN⟩ : ∃ N : Nat, N = l.length := ⟨_, rfl⟩
  obtain ⟨z, hz⟩ : ∃ z : Nat, z = 0 := ⟨_, rfl⟩
  have hz0 := mapI_zero O (q := q) (l := l) hz
  refine go (fn := Go.Proofs.Try.f20) (n := 21) (rv := [ResultVar.cell 4 39]) rfl (by decide) rfl (by decide +kernel) rfl rfl (by simp) fun F L C => ?_
  cbv
  (repeat' first | (refine Named.i64 ?_ fun _ _ => ?_; (focus lia); cbv) | (refine Named.len fun _ _ hq => ?_; (try simp only [List.length_append, List.length_take, List.length_drop, List.length_replicate, List.length_set] at hq); cbv) | (refine Named.mk fun _ _ => ?_; cbv) | (refine Br.t ?_ ?_; (focus first | assumption | lia); cbv) | (refine Br.f ?_ ?_; (focus first | assumption | lia); cbv) | (refine Br.mk (fun _ => ?_) (fun _ => ?_) <;> cbv) | (refine Need.mk ?_ ?_; rotate_left; cbv) | (refine RetThen.mk [] [] ?_; cbv))
  refine LoopThen.mk (C.loopAt (ι := Nat) [(5, 5), (7, 7), (10, 20)] (fun i => [(5, .ref 50), (10, .int .i64 i)]) (fun i => [(50, .arr 0 none 4 (O.o (mapI q l) i)), (384, .box [.int .i64 0, .int .i64 0, .str ByteArray.empty, .nils])])
    (fun i => i ≤ N) (fun i => N - i) (by decide +kernel) (Start.mk z [(50, .nil 4)] [] (by lia) ?_) ?_)
  · cbv
    (repeat' apply And.intro) <;> first | exact True.intro | exact WkR.refl _ | rfl | exact hz0 | lia
  intro i g1
  cbv
  by_cases hi : i < l.length
  · obtain ⟨x, hx⟩ : ∃ x, l[i]? = some x := ⟨l[i], by simp [hi]⟩
    have hc := hg x (List.mem_of_getElem? hx)
    have hmo := mapI_more O (q := q) hx
    have hll := hll i (by omega)
    obtain ⟨y, ey⟩ : ∃ y, y = O.o q x := ⟨_, rfl⟩
    rw [← ey] at hc hmo
    clear hg hall ey
    (repeat' first | (refine Named.i64 ?_ fun _ _ => ?_; (focus lia); cbv) | (refine Ex.known O (fun x : Int => [PV.int .i64 x]) rfl hx ?_ ?_; (focus lia); cbv) | (refine CallThen.mk _ _ (C.fn (hc)) ?_; cbv) | (refine Back.up [(50, .loc 1344)] [] ?_ ?_ fun _ _ => ?_; rotate_left 2; cbv; refine And.intro ?_ ?_) | (refine Named.len fun _ _ hq => ?_; (try simp only [List.length_append, List.length_take, List.length_drop, List.length_replicate, List.length_set] at hq); cbv) | (refine Named.mk fun _ _ => ?_; cbv) | (refine Br.t ?_ ?_; (focus first | assumption | lia); cbv) | (refine Br.f ?_ ?_; (focus first | assumption | lia); cbv) | (refine Br.mk (fun _ => ?_) (fun _ => ?_) <;> cbv) | (refine Need.mk ?_ ?_; rotate_left; cbv) | (refine RetThen.mk [] [] ?_; cbv))
    all_goals (repeat' apply And.intro)
    all_goals first
      | exact True.intro
      | exact WkR.refl _
      | (refine WkR.of_eq ?_; subst_vars; exact hmo)
      | (simp only [List.length_cons, List.length_nil]; clear hx hc hmo; lia)
      | (clear hx hc hmo; lia)
      | trace_state
  · have hall := hall i (by omega)
    have hll := hll i (by omega)
    clear hg
    (repeat' first | (refine Named.i64 ?_ fun _ _ => ?_; (focus lia); cbv) | (refine CallThen.mk _ _ (C.fn (clist0_fn _ (by clear hall; lia))) ?_; cbv) | (refine Named.len fun _ _ hq => ?_; (try simp only [List.length_append, List.length_take, List.length_drop, List.length_replicate, List.length_set] at hq); cbv) | (refine Named.mk fun _ _ => ?_; cbv) | (refine Br.t ?_ ?_; (focus first | assumption | lia); cbv) | (refine Br.f ?_ ?_; (focus first | assumption | lia); cbv) | (refine Br.mk (fun _ => ?_) (fun _ => ?_) <;> cbv) | (refine Need.mk ?_ ?_; rotate_left; cbv) | (refine RetThen.mk [] [] ?_; cbv))
    all_goals first
      | exact ⟨hp.1.symm, hp.2.1.symm, hp.2.2.symm, .of_eq hall.symm, trivial⟩
      | exact ⟨hp.1, hp.2.1, hp.2.2, .of_eq hall.symm, trivial⟩
      | (exfalso; clear hall; lia)
      | trace_state
set_option maxHeartbeats 1000000 in
theorem listInt_fn (O : Opq) (q : Cel → Int) (bad : Bool → Cel → Bool) (g : Nat) (b : Bool) (c : Cel) (hl : c.list.length ≤ 1099511) (hg : ∀ x ∈ c.list, ∀ b, Fn prog g [.ptr 0 0, .agg (x.en O)] [.box [.bool b]] [.int .i64 (q x)] [.box [.bool (O.o (bad b) x)]]) :
    Fn prog 31 [.ptr 0 0, .agg (c.en O), .fn g [.ptr 0 0] []] [.box [.bool b]] [.sl false 0 false 1 (O.o Ints.enc (O.o (List.map q) c.list))] [.box [.bool (O.o (listBad bad b) c)]] := by
  have hlen := Cels.en_len O c.list
  have hal : ∀ i, c.list.length ≤ i → O.o (flagI bad (O.o (kind3 b) c) c.list) i = O.o (listBad bad b) c := fun i h => flagI_all O h
  have hk3 : c.kind ≠ 3 → O.o (kind3 b) c = true := fun h => by rw [O.h, kind3]; simp [h]
  have hk3' : c.kind = 3 → O.o (kind3 b) c = b := fun h => by rw [O.h, kind3]; simp [h]
  have hkt : b = true → O.o (kind3 b) c = true := fun h => by rw [O.h, kind3, h]; rfl
  have hmo := fun {i : Nat} {x : Cel} (h : c.list[i]? = some x) => flagI_more O (f := bad) (b := O.o (kind3 b) c) h
  obtain ⟨QB, eQB⟩ : ∃ Q, Q = O.o (listBad bad b) c := ⟨_, rfl⟩
  rw [← eQB] at hal ⊢
  obtain ⟨kf, ekf⟩ : ∃ k, k = O.o (kind3 b) c := ⟨_, rfl⟩
  rw [← ekf] at hk3 hk3' hkt hal hmo
  obtain ⟨Q, eQ⟩ : ∃ Q, Q = O.o Ints.enc (O.o (List.map q) c.list) := ⟨_, rfl⟩
  rw [← eQ]
  have hrow : ∀ i, c.list.length ≤ i → O.o (rowI Ints.enc q c.list) i = Q := fun i h => by rw [eQ]; exact rowI_all O h
  have hrl : ∀ i, i ≤ c.list.length → (O.o (rowI Ints.enc q c.list) i).length ≤ 1099511 := fun i h => by rw [O.h, rowI_len (by intro x; rw [Ints.enc, List.length_map]) h]; omega
  have hrm := fun {i : Nat} {x : Cel} (h : c.list[i]? = some x) => rowI_more O (e := Ints.enc) (q := q) (by intro x y; rw [Ints.enc]; simp) h
  obtain ⟨k, n, t, l⟩ := c
  replace hlen : (O.o Cels.enc l).length = l.length := hlen
  replace hg : ∀ x ∈ l, ∀ b, Fn prog g [.ptr 0 0, .agg (x.en O)] [.box [.bool b]] [.int .i64 (q x)] [.box [.bool (O.o (bad b) x)]] := hg
  replace hl : l.length ≤ 1099511 := hl
  replace hal : ∀ i, l.length ≤ i → O.o (flagI bad kf l) i = QB := hal
  replace hk3 : k ≠ 3 → kf = true := hk3
  replace hk3' : k = 3 → kf = b := hk3'
  replace hmo : ∀ {i : Nat} {x : Cel}, l[i]? = some x → O.o (flagI bad kf l) (i + 1) = O.o (bad (O.o (flagI bad kf l) i)) x := hmo
  replace hrow : ∀ i, l.length ≤ i → O.o (rowI Ints.enc q l) i = Q := hrow
  replace hrl : ∀ i, i ≤ l.length → (O.o (rowI Ints.enc q l) i).length ≤ 1099511 := hrl
  replace hrm : ∀ {i : Nat} {x : Cel}, l[i]? = some x → O.o (rowI Ints.enc q l) (i + 1) = O.o (rowI Ints.enc q l) i ++ Ints.enc [q x] := hrm
  obtain ⟨N, hN⟩ : ∃ N : Nat, N = l.length := ⟨_, rfl⟩
  obtain ⟨z, hz⟩ : ∃ z : Nat, z = 0 := ⟨_, rfl⟩
  have hz0 : O.o (rowI Ints.enc q l) z = [] := by rw [O.h, hz]; rfl
  have hz1 : O.o (flagI bad kf l) z = kf := by rw [O.h, hz]; rfl
  clear eQ ekf eQB
  have hkb : k = 3 ∧ kf = b ∨ k ≠ 3 ∧ kf = true := by
    by_cases h : k = 3
    · exact .inl ⟨h, hk3' h⟩
    · exact .inr ⟨h, hk3 h⟩
  clear hk3 hk3'
  cases b
  all_goals
    refine go (fn := Go.Proofs.Try.f31) (n := 34) (rv := [ResultVar.tmp 6]) rfl (by decide) rfl (by decide +kernel) rfl rfl (by simp) fun F L C => ?_
    cbv
    (repeat' first | (refine Named.i64 ?_ fun _ _ => ?_; (focus lia); cbv) | (refine Named.len fun _ _ hq => ?_; (try simp only [List.length_append, List.length_take, List.length_drop, List.length_replicate, List.length_set] at hq); cbv) | (refine Named.mk fun _ _ => ?_; cbv) | (refine Br.t ?_ ?_; (focus first | assumption | lia); cbv) | (refine Br.f ?_ ?_; (focus first | assumption | lia); cbv) | (refine Br.mk (fun _ => ?_) (fun _ => ?_) <;> cbv) | (refine Need.mk ?_ ?_; rotate_left; cbv) | (refine RetThen.mk [] [] ?_; cbv))
    all_goals
      refine LoopThen.mk (C.loopAt (ι := Nat) [(7, 7), (9, 9), (25, 35)] (fun i => [(7, .ref 50), (25, .int .i64 i)]) (fun i => [(50, .arr 0 none 1 (O.o (rowI Ints.enc q l) i)), (0, .box [.bool (O.o (flagI bad kf l) i)]), (384, .box [.int .i64 k, .int .i64 n, .str t, .sl false 0 false 4 (O.o Cels.enc l)])])
        (fun i => i ≤ N) (fun i => N - i) (by decide +kernel) (Start.mk z [(50, .nil 1)] [] (by lia) ?_) ?_)
      · cbv
        (repeat' apply And.intro) <;> first | exact True.intro | exact WkR.refl _ | rfl | exact hz0 | lia | (rw [← hkt rfl]; exact hz1) | (refine hz1.trans ?_; first | exact hkt rfl | (rcases hkb with h | h; first | exact h.2 | exact absurd h.1 (by assumption); first | exact h.2 | exact absurd (by assumption) h.1))
      intro i g1
      cbv
      by_cases hi : i < l.length
      · obtain ⟨x, hx⟩ : ∃ x, l[i]? = some x := ⟨l[i], by simp [hi]⟩
        have hc := hg x (List.mem_of_getElem? hx) (O.o (flagI bad kf l) i)
        have hmo := hmo hx
        rw [← hmo] at hc
        have hrm := hrm hx
        have hll := hrl i (by omega)
        clear hg hal hrow hrl hmo
        (repeat' first | (refine Named.i64 ?_ fun _ _ => ?_; (focus lia); cbv) | (refine Ex.cel O hx ?_ ?_; (focus lia); cbv) | (refine CallThen.mk _ _ (C.fn (hc)) ?_; cbv) | (refine Back.up [(50, .loc 2304)] [] ?_ ?_ fun _ _ => ?_; rotate_left 2; cbv; refine And.intro ?_ ?_) | (refine Named.len fun _ _ hq => ?_; (try simp only [List.length_append, List.length_take, List.length_drop, List.length_replicate, List.length_set] at hq); cbv) | (refine Named.mk fun _ _ => ?_; cbv) | (refine Br.t ?_ ?_; (focus first | assumption | lia); cbv) | (refine Br.f ?_ ?_; (focus first | assumption | lia); cbv) | (refine Br.mk (fun _ => ?_) (fun _ => ?_) <;> cbv) | (refine Need.mk ?_ ?_; rotate_left; cbv) | (refine RetThen.mk [] [] ?_; cbv))
        all_goals (repeat' apply And.intro)
        all_goals first
          | exact True.intro
          | exact WkR.refl _
          | rfl
          | (refine WkR.of_eq ?_; subst_vars; exact hrm)
          | (simp only [List.length_cons, List.length_nil]; clear hx hc hrm; lia)
          | (clear hx hc hrm; lia)
          | (subst_vars; rfl)
          | trace_state
      · have hal := hal i (by omega)
        have hrow := hrow i (by omega)
        clear hg hrl
        (repeat' first | (refine Named.i64 ?_ fun _ _ => ?_; (focus lia); cbv) | (refine RetThen.mk [] [50] ?_; cbv) | (refine Named.len fun _ _ hq => ?_; (try simp only [List.length_append, List.length_take, List.length_drop, List.length_replicate, List.length_set] at hq); cbv) | (refine Named.mk fun _ _ => ?_; cbv) | (refine Br.t ?_ ?_; (focus first | assumption | lia); cbv) | (refine Br.f ?_ ?_; (focus first | assumption | lia); cbv) | (refine Br.mk (fun _ => ?_) (fun _ => ?_) <;> cbv) | (refine Need.mk ?_ ?_; rotate_left; cbv) | (refine RetThen.mk [] [] ?_; cbv))
        all_goals first
          | (exfalso; clear hal hrow; lia)
          | (refine ⟨hal.symm, .of_eq ?_, trivial⟩; rw [← hrow]; symm; assumption)
          | (refine ⟨hal.symm, Named.mk fun rs e => ⟨.of_eq ?_, by cbv⟩⟩; rw [e, ← hrow]; done)
          | trace_state
end Go.Sym
