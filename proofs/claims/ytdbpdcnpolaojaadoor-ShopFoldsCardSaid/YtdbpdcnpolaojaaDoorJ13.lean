/- Lists of documents: cloned, searched, with one more, without one. -/
import Derived.Test.YtdbpdcnpolaojaaDoorJ12
import Derived.Test.YtdbpdcnpolaojaaDoorJ8
import Derived.Test.YtdbpdcnpolaojaaDoorJ7
import Derived.Test.YtdbpdcnpolaojaaDoorJ5
import Derived.Test.YtdbpdcnpolaojaaDoorJ9
set_option linter.all false
set_option linter.unusedVariables false
set_option linter.unusedSimpArgs false
namespace Go.Sym
open Go Go.Proofs.Tryd
set_option maxRecDepth 100000
theorem Nms.enc_len (O : Opq) (l : List Ndoc) : (Nms.enc O l).length = l.length := by rw [Nms.enc, List.length_map]
theorem cloneN_fn (O : Opq) (d : List Ndoc) (hd : d.length ≤ 1099511627) : Fn prog 29 [.sl true 0 false 2 (O.o (Nms.enc O) d)] [] [.ref 0] [.arr 0 none 2 (O.o (Nms.enc O) d)] := by
  have hlen := Nms.len O d
  refine .inl (Fn.nilOr (pre := []) (post := []) (fun h0 => ?_) ?_)
  · refine goB (fn := Go.Proofs.Tryd.f29) (n := 7) (rv := [ResultVar.tmp 2]) rfl (by decide) rfl (by decide +kernel) rfl rfl (by simp) fun F L C => ?_
    cbv
    (repeat' first | (refine Named.i64 ?_ fun _ _ => ?_; (focus lia); cbv) | (refine RetThen.mk [(0, .nil 2)] [] ?_; cbv) | (refine Named.len fun _ _ hq => ?_; (try simp only [List.length_append, List.length_take, List.length_drop, List.length_replicate, List.length_set] at hq); cbv) | (refine Named.mk fun _ _ => ?_; cbv) | (refine Br.t ?_ ?_; (focus first | assumption | lia); cbv) | (refine Br.f ?_ ?_; (focus first | assumption | lia); cbv) | (refine Br.mk (fun _ => ?_) (fun _ => ?_) <;> cbv) | (refine Need.mk ?_ ?_; rotate_left; cbv) | (refine RetThen.mk [] [] ?_; cbv))
    all_goals exact ⟨h0, trivial⟩
  · refine goB (fn := Go.Proofs.Tryd.f29) (n := 7) (rv := [ResultVar.tmp 2]) rfl (by decide) rfl (by decide +kernel) rfl rfl (by simp) fun F L C => ?_
    cbv
    (repeat' first | (refine Named.i64 ?_ fun _ _ => ?_; (focus lia); cbv) | (refine RetThen.mk [(0, .loc 576)] [] ?_; cbv) | (refine Named.len fun _ _ hq => ?_; (try simp only [List.length_append, List.length_take, List.length_drop, List.length_replicate, List.length_set] at hq); cbv) | (refine Named.mk fun _ _ => ?_; cbv) | (refine Br.t ?_ ?_; (focus first | assumption | lia); cbv) | (refine Br.f ?_ ?_; (focus first | assumption | lia); cbv) | (refine Br.mk (fun _ => ?_) (fun _ => ?_) <;> cbv) | (refine Need.mk ?_ ?_; rotate_left; cbv) | (refine RetThen.mk [] [] ?_; cbv))
    · rename_i r hr
      subst hr
      exact ⟨WkR.of_eq rfl, trivial⟩
    · have : ([] : List (List PV)).length = 0 := rfl
      lia
theorem atN1_fn (O : Opq) (s : Ndoc) (p : ByteArray) : Fn prog 34 [.agg (s.enc O), .str p] [] [.int .i64 (O.o (cmpK Ndoc.key) s p)] [] := by
  refine go (fn := Go.Proofs.Tryd.f34) (n := 7) (rv := [ResultVar.tmp 4]) rfl (by decide) rfl (by decide +kernel) rfl rfl (by simp) fun F L C => ?_
  cbv
  (repeat' first | (refine Named.i64 ?_ fun _ _ => ?_; (focus lia); cbv) | (refine CallThen.mk _ _ (C.fn (cmp_fn O _ _)) ?_; cbv) | (refine Named.len fun _ _ hq => ?_; (try simp only [List.length_append, List.length_take, List.length_drop, List.length_replicate, List.length_set] at hq); cbv) | (refine Named.mk fun _ _ => ?_; cbv) | (refine Br.t ?_ ?_; (focus first | assumption | lia); cbv) | (refine Br.f ?_ ?_; (focus first | assumption | lia); cbv) | (refine Br.mk (fun _ => ?_) (fun _ => ?_) <;> cbv) | (refine Need.mk ?_ ?_; rotate_left; cbv) | (refine RetThen.mk [] [] ?_; cbv))
  all_goals exact ⟨by simp only [O.h]; rfl, trivial⟩
theorem bsearchN_fn (O : Opq) (bo : Bool) (d : List Ndoc) (p : ByteArray) (hd : d.length ≤ 1099511627776) (hs : sortedK Ndoc.key d) : Fn prog 33 [.sl bo 0 false 2 (O.o (Nms.enc O) d), .str p, .fn 34 [] []] [] [.int .i64 (O.o (posKZ Ndoc.key) d p), .bool (O.o (getK Ndoc.key) d p)] [] := by
  have hlen := Nms.len O d
  obtain ⟨N, hN⟩ : ∃ N : Nat, N = d.length := ⟨_, rfl⟩
  cases bo
  all_goals
    refine go (fn := Go.Proofs.Tryd.f33) (n := 46) (rv := [ResultVar.tmp 6, ResultVar.tmp 7]) rfl (by decide) rfl (by decide +kernel) rfl rfl (by simp) fun F L C => ?_
    cbv
    (repeat' first | (refine Named.i64 ?_ fun _ _ => ?_; (focus lia); cbv) | (refine Named.len fun _ _ hq => ?_; (try simp only [List.length_append, List.length_take, List.length_drop, List.length_replicate, List.length_set] at hq); cbv) | (refine Named.mk fun _ _ => ?_; cbv) | (refine Br.t ?_ ?_; (focus first | assumption | lia); cbv) | (refine Br.f ?_ ?_; (focus first | assumption | lia); cbv) | (refine Br.mk (fun _ => ?_) (fun _ => ?_) <;> cbv) | (refine Need.mk ?_ ?_; rotate_left; cbv) | (refine RetThen.mk [] [] ?_; cbv))
    refine LoopThen.mk (C.loopAt (ι := Int × Int) [(9, 11), (15, 34)] (fun x => [(9, .int .i64 x.1), (10, .int .i64 x.2)]) (fun _ => [])
      (fun x => 0 ≤ x.1 ∧ x.1 ≤ x.2 ∧ x.2 ≤ d.length ∧ (∀ (j : Nat) y, j < x.1 → d[j]? = some y → slt y.key p) ∧ (∀ (j : Nat) y, x.2 ≤ j → d[j]? = some y → ¬ slt y.key p)) (fun x => (x.2 - x.1).toNat) (by decide +kernel) (Start.mk (0, (N : Int)) [] [] (by refine ⟨by simp, by simp, by simp [hN], fun j y h => by simp at h; omega, fun j y h1 h2 => ?_⟩; have := (List.getElem?_eq_some_iff.1 h2).1; simp at h1; omega) (by cbv; (repeat' apply And.intro) <;> first | exact True.intro | exact WkR.refl _ | rfl | lia)) ?_)
    rintro ⟨i, j⟩ g
    cbv
    obtain ⟨h1, h2, h3, h4, h5⟩ := g
    simp only at h1 h2 h3 h4 h5
    (repeat' first | (refine Named.i64 ?_ fun _ _ => ?_; (focus lia); cbv) | (refine Named.u64 ?_ fun _ _ => ?_; (focus lia); cbv) | (refine Named.half fun _ _ => ?_; cbv) | (refine Ex.map O (Ndoc.enc O) rfl ?_ fun x hx => ?_; rotate_left; obtain ⟨q, k'⟩ := x; cbv) | (refine CallThen.mk _ _ (C.fn (atN1_fn O ⟨_, _⟩ _)) ?_; cbv) | (apply Back.of (i := (_, _)) [] []; (focus (cbv; (repeat' apply And.intro) <;> first | exact True.intro | exact WkR.refl _ | rfl))) | (refine Named.len fun _ _ hq => ?_; (try simp only [List.length_append, List.length_take, List.length_drop, List.length_replicate, List.length_set] at hq); cbv) | (refine Named.mk fun _ _ => ?_; cbv) | (refine Br.t ?_ ?_; (focus first | assumption | lia); cbv) | (refine Br.f ?_ ?_; (focus first | assumption | lia); cbv) | (refine Br.mk (fun _ => ?_) (fun _ => ?_) <;> cbv) | (refine Need.mk ?_ ?_; rotate_left; cbv) | (refine RetThen.mk [] [] ?_; cbv))
    all_goals (try subst_vars)
    all_goals simp only [O.h, cmpK_lt, cmpK_eq] at *
    all_goals (repeat' apply And.intro)
    all_goals first
      | exact True.intro
      | lia
      | assumption
      | (refine bsK_lo hs ?_ (by assumption) (by assumption); lia)
      | (refine bsK_hi hs ?_ (by assumption) (by assumption); lia)
      | exact posKZ_at h1 (by lia) h4 (fun k y hk => h5 k y (by lia))
      | exact (getK_at h1 (by assumption) hs h4 (fun k y hk => h5 k y (by lia))).2 (by assumption)
      | (cases hb : getK Ndoc.key d p with
          | false => rfl
          | true => exact absurd ((getK_at h1 (by assumption) hs h4 (fun k y hk => h5 k y (by lia))).1 hb) (by assumption))
      | exact getK_end (by lia) h4
      | trace_state
theorem atN_fn (O : Opq) (bo : Bool) (d : List Ndoc) (p : ByteArray) (hd : d.length ≤ 1099511627776) (hs : sortedK Ndoc.key d) : Fn prog 24 [.sl bo 0 false 2 (O.o (Nms.enc O) d), .str p] [] [.int .i64 (O.o (posKZ Ndoc.key) d p), .bool (O.o (getK Ndoc.key) d p)] [] := by
  cases bo
  all_goals
    refine go (fn := Go.Proofs.Tryd.f24) (n := 9) (rv := [ResultVar.tmp 4, ResultVar.tmp 5]) rfl (by decide) rfl (by decide +kernel) rfl rfl (by simp) fun F L C => ?_
    cbv
    (repeat' first | (refine Named.i64 ?_ fun _ _ => ?_; (focus lia); cbv) | (refine CallThen.mk _ _ (C.fn (bsearchN_fn O _ _ _ hd hs)) ?_; cbv) | (refine Named.len fun _ _ hq => ?_; (try simp only [List.length_append, List.length_take, List.length_drop, List.length_replicate, List.length_set] at hq); cbv) | (refine Named.mk fun _ _ => ?_; cbv) | (refine Br.t ?_ ?_; (focus first | assumption | lia); cbv) | (refine Br.f ?_ ?_; (focus first | assumption | lia); cbv) | (refine Br.mk (fun _ => ?_) (fun _ => ?_) <;> cbv) | (refine Need.mk ?_ ?_; rotate_left; cbv) | (refine RetThen.mk [] [] ?_; cbv))
    all_goals exact ⟨rfl, rfl, trivial⟩
theorem insertN_fn (O : Opq) (d : List Ndoc) (i : Int) (f : Ndoc) (v : List (List PV)) (hv : v = [f.enc O]) (hd : d.length ≤ 1099511627) (h0 : 0 ≤ i) (h1 : i ≤ d.length) : Fn prog 25 [.ref 0, .int .i64 i, .ref 1] [.arr 0 none 2 (O.o (Nms.enc O) d), .arr 2 none 2 v]
    [.sl false 0 false 2 (O.o (Nms.enc O) (O.o insKZ d i f))] [.dead, .dead] := by
  have hlen := Nms.len O d
  have hvl : v.length = 1 := by rw [hv]; rfl
  have hvn : v ≠ [] := by rw [hv]; simp
  have enc_ins : (Nms.enc O) (insKZ d i f) = ((Nms.enc O) d).take i.toNat ++ [f.enc O] ++ ((Nms.enc O) d).drop i.toNat := map_insKZ (Ndoc.enc O) d i f
  refine .inl (Fn.capAny fun c hc => ?_)
  refine goB (fn := Go.Proofs.Tryd.f25) (n := 92) (rv := [ResultVar.tmp 6]) rfl (by decide) rfl (by decide +kernel) rfl rfl (by simp) fun F L C => ?_
  cbv
  (repeat' first | (refine Named.i64 ?_ fun _ _ => ?_; (focus lia); cbv) | (refine RetThen.mk [] [1728, 2688, 3968] ?_; cbv) | (refine CallThen.mk _ _ (C.fn (overlaps_fn (fn := Go.Proofs.Tryd.f36) (tS := 22) (tR := 4) (e := 44) (sz := 2) rfl (by decide) rfl (by kernel_rfl) (by kernel_rfl) rfl (fun w => rfl) (by decide) (by decide) hvn (by lia))) ?_; cbv) | (refine Named.len fun _ _ hq => ?_; (try simp only [List.length_append, List.length_take, List.length_drop, List.length_replicate, List.length_set] at hq); cbv) | (refine Named.mk fun _ _ => ?_; cbv) | (refine Br.t ?_ ?_; (focus first | assumption | lia); cbv) | (refine Br.f ?_ ?_; (focus first | assumption | lia); cbv) | (refine Br.mk (fun _ => ?_) (fun _ => ?_) <;> cbv) | (refine Need.mk ?_ ?_; rotate_left; cbv) | (refine RetThen.mk [] [] ?_; cbv))
  all_goals try first
    | lia
    | (dsimp only; lia)
  · rename_i B eB hB F eF
    rw [eF, eB]
    refine ⟨WkR.of_eq ?_, trivial⟩
    simp only [O.h] at *
    rw [enc_ins, show i.toNat = d.length by lia, List.take_of_length_le (by lia), List.drop_of_length_le (by lia), List.append_nil, hv]
  · rename_i n1 e1 n2 e2 m em L eL hne s1 es1 cc ecc hlt t1 et1 s2 es2 s3 es3 Z eZ hZ A eA hA B eB hB i2 ei2 k2 ek2 CC eC hC w1 ew1 s4 es4 i3 ei3 k3 ek3 i4 ei4 k4 ek4 Y eY hY D eD hD w2 ew2 F eF
    rw [eF]
    refine ⟨WkR.of_eq ?_, trivial⟩
    have qm : m = 1 := by lia
    have qL : L = d.length := by lia
    have qi : i.toNat < d.length := by lia
    have q1 : t1 = i.toNat := by lia
    have q2 : i2 = i.toNat := by lia
    have qz : Z.length = d.length + 1 - i.toNat := by clear hA hB hC hY hD hq; lia
    have qA : A.length = i.toNat := by clear hB hC hY hD hq; lia
    have qB : B.length = d.length + 1 := by clear hC hY hD hq; lia
    clear hA hB hC hY hD hq
    have q3 : k2 = d.length + 1 - i.toNat := by lia
    have q4 : i2 + min v.length k2 = i.toNat + 1 := by lia
    have q5 : i3 = i.toNat + 1 := by lia
    have qC : CC.length = d.length + 1 := by rw [eC, List.length_append, List.length_append, List.length_take, List.length_take, List.length_drop]; lia
    have q6 : k3 = d.length - i.toNat := by lia
    have q7 : i4 = i.toNat := by lia
    have q8 : k4 = d.length - i.toNat := by lia
    have qY : Y.length = d.length - i.toNat := by rw [eY, List.length_take, List.length_drop]; lia
    have q9 : i3 + min Y.length k3 = d.length + 1 := by lia
    rw [q4, q2, q3] at eC
    rw [q9, q5, q6] at eD
    rw [q7, q8] at eY
    rw [q1] at eA
    simp only [O.h, List.drop_zero] at *
    rw [enc_ins, ← hv]
    symm
    refine ins2 (Nms.enc_len O d) qi hvl qz (r1 := B) (r2 := CC) (by rw [eB, eA]) eC ?_
    rw [eD, eY, List.take_take, Nat.min_self]
  · rename_i n1 e1 n2 e2 m em L eL hne s1 es1 cc ecc hge s2 es2 B eB hB s3 es3 i2 ei2 k2 ek2 s4 es4 i3 ei3 k3 ek3 i4 ei4 k4 ek4 Y eY hY CC eC hC w1 ew1 i5 ei5 k5 ek5 D eD hD w2 ew2 F eF
    rw [eF]
    refine ⟨WkR.of_eq ?_, trivial⟩
    have qm : m = 1 := by lia
    have qL : L = d.length := by lia
    have qi : i.toNat < d.length := by lia
    have qB : B.length = d.length + 1 := by clear hC hY hD hq; lia
    clear hC hY hD hq
    have q5 : i3 = i.toNat + 1 := by lia
    have q6 : k3 = d.length - i.toNat := by lia
    have q7 : i4 = i.toNat := by lia
    have q8 : k4 = d.length + 1 - i.toNat := by lia
    have qY : Y.length = d.length + 1 - i.toNat := by rw [eY, List.length_take, List.length_drop]; lia
    have q9 : i3 + min Y.length k3 = d.length + 1 := by lia
    have q2 : i5 = i.toNat := by lia
    have qC : CC.length = d.length + 1 := by rw [eC, List.length_append, List.length_append, List.length_take, List.length_take, List.length_drop]; lia
    have q3 : k5 = d.length + 1 - i.toNat := by lia
    have q4 : i5 + min v.length k5 = i.toNat + 1 := by lia
    have qz : s2.toNat - d.length = 1 := by lia
    rw [q9, q5, q6] at eC
    rw [q4, q2, q3] at eD
    rw [q7, q8] at eY
    rw [hlen, qz] at eB
    simp only [O.h] at *
    rw [enc_ins, ← hv]
    symm
    exact ins3 (Nms.enc_len O d) qi hvl (by simp) eB (by rw [eC, eY]) eD
theorem deleteN_fn (O : Opq) (d : List Ndoc) (i j : Int) (hj : j = i + 1) (hd : d.length ≤ 1099511627) (h0 : 0 ≤ i) (h1 : i < d.length) : Fn prog 26 [.ref 0, .int .i64 i, .int .i64 j] [.arr 0 none 2 (O.o (Nms.enc O) d)]
    [.sl false 0 false 2 (O.o (Nms.enc O) (O.o List.eraseIdx d i.toNat))] [.dead] := by
  have hlen := Nms.len O d
  refine .inl (Fn.capAny fun c hc => ?_)
  refine goB (fn := Go.Proofs.Tryd.f26) (n := 30) (rv := [ResultVar.tmp 6]) rfl (by decide) rfl (by decide +kernel) rfl rfl (by simp) fun F L C => ?_
  cbv
  (repeat' first | (refine Named.i64 ?_ fun _ _ => ?_; (focus lia); cbv) | (refine RetThen.mk [] [1792] ?_; cbv) | (refine Named.len fun _ _ hq => ?_; (try simp only [List.length_append, List.length_take, List.length_drop, List.length_replicate, List.length_set] at hq); cbv) | (refine Named.mk fun _ _ => ?_; cbv) | (refine Br.t ?_ ?_; (focus first | assumption | lia); cbv) | (refine Br.f ?_ ?_; (focus first | assumption | lia); cbv) | (refine Br.mk (fun _ => ?_) (fun _ => ?_) <;> cbv) | (refine Need.mk ?_ ?_; rotate_left; cbv) | (refine RetThen.mk [] [] ?_; cbv))
  all_goals try first
    | lia
    | (dsimp only; lia)
  all_goals
    refine ⟨.of_eq ?_, trivial⟩
    subst_vars
    have e : ∀ n, (Nms.enc O) (d.eraseIdx n) = ((Nms.enc O) d).take n ++ ((Nms.enc O) d).drop (n + 1) := fun n => by
      simp only [Nms.enc, List.eraseIdx_eq_take_drop_succ, List.map_append, List.map_take, List.map_drop]
    simp only [O.h] at hlen ⊢
    refine (e i.toNat).trans ?_
    rw [show (i + 1).toNat = i.toNat + 1 by omega, show i.toNat - Int.toNat 0 = i.toNat by simp, List.take_of_length_le (l := List.drop (i.toNat + 1) ((Nms.enc O) d)) (by rw [List.length_drop]; exact Nat.le_refl _)]
end Go.Sym
namespace Go.Sym
open Go Go.Proofs.Tryd
set_option maxRecDepth 100000
theorem cloneW_fn (O : Opq) (d : Doc) (hd : d.length ≤ 1099511627) : Fn prog 22 [.sl false 0 false 6 (O.o Doc.enc d)] [] [.sl false 0 false 6 (O.o Doc.enc d)] [] := by
  have hlen : (O.o Doc.enc d).length = d.length := by rw [O.h, Doc.enc_len]
  refine .inl (Fn.nilOr (pre := []) (post := []) (fun h0 => ?_) ?_)
  · refine goB (fn := Go.Proofs.Tryd.f22) (n := 7) (rv := [ResultVar.tmp 2]) rfl (by decide) rfl (by decide +kernel) rfl rfl (by simp) fun F L C => ?_
    cbv
    (repeat' first | (refine Named.i64 ?_ fun _ _ => ?_; (focus lia); cbv) | (refine RetThen.mk [] [] ?_; cbv) | (refine Named.len fun _ _ hq => ?_; (try simp only [List.length_append, List.length_take, List.length_drop, List.length_replicate, List.length_set] at hq); cbv) | (refine Named.mk fun _ _ => ?_; cbv) | (refine Br.t ?_ ?_; (focus first | assumption | lia); cbv) | (refine Br.f ?_ ?_; (focus first | assumption | lia); cbv) | (refine Br.mk (fun _ => ?_) (fun _ => ?_) <;> cbv) | (refine Need.mk ?_ ?_; rotate_left; cbv) | (refine RetThen.mk [] [] ?_; cbv))
    all_goals exact ⟨h0, trivial⟩
  · refine goB (fn := Go.Proofs.Tryd.f22) (n := 7) (rv := [ResultVar.tmp 2]) rfl (by decide) rfl (by decide +kernel) rfl rfl (by simp) fun F L C => ?_
    cbv
    (repeat' first | (refine Named.i64 ?_ fun _ _ => ?_; (focus lia); cbv) | (fail) | (refine RetThen.mk [] [576] ?_; cbv) | (refine Named.len fun _ _ hq => ?_; (try simp only [List.length_append, List.length_take, List.length_drop, List.length_replicate, List.length_set] at hq); cbv) | (refine Named.mk fun _ _ => ?_; cbv) | (refine Br.t ?_ ?_; (focus first | assumption | lia); cbv) | (refine Br.f ?_ ?_; (focus first | assumption | lia); cbv) | (refine Br.mk (fun _ => ?_) (fun _ => ?_) <;> cbv) | (refine Need.mk ?_ ?_; rotate_left; cbv) | (refine RetThen.mk [] [] ?_; cbv))
    · refine ⟨WkR.of_eq ?_, trivial⟩
      clear hlen
      subst_vars
      rfl
    · have : ([] : List (List PV)).length = 0 := rfl
      lia
theorem chs_set (O : Opq) {l : List Change} {k : Nat} {x : Change} (hx : l[k]? = some x) : (O.o (Chs.enc O) l).set k (Change.enc O x) = O.o (Chs.enc O) l := by
  obtain ⟨hk, rfl⟩ := List.getElem?_eq_some_iff.1 hx
  simp only [O.h]
  rw [Chs.enc, ← List.map_set, List.set_getElem_self]
end Go.Sym
namespace Go.Sym
open Go Go.Proofs.Tryd
set_option maxRecDepth 100000
theorem cnum_fn (O : Opq) (n : Int) : Fn prog 75 [.int .i64 n] [] [.agg ((numC n).en O)] [] := by
  have h0 : O.o Cels.enc [] = [] := by rw [O.h, Cels.enc]
  refine go (fn := Go.Proofs.Tryd.f75) (n := 4) (rv := [ResultVar.cell 2 79]) rfl (by decide) rfl (by decide +kernel) rfl rfl (by simp) fun F L C => ?_
  cbv
  (repeat' first | (refine Named.i64 ?_ fun _ _ => ?_; (focus lia); cbv) | (refine Named.len fun _ _ hq => ?_; (try simp only [List.length_append, List.length_take, List.length_drop, List.length_replicate, List.length_set] at hq); cbv) | (refine Named.mk fun _ _ => ?_; cbv) | (refine Br.t ?_ ?_; (focus first | assumption | lia); cbv) | (refine Br.f ?_ ?_; (focus first | assumption | lia); cbv) | (refine Br.mk (fun _ => ?_) (fun _ => ?_) <;> cbv) | (refine Need.mk ?_ ?_; rotate_left; cbv) | (refine RetThen.mk [] [] ?_; cbv))
  exact ⟨h0, trivial⟩
theorem ctext_fn (O : Opq) (s : ByteArray) : Fn prog 62 [.str s] [] [.agg ((textC s).en O)] [] := by
  have h0 : O.o Cels.enc [] = [] := by rw [O.h, Cels.enc]
  refine go (fn := Go.Proofs.Tryd.f62) (n := 4) (rv := [ResultVar.cell 2 79]) rfl (by decide) rfl (by decide +kernel) rfl rfl (by simp) fun F L C => ?_
  cbv
  (repeat' first | (refine Named.i64 ?_ fun _ _ => ?_; (focus lia); cbv) | (refine Named.len fun _ _ hq => ?_; (try simp only [List.length_append, List.length_take, List.length_drop, List.length_replicate, List.length_set] at hq); cbv) | (refine Named.mk fun _ _ => ?_; cbv) | (refine Br.t ?_ ?_; (focus first | assumption | lia); cbv) | (refine Br.f ?_ ?_; (focus first | assumption | lia); cbv) | (refine Br.mk (fun _ => ?_) (fun _ => ?_) <;> cbv) | (refine Need.mk ?_ ?_; rotate_left; cbv) | (refine RetThen.mk [] [] ?_; cbv))
  exact ⟨h0, trivial⟩
theorem clist0_fn (r : List (List PV)) (hl : r.length ≤ 1099511627) : Fn prog 61 [.sl true 0 false 4 r] [] [.agg [.int .i64 3, .int .i64 0, .str ByteArray.empty, .sl false 0 false 4 r]] [] := by
  refine go (fn := Go.Proofs.Tryd.f61) (n := 6) (rv := [ResultVar.cell 2 79]) rfl (by decide) rfl (by decide +kernel) rfl rfl (by simp) fun F L C => ?_
  cbv
  (repeat' first | (refine Named.i64 ?_ fun _ _ => ?_; (focus lia); cbv) | (refine RetThen.mk [] [448] ?_; cbv) | (refine Named.len fun _ _ hq => ?_; (try simp only [List.length_append, List.length_take, List.length_drop, List.length_replicate, List.length_set] at hq); cbv) | (refine Named.mk fun _ _ => ?_; cbv) | (refine Br.t ?_ ?_; (focus first | assumption | lia); cbv) | (refine Br.f ?_ ?_; (focus first | assumption | lia); cbv) | (refine Br.mk (fun _ => ?_) (fun _ => ?_) <;> cbv) | (refine Need.mk ?_ ?_; rotate_left; cbv) | (refine RetThen.mk [] [] ?_; cbv))
  · refine ⟨.of_eq ?_, trivial⟩
    subst_vars; rfl
  · have : ([] : List (List PV)).length = 0 := rfl
    lia
theorem clist_fn (nn : Nat) (full : Bool) (r : List (List PV)) (hl : r.length ≤ 1099511627) : Fn prog 61 [.sl true nn full 4 r] [] [.agg [.int .i64 3, .int .i64 0, .str ByteArray.empty, .sl false 0 false 4 r]] [] :=
  (clist0_fn r hl).wkA (.cons (.bor rfl (.refl _)) .nil)
end Go.Sym
namespace Go.Sym
open Go Go.Proofs.Tryd
set_option maxRecDepth 100000
theorem value_fn (O : Opq) (v : Val) : Fn prog 63 [.agg v.enc] [] [.agg ((O.o valC v).en O)] [] := by
  have h1 : v.kind = 1 → O.o valC v = numC v.num := fun h => by rw [O.h, valC, if_pos h]
  have h2 : v.kind = 2 → O.o valC v = textC v.text := fun h => by rw [O.h, valC, if_neg (by omega), if_pos h]
  have h3 : v.kind ≠ 1 → v.kind ≠ 2 → O.o valC v = listC [numC v.re, numC v.im] := fun h g => by rw [O.h, valC, if_neg h, if_neg g]
  obtain ⟨w, hw⟩ : ∃ w, w = O.o valC v := ⟨_, rfl⟩
  rw [← hw] at h1 h2 h3 ⊢
  refine go (fn := Go.Proofs.Tryd.f63) (n := 24) (rv := [ResultVar.cell 2 79]) rfl (by decide) rfl (by decide +kernel) rfl rfl (by simp) fun F L C => ?_
  cbv
  (repeat' first | (refine Named.i64 ?_ fun _ _ => ?_; (focus lia); cbv) | (refine CallThen.mk _ _ (C.fn (cnum_fn O _)) ?_; cbv) | (refine CallThen.mk _ _ (C.fn (ctext_fn O _)) ?_; cbv) | (refine CallThen.mk _ _ (C.fn (clist_fn _ _ _ (by simp))) ?_; cbv) | (refine Named.len fun _ _ hq => ?_; (try simp only [List.length_append, List.length_take, List.length_drop, List.length_replicate, List.length_set] at hq); cbv) | (refine Named.mk fun _ _ => ?_; cbv) | (refine Br.t ?_ ?_; (focus first | assumption | lia); cbv) | (refine Br.f ?_ ?_; (focus first | assumption | lia); cbv) | (refine Br.mk (fun _ => ?_) (fun _ => ?_) <;> cbv) | (refine Need.mk ?_ ?_; rotate_left; cbv) | (refine RetThen.mk [] [] ?_; cbv))
  · rename_i h; rw [h1 h]; exact ⟨rfl, rfl, rfl, .refl _, trivial⟩
  · rename_i h; rw [h2 h]; exact ⟨rfl, rfl, rfl, .refl _, trivial⟩
  · rename_i g h; rw [h3 g h]
    refine ⟨rfl, rfl, rfl, .of_eq ?_, trivial⟩
    simp only [O.h]
    simp only [listC, numC, Cel.list, Cels.enc, Cel.enc, O.h]
    rfl
end Go.Sym
