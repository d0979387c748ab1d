/- The law FeedFlows. -/
import Derived.Test.YtfenjmhhggekaaaDoorFe12
import Derived.Test.YtfenjmhhggekaaaDoorFeE
set_option linter.all false
set_option linter.unusedVariables false
set_option linter.unusedSimpArgs false
namespace Go.Sym
open Go Go.Proofs.Tryd
set_option maxRecDepth 100000
def strR (s : ByteArray) : List PV := [.str s]
def strsR : List ByteArray → List (List PV) := List.map strR
def actR (b : Nat) : List PV := [.int .u8 b]
def actsR : List Nat → List (List PV) := List.map actR
def chK (n : Int) (k : ByteArray) (h : Bool) : Change := ⟨n, k, h, []⟩
theorem good_in {l : List Change} (h : goodA l) (hl : l.length ≤ 1000) : inF ⟨0, l.length, l, []⟩ ∧ ∀ b a, inF (flow b a l) := by
  have hc : ∀ c ∈ l, inC c ∧ c.doc.length ≤ 1099511627 := fun c hc => by
    obtain ⟨i, hi, rfl⟩ := List.getElem_of_mem hc
    obtain ⟨a, _, d⟩ := h i l[i] (by simp)
    refine ⟨⟨by rw [a]; omega, by rw [a]; omega⟩, by rw [d]; simp⟩
  refine ⟨⟨by show l.length ≤ _; omega, by simp, hc⟩, fun b a => ⟨?_, by simp [flow], fun c h => hc c (List.mem_of_mem_drop h)⟩⟩
  show (l.drop b).length ≤ _
  rw [List.length_drop]; omega
theorem chs_snoc (O : Opq) (l : List Change) (n : Int) (k : ByteArray) (h : Bool) : WkR (O.o (Chs.enc O) (l ++ [chK n k h])) (O.o (Chs.enc O) l ++ [[.int .i64 n, .str k, .bool h, .nils]]) := by
  have e : O.o (Chs.enc O) (l ++ [chK n k h]) = O.o (Chs.enc O) l ++ [Change.enc O (chK n k h)] := by simp only [O.h]; simp [Chs.enc]
  rw [e]
  refine .append (.refl _) (.cons ?_ (.refl _))
  refine .cons (.refl _) (.cons (.refl _) (.cons (.refl _) (.cons ?_ (.refl _))))
  show Wk (.sl false 0 false 6 (O.o Doc.enc [])) _
  rw [show O.o Doc.enc [] = [] by rw [O.h]; rfl]
  exact .nil _ _
theorem newsT_fn (O : Opq) (d e : List Change) (hd : d.length ≤ 1099511627776) (hdd : ∀ c ∈ d, c.doc.length ≤ 1099511627776) : Fn prog 38 [.sl false 0 false 4 (O.o (Chs.enc O) d), .sl true 0 false 4 (O.o (Chs.enc O) e)] [] [.bool (O.o sameC d e)] [] := by
  have hlen := Chs.len O d
  have hlen2 := Chs.len O e
  obtain ⟨N, hN⟩ : ∃ N : Nat, N = d.length := ⟨_, rfl⟩
  obtain ⟨z, hz⟩ : ∃ z : Nat, z = 0 := ⟨_, rfl⟩
  refine go (fn := Go.Proofs.Tryd.f38) (n := 66) (rv := [ResultVar.tmp 4]) rfl (by decide) rfl (by decide +kernel) rfl rfl (by simp) fun F L C => ?_
  cbv
  (repeat' first | (refine Named.i64 ?_ fun _ _ => ?_; (focus lia); cbv) | (refine Named.len fun _ _ hq => ?_; (try simp only [List.length_append, List.length_take, List.length_drop, List.length_replicate, List.length_set] at hq); cbv) | (refine Named.mk fun _ _ => ?_; cbv) | (refine Br.t ?_ ?_; (focus first | assumption | lia); cbv) | (refine Br.f ?_ ?_; (focus first | assumption | lia); cbv) | (refine Br.mk (fun _ => ?_) (fun _ => ?_) <;> cbv) | (refine Need.mk ?_ ?_; rotate_left; cbv) | (refine RetThen.mk [] [] ?_; cbv))
  all_goals try first
    | (refine ⟨?_, trivial⟩; simp only [O.h]; exact sameC_len (by lia))
  refine LoopThen.mk (C.loopAt (ι := Nat) [(4, 5), (11, 67)] (fun k => [(4, .bool false), (5, .int .i64 k)]) (fun _ => [])
    (fun k => k ≤ d.length ∧ ∀ (j : Nat), j < k → d[j]? = e[j]?) (fun k => N - k) (by decide +kernel) (Start.mk z [] [] ⟨by lia, fun j hj => by omega⟩ (by cbv; (repeat' apply And.intro) <;> first | exact True.intro | exact WkR.refl _ | rfl | lia)) ?_)
  intro k g
  cbv
  have g1 : k ≤ d.length := g.1
  have g2 := g.2
  clear g
  by_cases hk : k < d.length
  · obtain ⟨x, hx⟩ : ∃ x, d[k]? = some x := ⟨d[k], by simp [hk]⟩
    obtain ⟨y, hy⟩ : ∃ y, e[k]? = some y := ⟨e[k]'(by lia), by simp⟩
    have hxd := hdd x (List.mem_of_getElem? hx)
    have hne : x ≠ y → O.o sameC d e = false := fun h => by simp only [O.h]; exact sameC_at (k := k) (by rw [hx, hy]; simpa using h)
    have hst : x = y → ∀ (j : Nat), j < k + 1 → d[j]? = e[j]? := fun h j hj => by
      by_cases ej : j = k
      · subst ej; rw [hx, hy, h]
      · exact g2 j (by omega)
    clear g2 hdd
    obtain ⟨p, key, has, doc⟩ := x
    obtain ⟨p', key', has', doc'⟩ := y
    have hsd : O.o sameDoc doc doc' = true ↔ doc = doc' := by rw [O.h]; exact sameDoc_iff
    cases has <;> cases has' <;> (repeat' first | (refine Named.i64 ?_ fun _ _ => ?_; (focus lia); cbv) | (refine Ex.known O (Change.enc O) rfl hx ?_ ?_; (focus lia); cbv) | (refine Ex.known O (Change.enc O) rfl hy ?_ ?_; (focus lia); cbv) | (refine CallThen.bool (C.fn (rsame_fn O doc doc' hxd)) (fun _ => ?_) (fun _ => ?_) <;> cbv) | (refine Back.up [] [] ?_ ?_ fun _ _ => ?_; rotate_left 2; cbv; refine And.intro ?_ ?_) | (refine Named.len fun _ _ hq => ?_; (try simp only [List.length_append, List.length_take, List.length_drop, List.length_replicate, List.length_set] at hq); cbv) | (refine Named.mk fun _ _ => ?_; cbv) | (refine Br.t ?_ ?_; (focus first | assumption | lia); cbv) | (refine Br.f ?_ ?_; (focus first | assumption | lia); cbv) | (refine Br.mk (fun _ => ?_) (fun _ => ?_) <;> cbv) | (refine Need.mk ?_ ?_; rotate_left; cbv) | (refine RetThen.mk [] [] ?_; cbv))
    all_goals (repeat' apply And.intro)
    all_goals try first
      | exact True.intro
      | exact WkR.refl _
      | (clear hx hy hne hst hsd; lia)
    all_goals first
      | (refine hne fun h => ?_; cases h; clear hx hy hst; simp_all; done)
      | (refine hne fun h => ?_; simp only [Change.mk.injEq] at h; clear hx hy hst; grind)
      | (refine hst ?_; simp only [Change.mk.injEq]; clear hx hy hne hst; grind)
      | trace_state
  · (repeat' first | (refine Named.i64 ?_ fun _ _ => ?_; (focus lia); cbv) | (refine Named.len fun _ _ hq => ?_; (try simp only [List.length_append, List.length_take, List.length_drop, List.length_replicate, List.length_set] at hq); cbv) | (refine Named.mk fun _ _ => ?_; cbv) | (refine Br.t ?_ ?_; (focus first | assumption | lia); cbv) | (refine Br.f ?_ ?_; (focus first | assumption | lia); cbv) | (refine Br.mk (fun _ => ?_) (fun _ => ?_) <;> cbv) | (refine Need.mk ?_ ?_; rotate_left; cbv) | (refine RetThen.mk [] [] ?_; cbv))
    all_goals (repeat' apply And.intro)
    all_goals try first
      | exact True.intro
      | lia
    all_goals
      simp only [O.h]
      exact sameC_all (by clear g2; lia) fun j hj => g2 j (by clear g2; lia)
noncomputable def flowS (y : Nat × Nat × List Change) : Feed := flow y.1 y.2.1 y.2.2
def partR (a : Nat) (l : List Change) (m : Int) : List Change := (l.drop a).take m.toNat
theorem wrap_c {c : Nat} (hc : c < 256) : IntKind.i64.wrap (Int.ofNat c) = c := by
  have h : ∀ n : Fin 256, IntKind.i64.wrap (Int.ofNat n.val) = n.val := by decide +kernel
  exact h ⟨c, hc⟩
theorem mm_ok {c : Nat} (hc : c < 256) {w v u m : Int} (e7 : w = IntKind.u8.wrap ((Int.ofNat c).tdiv 4)) (e5 : v = IntKind.i64.wrap w) (e3 : u = v.tmod 16) (e1 : m = 1 + u) : m = ((1 + c / 4 % 16 : Nat) : Int) := by
  have h : ∀ n : Fin 256, 1 + (IntKind.i64.wrap (IntKind.u8.wrap ((Int.ofNat n.val).tdiv 4))).tmod 16 = ((1 + n.val / 4 % 16 : Nat) : Int) := by decide +kernel
  subst e1 e3 e5 e7
  exact h ⟨c, hc⟩
theorem half_nat {n : Nat} {x q : Int} (hx : x = n) (hq : q = x.tdiv 2) : q = ((n / 2 : Nat) : Int) := by
  subst hx hq; rfl
theorem add0_fn (O : Opq) (l : List Change) (h : goodA l) (hl : l.length ≤ 1000) : Fn prog 46 [.agg [.int .i64 0, .int .i64 0, .nils, .nils], .sl true 0 false 4 (O.o (Chs.enc O) l)] [] [.agg (Feed.enc O ⟨0, l.length, l, []⟩), .int .i64 0] [] := by
  obtain ⟨⟨_, _, hc⟩, _⟩ := good_in h hl
  obtain ⟨e1, e2⟩ := first_add h (by omega)
  have ha := addB_fn O zeroF l (inF_fd (.inl rfl) (by simp [zeroF])) (by omega) hc
  rw [show O.o addR zeroF l = ⟨0, l.length, l, []⟩ by rw [O.h]; exact e2, show O.o addE zeroF l = 0 by rw [O.h]; exact e1] at ha
  refine ha.wkA (.cons ?_ (.refl _))
  exact .agg' (.cons (.refl _) (.cons (.refl _) (.cons (.wk (by rw [show O.o (Chs.enc O) zeroF.changes = [] by rw [O.h]; rfl]; exact .nil _ _)) (.cons (.wk (by rw [show O.o Subs.enc zeroF.subs = [] by rw [O.h]; rfl]; exact .nil _ _)) .nil))))
theorem open0_fn (O : Opq) (l : List Change) (h : goodA l) (hl : l.length ≤ 1000) (q : Int) (hq : q = ((l.length / 2 : Nat) : Int)) : Fn prog 42 [.agg (Feed.enc O ⟨0, l.length, l, []⟩), .str sS, .int .i64 q] [] [.agg (Feed.enc O (O.o flowS (0, l.length / 2, l))), .int .i64 0] [] := by
  subst hq
  obtain ⟨e1, e2⟩ := first_open h (by omega) (a := l.length / 2) (by omega)
  have ha := open_fn O ⟨0, l.length, l, []⟩ sS ((l.length / 2 : Nat) : Int) (good_in h hl).1
  rwa [show O.o openR ⟨0, l.length, l, []⟩ sS ((l.length / 2 : Nat) : Int) = O.o flowS (0, l.length / 2, l) by simp only [O.h]; exact e2, show O.o openE ⟨0, l.length, l, []⟩ sS ((l.length / 2 : Nat) : Int) = 0 by rw [O.h]; exact e1] at ha
section
variable {b a : Nat} {l : List Change}
theorem addF_fn (O : Opq) (h : goodA l) (hl : l.length ≤ 999) (h1 : b ≤ a) (h2 : a ≤ l.length) {v : Int} {k : ByteArray} (hv : v = l.length + 1) (hk : isKey k = true) :
    Fn prog 46 [.agg (Feed.enc O (O.o flowS (b, a, l))), .sl true 2 false 4 [[.int .i64 v, .str k, .bool true, .nils]]] [] [.agg (Feed.enc O (O.o flowS (b, a, l ++ [chK v k true]))), .int .i64 0] [] := by
  have hg : goodA (l ++ [chK v k true]) := goodA_snoc h hv hk rfl
  obtain ⟨e1, e2⟩ := flow_add hg h1 h2 (by omega)
  have hi : inF (O.o flowS (b, a, l)) := by rw [O.h]; exact (good_in h (by omega)).2 _ _
  have ha := addB_fn O (O.o flowS (b, a, l)) [chK v k true] hi (by simp) (fun c hc => by simp at hc; subst hc; exact ⟨⟨by show -9223372036854775808 ≤ v; omega, by show v ≤ 9223372036854775807; omega⟩, by simp [chK]⟩)
  rw [show O.o addR (O.o flowS (b, a, l)) [chK v k true] = O.o flowS (b, a, l ++ [chK v k true]) by simp only [O.h]; exact e2, show O.o addE (O.o flowS (b, a, l)) [chK v k true] = 0 by simp only [O.h]; exact e1] at ha
  refine ha.wkA (.cons (.refl _) (.cons (.bor rfl ?_) .nil))
  have := chs_snoc O [] v k true
  rw [List.nil_append, show O.o (Chs.enc O) [] = [] by rw [O.h]; rfl, List.nil_append] at this
  exact this
theorem trimF_fn (O : Opq) (h : goodA l) (hl : l.length ≤ 1000) (h1 : b ≤ a) (h2 : a ≤ l.length) {q : Int} (hq : 0 ≤ q) :
    Fn prog 54 [.agg (Feed.enc O (O.o flowS (b, a, l))), .int .i64 q] [] [.agg (Feed.enc O (O.o flowS (newBase b a l.length q, a, l))), .int .i64 0] [] := by
  have hi : inF (O.o flowS (b, a, l)) := by rw [O.h]; exact (good_in h (by omega)).2 _ _
  have ha := ftrim_fn O (O.o flowS (b, a, l)) q hi
  have hfm := flow_may h h1 h2 (show l.length ≤ 2147483647 by omega)
  rwa [show O.o trimR (O.o flowS (b, a, l)) q = O.o flowS (newBase b a l.length q, a, l) by simp only [O.h]; exact (flow_trim h h1 h2 (by omega) hq).1, show O.o feedErr (O.o flowS (b, a, l)) = 0 by simp only [O.h]; exact feedErr_zero.2 hfm] at ha
theorem readF_fn (O : Opq) (h : goodA l) (hl : l.length ≤ 1000) (h1 : b ≤ a) (h2 : a ≤ l.length) {m : Int} (hm : 1 ≤ m ∧ m ≤ 16) :
    Fn prog 33 [.agg (Feed.enc O (O.o flowS (b, a, l))), .str sS, .int .i64 m] [] [.sl false 0 false 4 (O.o (Chs.enc O) (O.o (partR a l) m)), .int .i64 a, .int .i64 0] [] := by
  have hi : inF (O.o flowS (b, a, l)) := by rw [O.h]; exact (good_in h (by omega)).2 _ _
  obtain ⟨e1, e2, e3⟩ := flow_read h h1 h2 (by omega) hm.1 hm.2
  have ha := read_fn O (O.o flowS (b, a, l)) sS m hi.1 hi.2.1 hi.2.2
  rwa [show O.o readR (O.o flowS (b, a, l)) sS m = O.o (partR a l) m by simp only [O.h]; exact e2, show O.o readAt (O.o flowS (b, a, l)) sS m = a by simp only [O.h]; exact e3, show O.o readE (O.o flowS (b, a, l)) sS m = 0 by simp only [O.h]; exact e1] at ha
theorem ackF_fn (O : Opq) (h : goodA l) (hl : l.length ≤ 1000) (h1 : b ≤ a) {a2 : Nat} (h2 : a ≤ a2) (h3 : a2 ≤ l.length) {q : Int} (hq : q = a2) :
    Fn prog 55 [.agg (Feed.enc O (O.o flowS (b, a, l))), .str sS, .int .i64 q] [] [.agg (Feed.enc O (O.o flowS (b, a2, l))), .int .i64 0] [] := by
  subst hq
  have hi : inF (O.o flowS (b, a, l)) := by rw [O.h]; exact (good_in h (by omega)).2 _ _
  obtain ⟨e1, e2⟩ := flow_ack h h1 h2 h3 (by omega)
  have ha := ack_fn O (O.o flowS (b, a, l)) sS a2 hi
  rwa [show O.o ackR (O.o flowS (b, a, l)) sS a2 = O.o flowS (b, a2, l) by simp only [O.h]; exact e2, show O.o ackE (O.o flowS (b, a, l)) sS a2 = 0 by simp only [O.h]; exact e1] at ha
end
set_option maxHeartbeats 20000000 in
theorem feedFlows_fn (O : Opq) (p : Nat) (keys : List ByteArray) (acts : List Nat) (hp : p < 256) (hkl : keys.length ≤ 9223372036854775807) (hal : acts.length ≤ 9223372036854775807) (hab : ∀ b ∈ acts, b < 256) (hks : ∀ k ∈ keys, k.size ≤ 9223372036854775807) :
    Fn prog 11 [.int .u8 p, .sl false 0 false 1 (O.o strsR keys), .sl false 0 false 1 (O.o actsR acts)] [] [.bool true] [] := by
  have hlk : (O.o strsR keys).length = keys.length := by rw [O.h]; simp [strsR]
  have hla : (O.o actsR acts).length = acts.length := by rw [O.h]; simp [actsR]
  obtain ⟨N, hN⟩ : ∃ N : Nat, N = keys.length := ⟨_, rfl⟩
  obtain ⟨M, hM⟩ : ∃ N : Nat, N = acts.length := ⟨_, rfl⟩
  obtain ⟨z, hz⟩ : ∃ z : Nat, z = 0 := ⟨_, rfl⟩
  obtain ⟨nl, hnl⟩ : ∃ l : List Change, l = [] := ⟨_, rfl⟩
  refine go (fn := Go.Proofs.Tryd.f11) (n := 213) (rv := [ResultVar.tmp 6]) rfl (by decide) rfl (by decide +kernel) rfl rfl (by simp) fun F L C => ?_
  cbv
  (repeat' first | (refine Named.i64 ?_ fun _ _ => ?_; (focus lia); cbv) | (refine Named.len fun _ _ hq => ?_; (try simp only [List.length_append, List.length_take, List.length_drop, List.length_replicate, List.length_set] at hq); cbv) | (refine Named.mk fun _ _ => ?_; cbv) | (refine Br.t ?_ ?_; (focus first | assumption | lia); cbv) | (refine Br.f ?_ ?_; (focus first | assumption | lia); cbv) | (refine Br.mk (fun _ => ?_) (fun _ => ?_) <;> cbv) | (refine Need.mk ?_ ?_; rotate_left; cbv) | (refine RetThen.mk [] [] ?_; cbv))
  refine LoopThen.mk (C.loopAt (ι := Nat × List Change) [(6, 6), (9, 11), (21, 61)] (fun x => [(6, .bool false), (9, .ref 1408), (10, .int .i64 x.1), (11, .int .i64 x.1), (20, .top)]) (fun x => [(1408, .arr 0 none 4 (O.o (Chs.enc O) x.2)), (576, .box [.int .i64 0, .int .i64 0, .nils, .nils])])
    (fun x => x.1 ≤ keys.length ∧ x.1 ≤ 8 ∧ x.2.length = x.1 ∧ goodA x.2) (fun x => N - x.1) (by decide +kernel) (Start.mk (z, nl) [] [] ⟨by lia, by lia, by rw [hnl, hz]; rfl, by rw [hnl]; exact goodA_nil⟩ ?_) ?_)
  · cbv
    (repeat' apply And.intro) <;> first | exact True.intro | exact WkR.refl _ | rfl | (exact .of_eq (by simp only [O.h]; rw [hnl]; rfl)) | lia | trace_state
  intro x g
  cbv
  obtain ⟨i, l⟩ := x
  have g1 : i ≤ keys.length := g.1
  have g2 : i ≤ 8 := g.2.1
  have g3 : l.length = i := g.2.2.1
  have g4 : goodA l := g.2.2.2
  clear g
  have hlc : (O.o (Chs.enc O) l).length = i := by rw [Chs.len]; exact g3
  have hp8 : (Int.ofNat p).tmod 8 < 8 := Int.tmod_lt_of_pos _ (by omega)
  by_cases hgo : i < keys.length ∧ (i : Int) < (Int.ofNat p).tmod 8
  · obtain ⟨hgo1, hgo2⟩ := hgo
    obtain ⟨k, hk⟩ : ∃ k, keys[i]? = some k := ⟨keys[i]'hgo1, by simp⟩
    have hkk : isKey k = true ↔ 1 ≤ k.size ∧ k.size ≤ 64 := by simp [isKey]
    have hsn := chs_snoc O l (i + 1) k false
    have hgs : 1 ≤ k.size ∧ k.size ≤ 64 → goodA (l ++ [chK (i + 1) k false]) := fun h => goodA_snoc g4 (by rw [g3]; rfl) (hkk.2 h) rfl
    by_cases hv : 1 ≤ k.size ∧ k.size ≤ 64
    · obtain ⟨hv1, hv2⟩ := hv
      have hg2 := hgs ⟨hv1, hv2⟩
      clear hkk hgs
      (repeat' first | (refine Named.i64 ?_ fun _ _ => ?_; (focus lia); cbv) | (refine Ex.known O strR rfl hk ?_ ?_; (focus lia); cbv) | (refine CallThen.mk _ _ (C.fn (awakeF_fn O)) ?_; cbv) | (refine Back.to (i + 1, l ++ [chK (i + 1) k false]) [(1408, .loc 3904)] [] ?_ fun _ _ => ?_; rotate_left; cbv) | (refine Named.len fun _ _ hq => ?_; (try simp only [List.length_append, List.length_take, List.length_drop, List.length_replicate, List.length_set] at hq); cbv) | (refine Named.mk fun _ _ => ?_; cbv) | (refine Br.t ?_ ?_; (focus first | assumption | lia); cbv) | (refine Br.f ?_ ?_; (focus first | assumption | lia); cbv) | (refine Br.mk (fun _ => ?_) (fun _ => ?_) <;> cbv) | (refine Need.mk ?_ ?_; rotate_left; cbv) | (refine RetThen.mk [] [] ?_; cbv))
      all_goals try (simp only [List.length_cons, List.length_nil] at *; clear hk hsn hg2 g4; lia)
      · rename_i n0 e0 n1 e1 R eR n2 e2 n3 e3 x ex
        subst ex
        refine ⟨?_, .refl _, .refl _, by show ((i + 1 : Nat) : Int) = n2; clear hk hsn hg2 g4; lia, by show ((i + 1 : Nat) : Int) = n3; clear hk hsn hg2 g4; lia, trivial⟩
        rw [eR, show n1 = (i : Int) + 1 by clear hk hsn hg2 g4; lia]
        exact hsn
      · refine ⟨⟨by show i + 1 ≤ keys.length; clear hk hsn hg2 g4; omega, by show i + 1 ≤ 8; clear hk hsn hg2 g4; lia, by simp [g3], hg2⟩, by show N - (i + 1) < N - i; omega⟩
    · clear hsn hgs
      (repeat' first | (refine Named.i64 ?_ fun _ _ => ?_; (focus lia); cbv) | (refine Ex.known O strR rfl hk ?_ ?_; (focus lia); cbv) | (refine CallThen.mk _ _ (C.fn (awakeF_fn O)) ?_; cbv) | (refine Named.len fun _ _ hq => ?_; (try simp only [List.length_append, List.length_take, List.length_drop, List.length_replicate, List.length_set] at hq); cbv) | (refine Named.mk fun _ _ => ?_; cbv) | (refine Br.t ?_ ?_; (focus first | assumption | lia); cbv) | (refine Br.f ?_ ?_; (focus first | assumption | lia); cbv) | (refine Br.mk (fun _ => ?_) (fun _ => ?_) <;> cbv) | (refine Need.mk ?_ ?_; rotate_left; cbv) | (refine RetThen.mk [] [] ?_; cbv))
      all_goals first
        | (clear hk g4; lia)
        | trace_state
  · obtain ⟨h, hh⟩ : ∃ h, h = l.length / 2 := ⟨_, rfl⟩
    have hA := add0_fn O l g4 (by omega)
    have hO := open0_fn O l g4 (by omega)
    rw [← hh] at hO
    obtain ⟨F0, hF0⟩ : ∃ F : Feed, F = ⟨0, l.length, l, []⟩ := ⟨_, rfl⟩
    rw [← hF0] at hA hO
    have hqq : ∀ x q : Int, q = x.tdiv 2 → x = ((O.o (Chs.enc O) l).length : Int) → q = h := fun x q e1 e2 => by
      rw [hlc, ← g3] at e2
      rw [hh]; exact half_nat e2 e1
    have hhl : h ≤ l.length := by omega
    (repeat' first | (refine Named.i64 ?_ fun _ _ => ?_; (focus lia); cbv) | (refine CallThen.mk _ _ (C.fn (hA)) ?_; cbv) | (refine CallThen.mk _ _ (C.fn (hO _ ?_)) ?_; rotate_left; cbv) | (refine Named.len fun _ _ hq => ?_; (try simp only [List.length_append, List.length_take, List.length_drop, List.length_replicate, List.length_set] at hq); cbv) | (refine Named.mk fun _ _ => ?_; cbv) | (refine Br.t ?_ ?_; (focus first | assumption | lia); cbv) | (refine Br.f ?_ ?_; (focus first | assumption | lia); cbv) | (refine Br.mk (fun _ => ?_) (fun _ => ?_) <;> cbv) | (refine Need.mk ?_ ?_; rotate_left; cbv) | (refine RetThen.mk [] [] ?_; cbv))
    all_goals try first
      | (clear g4 hA hO hqq; lia)
      | decide
      | exact hqq _ _ (by assumption) (by assumption)
    all_goals
      clear hA hO hgo hp8 hF0
      refine LoopThen.mk (C.loopAt (ι := Nat × Nat × Nat × Nat × List Change) [(6, 6), (8, 10), (13, 18), (85, 214)] (fun y => [(6, .bool false), (8, .int .i64 0), (9, .ref 1408), (10, .int .i64 y.2.1), (13, .int .i64 y.2.2.1), (14, .int .i64 y.1), (64, .top), (70, .top), (82, .top)]) (fun y => [(1408, .arr 0 none 4 (O.o (Chs.enc O) y.2.2.2.2)), (576, .box (Feed.enc O (O.o flowS (y.2.2.2.1, y.2.2.1, y.2.2.2.2))))])
        (fun y => y.1 ≤ acts.length ∧ y.1 ≤ 60 ∧ y.2.1 ≤ keys.length ∧ y.2.2.2.2.length ≤ 8 + y.1 ∧ goodA y.2.2.2.2 ∧ y.2.2.2.1 ≤ y.2.2.1 ∧ y.2.2.1 ≤ y.2.2.2.2.length) (fun y => M - y.1) (by decide +kernel) (Start.mk (z, i, h, z, l) [] [] ⟨by show z ≤ _; omega, by show z ≤ 60; omega, g1, by show l.length ≤ 8 + z; omega, g4, by show z ≤ h; omega, hhl⟩ ?_) ?_)
      · cbv
        (repeat' apply And.intro) <;> first | exact True.intro | exact WkR.refl _ | exact (hqq _ _ (by assumption) (by assumption)).symm | (subst hz; first | rfl | exact WkR.refl _) | trace_state
      clear hqq hhl hh hlc g1 g2 g3 g4
      intro y g
      cbv
      obtain ⟨i1, k1, a1, b1, l1⟩ := y
      have g1 : i1 ≤ acts.length := g.1
      have g2 : i1 ≤ 60 := g.2.1
      have g3 : k1 ≤ keys.length := g.2.2.1
      have g4 : l1.length ≤ 8 + i1 := g.2.2.2.1
      have g5 : goodA l1 := g.2.2.2.2.1
      have g6 : b1 ≤ a1 := g.2.2.2.2.2.1
      have g7 : a1 ≤ l1.length := g.2.2.2.2.2.2
      clear g
      have hlc := Chs.len O l1
      by_cases hgo : i1 < acts.length ∧ i1 < 60
      · obtain ⟨hgo1, hgo2⟩ := hgo
        obtain ⟨c, hc⟩ : ∃ c, acts[i1]? = some c := ⟨acts[i1], by simp⟩
        have hcb := hab c (List.mem_of_getElem? hc)
        have hc4 : (Int.ofNat c).tmod 4 = ((c % 4 : Nat) : Int) := rfl
        obtain ⟨r, hr⟩ : ∃ r, r = c % 4 := ⟨_, rfl⟩
        rw [← hr] at hc4
        have hr4 : r < 4 := by omega
        by_cases h0 : r = 0
        · by_cases hv : ∃ kk, keys[k1]? = some kk ∧ 1 ≤ kk.size ∧ kk.size ≤ 64
          · obtain ⟨kk, hkk, hv1, hv2⟩ := hv
            have hk1 : k1 < keys.length := (List.getElem?_eq_some_iff.1 hkk).1
            have hik : isKey kk = true := by rw [isKey, decide_eq_true_eq]; exact ⟨hv1, hv2⟩
            have hsn := chs_snoc O l1 (l1.length + 1) kk true
            have hgd : goodA (l1 ++ [chK (l1.length + 1) kk true]) := goodA_snoc g5 rfl hik rfl
            have hL : (l1 ++ [chK (l1.length + 1) kk true]).length = l1.length + 1 := by simp
            have hadd : ∀ {v : Int}, v = l1.length + 1 → Fn prog 46 [.agg (Feed.enc O (O.o flowS (b1, a1, l1))), .sl true 2 false 4 [[.int .i64 v, .str kk, .bool true, .nils]]] [] [.agg (Feed.enc O (O.o flowS (b1, a1, l1 ++ [chK (l1.length + 1) kk true]))), .int .i64 0] [] := fun hv => by
              subst hv; exact addF_fn O g5 (by omega) g6 g7 rfl hik
            obtain ⟨L2, eL2⟩ : ∃ L, L = l1 ++ [chK (l1.length + 1) kk true] := ⟨_, rfl⟩
            rw [← eL2] at hsn hgd hL hadd
            clear hr
            (repeat' first | (refine Named.i64 ?_ fun _ _ => ?_; (focus lia); cbv) | (refine Ex.known O actR rfl hc ?_ ?_; (focus lia); cbv) | (refine Ex.known O strR rfl hkk ?_ ?_; (focus lia); cbv) | (refine CallThen.mk _ _ (C.fn (hadd ?_)) ?_; rotate_left; cbv) | (refine Back.to (i1 + 1, k1 + 1, a1, b1, L2) [(1408, .loc 12800)] [] ?_ fun _ _ => ?_; rotate_left; cbv) | (refine Named.len fun _ _ hq => ?_; (try simp only [List.length_append, List.length_take, List.length_drop, List.length_replicate, List.length_set] at hq); cbv) | (refine Named.mk fun _ _ => ?_; cbv) | (refine Br.t ?_ ?_; (focus first | assumption | lia); cbv) | (refine Br.f ?_ ?_; (focus first | assumption | lia); cbv) | (refine Br.mk (fun _ => ?_) (fun _ => ?_) <;> cbv) | (refine Need.mk ?_ ?_; rotate_left; cbv) | (refine RetThen.mk [] [] ?_; cbv))
            all_goals try first
              | decide
              | (simp only [List.length_cons, List.length_nil] at *; clear hc hkk hsn hgd hadd g5; lia)
              | exact ⟨⟨by dsimp only; omega, by dsimp only; omega, by dsimp only; omega, by dsimp only; omega, hgd, by dsimp only; omega, by dsimp only; omega⟩, by dsimp only; omega⟩
            all_goals
              rename_i v ev R eR n1 e1 n2 e2 y ey
              subst ey
              have ev2 : v = l1.length + 1 := by clear hc hkk hsn hgd hadd g5; lia
              refine ⟨by rw [eR, ev2]; exact hsn, ?_⟩
              (repeat' apply And.intro) <;> first | exact True.intro | exact WkR.refl _ | rfl | (dsimp only; clear hc hkk hsn hgd hadd g5; lia) | trace_state
          · have hnx : M - (i1 + 1) < M - i1 := by omega
            by_cases hk1 : k1 < keys.length
            · obtain ⟨kk, hkk⟩ : ∃ kk, keys[k1]? = some kk := ⟨keys[k1], by simp⟩
              have hv2 : ¬ (1 ≤ kk.size ∧ kk.size ≤ 64) := fun h => hv ⟨kk, hkk, h⟩
              clear hv hr
              (repeat' first | (refine Named.i64 ?_ fun _ _ => ?_; (focus lia); cbv) | (refine Ex.known O actR rfl hc ?_ ?_; (focus lia); cbv) | (refine Ex.known O strR rfl hkk ?_ ?_; (focus lia); cbv) | (refine Back.to (i1 + 1, k1, a1, b1, l1) [] [] ?_ fun _ _ => ?_; rotate_left; cbv) | (refine Named.len fun _ _ hq => ?_; (try simp only [List.length_append, List.length_take, List.length_drop, List.length_replicate, List.length_set] at hq); cbv) | (refine Named.mk fun _ _ => ?_; cbv) | (refine Br.t ?_ ?_; (focus first | assumption | lia); cbv) | (refine Br.f ?_ ?_; (focus first | assumption | lia); cbv) | (refine Br.mk (fun _ => ?_) (fun _ => ?_) <;> cbv) | (refine Need.mk ?_ ?_; rotate_left; cbv) | (refine RetThen.mk [] [] ?_; cbv))
              all_goals try first
                | decide
                | (clear hc hkk g5; lia)
                | exact ⟨⟨by dsimp only; omega, by dsimp only; omega, by dsimp only; omega, by dsimp only; omega, g5, by dsimp only; omega, by dsimp only; omega⟩, by dsimp only; omega⟩
              all_goals first
                | (rename_i y ey; subst ey; (repeat' apply And.intro) <;> first | exact True.intro | exact WkR.refl _ | rfl | (dsimp only; clear hc hkk g5; lia))
                | trace_state
            · clear hv hr
              (repeat' first | (refine Named.i64 ?_ fun _ _ => ?_; (focus lia); cbv) | (refine Ex.known O actR rfl hc ?_ ?_; (focus lia); cbv) | (refine Back.to (i1 + 1, k1, a1, b1, l1) [] [] ?_ fun _ _ => ?_; rotate_left; cbv) | (refine Named.len fun _ _ hq => ?_; (try simp only [List.length_append, List.length_take, List.length_drop, List.length_replicate, List.length_set] at hq); cbv) | (refine Named.mk fun _ _ => ?_; cbv) | (refine Br.t ?_ ?_; (focus first | assumption | lia); cbv) | (refine Br.f ?_ ?_; (focus first | assumption | lia); cbv) | (refine Br.mk (fun _ => ?_) (fun _ => ?_) <;> cbv) | (refine Need.mk ?_ ?_; rotate_left; cbv) | (refine RetThen.mk [] [] ?_; cbv))
              all_goals try first
                | decide
                | (clear hc g5; lia)
                | exact ⟨⟨by dsimp only; omega, by dsimp only; omega, by dsimp only; omega, by dsimp only; omega, g5, by dsimp only; omega, by dsimp only; omega⟩, by dsimp only; omega⟩
              all_goals first
                | (rename_i y ey; subst ey; (repeat' apply And.intro) <;> first | exact True.intro | exact WkR.refl _ | rfl | (dsimp only; clear hc g5; lia))
                | trace_state
        · by_cases h1 : r = 1
          · have htr : ∀ {q : Int}, q = c → Fn prog 54 [.agg (Feed.enc O (O.o flowS (b1, a1, l1))), .int .i64 q] [] [.agg (Feed.enc O (O.o flowS (newBase b1 a1 l1.length c, a1, l1))), .int .i64 0] [] := fun hq => by
              subst hq; exact trimF_fn O g5 (by omega) g6 g7 (by omega)
            have hnb : newBase b1 a1 l1.length c ≤ a1 := by rw [newBase]; omega
            obtain ⟨nb, hnbe⟩ : ∃ n, n = newBase b1 a1 l1.length c := ⟨_, rfl⟩
            rw [← hnbe] at htr hnb
            clear hr
            (repeat' first | (refine Named.i64 ?_ fun _ _ => ?_; (focus lia); cbv) | (refine Ex.known O actR rfl hc ?_ ?_; (focus lia); cbv) | (refine CallThen.mk _ _ (C.fn (htr ?_)) ?_; rotate_left; cbv) | (refine Back.to (i1 + 1, k1, a1, nb, l1) [] [] ?_ fun _ _ => ?_; rotate_left; cbv) | (refine Named.len fun _ _ hq => ?_; (try simp only [List.length_append, List.length_take, List.length_drop, List.length_replicate, List.length_set] at hq); cbv) | (refine Named.mk fun _ _ => ?_; cbv) | (refine Br.t ?_ ?_; (focus first | assumption | lia); cbv) | (refine Br.f ?_ ?_; (focus first | assumption | lia); cbv) | (refine Br.mk (fun _ => ?_) (fun _ => ?_) <;> cbv) | (refine Need.mk ?_ ?_; rotate_left; cbv) | (refine RetThen.mk [] [] ?_; cbv))
            all_goals try first
              | decide
              | (clear hc htr g5; lia)
              | exact ⟨⟨by dsimp only; omega, by dsimp only; omega, by dsimp only; omega, by dsimp only; omega, g5, by dsimp only; omega, by dsimp only; omega⟩, by dsimp only; omega⟩
            all_goals try (rename_i x e; exact e.trans (wrap_c hcb))
            all_goals first
              | (rename_i y ey; subst ey; (repeat' apply And.intro) <;> first | exact True.intro | exact WkR.refl _ | rfl | (dsimp only; clear hc htr g5; lia))
              | trace_state
          · obtain ⟨mm, hmm⟩ : ∃ n : Nat, n = 1 + c / 4 % 16 := ⟨_, rfl⟩
            have hrd : ∀ {m : Int}, m = mm → Fn prog 33 [.agg (Feed.enc O (O.o flowS (b1, a1, l1))), .str sS, .int .i64 m] [] [.sl false 0 false 4 (O.o (Chs.enc O) (O.o (partR a1 l1) mm)), .int .i64 a1, .int .i64 0] [] := fun hm => by
              subst hm; exact readF_fn O g5 (by omega) g6 g7 (by omega)
            have hRl : (O.o (partR a1 l1) mm).length = min mm (l1.length - a1) := by
              rw [O.h, partR, List.length_take, List.length_drop]; omega
            have hRe : O.o (Chs.enc O) (O.o (partR a1 l1) mm) = ((O.o (Chs.enc O) l1).drop a1).take mm := by
              simp only [O.h]; rw [partR, Chs.enc, List.map_take, List.map_drop]; rfl
            have hRd : ∀ x ∈ O.o (partR a1 l1) mm, x.doc.length ≤ 1099511627776 := fun x hx => by
              rw [O.h] at hx
              obtain ⟨j, hj, rfl⟩ := List.getElem_of_mem (List.mem_of_mem_drop (List.mem_of_mem_take hx))
              rw [(g5 j l1[j] (by simp)).2.2]; simp
            obtain ⟨R, eR⟩ : ∃ R, R = O.o (partR a1 l1) mm := ⟨_, rfl⟩
            rw [← eR] at hrd hRl hRe hRd
            have hRc := Chs.len O R
            have hnw : ∀ {rs : List (List PV)}, rs = O.o (Chs.enc O) R → Fn prog 38 [.sl false 0 false 4 (O.o (Chs.enc O) R), .sl true 0 false 4 rs] [] [.bool true] [] := fun h => by
              subst h
              have h := newsT_fn O R R (by omega) hRd
              rwa [show O.o sameC R R = true by rw [O.h]; exact sameC_iff.2 rfl] at h
            obtain ⟨a2, ha2⟩ : ∃ n : Nat, n = a1 + R.length := ⟨_, rfl⟩
            have hak : ∀ {q : Int}, q = a2 → Fn prog 55 [.agg (Feed.enc O (O.o flowS (b1, a1, l1))), .str sS, .int .i64 q] [] [.agg (Feed.enc O (O.o flowS (b1, a2, l1))), .int .i64 0] [] := fun hq => ackF_fn O g5 (by omega) g6 (by omega) (by omega) hq
            clear hRd eR hr
            by_cases h2 : r = 2
            · (repeat' first | (refine Named.i64 ?_ fun _ _ => ?_; (focus lia); cbv) | (refine Ex.known O actR rfl hc ?_ ?_; (focus lia); cbv) | (refine CallThen.mk _ _ (C.fn (hrd ?_)) ?_; rotate_left; cbv) | (refine CallThen.mk _ _ (C.fn (hnw ?_)) ?_; rotate_left; cbv) | (refine CallThen.mk _ _ (C.fn (hak ?_)) ?_; rotate_left; cbv) | (refine Back.to (i1 + 1, k1, a2, b1, l1) [] [] ?_ fun _ _ => ?_; rotate_left; cbv) | (refine Named.len fun _ _ hq => ?_; (try simp only [List.length_append, List.length_take, List.length_drop, List.length_replicate, List.length_set] at hq); cbv) | (refine Named.mk fun _ _ => ?_; cbv) | (refine Br.t ?_ ?_; (focus first | assumption | lia); cbv) | (refine Br.f ?_ ?_; (focus first | assumption | lia); cbv) | (refine Br.mk (fun _ => ?_) (fun _ => ?_) <;> cbv) | (refine Need.mk ?_ ?_; rotate_left; cbv) | (refine RetThen.mk [] [] ?_; cbv))
              all_goals try first
                | decide
                | (clear hc hrd hRe hnw hak g5; lia)
                | exact ⟨⟨by dsimp only; omega, by dsimp only; omega, by dsimp only; omega, by dsimp only; omega, g5, by dsimp only; omega, by dsimp only; omega⟩, by dsimp only; omega⟩
              all_goals try first
                | (rename_i w ew v ev u eu m em; rw [hmm]; exact mm_ok hcb ew ev eu em)
                | (rename_i n1 e1 n2 e2 d ed k ek RS eRS
                   have hk : k = min mm (l1.length - a1) := by clear hc hrd hRe hnw hak g5 eRS hq; lia
                   rw [eRS, hRe, ed, hk, List.take_eq_take_min (i := mm), List.length_drop, hlc]; rfl)
              all_goals first
                | (rename_i y ey; subst ey; (repeat' apply And.intro) <;> first | exact True.intro | exact WkR.refl _ | rfl | (dsimp only; clear hc hrd hRe hnw hak g5; lia))
                | trace_state
            · (repeat' first | (refine Named.i64 ?_ fun _ _ => ?_; (focus lia); cbv) | (refine Ex.known O actR rfl hc ?_ ?_; (focus lia); cbv) | (refine CallThen.mk _ _ (C.fn (hrd ?_)) ?_; rotate_left; cbv) | (refine CallThen.mk _ _ (C.fn (hnw ?_)) ?_; rotate_left; cbv) | (refine Back.to (i1 + 1, k1, a1, b1, l1) [] [] ?_ fun _ _ => ?_; rotate_left; cbv) | (refine Named.len fun _ _ hq => ?_; (try simp only [List.length_append, List.length_take, List.length_drop, List.length_replicate, List.length_set] at hq); cbv) | (refine Named.mk fun _ _ => ?_; cbv) | (refine Br.t ?_ ?_; (focus first | assumption | lia); cbv) | (refine Br.f ?_ ?_; (focus first | assumption | lia); cbv) | (refine Br.mk (fun _ => ?_) (fun _ => ?_) <;> cbv) | (refine Need.mk ?_ ?_; rotate_left; cbv) | (refine RetThen.mk [] [] ?_; cbv))
              all_goals try first
                | decide
                | (clear hc hrd hRe hnw hak g5; lia)
                | exact ⟨⟨by dsimp only; omega, by dsimp only; omega, by dsimp only; omega, by dsimp only; omega, g5, by dsimp only; omega, by dsimp only; omega⟩, by dsimp only; omega⟩
              all_goals try first
                | (rename_i w ew v ev u eu m em; rw [hmm]; exact mm_ok hcb ew ev eu em)
                | (rename_i n1 e1 n2 e2 d ed k ek RS eRS
                   have hk : k = min mm (l1.length - a1) := by clear hc hrd hRe hnw hak g5 eRS hq; lia
                   rw [eRS, hRe, ed, hk, List.take_eq_take_min (i := mm), List.length_drop, hlc]; rfl)
              all_goals first
                | (rename_i y ey; subst ey; (repeat' apply And.intro) <;> first | exact True.intro | exact WkR.refl _ | rfl | (dsimp only; clear hc hrd hRe hnw hak g5; lia))
                | trace_state
      · (repeat' first | (refine Named.i64 ?_ fun _ _ => ?_; (focus lia); cbv) | (refine CallThen.mk _ _ (C.fn (awakeF_fn O)) ?_; cbv) | (refine Named.len fun _ _ hq => ?_; (try simp only [List.length_append, List.length_take, List.length_drop, List.length_replicate, List.length_set] at hq); cbv) | (refine Named.mk fun _ _ => ?_; cbv) | (refine Br.t ?_ ?_; (focus first | assumption | lia); cbv) | (refine Br.f ?_ ?_; (focus first | assumption | lia); cbv) | (refine Br.mk (fun _ => ?_) (fun _ => ?_) <;> cbv) | (refine Need.mk ?_ ?_; rotate_left; cbv) | (refine RetThen.mk [] [] ?_; cbv))
        all_goals first
          | (clear g5; lia)
          | trace_state
end Go.Sym
