/- A subscription's flow: feeds of a known past. -/
import Derived.Test.YtfenjmhhggekaaaDoorFeD
set_option linter.all false
set_option linter.unusedVariables false
set_option linter.unusedSimpArgs false
namespace Go.Sym
open Go
def sS : ByteArray := ⟨#[115]⟩
def goodA (l : List Change) : Prop := ∀ (i : Nat) c, l[i]? = some c → c.pos = i + 1 ∧ isKey c.key = true ∧ c.doc = []
def flow (base at_ : Nat) (l : List Change) : Feed := ⟨base, l.length, l.drop base, [⟨sS, at_⟩]⟩
theorem goodA_nil : goodA [] := fun i c h => by simp at h
theorem goodA_snoc {l : List Change} {c : Change} (h : goodA l) (h1 : c.pos = l.length + 1) (h2 : isKey c.key = true) (h3 : c.doc = []) : goodA (l ++ [c]) := fun i x hx => by
  by_cases hi : i < l.length
  · rw [List.getElem?_append_left hi] at hx; exact h i x hx
  · rw [List.getElem?_append_right (by omega)] at hx
    have : i - l.length = 0 := by have := (List.getElem?_eq_some_iff.1 hx).1; simp at this; omega
    rw [this] at hx
    simp at hx
    subst hx
    exact ⟨by rw [h1]; omega, h2, h3⟩
theorem good_allC {l : List Change} (h : goodA l) (base : Nat) (f : Feed) (hb : f.base = base) (hc : f.changes = l.drop base) (n : Nat) : allC f n := fun i c _ hx => by
  rw [hc, List.getElem?_drop] at hx
  obtain ⟨a, b, d⟩ := h _ c hx
  exact ⟨by rw [hb, a]; omega, b, by rw [d]; exact may_nil, .inr d⟩
theorem flow_may {base at_ : Nat} {l : List Change} (h : goodA l) (h1 : base ≤ at_) (h2 : at_ ≤ l.length) (h3 : l.length ≤ 2147483647) : mayF (flow base at_ l) = true := by
  refine mayF_of ⟨?_, ?_, ?_, ?_, ?_⟩ (good_allC h base _ rfl rfl _) (fun s hs => ?_) (List.pairwise_singleton _ _)
  · show (0 : Int) ≤ base; omega
  · show (base : Int) ≤ l.length; omega
  · show (l.length : Int) ≤ _; omega
  · show (l.length : Int) - base = (l.drop base).length; rw [List.length_drop]; omega
  · show 1 ≤ 8; omega
  · simp [flow] at hs
    subst hs
    exact ⟨(by decide : isKey sS = true), by show (base : Int) ≤ at_; omega, by show (at_ : Int) ≤ l.length; omega⟩
/-- the first changes of a feed -/
theorem first_add {l : List Change} (h : goodA l) (h3 : l.length ≤ 2147483647) : addE zeroF l = 0 ∧ addR zeroF l = ⟨0, l.length, l, []⟩ := by
  have e : addF zeroF l = ⟨0, l.length, l, []⟩ := by simp [addF, zeroF]
  have hm : mayF (addF zeroF l) = true := by
    rw [e]
    exact mayF_of ⟨by simp, by simp, by show (l.length : Int) ≤ _; omega, by simp, by simp⟩ (good_allC h 0 _ rfl rfl _) (by simp) List.Pairwise.nil
  have := addE_ok may_zeroF hm
  rw [e] at this; exact this
theorem first_may {l : List Change} (h : goodA l) (h3 : l.length ≤ 2147483647) : mayF ⟨0, l.length, l, []⟩ = true :=
  mayF_of ⟨by simp, by simp, by show (l.length : Int) ≤ _; omega, by simp, by simp⟩ (good_allC h 0 _ rfl rfl _) (by simp) List.Pairwise.nil
theorem first_open {l : List Change} (h : goodA l) (h3 : l.length ≤ 2147483647) {a : Nat} (ha : a ≤ l.length) : openE ⟨0, l.length, l, []⟩ sS a = 0 ∧ openR ⟨0, l.length, l, []⟩ sS a = flow 0 a l := by
  have := openE_ok (first_may h h3) (n := sS) (a := (a : Int)) ⟨by decide, by omega, by show (a : Int) ≤ l.length; omega⟩ (by simp [getK]) (by simp) (by show ¬ (a : Int) < 0; omega)
  refine ⟨this.1, ?_⟩
  rw [this.2]
  simp [openF, flow, insKZ, insK]
theorem flow_add {base at_ : Nat} {l : List Change} {c : Change} (h : goodA (l ++ [c])) (h1 : base ≤ at_) (h2 : at_ ≤ l.length) (h3 : l.length + 1 ≤ 2147483647) : addE (flow base at_ l) [c] = 0 ∧ addR (flow base at_ l) [c] = flow base at_ (l ++ [c]) := by
  have hg : goodA l := fun i x hx => h i x (by rw [List.getElem?_append_left (List.getElem?_eq_some_iff.1 hx).1]; exact hx)
  have e : addF (flow base at_ l) [c] = flow base at_ (l ++ [c]) := by
    simp only [addF, flow, List.length_append, List.length_singleton]
    rw [List.drop_append_of_le_length (by omega)]
    congr 1
  have := addE_ok (flow_may hg h1 h2 (by omega)) (l := [c]) (by rw [e]; exact flow_may h h1 (by simp; omega) (by simp; omega))
  rw [e] at this; exact this
def newBase (base at_ n : Nat) (p : Int) : Nat := max base (min (min p n) at_).toNat
theorem flow_trim {base at_ : Nat} {l : List Change} {p : Int} (h : goodA l) (h1 : base ≤ at_) (h2 : at_ ≤ l.length) (h3 : l.length ≤ 2147483647) (hp : 0 ≤ p) : trimR (flow base at_ l) p = flow (newBase base at_ l.length p) at_ l ∧ newBase base at_ l.length p ≤ at_ := by
  refine ⟨?_, by rw [newBase]; omega⟩
  rw [trimR, if_pos (flow_may h h1 h2 h3)]
  have e : lowS (min p (flow base at_ l).total) (flow base at_ l).subs = min (min p l.length) at_ := rfl
  rw [e, cutF]
  split
  · rename_i hb
    have hb : (base : Int) < min (min p l.length) at_ := hb
    have en : newBase base at_ l.length p = (min (min p l.length) at_).toNat := by rw [newBase]; omega
    rw [en]
    simp only [flow, List.drop_drop]
    congr 1
    · omega
    · congr 1; omega
  · rename_i hb
    have hb : ¬ (base : Int) < min (min p l.length) at_ := hb
    have en : newBase base at_ l.length p = base := by rw [newBase]; omega
    rw [en]
theorem flow_getK (base at_ : Nat) (l : List Change) : getK Sub.name (flow base at_ l).subs sS = true := by simp [flow, getK, hasK]
theorem flow_pos (base at_ : Nat) (l : List Change) : (flow base at_ l).subs[posK Sub.name (flow base at_ l).subs sS]? = some ⟨sS, at_⟩ := by
  obtain ⟨x, hx, hn⟩ := posK_there (κ := Sub.name) (d := (flow base at_ l).subs) (p := sS) (List.pairwise_singleton _ _) (flow_getK base at_ l)
  have := List.mem_of_getElem? hx
  simp [flow] at this
  rw [hx, this]
theorem flow_subPos (base at_ : Nat) (l : List Change) : subPos (flow base at_ l) sS = at_ := by rw [subPos_at (flow_pos base at_ l)]
theorem flow_read {base at_ : Nat} {l : List Change} {m : Int} (h : goodA l) (h1 : base ≤ at_) (h2 : at_ ≤ l.length) (h3 : l.length ≤ 2147483647) (hm : 1 ≤ m) (hm2 : m ≤ 16) :
    readE (flow base at_ l) sS m = 0 ∧ readR (flow base at_ l) sS m = (l.drop at_).take m.toNat ∧ readAt (flow base at_ l) sS m = at_ := by
  obtain ⟨a, b, c⟩ := readE_at (m := m) (flow_may h h1 h2 h3) (flow_getK base at_ l)
  rw [flow_subPos] at a b c
  obtain ⟨d, e⟩ := pullE_ok (f := flow base at_ l) (a := (at_ : Int)) (m := m) ⟨flow_may h h1 h2 h3, hm, hm2, by omega, by show (at_ : Int) ≤ l.length; omega⟩ (by show ¬ (at_ : Int) < base; omega)
  rw [d] at a c
  rw [e] at b
  refine ⟨a, ?_, c⟩
  rw [b, pullF]
  have : (flow base at_ l).changes.drop ((at_ : Int) - (flow base at_ l).base).toNat = l.drop at_ := by
    simp only [flow, List.drop_drop]; congr 1; omega
  rw [this]
theorem flow_ack {base at_ a2 : Nat} {l : List Change} (h : goodA l) (h1 : base ≤ at_) (h2 : at_ ≤ a2) (h4 : a2 ≤ l.length) (h3 : l.length ≤ 2147483647) : ackE (flow base at_ l) sS a2 = 0 ∧ ackR (flow base at_ l) sS a2 = flow base a2 l := by
  have hm := flow_may h h1 (by omega) h3
  have := ackE_ok (a := (a2 : Int)) hm (flow_getK base at_ l) (by show ¬ (l.length : Int) < a2; omega) (by rw [flow_subPos]; omega)
  refine ⟨this.1, ?_⟩
  rw [this.2, ackF, posKZ_nat]
  have hp := flow_pos base at_ l
  have hlt := (List.getElem?_eq_some_iff.1 hp).1
  have h0 : posK Sub.name (flow base at_ l).subs sS = 0 := by simp [flow] at hlt; exact hlt
  rw [h0]; rfl
end Go.Sym
