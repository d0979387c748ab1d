/- Feeds: which may be, and what comes of what is asked. -/
import Derived.Test.YtfenjmhhggekaaaDoorFeL
set_option linter.all false
set_option linter.unusedVariables false
set_option linter.unusedSimpArgs false
namespace Go.Sym
open Go
structure Change where
  pos : Int
  key : ByteArray
  has : Bool
  doc : Doc
structure Sub where
  name : ByteArray
  pos : Int
structure Feed where
  base : Int
  total : Int
  changes : List Change
  subs : List Sub
def Change.enc (O : Opq) (c : Change) : List PV := [.int .i64 c.pos, .str c.key, .bool c.has, .sl false 0 false 6 (O.o Doc.enc c.doc)]
def Chs.enc (O : Opq) (l : List Change) : List (List PV) := l.map (Change.enc O)
def Sub.enc (s : Sub) : List PV := [.str s.name, .int .i64 s.pos]
def Subs.enc : List Sub → List (List PV) := List.map Sub.enc
def Feed.encB (O : Opq) (b1 b2 : Bool) (f : Feed) : List PV := [.int .i64 f.base, .int .i64 f.total, .sl b1 0 false 4 (O.o (Chs.enc O) f.changes), .sl b2 0 false 2 (O.o Subs.enc f.subs)]
def Feed.enc (O : Opq) (f : Feed) : List PV := [.int .i64 f.base, .int .i64 f.total, .sl false 0 false 4 (O.o (Chs.enc O) f.changes), .sl false 0 false 2 (O.o Subs.enc f.subs)]
def zeroF : Feed := ⟨0, 0, [], []⟩
theorem Chs.enc_len (O : Opq) (l : List Change) : (Chs.enc O l).length = l.length := by simp [Chs.enc]
theorem Subs.enc_len (l : List Sub) : (Subs.enc l).length = l.length := by simp [Subs.enc]
theorem Chs.len (O : Opq) (l : List Change) : (O.o (Chs.enc O) l).length = l.length := by rw [O.h, Chs.enc_len]
theorem Subs.len (O : Opq) (l : List Sub) : (O.o Subs.enc l).length = l.length := by rw [O.h, Subs.enc_len]
def inC (c : Change) : Prop := -9223372036854775808 ≤ c.pos ∧ c.pos ≤ 9223372036854775807
/-! which may be -/
def okC (b : Int) (c : Change) (i : Nat) : Prop := c.pos = b + i + 1 ∧ isKey c.key = true ∧ may c.doc = true ∧ (c.has = true ∨ c.doc = [])
def okS (b t : Int) (l : List Sub) (s : Sub) (i : Nat) : Prop := isKey s.name = true ∧ b ≤ s.pos ∧ s.pos ≤ t ∧ (0 < i → ∃ g, l[i - 1]? = some g ∧ slt g.name s.name)
def headF (f : Feed) : Prop := 0 ≤ f.base ∧ f.base ≤ f.total ∧ f.total ≤ 2147483647 ∧ f.total - f.base = f.changes.length ∧ f.subs.length ≤ 8
def allC (f : Feed) (k : Nat) : Prop := ∀ i c, i < k → f.changes[i]? = some c → okC f.base c i
def allS (f : Feed) (k : Nat) : Prop := ∀ i s, i < k → f.subs[i]? = some s → okS f.base f.total f.subs s i
open Classical in
noncomputable def mayF (f : Feed) : Bool := decide (headF f ∧ allC f f.changes.length ∧ allS f f.subs.length)
noncomputable def feedErr (f : Feed) : Int := if mayF f = true then 0 else 1
theorem feedErr_zero {f : Feed} : feedErr f = 0 ↔ mayF f = true := by rw [feedErr]; split <;> simp_all
theorem feedErr_one {f : Feed} (h : mayF f = false) : feedErr f = 1 := by rw [feedErr, h]; rfl
theorem mayF_iff {f : Feed} : mayF f = true ↔ headF f ∧ allC f f.changes.length ∧ allS f f.subs.length := by simp [mayF]
theorem mayF_head {f : Feed} (h : ¬ headF f) : mayF f = false := by simp [mayF, h]
theorem mayF_badC {f : Feed} {i : Nat} {c : Change} (hx : f.changes[i]? = some c) (h : ¬ okC f.base c i) : mayF f = false := by
  simp only [mayF, decide_eq_false_iff_not]
  exact fun k => h (k.2.1 i c (List.getElem?_eq_some_iff.1 hx).1 hx)
theorem mayF_badS {f : Feed} {i : Nat} {s : Sub} (hx : f.subs[i]? = some s) (h : ¬ okS f.base f.total f.subs s i) : mayF f = false := by
  simp only [mayF, decide_eq_false_iff_not]
  exact fun k => h (k.2.2 i s (List.getElem?_eq_some_iff.1 hx).1 hx)
theorem allC_step {f : Feed} {k : Nat} {c : Change} (h : allC f k) (hx : f.changes[k]? = some c) (hc : okC f.base c k) : allC f (k + 1) := fun i x hi hy => by
  by_cases e : i = k
  · subst e; rw [hx] at hy; cases hy; exact hc
  · exact h i x (by omega) hy
theorem allS_step {f : Feed} {k : Nat} {c : Sub} (h : allS f k) (hx : f.subs[k]? = some c) (hc : okS f.base f.total f.subs c k) : allS f (k + 1) := fun i x hi hy => by
  by_cases e : i = k
  · subst e; rw [hx] at hy; cases hy; exact hc
  · exact h i x (by omega) hy
theorem allC_zero (f : Feed) : allC f 0 := fun i c hi => by omega
theorem allS_zero (f : Feed) : allS f 0 := fun i c hi => by omega
theorem mayF_subs {f : Feed} (h : mayF f = true) : sortedK Sub.name f.subs := by
  have h := (mayF_iff.1 h).2.2
  refine List.pairwise_iff_getElem.2 fun i j hi hj hij => ?_
  have step : ∀ n : Nat, ∀ k, i + 1 + n = k → ∀ hk : k < f.subs.length, slt f.subs[i].name f.subs[k].name := by
    intro n
    induction n with
    | zero =>
      intro k e hk
      subst e
      obtain ⟨g, hg, hs⟩ := (h (i + 1) f.subs[i + 1] hk (by simp)).2.2.2 (by omega)
      rw [show i + 1 - 1 = i by omega, List.getElem?_eq_getElem hi] at hg
      cases hg; exact hs
    | succ n ih =>
      intro k e hk
      have h1 := ih (k - 1) (by omega) (by omega)
      obtain ⟨g, hg, hs⟩ := (h k f.subs[k] hk (by simp)).2.2.2 (by omega)
      rw [List.getElem?_eq_getElem (by omega)] at hg
      cases hg
      exact slt_trans h1 hs
  exact step (j - i - 1) j (by omega) hj
theorem mayF_of {f : Feed} (h1 : headF f) (h2 : allC f f.changes.length) (h3 : ∀ s ∈ f.subs, isKey s.name = true ∧ f.base ≤ s.pos ∧ s.pos ≤ f.total) (h4 : sortedK Sub.name f.subs) : mayF f = true := by
  refine mayF_iff.2 ⟨h1, h2, fun i s hi hs => ?_⟩
  obtain ⟨a, b, c⟩ := h3 s (List.mem_of_getElem? hs)
  refine ⟨a, b, c, fun h0 => ⟨f.subs[i - 1], by simp, ?_⟩⟩
  exact sortedK_lt h4 (i := i - 1) (j := i) (by omega) (by simp) hs
theorem mayF_sub {f : Feed} (h : mayF f = true) : ∀ s ∈ f.subs, isKey s.name = true ∧ f.base ≤ s.pos ∧ s.pos ≤ f.total := fun s hs => by
  obtain ⟨i, hi, rfl⟩ := List.getElem_of_mem hs
  obtain ⟨a, b, c, _⟩ := (mayF_iff.1 h).2.2 i f.subs[i] hi (by simp)
  exact ⟨a, b, c⟩
theorem wrap_pos {p b k : Int} (hp : -9223372036854775808 ≤ p ∧ p ≤ 9223372036854775807) (hb : 0 ≤ b) (hb2 : b ≤ 2147483647) (hk : 0 ≤ k) (hk2 : k ≤ 1099511627777) : IntKind.i64.wrap (p - b) = k ↔ p = b + k := by
  unfold IntKind.wrap
  simp [IntKind.bits, IntKind.signed]
  omega
/-! what comes of what is asked -/
noncomputable def addF (f : Feed) (l : List Change) : Feed := ⟨f.base, f.total + l.length, f.changes ++ l, f.subs⟩
noncomputable def addR (f : Feed) (l : List Change) : Feed := if mayF f = true then (if mayF (addF f l) = true then addF f l else f) else zeroF
noncomputable def addE (f : Feed) (l : List Change) : Int := if mayF f = true ∧ mayF (addF f l) = true then 0 else 1
noncomputable def openE (f : Feed) (name : ByteArray) (pos : Int) : Int :=
  if mayF f = true then (if isKey name = true ∧ 0 ≤ pos ∧ pos ≤ f.total then (if getK Sub.name f.subs name = true then 11 else if f.subs.length = 8 then 2 else if pos < f.base then 8 else 0) else 1) else 1
noncomputable def openF (f : Feed) (name : ByteArray) (pos : Int) : Feed := ⟨f.base, f.total, f.changes, insKZ f.subs (posKZ Sub.name f.subs name) ⟨name, pos⟩⟩
noncomputable def openR (f : Feed) (name : ByteArray) (pos : Int) : Feed := if mayF f = true then (if openE f name pos = 0 then openF f name pos else f) else zeroF
noncomputable def subPos (f : Feed) (name : ByteArray) : Int := match f.subs[posK Sub.name f.subs name]? with
  | some s => s.pos
  | none => 0
noncomputable def ackE (f : Feed) (name : ByteArray) (pos : Int) : Int :=
  if mayF f = true then (if getK Sub.name f.subs name = true then (if f.total < pos then 1 else if pos < subPos f name then 8 else 0) else 4) else 1
noncomputable def ackF (f : Feed) (name : ByteArray) (pos : Int) : Feed := ⟨f.base, f.total, f.changes, f.subs.set (posKZ Sub.name f.subs name).toNat ⟨name, pos⟩⟩
noncomputable def ackR (f : Feed) (name : ByteArray) (pos : Int) : Feed := if mayF f = true then (if ackE f name pos = 0 then ackF f name pos else f) else zeroF
noncomputable def closeE (f : Feed) (name : ByteArray) : Int := if mayF f = true then (if getK Sub.name f.subs name = true then 0 else 4) else 1
noncomputable def closeF (f : Feed) (name : ByteArray) : Feed := ⟨f.base, f.total, f.changes, f.subs.eraseIdx (posKZ Sub.name f.subs name).toNat⟩
noncomputable def closeR (f : Feed) (name : ByteArray) : Feed := if mayF f = true then (if closeE f name = 0 then closeF f name else f) else zeroF
/-- the least of a place and of the subscriptions' -/
def lowS (p : Int) (l : List Sub) : Int := l.foldl (fun p s => min p s.pos) p
noncomputable def cutF (f : Feed) (p : Int) : Feed := if f.base < p then ⟨p, f.total, f.changes.drop (p - f.base).toNat, f.subs⟩ else f
noncomputable def trimR (f : Feed) (pos : Int) : Feed := if mayF f = true then cutF f (lowS (min pos f.total) f.subs) else zeroF
noncomputable def pullE (f : Feed) (at_ most : Int) : Int := if mayF f = true ∧ 1 ≤ most ∧ most ≤ 16 ∧ 0 ≤ at_ ∧ at_ ≤ f.total then (if at_ < f.base then 8 else 0) else 1
noncomputable def pullF (f : Feed) (at_ most : Int) : List Change := (f.changes.drop (at_ - f.base).toNat).take most.toNat
noncomputable def pullR (f : Feed) (at_ most : Int) : List Change := if pullE f at_ most = 0 then pullF f at_ most else []
noncomputable def readE (f : Feed) (name : ByteArray) (most : Int) : Int := if mayF f = true then (if getK Sub.name f.subs name = true then pullE f (subPos f name) most else 4) else 1
noncomputable def readR (f : Feed) (name : ByteArray) (most : Int) : List Change := if readE f name most = 0 then pullF f (subPos f name) most else []
noncomputable def readAt (f : Feed) (name : ByteArray) (most : Int) : Int := if readE f name most = 0 then subPos f name else 0
open Classical in
noncomputable def sameF (f g : Feed) : Bool := decide (f = g)
open Classical in
noncomputable def sameC (l m : List Change) : Bool := decide (l = m)
theorem pullE_bad {f : Feed} {a m : Int} (h : ¬ (mayF f = true ∧ 1 ≤ m ∧ m ≤ 16 ∧ 0 ≤ a ∧ a ≤ f.total)) : pullE f a m = 1 ∧ pullR f a m = [] := by
  have e : pullE f a m = 1 := by rw [pullE, if_neg h]
  exact ⟨e, by rw [pullR, e]; rfl⟩
theorem pullE_old {f : Feed} {a m : Int} (h : mayF f = true ∧ 1 ≤ m ∧ m ≤ 16 ∧ 0 ≤ a ∧ a ≤ f.total) (h2 : a < f.base) : pullE f a m = 8 ∧ pullR f a m = [] := by
  have e : pullE f a m = 8 := by rw [pullE, if_pos h, if_pos h2]
  exact ⟨e, by rw [pullR, e]; rfl⟩
theorem pullE_ok {f : Feed} {a m : Int} (h : mayF f = true ∧ 1 ≤ m ∧ m ≤ 16 ∧ 0 ≤ a ∧ a ≤ f.total) (h2 : ¬ a < f.base) : pullE f a m = 0 ∧ pullR f a m = pullF f a m := by
  have e : pullE f a m = 0 := by rw [pullE, if_pos h, if_neg h2]
  exact ⟨e, by rw [pullR, e]; rfl⟩
theorem Chs.enc_nil (O : Opq) : Chs.enc O [] = [] := rfl
theorem readE_bad {f : Feed} {n : ByteArray} {m : Int} (h : mayF f = false) : readE f n m = 1 ∧ readR f n m = [] ∧ readAt f n m = 0 := by
  have e : readE f n m = 1 := by rw [readE, h]; rfl
  exact ⟨e, by rw [readR, e]; rfl, by rw [readAt, e]; rfl⟩
theorem readE_none {f : Feed} {n : ByteArray} {m : Int} (h : mayF f = true) (h2 : getK Sub.name f.subs n = false) : readE f n m = 4 ∧ readR f n m = [] ∧ readAt f n m = 0 := by
  have e : readE f n m = 4 := by rw [readE, h, h2]; rfl
  exact ⟨e, by rw [readR, e]; rfl, by rw [readAt, e]; rfl⟩
theorem readE_at {f : Feed} {n : ByteArray} {m : Int} (h : mayF f = true) (h2 : getK Sub.name f.subs n = true) : readE f n m = pullE f (subPos f n) m ∧ readR f n m = pullR f (subPos f n) m ∧ readAt f n m = if pullE f (subPos f n) m = 0 then subPos f n else 0 := by
  have e : readE f n m = pullE f (subPos f n) m := by rw [readE, h, h2]; rfl
  exact ⟨e, by rw [readR, e]; rfl, by rw [readAt, e]⟩
theorem posKZ_nat {α : Type} {κ : α → ByteArray} {l : List α} {p : ByteArray} : (posKZ κ l p).toNat = posK κ l p := by simp [posKZ]
theorem subPos_at {f : Feed} {n : ByteArray} {s : Sub} (h : f.subs[posK Sub.name f.subs n]? = some s) : subPos f n = s.pos := by rw [subPos, h]
theorem pullF_enc (O : Opq) (f : Feed) (a m : Int) : O.o (Chs.enc O) (pullF f a m) = ((O.o (Chs.enc O) f.changes).drop (a - f.base).toNat).take m.toNat := by
  simp only [O.h]; rw [pullF, Chs.enc, List.map_take, List.map_drop]; rfl
theorem openE_bad {f : Feed} {n : ByteArray} {a : Int} (h : mayF f = false) : openE f n a = 1 ∧ openR f n a = zeroF := by
  exact ⟨by rw [openE, h]; rfl, by rw [openR, h]; rfl⟩
theorem openE_arg {f : Feed} {n : ByteArray} {a : Int} (h : mayF f = true) (h2 : ¬ (isKey n = true ∧ 0 ≤ a ∧ a ≤ f.total)) : openE f n a = 1 ∧ openR f n a = f := by
  have e : openE f n a = 1 := by rw [openE, if_pos h, if_neg h2]
  exact ⟨e, by rw [openR, if_pos h, e]; rfl⟩
theorem openE_same {f : Feed} {n : ByteArray} {a : Int} (h : mayF f = true) (h2 : isKey n = true ∧ 0 ≤ a ∧ a ≤ f.total) (h3 : getK Sub.name f.subs n = true) : openE f n a = 11 ∧ openR f n a = f := by
  have e : openE f n a = 11 := by rw [openE, if_pos h, if_pos h2, if_pos h3]
  exact ⟨e, by rw [openR, if_pos h, e]; rfl⟩
theorem openE_full {f : Feed} {n : ByteArray} {a : Int} (h : mayF f = true) (h2 : isKey n = true ∧ 0 ≤ a ∧ a ≤ f.total) (h3 : getK Sub.name f.subs n = false) (h4 : f.subs.length = 8) : openE f n a = 2 ∧ openR f n a = f := by
  have e : openE f n a = 2 := by rw [openE, if_pos h, if_pos h2, if_neg (by simp [h3]), if_pos h4]
  exact ⟨e, by rw [openR, if_pos h, e]; rfl⟩
theorem openE_old {f : Feed} {n : ByteArray} {a : Int} (h : mayF f = true) (h2 : isKey n = true ∧ 0 ≤ a ∧ a ≤ f.total) (h3 : getK Sub.name f.subs n = false) (h4 : f.subs.length ≠ 8) (h5 : a < f.base) : openE f n a = 8 ∧ openR f n a = f := by
  have e : openE f n a = 8 := by rw [openE, if_pos h, if_pos h2, if_neg (by simp [h3]), if_neg h4, if_pos h5]
  exact ⟨e, by rw [openR, if_pos h, e]; rfl⟩
theorem openE_ok {f : Feed} {n : ByteArray} {a : Int} (h : mayF f = true) (h2 : isKey n = true ∧ 0 ≤ a ∧ a ≤ f.total) (h3 : getK Sub.name f.subs n = false) (h4 : f.subs.length ≠ 8) (h5 : ¬ a < f.base) : openE f n a = 0 ∧ openR f n a = openF f n a := by
  have e : openE f n a = 0 := by rw [openE, if_pos h, if_pos h2, if_neg (by simp [h3]), if_neg h4, if_neg h5]
  exact ⟨e, by rw [openR, if_pos h, e]; rfl⟩
theorem ackE_bad {f : Feed} {n : ByteArray} {a : Int} (h : mayF f = false) : ackE f n a = 1 ∧ ackR f n a = zeroF := by
  exact ⟨by rw [ackE, h]; rfl, by rw [ackR, h]; rfl⟩
theorem ackE_none {f : Feed} {n : ByteArray} {a : Int} (h : mayF f = true) (h3 : getK Sub.name f.subs n = false) : ackE f n a = 4 ∧ ackR f n a = f := by
  have e : ackE f n a = 4 := by rw [ackE, if_pos h, if_neg (by simp [h3])]
  exact ⟨e, by rw [ackR, if_pos h, e]; rfl⟩
theorem ackE_arg {f : Feed} {n : ByteArray} {a : Int} (h : mayF f = true) (h3 : getK Sub.name f.subs n = true) (h4 : f.total < a) : ackE f n a = 1 ∧ ackR f n a = f := by
  have e : ackE f n a = 1 := by rw [ackE, if_pos h, if_pos h3, if_pos h4]
  exact ⟨e, by rw [ackR, if_pos h, e]; rfl⟩
theorem ackE_old {f : Feed} {n : ByteArray} {a : Int} (h : mayF f = true) (h3 : getK Sub.name f.subs n = true) (h4 : ¬ f.total < a) (h5 : a < subPos f n) : ackE f n a = 8 ∧ ackR f n a = f := by
  have e : ackE f n a = 8 := by rw [ackE, if_pos h, if_pos h3, if_neg h4, if_pos h5]
  exact ⟨e, by rw [ackR, if_pos h, e]; rfl⟩
theorem ackE_ok {f : Feed} {n : ByteArray} {a : Int} (h : mayF f = true) (h3 : getK Sub.name f.subs n = true) (h4 : ¬ f.total < a) (h5 : ¬ a < subPos f n) : ackE f n a = 0 ∧ ackR f n a = ackF f n a := by
  have e : ackE f n a = 0 := by rw [ackE, if_pos h, if_pos h3, if_neg h4, if_neg h5]
  exact ⟨e, by rw [ackR, if_pos h, e]; rfl⟩
theorem closeE_bad {f : Feed} {n : ByteArray} (h : mayF f = false) : closeE f n = 1 ∧ closeR f n = zeroF := by
  exact ⟨by rw [closeE, h]; rfl, by rw [closeR, h]; rfl⟩
theorem closeE_none {f : Feed} {n : ByteArray} (h : mayF f = true) (h3 : getK Sub.name f.subs n = false) : closeE f n = 4 ∧ closeR f n = f := by
  have e : closeE f n = 4 := by rw [closeE, if_pos h, if_neg (by simp [h3])]
  exact ⟨e, by rw [closeR, if_pos h, e]; rfl⟩
theorem closeE_ok {f : Feed} {n : ByteArray} (h : mayF f = true) (h3 : getK Sub.name f.subs n = true) : closeE f n = 0 ∧ closeR f n = closeF f n := by
  have e : closeE f n = 0 := by rw [closeE, if_pos h, if_pos h3]
  exact ⟨e, by rw [closeR, if_pos h, e]; rfl⟩
theorem addE_bad {f : Feed} {l : List Change} (h : mayF f = false) : addE f l = 1 ∧ addR f l = zeroF := by
  exact ⟨by rw [addE, if_neg (by simp [h])], by rw [addR, h]; rfl⟩
theorem addE_no {f : Feed} {l : List Change} (h : mayF f = true) (h2 : mayF (addF f l) = false) : addE f l = 1 ∧ addR f l = f := by
  exact ⟨by rw [addE, if_neg (by simp [h2])], by rw [addR, if_pos h, h2]; rfl⟩
theorem addE_ok {f : Feed} {l : List Change} (h : mayF f = true) (h2 : mayF (addF f l) = true) : addE f l = 0 ∧ addR f l = addF f l := by
  exact ⟨by rw [addE, if_pos ⟨h, h2⟩], by rw [addR, if_pos h, if_pos h2]⟩
end Go.Sym
