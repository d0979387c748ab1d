/- Documents: what is done with them. -/
import Derived.Test.YtdbpdcnpolaojaaPa1
set_option linter.all false
set_option linter.unusedVariables false
set_option linter.unusedSimpArgs false
namespace Go.Sym
open Go
open Classical in
/-- documents are alike -/
noncomputable def sameDoc (d e : Doc) : Bool := decide (d = e)
theorem sameDoc_len {d e : Doc} (h : d.length ≠ e.length) : sameDoc d e = false := by
  simp only [sameDoc, decide_eq_false_iff_not]; rintro rfl; exact h rfl
theorem sameDoc_at {d e : Doc} {k : Nat} (h : d[k]? ≠ e[k]?) : sameDoc d e = false := by
  simp only [sameDoc, decide_eq_false_iff_not]; rintro rfl; exact h rfl
theorem sameDoc_all {d e : Doc} (hl : d.length = e.length) (h : ∀ j, j < d.length → d[j]? = e[j]?) : sameDoc d e = true := by
  simp only [sameDoc, decide_eq_true_eq]
  apply List.ext_getElem? 
  intro j
  by_cases hj : j < d.length
  · exact h j hj
  · rw [List.getElem?_eq_none (by omega), List.getElem?_eq_none (by omega)]
theorem sameDoc_iff {d e : Doc} : sameDoc d e = true ↔ d = e := by simp [sameDoc]
theorem fieldCells {x y : Field} : ([PV.str x.path, PV.int IntKind.i64 x.val.kind, PV.int IntKind.i64 x.val.num, PV.str x.val.text, PV.int IntKind.i64 x.val.re, PV.int IntKind.i64 x.val.im] = [PV.str y.path, PV.int IntKind.i64 y.val.kind, PV.int IntKind.i64 y.val.num, PV.str y.val.text, PV.int IntKind.i64 y.val.re, PV.int IntKind.i64 y.val.im]) ↔ x = y := Field.enc_inj
theorem below_step {P : Nat → Prop} {k : Nat} (h : ∀ j, j < k → P j) (hk : P k) : ∀ j, j < k + 1 → P j := fun j hj => by
  by_cases e : j = k
  · subst e; exact hk
  · exact h j (by omega)
theorem srch_step {α : Type} {p : α → Bool} {l : List α} {k : Nat} {x : α} (h : ∀ (j : Nat) y, j < k → l[j]? = some y → p y = false) (hx : l[k]? = some x) (hp : p x = false) : ∀ (j : Nat) y, j < k + 1 → l[j]? = some y → p y = false := fun j y hj hy => by
  by_cases e : j = k
  · subst e; rw [hx] at hy; cases hy; exact hp
  · exact h j y (by omega) hy
def hasP (p : ByteArray) (f : Field) : Bool := decide (f.path = p)
def zeroV : Val := ⟨0, 0, ByteArray.empty, 0, 0⟩
def getI (d : Doc) (p : ByteArray) : Int := findI (hasP p) d
def getB (d : Doc) (p : ByteArray) : Bool := d.any (hasP p)
def getV (d : Doc) (p : ByteArray) : Val := ((d.find? (hasP p)).map Field.val).getD zeroV
theorem find_at {α : Type} {p : α → Bool} {l : List α} {k : Nat} (h : findI p l = k) : l.find? p = l[k]? := by
  have hk : 0 ≤ findI p l := by omega
  have ha := findI_ge.1 hk
  obtain ⟨x, hx, hp⟩ := findI_lt hk
  rw [findI, if_pos ha] at h
  have hkk : l.findIdx p = k := by omega
  have hlt : l.findIdx p < l.length := List.findIdx_lt_length_of_exists (by simpa using ha)
  subst hkk
  rw [List.find?_eq_some_iff_getElem.2 ⟨List.findIdx_getElem (w := hlt), l.findIdx p, hlt, rfl, fun j hj => by simpa using List.not_of_lt_findIdx hj⟩]
  simp [hlt]
theorem getV_at {d : Doc} {p : ByteArray} {x : Field} (h : 0 ≤ getI d p) (hx : d[(getI d p).toNat]? = some x) : getV d p = x.val := by
  obtain ⟨k, hk⟩ := Int.eq_ofNat_of_zero_le h
  rw [getV, find_at (l := d) (p := hasP p) (k := k) hk]
  rw [hk, Int.toNat_natCast] at hx
  rw [hx]; rfl
theorem getV_none {d : Doc} {p : ByteArray} (h : getI d p < 0) : getV d p = zeroV := by
  have : d.any (hasP p) = false := by
    cases hh : d.any (hasP p) with
    | false => rfl
    | true => have := findI_ge.2 hh; unfold getI at h; omega
  rw [getV, List.find?_eq_none.2 (by simpa using this)]; rfl
theorem getB_iff {d : Doc} {p : ByteArray} : getB d p = true ↔ 0 ≤ getI d p := findI_ge.symm
open Classical in
/-- where a path stands, or would -/
noncomputable def posI (d : Doc) (p : ByteArray) : Nat := d.findIdx fun f => decide (¬ slt f.path p)
noncomputable def posZ (d : Doc) (p : ByteArray) : Int := posI d p
def cmpS (a b : ByteArray) : Int := Lib.compareBytes a.data.toList b.data.toList
theorem compareBytes_lt : ∀ (x y : List UInt8), (Lib.compareBytes x y < 0 ↔ x < y) ∧ (Lib.compareBytes x y = 0 ↔ x = y)
  | [], [] => by simp [Lib.compareBytes]
  | [], _ :: _ => by simp [Lib.compareBytes]
  | _ :: _, [] => by simp [Lib.compareBytes]
  | a :: x, b :: y => by
    have ih := compareBytes_lt x y
    simp only [Lib.compareBytes, List.cons_lt_cons_iff, List.cons.injEq]
    split
    · rename_i h; simp [h]; intro e; subst e; exact absurd h (UInt8.lt_irrefl _)
    · rename_i h
      split
      · rename_i h'; have hne : a ≠ b := fun e => by subst e; exact h h'
        simp [h, hne]
      · rename_i h'
        have e : a = b := UInt8.le_antisymm (UInt8.not_lt.1 h') (UInt8.not_lt.1 h)
        subst e
        simp [h, ih.1, ih.2]
theorem cmpS_lt {a b : ByteArray} : cmpS a b < 0 ↔ slt a b := by rw [cmpS, (compareBytes_lt _ _).1, slt_iff, Lib.toList_data, Lib.toList_data]
theorem cmpS_eq {a b : ByteArray} : cmpS a b = 0 ↔ a = b := by
  rw [cmpS, (compareBytes_lt _ _).2]
  constructor
  · intro h; cases a; cases b; simp only [Array.toList_inj] at h; rw [h]
  · rintro rfl; rfl
/-- by rising path -/
def sorted (d : Doc) : Prop := ∀ (i j : Nat) x y, i < j → d[i]? = some x → d[j]? = some y → slt x.path y.path
theorem posZ_at {d : Doc} {p : ByteArray} {k : Int} (h0 : 0 ≤ k) (h1 : k ≤ d.length) (h4 : ∀ (j : Nat) y, j < k → d[j]? = some y → slt y.path p) (h5 : ∀ (j : Nat) y, k ≤ j → d[j]? = some y → ¬ slt y.path p) : posZ d p = k := by
  obtain ⟨n, rfl⟩ := Int.eq_ofNat_of_zero_le h0
  have : posI d p = n := by
    by_cases hn : n < d.length
    · refine (List.findIdx_eq hn).2 ⟨by simpa using h5 n _ (by omega) (by simp [hn]), fun j hj => ?_⟩
      have := h4 j d[j] (by omega) (by simp)
      simpa using this
    · have hn : n = d.length := by omega
      subst hn
      refine List.findIdx_eq_length.2 fun x hx => ?_
      obtain ⟨j, hj, rfl⟩ := List.getElem_of_mem hx
      have := h4 j d[j] (by omega) (by simp [hj])
      simpa using this
  rw [posZ, this]
theorem getB_at {d : Doc} {p : ByteArray} {k : Int} {x : Field} (h0 : 0 ≤ k) (hx : d[k.toNat]? = some x) (hs : sorted d) (h4 : ∀ (j : Nat) y, j < k → d[j]? = some y → slt y.path p) (h5 : ∀ (j : Nat) y, k ≤ j → d[j]? = some y → ¬ slt y.path p) : getB d p = true ↔ x.path = p := by
  constructor
  · intro h
    obtain ⟨y, hy, hp⟩ := List.any_eq_true.1 h
    simp only [hasP, decide_eq_true_eq] at hp
    obtain ⟨j, hj, rfl⟩ := List.getElem_of_mem hy
    have hy' : d[j]? = some d[j] := by simp [hj]
    by_cases h1 : (j : Int) < k
    · exact absurd (h4 j _ h1 hy') (by rw [hp]; exact slt_irrefl p)
    · by_cases h2 : j = k.toNat
      · subst h2; rw [hy'] at hx; cases hx; exact hp
      · have := hs k.toNat j x d[j] (by omega) hx hy'
        rw [hp] at this
        exact absurd this (h5 k.toNat x (by omega) hx)
  · intro h
    exact List.any_eq_true.2 ⟨x, List.mem_of_getElem? hx, by simp [hasP, h]⟩
theorem getB_end {d : Doc} {p : ByteArray} {k : Int} (hk : (d.length : Int) ≤ k) (h4 : ∀ (j : Nat) y, j < k → d[j]? = some y → slt y.path p) : getB d p = false := by
  cases h : getB d p with
  | false => rfl
  | true =>
    obtain ⟨y, hy, hp⟩ := List.any_eq_true.1 h
    simp only [hasP, decide_eq_true_eq] at hp
    obtain ⟨j, hj, rfl⟩ := List.getElem_of_mem hy
    have := h4 j d[j] (by omega) (by simp [hj])
    rw [hp] at this
    exact absurd this (slt_irrefl p)
theorem bs_lo {d : Doc} {p : ByteArray} {m : Int} {x : Field} (hs : sorted d) (h0 : 0 ≤ m) (hx : d[m.toNat]? = some x) (hc : slt x.path p) : ∀ (j : Nat) y, (j : Int) < m + 1 → d[j]? = some y → slt y.path p := fun j y hj hy => by
  by_cases e : j = m.toNat
  · subst e; rw [hx] at hy; cases hy; exact hc
  · exact slt_trans (hs j m.toNat y x (by omega) hy hx) hc
theorem bs_hi {d : Doc} {p : ByteArray} {m : Int} {x : Field} (hs : sorted d) (h0 : 0 ≤ m) (hx : d[m.toNat]? = some x) (hc : ¬ slt x.path p) : ∀ (j : Nat) y, m ≤ (j : Int) → d[j]? = some y → ¬ slt y.path p := fun j y hj hy k => by
  by_cases e : j = m.toNat
  · subst e; rw [hx] at hy; cases hy; exact hc k
  · exact hc (slt_trans (hs m.toNat j x y (by omega) hx hy) k)
def cmpF (f : Field) (p : ByteArray) : Int := cmpS f.path p
theorem cmpF_lt {f : Field} {p : ByteArray} : cmpF f p < 0 ↔ slt f.path p := cmpS_lt
theorem cmpF_eq {f : Field} {p : ByteArray} : cmpF f p = 0 ↔ f.path = p := cmpS_eq
def insAt (d : Doc) (i : Nat) (f : Field) : Doc := d.take i ++ f :: d.drop i
noncomputable def setDoc (d : Doc) (p : ByteArray) (v : Val) : Doc := if getB d p = true then d.set (posI d p) ⟨p, v⟩ else insAt d (posI d p) ⟨p, v⟩
theorem ins2 {α : Type} {R v Z : List α} {i n : Nat} (hR : R.length = n) (hi : i < n) (hv : v.length = 1) (hZ : Z.length = n + 1 - i) {r1 r2 r3 : List α} (e1 : r1 = R.take i ++ Z)
    (e2 : r2 = r1.take i ++ v.take (n + 1 - i) ++ r1.drop (i + 1)) (e3 : r3 = r2.take (i + 1) ++ (R.drop i).take (n - i) ++ r2.drop (n + 1)) : r3 = R.take i ++ v ++ R.drop i := by
  have l1 : (R.take i).length = i := by simp; omega
  have a1 : r1.take i = R.take i := by rw [e1, List.take_left' l1]
  have a2 : v.take (n + 1 - i) = v := List.take_of_length_le (by omega)
  have l2 : (R.take i ++ v).length = i + 1 := by rw [List.length_append, l1, hv]
  have hr1 : r1.length = n + 1 := by rw [e1, List.length_append, l1, hZ]; omega
  rw [a1, a2] at e2
  have a3 : r2.take (i + 1) = R.take i ++ v := by rw [e2, List.take_left' l2]
  have hr2 : r2.length = n + 1 := by rw [e2, List.length_append, l2, List.length_drop, hr1]; omega
  have c1 : (R.drop i).take (n - i) = R.drop i := List.take_of_length_le (by simp; omega)
  have c2 : r2.drop (n + 1) = [] := List.drop_of_length_le (by omega)
  rw [e3, a3, c1, c2, List.append_nil]
theorem ins3 {α : Type} {R v Z : List α} {i n : Nat} (hR : R.length = n) (hi : i < n) (hv : v.length = 1) (hZ : Z.length = 1) {r1 r2 r3 : List α} (e1 : r1 = R ++ Z)
    (e2 : r2 = r1.take (i + 1) ++ ((r1.drop i).take (n + 1 - i)).take (n - i) ++ r1.drop (n + 1)) (e3 : r3 = r2.take i ++ v.take (n + 1 - i) ++ r2.drop (i + 1)) : r3 = R.take i ++ v ++ R.drop i := by
  have hr1 : r1.length = n + 1 := by rw [e1, List.length_append, hR, hZ]
  have a1 : ((r1.drop i).take (n + 1 - i)).take (n - i) = R.drop i := by
    rw [List.take_take, e1, List.drop_append_of_le_length (by omega), show min (n - i) (n + 1 - i) = n - i by omega, List.take_left' (by simp; omega)]
  have a2 : r1.take (i + 1) = R.take (i + 1) := by rw [e1, List.take_append_of_le_length (by omega)]
  have a3 : r1.drop (n + 1) = [] := List.drop_of_length_le (by omega)
  rw [a1, a2, a3, List.append_nil] at e2
  have l3 : (R.take (i + 1)).length = i + 1 := by simp; omega
  have b1 : r2.take i = R.take i := by
    rw [e2, List.take_append_of_le_length (by omega), List.take_take, show min i (i + 1) = i by omega]
  have b2 : r2.drop (i + 1) = R.drop i := by rw [e2, List.drop_left' l3]
  have c1 : v.take (n + 1 - i) = v := List.take_of_length_le (by omega)
  rw [e3, b1, b2, c1]
/-- a document with a field more, at a place -/
def insZ (d : Doc) (i : Int) (f : Field) : Doc := insAt d i.toNat f
theorem enc_ins (d : Doc) (i : Int) (f : Field) : Doc.enc (insZ d i f) = (Doc.enc d).take i.toNat ++ [f.enc] ++ (Doc.enc d).drop i.toNat := by
  simp [insZ, insAt, Doc.enc, List.map_take, List.map_drop]
theorem may_step {d : Doc} {i : Nat} (h : may d = true) {x y : Field} (hx : d[i]? = some x) (hy : d[i + 1]? = some y) : slt x.path y.path := by
  simp only [may, decide_eq_true_eq] at h
  obtain ⟨g, hg, hs⟩ := ((okAt_iff hy).1 (h.2 (i + 1) (List.getElem?_eq_some_iff.1 hy).1)).2.2 (by omega)
  rw [Nat.add_sub_cancel, hx] at hg
  cases hg; exact hs
theorem may_sorted {d : Doc} (h : may d = true) : sorted d := by
  intro i j
  induction j with
  | zero => intro x y hij; omega
  | succ j ih =>
    intro x y hij hx hy
    have hj : j < d.length := by have := (List.getElem?_eq_some_iff.1 hy).1; omega
    have hz : d[j]? = some d[j] := by simp [hj]
    have hs := may_step h hz hy
    by_cases e : i = j
    · subst e; rw [hx] at hz; cases hz; exact hs
    · exact slt_trans (ih x d[j] (by omega) hx hz) hs
open Classical in
theorem pos_path {d : Doc} {p : ByteArray} {x : Field} (hs : sorted d) (hb : getB d p = true) (hx : d[posI d p]? = some x) : x.path = p := by
  have hlt := (List.getElem?_eq_some_iff.1 hx).1
  refine (getB_at (k := (posI d p : Int)) (by omega) (by simpa using hx) hs (fun j y hj hy => ?_) (fun j y hj hy k => ?_)).1 hb
  · have := List.not_of_lt_findIdx (p := fun f : Field => decide (¬ slt f.path p)) (xs := d) (i := j) (by unfold posI at hj; omega)
    obtain ⟨h1, h2⟩ := List.getElem?_eq_some_iff.1 hy
    rw [h2] at this
    simpa using this
  · have h1 : ¬ slt x.path p := by
      have := List.findIdx_getElem (p := fun f : Field => decide (¬ slt f.path p)) (xs := d) (w := hlt)
      obtain ⟨_, h2⟩ := List.getElem?_eq_some_iff.1 hx
      unfold posI at h2
      rw [h2] at this
      simpa using this
    by_cases e : j = posI d p
    · subst e; rw [hx] at hy; cases hy; exact h1 k
    · exact h1 (slt_trans (hs (posI d p) j x y (by omega) hx hy) k)
open Classical in
theorem pos_lt {d : Doc} {p : ByteArray} (hb : getB d p = true) : posI d p < d.length := by
  obtain ⟨y, hy, hp⟩ := List.any_eq_true.1 hb
  simp only [hasP, decide_eq_true_eq] at hp
  refine List.findIdx_lt_length_of_exists ⟨y, hy, ?_⟩
  rw [hp]; simpa using slt_irrefl p
theorem pos_le (d : Doc) (p : ByteArray) : posI d p ≤ d.length := List.findIdx_le_length
open Classical in
/-- what comes of setting -/
noncomputable def setE (d : Doc) (p : ByteArray) (v : Val) : Int := if may d = true ∧ isPath p = true ∧ v.Ok then (if getB d p = true then 0 else if d.length = 16 then 2 else 0) else 1
noncomputable def setR (d : Doc) (p : ByteArray) (v : Val) : Doc := if setE d p v = 0 then setDoc d p v else []
theorem setE_bad {d : Doc} {p : ByteArray} {v : Val} (h : ¬ (may d = true ∧ isPath p = true ∧ v.Ok)) : setE d p v = 1 := by rw [setE, if_neg h]
theorem setR_bad {d : Doc} {p : ByteArray} {v : Val} (h : setE d p v ≠ 0) : setR d p v = [] := by rw [setR, if_neg h]
theorem setE_there {d : Doc} {p : ByteArray} {v : Val} (h : may d = true ∧ isPath p = true ∧ v.Ok) (hb : getB d p = true) : setE d p v = 0 := by rw [setE, if_pos h, if_pos hb]
theorem setE_full {d : Doc} {p : ByteArray} {v : Val} (h : may d = true ∧ isPath p = true ∧ v.Ok) (hb : getB d p = false) (hl : d.length = 16) : setE d p v = 2 := by rw [setE, if_pos h, if_neg (by simp [hb]), if_pos hl]
theorem setE_new {d : Doc} {p : ByteArray} {v : Val} (h : may d = true ∧ isPath p = true ∧ v.Ok) (hb : getB d p = false) (hl : d.length ≠ 16) : setE d p v = 0 := by rw [setE, if_pos h, if_neg (by simp [hb]), if_neg hl]
theorem setR_new {d : Doc} {p : ByteArray} {v : Val} (h : setE d p v = 0) (hb : getB d p = false) : setR d p v = insZ d (posZ d p) ⟨p, v⟩ := by
  rw [setR, if_pos h, setDoc, if_neg (by simp [hb])]; rfl
theorem setR_there {d : Doc} {p : ByteArray} {v : Val} {x : Field} (h : setE d p v = 0) (hs : sorted d) (hb : getB d p = true) (hx : d[(posZ d p).toNat]? = some x) : Doc.enc (setR d p v) = (Doc.enc d).set (posZ d p).toNat (.str x.path :: v.enc) := by
  have e : (posZ d p).toNat = posI d p := by simp [posZ]
  rw [e] at hx ⊢
  rw [setR, if_pos h, setDoc, if_pos hb, pos_path hs hb hx]
  show List.map Field.enc (d.set _ _) = (List.map Field.enc d).set _ _
  rw [List.map_set]; rfl
theorem Doc.enc_nil : Doc.enc [] = [] := rfl
/-! the check of every law -/
def ab : ByteArray := ⟨#[97, 46, 98]⟩
def abb : ByteArray := ⟨#[97, 46, 46, 98]⟩
def v7 : Val := ⟨1, 7, ByteArray.empty, 0, 0⟩
theorem setE_ab : setE [] ab v7 = 0 := setE_new ⟨may_true (by simp) (by simp), by decide, by simp [Val.Ok, v7]⟩ rfl (by simp)
theorem setR_ab : setR [] ab v7 = [⟨ab, v7⟩] := by rw [setR_new setE_ab rfl]; simp [insZ, insAt]
theorem getB_ab : getB (setR [] ab v7) ab = true := by rw [setR_ab]; simp [getB, hasP]
theorem getV_ab : getV (setR [] ab v7) ab = v7 := by rw [setR_ab]; simp [getV, hasP]
theorem isPath_ab : isPath ab = true := by decide
theorem isPath_abb : isPath abb = false := by decide
end Go.Sym
