/- Values, fields, documents; which may be. -/
import Derived.Test.YtdbpdcnpolaojaaSymJoined3
set_option linter.all false
set_option linter.unusedVariables false
set_option linter.unusedSimpArgs false
namespace Go.Sym
open Go
structure Val where
  kind : Int
  num : Int
  text : ByteArray
  re : Int
  im : Int
structure Field where
  path : ByteArray
  val : Val
def Val.enc (v : Val) : List PV := [.int .i64 v.kind, .int .i64 v.num, .str v.text, .int .i64 v.re, .int .i64 v.im]
def Field.enc (f : Field) : List PV := .str f.path :: f.val.enc
abbrev Doc := List Field
def Doc.enc : Doc → List (List PV) := List.map Field.enc
theorem Doc.enc_len (d : Doc) : (Doc.enc d).length = d.length := by simp [Doc.enc]
theorem Val.enc_inj {v w : Val} : v.enc = w.enc ↔ v = w := by
  cases v; cases w; simp [Val.enc]
theorem Field.enc_inj {v w : Field} : v.enc = w.enc ↔ v = w := by
  cases v; cases w; simp [Field.enc, Val.enc_inj]
theorem emp : ({ data := { toList := [] } } : ByteArray) = ByteArray.empty := rfl
def Val.Ok (v : Val) : Prop :=
  (v.kind = 1 ∧ v.text = ByteArray.empty ∧ v.re = 0 ∧ v.im = 0 ∧ -9007199254740992 ≤ v.num ∧ v.num ≤ 9007199254740992) ∨
  (v.kind = 3 ∧ v.num = 0 ∧ v.text = ByteArray.empty ∧ -1048576 ≤ v.re ∧ v.re ≤ 1048576 ∧ -1048576 ≤ v.im ∧ v.im ≤ 1048576) ∨
  (v.kind = 2 ∧ v.num = 0 ∧ v.re = 0 ∧ v.im = 0 ∧ v.text.size ≤ 256)
open Classical in
noncomputable def Val.err (v : Val) : Int := if v.kind = 2 ∧ 256 < v.text.size then 3 else if v.Ok then 0 else 1
theorem Val.err_ok {v : Val} : v.err = 0 ↔ v.Ok := by
  unfold Val.err
  split
  · rename_i h; simp [Val.Ok]; omega
  · split <;> simp_all
def numV (n : Int) : Val := ⟨1, n, ByteArray.empty, 0, 0⟩
def textV (s : ByteArray) : Val := ⟨2, 0, s, 0, 0⟩
def pointV (a b : Int) : Val := ⟨3, 0, ByteArray.empty, a, b⟩
def isPart (n : Int) : Bool := decide (-1048576 ≤ n ∧ n ≤ 1048576)
def isKey (s : ByteArray) : Bool := decide (1 ≤ s.size ∧ s.size ≤ 64)
/-- A letter of a path's words. -/
def isLet (c : Int) : Bool := (decide (97 ≤ c) && decide (c ≤ 122)) || (decide (48 ≤ c) && decide (c ≤ 57))
/-- Is what is left of a path right, if so many letters of a word stand before it? -/
def scan : List UInt8 → Bool → Bool
  | [], w => w
  | c :: r, w => if (c.toNat : Int) = 46 ∧ w = true then scan r false else if isLet c.toNat = true then scan r true else false
def isPath (s : ByteArray) : Bool := scan s.data.toList false && decide (s.size ≤ 64)
theorem size_list (s : ByteArray) : s.data.toList.length = s.size := by simp [← ByteArray.size_data]
theorem scan_step {s : ByteArray} {i : Int} (h : 0 ≤ i) (h2 : i < s.size) (w : Bool) : scan (s.data.toList.drop i.toNat) w =
    if byteAt s i = 46 ∧ w = true then scan (s.data.toList.drop (i + 1).toNat) false else if isLet (byteAt s i) = true then scan (s.data.toList.drop (i + 1).toNat) true else false := by
  have hl : i.toNat < s.data.toList.length := by rw [size_list]; omega
  rw [List.drop_eq_getElem_cons hl, show (i + 1).toNat = i.toNat + 1 by omega]
  simp only [scan, byteAt, List.getD_eq_getElem?_getD, List.getElem?_eq_getElem hl, Option.getD_some]
theorem scan_end {s : ByteArray} {i : Int} (h2 : s.size ≤ i) (w : Bool) : scan (s.data.toList.drop i.toNat) w = w := by
  rw [List.drop_of_length_le]
  · rfl
  · rw [size_list]; omega
/-- What is asked of the field at a place. -/
def okAt (d : Doc) (i : Nat) : Prop := ∃ f, d[i]? = some f ∧ isPath f.path = true ∧ f.val.Ok ∧ (0 < i → ∃ g, d[i - 1]? = some g ∧ slt g.path f.path)
open Classical in
noncomputable def may (d : Doc) : Bool := decide (d.length ≤ 16 ∧ ∀ i, i < d.length → okAt d i)
noncomputable def docErr (d : Doc) : Int := if may d = true then 0 else 1
/-- the first place where something holds; -1: there is none -/
def findI {α : Type} (p : α → Bool) (l : List α) : Int := if l.any p = true then (l.findIdx p : Int) else -1
theorem findI_at {α : Type} {p : α → Bool} {l : List α} {k : Nat} {x : α} (h : l[k]? = some x) (hp : p x = true) (hn : ∀ (j : Nat) y, j < k → l[j]? = some y → p y = false) : findI p l = k := by
  obtain ⟨hk, e⟩ := List.getElem?_eq_some_iff.1 h
  have ha : l.any p = true := List.any_eq_true.2 ⟨x, List.mem_of_getElem? h, hp⟩
  rw [findI, if_pos ha, (List.findIdx_eq hk).2 ⟨by rw [e]; exact hp, fun j hj => hn j _ hj (by simp)⟩]
theorem findI_none {α : Type} {p : α → Bool} {l : List α} (hn : ∀ (j : Nat) y, j < l.length → l[j]? = some y → p y = false) : findI p l = -1 := by
  rw [findI, if_neg]
  intro h
  obtain ⟨x, hx, hp⟩ := List.any_eq_true.1 h
  obtain ⟨j, hj, rfl⟩ := List.getElem_of_mem hx
  rw [hn j _ hj (by simp)] at hp; cases hp
theorem findI_ge {α : Type} {p : α → Bool} {l : List α} : 0 ≤ findI p l ↔ l.any p = true := by
  rw [findI]; split
  · rename_i h; simp [h]
  · rename_i h; simp [h]
theorem findI_lt {α : Type} {p : α → Bool} {l : List α} (h : 0 ≤ findI p l) : ∃ x, l[(findI p l).toNat]? = some x ∧ p x = true := by
  have ha := findI_ge.1 h
  rw [findI, if_pos ha, Int.toNat_natCast]
  have hl : l.findIdx p < l.length := List.findIdx_lt_length_of_exists (by simpa using ha)
  exact ⟨l[l.findIdx p], by simp [hl], List.findIdx_getElem⟩
theorem okAt_iff {d : Doc} {k : Nat} {x : Field} (h : d[k]? = some x) : okAt d k ↔ isPath x.path = true ∧ x.val.Ok ∧ (0 < k → ∃ g, d[k - 1]? = some g ∧ slt g.path x.path) := by
  simp only [okAt, h, Option.some.injEq]
  exact ⟨fun ⟨f, e, k⟩ => by subst e; exact k, fun k => ⟨x, rfl, k⟩⟩
theorem okAt_step {d : Doc} {k : Nat} (h : ∀ j, j < k → okAt d j) (hk : okAt d k) : ∀ j, j < k + 1 → okAt d j := fun j hj => by
  by_cases e : j = k
  · subst e; exact hk
  · exact h j (by omega)
theorem may_false {d : Doc} {i : Nat} (hi : i < d.length) (h : ¬ okAt d i) : may d = false := by
  simp only [may, decide_eq_false_iff_not]; exact fun k => h (k.2 i hi)
theorem may_true {d : Doc} (hl : d.length ≤ 16) (h : ∀ i, i < d.length → okAt d i) : may d = true := by
  simp only [may, decide_eq_true_eq]; exact ⟨hl, h⟩
theorem docErr_bad {d : Doc} {i : Nat} {x : Field} (hx : d[i]? = some x) (h : ¬ (isPath x.path = true ∧ x.val.Ok ∧ (0 < i → ∃ g, d[i - 1]? = some g ∧ slt g.path x.path))) : docErr d = 1 := by
  rw [docErr, may_false (List.getElem?_eq_some_iff.1 hx).1 (fun k => h ((okAt_iff hx).1 k))]; rfl
theorem docErr_ok {d : Doc} (hl : d.length ≤ 16) (h : ∀ i, i < d.length → okAt d i) : docErr d = 0 := by
  rw [docErr, may_true hl h]; rfl
theorem docErr_zero {d : Doc} : docErr d = 0 ↔ may d = true := by
  rw [docErr]; split <;> simp_all
theorem may_long {d : Doc} (hl : 16 < d.length) : may d = false := by
  simp only [may, decide_eq_false_iff_not]; omega
theorem docErr_long {d : Doc} (hl : 16 < d.length) : docErr d = 1 := by rw [docErr, may_long hl]; rfl
end Go.Sym
