/- Bits. -/
import Derived.Test.YtdbpdcnpolaojaaDoorJ7
import Derived.Test.YtdbpdcnpolaojaaDoorJ6
import Derived.Test.YtdbpdcnpolaojaaDoorJ5
set_option linter.all false
set_option linter.unusedVariables false
set_option linter.unusedSimpArgs false
namespace Go.Sym
open Go
theorem Named.w8 {x : Int} {K : Int → Prop} (h : 0 ≤ x) (k : ∀ n, n = x % 256 → 0 ≤ n → n < 256 → K n) : Named Int (fun _ => IntKind.u8.wrap x) K := .mk fun n hn => by
  have : n = x % 256 := by rw [hn]; unfold IntKind.wrap; simp [IntKind.bits, IntKind.signed]
  exact k n this (by omega) (by omega)
theorem Named.w8s {x : Int} {K : Int → Prop} (h : 0 ≤ x ∧ x < 256) (k : ∀ n, n = x → K n) : Named Int (fun _ => IntKind.u8.wrap x) K := .mk fun n hn => by
  have : n = x % 256 := by rw [hn]; unfold IntKind.wrap; simp [IntKind.bits, IntKind.signed]
  exact k n (by omega)
theorem or128 : ∀ n : Fin 256, bitsVal .or .u8 (n.val : Int) 128 = ((n.val % 128 + 128 : Nat) : Int) := by decide +kernel
theorem Named.or128 {x : Int} {K : Int → Prop} (h : 0 ≤ x ∧ x < 256) (k : ∀ n, n = x % 128 + 128 → K n) : Named Int (fun _ => bitsVal .or .u8 x 128) K := .mk fun n hn => k n (by
  have := Go.Sym.or128 ⟨x.toNat, by omega⟩
  simp only [show ((x.toNat : Nat) : Int) = x by omega] at this
  rw [hn, this]; omega)
theorem Named.shr7 {x : Int} {K : Int → Prop} (k : ∀ n, n = x / 128 → K n) : Named Int (fun _ => x.fdiv (2 ^ min (Int.toNat 7) IntKind.i64.bits)) K := .mk fun n hn => k n (by
  rw [hn]; exact Int.fdiv_eq_ediv_of_nonneg _ (by decide))
theorem Named.rem {x y : Int} {K : Int → Prop} (h : 0 ≤ x ∧ 0 < y) (k : ∀ n, n = x % y → K n) : Named Int (fun _ => x.tmod y) K := .mk fun n hn => k n (by
  rw [hn]; exact Int.tmod_eq_emod_of_nonneg h.1)
theorem Named.quo {x y : Int} {K : Int → Prop} (h : 0 ≤ x ∧ 0 < y ∧ x < 9223372036854775808) (k : ∀ n, n = x / y → K n) : Named Int (fun _ => IntKind.i64.wrap (x.tdiv y)) K := .mk fun n hn => k n (by
  have e : x.tdiv y = x / y := Int.tdiv_eq_ediv_of_nonneg h.1
  have h1 : 0 ≤ x / y := Int.ediv_nonneg h.1 (by omega)
  have h2 : x / y ≤ x := Int.ediv_le_self _ h.1
  rw [hn, e, wrap64 (by omega)])
end Go.Sym
namespace Go.Sym
open Go
theorem putCs_take {v : List Cel} {i : Nat} {x : Cel} (h : v[i]? = some x) : putCs (v.take (i + 1)) = putCs (v.take i) ++ putC x := by
  rw [List.take_add_one, h, putCs_append]
  show _ ++ putCs [x] = _
  rw [putCs, putCs, List.append_nil]
def listB (b1 : List UInt8) (v : List Cel) (i : Nat) : List UInt8 := b1 ++ putCs (v.take i)
theorem listB_zero (b1 : List UInt8) (v : List Cel) : listB b1 v 0 = b1 := by simp [listB, putCs]
theorem listB_more {b1 : List UInt8} {v : List Cel} {i : Nat} {x : Cel} (h : v[i]? = some x) : listB b1 v (i + 1) = listB b1 v i ++ putC x := by
  rw [listB, putCs_take h, listB, List.append_assoc]
theorem listB_all {b1 : List UInt8} {v : List Cel} {i : Nat} (h : v.length ≤ i) : listB b1 v i = b1 ++ putCs v := by
  rw [listB, List.take_of_length_le h]
theorem listB_le {b1 : List UInt8} {v : List Cel} {i : Nat} : (listB b1 v i).length ≤ (b1 ++ putCs v).length := by
  have : putCs v = putCs (v.take i) ++ putCs (v.drop i) := by rw [← putCs_append, List.take_append_drop]
  rw [this, listB]; simp only [List.length_append]; omega
def btsI (b1 : List UInt8) (v : List Cel) (i : Nat) : List (List PV) := bts (listB b1 v i)
theorem Cels.size_at : ∀ {v : List Cel} {i : Nat} {x : Cel}, v[i]? = some x → x.size ≤ Cels.size v := fun h => Cels.size_mem (List.mem_of_getElem? h)
end Go.Sym
namespace Go.Sym
open Go
structure Ndoc where
  key : ByteArray
  doc : Doc
structure PairK where
  key : ByteArray
  val : ByteArray
structure Answer where
  code : Int
  has : Bool
  doc : Doc
  docs : List Ndoc
  news : List Change
  n : Int
  total : Int
  keys : List PairK
inductive Opn where
  | mk (kind : Int) (key to : ByteArray) (doc want : Doc) (has : Bool) (n most : Int) (list : List Opn) (docs : List Ndoc) (news : List Change)
def Opn.kind : Opn → Int | .mk k _ _ _ _ _ _ _ _ _ _ => k
def Opn.key : Opn → ByteArray | .mk _ k _ _ _ _ _ _ _ _ _ => k
def Opn.to : Opn → ByteArray | .mk _ _ k _ _ _ _ _ _ _ _ => k
def Opn.doc : Opn → Doc | .mk _ _ _ k _ _ _ _ _ _ _ => k
def Opn.want : Opn → Doc | .mk _ _ _ _ k _ _ _ _ _ _ => k
def Opn.has : Opn → Bool | .mk _ _ _ _ _ k _ _ _ _ _ => k
def Opn.n : Opn → Int | .mk _ _ _ _ _ _ k _ _ _ _ => k
def Opn.most : Opn → Int | .mk _ _ _ _ _ _ _ k _ _ _ => k
def Opn.list : Opn → List Opn | .mk _ _ _ _ _ _ _ _ k _ _ => k
def Opn.docs : Opn → List Ndoc | .mk _ _ _ _ _ _ _ _ _ k _ => k
def Opn.news : Opn → List Change | .mk _ _ _ _ _ _ _ _ _ _ k => k
def Ndoc.enc (O : Opq) (n : Ndoc) : List PV := [.str n.key, .sl false 0 false 6 (O.o Doc.enc n.doc)]
def Nms.enc (O : Opq) (l : List Ndoc) : List (List PV) := l.map (Ndoc.enc O)
def PairK.enc (p : PairK) : List PV := [.str p.key, .str p.val]
def Prs.enc : List PairK → List (List PV) := List.map PairK.enc
theorem Nms.len (O : Opq) (l : List Ndoc) : (O.o (Nms.enc O) l).length = l.length := by rw [O.h, Nms.enc, List.length_map]
theorem Prs.len (O : Opq) (l : List PairK) : (O.o Prs.enc l).length = l.length := by rw [O.h, Prs.enc, List.length_map]
def Answer.enc (O : Opq) (a : Answer) : List PV := [.int .i64 a.code, .bool a.has, .sl false 0 false 6 (O.o Doc.enc a.doc), .sl false 0 false 2 (O.o (Nms.enc O) a.docs), .sl false 0 false 4 (O.o (Chs.enc O) a.news), .int .i64 a.n, .int .i64 a.total, .sl false 0 false 2 (O.o Prs.enc a.keys)]
mutual
def Opn.enc (O : Opq) : Opn → List PV
  | .mk k key to d w h n m l ds ns => [.int .i64 k, .str key, .str to, .sl false 0 false 6 (O.o Doc.enc d), .sl false 0 false 6 (O.o Doc.enc w), .bool h, .int .i64 n, .int .i64 m, .sl false 0 false 11 (Ops.enc O l), .sl false 0 false 2 (O.o (Nms.enc O) ds), .sl false 0 false 4 (O.o (Chs.enc O) ns)]
def Ops.enc (O : Opq) : List Opn → List (List PV)
  | [] => []
  | o :: l => o.enc O :: Ops.enc O l
end
theorem Ops.enc_map (O : Opq) : ∀ l : List Opn, Ops.enc O l = l.map (Opn.enc O)
  | [] => by simp [Ops.enc]
  | c :: l => by rw [Ops.enc, Ops.enc_map O l]; rfl
theorem Ops.len (O : Opq) (l : List Opn) : (O.o (Ops.enc O) l).length = l.length := by rw [O.h, Ops.enc_map]; simp
def Opn.en (O : Opq) (o : Opn) : List PV := [.int .i64 o.kind, .str o.key, .str o.to, .sl false 0 false 6 (O.o Doc.enc o.doc), .sl false 0 false 6 (O.o Doc.enc o.want), .bool o.has, .int .i64 o.n, .int .i64 o.most, .sl false 0 false 11 (O.o (Ops.enc O) o.list), .sl false 0 false 2 (O.o (Nms.enc O) o.docs), .sl false 0 false 4 (O.o (Chs.enc O) o.news)]
theorem Opn.en_eq (O : Opq) (o : Opn) : o.enc O = o.en O := by
  obtain ⟨k, key, to, d, w, h, n, m, l, ds, ns⟩ := o
  rw [Opn.enc, Opn.en, O.h (Ops.enc O)]; rfl
theorem Ops.en_eq (O : Opq) (l : List Opn) : Ops.enc O l = l.map (Opn.en O) := by
  rw [Ops.enc_map]; exact List.map_congr_left fun c _ => Opn.en_eq O c
theorem Ex.opn (O : Opq) {l : List Opn} {k : Nat} {x : Opn} (hx : l[k]? = some x) {i : Int} {K : List PV → Prop} (hi : i = k) (h : K (x.en O)) : Ex (List PV) (fun row => 0 ≤ i ∧ (O.o (Ops.enc O) l)[i.toNat]? = some row) K :=
  .mk (x.en O) ⟨by omega, by rw [O.h, Ops.en_eq O, List.getElem?_map, hi, Int.toNat_natCast, hx]; rfl⟩ h
/-! which documents may be -/
def okN (l : List Ndoc) (i : Nat) : Prop := ∃ n, l[i]? = some n ∧ isKey n.key = true ∧ may n.doc = true ∧ (0 < i → ∃ g, l[i - 1]? = some g ∧ slt g.key n.key)
open Classical in
noncomputable def docsOk (l : List Ndoc) : Bool := decide (∀ i, i < l.length → okN l i)
noncomputable def mayD (l : List Ndoc) : Bool := decide (l.length ≤ 24) && docsOk l
noncomputable def docsErr (l : List Ndoc) : Int := if docsOk l = true then 0 else 1
noncomputable def mayDE (l : List Ndoc) : Int := if mayD l = true then 0 else 1
theorem docsErr_zero {l : List Ndoc} : docsErr l = 0 ↔ docsOk l = true := by rw [docsErr]; split <;> simp_all
theorem mayDE_zero {l : List Ndoc} : mayDE l = 0 ↔ mayD l = true := by rw [mayDE]; split <;> simp_all
theorem okN_iff {l : List Ndoc} {k : Nat} {x : Ndoc} (h : l[k]? = some x) : okN l k ↔ isKey x.key = true ∧ may x.doc = true ∧ (0 < k → ∃ g, l[k - 1]? = some g ∧ slt g.key x.key) := by
  simp only [okN, h, Option.some.injEq]
  exact ⟨fun ⟨f, e, k⟩ => by subst e; exact k, fun k => ⟨x, rfl, k⟩⟩
theorem docsOk_bad {l : List Ndoc} {i : Nat} {x : Ndoc} (hx : l[i]? = some x) (h : ¬ (isKey x.key = true ∧ may x.doc = true ∧ (0 < i → ∃ g, l[i - 1]? = some g ∧ slt g.key x.key))) : docsOk l = false := by
  simp only [docsOk, decide_eq_false_iff_not]
  exact fun k => h ((okN_iff hx).1 (k i (List.getElem?_eq_some_iff.1 hx).1))
theorem docsOk_good {l : List Ndoc} (h : ∀ i, i < l.length → okN l i) : docsOk l = true := by
  simp only [docsOk, decide_eq_true_eq]; exact h
theorem okN_step {l : List Ndoc} {k : Nat} (h : ∀ j, j < k → okN l j) (hk : okN l k) : ∀ j, j < k + 1 → okN l j := fun j hj => by
  by_cases e : j = k
  · subst e; exact hk
  · exact h j (by omega)
theorem docsOk_iff {l : List Ndoc} : docsOk l = true ↔ (∀ n ∈ l, isKey n.key = true ∧ may n.doc = true) ∧ sortedK Ndoc.key l := by
  constructor
  · intro h
    simp only [docsOk, decide_eq_true_eq] at h
    constructor
    · intro n hn
      obtain ⟨i, hi, rfl⟩ := List.getElem_of_mem hn
      have := (okN_iff (l := l) (k := i) (x := l[i]) (by simp)).1 (h i hi)
      exact ⟨this.1, this.2.1⟩
    · refine List.pairwise_iff_getElem.2 fun i j hi hj hij => ?_
      have step : ∀ n : Nat, ∀ k, i + 1 + n = k → ∀ hk : k < l.length, slt l[i].key l[k].key := by
        intro n
        induction n with
        | zero =>
          intro k e hk
          subst e
          obtain ⟨g, hg, hs⟩ := ((okN_iff (x := l[i + 1]) (by simp)).1 (h (i + 1) hk)).2.2 (by omega)
          rw [show i + 1 - 1 = i by omega, List.getElem?_eq_getElem hi] at hg
          cases hg; exact hs
        | succ n ih =>
          intro k e hk
          have h1 := ih (k - 1) (by omega) (by omega)
          obtain ⟨g, hg, hs⟩ := ((okN_iff (x := l[k]) (by simp)).1 (h k hk)).2.2 (by omega)
          rw [List.getElem?_eq_getElem (by omega)] at hg
          cases hg
          exact slt_trans h1 hs
      exact step (j - i - 1) j (by omega) hj
  · rintro ⟨h1, h2⟩
    refine docsOk_good fun i hi => (okN_iff (x := l[i]) (by simp)).2 ⟨(h1 _ (List.getElem_mem hi)).1, (h1 _ (List.getElem_mem hi)).2, fun h0 => ⟨l[i - 1], by simp, ?_⟩⟩
    exact List.pairwise_iff_getElem.1 h2 (i - 1) i (by omega) hi (by omega)
theorem mayD_iff {l : List Ndoc} : mayD l = true ↔ l.length ≤ 24 ∧ (∀ n ∈ l, isKey n.key = true ∧ may n.doc = true) ∧ sortedK Ndoc.key l := by
  rw [mayD, Bool.and_eq_true, decide_eq_true_eq, docsOk_iff]
/-! what is asked -/
def ans0 : Answer := ⟨0, false, [], [], [], 0, 0, []⟩
def refA (e : Int) : Answer := ⟨e, false, [], [], [], 0, 0, []⟩
noncomputable def docAt (l : List Ndoc) (p : ByteArray) : Doc := match l[posK Ndoc.key l p]? with
  | some n => n.doc
  | none => []
noncomputable def standA (l : List Ndoc) (p : ByteArray) : Answer := if getK Ndoc.key l p = true then ⟨0, true, docAt l p, [], [], 0, 0, []⟩ else ans0
noncomputable def lightD (d : Doc) : Bool := may d && decide ((putC (docC d)).length ≤ 512)
noncomputable def foldD (l : List Ndoc) (c : Change) : List Ndoc :=
  if c.has = true then (if getK Ndoc.key l c.key = true then l.set (posK Ndoc.key l c.key) ⟨c.key, c.doc⟩ else insK l (posK Ndoc.key l c.key) ⟨c.key, c.doc⟩)
  else if getK Ndoc.key l c.key = true then l.eraseIdx (posK Ndoc.key l c.key) else l
open Classical in
noncomputable def casBad (l : List Ndoc) (o : Opn) : Bool := decide (getK Ndoc.key l o.key ≠ o.has ∨ (o.has = true ∧ docAt l o.key ≠ o.want))
noncomputable def writeA (l : List Ndoc) (o : Opn) : Answer :=
  if isKey o.key = false then refA 1
  else if o.kind = 2 then (if getK Ndoc.key l o.key = true then ans0 else refA 4)
  else if may o.doc = false ∨ (o.kind = 3 ∧ o.has = true ∧ may o.want = false) then refA 1
  else if o.kind = 3 ∧ casBad l o = true then { standA l o.key with code := 7 }
  else if lightD o.doc = false then refA 3
  else if getK Ndoc.key l o.key = false ∧ l.length = 24 then refA 2
  else ans0
def writeC (o : Opn) : Change := if o.kind = 2 then ⟨0, o.key, false, []⟩ else ⟨0, o.key, true, o.doc⟩
def writesB (o : Opn) : Bool := decide (o.kind = 1 ∨ o.kind = 2 ∨ o.kind = 3)
noncomputable def runB (first : List Ndoc) (total : Int) : List Opn → List Ndoc → List Change → List Ndoc × Answer × List Change
  | [], now, out => (now, ⟨0, false, [], [], [], total + out.length, 0, []⟩, out)
  | o :: l, now, out => if (writeA now o).code ≠ 0 then (first, writeA now o, [])
    else runB first total l (foldD now { writeC o with pos := total + out.length + 1 }) (out ++ [{ writeC o with pos := total + out.length + 1 }])
def notWrites (o : Opn) : Bool := !writesB o
noncomputable def batchR (l : List Ndoc) (ops : List Opn) (total : Int) : List Ndoc × Answer × List Change :=
  if ops.length < 1 ∨ 4 < ops.length ∨ ops.any notWrites = true then (l, refA 1, []) else runB l total ops l []
open Classical in
noncomputable def inScan (o : Opn) (n : Ndoc) : Bool := decide (¬ slt n.key o.key ∧ (o.to = ByteArray.empty ∨ slt n.key o.to))
noncomputable def scanA (l : List Ndoc) (o : Opn) : Answer :=
  if 64 < o.key.size ∨ 64 < o.to.size ∨ o.most < 1 ∨ 24 < o.most then refA 1
  else ⟨0, false, [], (l.filter (inScan o)).take o.most.toNat, [], 0, 0, []⟩
noncomputable def applyR (l : List Ndoc) (o : Opn) (total : Int) : List Ndoc × Answer × List Change :=
  if writesB o = true then batchR l [o] total
  else if o.kind = 6 then batchR l o.list total
  else if o.kind = 5 then (l, scanA l o, [])
  else if o.kind = 4 ∧ isKey o.key = true then (l, standA l o.key, [])
  else (l, refA 1, [])
theorem nms_set (O : Opq) {l : List Ndoc} {k : Nat} {x : Ndoc} (hx : l[k]? = some x) : (O.o (Nms.enc O) l).set k (Ndoc.enc O x) = O.o (Nms.enc O) l := by
  obtain ⟨hk, rfl⟩ := List.getElem?_eq_some_iff.1 hx
  simp only [O.h]
  rw [Nms.enc, ← List.map_set, List.set_getElem_self]
end Go.Sym
namespace Go.Sym
open Go
theorem PairK.ext' {a b : PairK} : a = b ↔ a.key = b.key ∧ a.val = b.val := by
  obtain ⟨k, v⟩ := a; obtain ⟨k', v'⟩ := b; simp only [PairK.mk.injEq]
theorem Ndoc.ext' {a b : Ndoc} : a = b ↔ a.key = b.key ∧ a.doc = b.doc := by
  obtain ⟨k, v⟩ := a; obtain ⟨k', v'⟩ := b; simp only [Ndoc.mk.injEq]
open Classical in
noncomputable def sameNs (a b : List Ndoc) : Bool := decide (a = b)
theorem sameNs_len {a b : List Ndoc} (h : a.length ≠ b.length) : sameNs a b = false := by
  simp only [sameNs, decide_eq_false_iff_not]; exact fun e => h (by rw [e])
theorem sameNs_at {a b : List Ndoc} {k : Nat} (h : a[k]? ≠ b[k]?) : sameNs a b = false := by
  simp only [sameNs, decide_eq_false_iff_not]; exact fun e => h (by rw [e])
theorem sameNs_all {a b : List Ndoc} (h : a.length = b.length) (k : ∀ j, j < a.length → a[j]? = b[j]?) : sameNs a b = true := by
  simp only [sameNs, decide_eq_true_eq]
  refine List.ext_getElem? fun j => ?_
  by_cases hj : j < a.length
  · exact k j hj
  · rw [List.getElem?_eq_none (by omega), List.getElem?_eq_none (by omega)]
end Go.Sym
