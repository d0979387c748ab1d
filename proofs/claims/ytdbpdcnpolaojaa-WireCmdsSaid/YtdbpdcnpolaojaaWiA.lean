/- Commands and their cells. -/
import Derived.Test.YtdbpdcnpolaojaaCdC
set_option linter.all false
set_option linter.unusedVariables false
set_option linter.unusedSimpArgs false
namespace Go.Sym
open Go
structure WCmd where
  kind : Int
  chain : Int
  epoch : Int
  node : Int
  defn : ByteArray
  nodes : List Int
def Ints.enc : List Int → List (List PV) := List.map fun x => [.int .i64 x]
theorem Ints.len (O : Opq) (l : List Int) : (O.o Ints.enc l).length = l.length := by rw [O.h, Ints.enc, List.length_map]
def WCmd.enc (O : Opq) (c : WCmd) : List PV := [.int .i64 c.kind, .int .i64 c.chain, .int .i64 c.epoch, .int .i64 c.node, .str c.defn, .sl false 0 false 1 (O.o Ints.enc c.nodes)]
def numsC (l : List Int) : Cel := listC (l.map numC)
def cmdC (c : WCmd) : Cel := listC [numC c.kind, numC c.chain, numC c.epoch, numC c.node, textC c.defn, numsC c.nodes]
/-- a list's first cells -/
def mapI {α : Type} (q : α → Cel) (l : List α) (i : Nat) : List (List PV) := Cels.enc ((l.take i).map q)
theorem mapI_len {α : Type} {q : α → Cel} {l : List α} {i : Nat} (h : i ≤ l.length) : (mapI q l i).length = i := by rw [mapI, Cels.enc_len]; simp; omega
theorem mapI_more (O : Opq) {α : Type} {q : α → Cel} {l : List α} {i : Nat} {x : α} (h : l[i]? = some x) : O.o (mapI q l) (i + 1) = O.o (mapI q l) i ++ [(O.o q x).en O] := by
  rw [← Cel.en_eq]
  simp only [O.h]
  rw [mapI, List.take_add_one, h, List.map_append, Cels.enc_append]; rfl
theorem mapI_all (O : Opq) {α : Type} {q : α → Cel} {l : List α} {i : Nat} (h : l.length ≤ i) : O.o (mapI q l) i = O.o Cels.enc (l.map q) := by
  simp only [O.h]; rw [mapI, List.take_of_length_le h]
theorem mapI_zero (O : Opq) {α : Type} {q : α → Cel} {l : List α} {z : Nat} (h : z = 0) : O.o (mapI q l) z = [] := by rw [O.h, h]; rfl
def listQ {α : Type} (q : α → Cel) (l : List α) : Cel := listC (l.map q)
/-- the bytes of a cell, not too many -/
noncomputable def wE (c : Cel) : Int := if celErr c = 0 ∧ (putC c).length ≤ 16384 then 0 else 1
noncomputable def wB (c : Cel) : List UInt8 := if wE c = 0 then putC c else []
noncomputable def rB (c : Cel) : List UInt8 := if celErr c = 0 then putC c else []
noncomputable def okB (c : Cel) : Bool := decide (celErr c = 0 ∧ (putC c).length ≤ 16384)
/-- what cells are read as, and whether they may not be so -/
def partsC (n : Nat) (c : Cel) : List Cel := if c.kind = 3 ∧ c.list.length = n then c.list else List.replicate n noC
def partsBad (n : Nat) (b : Bool) (c : Cel) : Bool := b || !decide (c.kind = 3 ∧ c.list.length = n)
theorem partsC_len (n : Nat) (c : Cel) : (partsC n c).length = n := by
  unfold partsC; split
  · rename_i h; exact h.2
  · simp
def numBad (b : Bool) (c : Cel) : Bool := b || !decide (c.kind = 1)
def textBad (b : Bool) (c : Cel) : Bool := b || !decide (c.kind = 2)
def flagI (f : Bool → Cel → Bool) (b : Bool) (l : List Cel) (i : Nat) : Bool := (l.take i).foldl f b
theorem flagI_more (O : Opq) {f : Bool → Cel → Bool} {b : Bool} {l : List Cel} {i : Nat} {x : Cel} (h : l[i]? = some x) : O.o (flagI f b l) (i + 1) = O.o (f (O.o (flagI f b l) i)) x := by
  simp only [O.h]; rw [flagI, List.take_add_one, h, List.foldl_append]; rfl
def kind3 (b : Bool) (c : Cel) : Bool := b || !decide (c.kind = 3)
def listBad (f : Bool → Cel → Bool) (b : Bool) (c : Cel) : Bool := c.list.foldl f (kind3 b c)
theorem flagI_all (O : Opq) {f : Bool → Cel → Bool} {b : Bool} {c : Cel} {i : Nat} (h : c.list.length ≤ i) : O.o (flagI f (O.o (kind3 b) c) c.list) i = O.o (listBad f b) c := by
  simp only [O.h]; rw [flagI, List.take_of_length_le h]; rfl
def numsOf (c : Cel) : List Int := c.list.map Cel.num
def at' (l : List Cel) (i : Nat) : Cel := l.getD i noC
theorem at_some {l : List Cel} {i : Nat} (h : i < l.length) : l[i]? = some (at' l i) := by simp [at', h]
def cmdOf (c : Cel) : WCmd := let p := partsC 6 c; ⟨(at' p 0).num, (at' p 1).num, (at' p 2).num, (at' p 3).num, (at' p 4).text, numsOf (at' p 5)⟩
def cmdBad (b : Bool) (c : Cel) : Bool := let p := partsC 6 c
  listBad numBad (textBad (numBad (numBad (numBad (numBad (partsBad 6 b c) (at' p 0)) (at' p 1)) (at' p 2)) (at' p 3)) (at' p 4)) (at' p 5)
theorem numsC_kind (l : List Int) : listBad numBad false (numsC l) = false ∧ numsOf (numsC l) = l := by
  constructor
  · simp only [listBad, numsC, listC, Cel.list, Cel.kind, kind3, decide_true, Bool.not_true, Bool.or_false]
    induction l with
    | nil => rfl
    | cons x l ih => simpa [numBad, numC, Cel.kind] using ih
  · simp only [numsOf, numsC, listC, Cel.list, List.map_map]
    conv => rhs; rw [← List.map_id l]
    rfl
theorem cmdOf_cmdC (c : WCmd) : cmdOf (cmdC c) = c ∧ cmdBad false (cmdC c) = false := by
  have h := numsC_kind c.nodes
  constructor
  · rw [cmdOf]
    show WCmd.mk c.kind c.chain c.epoch c.node c.defn (numsOf (numsC c.nodes)) = c
    rw [h.2]
  · rw [cmdBad]
    show listBad numBad false (numsC c.nodes) = false
    exact h.1
theorem nums_size : ∀ l : List Int, Cels.size (l.map numC) = l.length
  | [] => by simp [Cels.size]
  | x :: l => by rw [List.map_cons, Cels.size, nums_size l, numC, Cel.size, Cels.size, List.length_cons]; omega
theorem cmdC_size (c : WCmd) : (cmdC c).size = c.nodes.length + 7 := by
  have h := nums_size c.nodes
  simp only [cmdC, listC, numsC, Cel.size, Cels.size, h]
  simp only [numC, textC, Cel.size, Cels.size]
  omega
open Classical in
noncomputable def sameCmd (a b : WCmd) : Bool := decide (a = b)
open Classical in
noncomputable def sameInts (a b : List Int) : Bool := decide (a = b)
theorem sameInts_iff {a b : List Int} : sameInts a b = true ↔ a = b := by simp [sameInts]
theorem sameInts_no {a b : List Int} (h : a ≠ b) : sameInts a b = false := by simp [sameInts, h]
theorem Cel.en_list (O : Opq) {c : Cel} {l : List Cel} (h : c = listC l) : c.en O = [.int .i64 3, .int .i64 0, .str ByteArray.empty, .sl false 0 false 4 (l.map (Cel.en O))] := by
  rw [h, Cel.en]
  show [PV.int .i64 3, .int .i64 0, .str ByteArray.empty, .sl false 0 false 4 (O.o Cels.enc l)] = _
  rw [O.h, Cels.en_eq O]
theorem cmdC_en (O : Opq) (c : WCmd) : (O.o cmdC c).en O = [.int .i64 3, .int .i64 0, .str ByteArray.empty, .sl false 0 false 4 [(numC c.kind).en O, (numC c.chain).en O, (numC c.epoch).en O, (numC c.node).en O, (textC c.defn).en O, (O.o (listQ numC) c.nodes).en O]] := by
  rw [Cel.en_list O (l := [numC c.kind, numC c.chain, numC c.epoch, numC c.node, textC c.defn, O.o (listQ numC) c.nodes])]
  · rfl
  · simp only [O.h]; rfl
noncomputable def rdOk (bad : Bool → Cel → Bool) (b : List UInt8) : Bool := decide (b.length ≤ 16384 ∧ decE b = 0) && !(bad false (decV b))
noncomputable def rdV {α : Type} (q : Cel → α) (bad : Bool → Cel → Bool) (zero : α) (b : List UInt8) : α := if rdOk bad b = true then q (decV b) else zero
noncomputable def rdE (bad : Bool → Cel → Bool) (b : List UInt8) : Int := if rdOk bad b = true then 0 else 5
theorem decE_zero {b : List UInt8} (h : decE b = 0) : celErr (decV b) = 0 ∧ putC (decV b) = b := by
  rw [decE] at h
  split at h
  · cases h
  · split at h
    · rename_i h1
      cases hd : decC b with
      | none => rw [hd] at h1; cases h1
      | some c =>
        have := decC_iff.1 hd
        rw [decV, hd]; exact ⟨this.1, this.2.1⟩
    · cases h
theorem decE_put {c : Cel} (h : celErr c = 0) (hl : (putC c).length ≤ 65536) : decE (putC c) = 0 ∧ decV (putC c) = c := by
  have hd : decC (putC c) = some c := decC_iff.2 ⟨h, rfl, hl⟩
  rw [decE, decV, hd, if_neg (by omega)]; exact ⟨rfl, rfl⟩
theorem rdV_put {α : Type} {q : Cel → α} {bad : Bool → Cel → Bool} {zero : α} {c : Cel} (h : celErr c = 0) (hl : (putC c).length ≤ 16384) (hb : bad false c = false) : rdV q bad zero (putC c) = q c ∧ rdE bad (putC c) = 0 := by
  obtain ⟨h1, h2⟩ := decE_put h (by omega)
  have : rdOk bad (putC c) = true := by rw [rdOk, h2, hb, h1]; simp [hl]
  rw [rdV, rdE, if_pos this, if_pos this, h2]; exact ⟨rfl, rfl⟩
end Go.Sym
