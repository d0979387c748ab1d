/- Cells: a number, a text, or a list of cells. -/
import Derived.Test.YtdbpdcnpolaojaaPaG
set_option linter.all false
set_option linter.unusedVariables false
set_option linter.unusedSimpArgs false
namespace Go.Sym
open Go
inductive Cel where
  | mk (kind num : Int) (text : ByteArray) (list : List Cel)
def Cel.kind : Cel → Int | .mk k _ _ _ => k
def Cel.num : Cel → Int | .mk _ n _ _ => n
def Cel.text : Cel → ByteArray | .mk _ _ t _ => t
def Cel.list : Cel → List Cel | .mk _ _ _ l => l
mutual
def Cel.enc : Cel → List PV
  | .mk k n t l => [.int .i64 k, .int .i64 n, .str t, .sl false 0 false 4 (Cels.enc l)]
def Cels.enc : List Cel → List (List PV)
  | [] => []
  | c :: l => c.enc :: Cels.enc l
end
theorem Cels.enc_map : ∀ l : List Cel, Cels.enc l = l.map Cel.enc
  | [] => by simp [Cels.enc]
  | c :: l => by rw [Cels.enc, Cels.enc_map l]; rfl
theorem Cels.enc_len (l : List Cel) : (Cels.enc l).length = l.length := by rw [Cels.enc_map]; simp
mutual
/-- how many cells, one in another -/
def Cel.size : Cel → Nat
  | .mk _ _ _ l => 1 + Cels.size l
def Cels.size : List Cel → Nat
  | [] => 0
  | c :: l => c.size + Cels.size l
end
theorem Cels.size_mem : ∀ {l : List Cel} {c : Cel}, c ∈ l → c.size ≤ Cels.size l
  | d :: l, c, h => by
    rw [Cels.size]
    rcases List.mem_cons.1 h with rfl | h
    · omega
    · have := Cels.size_mem h; omega
open Classical in
noncomputable def sameCel (c d : Cel) : Bool := decide (c = d)
theorem sameCel_iff {c d : Cel} : sameCel c d = true ↔ c = d := by simp [sameCel]
theorem sameCel_no {c d : Cel} (h : c ≠ d) : sameCel c d = false := by simp [sameCel, h]
/-- deeper than that? -/
def deepN : Nat → Cel → Bool
  | 0, _ => true
  | n + 1, .mk _ _ _ l => l.any (deepN n)
open Classical in
mutual
/-- of a kind, with no parts too many -/
noncomputable def pureC : Cel → Bool
  | .mk k n t l => if k = 1 then decide (-9007199254740992 ≤ n ∧ n ≤ 9007199254740992 ∧ t = ByteArray.empty ∧ l.length = 0) else if k = 2 then decide (n = 0 ∧ l.length = 0) else if k = 3 then decide (n = 0 ∧ t = ByteArray.empty ∧ pureCs l = true) else false
noncomputable def pureCs : List Cel → Bool
  | [] => true
  | c :: l => pureC c && pureCs l
end
theorem pureCs_all : ∀ l : List Cel, pureCs l = l.all pureC
  | [] => by simp [pureCs]
  | c :: l => by rw [pureCs, pureCs_all l]; rfl
noncomputable def notPure (c : Cel) : Bool := !pureC c
theorem pureCs_find {l : List Cel} : pureCs l = true ↔ findI notPure l = -1 := by
  rw [pureCs_all]
  constructor
  · intro h
    exact findI_none fun j y hj hy => by simp [notPure, List.all_eq_true.1 h y (List.mem_of_getElem? hy)]
  · intro h
    have hn : ¬ 0 ≤ findI notPure l := by rw [h]; decide
    rw [findI_ge] at hn
    rw [List.all_eq_true]
    intro x hx
    cases hp : pureC x with
    | true => rfl
    | false => exact absurd (List.any_eq_true.2 ⟨x, hx, by simp [notPure, hp]⟩) hn
mutual
/-- how many may be still, behind a cell -/
def countC : Cel → Int → Int
  | .mk _ _ t l, x => if 65536 < t.size then -1 else countCs l (x - 1)
def countCs : List Cel → Int → Int
  | [], x => x
  | c :: l, x => if x < 0 then -1 else countCs l (countC c x)
end
mutual
theorem countC_le : ∀ (c : Cel) (x : Int), 0 ≤ x → -1 ≤ countC c x ∧ countC c x ≤ x
  | .mk k n t l, x, h => by
    rw [countC]
    split
    · omega
    · have := countCs_le l (x - 1) (by omega); omega
theorem countCs_le : ∀ (l : List Cel) (x : Int), -1 ≤ x → -1 ≤ countCs l x ∧ (countCs l x ≤ x ∨ countCs l x = -1)
  | [], x, h => by rw [countCs]; omega
  | c :: l, x, h => by
    rw [countCs]
    split
    · omega
    · have h1 := countC_le c x (by omega)
      have h2 := countCs_le l (countC c x) h1.1
      omega
end
theorem Cels.len_size : ∀ l : List Cel, l.length ≤ Cels.size l
  | [] => by simp [Cels.size]
  | .mk k n t m :: l => by
    rw [Cels.size, Cel.size, List.length_cons]
    have := Cels.len_size l
    omega
theorem Cel.len_size (c : Cel) : c.list.length ≤ c.size := by
  obtain ⟨k, n, t, l⟩ := c
  rw [Cel.size]
  have := Cels.len_size l
  show l.length ≤ _
  omega
/-- why a cell may not be -/
noncomputable def celErr (c : Cel) : Int := if deepN 12 c = true then 13 else if pureC c = false then 1 else if countC c 4096 < 0 then 3 else 0
end Go.Sym
