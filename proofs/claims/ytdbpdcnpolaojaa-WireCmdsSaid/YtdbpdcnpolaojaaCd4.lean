/- A cell is read. -/
import Derived.Test.YtdbpdcnpolaojaaCd3
import Derived.Test.YtdbpdcnpolaojaaCe6
set_option linter.all false
set_option linter.unusedVariables false
set_option linter.unusedSimpArgs false
namespace Go.Sym
open Go Go.Proofs.Try
set_option maxRecDepth 100000
theorem bts_drop (l : List UInt8) (m : Nat) : bts (l.drop m) = (bts l).drop m := by simp [bts]
theorem bts_take (l : List UInt8) (m : Nat) : bts (l.take m) = (bts l).take m := by simp [bts]
theorem zag_odd {m : Nat} (h : m % 2 = 1) : zag m = -(((m + 1) / 2 : Nat) : Int) := by rw [zag, if_pos h]
theorem zag_even {m : Nat} (h : ¬ m % 2 = 1) : zag m = ((m / 2 : Nat) : Int) := by rw [zag, if_neg h]
theorem bts_bytes (l : List UInt8) : byteRows (bytesOf l) = bts l := by rw [byteRows_eq, bytesOf_toList]
/-- what a cell's reading does -/
def RdSays (O : Opq) (n : Nat) : Prop := ∀ (b : List UInt8) (lf : Int) (C : Cel) (S : Rd) (w : Int), b.length ≤ 65536 → 0 ≤ lf → lf ≤ 4096 → rdCell n ⟨b, false, lf⟩ = (C, S) → w = n →
  Fn prog 39 [.ptr 0 0, .int .i64 w] [.box [.sl true 0 false 1 (O.o bts b), .bool false, .int .i64 lf]] [.agg (C.en O)] [.box [.sl true 0 false 1 (O.o bts S.b), .bool S.bad, .int .i64 S.left]]
theorem rd_bad {O : Opq} {n : Nat} {b : List UInt8} {lf w : Int} (hb : b.length ≤ 65536) (h0 : 0 ≤ lf) (h1 : lf ≤ 4096) (hw : w = n) (hn : n ≤ 12) (h : b = [] ∨ n = 0 ∨ lf - 1 < 0) :
    Fn prog 39 [.ptr 0 0, .int .i64 w] [.box [.sl true 0 false 1 (O.o bts b), .bool false, .int .i64 lf]] [.agg (noC.en O)] [.box [.sl true 0 false 1 (O.o bts b), .bool true, .int .i64 (lf - 1)]] := by
  have hlen : (O.o bts b).length = b.length := by rw [O.h, bts_len]
  have he : b = [] → b.length = 0 := fun h => by rw [h]; rfl
  have hh : b.length = 0 ∨ w = 0 ∨ lf - 1 < 0 := by rcases h with h | h | h; exact .inl (he h); exact .inr (.inl (by omega)); exact .inr (.inr h)
  have h00 : O.o Cels.enc [] = [] := by rw [O.h, Cels.enc]
  obtain ⟨lf', hlf⟩ : ∃ l, l = lf - 1 := ⟨_, rfl⟩
  rw [← hlf]
  clear h he
  refine go (fn := Go.Proofs.Try.f39) (n := 144) (rv := [ResultVar.cell 4 39]) rfl (by decide) rfl (by decide +kernel) rfl rfl (by simp) fun F L C => ?_
  cbv
  (repeat' first | (refine Named.i64 ?_ fun _ _ => ?_; (focus lia); cbv) | (refine Named.len fun _ _ hq => ?_; (try simp only [List.length_append, List.length_take, List.length_drop, List.length_replicate, List.length_set] at hq); cbv) | (refine Named.mk fun _ _ => ?_; cbv) | (refine Br.t ?_ ?_; (focus first | assumption | lia); cbv) | (refine Br.f ?_ ?_; (focus first | assumption | lia); cbv) | (refine Br.mk (fun _ => ?_) (fun _ => ?_) <;> cbv) | (refine Need.mk ?_ ?_; rotate_left; cbv) | (refine RetThen.mk [] [] ?_; cbv))
  all_goals first
    | (exfalso; lia)
    | exact ⟨.refl _, by lia, h00, trivial⟩
    | lia
    | trace_state
theorem rd_none {O : Opq} {n : Nat} {k : UInt8} {b : List UInt8} {lf w : Int} (hb : b.length ≤ 65536) (h0 : 0 ≤ lf - 1) (h1 : lf ≤ 4096) (hw : w = (n + 1 : Nat)) (h : numR b 0 0 = none) :
    Fn prog 39 [.ptr 0 0, .int .i64 w] [.box [.sl true 0 false 1 (O.o bts (k :: b)), .bool false, .int .i64 lf]] [.agg ((Cel.mk k.toNat 0 ByteArray.empty []).en O)] [.box [.sl true 0 false 1 (O.o bts b), .bool true, .int .i64 (lf - 1)]] := by
  have hlen : (O.o bts (k :: b)).length = b.length + 1 := by rw [O.h, bts_len]; rfl
  have h00 : O.o Cels.enc [] = [] := by rw [O.h, Cels.enc]
  have hk := u8lt k
  obtain ⟨v, hv⟩ : ∃ v : Int, v = k.toNat := ⟨_, rfl⟩
  have rx : (O.o bts (k :: b))[0]? = some [.int .u8 v] := by rw [O.h, hv]; rfl
  rw [← hv]
  obtain ⟨lf', hlf⟩ : ∃ l, l = lf - 1 := ⟨_, rfl⟩
  rw [← hlf]
  have hnum := fun {R : List (List PV)} {q : Int} (hR : R = O.o bts b) (hq : q = lf') => (by rw [hR, hq]; exact rnumber_fn O b none lf' h (by omega) : Fn prog 44 [.ptr 0 0] [.box [.sl true 0 false 1 R, .bool false, .int .i64 q]] [.int .i64 (O.o numVal none)] [.box [.sl true 0 false 1 (O.o bts (O.o (numRest b) none)), .bool (O.o Option.isNone (none : Option (Nat × List UInt8))), .int .i64 lf']])
  rw [show O.o numVal none = 0 by rw [O.h]; rfl, show O.o (numRest b) none = b by rw [O.h]; rfl, show O.o Option.isNone (none : Option (Nat × List UInt8)) = true by rw [O.h]; rfl] at hnum
  have hdr : (O.o bts (k :: b)).drop 1 = O.o bts b := by simp only [O.h]; rfl
  refine go (fn := Go.Proofs.Try.f39) (n := 144) (rv := [ResultVar.cell 4 39]) rfl (by decide) rfl (by decide +kernel) rfl rfl (by simp) fun F L C => ?_
  cbv
  (repeat' first | (refine Named.i64 ?_ fun _ _ => ?_; (focus lia); cbv) | (refine Ex.at [.int .u8 v] ⟨by clear rx hnum hdr; lia, rx⟩ ?_; cbv) | (refine CallThen.mk _ _ (C.fn (hnum ?_ ?_)) ?_; rotate_left 2; cbv) | (refine Named.len fun _ _ hq => ?_; (try simp only [List.length_append, List.length_take, List.length_drop, List.length_replicate, List.length_set] at hq); cbv) | (refine Named.mk fun _ _ => ?_; cbv) | (refine Br.t ?_ ?_; (focus first | assumption | lia); cbv) | (refine Br.f ?_ ?_; (focus first | assumption | lia); cbv) | (refine Br.mk (fun _ => ?_) (fun _ => ?_) <;> cbv) | (refine Need.mk ?_ ?_; rotate_left; cbv) | (refine RetThen.mk [] [] ?_; cbv))
  all_goals first
    | (exfalso; clear rx hnum hdr; lia)
    | exact ⟨.refl _, by symm; assumption, h00, trivial⟩
    | (clear rx hnum hdr; lia)
    | (subst_vars; exact hdr)
    | trace_state
theorem rd_num {O : Opq} {n : Nat} {k : UInt8} {b l : List UInt8} {m : Nat} {lf w : Int} (hb : b.length ≤ 65536) (h0 : 0 ≤ lf - 1) (h1 : lf ≤ 4096) (hw : w = (n + 1 : Nat)) (h : numR b 0 0 = some (m, l)) (hkk : (k.toNat : Int) = 1) :
    Fn prog 39 [.ptr 0 0, .int .i64 w] [.box [.sl true 0 false 1 (O.o bts (k :: b)), .bool false, .int .i64 lf]] [.agg ((Cel.mk k.toNat (O.o zag m) ByteArray.empty []).en O)] [.box [.sl true 0 false 1 (O.o bts l), .bool false, .int .i64 (lf - 1)]] := by
  have hlen : (O.o bts (k :: b)).length = b.length + 1 := by rw [O.h, bts_len]; rfl
  have hlen2 : (O.o bts l).length = l.length := by rw [O.h, bts_len]
  have hll := numR_len b 0 0 h
  have hml := numR_lt h
  have h00 : O.o Cels.enc [] = [] := by rw [O.h, Cels.enc]
  have hk := u8lt k
  obtain ⟨v, hv⟩ : ∃ v : Int, v = k.toNat := ⟨_, rfl⟩
  have rx : (O.o bts (k :: b))[0]? = some [.int .u8 v] := by rw [O.h, hv]; rfl
  rw [← hv] at hkk ⊢
  obtain ⟨lf', hlf⟩ : ∃ l, l = lf - 1 := ⟨_, rfl⟩
  rw [← hlf]
  obtain ⟨mi, hmi⟩ : ∃ x : Int, x = m := ⟨_, rfl⟩
  have hnum := fun {R : List (List PV)} {q : Int} (hR : R = O.o bts b) (hq : q = lf') => (by rw [hR, hq]; exact rnumber_fn O b (some (m, l)) lf' h (by omega) : Fn prog 44 [.ptr 0 0] [.box [.sl true 0 false 1 R, .bool false, .int .i64 q]] [.int .i64 (O.o numVal (some (m, l)))] [.box [.sl true 0 false 1 (O.o bts (O.o (numRest b) (some (m, l)))), .bool (O.o Option.isNone (some (m, l))), .int .i64 lf']])
  rw [show O.o numVal (some (m, l)) = mi by rw [O.h, hmi]; rfl, show O.o (numRest b) (some (m, l)) = l by rw [O.h]; rfl, show O.o Option.isNone (some (m, l)) = false by rw [O.h]; rfl] at hnum
  have hdr : (O.o bts (k :: b)).drop 1 = O.o bts b := by simp only [O.h]; rfl
  have hz1 : m % 2 = 1 → O.o zag m = -((mi + 1) / 2) := fun h => by rw [O.h, zag_odd h]; omega
  have hz2 : ¬ m % 2 = 1 → O.o zag m = mi / 2 := fun h => by rw [O.h, zag_even h]; omega
  obtain ⟨Z, hZ⟩ : ∃ z, z = O.o zag m := ⟨_, rfl⟩
  rw [← hZ] at hz1 hz2 ⊢
  clear hZ
  by_cases hm : m % 2 = 1
  all_goals
    refine go (fn := Go.Proofs.Try.f39) (n := 144) (rv := [ResultVar.cell 4 39]) rfl (by decide) rfl (by decide +kernel) rfl rfl (by simp) fun F L C => ?_
    cbv
    (repeat' first | (refine Named.and1 ?_ fun _ _ => ?_; (focus lia); cbv) | (refine Named.shr1 fun _ _ => ?_; cbv) | (refine Named.quo2 ?_ fun _ _ => ?_; (focus lia); cbv) | (refine Named.i64 ?_ fun _ _ => ?_; (focus lia); cbv) | (refine Named.i64o ?_ fun _ _ => ?_; (focus lia); cbv) | (refine Ex.at [.int .u8 v] ⟨by clear rx hnum hdr; lia, rx⟩ ?_; cbv) | (refine CallThen.mk _ _ (C.fn (hnum ?_ ?_)) ?_; rotate_left 2; cbv) | (refine Named.len fun _ _ hq => ?_; (try simp only [List.length_append, List.length_take, List.length_drop, List.length_replicate, List.length_set] at hq); cbv) | (refine Named.mk fun _ _ => ?_; cbv) | (refine Br.t ?_ ?_; (focus first | assumption | lia); cbv) | (refine Br.f ?_ ?_; (focus first | assumption | lia); cbv) | (refine Br.mk (fun _ => ?_) (fun _ => ?_) <;> cbv) | (refine Need.mk ?_ ?_; rotate_left; cbv) | (refine RetThen.mk [] [] ?_; cbv))
    all_goals first
      | (exfalso; clear rx hnum hdr; lia)
      | (refine ⟨.refl _, by symm; assumption, ?_, h00, trivial⟩; first | (rw [hz1 hm]; clear rx hnum hdr; lia) | (rw [hz2 hm]; clear rx hnum hdr; lia))
      | (clear rx hnum hdr; lia)
      | (subst_vars; exact hdr)
      | trace_state
theorem rd_text {O : Opq} {n : Nat} {k : UInt8} {b l : List UInt8} {m : Nat} {lf w : Int} {tx : ByteArray} (hb : b.length ≤ 65536) (h0 : 0 ≤ lf - 1) (h1 : lf ≤ 4096) (hw : w = (n + 1 : Nat)) (h : numR b 0 0 = some (m, l)) (hkk : (k.toNat : Int) = 2) (hm : m ≤ l.length) (htx : tx = bytesOf (l.take m)) :
    Fn prog 39 [.ptr 0 0, .int .i64 w] [.box [.sl true 0 false 1 (O.o bts (k :: b)), .bool false, .int .i64 lf]] [.agg ((Cel.mk k.toNat 0 tx []).en O)] [.box [.sl true 0 false 1 (O.o bts (l.drop m)), .bool false, .int .i64 (lf - 1)]] := by
  have hlen : (O.o bts (k :: b)).length = b.length + 1 := by rw [O.h, bts_len]; rfl
  have hlen2 : (O.o bts l).length = l.length := by rw [O.h, bts_len]
  have hll := numR_len b 0 0 h
  have hml := numR_lt h
  have h00 : O.o Cels.enc [] = [] := by rw [O.h, Cels.enc]
  have hk := u8lt k
  obtain ⟨v, hv⟩ : ∃ v : Int, v = k.toNat := ⟨_, rfl⟩
  have rx : (O.o bts (k :: b))[0]? = some [.int .u8 v] := by rw [O.h, hv]; rfl
  rw [← hv] at hkk ⊢
  obtain ⟨lf', hlf⟩ : ∃ l, l = lf - 1 := ⟨_, rfl⟩
  rw [← hlf]
  obtain ⟨mi, hmi⟩ : ∃ x : Int, x = m := ⟨_, rfl⟩
  have hnum := fun {R : List (List PV)} {q : Int} (hR : R = O.o bts b) (hq : q = lf') => (by rw [hR, hq]; exact rnumber_fn O b (some (m, l)) lf' h (by omega) : Fn prog 44 [.ptr 0 0] [.box [.sl true 0 false 1 R, .bool false, .int .i64 q]] [.int .i64 (O.o numVal (some (m, l)))] [.box [.sl true 0 false 1 (O.o bts (O.o (numRest b) (some (m, l)))), .bool (O.o Option.isNone (some (m, l))), .int .i64 lf']])
  rw [show O.o numVal (some (m, l)) = mi by rw [O.h, hmi]; rfl, show O.o (numRest b) (some (m, l)) = l by rw [O.h]; rfl, show O.o Option.isNone (some (m, l)) = false by rw [O.h]; rfl] at hnum
  have hdr : (O.o bts (k :: b)).drop 1 = O.o bts b := by simp only [O.h]; rfl
  have ht : (O.o bts l).take m = byteRows tx := by rw [htx, bts_bytes, O.h, bts_take]
  have hd : (O.o bts l).drop m = O.o bts (l.drop m) := by simp only [O.h]; rw [bts_drop]
  obtain ⟨D, hD⟩ : ∃ d, d = l.drop m := ⟨_, rfl⟩
  rw [← hD] at hd ⊢
  clear hD htx
  refine go (fn := Go.Proofs.Try.f39) (n := 144) (rv := [ResultVar.cell 4 39]) rfl (by decide) rfl (by decide +kernel) rfl rfl (by simp) fun F L C => ?_
  cbv
  (repeat' first | (refine Named.i64 ?_ fun _ _ => ?_; (focus lia); cbv) | (refine Ex.at [.int .u8 v] ⟨by clear rx hnum hdr ht hd; lia, rx⟩ ?_; cbv) | (refine CallThen.mk _ _ (C.fn (hnum ?_ ?_)) ?_; rotate_left 2; cbv) | (refine Ex.mk tx ?_ ?_; rotate_left; cbv) | (refine Named.len fun _ _ hq => ?_; (try simp only [List.length_append, List.length_take, List.length_drop, List.length_replicate, List.length_set] at hq); cbv) | (refine Named.mk fun _ _ => ?_; cbv) | (refine Br.t ?_ ?_; (focus first | assumption | lia); cbv) | (refine Br.f ?_ ?_; (focus first | assumption | lia); cbv) | (refine Br.mk (fun _ => ?_) (fun _ => ?_) <;> cbv) | (refine Need.mk ?_ ?_; rotate_left; cbv) | (refine RetThen.mk [] [] ?_; cbv))
  all_goals first
    | (exfalso; clear rx hnum hdr ht hd; lia)
    | (refine ⟨.of_eq ?_, by symm; assumption, h00, trivial⟩; rename_i R hR; rw [hR, show mi.toNat = m by clear rx hnum hdr ht hd; lia]; exact hd.symm)
    | (clear rx hnum hdr ht hd; lia)
    | (subst_vars; exact hdr)
    | (rename_i R hR; rw [hR, show mi.toNat = m by clear rx hnum hdr ht hd; lia]; exact ht)
    | trace_state
theorem rd_else {O : Opq} {n : Nat} {k : UInt8} {b l : List UInt8} {m : Nat} {lf w : Int} (hb : b.length ≤ 65536) (h0 : 0 ≤ lf - 1) (h1 : lf ≤ 4096) (hw : w = (n + 1 : Nat)) (h : numR b 0 0 = some (m, l)) (hkk : (k.toNat : Int) ≠ 1 ∧ ((k.toNat : Int) = 2 → l.length < m) ∧ ((k.toNat : Int) = 3 → l.length < m)) :
    Fn prog 39 [.ptr 0 0, .int .i64 w] [.box [.sl true 0 false 1 (O.o bts (k :: b)), .bool false, .int .i64 lf]] [.agg ((Cel.mk k.toNat 0 ByteArray.empty []).en O)] [.box [.sl true 0 false 1 (O.o bts l), .bool true, .int .i64 (lf - 1)]] := by
  have hlen : (O.o bts (k :: b)).length = b.length + 1 := by rw [O.h, bts_len]; rfl
  have hlen2 : (O.o bts l).length = l.length := by rw [O.h, bts_len]
  have hll := numR_len b 0 0 h
  have hml := numR_lt h
  have h00 : O.o Cels.enc [] = [] := by rw [O.h, Cels.enc]
  have hk := u8lt k
  obtain ⟨v, hv⟩ : ∃ v : Int, v = k.toNat := ⟨_, rfl⟩
  have rx : (O.o bts (k :: b))[0]? = some [.int .u8 v] := by rw [O.h, hv]; rfl
  rw [← hv] at hkk ⊢
  obtain ⟨lf', hlf⟩ : ∃ l, l = lf - 1 := ⟨_, rfl⟩
  rw [← hlf]
  obtain ⟨mi, hmi⟩ : ∃ x : Int, x = m := ⟨_, rfl⟩
  have hnum := fun {R : List (List PV)} {q : Int} (hR : R = O.o bts b) (hq : q = lf') => (by rw [hR, hq]; exact rnumber_fn O b (some (m, l)) lf' h (by omega) : Fn prog 44 [.ptr 0 0] [.box [.sl true 0 false 1 R, .bool false, .int .i64 q]] [.int .i64 (O.o numVal (some (m, l)))] [.box [.sl true 0 false 1 (O.o bts (O.o (numRest b) (some (m, l)))), .bool (O.o Option.isNone (some (m, l))), .int .i64 lf']])
  rw [show O.o numVal (some (m, l)) = mi by rw [O.h, hmi]; rfl, show O.o (numRest b) (some (m, l)) = l by rw [O.h]; rfl, show O.o Option.isNone (some (m, l)) = false by rw [O.h]; rfl] at hnum
  have hdr : (O.o bts (k :: b)).drop 1 = O.o bts b := by simp only [O.h]; rfl
  refine go (fn := Go.Proofs.Try.f39) (n := 144) (rv := [ResultVar.cell 4 39]) rfl (by decide) rfl (by decide +kernel) rfl rfl (by simp) fun F L C => ?_
  cbv
  (repeat' first | (refine Named.i64 ?_ fun _ _ => ?_; (focus lia); cbv) | (refine Ex.at [.int .u8 v] ⟨by clear rx hnum hdr; lia, rx⟩ ?_; cbv) | (refine CallThen.mk _ _ (C.fn (hnum ?_ ?_)) ?_; rotate_left 2; cbv) | (refine Named.len fun _ _ hq => ?_; (try simp only [List.length_append, List.length_take, List.length_drop, List.length_replicate, List.length_set] at hq); cbv) | (refine Named.mk fun _ _ => ?_; cbv) | (refine Br.t ?_ ?_; (focus first | assumption | lia); cbv) | (refine Br.f ?_ ?_; (focus first | assumption | lia); cbv) | (refine Br.mk (fun _ => ?_) (fun _ => ?_) <;> cbv) | (refine Need.mk ?_ ?_; rotate_left; cbv) | (refine RetThen.mk [] [] ?_; cbv))
  all_goals first
    | (exfalso; clear rx hnum hdr; lia)
    | exact ⟨.refl _, by symm; assumption, h00, trivial⟩
    | (clear rx hnum hdr; lia)
    | (subst_vars; exact hdr)
    | trace_state
end Go.Sym
