/- The library's functions that paths are told by. -/
import Derived.Test.YtdbpdcnpolaojaaGreatDoorJ9
import Derived.Test.YtdbpdcnpolaojaaGreatDoorJ4
import Derived.Test.YtdbpdcnpolaojaaGreatDoorJ6
set_option linter.all false
set_option linter.unusedVariables false
set_option linter.unusedSimpArgs false
namespace Go.Sym
open Go Go.Proofs.Tryz
set_option maxRecDepth 100000
theorem trim_fn (O : Opq) (s : ByteArray) (hs : s.size ≤ 1099511627776) : Fn prog 224 [.str s, .str letters] [] [.str (O.o trimW s letters.data.toList)] [] := by
  rw [O.h]
  exact fn_of_calls (fn := Go.Proofs.Tryz.f224) rfl (by decide) rfl (fun c us h => repL_str2 h) (fun c => .plain (.str _)) fun w => Go.Proofs.Any.strings_Trim_laid trimLays (by kernel_rfl) s letters w (by omega) (by decide) (Go.Proofs.ascii_of_all (by decide))
theorem countX_fn (O : Opq) (s : ByteArray) (c : Int) (hc : c = 46) : Fn prog 254 [.str s, .int .u8 c] [] [.int .i64 (O.o cnt s)] [] := by
  subst hc
  refine .inr ⟨rfl, fun k us _ _ h => ⟨.int .i64 (cnt s), ?_, by rw [O.h]; exact .plain (.int _ _)⟩⟩
  obtain rfl := repL_vals (vs := [.string s, .int .u8 46]) h (fun i x u p q => by
    match i, p with
    | 0, p => simp at p; subst p; have := (h.2 0 _ u rfl q).str_inv; simp [this]
    | 1, p => simp at p; subst p; have := (h.2 1 _ u rfl q).int_inv; simp [this]) rfl
  rw [run_callFunc_extern (fn := Go.Proofs.Tryz.f254) rfl (by decide) (by rfl) (by kernel_rfl) (e := Extern.BytealgCount.count) (by kernel_rfl), Lib.run_countString]
  rfl
theorem indexX_fn (O : Opq) (s : ByteArray) (c : Int) (hc : c = 46) : Fn prog 265 [.str s, .int .u8 c] [] [.int .i64 (O.o idx s)] [] := by
  subst hc
  refine .inr ⟨rfl, fun k us _ _ h => ⟨.int .i64 (idx s), ?_, by rw [O.h]; exact .plain (.int _ _)⟩⟩
  obtain rfl := repL_vals (vs := [.string s, .int .u8 46]) h (fun i x u p q => by
    match i, p with
    | 0, p => simp at p; subst p; have := (h.2 0 _ u rfl q).str_inv; simp [this]
    | 1, p => simp at p; subst p; have := (h.2 1 _ u rfl q).int_inv; simp [this]) rfl
  rw [run_callFunc_extern (fn := Go.Proofs.Tryz.f265) rfl (by decide) (by rfl) (by kernel_rfl) (e := Extern.BytealgIndexByte.indexByte) (by kernel_rfl), Lib.run_indexByteString]
  rfl
theorem indexByte_fn (O : Opq) (s : ByteArray) (c : Int) (hc : c = 46) : Fn prog 259 [.str s, .int .u8 c] [] [.int .i64 (O.o idx s)] [] := by
  refine go (fn := Go.Proofs.Tryz.f259) (n := 6) (rv := [ResultVar.tmp 4]) rfl (by decide) rfl (by decide +kernel) rfl rfl (by simp) fun F L C => ?_
  cbv
  (repeat' first | (refine Named.i64 ?_ fun _ _ => ?_; (focus lia); cbv) | (refine CallThen.mk _ _ (C.fn (indexX_fn O _ _ hc)) ?_; cbv) | (refine Named.len fun _ _ hq => ?_; (try simp only [List.length_append, List.length_take, List.length_drop, List.length_replicate, List.length_set] at hq); cbv) | (refine Named.mk fun _ _ => ?_; cbv) | (refine Br.t ?_ ?_; (focus first | assumption | lia); cbv) | (refine Br.f ?_ ?_; (focus first | assumption | lia); cbv) | (refine Br.mk (fun _ => ?_) (fun _ => ?_) <;> cbv) | (refine Need.mk ?_ ?_; rotate_left; cbv) | (refine RetThen.mk [] [] ?_; cbv))
theorem slIndex_fn (O : Opq) (s sep : ByteArray) (hd : sep = dot) : Fn prog 255 [.str s, .str sep] [] [.int .i64 (O.o idx s)] [] := by
  have h1 : sep.size = 1 := by rw [hd]; rfl
  have h2 : byteAt sep 0 = 46 := by rw [hd]; rfl
  have h3 : sep = s → idx s = 0 := by rw [hd]; rintro rfl; rfl
  clear hd
  refine go (fn := Go.Proofs.Tryz.f255) (n := 141) (rv := [ResultVar.tmp 4]) rfl (by decide) rfl (by decide +kernel) rfl rfl (by simp) fun F L C => ?_
  cbv
  (repeat' first | (refine Named.i64 ?_ fun _ _ => ?_; (focus lia); cbv) | (refine CallThen.mk _ _ (C.fn (indexByte_fn O _ _ (by lia))) ?_; cbv) | (refine Named.len fun _ _ hq => ?_; (try simp only [List.length_append, List.length_take, List.length_drop, List.length_replicate, List.length_set] at hq); cbv) | (refine Named.mk fun _ _ => ?_; cbv) | (refine Br.t ?_ ?_; (focus first | assumption | lia); cbv) | (refine Br.f ?_ ?_; (focus first | assumption | lia); cbv) | (refine Br.mk (fun _ => ?_) (fun _ => ?_) <;> cbv) | (refine Need.mk ?_ ?_; rotate_left; cbv) | (refine RetThen.mk [] [] ?_; cbv))
  all_goals first | (simp only [O.h]; exact ⟨h3 (by assumption), trivial⟩) | lia
theorem index_fn (O : Opq) (s sep : ByteArray) (hd : sep = dot) : Fn prog 248 [.str s, .str sep] [] [.int .i64 (O.o idx s)] [] := by
  refine go (fn := Go.Proofs.Tryz.f248) (n := 6) (rv := [ResultVar.tmp 4]) rfl (by decide) rfl (by decide +kernel) rfl rfl (by simp) fun F L C => ?_
  cbv
  (repeat' first | (refine Named.i64 ?_ fun _ _ => ?_; (focus lia); cbv) | (refine CallThen.mk _ _ (C.fn (slIndex_fn O _ _ hd)) ?_; cbv) | (refine Named.len fun _ _ hq => ?_; (try simp only [List.length_append, List.length_take, List.length_drop, List.length_replicate, List.length_set] at hq); cbv) | (refine Named.mk fun _ _ => ?_; cbv) | (refine Br.t ?_ ?_; (focus first | assumption | lia); cbv) | (refine Br.f ?_ ?_; (focus first | assumption | lia); cbv) | (refine Br.mk (fun _ => ?_) (fun _ => ?_) <;> cbv) | (refine Need.mk ?_ ?_; rotate_left; cbv) | (refine RetThen.mk [] [] ?_; cbv))
theorem count_fn (O : Opq) (s sep : ByteArray) (hd : sep = dot) : Fn prog 247 [.str s, .str sep] [] [.int .i64 (O.o cnt s)] [] := by
  have h1 : sep.size = 1 := by rw [hd]; rfl
  have h2 : byteAt sep 0 = 46 := by rw [hd]; rfl
  clear hd
  refine go (fn := Go.Proofs.Tryz.f247) (n := 32) (rv := [ResultVar.tmp 4]) rfl (by decide) rfl (by decide +kernel) rfl rfl (by simp) fun F L C => ?_
  cbv
  (repeat' first | (refine Named.i64 ?_ fun _ _ => ?_; (focus lia); cbv) | (refine CallThen.mk _ _ (C.fn (countX_fn O _ _ (by lia))) ?_; cbv) | (refine Named.len fun _ _ hq => ?_; (try simp only [List.length_append, List.length_take, List.length_drop, List.length_replicate, List.length_set] at hq); cbv) | (refine Named.mk fun _ _ => ?_; cbv) | (refine Br.t ?_ ?_; (focus first | assumption | lia); cbv) | (refine Br.f ?_ ?_; (focus first | assumption | lia); cbv) | (refine Br.mk (fun _ => ?_) (fun _ => ?_) <;> cbv) | (refine Need.mk ?_ ?_; rotate_left; cbv) | (refine RetThen.mk [] [] ?_; cbv))
  all_goals lia
structure Cut where
  done : List ByteArray
  cur : ByteArray
def Cut.rows (n : Nat) (x : Cut) : List (List PV) := Strs x.done ++ List.replicate (n - x.done.length) [.str ByteArray.empty]
def Cut.i (x : Cut) : Int := x.done.length
def Cut.next (x : Cut) : Cut := ⟨x.done ++ [x.cur.extract 0 (idx x.cur).toNat], x.cur.extract ((idx x.cur).toNat + 1) x.cur.size⟩
theorem Cut.rows_len (n : Nat) (x : Cut) (h : x.done.length ≤ n) : (Cut.rows n x).length = n := by
  rw [Cut.rows, List.length_append, Strs_len, List.length_replicate]; omega
theorem Cut.rows_at (n : Nat) (x : Cut) (h : x.done.length < n) : (Cut.rows n x)[x.done.length]? = some [.str ByteArray.empty] := by
  rw [Cut.rows, List.getElem?_append_right (by simp [Strs]), Strs_len, Nat.sub_self, List.getElem?_replicate, if_pos (by omega)]
theorem Cut.rows_set (n : Nat) (x : Cut) (h : x.done.length < n) (t : ByteArray) : (Cut.rows n x).set x.done.length [.str t] = Strs (x.done ++ [t]) ++ List.replicate (n - (x.done.length + 1)) [.str ByteArray.empty] := by
  rw [Cut.rows, List.set_append_right _ _ (by simp [Strs])]
  simp only [Strs, List.length_map, Nat.sub_self, List.map_append, List.map_cons, List.map_nil, List.append_assoc]
  rw [show n - x.done.length = (n - (x.done.length + 1)) + 1 by omega, List.replicate_succ]
  simp
theorem genSplit_fn (O : Opq) (s sep : ByteArray) (hd : sep = dot) (hs : s.size ≤ 1099511627776) : Fn prog 236 [.str s, .str sep, .int .i64 0, .int .i64 (-1)] [] [.sl false 0 false 1 (O.o Strs (O.o pieces s))] [] := by
  have h1 : sep.size = 1 := by rw [hd]; rfl
  have hemp : ¬ sep = ByteArray.empty := by rw [hd]; decide
  have hc := cnt_le s
  have e0 : O.o cnt s = cnt s := congrFun (O.h cnt) s
  obtain ⟨N, hN⟩ : ∃ N : Nat, (N : Int) = cnt s + 1 := ⟨(cnt s + 1).toNat, by omega⟩
  refine go (fn := Go.Proofs.Tryz.f236) (n := 62) (rv := [ResultVar.tmp 8]) rfl (by decide) rfl (by decide +kernel) rfl rfl (by simp) fun F L C => ?_
  cbv
  (repeat' first | (refine Named.i64 ?_ fun _ _ => ?_; (focus lia); cbv) | (refine CallThen.mk _ _ (C.fn (count_fn O _ _ hd)) ?_; cbv) | (refine Named.len fun _ _ hq => ?_; (try simp only [List.length_append, List.length_take, List.length_drop, List.length_replicate, List.length_set] at hq); cbv) | (refine Named.mk fun _ _ => ?_; cbv) | (refine Br.t ?_ ?_; (focus first | assumption | lia); cbv) | (refine Br.f ?_ ?_; (focus first | assumption | lia); cbv) | (refine Br.mk (fun _ => ?_) (fun _ => ?_) <;> cbv) | (refine Need.mk ?_ ?_; rotate_left; cbv) | (refine RetThen.mk [] [] ?_; cbv))
  · rename_i n1 e1 n2 e2 n3 e3 n4 e4 r5 e5 n6 e6
    clear hq
    have q4 : n4 = cnt s + 1 := by rw [e4]; split <;> lia
    have e6 : n6 = cnt s := by lia
    rw [show n4.toNat = N by lia] at e5
    subst e5
    clear e1 e2 e3 e4 q4
    refine LoopThen.mk (C.loopAt (ι := Cut) [(0, 0), (10, 11), (34, 57)] (fun x => [(0, .str x.cur), (10, .int .i64 (O.o Cut.i x))]) (fun x => [(2112, .arr 1 none 1 (O.o (Cut.rows N) x))])
      (fun x => pieces s = x.done ++ pieces x.cur ∧ cnt x.cur = cnt s - x.done.length ∧ x.cur.size ≤ s.size) (fun x => (cnt s).toNat - x.done.length) (by decide +kernel) (Start.mk ⟨[], s⟩ [] [] (by simp) ?_) ?_)
    · obtain ⟨z, hz⟩ : ∃ z : Cut, z = ⟨[], s⟩ := ⟨_, rfl⟩
      rw [← hz]
      generalize hr : List.replicate N _ = r
      cbv
      subst hz hr
      refine ⟨WkR.of_eq ?_, rfl, ?_⟩
      · simp only [O.h, Cut.rows, Strs, List.map_nil, List.length_nil, List.nil_append, Nat.sub_zero]; rfl
      · simp [O.h, Cut.i]
    intro x
    obtain ⟨ci, eci⟩ : ∃ ci, ci = O.o Cut.i x := ⟨_, rfl⟩
    obtain ⟨cr, ecr⟩ : ∃ cr, cr = O.o (Cut.rows N) x := ⟨_, rfl⟩
    rw [← eci, ← ecr]
    rw [O.h] at eci ecr
    rintro ⟨i1, i2, i3⟩
    simp only [Cut.i] at eci
    have hlen := Cut.rows_len N x
    rw [← ecr] at hlen
    have hcur := cnt_le x.cur
    have hpos : 0 < cnt x.cur → _ := cnt_pos
    have hix : O.o idx x.cur = idx x.cur := congrFun (O.h idx) x.cur
    cbv
    (repeat' first | (refine Named.i64 ?_ fun _ _ => ?_; (focus lia); cbv) | (refine CallThen.mk _ _ (C.fn (index_fn O _ _ hd)) ?_; cbv) | (refine Ex.mk [.str ByteArray.empty] ?_ ?_; rotate_left; cbv) | (refine RetThen.mk [] [2112] ?_; cbv) | (refine Back.to (Cut.next x) [] [] ?_ fun _ _ => ?_; rotate_left; cbv) | (refine Named.len fun _ _ hq => ?_; (try simp only [List.length_append, List.length_take, List.length_drop, List.length_replicate, List.length_set] at hq); cbv) | (refine Named.mk fun _ _ => ?_; cbv) | (refine Br.t ?_ ?_; (focus first | assumption | lia); cbv) | (refine Br.f ?_ ?_; (focus first | assumption | lia); cbv) | (refine Br.mk (fun _ => ?_) (fun _ => ?_) <;> cbv) | (refine Need.mk ?_ ?_; rotate_left; cbv) | (refine RetThen.mk [] [] ?_; cbv))
    · -- the next round
      rename_i y hy
      subst hy
      obtain ⟨p0, p1, p2, p3⟩ := hpos (by lia)
      rename_i m em t et k ek r er l el l2 el2 t2 et2 i ei
      clear hq
      rw [hix, Int.add_zero] at em
      rw [hix] at el2
      subst em et ek er el2 et2 ei
      refine ⟨WkR.of_eq ?_, ?_, ?_, trivial⟩
      · simp only [O.h]
        rw [eci, ecr, Int.toNat_natCast]
        show _ = (Cut.rows N x).set _ [.str _]
        rw [Cut.rows_set _ _ (by lia)]
        simp [Cut.next, Cut.rows]
      · show x.cur.extract _ _ = _
        rw [show (idx x.cur + l).toNat = (idx x.cur).toNat + 1 by lia]
      · simp only [O.h]; simp [Cut.i, Cut.next, eci]
    · obtain ⟨p0, p1, p2, p3⟩ := hpos (by lia)
      refine ⟨⟨?_, ?_, ?_⟩, ?_⟩
      · simp only [Cut.next, List.append_assoc, List.singleton_append]; rw [i1, p2]
      · simp only [Cut.next, List.length_append, List.length_singleton]; rw [p3]; lia
      · simp only [Cut.next]; rw [ByteArray.size_extract]; lia
      · simp only [Cut.next, List.length_append, List.length_singleton]; lia
    · lia
    · refine ⟨by lia, ?_⟩
      rename_i k ek
      rw [show (Int.ofNat k).toNat = x.done.length by lia, ecr]
      exact Cut.rows_at _ _ (by lia)
    · lia
    · lia
    · -- the end
      rename_i k ek r er hr i ei n en rs ers
      clear hr hq
      rw [show n = x.done.length + 1 by lia, er, ek, eci, ecr] at ers
      have h0 := cnt_zero (s := x.cur) (by lia)
      subst ers
      refine ⟨WkR.of_eq ?_, trivial⟩
      simp only [O.h]
      rw [i1, h0]
      show _ = List.take _ (((Cut.rows N x).set (Int.toNat _) [.str x.cur]).drop 0)
      rw [Int.toNat_natCast, Cut.rows_set _ _ (by lia), List.drop_zero, List.take_append_of_le_length (by simp [Strs]), List.take_of_length_le (by simp [Strs])]
    · rename_i k ek r er i ei
      have := hlen (by lia)
      lia
    · refine ⟨by lia, ?_⟩
      rename_i k ek
      rw [show (Int.ofNat k).toNat = x.done.length by lia, ecr]
      exact Cut.rows_at _ _ (by lia)
    · have := hlen (by lia)
      lia
  · rename_i n1 e1 n2 e2 n3 e3 n4 e4
    have q4 : n4 = cnt s + 1 := by rw [e4]; split <;> lia
    dsimp only
    lia
theorem split_fn (O : Opq) (s sep : ByteArray) (hd : sep = dot) (hs : s.size ≤ 1099511627776) : Fn prog 222 [.str s, .str sep] [] [.sl false 0 false 1 (O.o Strs (O.o pieces s))] [] := by
  refine go (fn := Go.Proofs.Tryz.f222) (n := 6) (rv := [ResultVar.tmp 4]) rfl (by decide) rfl (by decide +kernel) rfl rfl (by simp) fun F L C => ?_
  cbv
  (repeat' first | (refine Named.i64 ?_ fun _ _ => ?_; (focus lia); cbv) | (refine CallThen.mk _ _ (C.fn (genSplit_fn O _ _ hd hs)) ?_; cbv) | (refine Named.len fun _ _ hq => ?_; (try simp only [List.length_append, List.length_take, List.length_drop, List.length_replicate, List.length_set] at hq); cbv) | (refine Named.mk fun _ _ => ?_; cbv) | (refine Br.t ?_ ?_; (focus first | assumption | lia); cbv) | (refine Br.f ?_ ?_; (focus first | assumption | lia); cbv) | (refine Br.mk (fun _ => ?_) (fun _ => ?_) <;> cbv) | (refine Need.mk ?_ ?_; rotate_left; cbv) | (refine RetThen.mk [] [] ?_; cbv))
  all_goals exact ⟨.refl _, trivial⟩
end Go.Sym
namespace Go.Sym
open Go Go.Proofs.Tryz
set_option maxRecDepth 100000
theorem badW_fn (O : Opq) (s : ByteArray) (hs : s.size ≤ 1099511627776) : Fn prog 223 [.str s] [] [.bool (O.o badW s)] [] := by
  have t := trimW_empty s
  refine go (fn := Go.Proofs.Tryz.f223) (n := 9) (rv := [ResultVar.tmp 2]) rfl (by decide) rfl (by decide +kernel) rfl rfl (by simp) fun F L C => ?_
  cbv
  (repeat' first | (refine Named.i64 ?_ fun _ _ => ?_; (focus lia); cbv) | (refine CallThen.mk _ _ (C.fn (trim_fn O _ hs)) ?_; cbv) | (refine Named.len fun _ _ hq => ?_; (try simp only [List.length_append, List.length_take, List.length_drop, List.length_replicate, List.length_set] at hq); cbv) | (refine Named.mk fun _ _ => ?_; cbv) | (refine Br.t ?_ ?_; (focus first | assumption | lia); cbv) | (refine Br.f ?_ ?_; (focus first | assumption | lia); cbv) | (refine Br.mk (fun _ => ?_) (fun _ => ?_) <;> cbv) | (refine Need.mk ?_ ?_; rotate_left; cbv) | (refine RetThen.mk [] [] ?_; cbv))
  all_goals simp only [O.h, badW] at *
  · rename_i h; subst h; exact ⟨rfl, trivial⟩
  · rename_i h1 h2
    rw [t.1 h2]
    refine ⟨?_, trivial⟩
    have : s.data.toList ≠ [] := fun e => h1 (eq_of_toL e)
    simpa using this
  · rename_i h1 h2
    refine ⟨?_, trivial⟩
    have : (s.data.toList.any fun c => !isLet c.toNat) = true := by
      cases hx : s.data.toList.any fun c => !isLet c.toNat with
      | true => rfl
      | false => exact absurd (t.2 hx) h2
    rw [this, Bool.or_true]
theorem indexBad_fn (O : Opq) (l : List ByteArray) (hl : l.length ≤ 1099511627777) (hs : ∀ s ∈ l, s.size ≤ 1099511627776) : Fn prog 235 [.sl false 0 false 1 (O.o Strs l), .fn 223 [] []] [] [.int .i64 (O.o (findI badW) l)] [] := by
  have hlen : (O.o Strs l).length = l.length := by rw [O.h, Strs_len]
  obtain ⟨N, hN⟩ : ∃ N : Nat, N = l.length := ⟨_, rfl⟩
  refine go (fn := Go.Proofs.Tryz.f235) (n := 17) (rv := [ResultVar.tmp 4]) rfl (by decide) rfl (by decide +kernel) rfl rfl (by simp) fun F L C => ?_
  cbv
  (repeat' first | (refine Named.i64 ?_ fun _ _ => ?_; (focus lia); cbv) | (refine Named.len fun _ _ hq => ?_; (try simp only [List.length_append, List.length_take, List.length_drop, List.length_replicate, List.length_set] at hq); cbv) | (refine Named.mk fun _ _ => ?_; cbv) | (refine Br.t ?_ ?_; (focus first | assumption | lia); cbv) | (refine Br.f ?_ ?_; (focus first | assumption | lia); cbv) | (refine Br.mk (fun _ => ?_) (fun _ => ?_) <;> cbv) | (refine Need.mk ?_ ?_; rotate_left; cbv) | (refine RetThen.mk [] [] ?_; cbv))
  refine LoopThen.mk (C.loopAt (ι := Nat) [(4, 5), (8, 18)] (fun k => [(4, .int .i64 0), (8, .int .i64 k)]) (fun _ => [])
    (fun k => k ≤ l.length ∧ ∀ (j : Nat) y, j < k → l[j]? = some y → badW y = false) (fun k => N - k) (by decide +kernel) (Start.mk 0 [] [] (by simp) (by cbv; exact ⟨.refl _, .refl _, rfl, trivial⟩)) ?_)
  rintro k ⟨h1, h2⟩
  cbv
  (repeat' first | (refine Named.i64 ?_ fun _ _ => ?_; (focus lia); cbv) | (refine Ex.map O (fun s => [.str s]) rfl ?_ fun _ _ => ?_; rotate_left; cbv) | (refine CallThen.bool (C.fn (badW_fn O _ (hs _ (List.mem_of_getElem? (by assumption))))) (fun _ => ?_) (fun _ => ?_) <;> cbv) | (refine Back.up [] [] ?_ ?_ fun _ _ => ?_; rotate_left 2; cbv) | (refine Named.len fun _ _ hq => ?_; (try simp only [List.length_append, List.length_take, List.length_drop, List.length_replicate, List.length_set] at hq); cbv) | (refine Named.mk fun _ _ => ?_; cbv) | (refine Br.t ?_ ?_; (focus first | assumption | lia); cbv) | (refine Br.f ?_ ?_; (focus first | assumption | lia); cbv) | (refine Br.mk (fun _ => ?_) (fun _ => ?_) <;> cbv) | (refine Need.mk ?_ ?_; rotate_left; cbv) | (refine RetThen.mk [] [] ?_; cbv))
  all_goals (try subst_vars)
  all_goals (try simp only [O.h, natTo, natPred, emp] at *)
  all_goals (try subst_vars)
  all_goals (repeat' apply And.intro)
  all_goals first
    | exact True.intro
    | exact WkR.refl _
    | lia
    | (simp_all []; done)
    | (simp_all [] <;> lia)
    | (grind)
    | skip
  · exact findI_at (by assumption) (by assumption) h2
  · exact findI_none fun j y hj => h2 j y (by lia)
theorem containsBad_fn (O : Opq) (l : List ByteArray) (hl : l.length ≤ 1099511627777) (hs : ∀ s ∈ l, s.size ≤ 1099511627776) : Fn prog 221 [.sl false 0 false 1 (O.o Strs l), .fn 223 [] []] [] [.bool (O.o (List.any l) badW)] [] := by
  have h := findI_ge (p := badW) (l := l)
  refine go (fn := Go.Proofs.Tryz.f221) (n := 7) (rv := [ResultVar.tmp 4]) rfl (by decide) rfl (by decide +kernel) rfl rfl (by simp) fun F L C => ?_
  cbv
  (repeat' first | (refine Named.i64 ?_ fun _ _ => ?_; (focus lia); cbv) | (refine CallThen.mk _ _ (C.fn (indexBad_fn O _ hl hs)) ?_; cbv) | (refine Named.len fun _ _ hq => ?_; (try simp only [List.length_append, List.length_take, List.length_drop, List.length_replicate, List.length_set] at hq); cbv) | (refine Named.mk fun _ _ => ?_; cbv) | (refine Br.t ?_ ?_; (focus first | assumption | lia); cbv) | (refine Br.f ?_ ?_; (focus first | assumption | lia); cbv) | (refine Br.mk (fun _ => ?_) (fun _ => ?_) <;> cbv) | (refine Need.mk ?_ ?_; rotate_left; cbv) | (refine RetThen.mk [] [] ?_; cbv))
  all_goals (try subst_vars)
  all_goals (try simp only [O.h, natTo, natPred, emp] at *)
  all_goals (try subst_vars)
  all_goals (repeat' apply And.intro)
  all_goals first
    | exact True.intro
    | exact WkR.refl _
    | lia
    | (simp_all []; done)
    | (simp_all [] <;> lia)
    | (grind)
    | skip
theorem path_fn (O : Opq) (s : ByteArray) : Fn prog 209 [.str s] [] [.bool (O.o isPath s)] [] := by
  have h := isPath_pieces s
  have hk : O.o isKey s = true → s.size ≤ 1099511627776 := by rw [O.h, isKey, decide_eq_true_eq]; omega
  refine go (fn := Go.Proofs.Tryz.f209) (n := 10) (rv := [ResultVar.tmp 2]) rfl (by decide) rfl (by decide +kernel) rfl rfl (by simp) fun F L C => ?_
  cbv
  (repeat' first | (refine Named.i64 ?_ fun _ _ => ?_; (focus lia); cbv) | (refine CallThen.bool (C.fn (key_fn O _)) (fun _ => ?_) (fun _ => ?_) <;> cbv) | (refine CallThen.mk _ _ (C.fn (split_fn O _ _ rfl (hk (by assumption)))) ?_; cbv) | (refine CallThen.bool (C.fn (containsBad_fn O _ (by simp only [O.h]; exact pieces_len (hk (by assumption))) (by simp only [O.h]; exact pieces_size (hk (by assumption))))) (fun _ => ?_) (fun _ => ?_) <;> cbv) | (refine Named.len fun _ _ hq => ?_; (try simp only [List.length_append, List.length_take, List.length_drop, List.length_replicate, List.length_set] at hq); cbv) | (refine Named.mk fun _ _ => ?_; cbv) | (refine Br.t ?_ ?_; (focus first | assumption | lia); cbv) | (refine Br.f ?_ ?_; (focus first | assumption | lia); cbv) | (refine Br.mk (fun _ => ?_) (fun _ => ?_) <;> cbv) | (refine Need.mk ?_ ?_; rotate_left; cbv) | (refine RetThen.mk [] [] ?_; cbv))
  all_goals (try subst_vars)
  all_goals (try simp only [O.h, natTo, natPred, emp] at *)
  all_goals (try subst_vars)
  all_goals (repeat' apply And.intro)
  all_goals first
    | exact True.intro
    | exact WkR.refl _
    | lia
    | (simp_all []; done)
    | (simp_all [] <;> lia)
    | (grind)
    | skip
theorem checkL_fn (O : Opq) (d : Doc) (hd : d.length ≤ 1099511627776) : Fn prog 165 [.sl true 0 false 6 (O.o Doc.enc d)] [] [.int .i64 (O.o docErr d)] [] := by
  have hlen : (O.o Doc.enc d).length = d.length := by rw [O.h, Doc.enc_len]
  obtain ⟨N, hN⟩ : ∃ N : Nat, N = d.length := ⟨_, rfl⟩
  refine go (fn := Go.Proofs.Tryz.f165) (n := 41) (rv := [ResultVar.tmp 2]) rfl (by decide) rfl (by decide +kernel) rfl rfl (by simp) fun F L C => ?_
  cbv
  (repeat' first | (refine Named.i64 ?_ fun _ _ => ?_; (focus lia); cbv) | (refine Named.len fun _ _ hq => ?_; (try simp only [List.length_append, List.length_take, List.length_drop, List.length_replicate, List.length_set] at hq); cbv) | (refine Named.mk fun _ _ => ?_; cbv) | (refine Br.t ?_ ?_; (focus first | assumption | lia); cbv) | (refine Br.f ?_ ?_; (focus first | assumption | lia); cbv) | (refine Br.mk (fun _ => ?_) (fun _ => ?_) <;> cbv) | (refine Need.mk ?_ ?_; rotate_left; cbv) | (refine RetThen.mk [] [] ?_; cbv))
  refine LoopThen.mk (C.loopAt (ι := Nat) [(2, 4), (7, 41)] (fun k => [(2, .int .i64 0), (7, .int .i64 k)]) (fun _ => [])
    (fun k => k ≤ d.length ∧ k ≤ 16 ∧ ∀ (j : Nat), j < k → okAt d j) (fun k => N - k) (by decide +kernel) (Start.mk 0 [] [] (by simp) (by cbv; exact ⟨.refl _, .refl _, rfl, trivial⟩)) ?_)
  rintro k ⟨h1, h2, h3⟩
  cbv
  (repeat' first | (refine Named.i64 ?_ fun _ _ => ?_; (focus lia); cbv) | (refine Ex.map O Field.enc rfl ?_ fun x hx => ?_; rotate_left; obtain ⟨p, k', n', t', a', b'⟩ := x; cbv) | (refine CallThen.bool (C.fn (path_fn O _)) (fun _ => ?_) (fun _ => ?_) <;> cbv) | (refine CallThen.mk _ _ (C.fn (rcheck_fn O ⟨_, _, _, _, _⟩)) ?_; cbv) | (refine Back.up [] [] ?_ ?_ fun _ _ => ?_; rotate_left 2; cbv) | (refine Named.len fun _ _ hq => ?_; (try simp only [List.length_append, List.length_take, List.length_drop, List.length_replicate, List.length_set] at hq); cbv) | (refine Named.mk fun _ _ => ?_; cbv) | (refine Br.t ?_ ?_; (focus first | assumption | lia); cbv) | (refine Br.f ?_ ?_; (focus first | assumption | lia); cbv) | (refine Br.mk (fun _ => ?_) (fun _ => ?_) <;> cbv) | (refine Need.mk ?_ ?_; rotate_left; cbv) | (refine RetThen.mk [] [] ?_; cbv))
  all_goals (try subst_vars)
  all_goals (try simp only [O.h, natTo, natPred, emp, Val.err_ok] at *)
  all_goals (try subst_vars)
  all_goals (repeat' apply And.intro)
  all_goals first
    | exact True.intro
    | exact WkR.refl _
    | lia
    | exact docErr_long (by lia)
    | exact docErr_ok (by lia) fun i hi => h3 i (by lia)
    | (refine docErr_bad (i := k) (by assumption) ?_; clear C; clear hd; clear h3; clear hlen; dsimp only; grind [slt_asymm, slt_irrefl, slt_not])
    | (refine okAt_step h3 ((okAt_iff (k := k) (by assumption)).2 ?_); dsimp only; clear C; clear h3; clear hlen; grind [slt_asymm, slt_irrefl, slt_not])
theorem check_fn (O : Opq) (d : Doc) (hd : d.length ≤ 1099511627776) : Fn prog 165 [.sl false 0 false 6 (O.o Doc.enc d)] [] [.int .i64 (O.o docErr d)] [] :=
  (checkL_fn O d hd).wkA (.cons (.lend rfl) .nil)
theorem mayL_fn (O : Opq) (d : Doc) (hd : d.length ≤ 1099511627776) (hs : ∀ f ∈ d, f.path.size ≤ 9223372036854775807) : Fn prog 101 [.sl true 0 false 6 (O.o Doc.enc d)] [] [.bool (O.o may d)] [] := by
  have hlen : (O.o Doc.enc d).length = d.length := by rw [O.h, Doc.enc_len]
  obtain ⟨N, hN⟩ : ∃ N : Nat, N = d.length := ⟨_, rfl⟩
  refine go (fn := Go.Proofs.Tryz.f101) (n := 46) (rv := [ResultVar.tmp 2]) rfl (by decide) rfl (by decide +kernel) rfl rfl (by simp) fun F L C => ?_
  cbv
  (repeat' first | (refine Named.i64 ?_ fun _ _ => ?_; (focus lia); cbv) | (refine Named.len fun _ _ hq => ?_; (try simp only [List.length_append, List.length_take, List.length_drop, List.length_replicate, List.length_set] at hq); cbv) | (refine Named.mk fun _ _ => ?_; cbv) | (refine Br.t ?_ ?_; (focus first | assumption | lia); cbv) | (refine Br.f ?_ ?_; (focus first | assumption | lia); cbv) | (refine Br.mk (fun _ => ?_) (fun _ => ?_) <;> cbv) | (refine Need.mk ?_ ?_; rotate_left; cbv) | (refine RetThen.mk [] [] ?_; cbv))
  refine LoopThen.mk (C.loopAt (ι := Nat) [(2, 43)] (fun k => [(2, .bool false), (3, .int .i64 k)]) (fun _ => [])
    (fun k => k ≤ d.length ∧ ∀ (j : Nat), j < k → okAt d j) (fun k => N - k) (by decide +kernel) (Start.mk 0 [] [] (by simp) (by cbv; exact ⟨.refl _, rfl, trivial⟩)) ?_)
  rintro k ⟨h1, h3⟩
  cbv
  (repeat' first | (refine Named.i64 ?_ fun _ _ => ?_; (focus lia); cbv) | (refine Ex.map O Field.enc rfl ?_ fun x hx => ?_; rotate_left; obtain ⟨p, k', n', t', a', b'⟩ := x; cbv) | (refine CallThen.bool (C.fn (rpath_fn O _ (hs _ (List.mem_of_getElem? (by assumption))))) (fun _ => ?_) (fun _ => ?_) <;> cbv) | (refine CallThen.mk _ _ (C.fn (rcheck2_fn O ⟨_, _, _, _, _⟩)) ?_; cbv) | (refine Back.up [] [] ?_ ?_ fun _ _ => ?_; rotate_left 2; cbv) | (refine Named.len fun _ _ hq => ?_; (try simp only [List.length_append, List.length_take, List.length_drop, List.length_replicate, List.length_set] at hq); cbv) | (refine Named.mk fun _ _ => ?_; cbv) | (refine Br.t ?_ ?_; (focus first | assumption | lia); cbv) | (refine Br.f ?_ ?_; (focus first | assumption | lia); cbv) | (refine Br.mk (fun _ => ?_) (fun _ => ?_) <;> cbv) | (refine Need.mk ?_ ?_; rotate_left; cbv) | (refine RetThen.mk [] [] ?_; cbv))
  all_goals (try subst_vars)
  all_goals (try simp only [O.h, natTo, natPred, emp, Val.err_ok] at *)
  all_goals (try subst_vars)
  all_goals (repeat' apply And.intro)
  all_goals first
    | exact True.intro
    | exact WkR.refl _
    | lia
    | exact may_long (by lia)
    | exact may_true (by lia) fun i hi => h3 i (by lia)
    | (refine may_false (i := k) (by lia) fun hk => absurd ((okAt_iff (k := k) (by assumption)).1 hk) ?_; clear C; clear hs; clear hd; clear h3; clear hlen; dsimp only; grind [slt_asymm, slt_irrefl, slt_not])
    | (refine okAt_step h3 ((okAt_iff (k := k) (by assumption)).2 ?_); dsimp only; clear C; clear hs; clear h3; clear hlen; grind [slt_asymm, slt_irrefl, slt_not])
theorem may_fn (O : Opq) (d : Doc) (hd : d.length ≤ 1099511627776) (hs : ∀ f ∈ d, f.path.size ≤ 9223372036854775807) : Fn prog 101 [.sl false 0 false 6 (O.o Doc.enc d)] [] [.bool (O.o may d)] [] :=
  (mayL_fn O d hd hs).wkA (.cons (.lend rfl) .nil)
end Go.Sym
