/- Values and documents: the walks. -/
import Derived.Test.YtdbpdcnpolaojaaDoorJ9
import Derived.Test.YtdbpdcnpolaojaaDoorJ4
import Derived.Test.YtdbpdcnpolaojaaDoorProg
import Derived.Shelf.Strings.SlTrimAscii
set_option linter.all false
set_option linter.unusedVariables false
set_option linter.unusedSimpArgs false
namespace Go.Sym
open Go Go.Proofs.Tryd
set_option maxRecDepth 100000
theorem num_fn (O : Opq) (n : Int) : Fn prog 57 [.int .i64 n] [] [.agg (numV n).enc] [] := by
  refine go (fn := Go.Proofs.Tryd.f57) (n := 4) (rv := [ResultVar.cell 2 48]) rfl (by decide) rfl (by decide +kernel) rfl rfl (by simp) fun F L C => ?_
  cbv
  (repeat' first | (refine Named.i64 ?_ fun _ _ => ?_; (focus lia); cbv) | (refine Named.len fun _ _ hq => ?_; (try simp only [List.length_append, List.length_take, List.length_drop, List.length_replicate, List.length_set] at hq); cbv) | (refine Named.mk fun _ _ => ?_; cbv) | (refine Br.t ?_ ?_; (focus first | assumption | lia); cbv) | (refine Br.f ?_ ?_; (focus first | assumption | lia); cbv) | (refine Br.mk (fun _ => ?_) (fun _ => ?_) <;> cbv) | (refine Need.mk ?_ ?_; rotate_left; cbv) | (refine RetThen.mk [] [] ?_; cbv))
theorem text_fn (O : Opq) (s : ByteArray) : Fn prog 60 [.str s] [] [.agg (textV s).enc] [] := by
  refine go (fn := Go.Proofs.Tryd.f60) (n := 4) (rv := [ResultVar.cell 2 48]) rfl (by decide) rfl (by decide +kernel) rfl rfl (by simp) fun F L C => ?_
  cbv
  (repeat' first | (refine Named.i64 ?_ fun _ _ => ?_; (focus lia); cbv) | (refine Named.len fun _ _ hq => ?_; (try simp only [List.length_append, List.length_take, List.length_drop, List.length_replicate, List.length_set] at hq); cbv) | (refine Named.mk fun _ _ => ?_; cbv) | (refine Br.t ?_ ?_; (focus first | assumption | lia); cbv) | (refine Br.f ?_ ?_; (focus first | assumption | lia); cbv) | (refine Br.mk (fun _ => ?_) (fun _ => ?_) <;> cbv) | (refine Need.mk ?_ ?_; rotate_left; cbv) | (refine RetThen.mk [] [] ?_; cbv))
theorem point_fn (O : Opq) (a b : Int) : Fn prog 58 [.int .i64 a, .int .i64 b] [] [.agg (pointV a b).enc] [] := by
  refine go (fn := Go.Proofs.Tryd.f58) (n := 7) (rv := [ResultVar.cell 4 48]) rfl (by decide) rfl (by decide +kernel) rfl rfl (by simp) fun F L C => ?_
  cbv
  (repeat' first | (refine Named.i64 ?_ fun _ _ => ?_; (focus lia); cbv) | (refine Named.len fun _ _ hq => ?_; (try simp only [List.length_append, List.length_take, List.length_drop, List.length_replicate, List.length_set] at hq); cbv) | (refine Named.mk fun _ _ => ?_; cbv) | (refine Br.t ?_ ?_; (focus first | assumption | lia); cbv) | (refine Br.f ?_ ?_; (focus first | assumption | lia); cbv) | (refine Br.mk (fun _ => ?_) (fun _ => ?_) <;> cbv) | (refine Need.mk ?_ ?_; rotate_left; cbv) | (refine RetThen.mk [] [] ?_; cbv))
theorem part_fn (O : Opq) (a : Int) : Fn prog 59 [.int .i64 a] [] [.bool (O.o isPart a)] [] := by
  refine go (fn := Go.Proofs.Tryd.f59) (n := 8) (rv := [ResultVar.tmp 2]) rfl (by decide) rfl (by decide +kernel) rfl rfl (by simp) fun F L C => ?_
  cbv
  (repeat' first | (refine Named.i64 ?_ fun _ _ => ?_; (focus lia); cbv) | (refine Named.len fun _ _ hq => ?_; (try simp only [List.length_append, List.length_take, List.length_drop, List.length_replicate, List.length_set] at hq); cbv) | (refine Named.mk fun _ _ => ?_; cbv) | (refine Br.t ?_ ?_; (focus first | assumption | lia); cbv) | (refine Br.f ?_ ?_; (focus first | assumption | lia); cbv) | (refine Br.mk (fun _ => ?_) (fun _ => ?_) <;> cbv) | (refine Need.mk ?_ ?_; rotate_left; cbv) | (refine RetThen.mk [] [] ?_; cbv))
  all_goals (try subst_vars)
  all_goals (try simp only [O.h, natTo, natPred, emp] at *)
  all_goals (try subst_vars)
  all_goals (repeat' apply And.intro)
  all_goals first
    | exact True.intro
    | exact WkR.refl _
    | lia
    | (simp_all [isPart]; done)
    | (simp_all [isPart] <;> lia)
    | (grind [isPart])
    | skip
theorem key_fn (O : Opq) (s : ByteArray) : Fn prog 19 [.str s] [] [.bool (O.o isKey s)] [] := by
  refine go (fn := Go.Proofs.Tryd.f19) (n := 10) (rv := [ResultVar.tmp 2]) rfl (by decide) rfl (by decide +kernel) rfl rfl (by simp) fun F L C => ?_
  cbv
  (repeat' first | (refine Named.i64 ?_ fun _ _ => ?_; (focus lia); cbv) | (refine Named.len fun _ _ hq => ?_; (try simp only [List.length_append, List.length_take, List.length_drop, List.length_replicate, List.length_set] at hq); cbv) | (refine Named.mk fun _ _ => ?_; cbv) | (refine Br.t ?_ ?_; (focus first | assumption | lia); cbv) | (refine Br.f ?_ ?_; (focus first | assumption | lia); cbv) | (refine Br.mk (fun _ => ?_) (fun _ => ?_) <;> cbv) | (refine Need.mk ?_ ?_; rotate_left; cbv) | (refine RetThen.mk [] [] ?_; cbv))
  all_goals (try subst_vars)
  all_goals (try simp only [O.h, natTo, natPred, emp] at *)
  all_goals (try subst_vars)
  all_goals (repeat' apply And.intro)
  all_goals first
    | exact True.intro
    | exact WkR.refl _
    | lia
    | (simp_all [isKey]; done)
    | (simp_all [isKey] <;> lia)
    | (grind [isKey])
    | skip
theorem rcheck_fn (O : Opq) (v : Val) : Fn prog 47 [.agg v.enc] [] [.int .i64 (O.o Val.err v)] [] := by
  refine go (fn := Go.Proofs.Tryd.f47) (n := 58) (rv := [ResultVar.tmp 2]) rfl (by decide) rfl (by decide +kernel) rfl rfl (by simp) fun F L C => ?_
  cbv
  (repeat' first | (refine Named.i64 ?_ fun _ _ => ?_; (focus lia); cbv) | (refine CallThen.mk _ _ (C.fn (num_fn O _)) ?_; cbv) | (refine CallThen.mk _ _ (C.fn (text_fn O _)) ?_; cbv) | (refine CallThen.mk _ _ (C.fn (point_fn O _ _)) ?_; cbv) | (refine CallThen.bool (C.fn (part_fn O _)) (fun _ => ?_) (fun _ => ?_) <;> cbv) | (refine Named.len fun _ _ hq => ?_; (try simp only [List.length_append, List.length_take, List.length_drop, List.length_replicate, List.length_set] at hq); cbv) | (refine Named.mk fun _ _ => ?_; cbv) | (refine Br.t ?_ ?_; (focus first | assumption | lia); cbv) | (refine Br.f ?_ ?_; (focus first | assumption | lia); cbv) | (refine Br.mk (fun _ => ?_) (fun _ => ?_) <;> cbv) | (refine Need.mk ?_ ?_; rotate_left; cbv) | (refine RetThen.mk [] [] ?_; cbv))
  all_goals (try subst_vars)
  all_goals (try simp only [O.h, natTo, natPred, emp] at *)
  all_goals (try subst_vars)
  all_goals (repeat' apply And.intro)
  all_goals first
    | exact True.intro
    | exact WkR.refl _
    | lia
    | (simp_all [Val.err, Val.Ok, isPart]; done)
    | (simp_all [Val.err, Val.Ok, isPart] <;> lia)
    | (grind [Val.err, Val.Ok, isPart])
    | skip
theorem rcheck2_fn (O : Opq) (v : Val) : Fn prog 39 [.agg v.enc] [] [.int .i64 (O.o Val.err v)] [] := by
  refine go (fn := Go.Proofs.Tryd.f39) (n := 80) (rv := [ResultVar.tmp 2]) rfl (by decide) rfl (by decide +kernel) rfl rfl (by simp) fun F L C => ?_
  cbv
  (repeat' first | (refine Named.i64 ?_ fun _ _ => ?_; (focus lia); cbv) | (refine Named.len fun _ _ hq => ?_; (try simp only [List.length_append, List.length_take, List.length_drop, List.length_replicate, List.length_set] at hq); cbv) | (refine Named.mk fun _ _ => ?_; cbv) | (refine Br.t ?_ ?_; (focus first | assumption | lia); cbv) | (refine Br.f ?_ ?_; (focus first | assumption | lia); cbv) | (refine Br.mk (fun _ => ?_) (fun _ => ?_) <;> cbv) | (refine Need.mk ?_ ?_; rotate_left; cbv) | (refine RetThen.mk [] [] ?_; cbv))
  all_goals (try subst_vars)
  all_goals (try simp only [O.h, natTo, natPred, emp] at *)
  all_goals (try subst_vars)
  all_goals (repeat' apply And.intro)
  all_goals first
    | exact True.intro
    | exact WkR.refl _
    | lia
    | (simp_all [Val.err, Val.Ok, isPart]; done)
    | (simp_all [Val.err, Val.Ok, isPart] <;> lia)
    | (grind [Val.err, Val.Ok, isPart])
    | skip
theorem rpath_fn (O : Opq) (s : ByteArray) (hs : s.size ≤ 9223372036854775807) : Fn prog 38 [.str s] [] [.bool (O.o isPath s)] [] := by
  refine go (fn := Go.Proofs.Tryd.f38) (n := 43) (rv := [ResultVar.tmp 2]) rfl (by decide) rfl (by decide +kernel) rfl rfl (by simp) fun F L C => ?_
  cbv
  refine LoopThen.mk (C.loopAt [(2, 36)] (fun x : Int × Int => [(2, .bool false), (3, .int .i64 x.1), (4, .int .i64 x.2)]) (fun _ => []) (fun x => 0 ≤ x.1 ∧ 0 ≤ x.2 ∧ x.1 ≤ x.2 ∧ x.2 ≤ s.size ∧ scan (s.data.toList.drop x.2.toNat) (decide (0 < x.1)) = scan s.data.toList false) (fun x => s.size - x.2.toNat) (by decide +kernel) (Start.mk (0, 0) [] [] (by simp) (by cbv)) ?_)
  rintro ⟨w, i⟩ ⟨h1, h2, h3, h4, h5⟩
  simp only at h1 h2 h3 h4 h5
  have t1 := fun h => scan_step (s := s) h2 h (decide (0 < w))
  have t2 := fun h => scan_end (s := s) (i := i) h (decide (0 < w))
  cbv
  (repeat' first | (refine Named.i64 ?_ fun _ _ => ?_; (focus lia); cbv) | (apply Back.of (i := (_, _)) [] []; focus (cbv; exact ⟨rfl, rfl, trivial⟩)) | (refine Named.len fun _ _ hq => ?_; (try simp only [List.length_append, List.length_take, List.length_drop, List.length_replicate, List.length_set] at hq); cbv) | (refine Named.mk fun _ _ => ?_; cbv) | (refine Br.t ?_ ?_; (focus first | assumption | lia); cbv) | (refine Br.f ?_ ?_; (focus first | assumption | lia); cbv) | (refine Br.mk (fun _ => ?_) (fun _ => ?_) <;> cbv) | (refine Need.mk ?_ ?_; rotate_left; cbv) | (refine RetThen.mk [] [] ?_; cbv))
  all_goals (try simp only [O.h, natInt, emp] at *)
  all_goals (try simp only [Int.ofNat_eq_natCast] at *)
  all_goals subst_vars
  all_goals (try rw [t1 (by omega)] at h5) <;> (try rw [t2 (by omega)] at h5)
  all_goals clear t1 t2
  all_goals have hw1 : 0 < w + 1 := by omega
  all_goals (try have hd : 0 < w := by assumption) <;> (try have hd : w ≤ 0 := by omega)
  all_goals simp_all [isPath, isLet]
  all_goals first | omega | grind
end Go.Sym
namespace Go.Proofs
open Go.Shelf
def Tryd.trimLays_ren : Go.Shelf.Ren := ⟨fun | 160 => 56 | 232 => 69 | 231 => 68 | 227 => 70 | 234 => 72 | 233 => 71 | 236 => 74 | 235 => 73 | 228 => 83 | 271 => 86 | 151 => 85 | 197 => 84 | 120 => 94 | 152 => 93 | 260 => 92 | 137 => 100 | 119 => 101 | 224 => 98 | 225 => 97 | 217 => 96 | 266 => 102 | n => n, fun | 9 => 9 | 4 => 4 | 3 => 3 | 5 => 5 | 117 => 104 | 116 => 103 | 0 => 0 | 124 => 107 | 21 => 21 | 105 => 115 | 46 => 76 | 119 => 124 | 139 => 127 | 138 => 126 | n => n, fun | 3 => 1 | 4 => 2 | n => n⟩
theorem Tryd.trimLays : Lays.n160 Tryd.prog Tryd.trimLays_ren := {
    mixed := (by kernel_rfl)
    f119 := Tryd.func101.trans (congrArg some (by kernel_rfl))
    f120 := Tryd.func94.trans (congrArg some (by kernel_rfl))
    f137 := Tryd.func100.trans (congrArg some (by kernel_rfl))
    f151 := Tryd.func85.trans (congrArg some (by kernel_rfl))
    f152 := Tryd.func93.trans (congrArg some (by kernel_rfl))
    f160 := Tryd.func56.trans (congrArg some (by kernel_rfl))
    f197 := Tryd.func84.trans (congrArg some (by kernel_rfl))
    f217 := Tryd.func96.trans (congrArg some (by kernel_rfl))
    f224 := Tryd.func98.trans (congrArg some (by kernel_rfl))
    f225 := Tryd.func97.trans (congrArg some (by kernel_rfl))
    f227 := Tryd.func70.trans (congrArg some (by kernel_rfl))
    f228 := Tryd.func83.trans (congrArg some (by kernel_rfl))
    f231 := Tryd.func68.trans (congrArg some (by kernel_rfl))
    f232 := Tryd.func69.trans (congrArg some (by kernel_rfl))
    f233 := Tryd.func71.trans (congrArg some (by kernel_rfl))
    f234 := Tryd.func72.trans (congrArg some (by kernel_rfl))
    f235 := Tryd.func73.trans (congrArg some (by kernel_rfl))
    f236 := Tryd.func74.trans (congrArg some (by kernel_rfl))
    f260 := Tryd.func92.trans (congrArg some (by kernel_rfl))
    f266 := Tryd.func102.trans (congrArg some (by kernel_rfl))
    f271 := Tryd.func86.trans (congrArg some (by kernel_rfl))
    t0 := Tryd.underlying0
    a0 := Tryd.isAgg0
    z0 := Tryd.sizeOf0
    v0 := Tryd.zeroValue0
    t3 := Tryd.underlying3
    a3 := Tryd.isAgg3
    z3 := Tryd.sizeOf3
    v3 := Tryd.zeroValue3
    t4 := Tryd.underlying4
    a4 := Tryd.isAgg4
    z4 := Tryd.sizeOf4
    v4 := Tryd.zeroValue4
    t5 := Tryd.underlying5
    a5 := Tryd.isAgg5
    z5 := Tryd.sizeOf5
    v5 := Tryd.zeroValue5
    t9 := Tryd.underlying9
    a9 := Tryd.isAgg9
    z9 := Tryd.sizeOf9
    v9 := Tryd.zeroValue9
    t21 := Tryd.underlying21
    a21 := Tryd.isAgg21
    z21 := Tryd.sizeOf21
    v21 := Tryd.zeroValue21
    t46 := Tryd.underlying76
    a46 := Tryd.isAgg76
    z46 := Tryd.sizeOf76
    v46 := Tryd.zeroValue76
    t105 := Tryd.underlying115
    a105 := Tryd.isAgg115
    z105 := Tryd.sizeOf115
    v105 := Tryd.zeroValue115
    t116 := Tryd.underlying103
    a116 := Tryd.isAgg103
    z116 := Tryd.sizeOf103
    t117 := Tryd.underlying104
    a117 := Tryd.isAgg104
    z117 := Tryd.sizeOf104
    v117 := Tryd.zeroValue104
    t119 := Tryd.underlying124
    a119 := Tryd.isAgg124
    z119 := Tryd.sizeOf124
    t124 := Tryd.underlying107
    a124 := Tryd.isAgg107
    z124 := Tryd.sizeOf107
    v124 := Tryd.zeroValue107
    t138 := Tryd.underlying126
    a138 := Tryd.isAgg126
    z138 := Tryd.sizeOf126
    v138 := Tryd.zeroValue126
    t139 := Tryd.underlying127
    a139 := Tryd.isAgg127
    z139 := Tryd.sizeOf127
    v139 := Tryd.zeroValue127
    g3 := (by kernel_rfl)
    g4 := (by kernel_rfl) }
end Go.Proofs
