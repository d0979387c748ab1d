/- The law PaperPaths. -/
import Derived.Test.YtfenjmhhggekaaaDoorPa8
namespace Go.Sym
open Go Go.Proofs.Tryd
set_option maxRecDepth 100000
set_option maxHeartbeats 1000000 in
theorem paperPaths_fn (O : Opq) (s : ByteArray) (a b : Doc) (hs : s.size ≤ 9223372036854775807) (ha : ∀ f ∈ a, f.path.size ≤ 9223372036854775807) (hal : a.length ≤ 9223372036854775807) (hbl : b.length ≤ 9223372036854775807) :
    Fn prog 3 [.str s, .sl false 0 false 6 (O.o Doc.enc a), .sl false 0 false 6 (O.o Doc.enc b)] [] [.bool true] [] := by
  have hlen : (O.o Doc.enc a).length = a.length := by rw [O.h, Doc.enc_len]
  have hlen2 : (O.o Doc.enc b).length = b.length := by rw [O.h, Doc.enc_len]
  refine go (fn := Go.Proofs.Tryd.f3) (n := 56) (rv := [ResultVar.tmp 6]) rfl (by decide) rfl (by decide +kernel) rfl rfl (by simp) fun F L C => ?_
  cbv
  repeat' first
    | (refine Named.i64 ?_ fun _ _ => ?_; (focus lia); cbv)
    | (refine CallThen.mk _ _ (C.fn (awake_fn O)) ?_; cbv)
    | (refine CallThen.bool (C.fn (path_fn O _)) (fun _ => ?_) (fun _ => ?_) <;> cbv)
    | (refine CallThen.boolT (C.fn (rpath_fn O _ hs)) ?_ ?_; (focus assumption); cbv)
    | (refine CallThen.boolF (C.fn (rpath_fn O _ hs)) ?_ ?_; (focus assumption); cbv)
    | (refine CallThen.bool (C.fn (rpath_fn O _ hs)) (fun _ => ?_) (fun _ => ?_) <;> cbv)
    | (refine CallThen.bool (C.fn (key_fn O _)) (fun _ => ?_) (fun _ => ?_) <;> cbv)
    | (refine CallThen.mk _ _ (C.fn (check_fn O a (by lia))) ?_; cbv)
    | (refine CallThen.bool (C.fn (may_fn O a (by lia) ha)) (fun _ => ?_) (fun _ => ?_) <;> cbv)
    | (refine CallThen.bool (C.fn (same_fn O a b (by lia))) (fun _ => ?_) (fun _ => ?_) <;> cbv)
    | (refine CallThen.boolT (C.fn (rsame_fn O a b (by lia))) ?_ ?_; (focus assumption); cbv)
    | (refine CallThen.boolF (C.fn (rsame_fn O a b (by lia))) ?_ ?_; (focus assumption); cbv)
    | (refine CallThen.bool (C.fn (rsame_fn O a b (by lia))) (fun _ => ?_) (fun _ => ?_) <;> cbv)
    | (refine Named.len fun _ _ hq => ?_; (try simp only [List.length_append, List.length_take, List.length_drop, List.length_replicate, List.length_set] at hq); cbv)
    | (refine Named.mk fun _ _ => ?_; cbv)
    | (refine Br.t ?_ ?_; (focus first | assumption | lia); cbv)
    | (refine Br.f ?_ ?_; (focus first | assumption | lia); cbv)
    | (refine Br.mk (fun _ => ?_) (fun _ => ?_) <;> cbv)
    | (refine Need.mk ?_ ?_; rotate_left; cbv)
    | (refine RetThen.mk [] [] ?_; cbv)
  all_goals simp only [O.h, docErr_zero, isKey, decide_eq_true_eq, decide_eq_false_iff_not] at *
  all_goals first
    | (simp_all; done)
    | lia
    | trace_state
end Go.Sym
