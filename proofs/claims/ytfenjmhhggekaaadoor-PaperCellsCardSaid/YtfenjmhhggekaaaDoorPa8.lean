/- What is set; the law's own check. -/
import Derived.Test.YtfenjmhhggekaaaDoorPa7
set_option linter.all false
set_option linter.unusedVariables false
set_option linter.unusedSimpArgs false
namespace Go.Sym
open Go Go.Proofs.Tryd
set_option maxRecDepth 100000
theorem set_fn (O : Opq) (d : Doc) (p : ByteArray) (v : Val) (hd : d.length ≤ 1099511627) : Fn prog 21 [.sl false 0 false 6 (O.o Doc.enc d), .str p, .agg v.enc] [] [.sl false 0 false 6 (O.o Doc.enc (O.o setR d p v)), .int .i64 (O.o setE d p v)] [] := by
  have hlen : (O.o Doc.enc d).length = d.length := by rw [O.h, Doc.enc_len]
  have hsd : O.o docErr d = 0 → sorted d := by rw [O.h, docErr_zero]; exact may_sorted
  have hp0 : O.o posZ d p = posI d p := by rw [O.h]; rfl
  have hp1 : 0 ≤ O.o posZ d p := by rw [hp0]; omega
  have hp2 : O.o posZ d p ≤ d.length := by rw [hp0]; have := pos_le d p; omega
  have hp3 : O.o getB d p = true → O.o posZ d p < d.length := by rw [hp0, O.h]; intro h; have := pos_lt h; omega
  refine go (fn := Go.Proofs.Tryd.f21) (n := 47) (rv := [ResultVar.tmp 6, ResultVar.tmp 7]) rfl (by decide) rfl (by decide +kernel) rfl rfl (by simp) fun F L C => ?_
  cbv
  (repeat' first | (refine Named.i64 ?_ fun _ _ => ?_; (focus lia); cbv) | (refine CallThen.mk _ _ (C.fn (check_fn O d (by lia))) ?_; cbv) | (refine CallThen.bool (C.fn (path_fn O p)) (fun _ => ?_) (fun _ => ?_) <;> cbv) | (refine CallThen.mk _ _ (C.fn (rcheck_fn O ⟨_, _, _, _, _⟩)) ?_; cbv) | (refine CallThen.bool2 (C.fn (at_fn O d p (by lia) (hsd (by assumption)))) (fun _ => ?_) (fun _ => ?_) <;> cbv) | (refine CallThen.mk _ _ (C.fn (clone_fn O d hd)) ?_; cbv) | (refine Ex.map O Field.enc rfl ?_ fun _ _ => ?_; rotate_left; cbv) | (refine CallThen.mk _ _ (C.fn (insert_fn O d _ ⟨_, _, _, _, _, _⟩ _ rfl hd hp1 hp2)) ?_; cbv) | (refine RetThen.mk [] [2048] ?_; cbv) | (refine Named.len fun _ _ hq => ?_; (try simp only [List.length_append, List.length_take, List.length_drop, List.length_replicate, List.length_set] at hq); cbv) | (refine Named.mk fun _ _ => ?_; cbv) | (refine Br.t ?_ ?_; (focus first | assumption | lia); cbv) | (refine Br.f ?_ ?_; (focus first | assumption | lia); cbv) | (refine Br.mk (fun _ => ?_) (fun _ => ?_) <;> cbv) | (refine Need.mk ?_ ?_; rotate_left; cbv) | (refine RetThen.mk [] [] ?_; cbv))
  all_goals try first
    | lia
  · rename_i k ek x hx r er hr r2 er2
    have hs := hsd (by assumption)
    simp only [O.h, docErr_zero, Val.err_ok] at *
    have hok : may d = true ∧ isPath p = true ∧ v.Ok := ⟨by assumption, by assumption, by assumption⟩
    have h0 := setE_there hok (by assumption)
    refine ⟨WkR.of_eq ?_, h0, trivial⟩
    rw [natTo, ek] at hx
    rw [er2, er, ek, setR_there h0 hs (by assumption) hx]
    rfl
  · have hl : d.length = 16 := by lia
    simp only [O.h, docErr_zero, Val.err_ok] at *
    have h0 := setE_full ⟨by assumption, by assumption, by assumption⟩ (by assumption) hl (v := v)
    exact ⟨by rw [setR_bad (by rw [h0]; decide)]; rfl, h0, trivial⟩
  · have hl : d.length ≠ 16 := by lia
    simp only [O.h, docErr_zero, Val.err_ok] at *
    have h0 := setE_new ⟨by assumption, by assumption, by assumption⟩ (by assumption) hl (v := v)
    exact ⟨WkR.of_eq (by rw [setR_new h0 (by assumption)]), h0, trivial⟩
  all_goals
    simp only [O.h, docErr_zero, Val.err_ok] at *
    have h0 : setE d p v = 1 := setE_bad (by simp_all)
    exact ⟨by rw [setR_bad (by rw [h0]; decide)]; rfl, h0, trivial⟩
theorem setNil_fn (O : Opq) (p : ByteArray) (v : Val) : Fn prog 21 [.nils, .str p, .agg v.enc] [] [.sl false 0 false 6 (O.o Doc.enc (O.o setR [] p v)), .int .i64 (O.o setE [] p v)] [] := by
  have h := set_fn O [] p v (by simp)
  refine h.wkArgs (.cons ?_ (.refl _))
  rw [O.h, Doc.enc_nil]
  exact .nil _ _
theorem awake_fn (O : Opq) : Fn prog 13 [] [] [.bool true] [] := by
  have hE : O.o setE [] ab v7 = 0 := by rw [O.h]; exact setE_ab
  have hB : O.o getB (O.o setR [] ab v7) ab = true := by rw [O.h, O.h]; exact getB_ab
  have hV : (O.o getV (O.o setR [] ab v7) ab).num = 7 := by rw [O.h, O.h, getV_ab]; rfl
  have hP : O.o isPath ab = true := by rw [O.h]; exact isPath_ab
  have hQ : O.o isPath abb = false := by rw [O.h]; exact isPath_abb
  refine go (fn := Go.Proofs.Tryd.f13) (n := 32) (rv := [ResultVar.tmp 0]) rfl (by decide) rfl (by decide +kernel) rfl rfl (by simp) fun F L C => ?_
  cbv
  (repeat' first | (refine Named.i64 ?_ fun _ _ => ?_; (focus lia); cbv) | (refine CallThen.mk _ _ (C.fn (setNil_fn O ab v7)) ?_; cbv) | (refine CallThen.bool2 (C.fn (get_fn O (O.o setR [] ab v7) ab (by rw [O.h, setR_ab]; simp))) (fun _ => ?_) (fun _ => ?_) <;> cbv) | (refine CallThen.bool (C.fn (path_fn O _)) (fun _ => ?_) (fun _ => ?_) <;> cbv) | (refine Named.len fun _ _ hq => ?_; (try simp only [List.length_append, List.length_take, List.length_drop, List.length_replicate, List.length_set] at hq); cbv) | (refine Named.mk fun _ _ => ?_; cbv) | (refine Br.t ?_ ?_; (focus first | assumption | lia); cbv) | (refine Br.f ?_ ?_; (focus first | assumption | lia); cbv) | (refine Br.mk (fun _ => ?_) (fun _ => ?_) <;> cbv) | (refine Need.mk ?_ ?_; rotate_left; cbv) | (refine RetThen.mk [] [] ?_; cbv))
  · rename_i h; have h : O.o isPath abb = true := h; rw [hQ] at h; cases h
  · rename_i h; have h : O.o isPath ab = false := h; rw [hP] at h; cases h
  · rename_i h; rw [hB] at h; cases h
end Go.Sym
