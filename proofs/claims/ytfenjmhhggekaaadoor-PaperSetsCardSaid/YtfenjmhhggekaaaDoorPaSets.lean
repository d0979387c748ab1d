/- The law PaperSets. -/
import Derived.Test.YtfenjmhhggekaaaDoorPa11
import Derived.Test.YtfenjmhhggekaaaDoorPaF
namespace Go.Sym
open Go Go.Proofs.Tryd
set_option maxRecDepth 100000
set_option maxHeartbeats 2000000 in
theorem paperSets_fn (O : Opq) (d : Doc) (p : ByteArray) (v : Val) (hp : p.size ≤ 9223372036854775807) (hd : ∀ f ∈ d, f.path.size ≤ 9223372036854775807) (hdl : d.length ≤ 9223372036854775807) :
    Fn prog 5 [.sl false 0 false 6 (O.o Doc.enc d), .str p, .agg v.enc] [] [.bool true] [] := by
  have hlen : (O.o Doc.enc d).length = d.length := by rw [O.h, Doc.enc_len]
  have hrl : (O.o setR d p v).length ≤ d.length + 1 := by rw [O.h]; exact setR_len d p v
  have hdl2 : (O.o dropR d p).length ≤ d.length := by rw [O.h]; exact dropR_len d p
  have hul2 : (O.o underR d p).length ≤ d.length := by rw [O.h]; exact underR_len d p
  have hrp : ∀ f ∈ O.o setR d p v, f.path.size ≤ 9223372036854775807 := by rw [O.h]; exact setR_paths hd hp v
  have S1 : may d = true → O.o sameDoc (O.o dropR d p) (O.o (delF (hasP p)) d) = true := by intro h; simp only [O.h]; rw [dropR_ok h]; simp [sameDoc]
  have S2 : may d = true → O.o sameDoc (O.o underR d p) (O.o (delF (notUnder p)) d) = true := by intro h; simp only [O.h]; rw [underR_ok h]; simp [sameDoc]
  have N1 : ¬ may d = true → O.o noneB (O.o dropR d p) (O.o docErr d) 1 = true := by intro h; simp only [O.h]; rw [dropR_bad h]; simp [noneB, docErr, h]
  have N2 : ¬ may d = true → O.o noneB (O.o underR d p) (O.o docErr d) 1 = true := by intro h; simp only [O.h]; rw [underR_bad h]; simp [noneB, docErr, h]
  have N3 : ¬ (may d = true ∧ isPath p = true ∧ v.Ok) → O.o noneB (O.o setR d p v) (O.o setE d p v) 1 = true := by
    intro h; simp only [O.h]; have e := setE_bad h; rw [setR_bad (by rw [e]; decide), e]; simp [noneB]
  have N4 : (may d = true ∧ isPath p = true ∧ v.Ok) → getB d p = false → d.length = 16 → O.o noneB (O.o setR d p v) (O.o setE d p v) 2 = true := by
    intro h hb hl; simp only [O.h]; have e := setE_full h hb hl; rw [setR_bad (by rw [e]; decide), e]; simp [noneB]
  have D : (may d = true ∧ isPath p = true ∧ v.Ok) → (getB d p = true ∨ d.length ≠ 16) → O.o setE d p v = 0 ∧ O.o sameDoc (O.o setR d p v) (O.o rsetD d p v) = true ∧ O.o getB (O.o setR d p v) p = true ∧ Val.enc (O.o getV (O.o setR d p v) p) = v.enc ∧ O.o may (O.o setR d p v) = true := by
    intro h hl
    have e : setE d p v = 0 := by
      cases hb : getB d p with
      | true => exact setE_there h hb
      | false => exact setE_new h hb (by rcases hl with hl | hl; · rw [hb] at hl; cases hl
                                         · exact hl)
    have er : setR d p v = setDoc d p v := by rw [setR, if_pos e]
    have hs := may_sorted h.1
    simp only [O.h]
    rw [er]
    exact ⟨e, by rw [rsetD_eq hs, setDoc_eq hs]; simp [sameDoc], getB_set hs p v, by rw [getV_set hs], may_set h.1 h.2.1 h.2.2 hl⟩
  have E0 : may d = true → O.o docErr d = 0 := by rw [O.h]; exact docErr_zero.2
  have M : O.o may d = may d := congrFun (O.h may) d
  have Pt : O.o isPath p = isPath p := congrFun (O.h isPath) p
  have Ve : O.o Val.err v = 0 ↔ v.Ok := by rw [O.h]; exact Val.err_ok
  -- is the path there?
  cases hB : getB d p with
  | true =>
    have hB2 : O.o getB d p = true := by rw [O.h]; exact hB
    obtain ⟨k, x, hk, hx, hv⟩ := get_there hB
    have hk2 : O.o getI d p = k := by rw [O.h]; exact hk
    have hkl : k < d.length := (List.getElem?_eq_some_iff.1 hx).1
    have hc : Val.enc (O.o getV d p) = x.val.enc := by rw [O.h, hv]
    by_cases hm : may d = true
    · have M1 : O.o may d = true := by rw [M]; exact hm
      replace S1 := S1 hm
      replace S2 := S2 hm
      replace E0 := E0 hm
      by_cases hok : isPath p = true ∧ v.Ok
      · have P1 : O.o isPath p = true := by rw [Pt]; exact hok.1
        have V1 : O.o Val.err v = 0 := Ve.2 hok.2
        obtain ⟨D1, D2, D3, D4, D5⟩ := D ⟨hm, hok⟩ (.inl hB)
        clear N1 N2 N3 N4 D M Pt Ve
        refine go (fn := Go.Proofs.Tryd.f5) (n := 176) (rv := [ResultVar.tmp 6]) rfl (by decide) rfl (by decide +kernel) rfl rfl (by simp) fun F L C => ?_
        cbv
        repeat' first
          | (refine Named.i64 ?_ fun _ _ => ?_; (focus lia); cbv)
          | (refine CallThen.mk _ _ (C.fn (awake_fn O)) ?_; cbv)
          | (refine CallThen.mk _ _ (C.fn (set_fn O d p ⟨_, _, _, _, _⟩ (by lia))) ?_; cbv)
          | (refine CallThen.mk _ _ (C.fn (drop_fn O d p (by lia))) ?_; cbv)
          | (refine CallThen.mk _ _ (C.fn (under_fn O d p (by lia) (by lia))) ?_; cbv)
          | (refine CallThen.bool2T (C.fn (get_fn O d p (by lia))) (by assumption) ?_; cbv)
          | (refine CallThen.bool2T (C.fn (get_fn O (O.o setR d p v) p (by lia))) (by assumption) ?_; cbv)
          | (refine CallThen.mk _ _ (C.fn (rget_fn O d p (by lia))) ?_; cbv)
          | (refine Ex.known O Field.enc rfl hx ?_ ?_; (focus lia); cbv)
          | (refine CallThen.boolT (C.fn (may_fn O d (by lia) hd)) ?_ ?_; (focus assumption); cbv)
          | (refine CallThen.boolF (C.fn (may_fn O d (by lia) hd)) ?_ ?_; (focus assumption); cbv)
          | (refine CallThen.bool (C.fn (may_fn O d (by lia) hd)) (fun _ => ?_) (fun _ => ?_) <;> cbv)
          | (refine CallThen.boolT (C.fn (may_fn O (O.o setR d p v) (by lia) hrp)) ?_ ?_; (focus assumption); cbv)
          | (refine CallThen.boolF (C.fn (may_fn O (O.o setR d p v) (by lia) hrp)) ?_ ?_; (focus assumption); cbv)
          | (refine CallThen.bool (C.fn (may_fn O (O.o setR d p v) (by lia) hrp)) (fun _ => ?_) (fun _ => ?_) <;> cbv)
          | (refine CallThen.boolT (C.fn (none_fn O _ _ _)) ?_ ?_; (focus assumption); cbv)
          | (refine CallThen.boolF (C.fn (none_fn O _ _ _)) ?_ ?_; (focus assumption); cbv)
          | (refine CallThen.bool (C.fn (none_fn O _ _ _)) (fun _ => ?_) (fun _ => ?_) <;> cbv)
          | (refine CallThen.mk _ _ (C.fn (rdrop_fn O d p (by lia))) ?_; cbv)
          | (refine CallThen.mk _ _ (C.fn (runder_fn O d p (by lia) (by lia))) ?_; cbv)
          | (refine CallThen.boolT (C.fn (rsame_fn O (O.o dropR d p) _ (by lia))) ?_ ?_; (focus assumption); cbv)
          | (refine CallThen.boolF (C.fn (rsame_fn O (O.o dropR d p) _ (by lia))) ?_ ?_; (focus assumption); cbv)
          | (refine CallThen.bool (C.fn (rsame_fn O (O.o dropR d p) _ (by lia))) (fun _ => ?_) (fun _ => ?_) <;> cbv)
          | (refine CallThen.boolT (C.fn (rsame_fn O (O.o underR d p) _ (by lia))) ?_ ?_; (focus assumption); cbv)
          | (refine CallThen.boolF (C.fn (rsame_fn O (O.o underR d p) _ (by lia))) ?_ ?_; (focus assumption); cbv)
          | (refine CallThen.bool (C.fn (rsame_fn O (O.o underR d p) _ (by lia))) (fun _ => ?_) (fun _ => ?_) <;> cbv)
          | (refine CallThen.boolT (C.fn (rsame_fn O (O.o setR d p v) _ (by lia))) ?_ ?_; (focus assumption); cbv)
          | (refine CallThen.boolF (C.fn (rsame_fn O (O.o setR d p v) _ (by lia))) ?_ ?_; (focus assumption); cbv)
          | (refine CallThen.bool (C.fn (rsame_fn O (O.o setR d p v) _ (by lia))) (fun _ => ?_) (fun _ => ?_) <;> cbv)
          | (refine CallThen.boolT (C.fn (rpath_fn O p hp)) ?_ ?_; (focus assumption); cbv)
          | (refine CallThen.boolF (C.fn (rpath_fn O p hp)) ?_ ?_; (focus assumption); cbv)
          | (refine CallThen.bool (C.fn (rpath_fn O p hp)) (fun _ => ?_) (fun _ => ?_) <;> cbv)
          | (refine CallThen.mk _ _ (C.fn (rcheck2_fn O ⟨_, _, _, _, _⟩)) ?_; cbv)
          | (refine CallThen.mk _ _ (C.fn (rset_fn O d p ⟨_, _, _, _, _⟩ (by lia))) ?_; cbv)
          | (refine Named.len fun _ _ hq => ?_; (try simp only [List.length_append, List.length_take, List.length_drop, List.length_replicate, List.length_set] at hq); cbv)
          | (refine Named.mk fun _ _ => ?_; cbv)
          | (refine Br.t ?_ ?_; (focus first | assumption | lia); cbv)
          | (refine Br.f ?_ ?_; (focus first | assumption | lia); cbv)
          | (refine Br.mk (fun _ => ?_) (fun _ => ?_) <;> cbv)
          | (refine Need.mk ?_ ?_; rotate_left; cbv)
          | (refine RetThen.mk [] [] ?_; cbv)
        all_goals lia
      · have n3 := N3 (fun h => hok h.2)
        by_cases hpp : isPath p = true
        · have P1 : O.o isPath p = true := by rw [Pt]; exact hpp
          have V1 : ¬ O.o Val.err v = 0 := fun h => hok ⟨hpp, Ve.1 h⟩
          clear N1 N2 N3 N4 D M Pt Ve
          refine go (fn := Go.Proofs.Tryd.f5) (n := 176) (rv := [ResultVar.tmp 6]) rfl (by decide) rfl (by decide +kernel) rfl rfl (by simp) fun F L C => ?_
          cbv
          repeat' first
            | (refine Named.i64 ?_ fun _ _ => ?_; (focus lia); cbv)
            | (refine CallThen.mk _ _ (C.fn (awake_fn O)) ?_; cbv)
            | (refine CallThen.mk _ _ (C.fn (set_fn O d p ⟨_, _, _, _, _⟩ (by lia))) ?_; cbv)
            | (refine CallThen.mk _ _ (C.fn (drop_fn O d p (by lia))) ?_; cbv)
            | (refine CallThen.mk _ _ (C.fn (under_fn O d p (by lia) (by lia))) ?_; cbv)
            | (refine CallThen.bool2T (C.fn (get_fn O d p (by lia))) (by assumption) ?_; cbv)
            | (refine CallThen.bool2T (C.fn (get_fn O (O.o setR d p v) p (by lia))) (by assumption) ?_; cbv)
            | (refine CallThen.mk _ _ (C.fn (rget_fn O d p (by lia))) ?_; cbv)
            | (refine Ex.known O Field.enc rfl hx ?_ ?_; (focus lia); cbv)
            | (refine CallThen.boolT (C.fn (may_fn O d (by lia) hd)) ?_ ?_; (focus assumption); cbv)
            | (refine CallThen.boolF (C.fn (may_fn O d (by lia) hd)) ?_ ?_; (focus assumption); cbv)
            | (refine CallThen.bool (C.fn (may_fn O d (by lia) hd)) (fun _ => ?_) (fun _ => ?_) <;> cbv)
            | (refine CallThen.boolT (C.fn (may_fn O (O.o setR d p v) (by lia) hrp)) ?_ ?_; (focus assumption); cbv)
            | (refine CallThen.boolF (C.fn (may_fn O (O.o setR d p v) (by lia) hrp)) ?_ ?_; (focus assumption); cbv)
            | (refine CallThen.bool (C.fn (may_fn O (O.o setR d p v) (by lia) hrp)) (fun _ => ?_) (fun _ => ?_) <;> cbv)
            | (refine CallThen.boolT (C.fn (none_fn O _ _ _)) ?_ ?_; (focus assumption); cbv)
            | (refine CallThen.boolF (C.fn (none_fn O _ _ _)) ?_ ?_; (focus assumption); cbv)
            | (refine CallThen.bool (C.fn (none_fn O _ _ _)) (fun _ => ?_) (fun _ => ?_) <;> cbv)
            | (refine CallThen.mk _ _ (C.fn (rdrop_fn O d p (by lia))) ?_; cbv)
            | (refine CallThen.mk _ _ (C.fn (runder_fn O d p (by lia) (by lia))) ?_; cbv)
            | (refine CallThen.boolT (C.fn (rsame_fn O (O.o dropR d p) _ (by lia))) ?_ ?_; (focus assumption); cbv)
            | (refine CallThen.boolF (C.fn (rsame_fn O (O.o dropR d p) _ (by lia))) ?_ ?_; (focus assumption); cbv)
            | (refine CallThen.bool (C.fn (rsame_fn O (O.o dropR d p) _ (by lia))) (fun _ => ?_) (fun _ => ?_) <;> cbv)
            | (refine CallThen.boolT (C.fn (rsame_fn O (O.o underR d p) _ (by lia))) ?_ ?_; (focus assumption); cbv)
            | (refine CallThen.boolF (C.fn (rsame_fn O (O.o underR d p) _ (by lia))) ?_ ?_; (focus assumption); cbv)
            | (refine CallThen.bool (C.fn (rsame_fn O (O.o underR d p) _ (by lia))) (fun _ => ?_) (fun _ => ?_) <;> cbv)
            | (refine CallThen.boolT (C.fn (rsame_fn O (O.o setR d p v) _ (by lia))) ?_ ?_; (focus assumption); cbv)
            | (refine CallThen.boolF (C.fn (rsame_fn O (O.o setR d p v) _ (by lia))) ?_ ?_; (focus assumption); cbv)
            | (refine CallThen.bool (C.fn (rsame_fn O (O.o setR d p v) _ (by lia))) (fun _ => ?_) (fun _ => ?_) <;> cbv)
            | (refine CallThen.boolT (C.fn (rpath_fn O p hp)) ?_ ?_; (focus assumption); cbv)
            | (refine CallThen.boolF (C.fn (rpath_fn O p hp)) ?_ ?_; (focus assumption); cbv)
            | (refine CallThen.bool (C.fn (rpath_fn O p hp)) (fun _ => ?_) (fun _ => ?_) <;> cbv)
            | (refine CallThen.mk _ _ (C.fn (rcheck2_fn O ⟨_, _, _, _, _⟩)) ?_; cbv)
            | (refine CallThen.mk _ _ (C.fn (rset_fn O d p ⟨_, _, _, _, _⟩ (by lia))) ?_; cbv)
            | (refine Named.len fun _ _ hq => ?_; (try simp only [List.length_append, List.length_take, List.length_drop, List.length_replicate, List.length_set] at hq); cbv)
            | (refine Named.mk fun _ _ => ?_; cbv)
            | (refine Br.t ?_ ?_; (focus first | assumption | lia); cbv)
            | (refine Br.f ?_ ?_; (focus first | assumption | lia); cbv)
            | (refine Br.mk (fun _ => ?_) (fun _ => ?_) <;> cbv)
            | (refine Need.mk ?_ ?_; rotate_left; cbv)
            | (refine RetThen.mk [] [] ?_; cbv)
          all_goals lia
        · have P1 : O.o isPath p = false := by rw [Pt]; simpa using hpp
          clear N1 N2 N3 N4 D M Pt Ve
          refine go (fn := Go.Proofs.Tryd.f5) (n := 176) (rv := [ResultVar.tmp 6]) rfl (by decide) rfl (by decide +kernel) rfl rfl (by simp) fun F L C => ?_
          cbv
          repeat' first
            | (refine Named.i64 ?_ fun _ _ => ?_; (focus lia); cbv)
            | (refine CallThen.mk _ _ (C.fn (awake_fn O)) ?_; cbv)
            | (refine CallThen.mk _ _ (C.fn (set_fn O d p ⟨_, _, _, _, _⟩ (by lia))) ?_; cbv)
            | (refine CallThen.mk _ _ (C.fn (drop_fn O d p (by lia))) ?_; cbv)
            | (refine CallThen.mk _ _ (C.fn (under_fn O d p (by lia) (by lia))) ?_; cbv)
            | (refine CallThen.bool2T (C.fn (get_fn O d p (by lia))) (by assumption) ?_; cbv)
            | (refine CallThen.bool2T (C.fn (get_fn O (O.o setR d p v) p (by lia))) (by assumption) ?_; cbv)
            | (refine CallThen.mk _ _ (C.fn (rget_fn O d p (by lia))) ?_; cbv)
            | (refine Ex.known O Field.enc rfl hx ?_ ?_; (focus lia); cbv)
            | (refine CallThen.boolT (C.fn (may_fn O d (by lia) hd)) ?_ ?_; (focus assumption); cbv)
            | (refine CallThen.boolF (C.fn (may_fn O d (by lia) hd)) ?_ ?_; (focus assumption); cbv)
            | (refine CallThen.bool (C.fn (may_fn O d (by lia) hd)) (fun _ => ?_) (fun _ => ?_) <;> cbv)
            | (refine CallThen.boolT (C.fn (may_fn O (O.o setR d p v) (by lia) hrp)) ?_ ?_; (focus assumption); cbv)
            | (refine CallThen.boolF (C.fn (may_fn O (O.o setR d p v) (by lia) hrp)) ?_ ?_; (focus assumption); cbv)
            | (refine CallThen.bool (C.fn (may_fn O (O.o setR d p v) (by lia) hrp)) (fun _ => ?_) (fun _ => ?_) <;> cbv)
            | (refine CallThen.boolT (C.fn (none_fn O _ _ _)) ?_ ?_; (focus assumption); cbv)
            | (refine CallThen.boolF (C.fn (none_fn O _ _ _)) ?_ ?_; (focus assumption); cbv)
            | (refine CallThen.bool (C.fn (none_fn O _ _ _)) (fun _ => ?_) (fun _ => ?_) <;> cbv)
            | (refine CallThen.mk _ _ (C.fn (rdrop_fn O d p (by lia))) ?_; cbv)
            | (refine CallThen.mk _ _ (C.fn (runder_fn O d p (by lia) (by lia))) ?_; cbv)
            | (refine CallThen.boolT (C.fn (rsame_fn O (O.o dropR d p) _ (by lia))) ?_ ?_; (focus assumption); cbv)
            | (refine CallThen.boolF (C.fn (rsame_fn O (O.o dropR d p) _ (by lia))) ?_ ?_; (focus assumption); cbv)
            | (refine CallThen.bool (C.fn (rsame_fn O (O.o dropR d p) _ (by lia))) (fun _ => ?_) (fun _ => ?_) <;> cbv)
            | (refine CallThen.boolT (C.fn (rsame_fn O (O.o underR d p) _ (by lia))) ?_ ?_; (focus assumption); cbv)
            | (refine CallThen.boolF (C.fn (rsame_fn O (O.o underR d p) _ (by lia))) ?_ ?_; (focus assumption); cbv)
            | (refine CallThen.bool (C.fn (rsame_fn O (O.o underR d p) _ (by lia))) (fun _ => ?_) (fun _ => ?_) <;> cbv)
            | (refine CallThen.boolT (C.fn (rsame_fn O (O.o setR d p v) _ (by lia))) ?_ ?_; (focus assumption); cbv)
            | (refine CallThen.boolF (C.fn (rsame_fn O (O.o setR d p v) _ (by lia))) ?_ ?_; (focus assumption); cbv)
            | (refine CallThen.bool (C.fn (rsame_fn O (O.o setR d p v) _ (by lia))) (fun _ => ?_) (fun _ => ?_) <;> cbv)
            | (refine CallThen.boolT (C.fn (rpath_fn O p hp)) ?_ ?_; (focus assumption); cbv)
            | (refine CallThen.boolF (C.fn (rpath_fn O p hp)) ?_ ?_; (focus assumption); cbv)
            | (refine CallThen.bool (C.fn (rpath_fn O p hp)) (fun _ => ?_) (fun _ => ?_) <;> cbv)
            | (refine CallThen.mk _ _ (C.fn (rcheck2_fn O ⟨_, _, _, _, _⟩)) ?_; cbv)
            | (refine CallThen.mk _ _ (C.fn (rset_fn O d p ⟨_, _, _, _, _⟩ (by lia))) ?_; cbv)
            | (refine Named.len fun _ _ hq => ?_; (try simp only [List.length_append, List.length_take, List.length_drop, List.length_replicate, List.length_set] at hq); cbv)
            | (refine Named.mk fun _ _ => ?_; cbv)
            | (refine Br.t ?_ ?_; (focus first | assumption | lia); cbv)
            | (refine Br.f ?_ ?_; (focus first | assumption | lia); cbv)
            | (refine Br.mk (fun _ => ?_) (fun _ => ?_) <;> cbv)
            | (refine Need.mk ?_ ?_; rotate_left; cbv)
            | (refine RetThen.mk [] [] ?_; cbv)
          all_goals lia
    · have n1 := N1 hm
      have n2 := N2 hm
      have n3 := N3 (fun h => hm h.1)
      have M1 : O.o may d = false := by rw [M]; simpa using hm
      clear N1 N2 N3 N4 D M Pt Ve
      refine go (fn := Go.Proofs.Tryd.f5) (n := 176) (rv := [ResultVar.tmp 6]) rfl (by decide) rfl (by decide +kernel) rfl rfl (by simp) fun F L C => ?_
      cbv
      repeat' first
        | (refine Named.i64 ?_ fun _ _ => ?_; (focus lia); cbv)
        | (refine CallThen.mk _ _ (C.fn (awake_fn O)) ?_; cbv)
        | (refine CallThen.mk _ _ (C.fn (set_fn O d p ⟨_, _, _, _, _⟩ (by lia))) ?_; cbv)
        | (refine CallThen.mk _ _ (C.fn (drop_fn O d p (by lia))) ?_; cbv)
        | (refine CallThen.mk _ _ (C.fn (under_fn O d p (by lia) (by lia))) ?_; cbv)
        | (refine CallThen.bool2T (C.fn (get_fn O d p (by lia))) (by assumption) ?_; cbv)
        | (refine CallThen.bool2T (C.fn (get_fn O (O.o setR d p v) p (by lia))) (by assumption) ?_; cbv)
        | (refine CallThen.mk _ _ (C.fn (rget_fn O d p (by lia))) ?_; cbv)
        | (refine Ex.known O Field.enc rfl hx ?_ ?_; (focus lia); cbv)
        | (refine CallThen.boolT (C.fn (may_fn O d (by lia) hd)) ?_ ?_; (focus assumption); cbv)
        | (refine CallThen.boolF (C.fn (may_fn O d (by lia) hd)) ?_ ?_; (focus assumption); cbv)
        | (refine CallThen.bool (C.fn (may_fn O d (by lia) hd)) (fun _ => ?_) (fun _ => ?_) <;> cbv)
        | (refine CallThen.boolT (C.fn (may_fn O (O.o setR d p v) (by lia) hrp)) ?_ ?_; (focus assumption); cbv)
        | (refine CallThen.boolF (C.fn (may_fn O (O.o setR d p v) (by lia) hrp)) ?_ ?_; (focus assumption); cbv)
        | (refine CallThen.bool (C.fn (may_fn O (O.o setR d p v) (by lia) hrp)) (fun _ => ?_) (fun _ => ?_) <;> cbv)
        | (refine CallThen.boolT (C.fn (none_fn O _ _ _)) ?_ ?_; (focus assumption); cbv)
        | (refine CallThen.boolF (C.fn (none_fn O _ _ _)) ?_ ?_; (focus assumption); cbv)
        | (refine CallThen.bool (C.fn (none_fn O _ _ _)) (fun _ => ?_) (fun _ => ?_) <;> cbv)
        | (refine CallThen.mk _ _ (C.fn (rdrop_fn O d p (by lia))) ?_; cbv)
        | (refine CallThen.mk _ _ (C.fn (runder_fn O d p (by lia) (by lia))) ?_; cbv)
        | (refine CallThen.boolT (C.fn (rsame_fn O (O.o dropR d p) _ (by lia))) ?_ ?_; (focus assumption); cbv)
        | (refine CallThen.boolF (C.fn (rsame_fn O (O.o dropR d p) _ (by lia))) ?_ ?_; (focus assumption); cbv)
        | (refine CallThen.bool (C.fn (rsame_fn O (O.o dropR d p) _ (by lia))) (fun _ => ?_) (fun _ => ?_) <;> cbv)
        | (refine CallThen.boolT (C.fn (rsame_fn O (O.o underR d p) _ (by lia))) ?_ ?_; (focus assumption); cbv)
        | (refine CallThen.boolF (C.fn (rsame_fn O (O.o underR d p) _ (by lia))) ?_ ?_; (focus assumption); cbv)
        | (refine CallThen.bool (C.fn (rsame_fn O (O.o underR d p) _ (by lia))) (fun _ => ?_) (fun _ => ?_) <;> cbv)
        | (refine CallThen.boolT (C.fn (rsame_fn O (O.o setR d p v) _ (by lia))) ?_ ?_; (focus assumption); cbv)
        | (refine CallThen.boolF (C.fn (rsame_fn O (O.o setR d p v) _ (by lia))) ?_ ?_; (focus assumption); cbv)
        | (refine CallThen.bool (C.fn (rsame_fn O (O.o setR d p v) _ (by lia))) (fun _ => ?_) (fun _ => ?_) <;> cbv)
        | (refine CallThen.boolT (C.fn (rpath_fn O p hp)) ?_ ?_; (focus assumption); cbv)
        | (refine CallThen.boolF (C.fn (rpath_fn O p hp)) ?_ ?_; (focus assumption); cbv)
        | (refine CallThen.bool (C.fn (rpath_fn O p hp)) (fun _ => ?_) (fun _ => ?_) <;> cbv)
        | (refine CallThen.mk _ _ (C.fn (rcheck2_fn O ⟨_, _, _, _, _⟩)) ?_; cbv)
        | (refine CallThen.mk _ _ (C.fn (rset_fn O d p ⟨_, _, _, _, _⟩ (by lia))) ?_; cbv)
        | (refine Named.len fun _ _ hq => ?_; (try simp only [List.length_append, List.length_take, List.length_drop, List.length_replicate, List.length_set] at hq); cbv)
        | (refine Named.mk fun _ _ => ?_; cbv)
        | (refine Br.t ?_ ?_; (focus first | assumption | lia); cbv)
        | (refine Br.f ?_ ?_; (focus first | assumption | lia); cbv)
        | (refine Br.mk (fun _ => ?_) (fun _ => ?_) <;> cbv)
        | (refine Need.mk ?_ ?_; rotate_left; cbv)
        | (refine RetThen.mk [] [] ?_; cbv)
      all_goals lia
  | false =>
    have hB2 : O.o getB d p = false := by rw [O.h]; exact hB
    obtain ⟨hk, hv⟩ := get_not hB
    have hk2 : O.o getI d p = -1 := by rw [O.h]; exact hk
    have hc : Val.enc (O.o getV d p) = zeroV.enc := by rw [O.h, hv]
    by_cases hm : may d = true
    · have M1 : O.o may d = true := by rw [M]; exact hm
      replace S1 := S1 hm
      replace S2 := S2 hm
      replace E0 := E0 hm
      by_cases hok : isPath p = true ∧ v.Ok
      · have P1 : O.o isPath p = true := by rw [Pt]; exact hok.1
        have V1 : O.o Val.err v = 0 := Ve.2 hok.2
        by_cases hl : d.length = 16
        · have n4 := N4 ⟨hm, hok⟩ hB hl
          clear N1 N2 N3 N4 D M Pt Ve
          refine go (fn := Go.Proofs.Tryd.f5) (n := 176) (rv := [ResultVar.tmp 6]) rfl (by decide) rfl (by decide +kernel) rfl rfl (by simp) fun F L C => ?_
          cbv
          repeat' first
            | (refine Named.i64 ?_ fun _ _ => ?_; (focus lia); cbv)
            | (refine CallThen.mk _ _ (C.fn (awake_fn O)) ?_; cbv)
            | (refine CallThen.mk _ _ (C.fn (set_fn O d p ⟨_, _, _, _, _⟩ (by lia))) ?_; cbv)
            | (refine CallThen.mk _ _ (C.fn (drop_fn O d p (by lia))) ?_; cbv)
            | (refine CallThen.mk _ _ (C.fn (under_fn O d p (by lia) (by lia))) ?_; cbv)
            | (refine CallThen.bool2F (C.fn (get_fn O d p (by lia))) (by assumption) ?_; cbv)
            | (refine CallThen.bool2T (C.fn (get_fn O (O.o setR d p v) p (by lia))) (by assumption) ?_; cbv)
            | (refine CallThen.mk _ _ (C.fn (rget_fn O d p (by lia))) ?_; cbv)
            | (refine CallThen.boolT (C.fn (may_fn O d (by lia) hd)) ?_ ?_; (focus assumption); cbv)
            | (refine CallThen.boolF (C.fn (may_fn O d (by lia) hd)) ?_ ?_; (focus assumption); cbv)
            | (refine CallThen.bool (C.fn (may_fn O d (by lia) hd)) (fun _ => ?_) (fun _ => ?_) <;> cbv)
            | (refine CallThen.boolT (C.fn (may_fn O (O.o setR d p v) (by lia) hrp)) ?_ ?_; (focus assumption); cbv)
            | (refine CallThen.boolF (C.fn (may_fn O (O.o setR d p v) (by lia) hrp)) ?_ ?_; (focus assumption); cbv)
            | (refine CallThen.bool (C.fn (may_fn O (O.o setR d p v) (by lia) hrp)) (fun _ => ?_) (fun _ => ?_) <;> cbv)
            | (refine CallThen.boolT (C.fn (none_fn O _ _ _)) ?_ ?_; (focus assumption); cbv)
            | (refine CallThen.boolF (C.fn (none_fn O _ _ _)) ?_ ?_; (focus assumption); cbv)
            | (refine CallThen.bool (C.fn (none_fn O _ _ _)) (fun _ => ?_) (fun _ => ?_) <;> cbv)
            | (refine CallThen.mk _ _ (C.fn (rdrop_fn O d p (by lia))) ?_; cbv)
            | (refine CallThen.mk _ _ (C.fn (runder_fn O d p (by lia) (by lia))) ?_; cbv)
            | (refine CallThen.boolT (C.fn (rsame_fn O (O.o dropR d p) _ (by lia))) ?_ ?_; (focus assumption); cbv)
            | (refine CallThen.boolF (C.fn (rsame_fn O (O.o dropR d p) _ (by lia))) ?_ ?_; (focus assumption); cbv)
            | (refine CallThen.bool (C.fn (rsame_fn O (O.o dropR d p) _ (by lia))) (fun _ => ?_) (fun _ => ?_) <;> cbv)
            | (refine CallThen.boolT (C.fn (rsame_fn O (O.o underR d p) _ (by lia))) ?_ ?_; (focus assumption); cbv)
            | (refine CallThen.boolF (C.fn (rsame_fn O (O.o underR d p) _ (by lia))) ?_ ?_; (focus assumption); cbv)
            | (refine CallThen.bool (C.fn (rsame_fn O (O.o underR d p) _ (by lia))) (fun _ => ?_) (fun _ => ?_) <;> cbv)
            | (refine CallThen.boolT (C.fn (rsame_fn O (O.o setR d p v) _ (by lia))) ?_ ?_; (focus assumption); cbv)
            | (refine CallThen.boolF (C.fn (rsame_fn O (O.o setR d p v) _ (by lia))) ?_ ?_; (focus assumption); cbv)
            | (refine CallThen.bool (C.fn (rsame_fn O (O.o setR d p v) _ (by lia))) (fun _ => ?_) (fun _ => ?_) <;> cbv)
            | (refine CallThen.boolT (C.fn (rpath_fn O p hp)) ?_ ?_; (focus assumption); cbv)
            | (refine CallThen.boolF (C.fn (rpath_fn O p hp)) ?_ ?_; (focus assumption); cbv)
            | (refine CallThen.bool (C.fn (rpath_fn O p hp)) (fun _ => ?_) (fun _ => ?_) <;> cbv)
            | (refine CallThen.mk _ _ (C.fn (rcheck2_fn O ⟨_, _, _, _, _⟩)) ?_; cbv)
            | (refine CallThen.mk _ _ (C.fn (rset_fn O d p ⟨_, _, _, _, _⟩ (by lia))) ?_; cbv)
            | (refine Named.len fun _ _ hq => ?_; (try simp only [List.length_append, List.length_take, List.length_drop, List.length_replicate, List.length_set] at hq); cbv)
            | (refine Named.mk fun _ _ => ?_; cbv)
            | (refine Br.t ?_ ?_; (focus first | assumption | lia); cbv)
            | (refine Br.f ?_ ?_; (focus first | assumption | lia); cbv)
            | (refine Br.mk (fun _ => ?_) (fun _ => ?_) <;> cbv)
            | (refine Need.mk ?_ ?_; rotate_left; cbv)
            | (refine RetThen.mk [] [] ?_; cbv)
          all_goals lia
        · obtain ⟨D1, D2, D3, D4, D5⟩ := D ⟨hm, hok⟩ (.inr hl)
          clear N1 N2 N3 N4 D M Pt Ve
          refine go (fn := Go.Proofs.Tryd.f5) (n := 176) (rv := [ResultVar.tmp 6]) rfl (by decide) rfl (by decide +kernel) rfl rfl (by simp) fun F L C => ?_
          cbv
          repeat' first
            | (refine Named.i64 ?_ fun _ _ => ?_; (focus lia); cbv)
            | (refine CallThen.mk _ _ (C.fn (awake_fn O)) ?_; cbv)
            | (refine CallThen.mk _ _ (C.fn (set_fn O d p ⟨_, _, _, _, _⟩ (by lia))) ?_; cbv)
            | (refine CallThen.mk _ _ (C.fn (drop_fn O d p (by lia))) ?_; cbv)
            | (refine CallThen.mk _ _ (C.fn (under_fn O d p (by lia) (by lia))) ?_; cbv)
            | (refine CallThen.bool2F (C.fn (get_fn O d p (by lia))) (by assumption) ?_; cbv)
            | (refine CallThen.bool2T (C.fn (get_fn O (O.o setR d p v) p (by lia))) (by assumption) ?_; cbv)
            | (refine CallThen.mk _ _ (C.fn (rget_fn O d p (by lia))) ?_; cbv)
            | (refine CallThen.boolT (C.fn (may_fn O d (by lia) hd)) ?_ ?_; (focus assumption); cbv)
            | (refine CallThen.boolF (C.fn (may_fn O d (by lia) hd)) ?_ ?_; (focus assumption); cbv)
            | (refine CallThen.bool (C.fn (may_fn O d (by lia) hd)) (fun _ => ?_) (fun _ => ?_) <;> cbv)
            | (refine CallThen.boolT (C.fn (may_fn O (O.o setR d p v) (by lia) hrp)) ?_ ?_; (focus assumption); cbv)
            | (refine CallThen.boolF (C.fn (may_fn O (O.o setR d p v) (by lia) hrp)) ?_ ?_; (focus assumption); cbv)
            | (refine CallThen.bool (C.fn (may_fn O (O.o setR d p v) (by lia) hrp)) (fun _ => ?_) (fun _ => ?_) <;> cbv)
            | (refine CallThen.boolT (C.fn (none_fn O _ _ _)) ?_ ?_; (focus assumption); cbv)
            | (refine CallThen.boolF (C.fn (none_fn O _ _ _)) ?_ ?_; (focus assumption); cbv)
            | (refine CallThen.bool (C.fn (none_fn O _ _ _)) (fun _ => ?_) (fun _ => ?_) <;> cbv)
            | (refine CallThen.mk _ _ (C.fn (rdrop_fn O d p (by lia))) ?_; cbv)
            | (refine CallThen.mk _ _ (C.fn (runder_fn O d p (by lia) (by lia))) ?_; cbv)
            | (refine CallThen.boolT (C.fn (rsame_fn O (O.o dropR d p) _ (by lia))) ?_ ?_; (focus assumption); cbv)
            | (refine CallThen.boolF (C.fn (rsame_fn O (O.o dropR d p) _ (by lia))) ?_ ?_; (focus assumption); cbv)
            | (refine CallThen.bool (C.fn (rsame_fn O (O.o dropR d p) _ (by lia))) (fun _ => ?_) (fun _ => ?_) <;> cbv)
            | (refine CallThen.boolT (C.fn (rsame_fn O (O.o underR d p) _ (by lia))) ?_ ?_; (focus assumption); cbv)
            | (refine CallThen.boolF (C.fn (rsame_fn O (O.o underR d p) _ (by lia))) ?_ ?_; (focus assumption); cbv)
            | (refine CallThen.bool (C.fn (rsame_fn O (O.o underR d p) _ (by lia))) (fun _ => ?_) (fun _ => ?_) <;> cbv)
            | (refine CallThen.boolT (C.fn (rsame_fn O (O.o setR d p v) _ (by lia))) ?_ ?_; (focus assumption); cbv)
            | (refine CallThen.boolF (C.fn (rsame_fn O (O.o setR d p v) _ (by lia))) ?_ ?_; (focus assumption); cbv)
            | (refine CallThen.bool (C.fn (rsame_fn O (O.o setR d p v) _ (by lia))) (fun _ => ?_) (fun _ => ?_) <;> cbv)
            | (refine CallThen.boolT (C.fn (rpath_fn O p hp)) ?_ ?_; (focus assumption); cbv)
            | (refine CallThen.boolF (C.fn (rpath_fn O p hp)) ?_ ?_; (focus assumption); cbv)
            | (refine CallThen.bool (C.fn (rpath_fn O p hp)) (fun _ => ?_) (fun _ => ?_) <;> cbv)
            | (refine CallThen.mk _ _ (C.fn (rcheck2_fn O ⟨_, _, _, _, _⟩)) ?_; cbv)
            | (refine CallThen.mk _ _ (C.fn (rset_fn O d p ⟨_, _, _, _, _⟩ (by lia))) ?_; cbv)
            | (refine Named.len fun _ _ hq => ?_; (try simp only [List.length_append, List.length_take, List.length_drop, List.length_replicate, List.length_set] at hq); cbv)
            | (refine Named.mk fun _ _ => ?_; cbv)
            | (refine Br.t ?_ ?_; (focus first | assumption | lia); cbv)
            | (refine Br.f ?_ ?_; (focus first | assumption | lia); cbv)
            | (refine Br.mk (fun _ => ?_) (fun _ => ?_) <;> cbv)
            | (refine Need.mk ?_ ?_; rotate_left; cbv)
            | (refine RetThen.mk [] [] ?_; cbv)
          all_goals lia
      · have n3 := N3 (fun h => hok h.2)
        by_cases hpp : isPath p = true
        · have P1 : O.o isPath p = true := by rw [Pt]; exact hpp
          have V1 : ¬ O.o Val.err v = 0 := fun h => hok ⟨hpp, Ve.1 h⟩
          clear N1 N2 N3 N4 D M Pt Ve
          refine go (fn := Go.Proofs.Tryd.f5) (n := 176) (rv := [ResultVar.tmp 6]) rfl (by decide) rfl (by decide +kernel) rfl rfl (by simp) fun F L C => ?_
          cbv
          repeat' first
            | (refine Named.i64 ?_ fun _ _ => ?_; (focus lia); cbv)
            | (refine CallThen.mk _ _ (C.fn (awake_fn O)) ?_; cbv)
            | (refine CallThen.mk _ _ (C.fn (set_fn O d p ⟨_, _, _, _, _⟩ (by lia))) ?_; cbv)
            | (refine CallThen.mk _ _ (C.fn (drop_fn O d p (by lia))) ?_; cbv)
            | (refine CallThen.mk _ _ (C.fn (under_fn O d p (by lia) (by lia))) ?_; cbv)
            | (refine CallThen.bool2F (C.fn (get_fn O d p (by lia))) (by assumption) ?_; cbv)
            | (refine CallThen.bool2T (C.fn (get_fn O (O.o setR d p v) p (by lia))) (by assumption) ?_; cbv)
            | (refine CallThen.mk _ _ (C.fn (rget_fn O d p (by lia))) ?_; cbv)
            | (refine CallThen.boolT (C.fn (may_fn O d (by lia) hd)) ?_ ?_; (focus assumption); cbv)
            | (refine CallThen.boolF (C.fn (may_fn O d (by lia) hd)) ?_ ?_; (focus assumption); cbv)
            | (refine CallThen.bool (C.fn (may_fn O d (by lia) hd)) (fun _ => ?_) (fun _ => ?_) <;> cbv)
            | (refine CallThen.boolT (C.fn (may_fn O (O.o setR d p v) (by lia) hrp)) ?_ ?_; (focus assumption); cbv)
            | (refine CallThen.boolF (C.fn (may_fn O (O.o setR d p v) (by lia) hrp)) ?_ ?_; (focus assumption); cbv)
            | (refine CallThen.bool (C.fn (may_fn O (O.o setR d p v) (by lia) hrp)) (fun _ => ?_) (fun _ => ?_) <;> cbv)
            | (refine CallThen.boolT (C.fn (none_fn O _ _ _)) ?_ ?_; (focus assumption); cbv)
            | (refine CallThen.boolF (C.fn (none_fn O _ _ _)) ?_ ?_; (focus assumption); cbv)
            | (refine CallThen.bool (C.fn (none_fn O _ _ _)) (fun _ => ?_) (fun _ => ?_) <;> cbv)
            | (refine CallThen.mk _ _ (C.fn (rdrop_fn O d p (by lia))) ?_; cbv)
            | (refine CallThen.mk _ _ (C.fn (runder_fn O d p (by lia) (by lia))) ?_; cbv)
            | (refine CallThen.boolT (C.fn (rsame_fn O (O.o dropR d p) _ (by lia))) ?_ ?_; (focus assumption); cbv)
            | (refine CallThen.boolF (C.fn (rsame_fn O (O.o dropR d p) _ (by lia))) ?_ ?_; (focus assumption); cbv)
            | (refine CallThen.bool (C.fn (rsame_fn O (O.o dropR d p) _ (by lia))) (fun _ => ?_) (fun _ => ?_) <;> cbv)
            | (refine CallThen.boolT (C.fn (rsame_fn O (O.o underR d p) _ (by lia))) ?_ ?_; (focus assumption); cbv)
            | (refine CallThen.boolF (C.fn (rsame_fn O (O.o underR d p) _ (by lia))) ?_ ?_; (focus assumption); cbv)
            | (refine CallThen.bool (C.fn (rsame_fn O (O.o underR d p) _ (by lia))) (fun _ => ?_) (fun _ => ?_) <;> cbv)
            | (refine CallThen.boolT (C.fn (rsame_fn O (O.o setR d p v) _ (by lia))) ?_ ?_; (focus assumption); cbv)
            | (refine CallThen.boolF (C.fn (rsame_fn O (O.o setR d p v) _ (by lia))) ?_ ?_; (focus assumption); cbv)
            | (refine CallThen.bool (C.fn (rsame_fn O (O.o setR d p v) _ (by lia))) (fun _ => ?_) (fun _ => ?_) <;> cbv)
            | (refine CallThen.boolT (C.fn (rpath_fn O p hp)) ?_ ?_; (focus assumption); cbv)
            | (refine CallThen.boolF (C.fn (rpath_fn O p hp)) ?_ ?_; (focus assumption); cbv)
            | (refine CallThen.bool (C.fn (rpath_fn O p hp)) (fun _ => ?_) (fun _ => ?_) <;> cbv)
            | (refine CallThen.mk _ _ (C.fn (rcheck2_fn O ⟨_, _, _, _, _⟩)) ?_; cbv)
            | (refine CallThen.mk _ _ (C.fn (rset_fn O d p ⟨_, _, _, _, _⟩ (by lia))) ?_; cbv)
            | (refine Named.len fun _ _ hq => ?_; (try simp only [List.length_append, List.length_take, List.length_drop, List.length_replicate, List.length_set] at hq); cbv)
            | (refine Named.mk fun _ _ => ?_; cbv)
            | (refine Br.t ?_ ?_; (focus first | assumption | lia); cbv)
            | (refine Br.f ?_ ?_; (focus first | assumption | lia); cbv)
            | (refine Br.mk (fun _ => ?_) (fun _ => ?_) <;> cbv)
            | (refine Need.mk ?_ ?_; rotate_left; cbv)
            | (refine RetThen.mk [] [] ?_; cbv)
          all_goals lia
        · have P1 : O.o isPath p = false := by rw [Pt]; simpa using hpp
          clear N1 N2 N3 N4 D M Pt Ve
          refine go (fn := Go.Proofs.Tryd.f5) (n := 176) (rv := [ResultVar.tmp 6]) rfl (by decide) rfl (by decide +kernel) rfl rfl (by simp) fun F L C => ?_
          cbv
          repeat' first
            | (refine Named.i64 ?_ fun _ _ => ?_; (focus lia); cbv)
            | (refine CallThen.mk _ _ (C.fn (awake_fn O)) ?_; cbv)
            | (refine CallThen.mk _ _ (C.fn (set_fn O d p ⟨_, _, _, _, _⟩ (by lia))) ?_; cbv)
            | (refine CallThen.mk _ _ (C.fn (drop_fn O d p (by lia))) ?_; cbv)
            | (refine CallThen.mk _ _ (C.fn (under_fn O d p (by lia) (by lia))) ?_; cbv)
            | (refine CallThen.bool2F (C.fn (get_fn O d p (by lia))) (by assumption) ?_; cbv)
            | (refine CallThen.bool2T (C.fn (get_fn O (O.o setR d p v) p (by lia))) (by assumption) ?_; cbv)
            | (refine CallThen.mk _ _ (C.fn (rget_fn O d p (by lia))) ?_; cbv)
            | (refine CallThen.boolT (C.fn (may_fn O d (by lia) hd)) ?_ ?_; (focus assumption); cbv)
            | (refine CallThen.boolF (C.fn (may_fn O d (by lia) hd)) ?_ ?_; (focus assumption); cbv)
            | (refine CallThen.bool (C.fn (may_fn O d (by lia) hd)) (fun _ => ?_) (fun _ => ?_) <;> cbv)
            | (refine CallThen.boolT (C.fn (may_fn O (O.o setR d p v) (by lia) hrp)) ?_ ?_; (focus assumption); cbv)
            | (refine CallThen.boolF (C.fn (may_fn O (O.o setR d p v) (by lia) hrp)) ?_ ?_; (focus assumption); cbv)
            | (refine CallThen.bool (C.fn (may_fn O (O.o setR d p v) (by lia) hrp)) (fun _ => ?_) (fun _ => ?_) <;> cbv)
            | (refine CallThen.boolT (C.fn (none_fn O _ _ _)) ?_ ?_; (focus assumption); cbv)
            | (refine CallThen.boolF (C.fn (none_fn O _ _ _)) ?_ ?_; (focus assumption); cbv)
            | (refine CallThen.bool (C.fn (none_fn O _ _ _)) (fun _ => ?_) (fun _ => ?_) <;> cbv)
            | (refine CallThen.mk _ _ (C.fn (rdrop_fn O d p (by lia))) ?_; cbv)
            | (refine CallThen.mk _ _ (C.fn (runder_fn O d p (by lia) (by lia))) ?_; cbv)
            | (refine CallThen.boolT (C.fn (rsame_fn O (O.o dropR d p) _ (by lia))) ?_ ?_; (focus assumption); cbv)
            | (refine CallThen.boolF (C.fn (rsame_fn O (O.o dropR d p) _ (by lia))) ?_ ?_; (focus assumption); cbv)
            | (refine CallThen.bool (C.fn (rsame_fn O (O.o dropR d p) _ (by lia))) (fun _ => ?_) (fun _ => ?_) <;> cbv)
            | (refine CallThen.boolT (C.fn (rsame_fn O (O.o underR d p) _ (by lia))) ?_ ?_; (focus assumption); cbv)
            | (refine CallThen.boolF (C.fn (rsame_fn O (O.o underR d p) _ (by lia))) ?_ ?_; (focus assumption); cbv)
            | (refine CallThen.bool (C.fn (rsame_fn O (O.o underR d p) _ (by lia))) (fun _ => ?_) (fun _ => ?_) <;> cbv)
            | (refine CallThen.boolT (C.fn (rsame_fn O (O.o setR d p v) _ (by lia))) ?_ ?_; (focus assumption); cbv)
            | (refine CallThen.boolF (C.fn (rsame_fn O (O.o setR d p v) _ (by lia))) ?_ ?_; (focus assumption); cbv)
            | (refine CallThen.bool (C.fn (rsame_fn O (O.o setR d p v) _ (by lia))) (fun _ => ?_) (fun _ => ?_) <;> cbv)
            | (refine CallThen.boolT (C.fn (rpath_fn O p hp)) ?_ ?_; (focus assumption); cbv)
            | (refine CallThen.boolF (C.fn (rpath_fn O p hp)) ?_ ?_; (focus assumption); cbv)
            | (refine CallThen.bool (C.fn (rpath_fn O p hp)) (fun _ => ?_) (fun _ => ?_) <;> cbv)
            | (refine CallThen.mk _ _ (C.fn (rcheck2_fn O ⟨_, _, _, _, _⟩)) ?_; cbv)
            | (refine CallThen.mk _ _ (C.fn (rset_fn O d p ⟨_, _, _, _, _⟩ (by lia))) ?_; cbv)
            | (refine Named.len fun _ _ hq => ?_; (try simp only [List.length_append, List.length_take, List.length_drop, List.length_replicate, List.length_set] at hq); cbv)
            | (refine Named.mk fun _ _ => ?_; cbv)
            | (refine Br.t ?_ ?_; (focus first | assumption | lia); cbv)
            | (refine Br.f ?_ ?_; (focus first | assumption | lia); cbv)
            | (refine Br.mk (fun _ => ?_) (fun _ => ?_) <;> cbv)
            | (refine Need.mk ?_ ?_; rotate_left; cbv)
            | (refine RetThen.mk [] [] ?_; cbv)
          all_goals lia
    · have n1 := N1 hm
      have n2 := N2 hm
      have n3 := N3 (fun h => hm h.1)
      have M1 : O.o may d = false := by rw [M]; simpa using hm
      clear N1 N2 N3 N4 D M Pt Ve
      refine go (fn := Go.Proofs.Tryd.f5) (n := 176) (rv := [ResultVar.tmp 6]) rfl (by decide) rfl (by decide +kernel) rfl rfl (by simp) fun F L C => ?_
      cbv
      repeat' first
        | (refine Named.i64 ?_ fun _ _ => ?_; (focus lia); cbv)
        | (refine CallThen.mk _ _ (C.fn (awake_fn O)) ?_; cbv)
        | (refine CallThen.mk _ _ (C.fn (set_fn O d p ⟨_, _, _, _, _⟩ (by lia))) ?_; cbv)
        | (refine CallThen.mk _ _ (C.fn (drop_fn O d p (by lia))) ?_; cbv)
        | (refine CallThen.mk _ _ (C.fn (under_fn O d p (by lia) (by lia))) ?_; cbv)
        | (refine CallThen.bool2F (C.fn (get_fn O d p (by lia))) (by assumption) ?_; cbv)
        | (refine CallThen.bool2T (C.fn (get_fn O (O.o setR d p v) p (by lia))) (by assumption) ?_; cbv)
        | (refine CallThen.mk _ _ (C.fn (rget_fn O d p (by lia))) ?_; cbv)
        | (refine CallThen.boolT (C.fn (may_fn O d (by lia) hd)) ?_ ?_; (focus assumption); cbv)
        | (refine CallThen.boolF (C.fn (may_fn O d (by lia) hd)) ?_ ?_; (focus assumption); cbv)
        | (refine CallThen.bool (C.fn (may_fn O d (by lia) hd)) (fun _ => ?_) (fun _ => ?_) <;> cbv)
        | (refine CallThen.boolT (C.fn (may_fn O (O.o setR d p v) (by lia) hrp)) ?_ ?_; (focus assumption); cbv)
        | (refine CallThen.boolF (C.fn (may_fn O (O.o setR d p v) (by lia) hrp)) ?_ ?_; (focus assumption); cbv)
        | (refine CallThen.bool (C.fn (may_fn O (O.o setR d p v) (by lia) hrp)) (fun _ => ?_) (fun _ => ?_) <;> cbv)
        | (refine CallThen.boolT (C.fn (none_fn O _ _ _)) ?_ ?_; (focus assumption); cbv)
        | (refine CallThen.boolF (C.fn (none_fn O _ _ _)) ?_ ?_; (focus assumption); cbv)
        | (refine CallThen.bool (C.fn (none_fn O _ _ _)) (fun _ => ?_) (fun _ => ?_) <;> cbv)
        | (refine CallThen.mk _ _ (C.fn (rdrop_fn O d p (by lia))) ?_; cbv)
        | (refine CallThen.mk _ _ (C.fn (runder_fn O d p (by lia) (by lia))) ?_; cbv)
        | (refine CallThen.boolT (C.fn (rsame_fn O (O.o dropR d p) _ (by lia))) ?_ ?_; (focus assumption); cbv)
        | (refine CallThen.boolF (C.fn (rsame_fn O (O.o dropR d p) _ (by lia))) ?_ ?_; (focus assumption); cbv)
        | (refine CallThen.bool (C.fn (rsame_fn O (O.o dropR d p) _ (by lia))) (fun _ => ?_) (fun _ => ?_) <;> cbv)
        | (refine CallThen.boolT (C.fn (rsame_fn O (O.o underR d p) _ (by lia))) ?_ ?_; (focus assumption); cbv)
        | (refine CallThen.boolF (C.fn (rsame_fn O (O.o underR d p) _ (by lia))) ?_ ?_; (focus assumption); cbv)
        | (refine CallThen.bool (C.fn (rsame_fn O (O.o underR d p) _ (by lia))) (fun _ => ?_) (fun _ => ?_) <;> cbv)
        | (refine CallThen.boolT (C.fn (rsame_fn O (O.o setR d p v) _ (by lia))) ?_ ?_; (focus assumption); cbv)
        | (refine CallThen.boolF (C.fn (rsame_fn O (O.o setR d p v) _ (by lia))) ?_ ?_; (focus assumption); cbv)
        | (refine CallThen.bool (C.fn (rsame_fn O (O.o setR d p v) _ (by lia))) (fun _ => ?_) (fun _ => ?_) <;> cbv)
        | (refine CallThen.boolT (C.fn (rpath_fn O p hp)) ?_ ?_; (focus assumption); cbv)
        | (refine CallThen.boolF (C.fn (rpath_fn O p hp)) ?_ ?_; (focus assumption); cbv)
        | (refine CallThen.bool (C.fn (rpath_fn O p hp)) (fun _ => ?_) (fun _ => ?_) <;> cbv)
        | (refine CallThen.mk _ _ (C.fn (rcheck2_fn O ⟨_, _, _, _, _⟩)) ?_; cbv)
        | (refine CallThen.mk _ _ (C.fn (rset_fn O d p ⟨_, _, _, _, _⟩ (by lia))) ?_; cbv)
        | (refine Named.len fun _ _ hq => ?_; (try simp only [List.length_append, List.length_take, List.length_drop, List.length_replicate, List.length_set] at hq); cbv)
        | (refine Named.mk fun _ _ => ?_; cbv)
        | (refine Br.t ?_ ?_; (focus first | assumption | lia); cbv)
        | (refine Br.f ?_ ?_; (focus first | assumption | lia); cbv)
        | (refine Br.mk (fun _ => ?_) (fun _ => ?_) <;> cbv)
        | (refine Need.mk ?_ ?_; rotate_left; cbv)
        | (refine RetThen.mk [] [] ?_; cbv)
      all_goals lia
end Go.Sym
