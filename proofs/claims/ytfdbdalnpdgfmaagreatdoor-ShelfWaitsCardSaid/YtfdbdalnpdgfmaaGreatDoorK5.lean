/- Which texts are paths, which documents may be: the walks. -/
import Derived.Test.YtfdbdalnpdgfmaaGreatDoorK2
import Derived.Test.YtfdbdalnpdgfmaaGreatDoorK4
set_option linter.all false
set_option linter.unusedVariables false
set_option linter.unusedSimpArgs false
namespace Go.Sym
open Go Go.Proofs.Tryz
set_option maxRecDepth 100000
theorem badW_fn (O:Opq) (s:ByteArray) (hs:s.size≤1099511627776):Fn prog 71 [.str s] [] [.bool (O.o badW s)] []:=by
 have t:=trimW_empty s
 refine go (fn:=Proofs.Tryz.f71) (n:=9) (rv:=[ResultVar.tmp 2]) rfl (by decide) rfl (by decide +kernel) rfl rfl (by simp) fun F L C=>?_
 cbv
 (repeat' first|(refine Na ?_ fun _ _=>?_;(focus lia);cbv)|(refine CallThen.mk _ _ (C.fn (trim_fn O _ hs)) ?_;cbv)|(refine Nl fun _ _ hq=>?_;(try simp only [lenS] at hq);cbv)|(refine Nm fun _ _=>?_;cbv)|(refine Br.t ?_ ?_;(focus first|assumption|lia);cbv)|(refine Br.f ?_ ?_;(focus first|assumption|lia);cbv)|(refine Br.mk (fun _=>?_) (fun _=>?_)<;>cbv)|(refine Need.mk ?_ ?_;rotate_left;cbv)|(refine R0 ?_;cbv))
 all_goals simp only [O.h,badW] at *
 ·rename_i h;subst h;exact⟨rfl,trivial⟩
 ·rename_i h1 h2
  rw[t.1 h2]
  refine⟨?_,trivial⟩
  have:s.data.toList≠[]:=fun e=>h1 (eq_of_toL e)
  simpa using this
 ·rename_i h1 h2
  refine⟨?_,trivial⟩
  have:(s.data.toList.any fun c=>!isLet c.toNat)=true:=by
   cases hx:s.data.toList.any fun c=>!isLet c.toNat with
   | true=>rfl
   | false=>exact absurd (t.2 hx) h2
  rw[this,Bool.or_true]
theorem indexBad_fn (O:Opq) (l:List ByteArray) (hl:l.length≤1099511627777) (hs:∀ s∈l,s.size≤1099511627776):Fn prog 101 [.sl false 0 false 1 (O.o Strs l),.fn 71 [] []] [] [.int .i64 (O.o (findI badW) l)] []:=by
 have hlen:(O.o Strs l).length=l.length:=by rw[O.h,Strs_len]
 obtain⟨N,hN⟩:∃ N:Nat,N=l.length:=⟨_,rfl⟩
 refine go (fn:=Proofs.Tryz.f101) (n:=17) (rv:=[ResultVar.tmp 4]) rfl (by decide) rfl (by decide +kernel) rfl rfl (by simp) fun F L C=>?_
 cbv
 (repeat' first|(refine Na ?_ fun _ _=>?_;(focus lia);cbv)|(refine Nl fun _ _ hq=>?_;(try simp only [lenS] at hq);cbv)|(refine Nm fun _ _=>?_;cbv)|(refine Br.t ?_ ?_;(focus first|assumption|lia);cbv)|(refine Br.f ?_ ?_;(focus first|assumption|lia);cbv)|(refine Br.mk (fun _=>?_) (fun _=>?_)<;>cbv)|(refine Need.mk ?_ ?_;rotate_left;cbv)|(refine R0 ?_;cbv))
 refine LoopThen.mk (C.loopAt (ι:=Nat) [(4,5),(8,18)] (fun k=>[(4,.int .i64 0),(8,.int .i64 k)]) (fun _=>[])
  (fun k=>k≤l.length∧∀ (j:Nat) y,j<k→l[j]?=some y→badW y=false) (fun k=>N-k) (by decide +kernel) (Start.mk 0 [] [] (by simp) (by cbv;exact⟨.refl _,.refl _,rfl,trivial⟩)) ?_)
 rintro k ⟨h1,h2⟩
 cbv
 (repeat' first|(refine Na ?_ fun _ _=>?_;(focus lia);cbv)|(refine Ex.map O (fun s=>[.str s]) rfl ?_ fun _ _=>?_;rotate_left;cbv)|(refine CallThen.bool (C.fn (badW_fn O _ (hs _ (List.mem_of_getElem? (by assumption))))) (fun _=>?_) (fun _=>?_)<;>cbv)|(refine Back.up [] [] ?_ ?_ fun _ _=>?_;rotate_left 2;cbv)|(refine Nl fun _ _ hq=>?_;(try simp only [lenS] at hq);cbv)|(refine Nm fun _ _=>?_;cbv)|(refine Br.t ?_ ?_;(focus first|assumption|lia);cbv)|(refine Br.f ?_ ?_;(focus first|assumption|lia);cbv)|(refine Br.mk (fun _=>?_) (fun _=>?_)<;>cbv)|(refine Need.mk ?_ ?_;rotate_left;cbv)|(refine R0 ?_;cbv))
 all_goals(try subst_vars)
 all_goals(try simp only [O.h,natTo,natPred,emp] at *)
 all_goals(try subst_vars)
 all_goals(repeat' apply And.intro)
 all_goals first
  | exact True.intro
  | exact WkR.refl _
  | lia
  | (simp_all [];done)
  | (simp_all []<;>lia)
  | (grind)
  | skip
 ·exact findI_at (by assumption) (by assumption) h2
 ·exact findI_none fun j y hj=>h2 j y (by lia)
theorem containsBad_fn (O:Opq) (l:List ByteArray) (hl:l.length≤1099511627777) (hs:∀ s∈l,s.size≤1099511627776):Fn prog 70 [.sl false 0 false 1 (O.o Strs l),.fn 71 [] []] [] [.bool (O.o (List.any l) badW)] []:=by
 have h:=findI_ge (p:=badW) (l:=l)
 refine go (fn:=Proofs.Tryz.f70) (n:=7) (rv:=[ResultVar.tmp 4]) rfl (by decide) rfl (by decide +kernel) rfl rfl (by simp) fun F L C=>?_
 cbv
 (repeat' first|(refine Na ?_ fun _ _=>?_;(focus lia);cbv)|(refine CallThen.mk _ _ (C.fn (indexBad_fn O _ hl hs)) ?_;cbv)|(refine Nl fun _ _ hq=>?_;(try simp only [lenS] at hq);cbv)|(refine Nm fun _ _=>?_;cbv)|(refine Br.t ?_ ?_;(focus first|assumption|lia);cbv)|(refine Br.f ?_ ?_;(focus first|assumption|lia);cbv)|(refine Br.mk (fun _=>?_) (fun _=>?_)<;>cbv)|(refine Need.mk ?_ ?_;rotate_left;cbv)|(refine R0 ?_;cbv))
 all_goals(try subst_vars)
 all_goals(try simp only [O.h,natTo,natPred,emp] at *)
 all_goals(try subst_vars)
 all_goals(repeat' apply And.intro)
 all_goals first
  | exact True.intro
  | exact WkR.refl _
  | lia
  | (simp_all [];done)
  | (simp_all []<;>lia)
  | (grind)
  | skip
theorem path_fn (O:Opq) (s:ByteArray):Fn prog 52 [.str s] [] [.bool (O.o isPath s)] []:=by
 have h:=isPath_pieces s
 have hk:O.o isKey s=true→s.size≤1099511627776:=by rw[O.h,isKey,decide_eq_true_eq];omega
 refine go (fn:=Proofs.Tryz.f52) (n:=10) (rv:=[ResultVar.tmp 2]) rfl (by decide) rfl (by decide +kernel) rfl rfl (by simp) fun F L C=>?_
 cbv
 (repeat' first|(refine Na ?_ fun _ _=>?_;(focus lia);cbv)|(refine CallThen.bool (C.fn (key_fn O _)) (fun _=>?_) (fun _=>?_)<;>cbv)|(refine CallThen.mk _ _ (C.fn (split_fn O _ _ rfl (hk (by assumption)))) ?_;cbv)|(refine CallThen.bool (C.fn (containsBad_fn O _ (by simp only [O.h];exact pieces_len (hk (by assumption))) (by simp only [O.h];exact pieces_size (hk (by assumption))))) (fun _=>?_) (fun _=>?_)<;>cbv)|(refine Nl fun _ _ hq=>?_;(try simp only [lenS] at hq);cbv)|(refine Nm fun _ _=>?_;cbv)|(refine Br.t ?_ ?_;(focus first|assumption|lia);cbv)|(refine Br.f ?_ ?_;(focus first|assumption|lia);cbv)|(refine Br.mk (fun _=>?_) (fun _=>?_)<;>cbv)|(refine Need.mk ?_ ?_;rotate_left;cbv)|(refine R0 ?_;cbv))
 all_goals(try subst_vars)
 all_goals(try simp only [O.h,natTo,natPred,emp] at *)
 all_goals(try subst_vars)
 all_goals(repeat' apply And.intro)
 all_goals first
  | exact True.intro
  | exact WkR.refl _
  | lia
  | (simp_all [];done)
  | (simp_all []<;>lia)
  | (grind)
  | skip
end Go.Sym
