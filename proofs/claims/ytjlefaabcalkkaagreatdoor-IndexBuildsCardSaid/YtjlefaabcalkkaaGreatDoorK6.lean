/- Which texts are paths, which documents may be: the walks. -/
import Derived.Test.YtjlefaabcalkkaaGreatDoorK5
import Derived.Test.YtjlefaabcalkkaaGreatDoorK2
set_option linter.all false
set_option linter.unusedVariables false
set_option linter.unusedSimpArgs false
namespace Go.Sym
open Go Go.Proofs.Tryz
set_option maxRecDepth 100000
theorem badW_fn (O:Opq) (s:ByteArray) (hs:s.size≤1099511627776):Fn prog 95 [.str s] [] [.bool (O.o badW s)] []:=by
 have t:=trimW_empty s
 refine go (fn:=Proofs.Tryz.f95) (n:=9) (rv:=[ResultVar.tmp 2]) rfl (by decide) rfl (by decide +kernel) rfl rfl (by simp) fun F L C=>?_
 cbv
 (repeat' first|(refine CallThen.mk _ _ (C.fn (trim_fn O _ hs)) ?_;cbv)|(refine Br.mk (fun _=>?_) (fun _=>?_)<;>cbv)|(refine R0 ?_;cbv))
 all_goals simp only [O.h,badW] at *
 ·rename_i h;subst h;exact⟨rfl,trivial⟩
 ·rename_i h1 h2
  rw[t.1 h2]
  refine⟨?_,trivial⟩
  have:s.data.toList≠[]:=fun e=>h1 (eq_of_toL e)
  simpa using this
 ·rename_i h1 h2
  refine⟨?_,trivial⟩
  have:(s.data.toList.any fun c=>!isLet c.toNat)=true:=by
   cases hx:s.data.toList.any fun c=>!isLet c.toNat with
   | true=>rfl
   | false=>exact absurd (t.2 hx) h2
  rw[this,Bool.or_true]
theorem indexBad_fn (O:Opq) (l:List ByteArray) (hl:l.length≤1099511627777) (hs:∀ s∈l,s.size≤1099511627776):Fn prog 125 [.sl false 0 false 1 (O.o Strs l),.fn 95 [] []] [] [.int .i64 (O.o (findI badW) l)] []:=by
 have hlen:(O.o Strs l).length=l.length:=by rw[O.h,Strs_len]
 obtain⟨N,hN⟩:∃ N:Nat,N=l.length:=⟨_,rfl⟩
 refine go (fn:=Proofs.Tryz.f125) (n:=17) (rv:=[ResultVar.tmp 4]) rfl (by decide) rfl (by decide +kernel) rfl rfl (by simp) fun F L C=>?_
 cbv
 (repeat' first|(refine Nm fun _ _=>?_;cbv))
 refine LoopThen.mk (C.loopAt (ι:=Nat) [(4,5),(8,18)] (fun k=>[(4,.int .i64 0),(8,.int .i64 k)]) (fun _=>[])
  (fun k=>k≤l.length∧∀ (j:Nat) y,j<k→l[j]?=some y→badW y=false) (fun k=>N-k) (by decide +kernel) (Start.mk 0 [] [] (by simp) (by cbv;exact⟨.refl _,.refl _,rfl,trivial⟩)) ?_)
 rintro k ⟨h1,h2⟩
 cbv
 (repeat' first|(refine Na ?_ fun _ _=>?_;(focus lia);cbv)|(refine Ex.map O (fun s=>[.str s]) rfl ?_ fun _ _=>?_;rotate_left;cbv)|(refine CallThen.bool (C.fn (badW_fn O _ (hs _ (List.mem_of_getElem? (by assumption))))) (fun _=>?_) (fun _=>?_)<;>cbv)|(refine Back.up [] [] ?_ ?_ fun _ _=>?_;rotate_left 2;cbv)|(refine Br.mk (fun _=>?_) (fun _=>?_)<;>cbv)|(refine R0 ?_;cbv))
 all_goals(try subst_vars)
 all_goals(try simp only [O.h,natTo,natPred,emp] at *)
 all_goals(try subst_vars)
 all_goals(repeat' apply And.intro)
 all_goals first
  | exact True.intro
  | exact WkR.refl _
  | lia
  | (simp_all [];done)
  | (simp_all []<;>lia)
  | (grind)
  | skip
 ·exact findI_at (by assumption) (by assumption) h2
 ·exact findI_none fun j y hj=>h2 j y (by lia)
theorem containsBad_fn (O:Opq) (l:List ByteArray) (hl:l.length≤1099511627777) (hs:∀ s∈l,s.size≤1099511627776):Fn prog 94 [.sl false 0 false 1 (O.o Strs l),.fn 95 [] []] [] [.bool (O.o (List.any l) badW)] []:=by
 have h:=findI_ge (p:=badW) (l:=l)
 refine go (fn:=Proofs.Tryz.f94) (n:=7) (rv:=[ResultVar.tmp 4]) rfl (by decide) rfl (by decide +kernel) rfl rfl (by simp) fun F L C=>?_
 cbv
 (repeat' first|(refine CallThen.mk _ _ (C.fn (indexBad_fn O _ hl hs)) ?_;cbv)|(refine Br.mk (fun _=>?_) (fun _=>?_)<;>cbv)|(refine R0 ?_;cbv))
 all_goals(try subst_vars)
 all_goals(try simp only [O.h,natTo,natPred,emp] at *)
 all_goals(try subst_vars)
 all_goals(repeat' apply And.intro)
 all_goals first
  | exact True.intro
  | exact WkR.refl _
  | lia
  | (simp_all [];done)
  | (simp_all []<;>lia)
  | (grind)
  | skip
theorem path_fn (O:Opq) (s:ByteArray):Fn prog 65 [.str s] [] [.bool (O.o isPath s)] []:=by
 have h:=isPath_pieces s
 have hk:O.o isKey s=true→s.size≤1099511627776:=by rw[O.h,isKey,decide_eq_true_eq];omega
 refine go (fn:=Proofs.Tryz.f65) (n:=10) (rv:=[ResultVar.tmp 2]) rfl (by decide) rfl (by decide +kernel) rfl rfl (by simp) fun F L C=>?_
 cbv
 (repeat' first|(refine CallThen.bool (C.fn (key_fn O _)) (fun _=>?_) (fun _=>?_)<;>cbv)|(refine CallThen.mk _ _ (C.fn (split_fn O _ _ rfl (hk (by assumption)))) ?_;cbv)|(refine CallThen.bool (C.fn (containsBad_fn O _ (by simp only [O.h];exact pieces_len (hk (by assumption))) (by simp only [O.h];exact pieces_size (hk (by assumption))))) (fun _=>?_) (fun _=>?_)<;>cbv)|(refine R0 ?_;cbv))
 all_goals(try subst_vars)
 all_goals(try simp only [O.h,natTo,natPred,emp] at *)
 all_goals(try subst_vars)
 all_goals(repeat' apply And.intro)
 all_goals first
  | exact True.intro
  | exact WkR.refl _
  | lia
  | (simp_all [];done)
  | (simp_all []<;>lia)
  | (grind)
  | skip
theorem checkL_fn (O:Opq) (d:Doc) (hd:d.length≤1099511627776):Fn prog 39 [.sl true 0 false 6 (O.o Doc.enc d)] [] [.int .i64 (O.o docErr d)] []:=by
 have hlen:(O.o Doc.enc d).length=d.length:=by rw[O.h,Doc.enc_len]
 obtain⟨N,hN⟩:∃ N:Nat,N=d.length:=⟨_,rfl⟩
 refine go (fn:=Proofs.Tryz.f39) (n:=41) (rv:=[ResultVar.tmp 2]) rfl (by decide) rfl (by decide +kernel) rfl rfl (by simp) fun F L C=>?_
 cbv
 (repeat' first|(refine Nm fun _ _=>?_;cbv))
 refine LoopThen.mk (C.loopAt (ι:=Nat) [(2,4),(7,41)] (fun k=>[(2,.int .i64 0),(7,.int .i64 k)]) (fun _=>[])
  (fun k=>k≤d.length∧k≤16∧∀ (j:Nat),j<k→okAt d j) (fun k=>N-k) (by decide +kernel) (Start.mk 0 [] [] (by simp) (by cbv;exact⟨.refl _,.refl _,rfl,trivial⟩)) ?_)
 rintro k ⟨h1,h2,h3⟩
 cbv
 (repeat' first|(refine Na ?_ fun _ _=>?_;(focus lia);cbv)|(refine Ex.map O Field.enc rfl ?_ fun x hx=>?_;rotate_left;obtain⟨p,k',n',t',a',b'⟩:=x;cbv)|(refine CallThen.bool (C.fn (path_fn O _)) (fun _=>?_) (fun _=>?_)<;>cbv)|(refine CallThen.mk _ _ (C.fn (rcheck_fn O ⟨_,_,_,_,_⟩)) ?_;cbv)|(refine Back.up [] [] ?_ ?_ fun _ _=>?_;rotate_left 2;cbv)|(refine Br.mk (fun _=>?_) (fun _=>?_)<;>cbv)|(refine R0 ?_;cbv))
 all_goals(try subst_vars)
 all_goals(try simp only [O.h,natTo,natPred,emp,Val.err_ok] at *)
 all_goals(try subst_vars)
 all_goals(repeat' apply And.intro)
 all_goals first
  | exact True.intro
  | exact WkR.refl _
  | lia
  | exact docErr_long (by lia)
  | exact docErr_ok (by lia) fun i hi=>h3 i (by lia)
  | (refine docErr_bad (i:=k) (by assumption) ?_;clear C;clear hd;clear h3;clear hlen;dsimp only;grind [slt_asymm,slt_irrefl,slt_not])
  | (refine okAt_step h3 ((okAt_iff (k:=k) (by assumption)).2 ?_);dsimp only;clear C;clear h3;clear hlen;grind [slt_asymm,slt_irrefl,slt_not])
theorem check_fn (O:Opq) (d:Doc) (hd:d.length≤1099511627776):Fn prog 39 [.sl false 0 false 6 (O.o Doc.enc d)] [] [.int .i64 (O.o docErr d)] [] :=
 (checkL_fn O d hd).wkA (.cons (.lend rfl) .nil)
theorem mayL_fn (O:Opq) (d:Doc) (hd:d.length≤1099511627776) (hs:∀ f∈d,f.path.size≤9223372036854775807):Fn prog 25 [.sl true 0 false 6 (O.o Doc.enc d)] [] [.bool (O.o may d)] []:=by
 have hlen:(O.o Doc.enc d).length=d.length:=by rw[O.h,Doc.enc_len]
 obtain⟨N,hN⟩:∃ N:Nat,N=d.length:=⟨_,rfl⟩
 refine go (fn:=Proofs.Tryz.f25) (n:=46) (rv:=[ResultVar.tmp 2]) rfl (by decide) rfl (by decide +kernel) rfl rfl (by simp) fun F L C=>?_
 cbv
 skip
 refine LoopThen.mk (C.loopAt (ι:=Nat) [(2,43)] (fun k=>[(2,.bool false),(3,.int .i64 k)]) (fun _=>[])
  (fun k=>k≤d.length∧∀ (j:Nat),j<k→okAt d j) (fun k=>N-k) (by decide +kernel) (Start.mk 0 [] [] (by simp) (by cbv;exact⟨.refl _,rfl,trivial⟩)) ?_)
 rintro k ⟨h1,h3⟩
 cbv
 (repeat' first|(refine Na ?_ fun _ _=>?_;(focus lia);cbv)|(refine Ex.map O Field.enc rfl ?_ fun x hx=>?_;rotate_left;obtain⟨p,k',n',t',a',b'⟩:=x;cbv)|(refine CallThen.bool (C.fn (rpath_fn O _ (hs _ (List.mem_of_getElem? (by assumption))))) (fun _=>?_) (fun _=>?_)<;>cbv)|(refine CallThen.mk _ _ (C.fn (rcheck2_fn O ⟨_,_,_,_,_⟩)) ?_;cbv)|(refine Back.up [] [] ?_ ?_ fun _ _=>?_;rotate_left 2;cbv)|(refine Nm fun _ _=>?_;cbv)|(refine Br.mk (fun _=>?_) (fun _=>?_)<;>cbv)|(refine R0 ?_;cbv))
 all_goals(try subst_vars)
 all_goals(try simp only [O.h,natTo,natPred,emp,Val.err_ok] at *)
 all_goals(try subst_vars)
 all_goals(repeat' apply And.intro)
 all_goals first
  | exact True.intro
  | exact WkR.refl _
  | lia
  | exact may_long (by lia)
  | exact may_true (by lia) fun i hi=>h3 i (by lia)
  | (refine may_false (i:=k) (by lia) fun hk=>absurd ((okAt_iff (k:=k) (by assumption)).1 hk) ?_;clear C;clear hs;clear hd;clear h3;clear hlen;dsimp only;grind [slt_asymm,slt_irrefl,slt_not])
  | (refine okAt_step h3 ((okAt_iff (k:=k) (by assumption)).2 ?_);dsimp only;clear C;clear hs;clear h3;clear hlen;grind [slt_asymm,slt_irrefl,slt_not])
theorem may_fn (O:Opq) (d:Doc) (hd:d.length≤1099511627776) (hs:∀ f∈d,f.path.size≤9223372036854775807):Fn prog 25 [.sl false 0 false 6 (O.o Doc.enc d)] [] [.bool (O.o may d)] [] :=
 (mayL_fn O d hd hs).wkA (.cons (.lend rfl) .nil)
theorem hasP_fn (O:Opq) (p:ByteArray) (f:Field):Fn prog 162 [.agg f.enc,.ptr 0 0] [.box [.str p]] [.bool (O.o hasP p f)] [.box [.str p]]:=by
 refine go (fn:=Proofs.Tryz.f162) (n:=6) (rv:=[ResultVar.tmp 3]) rfl (by decide) rfl (by decide +kernel) rfl rfl (by simp) fun F L C=>?_
 cbv
 (repeat' first|(refine Br.mk (fun _=>?_) (fun _=>?_)<;>cbv)|(refine R0 ?_;cbv))
 all_goals(try subst_vars)
 all_goals(try simp only [O.h,natTo,natPred,emp] at *)
 all_goals(try subst_vars)
 all_goals(repeat' apply And.intro)
 all_goals first
  | exact True.intro
  | exact WkR.refl _
  | lia
  | (simp_all [hasP];done)
  | (simp_all [hasP]<;>lia)
  | (grind [hasP])
  | skip
theorem getIdx_fn (O:Opq) (d:Doc) (p:ByteArray) (hd:d.length≤1099511627776):Fn prog 161 [.sl false 0 false 6 (O.o Doc.enc d),.fn 162 [] [.ptr 0 0]] [.box [.str p]] [.int .i64 (O.o getI d p)] [.box [.str p]]:=by
 have hlen:(O.o Doc.enc d).length=d.length:=by rw[O.h,Doc.enc_len]
 obtain⟨N,hN⟩:∃ N:Nat,N=d.length:=⟨_,rfl⟩
 refine go (fn:=Proofs.Tryz.f161) (n:=17) (rv:=[ResultVar.tmp 4]) rfl (by decide) rfl (by decide +kernel) rfl rfl (by simp) fun F L C=>?_
 cbv
 (repeat' first|(refine Nm fun _ _=>?_;cbv))
 refine LoopThen.mk (C.loopAt (ι:=Nat) [(4,5),(8,18)] (fun k=>[(4,.int .i64 0),(8,.int .i64 k)]) (fun _=>[(0,.box [.str p])])
  (fun k=>k≤d.length∧∀ (j:Nat) y,j<k→d[j]?=some y→hasP p y=false) (fun k=>N-k) (by decide +kernel) (Start.mk 0 [] [] (by simp) (by cbv;(repeat' apply And.intro)<;>first|exact True.intro|exact WkR.refl _|rfl|lia)) ?_)
 rintro k ⟨h1,h2⟩
 cbv
 (repeat' first|(refine Na ?_ fun _ _=>?_;(focus lia);cbv)|(refine Ex.map O Field.enc rfl ?_ fun _ _=>?_;rotate_left;cbv)|(refine CallThen.bool (C.fn (hasP_fn O p ⟨_,_,_,_,_,_⟩)) (fun _=>?_) (fun _=>?_)<;>cbv)|(refine Back.up [] [] ?_ ?_ fun _ _=>?_;rotate_left 2;cbv)|(refine Br.mk (fun _=>?_) (fun _=>?_)<;>cbv)|(refine R0 ?_;cbv))
 all_goals(try subst_vars)
 all_goals(try simp only [O.h,natTo,natPred,emp] at *)
 all_goals(try subst_vars)
 all_goals(repeat' apply And.intro)
 all_goals first
  | exact True.intro
  | exact WkR.refl _
  | lia
  | exact findI_at (k:=k) (by assumption) (by assumption) h2
  | exact findI_none fun j y hj=>h2 j y (by lia)
  | exact srch_step h2 (by assumption) (by assumption)
theorem get_fn (O:Opq) (d:Doc) (p:ByteArray) (hd:d.length≤1099511627776):Fn prog 142 [.sl false 0 false 6 (O.o Doc.enc d),.str p] [] [.agg (Val.enc (O.o getV d p)),.bool (O.o getB d p)] []:=by
 have hi:=getB_iff (d:=d) (p:=p)
 have hl:0≤getI d p→getI d p<d.length:=fun h=>by
  obtain⟨x,hx,_⟩:=findI_lt h
  have:=(List.getElem?_eq_some_iff.1 hx).1
  unfold getI at *;omega
 have e1:O.o getI d p=getI d p:=congrFun (congrFun (O.h getI) d) p
 refine go (fn:=Proofs.Tryz.f142) (n:=16) (rv:=[ResultVar.cell 4 92,ResultVar.tmp 5]) rfl (by decide) rfl (by decide +kernel) rfl rfl (by simp) fun F L C=>?_
 cbv
 (repeat' first|(refine CallThen.mk _ _ (C.fn (getIdx_fn O d p hd)) ?_;cbv)|(refine Ex.map O Field.enc rfl ?_ fun _ _=>?_;rotate_left;cbv)|(refine Br.mk (fun _=>?_) (fun _=>?_)<;>cbv)|(refine R0 ?_;cbv))
 all_goals(try subst_vars)
 all_goals(try simp only [O.h,natTo,natPred,emp] at *)
 all_goals(try subst_vars)
 all_goals(repeat' apply And.intro)
 all_goals first
  | exact True.intro
  | lia
  | (rw[getV_none (by assumption)];rfl)
  | (rw[getV_at (by lia) (by assumption)])
  | (cases hb:getB d p<;>simp_all<;>lia)
  | trace_state
end Go.Sym
