/- Shelves: asked to find, to be ready (shelf.Apply); a new one (shelf.New). -/
import Derived.Test.YtfdbdalnpdgfmaaGreatDoorK26
import Derived.Test.YtfdbdalnpdgfmaaGreatDoorK28
set_option linter.all false
set_option linter.unusedVariables false
set_option linter.unusedSimpArgs false
namespace Go.Sym
open Go Go.Proofs.Tryz
set_option maxRecDepth 100000
theorem clonePr_fn (O:Opq) (d:List PairK) (hd:d.length≤1099511627):Fn prog 17 [.sl false 0 false 2 (O.o Prs.enc d)] [] [.sl false 0 false 2 (O.o Prs.enc d)] []:=by
 have hlen:(O.o Prs.enc d).length=d.length:=Prs.len O d
 refine .inl (Fn.nilOr (pre:=[]) (post:=[]) (fun h0=>?_) ?_)
 ·refine goB (fn:=Proofs.Tryz.f17) (n:=7) (rv:=[ResultVar.tmp 2]) rfl (by decide) rfl (by decide +kernel) rfl rfl (by simp) fun F L C=>?_
  cbv
  (repeat' first|(refine Na ?_ fun _ _=>?_;(focus lia);cbv)|(refine R0 ?_;cbv)|(refine Nl fun _ _ hq=>?_;(try simp only [lenS] at hq);cbv)|(refine Nm fun _ _=>?_;cbv)|(refine Br.t ?_ ?_;(focus first|assumption|lia);cbv)|(refine Br.f ?_ ?_;(focus first|assumption|lia);cbv)|(refine Br.mk (fun _=>?_) (fun _=>?_)<;>cbv)|(refine Need.mk ?_ ?_;rotate_left;cbv)|(refine R0 ?_;cbv))
  all_goals exact⟨h0,trivial⟩
 ·refine goB (fn:=Proofs.Tryz.f17) (n:=7) (rv:=[ResultVar.tmp 2]) rfl (by decide) rfl (by decide +kernel) rfl rfl (by simp) fun F L C=>?_
  cbv
  (repeat' first|(refine Na ?_ fun _ _=>?_;(focus lia);cbv)|(refine RetThen.mk [] [576] ?_;cbv)|(refine Nl fun _ _ hq=>?_;(try simp only [lenS] at hq);cbv)|(refine Nm fun _ _=>?_;cbv)|(refine Br.t ?_ ?_;(focus first|assumption|lia);cbv)|(refine Br.f ?_ ?_;(focus first|assumption|lia);cbv)|(refine Br.mk (fun _=>?_) (fun _=>?_)<;>cbv)|(refine Need.mk ?_ ?_;rotate_left;cbv)|(refine R0 ?_;cbv))
  ·refine⟨WkR.of_eq ?_,trivial⟩
   clear hlen
   subst_vars
   rfl
  ·have:([]:List (List PV)).length=0:=rfl
   lia
def ansE (e:Int):Answer:=⟨e,false,[],[],[],0,0,[]⟩
theorem sapply_ready (O:Opq) (s:Shlf) (o:Opn) (hs:s.dfn.size≤1000000000) (hl:s.ents.length≤1000000) (hok:mayS s) (hk:o.kind=103):Fn prog 10 [.agg (s.enc O),.agg (Opn.en O o)] [] [.agg (Shlf.enc O ⟨s.dfn,true,s.mark,s.ents⟩),.agg ((ansE 0).enc O),.int .i64 0] []:=by
 have e1:O.o Doc.enc []=[]:=by rw[O.h];rfl
 have e2:O.o (Nms.enc O) []=[]:=by rw[O.h];rfl
 have e3:O.o (Chs.enc O) []=[]:=by rw[O.h];rfl
 have e4:O.o Prs.enc []=[]:=by rw[O.h];rfl
 have kk:=schk_fn O s hs (by omega) (R:=0) (fun _=>rfl) (fun h=>absurd hok h)
 have kc:=clonePr_fn O s.ents (by omega)
 clear hok
 obtain⟨d,rd,mk,l⟩:=s
 obtain⟨ok,okey,oto,odoc,ow,oh,on,om,olist,odocs,onews⟩:=o
 have hk:ok=103:=hk
 refine go (fn:=Proofs.Tryz.f10) (n:=48) (rv:=[ResultVar.cell 4 25,ResultVar.cell 5 43,ResultVar.tmp 6]) rfl (by decide) rfl (by decide +kernel) rfl rfl (by simp) fun F L C=>?_
 cbv
 (repeat' first|(refine Na ?_ fun _ _=>?_;(focus lia);cbv)|(refine CallThen.mk _ _ (C.fn (kk)) ?_;cbv)|(refine CallThen.mk _ _ (C.fn (kc)) ?_;cbv)|(fail)|(refine Nl fun _ _ hq=>?_;(try simp only [lenS] at hq);cbv)|(refine Nm fun _ _=>?_;cbv)|(refine Br.t ?_ ?_;(focus first|assumption|lia);cbv)|(refine Br.f ?_ ?_;(focus first|assumption|lia);cbv)|(refine Br.mk (fun _=>?_) (fun _=>?_)<;>cbv)|(refine Need.mk ?_ ?_;rotate_left;cbv)|(refine R0 ?_;cbv))
 all_goals first
  | exact⟨rfl,trivial⟩
  | exact⟨.refl _,rfl,trivial⟩
  | exact⟨rfl,.refl _,rfl,trivial⟩
  | exact⟨.refl _,e1,e2,e3,e4,trivial⟩
  | exact⟨.refl _,e1,e2,e3,e4,rfl,trivial⟩
  | exact⟨rfl,.refl _,e1,e2,e3,e4,rfl,trivial⟩
  | (repeat' apply And.intro)<;>first|exact True.intro|exact WkR.refl _|exact e1|exact e2|exact e3|exact e4|rfl|(clear kk kc;lia)
  | (exfalso;clear kk kc;lia)
  | trace_state
theorem sapply_find (O:Opq) (s:Shlf) (o:Opn) (hs:s.dfn.size≤1000000000) (hl:s.ents.length≤1000000) (hok:mayS s) (hk:o.kind=104):Fn prog 10 [.agg (s.enc O),.agg (Opn.en O o)] [] [.agg (s.enc O),.agg ((foundA s o).enc O),.int .i64 0] []:=by
 have e1:=trivial
 have e2:=trivial
 have e3:=trivial
 have e4:=trivial
 have kk:=schk_fn O s hs (by omega) (R:=0) (fun _=>rfl) (fun h=>absurd hok h)
 have kc:=clonePr_fn O s.ents (by omega)
 have kf:=sfind_fn O s o hl hok.2.1
 obtain⟨⟨a1,a2,a3,a4,a5,a6,a7,a8⟩,hA⟩:∃ A,A=foundA s o:=⟨_,rfl⟩
 rw[← hA] at kf ⊢
 clear hok hA
 obtain⟨d,rd,mk,l⟩:=s
 obtain⟨ok,okey,oto,odoc,ow,oh,on,om,olist,odocs,onews⟩:=o
 have hk:ok=104:=hk
 refine go (fn:=Proofs.Tryz.f10) (n:=48) (rv:=[ResultVar.cell 4 25,ResultVar.cell 5 43,ResultVar.tmp 6]) rfl (by decide) rfl (by decide +kernel) rfl rfl (by simp) fun F L C=>?_
 cbv
 (repeat' first|(refine Na ?_ fun _ _=>?_;(focus lia);cbv)|(refine CallThen.mk _ _ (C.fn (kk)) ?_;cbv)|(refine CallThen.mk _ _ (C.fn (kc)) ?_;cbv)|(refine CallThen.mk _ _ (C.fn (kf)) ?_;cbv)|(refine Nl fun _ _ hq=>?_;(try simp only [lenS] at hq);cbv)|(refine Nm fun _ _=>?_;cbv)|(refine Br.t ?_ ?_;(focus first|assumption|lia);cbv)|(refine Br.f ?_ ?_;(focus first|assumption|lia);cbv)|(refine Br.mk (fun _=>?_) (fun _=>?_)<;>cbv)|(refine Need.mk ?_ ?_;rotate_left;cbv)|(refine R0 ?_;cbv))
 all_goals first
  | exact⟨rfl,trivial⟩
  | exact⟨.refl _,rfl,trivial⟩
  | exact⟨rfl,.refl _,rfl,trivial⟩
  | exact⟨.refl _,e1,e2,e3,e4,trivial⟩
  | exact⟨.refl _,e1,e2,e3,e4,rfl,trivial⟩
  | exact⟨rfl,.refl _,e1,e2,e3,e4,rfl,trivial⟩
  | (repeat' apply And.intro)<;>first|exact True.intro|exact WkR.refl _|exact e1|exact e2|exact e3|exact e4|rfl|(clear kk kc;lia)
  | (exfalso;clear kk kc;lia)
  | trace_state
theorem snew_fn (O:Opq) (d:ByteArray) (hs:d.size≤1000000000):(allE d.data.toList=0→Fn prog 6 [.str d] [] [.agg (Shlf.enc O ⟨d,false,0,[]⟩),.int .i64 0] [])∧(allE d.data.toList≠0→Fn prog 6 [.str d] [] [.agg (Shlf.enc O ⟨ByteArray.empty,false,0,[]⟩),.int .i64 (allE d.data.toList)] []):=by
 have hs2:d.data.toList.length≤1000000000:=by rw[size_list];exact hs
 have k:=eall_fn O d.data.toList (by omega)
 rw[show O.o ofL d.data.toList=d by rw[O.h];exact eq_of_toL (toL_ofL _),O.h allE] at k
 have e4:O.o Prs.enc []=[]:=by rw[O.h];rfl
 obtain⟨E,hE⟩:∃ E,E=allE d.data.toList:=⟨_,rfl⟩
 obtain⟨V,hV⟩:∃ V,V=O.o Nds.enc (O.o allV d.data.toList):=⟨_,rfl⟩
 rw[← hE,← hV] at k
 rw[← hE]
 clear hE hV
 refine⟨fun h=>?_,fun h=>?_⟩
 all_goals
  refine go (fn:=Proofs.Tryz.f6) (n:=16) (rv:=[ResultVar.cell 2 25,ResultVar.tmp 3]) rfl (by decide) rfl (by decide +kernel) rfl rfl (by simp) fun F L C=>?_
  cbv
  (repeat' first|(refine Na ?_ fun _ _=>?_;(focus lia);cbv)|(refine CallThen.mk _ _ (C.fn (k)) ?_;cbv)|(refine Nl fun _ _ hq=>?_;(try simp only [lenS] at hq);cbv)|(refine Nm fun _ _=>?_;cbv)|(refine Br.t ?_ ?_;(focus first|assumption|lia);cbv)|(refine Br.f ?_ ?_;(focus first|assumption|lia);cbv)|(refine Br.mk (fun _=>?_) (fun _=>?_)<;>cbv)|(refine Need.mk ?_ ?_;rotate_left;cbv)|(refine R0 ?_;cbv))
  all_goals first
   | exact⟨e4,rfl,trivial⟩
   | exact⟨e4,trivial⟩
   | ((repeat' apply And.intro)<;>first|exact True.intro|exact e4|rfl|(clear k;lia))
   | (exfalso;clear k;lia)
   | trace_state
theorem ssame_fn (O:Opq) (a b:Shlf) (hl:a.ents.length≤9223372036854775807) {Q:Bool} (hQ:Q=true ↔ a=b):Fn prog 8 [.agg (a.enc O),.agg (b.enc O)] [] [.bool Q] []:=by
 have k:=rpairs_fn O a.ents b.ents hl
 rw[O.h sameP] at k
 have hS:sameP a.ents b.ents=true ↔ a.ents=b.ents:=by simp [sameP]
 obtain⟨S,eS⟩:∃ S,S=sameP a.ents b.ents:=⟨_,rfl⟩
 rw[← eS] at k hS
 clear eS
 obtain⟨d,rd,mk,l⟩:=a
 obtain⟨d',rd',mk',l'⟩:=b
 simp only [Shlf.mk.injEq] at hQ
 have hS:S=true ↔ l=l':=hS
 by_cases q:d=d'∧rd=rd'∧mk=mk'∧l=l'
 ·have hq:=hQ.2 q
  have hs:=hS.2 q.2.2.2
  obtain⟨rfl,rfl,rfl,rfl⟩:=q
  subst hq;subst hs
  clear hQ hS
  cases rd
  all_goals
   refine go (fn:=Proofs.Tryz.f8) (n:=29) (rv:=[ResultVar.tmp 4]) rfl (by decide) rfl (by decide +kernel) rfl rfl (by simp) fun F L C=>?_
   cbv
   (repeat' first|(refine Na ?_ fun _ _=>?_;(focus lia);cbv)|(refine CallThen.mk _ _ (C.fn (k)) ?_;cbv)|(refine Nl fun _ _ hq=>?_;(try simp only [lenS] at hq);cbv)|(refine Nm fun _ _=>?_;cbv)|(refine Br.t ?_ ?_;(focus first|assumption|lia);cbv)|(refine Br.f ?_ ?_;(focus first|assumption|lia);cbv)|(refine Br.mk (fun _=>?_) (fun _=>?_)<;>cbv)|(refine Need.mk ?_ ?_;rotate_left;cbv)|(refine R0 ?_;cbv))
   all_goals first
    | exact⟨rfl,trivial⟩
    | (exfalso;contradiction)
    | trace_state
 ·have hq:Q=false:=by cases Q;rfl;exact absurd (hQ.1 rfl) q
  subst hq
  clear hQ
  have q2:d=d'→rd=rd'→mk=mk'→S=false:=fun h1 h2 h3=>by cases S;rfl;exact absurd ⟨h1,h2,h3,hS.1 rfl⟩ q
  clear q hS
  cases S<;>cases rd<;>cases rd'
  all_goals
   refine go (fn:=Proofs.Tryz.f8) (n:=29) (rv:=[ResultVar.tmp 4]) rfl (by decide) rfl (by decide +kernel) rfl rfl (by simp) fun F L C=>?_
   cbv
   (repeat' first|(refine Na ?_ fun _ _=>?_;(focus lia);cbv)|(refine CallThen.mk _ _ (C.fn (k)) ?_;cbv)|(refine Nl fun _ _ hq=>?_;(try simp only [lenS] at hq);cbv)|(refine Nm fun _ _=>?_;cbv)|(refine Br.t ?_ ?_;(focus first|assumption|lia);cbv)|(refine Br.f ?_ ?_;(focus first|assumption|lia);cbv)|(refine Br.mk (fun _=>?_) (fun _=>?_)<;>cbv)|(refine Need.mk ?_ ?_;rotate_left;cbv)|(refine R0 ?_;cbv))
   all_goals first
    | exact⟨rfl,trivial⟩
    | (exfalso;first|contradiction|exact absurd (q2 (by assumption) rfl (by assumption)) (by decide))
    | trace_state
theorem allE_a:allE [97]=0:=by
 have hok:(Xp.path [97]).Ok lexE:=.path (by show leafL [97]=some (.path [97]);exact leaf_path (by decide) (by decide))
 have hd:Der lexE.toLex 2 [97] (Xp.path [97]):=(txt_der hok).up (Xp.lvl_le _)
 have hp:parse0 [97]=((Xp.path [97]).nd,[],false):=parse_some (L:=lexT) (by decide) hd
 have h:parseE [97]=0:=by
  rw[parseE,if_neg (by decide),if_neg (by rw[hp];simp),if_neg (by rw[hp];decide)]
 have hs:splitLC [97]=[[97]]:=by decide
 rw[allE,hs,if_neg (by decide)]
 exact firstE_zero fun p hp=>by simp at hp;subst hp;exact h
def sA (r:Bool):Shlf:=⟨⟨#[97]⟩,r,0,[]⟩
theorem sA_may (r:Bool):mayS (sA r):=⟨allE_a,fun i x y h=>by simp [sA] at h,by show(0:Int)≤0;decide,by show(0:Int)≤2147483647;decide⟩
def opF:Opn:=.mk 104 ByteArray.empty ByteArray.empty [] [] false 0 5 [] [] []
def opR:Opn:=.mk 103 ByteArray.empty ByteArray.empty [] [] false 0 0 [] [] []
theorem awake15_fn (O:Opq):Fn prog 5 [] [] [.bool true] []:=by
 have e1:O.o Doc.enc []=[]:=by rw[O.h];rfl
 have e2:O.o (Nms.enc O) []=[]:=by rw[O.h];rfl
 have e3:O.o (Chs.enc O) []=[]:=by rw[O.h];rfl
 have e4:O.o Prs.enc []=[]:=by rw[O.h];rfl
 have e5:O.o (Ops.enc O) []=[]:=by rw[O.h];rfl
 have k1:=(snew_fn O ⟨#[97]⟩ (by decide)).1 allE_a
 have k2:=sapply_find O (sA false) opF (by decide) (by decide) (sA_may _) rfl
 have k3:=sapply_ready O (sA false) opR (by decide) (by decide) (sA_may _) rfl
 have k4:=sapply_find O (sA true) opF (by decide) (by decide) (sA_may _) rfl
 have f1:foundA (sA false) opF=ansE 9:=(if_neg (by decide)).trans (if_pos (by decide))
 have f2:foundA (sA true) opF=ansE 0:=by
  refine((if_neg (by decide)).trans (if_neg (by decide))).trans ?_
  rfl
 have s1:∀ r,Shlf.enc O (sA r)=[.str ⟨#[97]⟩,.bool r,.int .i64 0,.sl false 0 false 2 []]:=fun r=>by
  show[PV.str ⟨#[97]⟩,.bool r,.int .i64 0,.sl false 0 false 2 (O.o Prs.enc [])]=_;rw[e4]
 have o1:Opn.en O opF=[.int .i64 104,.str ByteArray.empty,.str ByteArray.empty,.sl false 0 false 6 [],.sl false 0 false 6 [],.bool false,.int .i64 0,.int .i64 5,.sl false 0 false 11 [],.sl false 0 false 2 [],.sl false 0 false 4 []]:=by
  show[PV.int .i64 104,.str ByteArray.empty,.str ByteArray.empty,.sl false 0 false 6 (O.o Doc.enc []),.sl false 0 false 6 (O.o Doc.enc []),.bool false,.int .i64 0,.int .i64 5,.sl false 0 false 11 (O.o (Ops.enc O) []),.sl false 0 false 2 (O.o (Nms.enc O) []),.sl false 0 false 4 (O.o (Chs.enc O) [])]=_
  rw[e1,e2,e3,e5]
 have o2:Opn.en O opR=[.int .i64 103,.str ByteArray.empty,.str ByteArray.empty,.sl false 0 false 6 [],.sl false 0 false 6 [],.bool false,.int .i64 0,.int .i64 0,.sl false 0 false 11 [],.sl false 0 false 2 [],.sl false 0 false 4 []]:=by
  show[PV.int .i64 103,.str ByteArray.empty,.str ByteArray.empty,.sl false 0 false 6 (O.o Doc.enc []),.sl false 0 false 6 (O.o Doc.enc []),.bool false,.int .i64 0,.int .i64 0,.sl false 0 false 11 (O.o (Ops.enc O) []),.sl false 0 false 2 (O.o (Nms.enc O) []),.sl false 0 false 4 (O.o (Chs.enc O) [])]=_
  rw[e1,e2,e3,e5]
 have a1:∀ e,Answer.enc O (ansE e)=[.int .i64 e,.bool false,.sl false 0 false 6 [],.sl false 0 false 2 [],.sl false 0 false 4 [],.int .i64 0,.int .i64 0,.sl false 0 false 2 []]:=fun e=>by
  show[PV.int .i64 e,.bool false,.sl false 0 false 6 (O.o Doc.enc []),.sl false 0 false 2 (O.o (Nms.enc O) []),.sl false 0 false 4 (O.o (Chs.enc O) []),.int .i64 0,.int .i64 0,.sl false 0 false 2 (O.o Prs.enc [])]=_
  rw[e1,e2,e3,e4]
 rw[f1,s1,o1,a1] at k2
 rw[s1,o2,a1] at k3
 rw[f2,s1,o1,a1] at k4
 have k1:Fn prog 6 [.str ⟨#[97]⟩] [] [.agg (Shlf.enc O (sA false)),.int .i64 0] []:=k1
 have k3:Fn prog 10 _ [] [.agg (Shlf.enc O (sA true)),_,_] []:=k3
 rw[s1] at k1 k3
 clear e1 e2 e3 e4 e5 f1 f2 s1 o1 o2 a1
 refine go (fn:=Proofs.Tryz.f5) (n:=59) (rv:=[ResultVar.tmp 0]) rfl (by decide) rfl (by decide +kernel) rfl rfl (by simp) fun F L C=>?_
 cbv
 (repeat' first|(refine Na ?_ fun _ _=>?_;(focus lia);cbv)|(refine CallThen.mk _ _ (C.fn (k1)) ?_;cbv)|(refine CallThen.mk _ _ (C.fn (Fn.wkA (k2) ?_)) ?_;(focus((repeat' apply WkAL.cons)<;>first|exact WkAL.nil|exact WkA.refl _|exact WkA.lend rfl|exact WkA.bor rfl (WkR.refl _)|exact WkA.wk (Wk.nil _ _)|exact WkA.wk (Wk.sl' rfl rfl (WkR.refl _))|(refine WkA.agg' ?_;((repeat' apply WkAL.cons)<;>first|exact WkAL.nil|exact WkA.refl _|exact WkA.lend rfl|exact WkA.bor rfl (WkR.refl _)|exact WkA.wk (Wk.nil _ _)|exact WkA.wk (Wk.sl' rfl rfl (WkR.refl _))|(refine WkA.agg' ?_;((repeat' apply WkAL.cons)<;>first|exact WkAL.nil|exact WkA.refl _|exact WkA.lend rfl|exact WkA.bor rfl (WkR.refl _)|exact WkA.wk (Wk.nil _ _)|exact WkA.wk (Wk.sl' rfl rfl (WkR.refl _))))))));cbv)|(refine CallThen.mk _ _ (C.fn (Fn.wkA (k3) ?_)) ?_;(focus((repeat' apply WkAL.cons)<;>first|exact WkAL.nil|exact WkA.refl _|exact WkA.lend rfl|exact WkA.bor rfl (WkR.refl _)|exact WkA.wk (Wk.nil _ _)|exact WkA.wk (Wk.sl' rfl rfl (WkR.refl _))|(refine WkA.agg' ?_;((repeat' apply WkAL.cons)<;>first|exact WkAL.nil|exact WkA.refl _|exact WkA.lend rfl|exact WkA.bor rfl (WkR.refl _)|exact WkA.wk (Wk.nil _ _)|exact WkA.wk (Wk.sl' rfl rfl (WkR.refl _))|(refine WkA.agg' ?_;((repeat' apply WkAL.cons)<;>first|exact WkAL.nil|exact WkA.refl _|exact WkA.lend rfl|exact WkA.bor rfl (WkR.refl _)|exact WkA.wk (Wk.nil _ _)|exact WkA.wk (Wk.sl' rfl rfl (WkR.refl _))))))));cbv)|(refine CallThen.mk _ _ (C.fn (Fn.wkA (k4) ?_)) ?_;(focus((repeat' apply WkAL.cons)<;>first|exact WkAL.nil|exact WkA.refl _|exact WkA.lend rfl|exact WkA.bor rfl (WkR.refl _)|exact WkA.wk (Wk.nil _ _)|exact WkA.wk (Wk.sl' rfl rfl (WkR.refl _))|(refine WkA.agg' ?_;((repeat' apply WkAL.cons)<;>first|exact WkAL.nil|exact WkA.refl _|exact WkA.lend rfl|exact WkA.bor rfl (WkR.refl _)|exact WkA.wk (Wk.nil _ _)|exact WkA.wk (Wk.sl' rfl rfl (WkR.refl _))|(refine WkA.agg' ?_;((repeat' apply WkAL.cons)<;>first|exact WkAL.nil|exact WkA.refl _|exact WkA.lend rfl|exact WkA.bor rfl (WkR.refl _)|exact WkA.wk (Wk.nil _ _)|exact WkA.wk (Wk.sl' rfl rfl (WkR.refl _))))))));cbv)|(refine Nl fun _ _ hq=>?_;(try simp only [lenS] at hq);cbv)|(refine Nm fun _ _=>?_;cbv)|(refine Br.t ?_ ?_;(focus first|assumption|lia);cbv)|(refine Br.f ?_ ?_;(focus first|assumption|lia);cbv)|(refine Br.mk (fun _=>?_) (fun _=>?_)<;>cbv)|(refine Need.mk ?_ ?_;rotate_left;cbv)|(refine R0 ?_;cbv))
 all_goals first
  | exact⟨rfl,trivial⟩
  | exact trivial
  | trace_state
open Go Go.Proofs Go.Proofs.Tryz
theorem shelfNew_long (O:Opq) (S:ByteArray) (hs:1100<S.size):Fn prog 3 [.str S] [] [.bool true] []:=by
 have ka:=awake15_fn O
 refine go (fn:=Proofs.Tryz.f3) (n:=44) (rv:=[ResultVar.tmp 2]) rfl (by decide) rfl (by decide +kernel) rfl rfl (by simp) fun F L C=>?_
 cbv
 (repeat' first|(refine Na ?_ fun _ _=>?_;(focus lia);cbv)|(refine CallThen.mk _ _ (C.fn (ka)) ?_;cbv)|(refine Nl fun _ _ hq=>?_;(try simp only [lenS] at hq);cbv)|(refine Nm fun _ _=>?_;cbv)|(refine Br.t ?_ ?_;(focus first|assumption|lia);cbv)|(refine Br.f ?_ ?_;(focus first|assumption|lia);cbv)|(refine Br.mk (fun _=>?_) (fun _=>?_)<;>cbv)|(refine Need.mk ?_ ?_;rotate_left;cbv)|(refine R0 ?_;cbv))
 all_goals first
  | exact⟨rfl,trivial⟩
  | (exfalso;clear ka;lia)
  | trace_state
theorem shelfNew_fn (O:Opq) (S:ByteArray) (hs:S.size≤1100):Fn prog 3 [.str S] [] [.bool true] []:=by
 have ka:=awake15_fn O
 have k1:=snew_fn O S (by omega)
 have k2:=reall_fn O S.data.toList (by rw[size_list];omega)
 rw[show O.o ofL S.data.toList=S by rw[O.h];exact eq_of_toL (toL_ofL _),O.h allE] at k2
 have e4:O.o Prs.enc []=[]:=by rw[O.h];rfl
 have s1:∀ d,Shlf.enc O ⟨d,false,0,[]⟩=[.str d,.bool false,.int .i64 0,.sl false 0 false 2 []]:=fun d=>by
  show[PV.str d,.bool false,.int .i64 0,.sl false 0 false 2 (O.o Prs.enc [])]=_;rw[e4]
 have k3:∀ d,Fn prog 8 [.agg [.str d,.bool false,.int .i64 0,.sl false 0 false 2 []],.agg [.str d,.bool false,.int .i64 0,.sl false 0 false 2 []]] [] [.bool true] []:=fun d=>by
  have:=ssame_fn O ⟨d,false,0,[]⟩ ⟨d,false,0,[]⟩ (by simp) (Q:=true) (by simp)
  rwa [s1] at this
 rw[s1,s1] at k1
 have k4:=k3 S
 have k5:=k3 ByteArray.empty
 obtain⟨E,hE⟩:∃ E,E=allE S.data.toList:=⟨_,rfl⟩
 obtain⟨V,hV⟩:∃ V,V=O.o Nds.enc (O.o allV S.data.toList):=⟨_,rfl⟩
 rw[← hE,← hV] at k2
 rw[← hE] at k1
 clear hE hV s1 e4 k3
 by_cases h:E=0
 ·have k1:=k1.1 h
  refine go (fn:=Proofs.Tryz.f3) (n:=44) (rv:=[ResultVar.tmp 2]) rfl (by decide) rfl (by decide +kernel) rfl rfl (by simp) fun F L C=>?_
  cbv
  (repeat' first|(refine Na ?_ fun _ _=>?_;(focus lia);cbv)|(refine CallThen.mk _ _ (C.fn (ka)) ?_;cbv)|(refine CallThen.mk _ _ (C.fn (k1)) ?_;cbv)|(refine CallThen.mk _ _ (C.fn (k2)) ?_;cbv)|(refine CallThen.mk _ _ (C.fn (Fn.wkA (k4) ?_)) ?_;(focus((repeat' apply WkAL.cons)<;>first|exact WkAL.nil|exact WkA.refl _|exact WkA.lend rfl|exact WkA.bor rfl (WkR.refl _)|exact WkA.wk (Wk.nil _ _)|exact WkA.wk (Wk.sl' rfl rfl (WkR.refl _))|(refine WkA.agg' ?_;((repeat' apply WkAL.cons)<;>first|exact WkAL.nil|exact WkA.refl _|exact WkA.lend rfl|exact WkA.bor rfl (WkR.refl _)|exact WkA.wk (Wk.nil _ _)|exact WkA.wk (Wk.sl' rfl rfl (WkR.refl _))|(refine WkA.agg' ?_;((repeat' apply WkAL.cons)<;>first|exact WkAL.nil|exact WkA.refl _|exact WkA.lend rfl|exact WkA.bor rfl (WkR.refl _)|exact WkA.wk (Wk.nil _ _)|exact WkA.wk (Wk.sl' rfl rfl (WkR.refl _))))))));cbv)|(refine Nl fun _ _ hq=>?_;(try simp only [lenS] at hq);cbv)|(refine Nm fun _ _=>?_;cbv)|(refine Br.t ?_ ?_;(focus first|assumption|lia);cbv)|(refine Br.f ?_ ?_;(focus first|assumption|lia);cbv)|(refine Br.mk (fun _=>?_) (fun _=>?_)<;>cbv)|(refine Need.mk ?_ ?_;rotate_left;cbv)|(refine R0 ?_;cbv))
  all_goals first
   | exact⟨rfl,trivial⟩
   | (exfalso;clear ka k1 k2 k4 k5;lia)
   | trace_state
 ·have k1:=k1.2 h
  refine go (fn:=Proofs.Tryz.f3) (n:=44) (rv:=[ResultVar.tmp 2]) rfl (by decide) rfl (by decide +kernel) rfl rfl (by simp) fun F L C=>?_
  cbv
  (repeat' first|(refine Na ?_ fun _ _=>?_;(focus lia);cbv)|(refine CallThen.mk _ _ (C.fn (ka)) ?_;cbv)|(refine CallThen.mk _ _ (C.fn (k1)) ?_;cbv)|(refine CallThen.mk _ _ (C.fn (k2)) ?_;cbv)|(refine CallThen.mk _ _ (C.fn (Fn.wkA (k5) ?_)) ?_;(focus((repeat' apply WkAL.cons)<;>first|exact WkAL.nil|exact WkA.refl _|exact WkA.lend rfl|exact WkA.bor rfl (WkR.refl _)|exact WkA.wk (Wk.nil _ _)|exact WkA.wk (Wk.sl' rfl rfl (WkR.refl _))|(refine WkA.agg' ?_;((repeat' apply WkAL.cons)<;>first|exact WkAL.nil|exact WkA.refl _|exact WkA.lend rfl|exact WkA.bor rfl (WkR.refl _)|exact WkA.wk (Wk.nil _ _)|exact WkA.wk (Wk.sl' rfl rfl (WkR.refl _))|(refine WkA.agg' ?_;((repeat' apply WkAL.cons)<;>first|exact WkAL.nil|exact WkA.refl _|exact WkA.lend rfl|exact WkA.bor rfl (WkR.refl _)|exact WkA.wk (Wk.nil _ _)|exact WkA.wk (Wk.sl' rfl rfl (WkR.refl _))))))));cbv)|(refine Nl fun _ _ hq=>?_;(try simp only [lenS] at hq);cbv)|(refine Nm fun _ _=>?_;cbv)|(refine Br.t ?_ ?_;(focus first|assumption|lia);cbv)|(refine Br.f ?_ ?_;(focus first|assumption|lia);cbv)|(refine Br.mk (fun _=>?_) (fun _=>?_)<;>cbv)|(refine Need.mk ?_ ?_;rotate_left;cbv)|(refine R0 ?_;cbv))
  all_goals first
   | exact⟨rfl,trivial⟩
   | (exfalso;clear ka k1 k2 k4 k5;lia)
   | trace_state
theorem shelfNew_law {a0:ByteArray} (_:a0.data.toList.length≤maxLen):Fn prog 3 [.str a0] [] [.bool true] []:=by
 by_cases h:1100<a0.size
 ·exact shelfNew_long Opq.id a0 h
 ·exact shelfNew_fn Opq.id a0 (by omega)
end Go.Sym
