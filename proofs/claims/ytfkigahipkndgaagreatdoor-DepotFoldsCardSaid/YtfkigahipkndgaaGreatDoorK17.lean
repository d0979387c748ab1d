/- What is asked: one. -/
import Derived.Test.YtfkigahipkndgaaGreatDoorK9
import Derived.Test.YtfkigahipkndgaaGreatDoorK16
set_option linter.all false
set_option linter.unusedVariables false
set_option linter.unusedSimpArgs false
namespace Go.Sym
open Go Go.Proofs.Tryz
set_option maxRecDepth 100000
set_option maxHeartbeats 4000000 in
theorem apply_one (O:Opq) (l:List Ndoc) (o:Opn) (total:Int) (hm:mayD l=true) (ht:0≤total∧total≤2147483643) (hwb:writesB o=true) (hod:o.doc.length≤1099511627∧o.want.length≤1099511627) (R1:List Ndoc) (R2:Answer) (R3:List Change) (hR:batchR l [o] total=(R1,R2,R3))
  : Fn prog 136 [.sl false 0 false 2 (O.o (Nms.enc O) l),.agg (o.en O),.int .i64 total] [] [.sl false 0 false 2 (O.o (Nms.enc O) R1),.agg (R2.enc O),.sl false 0 false 4 (O.o (Chs.enc O) R3),.int .i64 0] []:=by
 have hlen:=Nms.len O l
 obtain⟨m1,m2,m3⟩:=mayD_iff.1 hm
 have hdl:∀ n∈l,n.doc.length≤1099511627:=fun n hn=>by have:=may_len (m2 n hn).2;omega
 have hck:=scheck_fn O l (by omega) (fun n hn=>by have:=hdl n hn;omega)
 have how:Fn prog 190 [.sl false 0 false 2 (O.o (Nms.enc O) l)] [] [.sl false 0 false 2 (O.o (Nms.enc O) l)] []:=(ownNW_fn O l (by omega) hdl).wkA (.cons (.lend rfl) .nil)
 rw[show O.o mayDE l=0 by rw[O.h];exact mayDE_zero.2 hm] at hck
 have hw:=writes_fn O o
 have hba:=batch_fn O l [o] [o.en O] total (wk_ops1 O o) (by rw[mayD,Bool.and_eq_true] at hm;exact hm.2) (by omega) (by simp) ht (fun x hx=>by rw[List.mem_singleton.1 hx];exact hod) R1 R2 R3 hR
 have hba:Fn prog 192 [.sl false 0 false 2 (O.o (Nms.enc O) l),.sl true 2 false 11 [o.en O],.int .i64 total] [] [.sl false 0 false 2 (O.o (Nms.enc O) R1),.agg (R2.enc O),.ref 0] [.arr 0 none 4 (O.o (Chs.enc O) R3)]:=hba.wkA (.cons (.refl _) (.cons (.bor rfl (.refl _)) (.cons (.refl _) .nil)))
 have hw0:O.o writesB o=true:=by rw[O.h];exact hwb
 rw[hw0] at hw
 have hds:∀ c∈R3,c.doc.length≤1099511627:=fun c hc=>by
  have:=batchR_docs (l:=l) (ops:=[o]) (total:=total) (m:=1099511627) (fun x hx=>by rw[List.mem_singleton.1 hx];exact hod.1) c (by rw[hR];exact hc)
  exact this
 have hln:R3.length≤1099511627776:=by have:=batchR_len (l:=l) (ops:=[o]) (total:=total);rw[hR] at this;exact Nat.le_trans this (by simp)
 have hk:True:=trivial
 clear hm m2 m3 hdl hw0
 have hd3:∀ c∈R3,c.doc.length≤1099511627:=hds
 have hc3:=Chs.len O R3
 have h3l:R3.length≤1099511627776:=hln
 obtain⟨N,hN⟩:∃ N:Nat,N=R3.length:=⟨_,rfl⟩
 obtain⟨z,hz⟩:∃ z:Nat,z=0:=⟨_,rfl⟩
 have hR3:True:=trivial
 clear hR
 obtain⟨kind,key,to,doc,want,has,n,most,list,docs,news⟩:=o
 replace hk:True:=hk
 refine go (fn:=Proofs.Tryz.f136) (n:=89) (rv:=[ResultVar.tmp 6,ResultVar.cell 7 37,ResultVar.tmp 8,ResultVar.tmp 9]) rfl (by decide) rfl (by decide +kernel) rfl rfl (by simp) fun F L C=>?_
 cbv
 (repeat' first|(refine Na ?_ fun _ _=>?_;(focus lia);cbv)|(refine CallThen.mk _ _ (C.fn (hck)) ?_;cbv)|(refine CallThen.mk _ _ (C.fn (how)) ?_;cbv)|(refine CallThen.mk _ _ (C.fn (hw)) ?_;cbv)|(refine CallThen.mk _ _ (C.fn (hba)) ?_;cbv)|(refine Nl fun _ _ hq=>?_;(try simp only [lenS] at hq);cbv)|(refine Nm fun _ _=>?_;cbv)|(refine Br.t ?_ ?_;(focus first|assumption|lia);cbv)|(refine Br.f ?_ ?_;(focus first|assumption|lia);cbv)|(refine Br.mk (fun _=>?_) (fun _=>?_)<;>cbv)|(refine Need.mk ?_ ?_;rotate_left;cbv)|(refine R0 ?_;cbv))
 all_goals try(exfalso;clear hck how hd3 hR3;lia)
 refine LoopThen.mk (C.loopAt (ι:=Nat) [(12,12),(75,88)] (fun i=>[(75,.int .i64 i),(11,.ref 50),(31,.top),(34,.top),(36,.top),(39,.top),(73,.top)]) (fun i=>[(50,.arr 0 none 4 (O.o (Chs.enc O) R3)),(384,.box [.int .i64 kind,.str key,.str to,.sl false 0 false 6 (O.o Doc.enc doc),.sl false 0 false 6 (O.o Doc.enc want),.bool has,.int .i64 n,.int .i64 most,.sl false 0 false 11 (O.o (Ops.enc O) list),.sl false 0 false 2 (O.o (Nms.enc O) docs),.sl false 0 false 4 (O.o (Chs.enc O) news)]),(576,.box [.int .i64 0,.bool false,.nils,.nils,.nils,.int .i64 0,.int .i64 0,.nils]),(768,.box (R2.enc O))])
  (fun i=>i≤N) (fun i=>N-i) (by decide +kernel) (Start.mk z [(50,.loc 2432)] [] (by lia) ?_) ?_)
 ·cbv
  (repeat' apply And.intro)<;>first|exact True.intro|exact WkR.refl _|rfl|exact hR3|lia|trace_state
 intro i g1
 cbv
 by_cases hi:i<R3.length
 ·obtain⟨x,hx⟩:∃ x,R3[i]?=some x:=⟨R3[i],by simp [hi]⟩
  have hcl:=cloneW_fn O x.doc (hd3 x (List.mem_of_getElem? hx))
  have hse:=chs_set O hx
  clear hd3 hck how hR3
  obtain⟨xp,xk,xh,xd⟩:=x
  (repeat' first|(refine Na ?_ fun _ _=>?_;(focus lia);cbv)|(refine Ex.known O (Change.enc O) rfl hx ?_ ?_;(focus lia);cbv)|(refine CallThen.mk _ _ (C.fn (hcl)) ?_;cbv)|(refine Back.up [] [] ?_ ?_ fun _ _=>?_;rotate_left 2;cbv;refine And.intro ?_ ?_)|(refine Nl fun _ _ hq=>?_;(try simp only [lenS] at hq);cbv)|(refine Nm fun _ _=>?_;cbv)|(refine Br.t ?_ ?_;(focus first|assumption|lia);cbv)|(refine Br.f ?_ ?_;(focus first|assumption|lia);cbv)|(refine Br.mk (fun _=>?_) (fun _=>?_)<;>cbv)|(refine Need.mk ?_ ?_;rotate_left;cbv)|(refine R0 ?_;cbv))
  all_goals(repeat' apply And.intro)
  all_goals first
   | exact True.intro
   | exact WkR.refl _
   | (clear hx hse hcl;lia)
   | (subst_vars;exact WkR.of_eq hse.symm)
   | trace_state
 ·clear hd3 hck how hR3
  (repeat' first|(refine Na ?_ fun _ _=>?_;(focus lia);cbv)|(refine RetThen.mk [] [50] ?_;cbv)|(refine Nl fun _ _ hq=>?_;(try simp only [lenS] at hq);cbv)|(refine Nm fun _ _=>?_;cbv)|(refine Br.t ?_ ?_;(focus first|assumption|lia);cbv)|(refine Br.f ?_ ?_;(focus first|assumption|lia);cbv)|(refine Br.mk (fun _=>?_) (fun _=>?_)<;>cbv)|(refine Need.mk ?_ ?_;rotate_left;cbv)|(refine R0 ?_;cbv))
  all_goals(repeat' apply And.intro)
  all_goals first
   | exact True.intro
   | exact WkR.refl _
   | rfl
   | lia
   | (refine Nm fun rs e=>⟨.of_eq e.symm,?_⟩;cbv)
   | (refine WkR.of_eq ?_;symm;assumption)
   | trace_state
set_option maxHeartbeats 4000000 in
theorem apply_get (O:Opq) (l:List Ndoc) (o:Opn) (total:Int) (hm:mayD l=true) (ht:0≤total∧total≤2147483643) (hk:o.kind=4) (hkey:isKey o.key=true) (hR:True)
  : Fn prog 136 [.sl false 0 false 2 (O.o (Nms.enc O) l),.agg (o.en O),.int .i64 total] [] [.sl false 0 false 2 (O.o (Nms.enc O) l),.agg ((O.o (standA l) o.key).enc O),.sl false 0 false 4 [],.int .i64 0] []:=by
 have hlen:=Nms.len O l
 obtain⟨m1,m2,m3⟩:=mayD_iff.1 hm
 have hdl:∀ n∈l,n.doc.length≤1099511627:=fun n hn=>by have:=may_len (m2 n hn).2;omega
 have hck:=scheck_fn O l (by omega) (fun n hn=>by have:=hdl n hn;omega)
 have how:Fn prog 190 [.sl false 0 false 2 (O.o (Nms.enc O) l)] [] [.sl false 0 false 2 (O.o (Nms.enc O) l)] []:=(ownNW_fn O l (by omega) hdl).wkA (.cons (.lend rfl) .nil)
 rw[show O.o mayDE l=0 by rw[O.h];exact mayDE_zero.2 hm] at hck
 have hw:=writes_fn O o
 have hsc:=stands_fn O l o.key (by omega) m3 hdl
 have hkf:=key_fn O o.key
 rw[show O.o isKey o.key=true by rw[O.h];exact hkey] at hkf
 have hw0:O.o writesB o=false:=by rw[O.h,writesB,hk];decide
 rw[hw0] at hw
 obtain⟨R3,e3⟩:∃ R:List Change,R=[]:=⟨_,rfl⟩
 have h30:O.o (Chs.enc O) R3=[]:=by rw[e3,O.h];rfl
 rw[← h30]
 obtain⟨R2,e2⟩:∃ R,R=O.o (standA l) o.key:=⟨_,rfl⟩
 rw[← e2] at hsc ⊢
 clear hm m2 m3 hdl e2 hw0 hkey
 have hd3:∀ c∈R3,c.doc.length≤1099511627:=by rw[e3];simp
 have hc3:=Chs.len O R3
 have h3l:R3.length≤1099511627776:=by rw[e3];simp
 obtain⟨N,hN⟩:∃ N:Nat,N=R3.length:=⟨_,rfl⟩
 obtain⟨z,hz⟩:∃ z:Nat,z=0:=⟨_,rfl⟩
 have hR3:O.o (Chs.enc O) R3=[]:=h30
 clear hR
 obtain⟨kind,key,to,doc,want,has,n,most,list,docs,news⟩:=o
 replace hk:kind=4:=hk
 refine go (fn:=Proofs.Tryz.f136) (n:=89) (rv:=[ResultVar.tmp 6,ResultVar.cell 7 37,ResultVar.tmp 8,ResultVar.tmp 9]) rfl (by decide) rfl (by decide +kernel) rfl rfl (by simp) fun F L C=>?_
 cbv
 (repeat' first|(refine Na ?_ fun _ _=>?_;(focus lia);cbv)|(refine CallThen.mk _ _ (C.fn (hck)) ?_;cbv)|(refine CallThen.mk _ _ (C.fn (how)) ?_;cbv)|(refine CallThen.mk _ _ (C.fn (hw)) ?_;cbv)|(refine CallThen.mk _ _ (C.fn (hkf)) ?_;cbv)|(refine CallThen.mk _ _ (C.fn (hsc)) ?_;cbv)|(refine Nl fun _ _ hq=>?_;(try simp only [lenS] at hq);cbv)|(refine Nm fun _ _=>?_;cbv)|(refine Br.t ?_ ?_;(focus first|assumption|lia);cbv)|(refine Br.f ?_ ?_;(focus first|assumption|lia);cbv)|(refine Br.mk (fun _=>?_) (fun _=>?_)<;>cbv)|(refine Need.mk ?_ ?_;rotate_left;cbv)|(refine R0 ?_;cbv))
 all_goals try(exfalso;clear hck how hd3 hR3;lia)
 refine LoopThen.mk (C.loopAt (ι:=Nat) [(12,12),(75,88)] (fun i=>[(75,.int .i64 i),(11,.ref 50)]) (fun i=>[(50,.arr 0 none 4 (O.o (Chs.enc O) R3)),(384,.box [.int .i64 kind,.str key,.str to,.sl false 0 false 6 (O.o Doc.enc doc),.sl false 0 false 6 (O.o Doc.enc want),.bool has,.int .i64 n,.int .i64 most,.sl false 0 false 11 (O.o (Ops.enc O) list),.sl false 0 false 2 (O.o (Nms.enc O) docs),.sl false 0 false 4 (O.o (Chs.enc O) news)]),(576,.box [.int .i64 0,.bool false,.nils,.nils,.nils,.int .i64 0,.int .i64 0,.nils]),(768,.box (R2.enc O))])
  (fun i=>i≤N) (fun i=>N-i) (by decide +kernel) (Start.mk z [(50,.nil 4)] [] (by lia) ?_) ?_)
 ·cbv
  (repeat' apply And.intro)<;>first|exact True.intro|exact WkR.refl _|rfl|exact hR3|lia|trace_state
 intro i g1
 cbv
 by_cases hi:i<R3.length
 ·exfalso
  rw[e3] at hi
  simp at hi
 ·clear hd3 hck how hR3
  (repeat' first|(refine Na ?_ fun _ _=>?_;(focus lia);cbv)|(refine RetThen.mk [] [50] ?_;cbv)|(refine Nl fun _ _ hq=>?_;(try simp only [lenS] at hq);cbv)|(refine Nm fun _ _=>?_;cbv)|(refine Br.t ?_ ?_;(focus first|assumption|lia);cbv)|(refine Br.f ?_ ?_;(focus first|assumption|lia);cbv)|(refine Br.mk (fun _=>?_) (fun _=>?_)<;>cbv)|(refine Need.mk ?_ ?_;rotate_left;cbv)|(refine R0 ?_;cbv))
  all_goals(repeat' apply And.intro)
  all_goals first
   | exact True.intro
   | exact WkR.refl _
   | rfl
   | lia
   | (refine Nm fun rs e=>⟨.of_eq e.symm,?_⟩;cbv)
   | (refine WkR.of_eq ?_;symm;assumption)
   | trace_state
theorem retB {O:Opq} {g f:Feed} {β:Type} {e e':β} (h:g=f) (he:e=e'):g.base=f.base∧g.total=f.total∧WkR (O.o (Chs.enc O) g.changes) (O.o (Chs.enc O) f.changes)∧WkR (O.o Subs.enc g.subs) (O.o Subs.enc f.subs)∧e=e'∧True:=by
 subst h he;exact⟨rfl,rfl,.refl _,.refl _,rfl,trivial⟩
set_option maxHeartbeats 4000000 in
theorem radd_fn (O:Opq) (f:Feed) (l:List Change) (hm:mayF f=true) (hi:inF f) (hll:l.length≤1099511627) (hld:∀ c∈l,inC c∧c.doc.length≤1099511627) (hp:∀ c∈f.changes++l,∀ x∈c.doc,x.path.size≤9223372036854775807):Fn prog 160 [.agg (f.enc O),.sl false 0 false 4 (O.o (Chs.enc O) l)] [] [.agg (Feed.enc O (O.o addR f l)),.bool (O.o addOk f l)] []:=by
 have hl:=hi.1
 have hs:=hi.2.1
 have hl1:=Chs.len O f.changes
 have hl2:=Subs.len O f.subs
 have hl3:=Chs.len O l
 obtain⟨q1,q2,q3,q4,_⟩:=(mayF_iff.1 hm).1
 have hM:O.o mayF (addF f l)=mayF (addF f l):=by rw[O.h]
 have hgd:∀ c∈(addF f l).changes,c.doc.length≤1099511627776∧∀ x∈c.doc,x.path.size≤9223372036854775807:=fun c hc=>by
  refine⟨?_,hp c hc⟩
  rcases List.mem_append.1 hc with h|h
  ·exact(inF_c hi c h).2
  ·have:=(hld c h).2;omega
 have hgl:(addF f l).changes.length≤1099511627776:=by rw[addF_len];omega
 have hgs:(addF f l).subs.length≤1099511627776:=by show f.subs.length≤_;omega
 have hgc:O.o (Chs.enc O) (addF f l).changes=O.o (Chs.enc O) f.changes++O.o (Chs.enc O) l:=by simp only [O.h];simp [addF,Chs.enc]
 clear hp hld
 have hno:mayF (addF f l)=false→O.o addOk f l=false∧O.o addR f l=f:=fun h=>by
  obtain⟨x1,x2⟩:=addE_no hm h
  exact⟨by rw[O.h];exact addOk_no (by rw[x1];decide),by rw[O.h];exact x2⟩
 have hyes:mayF (addF f l)=true→O.o addOk f l=true∧O.o addR f l=addF f l:=fun h=>by
  obtain⟨x1,x2⟩:=addE_ok hm h
  exact⟨by rw[O.h];exact addOk_iff.2 x1,by rw[O.h];exact x2⟩
 refine go (fn:=Proofs.Tryz.f160) (n:=31) (rv:=[ResultVar.cell 4 62,ResultVar.tmp 5]) rfl (by decide) rfl (by decide +kernel) rfl rfl (by simp) fun F L C=>?_
 cbv
 (repeat' first|(refine Na ?_ fun _ _=>?_;(focus lia);cbv)|(refine Nl fun _ _ hq=>?_;(try simp only [lenS] at hq);cbv)|(refine Nm fun _ _=>?_;cbv)|(refine Br.t ?_ ?_;(focus first|assumption|lia);cbv)|(refine Br.f ?_ ?_;(focus first|assumption|lia);cbv)|(refine Br.mk (fun _=>?_) (fun _=>?_)<;>cbv)|(refine Need.mk ?_ ?_;rotate_left;cbv)|(refine R0 ?_;cbv))
 all_goals try(clear hgd hM hgc hno hyes;lia)
 all_goals try(simp only [List.length_nil] at *;clear hgd hM hgc hno hyes;lia)
 ·obtain⟨x1,x2⟩:=hno (mayF_head fun h=>by have h3:f.total+l.length≤2147483647:=h.2.2.1;clear hgd hM hgc hno hyes;lia)
  exact retB x2 x1
 ·rename_i n1 e1 n2 e2 h1 n3 e3 n4 e4 R1 eR1 hq1 R eR
  have eg:addF f l=⟨f.base,n4,f.changes++l,f.subs⟩:=by rw[addF,e4,e3,hl3]
  have eR2:R=O.o (Chs.enc O) (f.changes++l):=by rw[eR,eR1,List.nil_append,← hgc];rfl
  subst eR2
  rw[eg] at hgd hgl hgs hM hno hyes
  clear hgc hq eR
  obtain⟨w,hw⟩:∃ w,w=f.changes++l:=⟨_,rfl⟩
  rw[← hw] at hgd hgl hgs hM hno hyes eg ⊢
  (repeat' first|(refine Na ?_ fun _ _=>?_;(focus lia);cbv)|(refine CallThen.bool (C.fn (rmayA_fn O ⟨f.base,n4,w,f.subs⟩ (.inl rfl) (.inr rfl) hgl hgs hgd)) (fun _=>?_) (fun _=>?_)<;>cbv)|(refine RetThen.mk [] [1792] ?_;cbv)|(refine Nl fun _ _ hq=>?_;(try simp only [lenS] at hq);cbv)|(refine Nm fun _ _=>?_;cbv)|(refine Br.t ?_ ?_;(focus first|assumption|lia);cbv)|(refine Br.f ?_ ?_;(focus first|assumption|lia);cbv)|(refine Br.mk (fun _=>?_) (fun _=>?_)<;>cbv)|(refine Need.mk ?_ ?_;rotate_left;cbv)|(refine R0 ?_;cbv))
  ·rename_i h3
   obtain⟨x1,x2⟩:=hyes (by rw[← hM];exact h3)
   refine⟨?_,?_,Named.mk fun rs e=>⟨.of_eq ?_,?_⟩⟩
   ·show(O.o addR f l).base=_;rw[x2]
   ·show(O.o addR f l).total=_;rw[x2]
   ·show O.o (Chs.enc O) (O.o addR f l).changes=_;rw[x2,e]
   ·cbv
    refine⟨.of_eq ?_,x1,trivial⟩
    show O.o Subs.enc (O.o addR f l).subs=_;rw[x2]
  ·rename_i h3
   obtain⟨x1,x2⟩:=hno (by rw[← hM];exact h3)
   exact retB x2 x1
end Go.Sym
