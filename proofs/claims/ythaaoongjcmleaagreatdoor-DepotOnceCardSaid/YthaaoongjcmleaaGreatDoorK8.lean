/- What is asked: more. -/
import Derived.Test.YthaaoongjcmleaaGreatDoorK6
set_option linter.all false
set_option linter.unusedVariables false
set_option linter.unusedSimpArgs false
namespace Go.Sym
open Go Go.Proofs.Tryz
set_option maxRecDepth 100000
set_option maxHeartbeats 4000000 in
theorem apply_more (O:Opq) (l:List Ndoc) (o:Opn) (total:Int) (hm:mayD l=true) (ht:0≤total∧total≤2147483643) (hk:o.kind=6) (hod:∀ x∈o.list,x.doc.length≤1099511627∧x.want.length≤1099511627) (hol:o.list.length≤1099511627776) (R1:List Ndoc) (R2:Answer) (R3:List Change) (hR:batchR l o.list total=(R1,R2,R3))
  : Fn prog 92 [.sl false 0 false 2 (O.o (Nms.enc O) l),.agg (o.en O),.int .i64 total] [] [.sl false 0 false 2 (O.o (Nms.enc O) R1),.agg (R2.enc O),.sl false 0 false 4 (O.o (Chs.enc O) R3),.int .i64 0] []:=by
 have hlen:=Nms.len O l
 obtain⟨m1,m2,m3⟩:=mayD_iff.1 hm
 have hdl:∀ n∈l,n.doc.length≤1099511627:=fun n hn=>by have:=may_len (m2 n hn).2;omega
 have hck:=scheck_fn O l (by omega) (fun n hn=>by have:=hdl n hn;omega)
 have how:Fn prog 125 [.sl false 0 false 2 (O.o (Nms.enc O) l)] [] [.sl false 0 false 2 (O.o (Nms.enc O) l)] []:=(ownNW_fn O l (by omega) hdl).wkA (.cons (.lend rfl) .nil)
 rw[show O.o mayDE l=0 by rw[O.h];exact mayDE_zero.2 hm] at hck
 have hw:=writes_fn O o
 have hba:=batch_fn O l o.list (O.o (Ops.enc O) o.list) total rfl (by rw[mayD,Bool.and_eq_true] at hm;exact hm.2) (by omega) hol ht hod R1 R2 R3 hR
 have hba:Fn prog 127 [.sl false 0 false 2 (O.o (Nms.enc O) l),.sl false 0 false 11 (O.o (Ops.enc O) o.list),.int .i64 total] [] [.sl false 0 false 2 (O.o (Nms.enc O) R1),.agg (R2.enc O),.ref 0] [.arr 0 none 4 (O.o (Chs.enc O) R3)]:=hba.wkA (.cons (.refl _) (.cons (.lend rfl) (.cons (.refl _) .nil)))
 have hw0:O.o writesB o=false:=by rw[O.h,writesB,hk];decide
 rw[hw0] at hw
 have hds:∀ c∈R3,c.doc.length≤1099511627:=fun c hc=>by
  have:=batchR_docs (l:=l) (ops:=o.list) (total:=total) (m:=1099511627) (fun x hx=>(hod x hx).1) c (by rw[hR];exact hc)
  exact this
 have hln:R3.length≤1099511627776:=by have:=batchR_len (l:=l) (ops:=o.list) (total:=total);rw[hR] at this;exact Nat.le_trans this hol
 clear hm m2 m3 hdl hw0
 have hd3:∀ c∈R3,c.doc.length≤1099511627:=hds
 have hc3:=Chs.len O R3
 have h3l:R3.length≤1099511627776:=hln
 obtain⟨N,hN⟩:∃ N:Nat,N=R3.length:=⟨_,rfl⟩
 obtain⟨z,hz⟩:∃ z:Nat,z=0:=⟨_,rfl⟩
 have hR3:True:=trivial
 clear hR
 obtain⟨kind,key,to,doc,want,has,n,most,list,docs,news⟩:=o
 replace hk:kind=6:=hk
 refine go (fn:=Proofs.Tryz.f92) (n:=89) (rv:=[ResultVar.tmp 6,ResultVar.cell 7 61,ResultVar.tmp 8,ResultVar.tmp 9]) rfl (by decide) rfl (by decide +kernel) rfl rfl (by simp) fun F L C=>?_
 cbv
 (repeat' first|(refine Na ?_ fun _ _=>?_;(focus lia);cbv)|(refine CallThen.mk _ _ (C.fn (hck)) ?_;cbv)|(refine CallThen.mk _ _ (C.fn (how)) ?_;cbv)|(refine CallThen.mk _ _ (C.fn (hw)) ?_;cbv)|(refine CallThen.mk _ _ (C.fn (hba)) ?_;cbv)|(refine Nl fun _ _ hq=>?_;(try simp only [lenS] at hq);cbv)|(refine Nm fun _ _=>?_;cbv)|(refine Br.t ?_ ?_;(focus first|assumption|lia);cbv)|(refine Br.f ?_ ?_;(focus first|assumption|lia);cbv)|(refine Br.mk (fun _=>?_) (fun _=>?_)<;>cbv)|(refine Need.mk ?_ ?_;rotate_left;cbv)|(refine R0 ?_;cbv))
 all_goals try(exfalso;clear hck how hd3 hR3;lia)
 refine LoopThen.mk (C.loopAt (ι:=Nat) [(12,12),(75,88)] (fun i=>[(75,.int .i64 i),(11,.ref 50),(44,.top),(49,.top),(52,.top),(73,.top)]) (fun i=>[(50,.arr 0 none 4 (O.o (Chs.enc O) R3)),(384,.box [.int .i64 kind,.str key,.str to,.sl false 0 false 6 (O.o Doc.enc doc),.sl false 0 false 6 (O.o Doc.enc want),.bool has,.int .i64 n,.int .i64 most,.sl false 0 false 11 (O.o (Ops.enc O) list),.sl false 0 false 2 (O.o (Nms.enc O) docs),.sl false 0 false 4 (O.o (Chs.enc O) news)]),(576,.box [.int .i64 0,.bool false,.nils,.nils,.nils,.int .i64 0,.int .i64 0,.nils]),(768,.box (R2.enc O))])
  (fun i=>i≤N) (fun i=>N-i) (by decide +kernel) (Start.mk z [(50,.loc 3264)] [] (by lia) ?_) ?_)
 ·cbv
  (repeat' apply And.intro)<;>first|exact True.intro|exact WkR.refl _|rfl|exact hR3|lia|trace_state
 intro i g1
 cbv
 by_cases hi:i<R3.length
 ·obtain⟨x,hx⟩:∃ x,R3[i]?=some x:=⟨R3[i],by simp [hi]⟩
  have hcl:=cloneW_fn O x.doc (hd3 x (List.mem_of_getElem? hx))
  have hse:=chs_set O hx
  clear hd3 hck how hR3
  obtain⟨xp,xk,xh,xd⟩:=x
  (repeat' first|(refine Na ?_ fun _ _=>?_;(focus lia);cbv)|(refine Ex.known O (Change.enc O) rfl hx ?_ ?_;(focus lia);cbv)|(refine CallThen.mk _ _ (C.fn (hcl)) ?_;cbv)|(refine Back.up [] [] ?_ ?_ fun _ _=>?_;rotate_left 2;cbv;refine And.intro ?_ ?_)|(refine Nl fun _ _ hq=>?_;(try simp only [lenS] at hq);cbv)|(refine Nm fun _ _=>?_;cbv)|(refine Br.t ?_ ?_;(focus first|assumption|lia);cbv)|(refine Br.f ?_ ?_;(focus first|assumption|lia);cbv)|(refine Br.mk (fun _=>?_) (fun _=>?_)<;>cbv)|(refine Need.mk ?_ ?_;rotate_left;cbv)|(refine R0 ?_;cbv))
  all_goals(repeat' apply And.intro)
  all_goals first
   | exact True.intro
   | exact WkR.refl _
   | (clear hx hse hcl;lia)
   | (subst_vars;exact WkR.of_eq hse.symm)
   | trace_state
 ·clear hd3 hck how hR3
  (repeat' first|(refine Na ?_ fun _ _=>?_;(focus lia);cbv)|(refine RetThen.mk [] [50] ?_;cbv)|(refine Nl fun _ _ hq=>?_;(try simp only [lenS] at hq);cbv)|(refine Nm fun _ _=>?_;cbv)|(refine Br.t ?_ ?_;(focus first|assumption|lia);cbv)|(refine Br.f ?_ ?_;(focus first|assumption|lia);cbv)|(refine Br.mk (fun _=>?_) (fun _=>?_)<;>cbv)|(refine Need.mk ?_ ?_;rotate_left;cbv)|(refine R0 ?_;cbv))
  all_goals(repeat' apply And.intro)
  all_goals first
   | exact True.intro
   | exact WkR.refl _
   | rfl
   | lia
   | (refine Nm fun rs e=>⟨.of_eq e.symm,?_⟩;cbv)
   | (refine WkR.of_eq ?_;symm;assumption)
   | trace_state
end Go.Sym
