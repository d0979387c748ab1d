/- What is asked: scan. -/
import Derived.Test.YthaaoongjcmleaaGreatDoorK6
set_option linter.all false
set_option linter.unusedVariables false
set_option linter.unusedSimpArgs false
namespace Go.Sym
open Go Go.Proofs.Tryz
set_option maxRecDepth 100000
set_option maxHeartbeats 4000000 in
theorem apply_scan (O:Opq) (l:List Ndoc) (o:Opn) (total:Int) (hm:mayD l=true) (ht:0≤total∧total≤2147483643) (hk:o.kind=5) (hR:True)
  : Fn prog 92 [.sl false 0 false 2 (O.o (Nms.enc O) l),.agg (o.en O),.int .i64 total] [] [.sl false 0 false 2 (O.o (Nms.enc O) l),.agg ((O.o (scanA l) o).enc O),.sl false 0 false 4 [],.int .i64 0] []:=by
 have hlen:=Nms.len O l
 obtain⟨m1,m2,m3⟩:=mayD_iff.1 hm
 have hdl:∀ n∈l,n.doc.length≤1099511627:=fun n hn=>by have:=may_len (m2 n hn).2;omega
 have hck:=scheck_fn O l (by omega) (fun n hn=>by have:=hdl n hn;omega)
 have how:Fn prog 125 [.sl false 0 false 2 (O.o (Nms.enc O) l)] [] [.sl false 0 false 2 (O.o (Nms.enc O) l)] []:=(ownNW_fn O l (by omega) hdl).wkA (.cons (.lend rfl) .nil)
 rw[show O.o mayDE l=0 by rw[O.h];exact mayDE_zero.2 hm] at hck
 have hsc:=scan_fn O l o (by omega) hdl
 have hw:=writes_fn O o
 have hw0:O.o writesB o=false:=by rw[O.h,writesB,hk];decide
 rw[hw0] at hw
 obtain⟨R3,e3⟩:∃ R:List Change,R=[]:=⟨_,rfl⟩
 have h30:O.o (Chs.enc O) R3=[]:=by rw[e3,O.h];rfl
 rw[← h30]
 obtain⟨R2,e2⟩:∃ R,R=O.o (scanA l) o:=⟨_,rfl⟩
 rw[← e2] at hsc ⊢
 clear hm m2 m3 hdl e2 hw0
 have hd3:∀ c∈R3,c.doc.length≤1099511627:=by rw[e3];simp
 have hc3:=Chs.len O R3
 have h3l:R3.length≤1099511627776:=by rw[e3];simp
 obtain⟨N,hN⟩:∃ N:Nat,N=R3.length:=⟨_,rfl⟩
 obtain⟨z,hz⟩:∃ z:Nat,z=0:=⟨_,rfl⟩
 have hR3:O.o (Chs.enc O) R3=[]:=h30
 clear hR
 obtain⟨kind,key,to,doc,want,has,n,most,list,docs,news⟩:=o
 replace hk:kind=5:=hk
 refine go (fn:=Proofs.Tryz.f92) (n:=89) (rv:=[ResultVar.tmp 6,ResultVar.cell 7 61,ResultVar.tmp 8,ResultVar.tmp 9]) rfl (by decide) rfl (by decide +kernel) rfl rfl (by simp) fun F L C=>?_
 cbv
 (repeat' first|(refine Na ?_ fun _ _=>?_;(focus lia);cbv)|(refine CallThen.mk _ _ (C.fn (hck)) ?_;cbv)|(refine CallThen.mk _ _ (C.fn (how)) ?_;cbv)|(refine CallThen.mk _ _ (C.fn (hw)) ?_;cbv)|(refine CallThen.mk _ _ (C.fn (hsc)) ?_;cbv)|(refine Nl fun _ _ hq=>?_;(try simp only [lenS] at hq);cbv)|(refine Nm fun _ _=>?_;cbv)|(refine Br.t ?_ ?_;(focus first|assumption|lia);cbv)|(refine Br.f ?_ ?_;(focus first|assumption|lia);cbv)|(refine Br.mk (fun _=>?_) (fun _=>?_)<;>cbv)|(refine Need.mk ?_ ?_;rotate_left;cbv)|(refine R0 ?_;cbv))
 all_goals try(exfalso;clear hck how hd3 hR3;lia)
 refine LoopThen.mk (C.loopAt (ι:=Nat) [(12,12),(75,88)] (fun i=>[(75,.int .i64 i),(11,.ref 50)]) (fun i=>[(50,.arr 0 none 4 (O.o (Chs.enc O) R3)),(384,.box [.int .i64 kind,.str key,.str to,.sl false 0 false 6 (O.o Doc.enc doc),.sl false 0 false 6 (O.o Doc.enc want),.bool has,.int .i64 n,.int .i64 most,.sl false 0 false 11 (O.o (Ops.enc O) list),.sl false 0 false 2 (O.o (Nms.enc O) docs),.sl false 0 false 4 (O.o (Chs.enc O) news)]),(576,.box [.int .i64 0,.bool false,.nils,.nils,.nils,.int .i64 0,.int .i64 0,.nils]),(768,.box (R2.enc O))])
  (fun i=>i≤N) (fun i=>N-i) (by decide +kernel) (Start.mk z [(50,.nil 4)] [] (by lia) ?_) ?_)
 ·cbv
  (repeat' apply And.intro)<;>first|exact True.intro|exact WkR.refl _|rfl|exact hR3|lia|trace_state
 intro i g1
 cbv
 by_cases hi:i<R3.length
 ·exfalso
  rw[e3] at hi
  simp at hi
 ·clear hd3 hck how hR3
  (repeat' first|(refine Na ?_ fun _ _=>?_;(focus lia);cbv)|(refine RetThen.mk [] [50] ?_;cbv)|(refine Nl fun _ _ hq=>?_;(try simp only [lenS] at hq);cbv)|(refine Nm fun _ _=>?_;cbv)|(refine Br.t ?_ ?_;(focus first|assumption|lia);cbv)|(refine Br.f ?_ ?_;(focus first|assumption|lia);cbv)|(refine Br.mk (fun _=>?_) (fun _=>?_)<;>cbv)|(refine Need.mk ?_ ?_;rotate_left;cbv)|(refine R0 ?_;cbv))
  all_goals(repeat' apply And.intro)
  all_goals first
   | exact True.intro
   | exact WkR.refl _
   | rfl
   | lia
   | (refine Nm fun rs e=>⟨.of_eq e.symm,?_⟩;cbv)
   | (refine WkR.of_eq ?_;symm;assumption)
   | trace_state
set_option maxHeartbeats 4000000 in
theorem apply_get (O:Opq) (l:List Ndoc) (o:Opn) (total:Int) (hm:mayD l=true) (ht:0≤total∧total≤2147483643) (hk:o.kind=4) (hkey:isKey o.key=true) (hR:True)
  : Fn prog 92 [.sl false 0 false 2 (O.o (Nms.enc O) l),.agg (o.en O),.int .i64 total] [] [.sl false 0 false 2 (O.o (Nms.enc O) l),.agg ((O.o (standA l) o.key).enc O),.sl false 0 false 4 [],.int .i64 0] []:=by
 have hlen:=Nms.len O l
 obtain⟨m1,m2,m3⟩:=mayD_iff.1 hm
 have hdl:∀ n∈l,n.doc.length≤1099511627:=fun n hn=>by have:=may_len (m2 n hn).2;omega
 have hck:=scheck_fn O l (by omega) (fun n hn=>by have:=hdl n hn;omega)
 have how:Fn prog 125 [.sl false 0 false 2 (O.o (Nms.enc O) l)] [] [.sl false 0 false 2 (O.o (Nms.enc O) l)] []:=(ownNW_fn O l (by omega) hdl).wkA (.cons (.lend rfl) .nil)
 rw[show O.o mayDE l=0 by rw[O.h];exact mayDE_zero.2 hm] at hck
 have hw:=writes_fn O o
 have hsc:=stands_fn O l o.key (by omega) m3 hdl
 have hkf:=key_fn O o.key
 rw[show O.o isKey o.key=true by rw[O.h];exact hkey] at hkf
 have hw0:O.o writesB o=false:=by rw[O.h,writesB,hk];decide
 rw[hw0] at hw
 obtain⟨R3,e3⟩:∃ R:List Change,R=[]:=⟨_,rfl⟩
 have h30:O.o (Chs.enc O) R3=[]:=by rw[e3,O.h];rfl
 rw[← h30]
 obtain⟨R2,e2⟩:∃ R,R=O.o (standA l) o.key:=⟨_,rfl⟩
 rw[← e2] at hsc ⊢
 clear hm m2 m3 hdl e2 hw0 hkey
 have hd3:∀ c∈R3,c.doc.length≤1099511627:=by rw[e3];simp
 have hc3:=Chs.len O R3
 have h3l:R3.length≤1099511627776:=by rw[e3];simp
 obtain⟨N,hN⟩:∃ N:Nat,N=R3.length:=⟨_,rfl⟩
 obtain⟨z,hz⟩:∃ z:Nat,z=0:=⟨_,rfl⟩
 have hR3:O.o (Chs.enc O) R3=[]:=h30
 clear hR
 obtain⟨kind,key,to,doc,want,has,n,most,list,docs,news⟩:=o
 replace hk:kind=4:=hk
 refine go (fn:=Proofs.Tryz.f92) (n:=89) (rv:=[ResultVar.tmp 6,ResultVar.cell 7 61,ResultVar.tmp 8,ResultVar.tmp 9]) rfl (by decide) rfl (by decide +kernel) rfl rfl (by simp) fun F L C=>?_
 cbv
 (repeat' first|(refine Na ?_ fun _ _=>?_;(focus lia);cbv)|(refine CallThen.mk _ _ (C.fn (hck)) ?_;cbv)|(refine CallThen.mk _ _ (C.fn (how)) ?_;cbv)|(refine CallThen.mk _ _ (C.fn (hw)) ?_;cbv)|(refine CallThen.mk _ _ (C.fn (hkf)) ?_;cbv)|(refine CallThen.mk _ _ (C.fn (hsc)) ?_;cbv)|(refine Nl fun _ _ hq=>?_;(try simp only [lenS] at hq);cbv)|(refine Nm fun _ _=>?_;cbv)|(refine Br.t ?_ ?_;(focus first|assumption|lia);cbv)|(refine Br.f ?_ ?_;(focus first|assumption|lia);cbv)|(refine Br.mk (fun _=>?_) (fun _=>?_)<;>cbv)|(refine Need.mk ?_ ?_;rotate_left;cbv)|(refine R0 ?_;cbv))
 all_goals try(exfalso;clear hck how hd3 hR3;lia)
 refine LoopThen.mk (C.loopAt (ι:=Nat) [(12,12),(75,88)] (fun i=>[(75,.int .i64 i),(11,.ref 50)]) (fun i=>[(50,.arr 0 none 4 (O.o (Chs.enc O) R3)),(384,.box [.int .i64 kind,.str key,.str to,.sl false 0 false 6 (O.o Doc.enc doc),.sl false 0 false 6 (O.o Doc.enc want),.bool has,.int .i64 n,.int .i64 most,.sl false 0 false 11 (O.o (Ops.enc O) list),.sl false 0 false 2 (O.o (Nms.enc O) docs),.sl false 0 false 4 (O.o (Chs.enc O) news)]),(576,.box [.int .i64 0,.bool false,.nils,.nils,.nils,.int .i64 0,.int .i64 0,.nils]),(768,.box (R2.enc O))])
  (fun i=>i≤N) (fun i=>N-i) (by decide +kernel) (Start.mk z [(50,.nil 4)] [] (by lia) ?_) ?_)
 ·cbv
  (repeat' apply And.intro)<;>first|exact True.intro|exact WkR.refl _|rfl|exact hR3|lia|trace_state
 intro i g1
 cbv
 by_cases hi:i<R3.length
 ·exfalso
  rw[e3] at hi
  simp at hi
 ·clear hd3 hck how hR3
  (repeat' first|(refine Na ?_ fun _ _=>?_;(focus lia);cbv)|(refine RetThen.mk [] [50] ?_;cbv)|(refine Nl fun _ _ hq=>?_;(try simp only [lenS] at hq);cbv)|(refine Nm fun _ _=>?_;cbv)|(refine Br.t ?_ ?_;(focus first|assumption|lia);cbv)|(refine Br.f ?_ ?_;(focus first|assumption|lia);cbv)|(refine Br.mk (fun _=>?_) (fun _=>?_)<;>cbv)|(refine Need.mk ?_ ?_;rotate_left;cbv)|(refine R0 ?_;cbv))
  all_goals(repeat' apply And.intro)
  all_goals first
   | exact True.intro
   | exact WkR.refl _
   | rfl
   | lia
   | (refine Nm fun rs e=>⟨.of_eq e.symm,?_⟩;cbv)
   | (refine WkR.of_eq ?_;symm;assumption)
   | trace_state
end Go.Sym
