/- Where a path stands; what is set. -/
import Derived.Test.YtjlefaabcalkkaaGreatDoorK6
import Derived.WideShapes
import Derived.Lib.Strings
import Derived.Test.YtjlefaabcalkkaaGreatDoorK4
import Derived.Sort.AssemblyPlain
set_option linter.all false
set_option linter.unusedVariables false
set_option linter.unusedSimpArgs false
namespace Go.Sym
open Go Go.Proofs.Tryz
set_option maxRecDepth 100000
theorem rget_fn (O:Opq) (d:Doc) (p:ByteArray) (hd:d.length≤1099511627776):Fn prog 169 [.sl false 0 false 6 (O.o Doc.enc d),.str p] [] [.int .i64 (O.o getI d p)] []:=by
 have hlen:(O.o Doc.enc d).length=d.length:=by rw[O.h,Doc.enc_len]
 obtain⟨N,hN⟩:∃ N:Nat,N=d.length:=⟨_,rfl⟩
 refine go (fn:=Proofs.Tryz.f169) (n:=18) (rv:=[ResultVar.tmp 4]) rfl (by decide) rfl (by decide +kernel) rfl rfl (by simp) fun F L C=>?_
 cbv
 skip
 refine LoopThen.mk (C.loopAt (ι:=Nat) [(4,19)] (fun k=>[(4,.int .i64 0),(5,.int .i64 k)]) (fun _=>[])
  (fun k=>k≤d.length∧∀ (j:Nat) y,j<k→d[j]?=some y→hasP p y=false) (fun k=>N-k) (by decide +kernel) (Start.mk 0 [] [] (by simp) (by cbv;(repeat' apply And.intro)<;>first|exact True.intro|exact WkR.refl _|rfl|lia)) ?_)
 rintro k ⟨h1,h2⟩
 cbv
 (repeat' first|(refine Na ?_ fun _ _=>?_;(focus lia);cbv)|(refine Ex.map O Field.enc rfl ?_ fun _ _=>?_;rotate_left;cbv)|(refine Back.up [] [] ?_ ?_ fun _ _=>?_;rotate_left 2;cbv)|(refine Nm fun _ _=>?_;cbv)|(refine Br.mk (fun _=>?_) (fun _=>?_)<;>cbv)|(refine R0 ?_;cbv))
 all_goals(try subst_vars)
 all_goals(try simp only [O.h,natTo,natPred,emp] at *)
 all_goals(try subst_vars)
 all_goals(repeat' apply And.intro)
 all_goals first
  | exact True.intro
  | exact WkR.refl _
  | lia
  | exact findI_at (k:=k) (by assumption) (by simp_all [hasP]) h2
  | exact findI_none fun j y hj=>h2 j y (by lia)
  | exact srch_step h2 (by assumption) (by simp_all [hasP])
theorem cmpX_fn (O:Opq) (a b:ByteArray):Fn prog 115 [.str a,.str b] [] [.int .i64 (O.o cmpS a b)] []:=by
 refine .inr ⟨rfl,fun k us _ _ h=>⟨.int .i64 (cmpS a b),?_,by rw[O.h];exact .plain (.int _ _)⟩⟩
 obtain rfl:=repL_str2 h
 rw[run_callFunc_extern (fn:=Proofs.Tryz.f115) rfl (by decide) (by rfl) (by kernel_rfl) (e:=Extern.BytealgCompare.compare) (by kernel_rfl),Lib.run_compareString]
 rfl
theorem cmpB_fn (O:Opq) (a b:ByteArray):Fn prog 89 [.str a,.str b] [] [.int .i64 (O.o cmpS a b)] []:=by
 refine go (fn:=Proofs.Tryz.f89) (n:=6) (rv:=[ResultVar.tmp 4]) rfl (by decide) rfl (by decide +kernel) rfl rfl (by simp) fun F L C=>?_
 cbv
 (repeat' first|(refine CallThen.mk _ _ (C.fn (cmpX_fn O _ _)) ?_;cbv)|(refine R0 ?_;cbv))
theorem cmp_fn (O:Opq) (a b:ByteArray):Fn prog 60 [.str a,.str b] [] [.int .i64 (O.o cmpS a b)] []:=by
 refine go (fn:=Proofs.Tryz.f60) (n:=6) (rv:=[ResultVar.tmp 4]) rfl (by decide) rfl (by decide +kernel) rfl rfl (by simp) fun F L C=>?_
 cbv
 (repeat' first|(refine CallThen.mk _ _ (C.fn (cmpB_fn O _ _)) ?_;cbv)|(refine R0 ?_;cbv))
open Go
def comma:ByteArray:=⟨#[44]⟩
def splitLC:List UInt8→List (List UInt8)
 | []=>[[]]
 | c::r=>if c=44 then[]::splitLC r else match splitLC r with
  | p::ps=>(c::p)::ps
  | []=>[[c]]
theorem splitL_neC (l:List UInt8):splitLC l≠[]:=by
 induction l with
 | nil=>simp [splitLC]
 | cons c r ih =>
  simp only [splitLC]
  split
  ·simp
  ·split<;>simp
theorem splitL_noneC {l:List UInt8} (h:∀ c∈l,c≠44):splitLC l=[l]:=by
 induction l with
 | nil=>rfl
 | cons c r ih=>simp only [splitLC];rw[if_neg (h c (by simp)),ih fun c hc=>h c (by simp [hc])]
theorem splitL_atC:∀ {l:List UInt8} {m:Nat},l[m]?=some 44→(∀ j,j<m→l[j]?≠some 44)→splitLC l=l.take m::splitLC (l.drop (m+1))
 | [],m,h,_=>by simp at h
 | c::r,0,h,_=>by
  simp at h;subst h;simp [splitLC]
 | c::r,m+1,h,hn=>by
  have hc:c≠44:=by have:=hn 0 (by omega);simpa using this
  have:=splitL_atC (l:=r) (m:=m) (by simpa using h) fun j hj=>by have:=hn (j+1) (by omega);simpa using this
  simp only [splitLC,if_neg hc,this,List.take_succ_cons,List.drop_succ_cons]
def piecesC (s:ByteArray):List ByteArray:=(splitLC s.data.toList).map ofL
def cntC (s:ByteArray):Int:=(Lib.countByte s.data.toList 44:Nat)
def idxC (s:ByteArray):Int:=Lib.indexByte s.data.toList 44
theorem count_atC:∀ {l:List UInt8} {m:Nat},l[m]?=some 44→(∀ j,j<m→l[j]?≠some 44)→l.count 44=(l.drop (m+1)).count 44+1
 | [],m,h,_=>by simp at h
 | c::r,0,h,_=>by simp at h;subst h;simp
 | c::r,m+1,h,hn=>by
  have hc:c≠44:=by have:=hn 0 (by omega);simpa using this
  have:=count_atC (l:=r) (m:=m) (by simpa using h) fun j hj=>by have:=hn (j+1) (by omega);simpa using this
  rw[List.count_cons_of_ne hc,this,List.drop_succ_cons]
theorem cnt_posC {s:ByteArray} (h:0<cntC s):0≤idxC s∧idxC s<s.size∧piecesC s=s.extract 0 (idxC s).toNat::piecesC (s.extract ((idxC s).toNat+1) s.size)∧cntC (s.extract ((idxC s).toNat+1) s.size)=cntC s-1:=by
 have hge:=Lib.indexByte_ge s.data.toList 44
 by_cases hn:idxC s=-1
 ·have:=Lib.indexByte_none hn
  have hc:s.data.toList.count 44=0:=List.count_eq_zero.2 fun hm=>by
   obtain⟨k,hk,e⟩:=List.getElem_of_mem hm
   exact this k (List.getElem?_eq_some_iff.2 ⟨hk,e⟩)
  simp [cntC,Lib.countByte,hc] at h
 ·have hpos:0≤idxC s:=by unfold idxC at *;omega
  obtain⟨o,ho⟩:=Int.eq_ofNat_of_zero_le hpos
  obtain⟨h1,h2⟩:=Lib.indexByte_some (show Lib.indexByte s.data.toList 44=o from ho)
  have hlt:o<s.size:=by rw[← size_list];exact(List.getElem?_eq_some_iff.1 h1).1
  have hd:(s.extract (o+1) s.size).data.toList=s.data.toList.drop (o+1):=by rw[toL_extract,← size_list,List.take_length]
  refine⟨hpos,by omega,?_,?_⟩
  ·rw[ho,Int.toNat_natCast,piecesC,piecesC,hd,splitL_atC h1 h2,List.map_cons]
   refine congrArg (·::_) (eq_of_toL ?_)
   rw[toL_ofL,toL_extract,List.drop_zero]
  ·rw[ho,Int.toNat_natCast]
   simp only [cntC,Lib.countByte,hd,count_atC h1 h2]
   omega
theorem cnt_zeroC {s:ByteArray} (h:cntC s≤0):piecesC s=[s]:=by
 have hc:s.data.toList.count 44=0:=by simp only [cntC,Lib.countByte] at h;omega
 rw[piecesC,splitL_noneC fun c hm e=>by subst e;exact List.count_eq_zero.1 hc hm]
 rfl
theorem cnt_leC (s:ByteArray):0≤cntC s∧cntC s≤s.size:=by
 have:=List.count_le_length (a:=(44:UInt8)) (l:=s.data.toList)
 rw[size_list] at this
 simp only [cntC,Lib.countByte];omega
theorem splitL_lenC (l:List UInt8):(splitLC l).length≤l.length+1∧∀ p∈splitLC l,p.length≤l.length:=by
 induction l with
 | nil=>simp [splitLC]
 | cons c r ih =>
  simp only [splitLC]
  split
  ·refine⟨by simp;omega,fun p hp=>?_⟩
   rcases List.mem_cons.1 hp with rfl|hp
   ·simp
   ·have:=ih.2 p hp;simp;omega
  ·split
   ·rename_i q qs hq
    rw[hq] at ih
    refine⟨by have:=ih.1;simp at this ⊢;omega,fun p hp=>?_⟩
    rcases List.mem_cons.1 hp with rfl|hp
    ·have:=ih.2 q (by simp);simp;omega
    ·have:=ih.2 p (by simp [hp]);simp;omega
   ·simp
theorem countX_fnC (O:Opq) (s:ByteArray) (c:Int) (hc:c=44):Fn prog 71 [.str s,.int .u8 c] [] [.int .i64 (O.o cntC s)] []:=by
 subst hc
 refine .inr ⟨rfl,fun k us _ _ h=>⟨.int .i64 (cntC s),?_,by rw[O.h];exact .plain (.int _ _)⟩⟩
 obtain rfl:=repL_vals (vs:=[.string s,.int .u8 44]) h (fun i x u p q=>by
  match i,p with
  | 0,p=>simp at p;subst p;have:=(h.2 0 _ u rfl q).str_inv;simp [this]
  | 1,p=>simp at p;subst p;have:=(h.2 1 _ u rfl q).int_inv;simp [this]) rfl
 rw[run_callFunc_extern (fn:=Proofs.Tryz.f71) rfl (by decide) (by rfl) (by kernel_rfl) (e:=Extern.BytealgCount.count) (by kernel_rfl),Lib.run_countString]
 rfl
theorem indexX_fnC (O:Opq) (s:ByteArray) (c:Int) (hc:c=44):Fn prog 151 [.str s,.int .u8 c] [] [.int .i64 (O.o idxC s)] []:=by
 subst hc
 refine .inr ⟨rfl,fun k us _ _ h=>⟨.int .i64 (idxC s),?_,by rw[O.h];exact .plain (.int _ _)⟩⟩
 obtain rfl:=repL_vals (vs:=[.string s,.int .u8 44]) h (fun i x u p q=>by
  match i,p with
  | 0,p=>simp at p;subst p;have:=(h.2 0 _ u rfl q).str_inv;simp [this]
  | 1,p=>simp at p;subst p;have:=(h.2 1 _ u rfl q).int_inv;simp [this]) rfl
 rw[run_callFunc_extern (fn:=Proofs.Tryz.f151) rfl (by decide) (by rfl) (by kernel_rfl) (e:=Extern.BytealgIndexByte.indexByte) (by kernel_rfl),Lib.run_indexByteString]
 rfl
theorem indexByte_fnC (O:Opq) (s:ByteArray) (c:Int) (hc:c=44):Fn prog 134 [.str s,.int .u8 c] [] [.int .i64 (O.o idxC s)] []:=by
 refine go (fn:=Proofs.Tryz.f134) (n:=6) (rv:=[ResultVar.tmp 4]) rfl (by decide) rfl (by decide +kernel) rfl rfl (by simp) fun F L C=>?_
 cbv
 (repeat' first|(refine CallThen.mk _ _ (C.fn (indexX_fnC O _ _ hc)) ?_;cbv)|(refine R0 ?_;cbv))
theorem slIndex_fnC (O:Opq) (s sep:ByteArray) (hd:sep=comma):Fn prog 102 [.str s,.str sep] [] [.int .i64 (O.o idxC s)] []:=by
 have h1:sep.size=1:=by rw[hd];rfl
 have h2:byteAt sep 0=44:=by rw[hd];rfl
 have h3:sep=s→idxC s=0:=by rw[hd];rintro rfl;rfl
 clear hd
 refine go (fn:=Proofs.Tryz.f102) (n:=141) (rv:=[ResultVar.tmp 4]) rfl (by decide) rfl (by decide +kernel) rfl rfl (by simp) fun F L C=>?_
 cbv
 (repeat' first|(refine CallThen.mk _ _ (C.fn (indexByte_fnC O _ _ (by lia))) ?_;cbv)|(refine Nm fun _ _=>?_;cbv)|(refine Br.t ?_ ?_;(focus first|assumption|lia);cbv)|(refine Br.f ?_ ?_;(focus first|assumption|lia);cbv)|(refine Br.mk (fun _=>?_) (fun _=>?_)<;>cbv)|(refine Need.mk ?_ ?_;rotate_left;cbv)|(refine R0 ?_;cbv))
 all_goals first|(simp only [O.h];exact⟨h3 (by assumption),trivial⟩)|lia
theorem index_fnC (O:Opq) (s sep:ByteArray) (hd:sep=comma):Fn prog 72 [.str s,.str sep] [] [.int .i64 (O.o idxC s)] []:=by
 refine go (fn:=Proofs.Tryz.f72) (n:=6) (rv:=[ResultVar.tmp 4]) rfl (by decide) rfl (by decide +kernel) rfl rfl (by simp) fun F L C=>?_
 cbv
 (repeat' first|(refine CallThen.mk _ _ (C.fn (slIndex_fnC O _ _ hd)) ?_;cbv)|(refine R0 ?_;cbv))
theorem count_fnM (O:Opq) (s sep:ByteArray) (hd:sep=comma):Fn prog 52 [.str s,.str sep] [] [.int .i64 (O.o cntC s)] []:=by
 have h1:sep.size=1:=by rw[hd];rfl
 have h2:byteAt sep 0=44:=by rw[hd];rfl
 clear hd
 refine go (fn:=Proofs.Tryz.f52) (n:=32) (rv:=[ResultVar.tmp 4]) rfl (by decide) rfl (by decide +kernel) rfl rfl (by simp) fun F L C=>?_
 cbv
 (repeat' first|(refine CallThen.mk _ _ (C.fn (countX_fnC O _ _ (by lia))) ?_;cbv)|(refine Nm fun _ _=>?_;cbv)|(refine Br.t ?_ ?_;(focus first|assumption|lia);cbv)|(refine Br.f ?_ ?_;(focus first|assumption|lia);cbv)|(refine Need.mk ?_ ?_;rotate_left;cbv)|(refine R0 ?_;cbv))
 all_goals lia
structure CutC where
 done:List ByteArray
 cur:ByteArray
def CutC.rows (n:Nat) (x:CutC):List (List PV):=Strs x.done++List.replicate (n-x.done.length) [.str ByteArray.empty]
def CutC.i (x:CutC):Int:=x.done.length
def CutC.next (x:CutC):CutC:=⟨x.done++[x.cur.extract 0 (idxC x.cur).toNat],x.cur.extract ((idxC x.cur).toNat+1) x.cur.size⟩
theorem CutC.rows_len (n:Nat) (x:CutC) (h:x.done.length≤n):(CutC.rows n x).length=n:=by
 rw[CutC.rows,List.length_append,Strs_len,List.length_replicate];omega
theorem CutC.rows_at (n:Nat) (x:CutC) (h:x.done.length<n):(CutC.rows n x)[x.done.length]?=some [.str ByteArray.empty]:=by
 rw[CutC.rows,List.getElem?_append_right (by simp [Strs]),Strs_len,Nat.sub_self,List.getElem?_replicate,if_pos (by omega)]
theorem CutC.rows_set (n:Nat) (x:CutC) (h:x.done.length<n) (t:ByteArray):(CutC.rows n x).set x.done.length [.str t]=Strs (x.done++[t])++List.replicate (n-(x.done.length+1)) [.str ByteArray.empty]:=by
 rw[CutC.rows,List.set_append_right _ _ (by simp [Strs])]
 simp only [Strs,List.length_map,Nat.sub_self,List.map_append,List.map_cons,List.map_nil,List.append_assoc]
 rw[show n-x.done.length=(n-(x.done.length+1))+1 by omega,List.replicate_succ]
 simp
theorem genSplit_fnC (O:Opq) (s sep:ByteArray) (hd:sep=comma) (hs:s.size≤1099511627776):Fn prog 73 [.str s,.str sep,.int .i64 0,.int .i64 (-1)] [] [.sl false 0 false 1 (O.o Strs (O.o piecesC s))] []:=by
 have h1:sep.size=1:=by rw[hd];rfl
 have hemp:¬ sep=ByteArray.empty:=by rw[hd];decide
 have hc:=cnt_leC s
 have e0:O.o cntC s=cntC s:=congrFun (O.h cntC) s
 obtain⟨N,hN⟩:∃ N:Nat,(N:Int)=cntC s+1:=⟨(cntC s+1).toNat,by omega⟩
 refine go (fn:=Proofs.Tryz.f73) (n:=62) (rv:=[ResultVar.tmp 8]) rfl (by decide) rfl (by decide +kernel) rfl rfl (by simp) fun F L C=>?_
 cbv
 (repeat' first|(refine Na ?_ fun _ _=>?_;(focus lia);cbv)|(refine CallThen.mk _ _ (C.fn (count_fnM O _ _ hd)) ?_;cbv)|(refine Nl fun _ _ hq=>?_;(try simp only [lenS] at hq);cbv)|(refine Nm fun _ _=>?_;cbv)|(refine Br.t ?_ ?_;(focus first|assumption|lia);cbv)|(refine Br.f ?_ ?_;(focus first|assumption|lia);cbv)|(refine Need.mk ?_ ?_;rotate_left;cbv))
 ·rename_i n1 e1 n2 e2 n3 e3 n4 e4 r5 e5 n6 e6
  clear hq
  have q4:n4=cntC s+1:=by rw[e4];split<;>lia
  have e6:n6=cntC s:=by lia
  rw[show n4.toNat=N by lia] at e5
  subst e5
  clear e1 e2 e3 e4 q4
  refine LoopThen.mk (C.loopAt (ι:=CutC) [(0,0),(10,11),(34,57)] (fun x=>[(0,.str x.cur),(10,.int .i64 (O.o CutC.i x))]) (fun x=>[(2112,.arr 1 none 1 (O.o (CutC.rows N) x))])
   (fun x=>piecesC s=x.done++piecesC x.cur∧cntC x.cur=cntC s-x.done.length∧x.cur.size≤s.size) (fun x=>(cntC s).toNat-x.done.length) (by decide +kernel) (Start.mk ⟨[],s⟩ [] [] (by simp) ?_) ?_)
  ·obtain⟨z,hz⟩:∃ z:CutC,z=⟨[],s⟩:=⟨_,rfl⟩
   rw[← hz]
   generalize hr:List.replicate N _=r
   cbv
   subst hz hr
   refine⟨WkR.of_eq ?_,rfl,?_⟩
   ·simp only [O.h,CutC.rows,Strs,List.map_nil,List.length_nil,List.nil_append,Nat.sub_zero];rfl
   ·simp [O.h,CutC.i]
  intro x
  obtain⟨ci,eci⟩:∃ ci,ci=O.o CutC.i x:=⟨_,rfl⟩
  obtain⟨cr,ecr⟩:∃ cr,cr=O.o (CutC.rows N) x:=⟨_,rfl⟩
  rw[← eci,← ecr]
  rw[O.h] at eci ecr
  rintro ⟨i1,i2,i3⟩
  simp only [CutC.i] at eci
  have hlen:=CutC.rows_len N x
  rw[← ecr] at hlen
  have hcur:=cnt_leC x.cur
  have hpos:0<cntC x.cur→_:=cnt_posC
  have hix:O.o idxC x.cur=idxC x.cur:=congrFun (O.h idxC) x.cur
  cbv
  (repeat' first|(refine Na ?_ fun _ _=>?_;(focus lia);cbv)|(refine CallThen.mk _ _ (C.fn (index_fnC O _ _ hd)) ?_;cbv)|(refine Ex.mk [.str ByteArray.empty] ?_ ?_;rotate_left;cbv)|(refine RetThen.mk [] [2112] ?_;cbv)|(refine Back.to (CutC.next x) [] [] ?_ fun _ _=>?_;rotate_left;cbv)|(refine Nl fun _ _ hq=>?_;(try simp only [lenS] at hq);cbv)|(refine Nm fun _ _=>?_;cbv)|(refine Br.f ?_ ?_;(focus first|assumption|lia);cbv)|(refine Br.mk (fun _=>?_) (fun _=>?_)<;>cbv)|(refine Need.mk ?_ ?_;rotate_left;cbv))
  ·-- the next round
   rename_i y hy
   subst hy
   obtain⟨p0,p1,p2,p3⟩:=hpos (by lia)
   rename_i m em t et k ek r er l el l2 el2 t2 et2 i ei
   clear hq
   rw[hix,Int.add_zero] at em
   rw[hix] at el2
   subst em et ek er el2 et2 ei
   refine⟨WkR.of_eq ?_,?_,?_,trivial⟩
   ·simp only [O.h]
    rw[eci,ecr,Int.toNat_natCast]
    show _=(CutC.rows N x).set _ [.str _]
    rw[CutC.rows_set _ _ (by lia)]
    simp [CutC.next,CutC.rows]
   ·show x.cur.extract _ _=_
    rw[show(idxC x.cur+l).toNat=(idxC x.cur).toNat+1 by lia]
   ·simp only [O.h];simp [CutC.i,CutC.next,eci]
  ·obtain⟨p0,p1,p2,p3⟩:=hpos (by lia)
   refine⟨⟨?_,?_,?_⟩,?_⟩
   ·simp only [CutC.next,List.append_assoc,List.singleton_append];rw[i1,p2]
   ·simp only [CutC.next,List.length_append,List.length_singleton];rw[p3];lia
   ·simp only [CutC.next];rw[ByteArray.size_extract];lia
   ·simp only [CutC.next,List.length_append,List.length_singleton];lia
  ·lia
  ·refine⟨by lia,?_⟩
   rename_i k ek
   rw[show(Int.ofNat k).toNat=x.done.length by lia,ecr]
   exact CutC.rows_at _ _ (by lia)
  ·lia
  ·lia
  ·-- the end
   rename_i k ek r er hr i ei n en rs ers
   clear hr hq
   rw[show n=x.done.length+1 by lia,er,ek,eci,ecr] at ers
   have h0:=cnt_zeroC (s:=x.cur) (by lia)
   subst ers
   refine⟨WkR.of_eq ?_,trivial⟩
   simp only [O.h]
   rw[i1,h0]
   show _=List.take _ (((CutC.rows N x).set (Int.toNat _) [.str x.cur]).drop 0)
   rw[Int.toNat_natCast,CutC.rows_set _ _ (by lia),List.drop_zero,List.take_append_of_le_length (by simp [Strs]),List.take_of_length_le (by simp [Strs])]
  ·rename_i k ek r er i ei
   have:=hlen (by lia)
   lia
  ·refine⟨by lia,?_⟩
   rename_i k ek
   rw[show(Int.ofNat k).toNat=x.done.length by lia,ecr]
   exact CutC.rows_at _ _ (by lia)
  ·have:=hlen (by lia)
   lia
 ·rename_i n1 e1 n2 e2 n3 e3 n4 e4
  have q4:n4=cntC s+1:=by rw[e4];split<;>lia
  dsimp only
  lia
theorem split_fnC (O:Opq) (s sep:ByteArray) (hd:sep=comma) (hs:s.size≤1099511627776):Fn prog 53 [.str s,.str sep] [] [.sl false 0 false 1 (O.o Strs (O.o piecesC s))] []:=by
 refine go (fn:=Proofs.Tryz.f53) (n:=6) (rv:=[ResultVar.tmp 4]) rfl (by decide) rfl (by decide +kernel) rfl rfl (by simp) fun F L C=>?_
 cbv
 (repeat' first|(refine CallThen.mk _ _ (C.fn (genSplit_fnC O _ _ hd hs)) ?_;cbv)|(refine R0 ?_;cbv))
 all_goals exact⟨.refl _,trivial⟩
def envM (m:Nat→List Mode):Env:={ ty:=fun t=>tyOf t,mode:=m }
theorem hEM (m:Nat→List Mode):EnvOk prog (envM m):=env_ok (by rfl) ty_ok
def modeOf (f:Nat) (l:List Mode):Nat→List Mode:=fun g=>match Nat.beq g f with
 | true=>l
 | false=>env.mode g
structure CtxM (m:Nat→List Mode) (n0:Nat) (F:FnT) (L:LpT):Prop where
 fn:∀ {f args H res H'},Fn prog f args H res H'→F f args H res H'
 loop:∀ {ι:Type} (S:ι→ASt) (I:ι→Prop) (μ:ι→Nat) {b:Code} {st:ASt} {K:AEx→ASt→Prop},regOk b=true→Start S I n0 st→(∀ i,I i→cw (envM m) F L b (S i) (bodyK S I μ n0 i K))→noScope b=true→L b st K
theorem CtxM.loopAt {m:Nat→List Mode} {n0:Nat} {F:FnT} {L:LpT} (C:CtxM m n0 F L) {ι:Type} {b:Code} {st:ASt} {K:AEx→ASt→Prop} (rs:List (Nat×Nat)) (us:ι→List (Nat×PV)) (h:ι→Heap) (I:ι→Prop) (μ:ι→Nat) (hr:regOk b=true)
  (start:Start (fun i=>⟨sets (resets st.tmps rs) (us i),h i⟩) I n0 st) (body:∀ i,I i→cw (envM m) F L b ⟨sets (resets st.tmps rs) (us i),h i⟩ (bodyK (fun i=>⟨sets (resets st.tmps rs) (us i),h i⟩) I μ n0 i K)) (hb:noScope b=true:=by rfl):L b st K :=
 C.loop _ I μ hr start body hb
theorem goM (m : Nat → List Mode) {f : Nat} {fn : Func} {code : Code} {args res : List PV} {H H' : List Sym.Obj} {n : Nat} {rv : List ResultVar} (hf : prog.funcs[f]? = some fn) (hname : fn.name ≠ "runtime.NumGoroutine") (hb : fn.body = some code) (hr : regOk code = true)
    (hn : fn.ntmps - args.length = n) (hrv : fn.results.toList = rv) (h64 : H.length ≤ 64) (h : ∀ F L, CtxM m H.length F L → cw (envM m) F L code ⟨args ++ tops n, heapOf 0 H⟩ (retK (envM m) rv H.length res H')) : Fn prog f args H res H' :=
  .inl (fnB_of_cw (hEM m) hm hf hname hb hr hn hrv fun fc hfc => h _ _ ⟨fun h => h, fun S I μ _ _ _ hr start body hb => loop_rule S I μ (hEM m) (by omega) hm hfc hr start body hb⟩)
theorem okWide_array {P:Program} {w:World} {r:Reach} {base t:Nat} {v:Value} {n e:Nat} (ht:P.underlying t=some (.array n e)) (h:Value.okWide P w r base t v):∃ cs,v=.agg cs∧cs.size=P.cellsOf t:=by
 simp only [Value.okWide,ht] at h
 obtain⟨cs,h1,h2,_⟩:=h
 exact⟨cs,h1,h2⟩
inductive Cel where
 | mk (kind num:Int) (text:ByteArray) (list:List Cel)
def Cel.kind:Cel→Int | .mk k _ _ _=>k
def Cel.num:Cel→Int | .mk _ n _ _=>n
def Cel.text:Cel→ByteArray | .mk _ _ t _=>t
def Cel.list:Cel→List Cel | .mk _ _ _ l=>l
mutual
def Cel.enc:Cel→List PV
 | .mk k n t l=>[.int .i64 k,.int .i64 n,.str t,.sl false 0 false 4 (Cels.enc l)]
def Cels.enc:List Cel→List (List PV)
 | []=>[]
 | c::l=>c.enc::Cels.enc l
end
theorem Cels.enc_map:∀ l:List Cel,Cels.enc l=l.map Cel.enc
 | []=>by simp [Cels.enc]
 | c::l=>by rw[Cels.enc,Cels.enc_map l];rfl
theorem Cels.enc_len (l:List Cel):(Cels.enc l).length=l.length:=by rw[Cels.enc_map];simp
mutual
def Cel.size : Cel → Nat
  | .mk _ _ _ l => 1 + Cels.size l
def Cels.size : List Cel → Nat
  | [] => 0
  | c :: l => c.size + Cels.size l
end
def Cel.en (O:Opq) (c:Cel):List PV:=[.int .i64 c.kind,.int .i64 c.num,.str c.text,.sl false 0 false 4 (O.o Cels.enc c.list)]
theorem Cel.en_eq (O:Opq) (c:Cel):c.enc=c.en O:=by
 obtain⟨k,n,t,l⟩:=c
 simp only [Cel.enc,Cel.en,O.h]
 rfl
theorem Cels.en_eq (O:Opq) (l:List Cel):Cels.enc l=l.map (Cel.en O):=by
 rw[Cels.enc_map];exact List.map_congr_left fun c _=>Cel.en_eq O c
theorem Cels.en_len (O:Opq) (l:List Cel):(O.o Cels.enc l).length=l.length:=by rw[O.h,Cels.enc_len]
theorem Cels.enc_append (l m:List Cel):Cels.enc (l++m)=Cels.enc l++Cels.enc m:=by simp [Cels.enc_map]
def two (c:Cel):Bool:=decide (c.list.length=2)
theorem Cel.size_list (c:Cel):c.size=1+Cels.size c.list:=by obtain⟨k,n,t,l⟩:=c;rfl
def bts (l:List UInt8):List (List PV):=l.map fun b=>[PV.int .u8 b.toNat]
theorem bts_len (l:List UInt8):(bts l).length=l.length:=by simp [bts]
theorem bts_append (l m:List UInt8):bts (l++m)=bts l++bts m:=by simp [bts]
def byt (u k:Nat):UInt8:=UInt8.ofNat (u / 256 ^ (7-k) % 256)
def numK (u k:Nat):List UInt8:=(List.range k).map (byt u)
def num8 (n:Int):List UInt8:=numK (n+4611686018427387904).toNat 8
theorem numK_len (u k:Nat):(numK u k).length=k:=by simp [numK]
theorem numK_succ (u k:Nat):numK u (k+1)=numK u k++[byt u k]:=by simp [numK,List.range_succ]
theorem num8_len (n:Int):(num8 n).length=8:=numK_len _ _
def txtB (s:List UInt8):List UInt8 :=
 if 7≤s.length then s.take 7++[8]++txtB (s.drop 7) else s++List.replicate (7-s.length) 0++[UInt8.ofNat s.length]
termination_by s.length
decreasing_by simp;omega
theorem txtB_long {s:List UInt8} (h:7≤s.length):txtB s=s.take 7++[8]++txtB (s.drop 7):=by rw[txtB,if_pos h]
theorem txtB_short {s:List UInt8} (h:¬ 7≤s.length):txtB s=s++List.replicate (7-s.length) 0++[UInt8.ofNat s.length]:=by rw[txtB,if_neg h]
theorem txtB_len:∀ (m:Nat) (s:List UInt8),s.length≤m→(txtB s).length≤2 * s.length+8:=by
 intro m
 induction m with
 | zero=>intro s h;rw[txtB_short (by omega)];simp;omega
 | succ m ih =>
  intro s h
  by_cases h7:7≤s.length
  ·rw[txtB_long h7]
   have:=ih (s.drop 7) (by simp;omega)
   simp only [List.length_append,List.length_take,List.length_drop,List.length_cons,List.length_nil] at *
   omega
  ·rw[txtB_short h7];simp;omega
def oneB (v:Val):List UInt8:=UInt8.ofNat v.kind.toNat::(if v.kind=1 then num8 v.num else if v.kind=2 then txtB v.text.data.toList else num8 v.re++num8 v.im)
theorem oneB_len {v:Val} (h:v.Ok):(oneB v).length≤1000:=by
 unfold oneB
 rcases h with h|h|h
 ·rw[if_pos h.1,List.length_cons,num8_len];omega
 ·rw[if_neg (by omega),if_neg (by omega),List.length_cons,List.length_append,num8_len,num8_len];omega
 ·rw[if_neg (by omega),if_pos h.1]
  have:=txtB_len _ v.text.data.toList (Nat.le_refl _)
  have h2:v.text.data.toList.length=v.text.size:=rfl
  rw[List.length_cons]
  omega
def keyB (l:List Val):List UInt8:=l.flatMap oneB
theorem keyB_snoc (l:List Val) (v:Val):keyB (l++[v])=keyB l++oneB v:=by simp [keyB]
theorem keyB_len {l:List Val} (h:∀ v∈l,v.Ok):(keyB l).length≤1000 * l.length:=by
 induction l with
 | nil=>simp [keyB]
 | cons v l ih =>
  have h1:=oneB_len (h v (by simp))
  have h2:=ih fun w hw=>h w (by simp [hw])
  rw[keyB,List.flatMap_cons,List.length_append,List.length_cons]
  rw[keyB] at h2
  omega
structure Ndoc where
 key:ByteArray
 doc:Doc
structure PairK where
 key:ByteArray
 val:ByteArray
structure Answer where
 code:Int
 has:Bool
 doc:Doc
 docs:List Ndoc
 news:List Change
 n:Int
 total:Int
 keys:List PairK
inductive Opn where
 | mk (kind:Int) (key to:ByteArray) (doc want:Doc) (has:Bool) (n most:Int) (list:List Opn) (docs:List Ndoc) (news:List Change)
def Opn.kind:Opn→Int | .mk k _ _ _ _ _ _ _ _ _ _=>k
def Opn.key:Opn→ByteArray | .mk _ k _ _ _ _ _ _ _ _ _=>k
def Opn.to:Opn→ByteArray | .mk _ _ k _ _ _ _ _ _ _ _=>k
def Opn.doc:Opn→Doc | .mk _ _ _ k _ _ _ _ _ _ _=>k
def Opn.want:Opn→Doc | .mk _ _ _ _ k _ _ _ _ _ _=>k
def Opn.has:Opn→Bool | .mk _ _ _ _ _ k _ _ _ _ _=>k
def Opn.n:Opn→Int | .mk _ _ _ _ _ _ k _ _ _ _=>k
def Opn.most:Opn→Int | .mk _ _ _ _ _ _ _ k _ _ _=>k
def Opn.list:Opn→List Opn | .mk _ _ _ _ _ _ _ _ k _ _=>k
def Opn.docs:Opn→List Ndoc | .mk _ _ _ _ _ _ _ _ _ k _=>k
def Opn.news:Opn→List Change | .mk _ _ _ _ _ _ _ _ _ _ k=>k
def Ndoc.enc (O:Opq) (n:Ndoc):List PV:=[.str n.key,.sl false 0 false 6 (O.o Doc.enc n.doc)]
def Nms.enc (O:Opq) (l:List Ndoc):List (List PV):=l.map (Ndoc.enc O)
def PairK.enc (p:PairK):List PV:=[.str p.key,.str p.val]
def Prs.enc:List PairK→List (List PV):=List.map PairK.enc
theorem Nms.len (O:Opq) (l:List Ndoc):(O.o (Nms.enc O) l).length=l.length:=by rw[O.h,Nms.enc,List.length_map]
theorem Prs.len (O:Opq) (l:List PairK):(O.o Prs.enc l).length=l.length:=by rw[O.h,Prs.enc,List.length_map]
def Answer.enc (O:Opq) (a:Answer):List PV:=[.int .i64 a.code,.bool a.has,.sl false 0 false 6 (O.o Doc.enc a.doc),.sl false 0 false 2 (O.o (Nms.enc O) a.docs),.sl false 0 false 4 (O.o (Chs.enc O) a.news),.int .i64 a.n,.int .i64 a.total,.sl false 0 false 2 (O.o Prs.enc a.keys)]
mutual
def Opn.enc (O:Opq):Opn→List PV
 | .mk k key to d w h n m l ds ns=>[.int .i64 k,.str key,.str to,.sl false 0 false 6 (O.o Doc.enc d),.sl false 0 false 6 (O.o Doc.enc w),.bool h,.int .i64 n,.int .i64 m,.sl false 0 false 11 (Ops.enc O l),.sl false 0 false 2 (O.o (Nms.enc O) ds),.sl false 0 false 4 (O.o (Chs.enc O) ns)]
def Ops.enc (O:Opq):List Opn→List (List PV)
 | []=>[]
 | o::l=>o.enc O::Ops.enc O l
end
theorem Ops.enc_map (O:Opq):∀ l:List Opn,Ops.enc O l=l.map (Opn.enc O)
 | []=>by simp [Ops.enc]
 | c::l=>by rw[Ops.enc,Ops.enc_map O l];rfl
theorem Ops.len (O:Opq) (l:List Opn):(O.o (Ops.enc O) l).length=l.length:=by rw[O.h,Ops.enc_map];simp
def Opn.en (O:Opq) (o:Opn):List PV:=[.int .i64 o.kind,.str o.key,.str o.to,.sl false 0 false 6 (O.o Doc.enc o.doc),.sl false 0 false 6 (O.o Doc.enc o.want),.bool o.has,.int .i64 o.n,.int .i64 o.most,.sl false 0 false 11 (O.o (Ops.enc O) o.list),.sl false 0 false 2 (O.o (Nms.enc O) o.docs),.sl false 0 false 4 (O.o (Chs.enc O) o.news)]
theorem Opn.en_eq (O:Opq) (o:Opn):o.enc O=o.en O:=by
 obtain⟨k,key,to,d,w,h,n,m,l,ds,ns⟩:=o
 rw[Opn.enc,Opn.en,O.h (Ops.enc O)];rfl
theorem Ops.en_eq (O:Opq) (l:List Opn):Ops.enc O l=l.map (Opn.en O):=by
 rw[Ops.enc_map];exact List.map_congr_left fun c _=>Opn.en_eq O c
def okN (l:List Ndoc) (i:Nat):Prop:=∃ n,l[i]?=some n∧isKey n.key=true∧may n.doc=true∧(0<i→∃ g,l[i-1]?=some g∧slt g.key n.key)
open Classical in
noncomputable def docsOk (l:List Ndoc):Bool:=decide (∀ i,i<l.length→okN l i)
noncomputable def docsErr (l:List Ndoc):Int:=if docsOk l=true then 0 else 1
theorem docsErr_zero {l:List Ndoc}:docsErr l=0 ↔ docsOk l=true:=by rw[docsErr];split<;>simp_all
theorem okN_iff {l:List Ndoc} {k:Nat} {x:Ndoc} (h:l[k]?=some x):okN l k ↔ isKey x.key=true∧may x.doc=true∧(0<k→∃ g,l[k-1]?=some g∧slt g.key x.key):=by
 simp only [okN,h,Option.some.injEq]
 exact⟨fun⟨f,e,k⟩=>by subst e;exact k,fun k=>⟨x,rfl,k⟩⟩
theorem docsOk_bad {l:List Ndoc} {i:Nat} {x:Ndoc} (hx:l[i]?=some x) (h:¬ (isKey x.key=true∧may x.doc=true∧(0<i→∃ g,l[i-1]?=some g∧slt g.key x.key))):docsOk l=false:=by
 simp only [docsOk,decide_eq_false_iff_not]
 exact fun k=>h ((okN_iff hx).1 (k i (List.getElem?_eq_some_iff.1 hx).1))
theorem docsOk_good {l:List Ndoc} (h:∀ i,i<l.length→okN l i):docsOk l=true:=by
 simp only [docsOk,decide_eq_true_eq];exact h
theorem okN_step {l:List Ndoc} {k:Nat} (h:∀ j,j<k→okN l j) (hk:okN l k):∀ j,j<k+1→okN l j:=fun j hj=>by
 by_cases e:j=k
 ·subst e;exact hk
 ·exact h j (by omega)
theorem docsOk_iff {l:List Ndoc}:docsOk l=true ↔ (∀ n∈l,isKey n.key=true∧may n.doc=true)∧sortedK Ndoc.key l:=by
 constructor
 ·intro h
  simp only [docsOk,decide_eq_true_eq] at h
  constructor
  ·intro n hn
   obtain⟨i,hi,rfl⟩:=List.getElem_of_mem hn
   have:=(okN_iff (l:=l) (k:=i) (x:=l[i]) (by simp)).1 (h i hi)
   exact⟨this.1,this.2.1⟩
  ·refine List.pairwise_iff_getElem.2 fun i j hi hj hij=>?_
   have step:∀ n:Nat,∀ k,i+1+n=k→∀ hk:k<l.length,slt l[i].key l[k].key:=by
    intro n
    induction n with
    | zero =>
     intro k e hk
     subst e
     obtain⟨g,hg,hs⟩:=((okN_iff (x:=l[i+1]) (by simp)).1 (h (i+1) hk)).2.2 (by omega)
     rw[show i+1-1=i by omega,List.getElem?_eq_getElem hi] at hg
     cases hg;exact hs
    | succ n ih =>
     intro k e hk
     have h1:=ih (k-1) (by omega) (by omega)
     obtain⟨g,hg,hs⟩:=((okN_iff (x:=l[k]) (by simp)).1 (h k hk)).2.2 (by omega)
     rw[List.getElem?_eq_getElem (by omega)] at hg
     cases hg
     exact slt_trans h1 hs
   exact step (j-i-1) j (by omega) hj
 ·rintro ⟨h1,h2⟩
  refine docsOk_good fun i hi=>(okN_iff (x:=l[i]) (by simp)).2 ⟨(h1 _ (List.getElem_mem hi)).1,(h1 _ (List.getElem_mem hi)).2,fun h0=>⟨l[i-1],by simp,?_⟩⟩
  exact List.pairwise_iff_getElem.1 h2 (i-1) i (by omega) hi (by omega)
theorem Named.atI {α:Type} {x:Unit→α} {K:α→Prop} (v:α) (h:v=x ()) (k:K v):Named α x K:=.mk fun n e=>by rw[e,← h];exact k
def lessP (p q:PairK):Prop:=slt p.key q.key∨(p.key=q.key∧slt p.val q.val)
def ordI (p q:PairK):Int:=if cmpS p.key q.key=0 then cmpS p.val q.val else cmpS p.key q.key
theorem ordI_lt {p q:PairK}:ordI p q<0 ↔ lessP p q:=by
 unfold ordI lessP
 by_cases h:cmpS p.key q.key=0
 ·rw[if_pos h,cmpS_lt]
  have e:=cmpS_eq.1 h
  constructor
  ·intro k;exact .inr ⟨e,k⟩
  ·rintro (k | ⟨_,k⟩)
   ·exact absurd e (slt_ne k)
   ·exact k
 ·rw[if_neg h,cmpS_lt]
  constructor
  ·exact .inl
  ·rintro (k | ⟨k,_⟩)
   ·exact k
   ·exact absurd (cmpS_eq.2 k) h
def mayP (l:List PairK):Prop:=∀ (i:Nat) x y,l[i]?=some x→l[i+1]?=some y→lessP x y
open Classical in
noncomputable def mayPb (l:List PairK):Bool:=decide (mayP l)
open Classical in
theorem mayPb_iff {l:List PairK}:mayPb l=true ↔ mayP l:=by rw[mayPb,decide_eq_true_eq]
def mayTo (l:List PairK) (n:Nat):Prop:=∀ (i:Nat) x y,i+1<n→l[i]?=some x→l[i+1]?=some y→lessP x y
theorem mayTo_zero (l:List PairK):mayTo l 0:=fun i x y h=>by omega
theorem mayTo_one (l:List PairK):mayTo l 1:=fun i x y h=>by omega
theorem mayTo_step {l:List PairK} {n:Nat} {x y:PairK} (h:mayTo l (n+1)) (hx:l[n]?=some x) (hy:l[n+1]?=some y) (hl:lessP x y):mayTo l (n+2):=fun i a b hi ha hb=>by
 by_cases e:i=n
 ·subst e;rw[hx] at ha;rw[hy] at hb;cases ha;cases hb;exact hl
 ·exact h i a b (by omega) ha hb
theorem mayP_end {l:List PairK} {n:Nat} (h:mayTo l n) (hn:l.length≤n):mayP l:=fun i x y hx hy=>h i x y (by have:=(List.getElem?_eq_some_iff.1 hy).1;omega) hx hy
theorem mayP_no {l:List PairK} {n:Nat} {x y:PairK} (hx:l[n]?=some x) (hy:l[n+1]?=some y) (hl:¬ lessP x y):¬ mayP l:=fun h=>hl (h n x y hx hy)
open Classical in
noncomputable def stepF (f t : ByteArray) (m : Int) (acc : List PairK) (p : PairK) : List PairK := if ¬ slt p.key f ∧ (t = ByteArray.empty ∨ slt p.key t) ∧ (acc.length : Int) < m then acc ++ [p] else acc
noncomputable def findP (f t:ByteArray) (m:Int) (l:List PairK):List PairK:=l.foldl (stepF f t m) []
noncomputable def findK (f t:ByteArray) (m:Int) (l:List PairK) (n:Nat):List PairK:=findP f t m (l.take n)
theorem findK_zero (f t:ByteArray) (m:Int) (l:List PairK):findK f t m l 0=[]:=rfl
theorem findK_step {f t:ByteArray} {m:Int} {l:List PairK} {n:Nat} {p:PairK} (h:l[n]?=some p):findK f t m l (n+1)=stepF f t m (findK f t m l n) p:=by
 rw[findK,findP,List.take_add_one,h,List.foldl_append]
 rfl
theorem findK_end {f t:ByteArray} {m:Int} {l:List PairK} {n:Nat} (h:l.length≤n):findK f t m l n=findP f t m l:=by rw[findK,List.take_of_length_le h]
theorem findK_len (f t:ByteArray) (m:Int) (l:List PairK):∀ n,(findK f t m l n).length≤n
 | 0=>by simp [findK_zero]
 | n+1=>by
  have ih:=findK_len f t m l n
  cases h:l[n]? with
  | none =>
   have:=List.getElem?_eq_none_iff.1 h
   rw[findK_end (by omega),← findK_end (n:=n) this];omega
  | some p =>
   rw[findK_step h,stepF]
   split
   ·simp;omega
   ·omega
instance:Inhabited PairK:=⟨⟨ByteArray.empty,ByteArray.empty⟩⟩
def ltP (p q:PairK):Bool:=decide (ordI p q<0)
theorem ltP_iff {p q:PairK}:ltP p q=true ↔ lessP p q:=by rw[ltP,decide_eq_true_eq,ordI_lt]
theorem ltP_no {p q:PairK}:ltP p q=false ↔ ¬ lessP p q:=by rw[← ltP_iff];cases ltP p q<;>simp
theorem lessP_irrefl (p:PairK):¬ lessP p p:=by
 rintro (h | ⟨_,h⟩)
 ·exact slt_irrefl _ h
 ·exact slt_irrefl _ h
theorem lessP_trans {p q r:PairK} (h:lessP p q) (k:lessP q r):lessP p r:=by
 rcases h with h | ⟨e,h⟩
 ·rcases k with k | ⟨f,k⟩
  ·exact .inl (slt_trans h k)
  ·exact .inl (f ▸ h)
 ·rcases k with k | ⟨f,k⟩
  ·exact .inl (e ▸ k)
  ·exact .inr ⟨e.trans f,slt_trans h k⟩
theorem lessP_tri (p q:PairK):lessP p q∨p=q∨lessP q p:=by
 rcases slt_tri p.key q.key with h|h|h
 ·exact .inl (.inl h)
 ·rcases slt_tri p.val q.val with k|k|k
  ·exact .inl (.inr ⟨h,k⟩)
  ·right;left;cases p;cases q;simp_all
  ·exact .inr (.inr (.inr ⟨h.symm,k⟩))
 ·exact .inr (.inr (.inl h))
theorem ltP_swo:Go.Sort.SWO ltP where
 irrefl x:=ltP_no.2 (lessP_irrefl x)
 trans x y z h k:=ltP_iff.2 (lessP_trans (ltP_iff.1 h) (ltP_iff.1 k))
 ntrans x y z h k:=ltP_no.2 fun q=>by
  have h:=ltP_no.1 h
  have k:=ltP_no.1 k
  rcases lessP_tri x y with a|a|a
  ·exact h a
  ·subst a;exact k q
  ·exact k (lessP_trans a q)
def arrE (d:Array PairK):List (List PV):=Prs.enc d.toList
theorem arrE_len (O:Opq) (d:Array PairK):(O.o arrE d).length=d.size:=by rw[O.h,arrE,Prs.enc,List.length_map,Array.length_toList]
theorem arrE_at (O:Opq) (d:Array PairK) {i:Nat} (h:i<d.size):(O.o arrE d)[i]?=some (d[i]!).enc:=by
 rw[O.h,arrE,Prs.enc,List.getElem?_map,Array.getElem?_toList,Array.getElem?_eq_getElem h]
 simp [h]
theorem Ex.arr (O:Opq) {d:Array PairK} {k:Nat} {x:PairK} (hk:k<d.size) (hx:x=d[k]!) {i:Int} {K:List PV→Prop} (hi:i=k) (h:K x.enc):Ex (List PV) (fun row=>0≤i∧(O.o arrE d)[i.toNat]?=some row) K :=
 .mk x.enc ⟨by omega,by rw[hi,Int.toNat_natCast,hx];exact arrE_at O d hk⟩ h
theorem arrE_swp (O:Opq) (d:Array PairK) {i j:Nat} (hi:i<d.size) (hj:j<d.size):((O.o arrE d).set i (d[j]!).enc).set j (d[i]!).enc=O.o arrE (Go.Sort.swp d i j):=by
 simp only [O.h,arrE,Prs.enc,Go.Sort.swp,Array.toList_setIfInBounds,List.map_set]
theorem Ex.swp (O:Opq) {d:Array PairK} {j:Nat} {y:PairK} (hj:j<d.size) (hy:y=d[j]!) {R:List (List PV)} {n:Nat} {w:List PV} (hR:R=(O.o arrE d).set n w) (hw:w=y.enc) {k:Int} {K:List PV→Prop} (hk:k=j) (h:K y.enc):Ex (List PV) (fun row=>0≤k∧R[k.toNat]?=some row) K :=
 .mk y.enc ⟨by omega,by
  rw[hk,Int.toNat_natCast,hR,List.getElem?_set,arrE_at O d hj,← hy,hw,arrE_len]
  split
  ·rename_i e;subst e;rw[if_pos hj]
  ·rfl⟩ h
theorem swp_rows (O:Opq) {d:Array PairK} {i j:Nat} {x y:PairK} (hi:i<d.size) (hj:j<d.size) (hx:x=d[i]!) (hy:y=d[j]!) {R R':List (List PV)} {n m:Nat} {v w:List PV} (hR:R=(O.o arrE d).set n w) (hR':R'=R.set m v) (hw:w=y.enc) (hv:v=x.enc) (hn:n=i) (hm:m=j):R'=O.o arrE (Go.Sort.swp d i j):=by
 rw[hR',hR,hw,hv,hn,hm,hx,hy];exact arrE_swp O d hi hj
theorem swp_size (d:Array PairK) (i j:Nat):(Go.Sort.swp d i j).size=d.size:=by simp [Go.Sort.swp]
theorem cmpOr_fn (O:Opq) (a b:Int):Fn prog 59 [.sl true 0 false 1 [[.int .i64 a],[.int .i64 b]]] [] [.int .i64 (if a=0 then b else a)] []:=by
 obtain⟨V,eC⟩:∃ V,V=if a=0 then b else a:=⟨_,rfl⟩
 have c1:a=0→V=b:=fun h=>by rw[eC,if_pos h]
 have c2:¬ a=0→V=a:=fun h=>by rw[eC,if_neg h]
 rw[← eC]
 clear eC
 obtain⟨z,hz⟩:∃ z:Nat,z=0:=⟨_,rfl⟩
 refine go (fn:=Proofs.Tryz.f59) (n:=17) (rv:=[ResultVar.tmp 2]) rfl (by decide) rfl (by decide +kernel) rfl rfl (by simp) fun F L C=>?_
 cbv
 (repeat' first|(refine Named.atI (2:Int) rfl ?_;cbv))
 refine LoopThen.mk (C.loopAt (ι:=Nat) [(2,2),(5,5),(8,16)] (fun k=>[(3,.int .i64 0),(8,.int .i64 k)]) (fun _=>[]) (fun k=>k≤2∧(1≤k→a=0)∧(2≤k→b=0)) (fun k=>2-k) (by decide +kernel) (Start.mk z [] [] ⟨by omega,by omega,by omega⟩ (by cbv;(repeat' apply And.intro)<;>first|exact True.intro|exact WkR.refl _|rfl|lia)) ?_)
 intro k g
 have g1:k≤2:=g.1
 have g2:1≤k→a=0:=g.2.1
 have g3:2≤k→b=0:=g.2.2
 clear g
 match k,g1,g2,g3 with
 | 0,_,_,_ =>
  cbv
  (repeat' first|(refine Na ?_ fun _ _=>?_;(focus lia);cbv)|(refine Ex.mk [.int .i64 a] ⟨by decide,rfl⟩ ?_;cbv)|(refine Back.up [] [] ?_ ?_ fun _ _=>?_;rotate_left 2;cbv;refine And.intro ?_ ?_)|(refine Br.t ?_ ?_;(focus first|assumption|lia);cbv)|(refine Br.mk (fun _=>?_) (fun _=>?_)<;>cbv)|(refine R0 ?_;cbv))
  all_goals first
   | exact⟨c2 (by assumption),trivial⟩
   | exact⟨(c2 (by assumption)).symm,trivial⟩
   | exact⟨by decide,fun _=>by assumption,fun h=>absurd h (by decide)⟩
   | ((repeat' apply And.intro)<;>first|exact True.intro|exact WkR.refl _|(clear c1 c2;lia))
   | (exfalso;clear c1 c2;lia)
   | trace_state
 | 1,_,g2,_ =>
  have g2:=g2 (by decide)
  cbv
  (repeat' first|(refine Na ?_ fun _ _=>?_;(focus lia);cbv)|(refine Ex.mk [.int .i64 b] ⟨by decide,rfl⟩ ?_;cbv)|(refine Back.up [] [] ?_ ?_ fun _ _=>?_;rotate_left 2;cbv;refine And.intro ?_ ?_)|(refine Br.t ?_ ?_;(focus first|assumption|lia);cbv)|(refine Br.mk (fun _=>?_) (fun _=>?_)<;>cbv)|(refine R0 ?_;cbv))
  all_goals first
   | exact⟨c1 g2,trivial⟩
   | exact⟨(c1 g2).symm,trivial⟩
   | exact⟨by decide,fun _=>g2,fun _=>by assumption⟩
   | ((repeat' apply And.intro)<;>first|exact True.intro|exact WkR.refl _|(clear c1 c2;lia))
   | (exfalso;clear c1 c2;lia)
   | trace_state
 | 2,_,g2,g3 =>
  have g2:=g2 (by decide)
  have g3:=g3 (by decide)
  have c3:V=0:=(c1 g2).trans g3
  cbv
  (repeat' first|(refine Br.f ?_ ?_;(focus first|assumption|lia);cbv)|(refine R0 ?_;cbv))
  all_goals first
   | exact⟨c3,trivial⟩
   | exact⟨c3.symm,trivial⟩
   | (exfalso;lia)
   | trace_state
theorem order_fn (O:Opq) (p q:PairK):Fn prog 35 [.agg p.enc,.agg q.enc] [] [.int .i64 (O.o (ordI p) q)] []:=by
 obtain⟨a,b⟩:=p
 obtain⟨c,d⟩:=q
 have k1:=cmp_fn O a c
 have k2:=cmp_fn O b d
 have h:O.o (ordI ⟨a,b⟩) ⟨c,d⟩=if cmpS a c=0 then cmpS b d else cmpS a c:=by rw[O.h];rfl
 rw[O.h] at k1 k2
 have k3:=cmpOr_fn O (cmpS a c) (cmpS b d)
 rw[← h] at k3
 obtain⟨R,hR⟩:∃ R,R=O.o (ordI ⟨a,b⟩) ⟨c,d⟩:=⟨_,rfl⟩
 obtain⟨A,hA⟩:∃ R,R=cmpS a c:=⟨_,rfl⟩
 obtain⟨B,hB⟩:∃ R,R=cmpS b d:=⟨_,rfl⟩
 rw[← hR] at k3 ⊢
 rw[← hA] at k1 k3
 rw[← hB] at k2 k3
 clear h hR hA hB
 refine go (fn:=Proofs.Tryz.f35) (n:=15) (rv:=[ResultVar.tmp 4]) rfl (by decide) rfl (by decide +kernel) rfl rfl (by simp) fun F L C=>?_
 cbv
 (repeat' first|(refine CallThen.mk _ _ (C.fn (k1)) ?_;cbv)|(refine CallThen.mk _ _ (C.fn (k2)) ?_;cbv)|(refine CallThen.mk _ _ (C.fn (Fn.wkA (k3) ?_)) ?_;(focus((repeat' apply WkAL.cons)<;>first|exact WkAL.nil|exact WkA.refl _|exact WkA.lend rfl|exact WkA.bor rfl (WkR.refl _)|exact WkA.wk (Wk.nil _ _)|exact WkA.wk (Wk.sl' rfl rfl (WkR.refl _))|(refine WkA.agg' ?_;((repeat' apply WkAL.cons)<;>first|exact WkAL.nil|exact WkA.refl _|exact WkA.lend rfl|exact WkA.bor rfl (WkR.refl _)|exact WkA.wk (Wk.nil _ _)|exact WkA.wk (Wk.sl' rfl rfl (WkR.refl _))|(refine WkA.agg' ?_;((repeat' apply WkAL.cons)<;>first|exact WkAL.nil|exact WkA.refl _|exact WkA.lend rfl|exact WkA.bor rfl (WkR.refl _)|exact WkA.wk (Wk.nil _ _)|exact WkA.wk (Wk.sl' rfl rfl (WkR.refl _))))))));cbv)|(refine R0 ?_;cbv))
 all_goals first
  | exact⟨rfl,trivial⟩
  | trace_state
open Go.Sort (swp insInner insOuter insertionSort)
theorem insInner_yes {a j:Nat} {e:Array PairK} (h:a<j) (k:ordI e[j]! e[j-1]!<0):insInner ltP a j e=insInner ltP a (j-1) (swp e j (j-1)):=by
 cases j with
 | zero=>omega
 | succ m =>
  have k:ltP e[m+1]! e[m]! = true:=by rw[ltP,decide_eq_true_eq];exact k
  rw[insInner,k]
  simp [h]
theorem insInner_no {a j:Nat} {e:Array PairK} (k:a<j→¬ ordI e[j]! e[j-1]!<0):insInner ltP a j e=e:=by
 cases j with
 | zero=>rfl
 | succ m =>
  rw[insInner]
  by_cases h:a<m+1
  ·have k:ltP e[m+1]! e[m]! = false:=by rw[ltP,decide_eq_false_iff_not];exact k h
   rw[k];simp
  ·rw[if_neg (by simp;omega)]
theorem insInner_size {a:Nat}:∀ {j:Nat} {e:Array PairK},(insInner ltP a j e).size=e.size
 | 0,_=>rfl
 | j+1,e=>by
  rw[insInner]
  split
  ·rw[insInner_size,swp_size]
  ·rfl
theorem insertionSort_fn (O:Opq) (d:Array PairK) (a b:Nat) (ai bi:Int) (hai:ai=a) (hbi:bi=b) (hb:b≤d.size) (ha:a≤b) (hd:d.size≤1000000) :
  Fn prog 79 [.ref 0,.int .i64 ai,.int .i64 bi,.fn 35 [] []] [.arr 0 none 2 (O.o arrE d)] [] [.arr 0 none 2 (O.o arrE (insertionSort ltP d a b))]:=by
 obtain⟨R,hR⟩:∃ R,R=insertionSort ltP d a b:=⟨_,rfl⟩
 rw[← hR]
 have hR:insOuter ltP a b (a+1) d=R:=hR.symm
 obtain⟨z,hz⟩:∃ z:Nat×Array PairK,z=(a+1,d):=⟨_,rfl⟩
 obtain⟨n,hn⟩:∃ n,n=d.size:=⟨_,rfl⟩
 have z1:z.1=a+1:=by rw[hz]
 have z2:z.2=d:=by rw[hz]
 have hz0:a+1≤z.1∧z.2.size=n∧insOuter ltP a b z.1 z.2=R:=by rw[hz];exact⟨Nat.le_refl _,hn.symm,hR⟩
 have hb:b≤n:=by omega
 have hd:n≤1000000:=by omega
 clear hz hR hn
 have z2:O.o arrE d=O.o arrE z.2:=by rw[z2]
 obtain⟨Z,hZ⟩:∃ Z,Z=O.o arrE d:=⟨_,rfl⟩
 rw[← hZ] at z2 ⊢
 clear hZ
 refine go (fn:=Proofs.Tryz.f79) (n:=49) (rv:=[]) rfl (by decide) rfl (by decide +kernel) rfl rfl (by simp) fun F L C=>?_
 cbv
 (repeat' first|(refine Na ?_ fun _ _=>?_;(focus lia);cbv))
 refine LoopThen.mk (C.loopAt (ι:=Nat×Array PairK) [(8,9),(12,52)] (fun x=>[(8,.int .i64 x.1)]) (fun x=>[(0,.arr 0 none 2 (O.o arrE x.2))])
  (fun x=>a+1≤x.1∧x.2.size=n∧insOuter ltP a b x.1 x.2=R) (fun x=>b-x.1) (by decide +kernel) (Start.mk z [] [] hz0 ?_) ?_)
 ·cbv
  (repeat' apply And.intro)<;>first|exact True.intro|exact WkR.refl _|exact WkR.of_eq z2.symm|rfl|(clear hz0 z2;lia)|trace_state
 intro x g
 cbv
 clear hz0 z2 z1
 obtain⟨i,e⟩:=x
 have g1:a+1≤i:=g.1
 have g2:e.size=n:=g.2.1
 have g3:insOuter ltP a b i e=R:=g.2.2
 clear g
 by_cases hib:i<b
 ·obtain⟨E,hE⟩:∃ E,E=insInner ltP a i e:=⟨_,rfl⟩
  have hE2:E.size=n:=by rw[hE,insInner_size,g2]
  have g4:insOuter ltP a b (i+1) E=R:=by rw[insOuter,if_pos hib,← hE] at g3;exact g3
  obtain⟨y0,hy0⟩:∃ y:Nat×Array PairK,y=(i,e):=⟨_,rfl⟩
  have y1:y0.1=i:=by rw[hy0]
  have y2:O.o arrE e=O.o arrE y0.2:=by rw[hy0]
  have hy:a≤y0.1∧y0.1≤i∧y0.2.size=n∧insInner ltP a y0.1 y0.2=E:=by rw[hy0];exact⟨by omega,Nat.le_refl _,g2,hE.symm⟩
  clear hy0 hE g3
  (repeat' first|(refine Br.t ?_ ?_;(focus first|assumption|lia);cbv))
  refine LoopThen.mk (C.loopAt (ι:=Nat×Array PairK) [(9,9),(18,52)] (fun y=>[(9,.int .i64 y.1)]) (fun y=>[(0,.arr 0 none 2 (O.o arrE y.2))])
   (fun y=>a≤y.1∧y.1≤i∧y.2.size=n∧insInner ltP a y.1 y.2=E) (fun y=>y.1) (by decide +kernel) (Start.mk y0 [] [] hy ?_) ?_)
  ·cbv
   (repeat' apply And.intro)<;>first|exact True.intro|exact WkR.refl _|exact WkR.of_eq y2.symm|rfl|(clear hy y2 g4;lia)|trace_state
  clear hy y1 y2 g2
  intro y g
  cbv
  obtain⟨j,f⟩:=y
  have q1:a≤j:=g.1
  have q2:j≤i:=g.2.1
  have q3:f.size=n:=g.2.2.1
  have q4:insInner ltP a j f=E:=g.2.2.2
  clear g
  by_cases hj:a<j
  ·obtain⟨x,hx⟩:∃ x,x=f[j]!:=⟨_,rfl⟩
   obtain⟨y,hy⟩:∃ y,y=f[j-1]!:=⟨_,rfl⟩
   have kc:=order_fn O x y
   have hno:¬ O.o (ordI x) y<0→f=E:=fun h=>by rw[← q4,insInner_no];intro _;rwa [O.h,hx,hy] at h
   have hyes:O.o (ordI x) y<0→insInner ltP a (j-1) (swp f j (j-1))=E:=fun h=>by rw[← q4,insInner_yes hj];rwa [O.h,hx,hy] at h
   have hsz:=swp_size f j (j-1)
   have hlen:=arrE_len O f
   obtain⟨S,hS⟩:∃ S,S=O.o (ordI x) y:=⟨_,rfl⟩
   rw[← hS] at kc hno hyes
   have b1:j<f.size:=by omega
   have b2:j-1<f.size:=by omega
   clear hS q4
   obtain⟨xa,xb⟩:=x
   obtain⟨ya,yb⟩:=y
   by_cases hs:S<0
   ·have hyes:=hyes hs
    clear hno g4
    (repeat' first|(refine Na ?_ fun _ _=>?_;(focus lia);cbv)|(refine Ex.arr O b1 hx ?_ ?_;(focus lia);cbv)|(refine Ex.arr O b2 hy ?_ ?_;(focus lia);cbv)|(refine Ex.swp O b2 hy (by assumption) rfl ?_ ?_;(focus lia);cbv)|(refine CallThen.mk _ _ (C.fn (kc)) ?_;cbv)|(refine Back.to (j-1,swp f j (j-1)) [] [] ?_ fun _ _=>?_;rotate_left;cbv)|(refine Nl fun _ _ hq=>?_;(try simp only [lenS] at hq);cbv)|(refine Nm fun _ _=>?_;cbv)|(refine Br.t ?_ ?_;(focus first|assumption|lia);cbv)|(refine Need.mk ?_ ?_;rotate_left;cbv))
    all_goals first
     | (rename_i y' hy';subst hy';refine⟨WkR.of_eq (swp_rows O b1 b2 hx hy (by assumption) (by assumption) rfl rfl (by lia) (by lia)).symm,?_,trivial⟩;clear hx hy kc hyes;lia)
     | exact⟨⟨by omega,by omega,by rw[hsz];exact q3,hyes⟩,by show j-1<j;omega⟩
     | (clear hx hy kc hyes;lia)
     | trace_state
   ·have hno:=hno hs
    subst hno
    clear hyes
    (repeat' first|(refine Na ?_ fun _ _=>?_;(focus lia);cbv)|(refine Ex.arr O b1 hx ?_ ?_;(focus lia);cbv)|(refine Ex.arr O b2 hy ?_ ?_;(focus lia);cbv)|(refine CallThen.mk _ _ (C.fn (kc)) ?_;cbv)|(refine Back.to (i+1,f) [] [] ?_ fun _ _=>?_;rotate_left;cbv)|(refine Nm fun _ _=>?_;cbv)|(refine Br.t ?_ ?_;(focus first|assumption|lia);cbv)|(refine Br.f ?_ ?_;(focus first|assumption|lia);cbv)|(refine Need.mk ?_ ?_;rotate_left;cbv))
    all_goals first
     | (rename_i y' hy';subst hy';refine⟨WkR.refl _,?_,trivial⟩;clear hx hy kc g4;lia)
     | exact⟨⟨by omega,q3,g4⟩,by show b-(i+1)<b-i;omega⟩
     | (clear hx hy kc g4;lia)
     | trace_state
  ·have hno:f=E:=by rw[← q4,insInner_no];intro h;exact absurd h hj
   subst hno
   clear q4
   (repeat' first|(refine Na ?_ fun _ _=>?_;(focus lia);cbv)|(refine Back.to (i+1,f) [] [] ?_ fun _ _=>?_;rotate_left;cbv)|(refine Br.f ?_ ?_;(focus first|assumption|lia);cbv))
   all_goals first
    | (rename_i y' hy';subst hy';refine⟨WkR.refl _,?_,trivial⟩;clear g4;lia)
    | exact⟨⟨by omega,q3,g4⟩,by show b-(i+1)<b-i;omega⟩
    | (clear g4;lia)
    | trace_state
 ·have hE:e=R:=by rw[insOuter,if_neg hib] at g3;exact g3
  subst hE
  clear g3
  (repeat' first|(refine Br.f ?_ ?_;(focus first|assumption|lia);cbv)|(refine R0 ?_;cbv))
  all_goals first
   | exact⟨.refl _,trivial⟩
   | exact .refl _
   | lia
   | trace_state
open Go.Sort (swp reverseLoop reverseRange siftDown heapBuild heapPop heapSort)
theorem reverseRange_fn (O:Opq) (d:Array PairK) (a b:Nat) (ai bi:Int) (hai:ai=a) (hbi:bi=b) (hb:b≤d.size) (ha:1≤b) (hd:d.size≤1000000) :
  Fn prog 83 [.ref 0,.int .i64 ai,.int .i64 bi,.fn 35 [] []] [.arr 0 none 2 (O.o arrE d)] [] [.arr 0 none 2 (O.o arrE (reverseRange d a b))]:=by
 obtain⟨R,hR⟩:∃ R,R=reverseRange d a b:=⟨_,rfl⟩
 rw[← hR]
 have hR:reverseLoop a (b-1) d=R:=hR.symm
 obtain⟨z,hz⟩:∃ z:Nat×Nat×Array PairK,z=(a,b-1,d):=⟨_,rfl⟩
 obtain⟨n,hn⟩:∃ n,n=d.size:=⟨_,rfl⟩
 have z1:z.1=a:=by rw[hz]
 have z3:z.2.1=b-1:=by rw[hz]
 have z2:O.o arrE d=O.o arrE z.2.2:=by rw[hz]
 have hz0:z.2.1<n∧z.2.2.size=n∧reverseLoop z.1 z.2.1 z.2.2=R:=by rw[hz];exact⟨by dsimp only;omega,hn.symm,hR⟩
 have hb:b≤n:=by omega
 have hd:n≤1000000:=by omega
 clear hz hR hn
 obtain⟨Z,hZ⟩:∃ Z,Z=O.o arrE d:=⟨_,rfl⟩
 rw[← hZ] at z2 ⊢
 clear hZ
 refine go (fn:=Proofs.Tryz.f83) (n:=30) (rv:=[]) rfl (by decide) rfl (by decide +kernel) rfl rfl (by simp) fun F L C=>?_
 cbv
 (repeat' first|(refine Na ?_ fun _ _=>?_;(focus lia);cbv))
 refine LoopThen.mk (C.loopAt (ι:=Nat×Nat×Array PairK) [(8,9),(13,33)] (fun x=>[(8,.int .i64 x.1),(9,.int .i64 x.2.1)]) (fun x=>[(0,.arr 0 none 2 (O.o arrE x.2.2))])
  (fun x=>x.2.1<n∧x.2.2.size=n∧reverseLoop x.1 x.2.1 x.2.2=R) (fun x=>x.2.1-x.1) (by decide +kernel) (Start.mk z [] [] hz0 ?_) ?_)
 ·cbv
  (repeat' apply And.intro)<;>first|exact True.intro|exact WkR.refl _|exact WkR.of_eq z2.symm|rfl|(clear hz0 z2;lia)|trace_state
 intro x g
 obtain⟨i,j,e⟩:=x
 cbv
 clear hz0 z2 z1 z3
 have g1:j<n:=g.1
 have g2:e.size=n:=g.2.1
 have g3:reverseLoop i j e=R:=g.2.2
 clear g
 by_cases hij:i<j
 ·have g4:reverseLoop (i+1) (j-1) (swp e i j)=R:=by rw[reverseLoop,if_pos hij] at g3;exact g3
  obtain⟨x,hx⟩:∃ x,x=e[i]!:=⟨_,rfl⟩
  obtain⟨y,hy⟩:∃ y,y=e[j]!:=⟨_,rfl⟩
  have b1:i<e.size:=by omega
  have b2:j<e.size:=by omega
  have hsz:=swp_size e i j
  have hlen:=arrE_len O e
  clear g3
  obtain⟨xa,xb⟩:=x
  obtain⟨ya,yb⟩:=y
  (repeat' first|(refine Na ?_ fun _ _=>?_;(focus lia);cbv)|(refine Ex.arr O b1 hx ?_ ?_;(focus lia);cbv)|(refine Ex.arr O b2 hy ?_ ?_;(focus lia);cbv)|(refine Ex.swp O b2 hy (by assumption) rfl ?_ ?_;(focus lia);cbv)|(refine Back.to (i+1,j-1,swp e i j) [] [] ?_ fun _ _=>?_;rotate_left;cbv)|(refine Nl fun _ _ hq=>?_;(try simp only [lenS] at hq);cbv)|(refine Nm fun _ _=>?_;cbv)|(refine Br.t ?_ ?_;(focus first|assumption|lia);cbv)|(refine Need.mk ?_ ?_;rotate_left;cbv))
  all_goals first
   | (rename_i y' hy';subst hy';refine⟨WkR.of_eq (swp_rows O b1 b2 hx hy (by assumption) (by assumption) rfl rfl (by lia) (by lia)).symm,?_,?_,trivial⟩<;>(clear hx hy g4;lia))
   | exact⟨⟨by dsimp only;omega,by rw[hsz];exact g2,g4⟩,by dsimp only;omega⟩
   | (clear hx hy g4;lia)
   | trace_state
 ·have hE:e=R:=by rw[reverseLoop,if_neg hij] at g3;exact g3
  subst hE
  clear g3
  (repeat' first|(refine Br.f ?_ ?_;(focus first|assumption|lia);cbv)|(refine R0 ?_;cbv))
  all_goals first
   | exact⟨.refl _,trivial⟩
   | exact .refl _
   | lia
   | trace_state
theorem sift_end {hi first root:Nat} {d:Array PairK} (h:hi≤2 * root+1):siftDown ltP hi first root d=d:=by rw[siftDown,dif_pos h]
theorem sift_child {hi first root c:Nat} {d:Array PairK} (hh:2 * root+1<hi) (hc:(c=2 * root+2∧2 * root+2<hi∧ordI d[first+(2 * root+1)]! d[first+(2 * root+2)]!<0)∨(c=2 * root+1∧(2 * root+2<hi→¬ ordI d[first+(2 * root+1)]! d[first+(2 * root+2)]!<0))) :
  siftDown ltP hi first root d=if ordI d[first+root]! d[first+c]!<0 then siftDown ltP hi first c (swp d (first+root) (first+c)) else d:=by
 rw[siftDown,dif_neg (by omega)]
 rcases hc with ⟨rfl,h1,h2⟩ | ⟨rfl,h1⟩
 ·rw[if_pos (by simp only [Bool.and_eq_true,decide_eq_true_eq,ltP];exact⟨h1,h2⟩),dif_pos h1]
  simp only [ltP,Bool.not_eq_true']
  by_cases h:ordI d[first+root]! d[first+(2 * root+2)]!<0
  ·rw[if_pos h,if_neg (by simpa using h)]
  ·rw[if_neg h,if_pos (by simpa using h)]
 ·rw[if_neg (by simp only [Bool.and_eq_true,decide_eq_true_eq,ltP];exact fun k=>h1 k.1 k.2)]
  simp only [ltP,Bool.not_eq_true']
  by_cases h:ordI d[first+root]! d[first+(2 * root+1)]!<0
  ·rw[if_pos h,if_neg (by simpa using h)]
  ·rw[if_neg h,if_pos (by simpa using h)]
theorem sift_size (hi first:Nat):∀ (m root:Nat) (d:Array PairK),hi-root≤m→(siftDown ltP hi first root d).size=d.size:=by
 intro m
 induction m with
 | zero=>intro root d h;rw[sift_end (by omega)]
 | succ m ih =>
  intro root d h
  by_cases hh:2 * root+1<hi
  ·by_cases h2:2 * root+2<hi∧ordI d[first+(2 * root+1)]! d[first+(2 * root+2)]!<0
   ·rw[sift_child (c:=2 * root+2) hh (.inl ⟨rfl,h2⟩)]
    split
    ·rw[ih _ _ (by omega),swp_size]
    ·rfl
   ·rw[sift_child (c:=2 * root+1) hh (.inr ⟨rfl,fun a b=>h2 ⟨a,b⟩⟩)]
    split
    ·rw[ih _ _ (by omega),swp_size]
    ·rfl
  ·rw[sift_end (by omega)]
set_option maxHeartbeats 4000000 in
theorem siftDown_fn (O:Opq) (d:Array PairK) (lo hi first:Nat) (li hj fi:Int) (hli:li=lo) (hhj:hj=hi) (hfi:fi=first) (hb:first+hi≤d.size) (hd:d.size≤1000000) (hlo:lo≤1000000) :
  Fn prog 110 [.ref 0,.int .i64 li,.int .i64 hj,.int .i64 fi,.fn 35 [] []] [.arr 0 none 2 (O.o arrE d)] [] [.arr 0 none 2 (O.o arrE (siftDown ltP hi first lo d))]:=by
 obtain⟨R,hR⟩:∃ R,R=siftDown ltP hi first lo d:=⟨_,rfl⟩
 rw[← hR]
 obtain⟨z,hz⟩:∃ z:Nat×Array PairK,z=(lo,d):=⟨_,rfl⟩
 obtain⟨n,hn⟩:∃ n,n=d.size:=⟨_,rfl⟩
 have z1:z.1=lo:=by rw[hz]
 have z2:O.o arrE d=O.o arrE z.2:=by rw[hz]
 have hz0:z.1≤1000000∧z.2.size=n∧siftDown ltP hi first z.1 z.2=R:=by rw[hz];exact⟨hlo,hn.symm,hR.symm⟩
 have hb:first+hi≤n:=by omega
 have hd:n≤1000000:=by omega
 clear hz hR hn
 obtain⟨Z,hZ⟩:∃ Z,Z=O.o arrE d:=⟨_,rfl⟩
 rw[← hZ] at z2 ⊢
 clear hZ
 refine go (fn:=Proofs.Tryz.f110) (n:=77) (rv:=[]) rfl (by decide) rfl (by decide +kernel) rfl rfl (by simp) fun F L C=>?_
 cbv
 skip
 refine LoopThen.mk (C.loopAt (ι:=Nat×Array PairK) [(10,11),(13,81)] (fun x=>[(10,.int .i64 x.1)]) (fun x=>[(0,.arr 0 none 2 (O.o arrE x.2))])
  (fun x=>x.1≤1000000∧x.2.size=n∧siftDown ltP hi first x.1 x.2=R) (fun x=>hi-x.1) (by decide +kernel) (Start.mk z [] [] hz0 ?_) ?_)
 ·cbv
  (repeat' apply And.intro)<;>first|exact True.intro|exact WkR.refl _|exact WkR.of_eq z2.symm|rfl|(clear hz0 z2;lia)|trace_state
 intro x g
 obtain⟨root,e⟩:=x
 cbv
 clear hz0 z2 z1
 have g1:root≤1000000:=g.1
 have g2:e.size=n:=g.2.1
 have g3:siftDown ltP hi first root e=R:=g.2.2
 clear g
 by_cases h1:2 * root+1<hi
 ·obtain⟨x,hx⟩:∃ x,x=e[first+root]!:=⟨_,rfl⟩
  have b1:first+root<e.size:=by omega
  have hlen:=arrE_len O e
  by_cases h2:2 * root+2<hi
  ·by_cases h3:O.o (ordI e[first+(2 * root+1)]!) e[first+(2 * root+2)]!<0
   ·have g4:=(sift_child (c:=2 * root+2) h1 (.inl ⟨rfl,h2,by rwa [O.h] at h3⟩)).symm.trans g3
    clear g3
    obtain⟨y,hy⟩:∃ y,y=e[first+(2 * root+2)]!:=⟨_,rfl⟩
    have b2:first+(2 * root+2)<e.size:=by omega
    have kc:=order_fn O x y
    have hno:¬ O.o (ordI x) y<0→e=R:=fun h=>by rw[if_neg (by rwa [← hx,← hy,← congrFun (O.h (ordI x)) y])] at g4;exact g4
    have hyes:O.o (ordI x) y<0→siftDown ltP hi first (2 * root+2) (swp e (first+root) (first+(2 * root+2)))=R:=fun h=>by rw[if_pos (by rwa [← hx,← hy,← congrFun (O.h (ordI x)) y])] at g4;exact g4
    have hsz:=swp_size e (first+root) (first+(2 * root+2))
    obtain⟨S,hS⟩:∃ S,S=O.o (ordI x) y:=⟨_,rfl⟩
    rw[← hS] at kc hno hyes
    clear hS g4
    obtain⟨u,hu⟩:∃ u,u=e[first+(2 * root+1)]!:=⟨_,rfl⟩;rw[← hu,← hy] at h3;have kd:=order_fn O u y;obtain⟨S1,hS1⟩:∃ S,S=O.o (ordI u) y:=⟨_,rfl⟩;rw[← hS1] at kd h3;clear hS1;obtain⟨ua,ub⟩:=u;have b3:first+(2 * root+1)<e.size:=(by omega)
    obtain⟨xa,xb⟩:=x
    obtain⟨ya,yb⟩:=y
    by_cases hs:S<0
    ·have hyes:=hyes hs
     clear hno
     (repeat' first|(refine Na ?_ fun _ _=>?_;(focus lia);cbv)|(refine Ex.arr O b1 hx ?_ ?_;(focus lia);cbv)|(refine Ex.arr O b2 hy ?_ ?_;(focus lia);cbv)|(refine Ex.arr O b3 hu ?_ ?_;(focus lia);cbv)|(refine CallThen.mk _ _ (C.fn (kd)) ?_;cbv)|(refine Ex.swp O b2 hy (by assumption) rfl ?_ ?_;(focus lia);cbv)|(refine CallThen.mk _ _ (C.fn (kc)) ?_;cbv)|(refine Back.to (2 * root+2,swp e (first+root) (first+(2 * root+2))) [] [] ?_ fun _ _=>?_;rotate_left;cbv)|(refine Nl fun _ _ hq=>?_;(try simp only [lenS] at hq);cbv)|(refine Nm fun _ _=>?_;cbv)|(refine Br.t ?_ ?_;(focus first|assumption|lia);cbv)|(refine Br.f ?_ ?_;(focus first|assumption|lia);cbv)|(refine Need.mk ?_ ?_;rotate_left;cbv))
     all_goals first
      | (rename_i y' hy';subst hy';refine⟨WkR.of_eq (swp_rows O b1 b2 hx hy (by assumption) (by assumption) rfl rfl (by lia) (by lia)).symm,?_,trivial⟩;clear hx hy kc hyes hu kd;lia)
      | exact⟨⟨by dsimp only;omega,by rw[hsz];exact g2,hyes⟩,by dsimp only;omega⟩
      | (clear hx hy kc hyes hu kd;lia)
      | trace_state
    ·have hno:=hno hs
     subst hno
     clear hyes
     (repeat' first|(refine Na ?_ fun _ _=>?_;(focus lia);cbv)|(refine Ex.arr O b1 hx ?_ ?_;(focus lia);cbv)|(refine Ex.arr O b2 hy ?_ ?_;(focus lia);cbv)|(refine Ex.arr O b3 hu ?_ ?_;(focus lia);cbv)|(refine CallThen.mk _ _ (C.fn (kd)) ?_;cbv)|(refine CallThen.mk _ _ (C.fn (kc)) ?_;cbv)|(refine Nm fun _ _=>?_;cbv)|(refine Br.t ?_ ?_;(focus first|assumption|lia);cbv)|(refine Br.f ?_ ?_;(focus first|assumption|lia);cbv)|(refine Need.mk ?_ ?_;rotate_left;cbv)|(refine R0 ?_;cbv))
     all_goals first
      | exact⟨.refl _,trivial⟩
      | exact .refl _
      | (clear hx hy kc hu kd;lia)
      | trace_state
   ·have g4:=(sift_child (c:=2 * root+1) h1 (.inr ⟨rfl,fun _=>by rwa [O.h] at h3⟩)).symm.trans g3
    clear g3
    obtain⟨y,hy⟩:∃ y,y=e[first+(2 * root+1)]!:=⟨_,rfl⟩
    have b2:first+(2 * root+1)<e.size:=by omega
    have kc:=order_fn O x y
    have hno:¬ O.o (ordI x) y<0→e=R:=fun h=>by rw[if_neg (by rwa [← hx,← hy,← congrFun (O.h (ordI x)) y])] at g4;exact g4
    have hyes:O.o (ordI x) y<0→siftDown ltP hi first (2 * root+1) (swp e (first+root) (first+(2 * root+1)))=R:=fun h=>by rw[if_pos (by rwa [← hx,← hy,← congrFun (O.h (ordI x)) y])] at g4;exact g4
    have hsz:=swp_size e (first+root) (first+(2 * root+1))
    obtain⟨S,hS⟩:∃ S,S=O.o (ordI x) y:=⟨_,rfl⟩
    rw[← hS] at kc hno hyes
    clear hS g4
    obtain⟨u,hu⟩:∃ u,u=e[first+(2 * root+2)]!:=⟨_,rfl⟩;rw[← hu,← hy] at h3;have kd:=order_fn O y u;obtain⟨S1,hS1⟩:∃ S,S=O.o (ordI y) u:=⟨_,rfl⟩;rw[← hS1] at kd h3;clear hS1;obtain⟨ua,ub⟩:=u;have b3:first+(2 * root+2)<e.size:=(by omega)
    obtain⟨xa,xb⟩:=x
    obtain⟨ya,yb⟩:=y
    by_cases hs:S<0
    ·have hyes:=hyes hs
     clear hno
     (repeat' first|(refine Na ?_ fun _ _=>?_;(focus lia);cbv)|(refine Ex.arr O b1 hx ?_ ?_;(focus lia);cbv)|(refine Ex.arr O b2 hy ?_ ?_;(focus lia);cbv)|(refine Ex.arr O b3 hu ?_ ?_;(focus lia);cbv)|(refine CallThen.mk _ _ (C.fn (kd)) ?_;cbv)|(refine Ex.swp O b2 hy (by assumption) rfl ?_ ?_;(focus lia);cbv)|(refine CallThen.mk _ _ (C.fn (kc)) ?_;cbv)|(refine Back.to (2 * root+1,swp e (first+root) (first+(2 * root+1))) [] [] ?_ fun _ _=>?_;rotate_left;cbv)|(refine Nl fun _ _ hq=>?_;(try simp only [lenS] at hq);cbv)|(refine Nm fun _ _=>?_;cbv)|(refine Br.t ?_ ?_;(focus first|assumption|lia);cbv)|(refine Br.f ?_ ?_;(focus first|assumption|lia);cbv)|(refine Need.mk ?_ ?_;rotate_left;cbv))
     all_goals first
      | (rename_i y' hy';subst hy';refine⟨WkR.of_eq (swp_rows O b1 b2 hx hy (by assumption) (by assumption) rfl rfl (by lia) (by lia)).symm,?_,trivial⟩;clear hx hy kc hyes hu kd;lia)
      | exact⟨⟨by dsimp only;omega,by rw[hsz];exact g2,hyes⟩,by dsimp only;omega⟩
      | (clear hx hy kc hyes hu kd;lia)
      | trace_state
    ·have hno:=hno hs
     subst hno
     clear hyes
     (repeat' first|(refine Na ?_ fun _ _=>?_;(focus lia);cbv)|(refine Ex.arr O b1 hx ?_ ?_;(focus lia);cbv)|(refine Ex.arr O b2 hy ?_ ?_;(focus lia);cbv)|(refine Ex.arr O b3 hu ?_ ?_;(focus lia);cbv)|(refine CallThen.mk _ _ (C.fn (kd)) ?_;cbv)|(refine CallThen.mk _ _ (C.fn (kc)) ?_;cbv)|(refine Nm fun _ _=>?_;cbv)|(refine Br.t ?_ ?_;(focus first|assumption|lia);cbv)|(refine Br.f ?_ ?_;(focus first|assumption|lia);cbv)|(refine Need.mk ?_ ?_;rotate_left;cbv)|(refine R0 ?_;cbv))
     all_goals first
      | exact⟨.refl _,trivial⟩
      | exact .refl _
      | (clear hx hy kc hu kd;lia)
      | trace_state
  ·have g4:=(sift_child (c:=2 * root+1) h1 (.inr ⟨rfl,fun h=>absurd h h2⟩)).symm.trans g3
   clear g3
   obtain⟨y,hy⟩:∃ y,y=e[first+(2 * root+1)]!:=⟨_,rfl⟩
   have b2:first+(2 * root+1)<e.size:=by omega
   have kc:=order_fn O x y
   have hno:¬ O.o (ordI x) y<0→e=R:=fun h=>by rw[if_neg (by rwa [← hx,← hy,← congrFun (O.h (ordI x)) y])] at g4;exact g4
   have hyes:O.o (ordI x) y<0→siftDown ltP hi first (2 * root+1) (swp e (first+root) (first+(2 * root+1)))=R:=fun h=>by rw[if_pos (by rwa [← hx,← hy,← congrFun (O.h (ordI x)) y])] at g4;exact g4
   have hsz:=swp_size e (first+root) (first+(2 * root+1))
   obtain⟨S,hS⟩:∃ S,S=O.o (ordI x) y:=⟨_,rfl⟩
   rw[← hS] at kc hno hyes
   clear hS g4
   have kd:=(rfl:0=0)
   obtain⟨xa,xb⟩:=x
   obtain⟨ya,yb⟩:=y
   by_cases hs:S<0
   ·have hyes:=hyes hs
    clear hno
    (repeat' first|(refine Na ?_ fun _ _=>?_;(focus lia);cbv)|(refine Ex.arr O b1 hx ?_ ?_;(focus lia);cbv)|(refine Ex.arr O b2 hy ?_ ?_;(focus lia);cbv)|(refine Ex.swp O b2 hy (by assumption) rfl ?_ ?_;(focus lia);cbv)|(refine CallThen.mk _ _ (C.fn (kc)) ?_;cbv)|(refine Back.to (2 * root+1,swp e (first+root) (first+(2 * root+1))) [] [] ?_ fun _ _=>?_;rotate_left;cbv)|(refine Nl fun _ _ hq=>?_;(try simp only [lenS] at hq);cbv)|(refine Nm fun _ _=>?_;cbv)|(refine Br.t ?_ ?_;(focus first|assumption|lia);cbv)|(refine Br.f ?_ ?_;(focus first|assumption|lia);cbv)|(refine Need.mk ?_ ?_;rotate_left;cbv))
    all_goals first
     | (rename_i y' hy';subst hy';refine⟨WkR.of_eq (swp_rows O b1 b2 hx hy (by assumption) (by assumption) rfl rfl (by lia) (by lia)).symm,?_,trivial⟩;clear hx hy kc hyes kd;lia)
     | exact⟨⟨by dsimp only;omega,by rw[hsz];exact g2,hyes⟩,by dsimp only;omega⟩
     | (clear hx hy kc hyes kd;lia)
     | trace_state
   ·have hno:=hno hs
    subst hno
    clear hyes
    (repeat' first|(refine Na ?_ fun _ _=>?_;(focus lia);cbv)|(refine Ex.arr O b1 hx ?_ ?_;(focus lia);cbv)|(refine Ex.arr O b2 hy ?_ ?_;(focus lia);cbv)|(refine CallThen.mk _ _ (C.fn (kc)) ?_;cbv)|(refine Nm fun _ _=>?_;cbv)|(refine Br.f ?_ ?_;(focus first|assumption|lia);cbv)|(refine Need.mk ?_ ?_;rotate_left;cbv)|(refine R0 ?_;cbv))
    all_goals first
     | exact⟨.refl _,trivial⟩
     | exact .refl _
     | (clear hx hy kc kd;lia)
     | trace_state
 ·have hE:e=R:=by rw[sift_end (by omega)] at g3;exact g3
  subst hE
  clear g3
  (repeat' first|(refine Na ?_ fun _ _=>?_;(focus lia);cbv)|(refine Br.t ?_ ?_;(focus first|assumption|lia);cbv)|(refine R0 ?_;cbv))
  all_goals first
   | exact⟨.refl _,trivial⟩
   | exact .refl _
   | lia
   | trace_state
theorem PairK.ext' {a b:PairK}:a=b ↔ a.key=b.key∧a.val=b.val:=by
 obtain⟨k,v⟩:=a;obtain⟨k',v'⟩:=b;simp only [PairK.mk.injEq]
theorem Ndoc.ext' {a b:Ndoc}:a=b ↔ a.key=b.key∧a.doc=b.doc:=by
 obtain⟨k,v⟩:=a;obtain⟨k',v'⟩:=b;simp only [Ndoc.mk.injEq]
open Classical in
noncomputable def sameP (a b:List PairK):Bool:=decide (a=b)
theorem sameP_len {a b:List PairK} (h:a.length≠b.length):sameP a b=false:=by
 simp only [sameP,decide_eq_false_iff_not];exact fun e=>h (by rw[e])
theorem sameP_at {a b:List PairK} {k:Nat} (h:a[k]?≠b[k]?):sameP a b=false:=by
 simp only [sameP,decide_eq_false_iff_not];exact fun e=>h (by rw[e])
theorem sameP_all {a b:List PairK} (h:a.length=b.length) (k:∀ j,j<a.length→a[j]?=b[j]?):sameP a b=true:=by
 simp only [sameP,decide_eq_true_eq]
 refine List.ext_getElem? fun j=>?_
 by_cases hj:j<a.length
 ·exact k j hj
 ·rw[List.getElem?_eq_none (by omega),List.getElem?_eq_none (by omega)]
open Go Go.Proofs Go.Proofs.Tryz
set_option maxRecDepth 10000
inductive Cel.In:Cel→Prop
 | mk {k n:Int} {t:ByteArray} {l:List Cel} (hk:inInt k) (hn:inInt n) (ht:inStr t) (hl:l.length≤9223372036854775807) (h:∀ c∈l,c.In):Cel.In (.mk k n t l)
theorem cOp0:prog.cellsOf 69=2:=by decide +kernel
theorem cOp1:prog.cellsOf 9=1:=by decide +kernel
theorem cOp2:prog.cellsOf 38=1:=by decide +kernel
def Ndoc.In (c:Ndoc):Prop:=inStr (c.key)∧((c.doc).length≤9223372036854775807∧∀ y∈c.doc,y.In)
theorem shape_ndoc {n:Nat} {xs:List PV} (h:shape prog n 69 xs):∃ c:Ndoc,WkL (Ndoc.enc Opq.id c) xs∧c.In:=by
 cases n with
 | zero=>exact h.elim
 | succ n =>
  simp only [shape,Tryz.underlying69,List.forall_mem_cons,List.not_mem_nil,false_imp_iff,implies_true,and_true,cOp0,cOp1,cOp2] at h
  obtain⟨hl,h0,h1⟩:=h
  match xs,hl with
  | [x0,x1],_ =>
  obtain⟨a0,e0,i0⟩:=shape_str (xs:=[x0]) h0
  obtain⟨a1,w1,i1⟩:=shape_doc (x:=x1) h1
  cases e0
  exact⟨⟨a0,a1⟩,(WkL.append (WkL.refl [_]) (WkL.cons w1 (WkL.refl []))),⟨i0,i1⟩⟩
theorem shape_ndocs {n:Nat} {x:PV} (h:shape prog n 22 [x]):∃ l:List Ndoc,Wk (.sl false 0 false 2 (l.map (Ndoc.enc Opq.id))) x∧l.length≤9223372036854775807∧∀ c∈l,c.In:=by
 cases n with
 | zero=>exact h.elim
 | succ n =>
  simp only [shape,Tryz.underlying22,cOp0] at h
  rcases h with h | ⟨rows,h,hl,hr⟩
  ·cases h
   exact⟨[],.nil _ _,by simp,by simp⟩
  ·cases h
   obtain⟨l,hw,hll,hi⟩:=rows_wkx (fun r hr=>shape_ndoc hr) hr
   exact⟨l,.sl' rfl rfl hw,by rw[hll];simpa [maxLen] using hl,hi⟩
theorem cOp3:prog.cellsOf 72=2:=by decide +kernel
def PairK.In (c:PairK):Prop:=inStr (c.key)∧inStr (c.val)
theorem shape_pairk {n:Nat} {xs:List PV} (h:shape prog n 72 xs):∃ c:PairK,WkL (PairK.enc c) xs∧c.In:=by
 cases n with
 | zero=>exact h.elim
 | succ n =>
  simp only [shape,Tryz.underlying72,List.forall_mem_cons,List.not_mem_nil,false_imp_iff,implies_true,and_true,cOp3,cOp1] at h
  obtain⟨hl,h0,h1⟩:=h
  match xs,hl with
  | [x0,x1],_ =>
  obtain⟨a0,e0,i0⟩:=shape_str (xs:=[x0]) h0
  obtain⟨a1,e1,i1⟩:=shape_str (xs:=[x1]) h1
  cases e0;cases e1
  exact⟨⟨a0,a1⟩,(WkL.append (WkL.refl [_]) (WkL.refl [_])),⟨i0,i1⟩⟩
theorem shape_pairks {n:Nat} {x:PV} (h:shape prog n 25 [x]):∃ l:List PairK,Wk (.sl false 0 false 2 (l.map (PairK.enc))) x∧l.length≤9223372036854775807∧∀ c∈l,c.In:=by
 cases n with
 | zero=>exact h.elim
 | succ n =>
  simp only [shape,Tryz.underlying25,cOp3] at h
  rcases h with h | ⟨rows,h,hl,hr⟩
  ·cases h
   exact⟨[],.nil _ _,by simp,by simp⟩
  ·cases h
   obtain⟨l,hw,hll,hi⟩:=rows_wkx (fun r hr=>shape_pairk hr) hr
   exact⟨l,.sl' rfl rfl hw,by rw[hll];simpa [maxLen] using hl,hi⟩
def Answer.In (c:Answer):Prop:=inInt (c.code)∧((c.doc).length≤9223372036854775807∧∀ y∈c.doc,y.In)∧((c.docs).length≤9223372036854775807∧∀ y∈c.docs,y.In)∧((c.news).length≤9223372036854775807∧∀ y∈c.news,y.In)∧inInt (c.n)∧inInt (c.total)∧((c.keys).length≤9223372036854775807∧∀ y∈c.keys,y.In)
inductive Opn.In:Opn→Prop
 | mk {c:Opn} (h:inInt (c.kind)∧inStr (c.key)∧inStr (c.to)∧((c.doc).length≤9223372036854775807∧∀ y∈c.doc,y.In)∧((c.want).length≤9223372036854775807∧∀ y∈c.want,y.In)∧inInt (c.n)∧inInt (c.most)∧((c.docs).length≤9223372036854775807∧∀ y∈c.docs,y.In)∧((c.news).length≤9223372036854775807∧∀ y∈c.news,y.In)) (hl:c.list.length≤9223372036854775807) (hr:∀ y∈c.list,y.In):c.In
end Go.Sym
