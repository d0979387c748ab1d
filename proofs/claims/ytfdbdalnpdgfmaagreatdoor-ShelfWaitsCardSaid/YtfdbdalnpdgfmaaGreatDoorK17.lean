/- The library's functions that texts are cut at commas by. -/
import Derived.Test.YtfdbdalnpdgfmaaGreatDoorK1
import Derived.Test.YtfdbdalnpdgfmaaGreatDoorK10
set_option linter.all false
set_option linter.unusedVariables false
set_option linter.unusedSimpArgs false
namespace Go.Sym
open Go Go.Proofs.Tryz
set_option maxRecDepth 100000
theorem countX_fnC (O:Opq) (s:ByteArray) (c:Int) (hc:c=44):Fn prog 37 [.str s,.int .u8 c] [] [.int .i64 (O.o cntC s)] []:=by
 subst hc
 refine .inr ⟨rfl,fun k us _ _ h=>⟨.int .i64 (cntC s),?_,by rw[O.h];exact .plain (.int _ _)⟩⟩
 obtain rfl:=repL_vals (vs:=[.string s,.int .u8 44]) h (fun i x u p q=>by
  match i,p with
  | 0,p=>simp at p;subst p;have:=(h.2 0 _ u rfl q).str_inv;simp [this]
  | 1,p=>simp at p;subst p;have:=(h.2 1 _ u rfl q).int_inv;simp [this]) rfl
 rw[run_callFunc_extern (fn:=Proofs.Tryz.f37) rfl (by decide) (by rfl) (by kernel_rfl) (e:=Extern.BytealgCount.count) (by kernel_rfl),Lib.run_countString]
 rfl
theorem indexX_fnC (O:Opq) (s:ByteArray) (c:Int) (hc:c=44):Fn prog 110 [.str s,.int .u8 c] [] [.int .i64 (O.o idxC s)] []:=by
 subst hc
 refine .inr ⟨rfl,fun k us _ _ h=>⟨.int .i64 (idxC s),?_,by rw[O.h];exact .plain (.int _ _)⟩⟩
 obtain rfl:=repL_vals (vs:=[.string s,.int .u8 44]) h (fun i x u p q=>by
  match i,p with
  | 0,p=>simp at p;subst p;have:=(h.2 0 _ u rfl q).str_inv;simp [this]
  | 1,p=>simp at p;subst p;have:=(h.2 1 _ u rfl q).int_inv;simp [this]) rfl
 rw[run_callFunc_extern (fn:=Proofs.Tryz.f110) rfl (by decide) (by rfl) (by kernel_rfl) (e:=Extern.BytealgIndexByte.indexByte) (by kernel_rfl),Lib.run_indexByteString]
 rfl
theorem indexByte_fnC (O:Opq) (s:ByteArray) (c:Int) (hc:c=44):Fn prog 80 [.str s,.int .u8 c] [] [.int .i64 (O.o idxC s)] []:=by
 refine go (fn:=Proofs.Tryz.f80) (n:=6) (rv:=[ResultVar.tmp 4]) rfl (by decide) rfl (by decide +kernel) rfl rfl (by simp) fun F L C=>?_
 cbv
 (repeat' first|(refine Na ?_ fun _ _=>?_;(focus lia);cbv)|(refine CallThen.mk _ _ (C.fn (indexX_fnC O _ _ hc)) ?_;cbv)|(refine Nl fun _ _ hq=>?_;(try simp only [lenS] at hq);cbv)|(refine Nm fun _ _=>?_;cbv)|(refine Br.t ?_ ?_;(focus first|assumption|lia);cbv)|(refine Br.f ?_ ?_;(focus first|assumption|lia);cbv)|(refine Br.mk (fun _=>?_) (fun _=>?_)<;>cbv)|(refine Need.mk ?_ ?_;rotate_left;cbv)|(refine R0 ?_;cbv))
theorem slIndex_fnC (O:Opq) (s sep:ByteArray) (hd:sep=comma):Fn prog 58 [.str s,.str sep] [] [.int .i64 (O.o idxC s)] []:=by
 have h1:sep.size=1:=by rw[hd];rfl
 have h2:byteAt sep 0=44:=by rw[hd];rfl
 have h3:sep=s→idxC s=0:=by rw[hd];rintro rfl;rfl
 clear hd
 refine go (fn:=Proofs.Tryz.f58) (n:=141) (rv:=[ResultVar.tmp 4]) rfl (by decide) rfl (by decide +kernel) rfl rfl (by simp) fun F L C=>?_
 cbv
 (repeat' first|(refine Na ?_ fun _ _=>?_;(focus lia);cbv)|(refine CallThen.mk _ _ (C.fn (indexByte_fnC O _ _ (by lia))) ?_;cbv)|(refine Nl fun _ _ hq=>?_;(try simp only [lenS] at hq);cbv)|(refine Nm fun _ _=>?_;cbv)|(refine Br.t ?_ ?_;(focus first|assumption|lia);cbv)|(refine Br.f ?_ ?_;(focus first|assumption|lia);cbv)|(refine Br.mk (fun _=>?_) (fun _=>?_)<;>cbv)|(refine Need.mk ?_ ?_;rotate_left;cbv)|(refine R0 ?_;cbv))
 all_goals first|(simp only [O.h];exact⟨h3 (by assumption),trivial⟩)|lia
theorem index_fnC (O:Opq) (s sep:ByteArray) (hd:sep=comma):Fn prog 38 [.str s,.str sep] [] [.int .i64 (O.o idxC s)] []:=by
 refine go (fn:=Proofs.Tryz.f38) (n:=6) (rv:=[ResultVar.tmp 4]) rfl (by decide) rfl (by decide +kernel) rfl rfl (by simp) fun F L C=>?_
 cbv
 (repeat' first|(refine Na ?_ fun _ _=>?_;(focus lia);cbv)|(refine CallThen.mk _ _ (C.fn (slIndex_fnC O _ _ hd)) ?_;cbv)|(refine Nl fun _ _ hq=>?_;(try simp only [lenS] at hq);cbv)|(refine Nm fun _ _=>?_;cbv)|(refine Br.t ?_ ?_;(focus first|assumption|lia);cbv)|(refine Br.f ?_ ?_;(focus first|assumption|lia);cbv)|(refine Br.mk (fun _=>?_) (fun _=>?_)<;>cbv)|(refine Need.mk ?_ ?_;rotate_left;cbv)|(refine R0 ?_;cbv))
theorem count_fnM (O:Opq) (s sep:ByteArray) (hd:sep=comma):Fn prog 24 [.str s,.str sep] [] [.int .i64 (O.o cntC s)] []:=by
 have h1:sep.size=1:=by rw[hd];rfl
 have h2:byteAt sep 0=44:=by rw[hd];rfl
 clear hd
 refine go (fn:=Proofs.Tryz.f24) (n:=32) (rv:=[ResultVar.tmp 4]) rfl (by decide) rfl (by decide +kernel) rfl rfl (by simp) fun F L C=>?_
 cbv
 (repeat' first|(refine Na ?_ fun _ _=>?_;(focus lia);cbv)|(refine CallThen.mk _ _ (C.fn (countX_fnC O _ _ (by lia))) ?_;cbv)|(refine Nl fun _ _ hq=>?_;(try simp only [lenS] at hq);cbv)|(refine Nm fun _ _=>?_;cbv)|(refine Br.t ?_ ?_;(focus first|assumption|lia);cbv)|(refine Br.f ?_ ?_;(focus first|assumption|lia);cbv)|(refine Br.mk (fun _=>?_) (fun _=>?_)<;>cbv)|(refine Need.mk ?_ ?_;rotate_left;cbv)|(refine R0 ?_;cbv))
 all_goals lia
structure CutC where
 done:List ByteArray
 cur:ByteArray
def CutC.rows (n:Nat) (x:CutC):List (List PV):=Strs x.done++List.replicate (n-x.done.length) [.str ByteArray.empty]
def CutC.i (x:CutC):Int:=x.done.length
def CutC.next (x:CutC):CutC:=⟨x.done++[x.cur.extract 0 (idxC x.cur).toNat],x.cur.extract ((idxC x.cur).toNat+1) x.cur.size⟩
theorem CutC.rows_len (n:Nat) (x:CutC) (h:x.done.length≤n):(CutC.rows n x).length=n:=by
 rw[CutC.rows,List.length_append,Strs_len,List.length_replicate];omega
theorem CutC.rows_at (n:Nat) (x:CutC) (h:x.done.length<n):(CutC.rows n x)[x.done.length]?=some [.str ByteArray.empty]:=by
 rw[CutC.rows,List.getElem?_append_right (by simp [Strs]),Strs_len,Nat.sub_self,List.getElem?_replicate,if_pos (by omega)]
theorem CutC.rows_set (n:Nat) (x:CutC) (h:x.done.length<n) (t:ByteArray):(CutC.rows n x).set x.done.length [.str t]=Strs (x.done++[t])++List.replicate (n-(x.done.length+1)) [.str ByteArray.empty]:=by
 rw[CutC.rows,List.set_append_right _ _ (by simp [Strs])]
 simp only [Strs,List.length_map,Nat.sub_self,List.map_append,List.map_cons,List.map_nil,List.append_assoc]
 rw[show n-x.done.length=(n-(x.done.length+1))+1 by omega,List.replicate_succ]
 simp
theorem genSplit_fnC (O:Opq) (s sep:ByteArray) (hd:sep=comma) (hs:s.size≤1099511627776):Fn prog 39 [.str s,.str sep,.int .i64 0,.int .i64 (-1)] [] [.sl false 0 false 1 (O.o Strs (O.o piecesC s))] []:=by
 have h1:sep.size=1:=by rw[hd];rfl
 have hemp:¬ sep=ByteArray.empty:=by rw[hd];decide
 have hc:=cnt_leC s
 have e0:O.o cntC s=cntC s:=congrFun (O.h cntC) s
 obtain⟨N,hN⟩:∃ N:Nat,(N:Int)=cntC s+1:=⟨(cntC s+1).toNat,by omega⟩
 refine go (fn:=Proofs.Tryz.f39) (n:=62) (rv:=[ResultVar.tmp 8]) rfl (by decide) rfl (by decide +kernel) rfl rfl (by simp) fun F L C=>?_
 cbv
 (repeat' first|(refine Na ?_ fun _ _=>?_;(focus lia);cbv)|(refine CallThen.mk _ _ (C.fn (count_fnM O _ _ hd)) ?_;cbv)|(refine Nl fun _ _ hq=>?_;(try simp only [lenS] at hq);cbv)|(refine Nm fun _ _=>?_;cbv)|(refine Br.t ?_ ?_;(focus first|assumption|lia);cbv)|(refine Br.f ?_ ?_;(focus first|assumption|lia);cbv)|(refine Br.mk (fun _=>?_) (fun _=>?_)<;>cbv)|(refine Need.mk ?_ ?_;rotate_left;cbv)|(refine R0 ?_;cbv))
 ·rename_i n1 e1 n2 e2 n3 e3 n4 e4 r5 e5 n6 e6
  clear hq
  have q4:n4=cntC s+1:=by rw[e4];split<;>lia
  have e6:n6=cntC s:=by lia
  rw[show n4.toNat=N by lia] at e5
  subst e5
  clear e1 e2 e3 e4 q4
  refine LoopThen.mk (C.loopAt (ι:=CutC) [(0,0),(10,11),(34,57)] (fun x=>[(0,.str x.cur),(10,.int .i64 (O.o CutC.i x))]) (fun x=>[(2112,.arr 1 none 1 (O.o (CutC.rows N) x))])
   (fun x=>piecesC s=x.done++piecesC x.cur∧cntC x.cur=cntC s-x.done.length∧x.cur.size≤s.size) (fun x=>(cntC s).toNat-x.done.length) (by decide +kernel) (Start.mk ⟨[],s⟩ [] [] (by simp) ?_) ?_)
  ·obtain⟨z,hz⟩:∃ z:CutC,z=⟨[],s⟩:=⟨_,rfl⟩
   rw[← hz]
   generalize hr:List.replicate N _=r
   cbv
   subst hz hr
   refine⟨WkR.of_eq ?_,rfl,?_⟩
   ·simp only [O.h,CutC.rows,Strs,List.map_nil,List.length_nil,List.nil_append,Nat.sub_zero];rfl
   ·simp [O.h,CutC.i]
  intro x
  obtain⟨ci,eci⟩:∃ ci,ci=O.o CutC.i x:=⟨_,rfl⟩
  obtain⟨cr,ecr⟩:∃ cr,cr=O.o (CutC.rows N) x:=⟨_,rfl⟩
  rw[← eci,← ecr]
  rw[O.h] at eci ecr
  rintro ⟨i1,i2,i3⟩
  simp only [CutC.i] at eci
  have hlen:=CutC.rows_len N x
  rw[← ecr] at hlen
  have hcur:=cnt_leC x.cur
  have hpos:0<cntC x.cur→_:=cnt_posC
  have hix:O.o idxC x.cur=idxC x.cur:=congrFun (O.h idxC) x.cur
  cbv
  (repeat' first|(refine Na ?_ fun _ _=>?_;(focus lia);cbv)|(refine CallThen.mk _ _ (C.fn (index_fnC O _ _ hd)) ?_;cbv)|(refine Ex.mk [.str ByteArray.empty] ?_ ?_;rotate_left;cbv)|(refine RetThen.mk [] [2112] ?_;cbv)|(refine Back.to (CutC.next x) [] [] ?_ fun _ _=>?_;rotate_left;cbv)|(refine Nl fun _ _ hq=>?_;(try simp only [lenS] at hq);cbv)|(refine Nm fun _ _=>?_;cbv)|(refine Br.t ?_ ?_;(focus first|assumption|lia);cbv)|(refine Br.f ?_ ?_;(focus first|assumption|lia);cbv)|(refine Br.mk (fun _=>?_) (fun _=>?_)<;>cbv)|(refine Need.mk ?_ ?_;rotate_left;cbv)|(refine R0 ?_;cbv))
  ·-- the next round
   rename_i y hy
   subst hy
   obtain⟨p0,p1,p2,p3⟩:=hpos (by lia)
   rename_i m em t et k ek r er l el l2 el2 t2 et2 i ei
   clear hq
   rw[hix,Int.add_zero] at em
   rw[hix] at el2
   subst em et ek er el2 et2 ei
   refine⟨WkR.of_eq ?_,?_,?_,trivial⟩
   ·simp only [O.h]
    rw[eci,ecr,Int.toNat_natCast]
    show _=(CutC.rows N x).set _ [.str _]
    rw[CutC.rows_set _ _ (by lia)]
    simp [CutC.next,CutC.rows]
   ·show x.cur.extract _ _=_
    rw[show(idxC x.cur+l).toNat=(idxC x.cur).toNat+1 by lia]
   ·simp only [O.h];simp [CutC.i,CutC.next,eci]
  ·obtain⟨p0,p1,p2,p3⟩:=hpos (by lia)
   refine⟨⟨?_,?_,?_⟩,?_⟩
   ·simp only [CutC.next,List.append_assoc,List.singleton_append];rw[i1,p2]
   ·simp only [CutC.next,List.length_append,List.length_singleton];rw[p3];lia
   ·simp only [CutC.next];rw[ByteArray.size_extract];lia
   ·simp only [CutC.next,List.length_append,List.length_singleton];lia
  ·lia
  ·refine⟨by lia,?_⟩
   rename_i k ek
   rw[show(Int.ofNat k).toNat=x.done.length by lia,ecr]
   exact CutC.rows_at _ _ (by lia)
  ·lia
  ·lia
  ·-- the end
   rename_i k ek r er hr i ei n en rs ers
   clear hr hq
   rw[show n=x.done.length+1 by lia,er,ek,eci,ecr] at ers
   have h0:=cnt_zeroC (s:=x.cur) (by lia)
   subst ers
   refine⟨WkR.of_eq ?_,trivial⟩
   simp only [O.h]
   rw[i1,h0]
   show _=List.take _ (((CutC.rows N x).set (Int.toNat _) [.str x.cur]).drop 0)
   rw[Int.toNat_natCast,CutC.rows_set _ _ (by lia),List.drop_zero,List.take_append_of_le_length (by simp [Strs]),List.take_of_length_le (by simp [Strs])]
  ·rename_i k ek r er i ei
   have:=hlen (by lia)
   lia
  ·refine⟨by lia,?_⟩
   rename_i k ek
   rw[show(Int.ofNat k).toNat=x.done.length by lia,ecr]
   exact CutC.rows_at _ _ (by lia)
  ·have:=hlen (by lia)
   lia
 ·rename_i n1 e1 n2 e2 n3 e3 n4 e4
  have q4:n4=cntC s+1:=by rw[e4];split<;>lia
  dsimp only
  lia
theorem split_fnC (O:Opq) (s sep:ByteArray) (hd:sep=comma) (hs:s.size≤1099511627776):Fn prog 25 [.str s,.str sep] [] [.sl false 0 false 1 (O.o Strs (O.o piecesC s))] []:=by
 refine go (fn:=Proofs.Tryz.f25) (n:=6) (rv:=[ResultVar.tmp 4]) rfl (by decide) rfl (by decide +kernel) rfl rfl (by simp) fun F L C=>?_
 cbv
 (repeat' first|(refine Na ?_ fun _ _=>?_;(focus lia);cbv)|(refine CallThen.mk _ _ (C.fn (genSplit_fnC O _ _ hd hs)) ?_;cbv)|(refine Nl fun _ _ hq=>?_;(try simp only [lenS] at hq);cbv)|(refine Nm fun _ _=>?_;cbv)|(refine Br.t ?_ ?_;(focus first|assumption|lia);cbv)|(refine Br.f ?_ ?_;(focus first|assumption|lia);cbv)|(refine Br.mk (fun _=>?_) (fun _=>?_)<;>cbv)|(refine Need.mk ?_ ?_;rotate_left;cbv)|(refine R0 ?_;cbv))
 all_goals exact⟨.refl _,trivial⟩
end Go.Sym
