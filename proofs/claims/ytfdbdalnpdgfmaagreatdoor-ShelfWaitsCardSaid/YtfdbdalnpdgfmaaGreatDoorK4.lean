/- The library's functions that paths are told by. -/
import Derived.Test.YtfdbdalnpdgfmaaGreatDoorK3
set_option linter.all false
set_option linter.unusedVariables false
set_option linter.unusedSimpArgs false
namespace Go.Sym
open Go Go.Proofs.Tryz
set_option maxRecDepth 100000
theorem trim_fn (O:Opq) (s:ByteArray) (hs:s.size≤1099511627776):Fn prog 72 [.str s,.str letters] [] [.str (O.o trimW s letters.data.toList)] []:=by
 rw[O.h]
 exact fn_of_calls (fn:=Proofs.Tryz.f72) rfl (by decide) rfl (fun c us h=>repL_str2 h) (fun c=>.plain (.str _)) fun w=>Go.Proofs.Any.strings_Trim_laid trimLays (by kernel_rfl) s letters w (by omega) (by decide) (Go.Proofs.ascii_of_all (by decide))
theorem countX_fn (O:Opq) (s:ByteArray) (c:Int) (hc:c=46):Fn prog 37 [.str s,.int .u8 c] [] [.int .i64 (O.o cnt s)] []:=by
 subst hc
 refine .inr ⟨rfl,fun k us _ _ h=>⟨.int .i64 (cnt s),?_,by rw[O.h];exact .plain (.int _ _)⟩⟩
 obtain rfl:=repL_vals (vs:=[.string s,.int .u8 46]) h (fun i x u p q=>by
  match i,p with
  | 0,p=>simp at p;subst p;have:=(h.2 0 _ u rfl q).str_inv;simp [this]
  | 1,p=>simp at p;subst p;have:=(h.2 1 _ u rfl q).int_inv;simp [this]) rfl
 rw[run_callFunc_extern (fn:=Proofs.Tryz.f37) rfl (by decide) (by rfl) (by kernel_rfl) (e:=Extern.BytealgCount.count) (by kernel_rfl),Lib.run_countString]
 rfl
theorem indexX_fn (O:Opq) (s:ByteArray) (c:Int) (hc:c=46):Fn prog 110 [.str s,.int .u8 c] [] [.int .i64 (O.o idx s)] []:=by
 subst hc
 refine .inr ⟨rfl,fun k us _ _ h=>⟨.int .i64 (idx s),?_,by rw[O.h];exact .plain (.int _ _)⟩⟩
 obtain rfl:=repL_vals (vs:=[.string s,.int .u8 46]) h (fun i x u p q=>by
  match i,p with
  | 0,p=>simp at p;subst p;have:=(h.2 0 _ u rfl q).str_inv;simp [this]
  | 1,p=>simp at p;subst p;have:=(h.2 1 _ u rfl q).int_inv;simp [this]) rfl
 rw[run_callFunc_extern (fn:=Proofs.Tryz.f110) rfl (by decide) (by rfl) (by kernel_rfl) (e:=Extern.BytealgIndexByte.indexByte) (by kernel_rfl),Lib.run_indexByteString]
 rfl
theorem indexByte_fn (O:Opq) (s:ByteArray) (c:Int) (hc:c=46):Fn prog 80 [.str s,.int .u8 c] [] [.int .i64 (O.o idx s)] []:=by
 refine go (fn:=Proofs.Tryz.f80) (n:=6) (rv:=[ResultVar.tmp 4]) rfl (by decide) rfl (by decide +kernel) rfl rfl (by simp) fun F L C=>?_
 cbv
 (repeat' first|(refine Na ?_ fun _ _=>?_;(focus lia);cbv)|(refine CallThen.mk _ _ (C.fn (indexX_fn O _ _ hc)) ?_;cbv)|(refine Nl fun _ _ hq=>?_;(try simp only [lenS] at hq);cbv)|(refine Nm fun _ _=>?_;cbv)|(refine Br.t ?_ ?_;(focus first|assumption|lia);cbv)|(refine Br.f ?_ ?_;(focus first|assumption|lia);cbv)|(refine Br.mk (fun _=>?_) (fun _=>?_)<;>cbv)|(refine Need.mk ?_ ?_;rotate_left;cbv)|(refine R0 ?_;cbv))
theorem slIndex_fn (O:Opq) (s sep:ByteArray) (hd:sep=dot):Fn prog 58 [.str s,.str sep] [] [.int .i64 (O.o idx s)] []:=by
 have h1:sep.size=1:=by rw[hd];rfl
 have h2:byteAt sep 0=46:=by rw[hd];rfl
 have h3:sep=s→idx s=0:=by rw[hd];rintro rfl;rfl
 clear hd
 refine go (fn:=Proofs.Tryz.f58) (n:=141) (rv:=[ResultVar.tmp 4]) rfl (by decide) rfl (by decide +kernel) rfl rfl (by simp) fun F L C=>?_
 cbv
 (repeat' first|(refine Na ?_ fun _ _=>?_;(focus lia);cbv)|(refine CallThen.mk _ _ (C.fn (indexByte_fn O _ _ (by lia))) ?_;cbv)|(refine Nl fun _ _ hq=>?_;(try simp only [lenS] at hq);cbv)|(refine Nm fun _ _=>?_;cbv)|(refine Br.t ?_ ?_;(focus first|assumption|lia);cbv)|(refine Br.f ?_ ?_;(focus first|assumption|lia);cbv)|(refine Br.mk (fun _=>?_) (fun _=>?_)<;>cbv)|(refine Need.mk ?_ ?_;rotate_left;cbv)|(refine R0 ?_;cbv))
 all_goals first|(simp only [O.h];exact⟨h3 (by assumption),trivial⟩)|lia
theorem index_fn (O:Opq) (s sep:ByteArray) (hd:sep=dot):Fn prog 38 [.str s,.str sep] [] [.int .i64 (O.o idx s)] []:=by
 refine go (fn:=Proofs.Tryz.f38) (n:=6) (rv:=[ResultVar.tmp 4]) rfl (by decide) rfl (by decide +kernel) rfl rfl (by simp) fun F L C=>?_
 cbv
 (repeat' first|(refine Na ?_ fun _ _=>?_;(focus lia);cbv)|(refine CallThen.mk _ _ (C.fn (slIndex_fn O _ _ hd)) ?_;cbv)|(refine Nl fun _ _ hq=>?_;(try simp only [lenS] at hq);cbv)|(refine Nm fun _ _=>?_;cbv)|(refine Br.t ?_ ?_;(focus first|assumption|lia);cbv)|(refine Br.f ?_ ?_;(focus first|assumption|lia);cbv)|(refine Br.mk (fun _=>?_) (fun _=>?_)<;>cbv)|(refine Need.mk ?_ ?_;rotate_left;cbv)|(refine R0 ?_;cbv))
theorem count_fn (O:Opq) (s sep:ByteArray) (hd:sep=dot):Fn prog 24 [.str s,.str sep] [] [.int .i64 (O.o cnt s)] []:=by
 have h1:sep.size=1:=by rw[hd];rfl
 have h2:byteAt sep 0=46:=by rw[hd];rfl
 clear hd
 refine go (fn:=Proofs.Tryz.f24) (n:=32) (rv:=[ResultVar.tmp 4]) rfl (by decide) rfl (by decide +kernel) rfl rfl (by simp) fun F L C=>?_
 cbv
 (repeat' first|(refine Na ?_ fun _ _=>?_;(focus lia);cbv)|(refine CallThen.mk _ _ (C.fn (countX_fn O _ _ (by lia))) ?_;cbv)|(refine Nl fun _ _ hq=>?_;(try simp only [lenS] at hq);cbv)|(refine Nm fun _ _=>?_;cbv)|(refine Br.t ?_ ?_;(focus first|assumption|lia);cbv)|(refine Br.f ?_ ?_;(focus first|assumption|lia);cbv)|(refine Br.mk (fun _=>?_) (fun _=>?_)<;>cbv)|(refine Need.mk ?_ ?_;rotate_left;cbv)|(refine R0 ?_;cbv))
 all_goals lia
structure Cut where
 done:List ByteArray
 cur:ByteArray
def Cut.rows (n:Nat) (x:Cut):List (List PV):=Strs x.done++List.replicate (n-x.done.length) [.str ByteArray.empty]
def Cut.i (x:Cut):Int:=x.done.length
def Cut.next (x:Cut):Cut:=⟨x.done++[x.cur.extract 0 (idx x.cur).toNat],x.cur.extract ((idx x.cur).toNat+1) x.cur.size⟩
theorem Cut.rows_len (n:Nat) (x:Cut) (h:x.done.length≤n):(Cut.rows n x).length=n:=by
 rw[Cut.rows,List.length_append,Strs_len,List.length_replicate];omega
theorem Cut.rows_at (n:Nat) (x:Cut) (h:x.done.length<n):(Cut.rows n x)[x.done.length]?=some [.str ByteArray.empty]:=by
 rw[Cut.rows,List.getElem?_append_right (by simp [Strs]),Strs_len,Nat.sub_self,List.getElem?_replicate,if_pos (by omega)]
theorem Cut.rows_set (n:Nat) (x:Cut) (h:x.done.length<n) (t:ByteArray):(Cut.rows n x).set x.done.length [.str t]=Strs (x.done++[t])++List.replicate (n-(x.done.length+1)) [.str ByteArray.empty]:=by
 rw[Cut.rows,List.set_append_right _ _ (by simp [Strs])]
 simp only [Strs,List.length_map,Nat.sub_self,List.map_append,List.map_cons,List.map_nil,List.append_assoc]
 rw[show n-x.done.length=(n-(x.done.length+1))+1 by omega,List.replicate_succ]
 simp
theorem genSplit_fn (O:Opq) (s sep:ByteArray) (hd:sep=dot) (hs:s.size≤1099511627776):Fn prog 39 [.str s,.str sep,.int .i64 0,.int .i64 (-1)] [] [.sl false 0 false 1 (O.o Strs (O.o pieces s))] []:=by
 have h1:sep.size=1:=by rw[hd];rfl
 have hemp:¬ sep=ByteArray.empty:=by rw[hd];decide
 have hc:=cnt_le s
 have e0:O.o cnt s=cnt s:=congrFun (O.h cnt) s
 obtain⟨N,hN⟩:∃ N:Nat,(N:Int)=cnt s+1:=⟨(cnt s+1).toNat,by omega⟩
 refine go (fn:=Proofs.Tryz.f39) (n:=62) (rv:=[ResultVar.tmp 8]) rfl (by decide) rfl (by decide +kernel) rfl rfl (by simp) fun F L C=>?_
 cbv
 (repeat' first|(refine Na ?_ fun _ _=>?_;(focus lia);cbv)|(refine CallThen.mk _ _ (C.fn (count_fn O _ _ hd)) ?_;cbv)|(refine Nl fun _ _ hq=>?_;(try simp only [lenS] at hq);cbv)|(refine Nm fun _ _=>?_;cbv)|(refine Br.t ?_ ?_;(focus first|assumption|lia);cbv)|(refine Br.f ?_ ?_;(focus first|assumption|lia);cbv)|(refine Br.mk (fun _=>?_) (fun _=>?_)<;>cbv)|(refine Need.mk ?_ ?_;rotate_left;cbv)|(refine R0 ?_;cbv))
 ·rename_i n1 e1 n2 e2 n3 e3 n4 e4 r5 e5 n6 e6
  clear hq
  have q4:n4=cnt s+1:=by rw[e4];split<;>lia
  have e6:n6=cnt s:=by lia
  rw[show n4.toNat=N by lia] at e5
  subst e5
  clear e1 e2 e3 e4 q4
  refine LoopThen.mk (C.loopAt (ι:=Cut) [(0,0),(10,11),(34,57)] (fun x=>[(0,.str x.cur),(10,.int .i64 (O.o Cut.i x))]) (fun x=>[(2112,.arr 1 none 1 (O.o (Cut.rows N) x))])
   (fun x=>pieces s=x.done++pieces x.cur∧cnt x.cur=cnt s-x.done.length∧x.cur.size≤s.size) (fun x=>(cnt s).toNat-x.done.length) (by decide +kernel) (Start.mk ⟨[],s⟩ [] [] (by simp) ?_) ?_)
  ·obtain⟨z,hz⟩:∃ z:Cut,z=⟨[],s⟩:=⟨_,rfl⟩
   rw[← hz]
   generalize hr:List.replicate N _=r
   cbv
   subst hz hr
   refine⟨WkR.of_eq ?_,rfl,?_⟩
   ·simp only [O.h,Cut.rows,Strs,List.map_nil,List.length_nil,List.nil_append,Nat.sub_zero];rfl
   ·simp [O.h,Cut.i]
  intro x
  obtain⟨ci,eci⟩:∃ ci,ci=O.o Cut.i x:=⟨_,rfl⟩
  obtain⟨cr,ecr⟩:∃ cr,cr=O.o (Cut.rows N) x:=⟨_,rfl⟩
  rw[← eci,← ecr]
  rw[O.h] at eci ecr
  rintro ⟨i1,i2,i3⟩
  simp only [Cut.i] at eci
  have hlen:=Cut.rows_len N x
  rw[← ecr] at hlen
  have hcur:=cnt_le x.cur
  have hpos:0<cnt x.cur→_:=cnt_pos
  have hix:O.o idx x.cur=idx x.cur:=congrFun (O.h idx) x.cur
  cbv
  (repeat' first|(refine Na ?_ fun _ _=>?_;(focus lia);cbv)|(refine CallThen.mk _ _ (C.fn (index_fn O _ _ hd)) ?_;cbv)|(refine Ex.mk [.str ByteArray.empty] ?_ ?_;rotate_left;cbv)|(refine RetThen.mk [] [2112] ?_;cbv)|(refine Back.to (Cut.next x) [] [] ?_ fun _ _=>?_;rotate_left;cbv)|(refine Nl fun _ _ hq=>?_;(try simp only [lenS] at hq);cbv)|(refine Nm fun _ _=>?_;cbv)|(refine Br.t ?_ ?_;(focus first|assumption|lia);cbv)|(refine Br.f ?_ ?_;(focus first|assumption|lia);cbv)|(refine Br.mk (fun _=>?_) (fun _=>?_)<;>cbv)|(refine Need.mk ?_ ?_;rotate_left;cbv)|(refine R0 ?_;cbv))
  ·-- the next round
   rename_i y hy
   subst hy
   obtain⟨p0,p1,p2,p3⟩:=hpos (by lia)
   rename_i m em t et k ek r er l el l2 el2 t2 et2 i ei
   clear hq
   rw[hix,Int.add_zero] at em
   rw[hix] at el2
   subst em et ek er el2 et2 ei
   refine⟨WkR.of_eq ?_,?_,?_,trivial⟩
   ·simp only [O.h]
    rw[eci,ecr,Int.toNat_natCast]
    show _=(Cut.rows N x).set _ [.str _]
    rw[Cut.rows_set _ _ (by lia)]
    simp [Cut.next,Cut.rows]
   ·show x.cur.extract _ _=_
    rw[show(idx x.cur+l).toNat=(idx x.cur).toNat+1 by lia]
   ·simp only [O.h];simp [Cut.i,Cut.next,eci]
  ·obtain⟨p0,p1,p2,p3⟩:=hpos (by lia)
   refine⟨⟨?_,?_,?_⟩,?_⟩
   ·simp only [Cut.next,List.append_assoc,List.singleton_append];rw[i1,p2]
   ·simp only [Cut.next,List.length_append,List.length_singleton];rw[p3];lia
   ·simp only [Cut.next];rw[ByteArray.size_extract];lia
   ·simp only [Cut.next,List.length_append,List.length_singleton];lia
  ·lia
  ·refine⟨by lia,?_⟩
   rename_i k ek
   rw[show(Int.ofNat k).toNat=x.done.length by lia,ecr]
   exact Cut.rows_at _ _ (by lia)
  ·lia
  ·lia
  ·-- the end
   rename_i k ek r er hr i ei n en rs ers
   clear hr hq
   rw[show n=x.done.length+1 by lia,er,ek,eci,ecr] at ers
   have h0:=cnt_zero (s:=x.cur) (by lia)
   subst ers
   refine⟨WkR.of_eq ?_,trivial⟩
   simp only [O.h]
   rw[i1,h0]
   show _=List.take _ (((Cut.rows N x).set (Int.toNat _) [.str x.cur]).drop 0)
   rw[Int.toNat_natCast,Cut.rows_set _ _ (by lia),List.drop_zero,List.take_append_of_le_length (by simp [Strs]),List.take_of_length_le (by simp [Strs])]
  ·rename_i k ek r er i ei
   have:=hlen (by lia)
   lia
  ·refine⟨by lia,?_⟩
   rename_i k ek
   rw[show(Int.ofNat k).toNat=x.done.length by lia,ecr]
   exact Cut.rows_at _ _ (by lia)
  ·have:=hlen (by lia)
   lia
 ·rename_i n1 e1 n2 e2 n3 e3 n4 e4
  have q4:n4=cnt s+1:=by rw[e4];split<;>lia
  dsimp only
  lia
theorem split_fn (O:Opq) (s sep:ByteArray) (hd:sep=dot) (hs:s.size≤1099511627776):Fn prog 25 [.str s,.str sep] [] [.sl false 0 false 1 (O.o Strs (O.o pieces s))] []:=by
 refine go (fn:=Proofs.Tryz.f25) (n:=6) (rv:=[ResultVar.tmp 4]) rfl (by decide) rfl (by decide +kernel) rfl rfl (by simp) fun F L C=>?_
 cbv
 (repeat' first|(refine Na ?_ fun _ _=>?_;(focus lia);cbv)|(refine CallThen.mk _ _ (C.fn (genSplit_fn O _ _ hd hs)) ?_;cbv)|(refine Nl fun _ _ hq=>?_;(try simp only [lenS] at hq);cbv)|(refine Nm fun _ _=>?_;cbv)|(refine Br.t ?_ ?_;(focus first|assumption|lia);cbv)|(refine Br.f ?_ ?_;(focus first|assumption|lia);cbv)|(refine Br.mk (fun _=>?_) (fun _=>?_)<;>cbv)|(refine Need.mk ?_ ?_;rotate_left;cbv)|(refine R0 ?_;cbv))
 all_goals exact⟨.refl _,trivial⟩
end Go.Sym
