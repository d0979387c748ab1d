/- Arguments that say more than is asked, in parts too. -/
import Derived.Test.YtjlefaabcalkkaaGreatDoorJ6
import Derived.Test.YtjlefaabcalkkaaGreatDoorK1
set_option linter.all false
set_option linter.unusedVariables false
set_option linter.unusedSimpArgs false
namespace Go.Sym
open Go
inductive WkA:PV→PV→Prop
 | wk {x y:PV} (h:Wk x y):WkA x y
 | lend {sz:Nat} {full full':Bool} {rows:List (List PV)} (hf:impB full full'=true):WkA (.sl true 0 full sz rows) (.sl false 0 full' sz rows)
 | bor {nn sz:Nat} {full full':Bool} {rows rows':List (List PV)} (hf:impB full full'=true) (hr:WkR rows rows'):WkA (.sl true 0 full sz rows) (.sl true nn full' sz rows')
 | agg {xs ys:List PV} (hl:xs.length=ys.length) (h:∀ (i:Nat) x y,xs[i]?=some x→ys[i]?=some y→WkA x y):WkA (.agg xs) (.agg ys)
structure WkAL (xs ys:List PV):Prop where
 len:xs.length=ys.length
 at':∀ (j:Nat) x y,xs[j]?=some x→ys[j]?=some y→WkA x y
theorem WkA.refl (x:PV):WkA x x:=.wk (.refl x)
theorem WkAL.nil:WkAL [] []:=⟨rfl,by simp⟩
theorem WkAL.refl (xs:List PV):WkAL xs xs:=⟨rfl,fun j x y h1 h2=>by rw[h1] at h2;cases h2;exact .refl x⟩
theorem WkAL.cons {x y:PV} {xs ys:List PV} (h:WkA x y) (t:WkAL xs ys):WkAL (x::xs) (y::ys) :=
 ⟨by simp [t.len],fun j a b p q=>by
  cases j with
  | zero=>simp at p q;subst p;subst q;exact h
  | succ j=>exact t.at' j a b (by simpa using p) (by simpa using q)⟩
theorem WkA.agg' {xs ys:List PV} (h:WkAL xs ys):WkA (.agg xs) (.agg ys):=.agg h.len h.at'
theorem Rep.wkA {c:RC} (kr:∀ b,c.Xk b→c.Xr b) {x y:PV} (h:WkA x y):∀ {v:Value},Rep c y v→Rep c x v:=by
 induction h with
 | wk h=>exact fun p=>p.wk h
 | @lend sz full full' rows hf =>
  intro v hv
  have hv:Rep c (.sl false 0 full sz rows) v:=hv.wk (.sl' rfl hf (.refl _))
  generalize hx:PV.sl false 0 full sz rows=x at hv
  cases hv with
  | plain p =>
   cases p with
   | slnil=>cases hx;exact .slbnil _ _
   | sl _ _ _ a n cap _ vals hn' hc hf2 h2 hX hs' hcell h1 hrep=>cases hx;exact .slb 0 full rows a n cap sz vals hn' hc hf2 h2 (fun e=>⟨kr _ (hX e).1,(hX e).2⟩) hs' hcell h1 hrep
   | _=>cases hx
  | _=>cases hx
 | @bor nn sz full full' rows rows' hf hr =>
  intro v hv
  replace hv:=hv.wkR hr
  have hff:∀ {cap n:Nat},(full'=true→cap=n)→full=true→cap=n:=fun h e=>h (by cases full<;>cases full'<;>simp_all [impB])
  generalize hx:PV.sl true nn full' sz rows=x at hv
  cases hv with
  | plain p=>cases p<;>cases hx
  | slbnil=>cases hx;exact .slbnil _ _
  | slb _ _ _ a n cap _ vals hn' hc hf2 h2 hX hs' hcell h1 hrep=>cases hx;exact .slb 0 full rows a n cap sz vals hn' hc (hff hf2) (fun e=>by cases e) hX hs' hcell h1 hrep
  | _=>cases hx
 | @agg xs ys hl _ ih =>
  intro v p
  obtain⟨vs,rfl,hr⟩:=p.agg_inv
  refine .agg _ vs (by rw[hl];exact hr.1) fun i x v q r=>?_
  have hi:=(List.getElem?_eq_some_iff.1 q).1
  have hi':i<ys.length:=by rw[← hl];exact hi
  exact ih i x ys[i] q (by simp [hi']) (hr.2 i ys[i] v (by simp [hi']) r)
theorem Fn.wkA {P:Program} {f:Nat} {args args' res:List PV} {H H':List Sym.Obj} (h:Fn P f args H res H') (w:WkAL args args'):Fn P f args' H res H':=by
 have key:∀ {c:RC} {vs:Array Value},(∀ b,c.Xk b→c.Xr b)→RepL c args' vs→RepL c args vs:=by
  intro c vs kr hr
  refine⟨by rw[w.len];exact hr.1,fun i x v q r=>?_⟩
  have hi:=(List.getElem?_eq_some_iff.1 q).1
  have hi':i<args'.length:=by rw[← w.len];exact hi
  exact(hr.2 i args'[i] v (by simp [hi']) r).wkA kr (w.at' i x args'[i] q (by simp [hi']))
 rcases h with ⟨h1,h2⟩ | ⟨h1,h2⟩
 ·exact .inl ⟨h1,fun c vs h64 hi hr=>h2 c vs h64 hi (key hi.kr hr)⟩
 ·exact .inr ⟨h1,fun c vs h64 hi hr=>h2 c vs h64 hi (key hi.kr hr)⟩
open Go Go.Proofs.Tryz
set_option maxRecDepth 100000
theorem trim_fn (O:Opq) (s:ByteArray) (hs:s.size≤1099511627776):Fn prog 96 [.str s,.str letters] [] [.str (O.o trimW s letters.data.toList)] []:=by
 rw[O.h]
 exact fn_of_calls (fn:=Proofs.Tryz.f96) rfl (by decide) rfl (fun c us h=>repL_str2 h) (fun c=>.plain (.str _)) fun w=>Go.Proofs.Any.strings_Trim_laid trimLays (by kernel_rfl) s letters w (by omega) (by decide) (Go.Proofs.ascii_of_all (by decide))
theorem countX_fn (O:Opq) (s:ByteArray) (c:Int) (hc:c=46):Fn prog 71 [.str s,.int .u8 c] [] [.int .i64 (O.o cnt s)] []:=by
 subst hc
 refine .inr ⟨rfl,fun k us _ _ h=>⟨.int .i64 (cnt s),?_,by rw[O.h];exact .plain (.int _ _)⟩⟩
 obtain rfl:=repL_vals (vs:=[.string s,.int .u8 46]) h (fun i x u p q=>by
  match i,p with
  | 0,p=>simp at p;subst p;have:=(h.2 0 _ u rfl q).str_inv;simp [this]
  | 1,p=>simp at p;subst p;have:=(h.2 1 _ u rfl q).int_inv;simp [this]) rfl
 rw[run_callFunc_extern (fn:=Proofs.Tryz.f71) rfl (by decide) (by rfl) (by kernel_rfl) (e:=Extern.BytealgCount.count) (by kernel_rfl),Lib.run_countString]
 rfl
theorem indexX_fn (O:Opq) (s:ByteArray) (c:Int) (hc:c=46):Fn prog 151 [.str s,.int .u8 c] [] [.int .i64 (O.o idx s)] []:=by
 subst hc
 refine .inr ⟨rfl,fun k us _ _ h=>⟨.int .i64 (idx s),?_,by rw[O.h];exact .plain (.int _ _)⟩⟩
 obtain rfl:=repL_vals (vs:=[.string s,.int .u8 46]) h (fun i x u p q=>by
  match i,p with
  | 0,p=>simp at p;subst p;have:=(h.2 0 _ u rfl q).str_inv;simp [this]
  | 1,p=>simp at p;subst p;have:=(h.2 1 _ u rfl q).int_inv;simp [this]) rfl
 rw[run_callFunc_extern (fn:=Proofs.Tryz.f151) rfl (by decide) (by rfl) (by kernel_rfl) (e:=Extern.BytealgIndexByte.indexByte) (by kernel_rfl),Lib.run_indexByteString]
 rfl
theorem indexByte_fn (O:Opq) (s:ByteArray) (c:Int) (hc:c=46):Fn prog 134 [.str s,.int .u8 c] [] [.int .i64 (O.o idx s)] []:=by
 refine go (fn:=Proofs.Tryz.f134) (n:=6) (rv:=[ResultVar.tmp 4]) rfl (by decide) rfl (by decide +kernel) rfl rfl (by simp) fun F L C=>?_
 cbv
 (repeat' first|(refine CallThen.mk _ _ (C.fn (indexX_fn O _ _ hc)) ?_;cbv)|(refine R0 ?_;cbv))
theorem slIndex_fn (O:Opq) (s sep:ByteArray) (hd:sep=dot):Fn prog 102 [.str s,.str sep] [] [.int .i64 (O.o idx s)] []:=by
 have h1:sep.size=1:=by rw[hd];rfl
 have h2:byteAt sep 0=46:=by rw[hd];rfl
 have h3:sep=s→idx s=0:=by rw[hd];rintro rfl;rfl
 clear hd
 refine go (fn:=Proofs.Tryz.f102) (n:=141) (rv:=[ResultVar.tmp 4]) rfl (by decide) rfl (by decide +kernel) rfl rfl (by simp) fun F L C=>?_
 cbv
 (repeat' first|(refine CallThen.mk _ _ (C.fn (indexByte_fn O _ _ (by lia))) ?_;cbv)|(refine Nm fun _ _=>?_;cbv)|(refine Br.t ?_ ?_;(focus first|assumption|lia);cbv)|(refine Br.f ?_ ?_;(focus first|assumption|lia);cbv)|(refine Br.mk (fun _=>?_) (fun _=>?_)<;>cbv)|(refine Need.mk ?_ ?_;rotate_left;cbv)|(refine R0 ?_;cbv))
 all_goals first|(simp only [O.h];exact⟨h3 (by assumption),trivial⟩)|lia
theorem index_fn (O:Opq) (s sep:ByteArray) (hd:sep=dot):Fn prog 72 [.str s,.str sep] [] [.int .i64 (O.o idx s)] []:=by
 refine go (fn:=Proofs.Tryz.f72) (n:=6) (rv:=[ResultVar.tmp 4]) rfl (by decide) rfl (by decide +kernel) rfl rfl (by simp) fun F L C=>?_
 cbv
 (repeat' first|(refine CallThen.mk _ _ (C.fn (slIndex_fn O _ _ hd)) ?_;cbv)|(refine R0 ?_;cbv))
theorem count_fn (O:Opq) (s sep:ByteArray) (hd:sep=dot):Fn prog 52 [.str s,.str sep] [] [.int .i64 (O.o cnt s)] []:=by
 have h1:sep.size=1:=by rw[hd];rfl
 have h2:byteAt sep 0=46:=by rw[hd];rfl
 clear hd
 refine go (fn:=Proofs.Tryz.f52) (n:=32) (rv:=[ResultVar.tmp 4]) rfl (by decide) rfl (by decide +kernel) rfl rfl (by simp) fun F L C=>?_
 cbv
 (repeat' first|(refine CallThen.mk _ _ (C.fn (countX_fn O _ _ (by lia))) ?_;cbv)|(refine Nm fun _ _=>?_;cbv)|(refine Br.t ?_ ?_;(focus first|assumption|lia);cbv)|(refine Br.f ?_ ?_;(focus first|assumption|lia);cbv)|(refine Need.mk ?_ ?_;rotate_left;cbv)|(refine R0 ?_;cbv))
 all_goals lia
structure Cut where
 done:List ByteArray
 cur:ByteArray
def Cut.rows (n:Nat) (x:Cut):List (List PV):=Strs x.done++List.replicate (n-x.done.length) [.str ByteArray.empty]
def Cut.i (x:Cut):Int:=x.done.length
def Cut.next (x:Cut):Cut:=⟨x.done++[x.cur.extract 0 (idx x.cur).toNat],x.cur.extract ((idx x.cur).toNat+1) x.cur.size⟩
theorem Cut.rows_len (n:Nat) (x:Cut) (h:x.done.length≤n):(Cut.rows n x).length=n:=by
 rw[Cut.rows,List.length_append,Strs_len,List.length_replicate];omega
theorem Cut.rows_at (n:Nat) (x:Cut) (h:x.done.length<n):(Cut.rows n x)[x.done.length]?=some [.str ByteArray.empty]:=by
 rw[Cut.rows,List.getElem?_append_right (by simp [Strs]),Strs_len,Nat.sub_self,List.getElem?_replicate,if_pos (by omega)]
theorem Cut.rows_set (n:Nat) (x:Cut) (h:x.done.length<n) (t:ByteArray):(Cut.rows n x).set x.done.length [.str t]=Strs (x.done++[t])++List.replicate (n-(x.done.length+1)) [.str ByteArray.empty]:=by
 rw[Cut.rows,List.set_append_right _ _ (by simp [Strs])]
 simp only [Strs,List.length_map,Nat.sub_self,List.map_append,List.map_cons,List.map_nil,List.append_assoc]
 rw[show n-x.done.length=(n-(x.done.length+1))+1 by omega,List.replicate_succ]
 simp
theorem genSplit_fn (O:Opq) (s sep:ByteArray) (hd:sep=dot) (hs:s.size≤1099511627776):Fn prog 73 [.str s,.str sep,.int .i64 0,.int .i64 (-1)] [] [.sl false 0 false 1 (O.o Strs (O.o pieces s))] []:=by
 have h1:sep.size=1:=by rw[hd];rfl
 have hemp:¬ sep=ByteArray.empty:=by rw[hd];decide
 have hc:=cnt_le s
 have e0:O.o cnt s=cnt s:=congrFun (O.h cnt) s
 obtain⟨N,hN⟩:∃ N:Nat,(N:Int)=cnt s+1:=⟨(cnt s+1).toNat,by omega⟩
 refine go (fn:=Proofs.Tryz.f73) (n:=62) (rv:=[ResultVar.tmp 8]) rfl (by decide) rfl (by decide +kernel) rfl rfl (by simp) fun F L C=>?_
 cbv
 (repeat' first|(refine Na ?_ fun _ _=>?_;(focus lia);cbv)|(refine CallThen.mk _ _ (C.fn (count_fn O _ _ hd)) ?_;cbv)|(refine Nl fun _ _ hq=>?_;(try simp only [lenS] at hq);cbv)|(refine Nm fun _ _=>?_;cbv)|(refine Br.t ?_ ?_;(focus first|assumption|lia);cbv)|(refine Br.f ?_ ?_;(focus first|assumption|lia);cbv)|(refine Need.mk ?_ ?_;rotate_left;cbv))
 ·rename_i n1 e1 n2 e2 n3 e3 n4 e4 r5 e5 n6 e6
  clear hq
  have q4:n4=cnt s+1:=by rw[e4];split<;>lia
  have e6:n6=cnt s:=by lia
  rw[show n4.toNat=N by lia] at e5
  subst e5
  clear e1 e2 e3 e4 q4
  refine LoopThen.mk (C.loopAt (ι:=Cut) [(0,0),(10,11),(34,57)] (fun x=>[(0,.str x.cur),(10,.int .i64 (O.o Cut.i x))]) (fun x=>[(2112,.arr 1 none 1 (O.o (Cut.rows N) x))])
   (fun x=>pieces s=x.done++pieces x.cur∧cnt x.cur=cnt s-x.done.length∧x.cur.size≤s.size) (fun x=>(cnt s).toNat-x.done.length) (by decide +kernel) (Start.mk ⟨[],s⟩ [] [] (by simp) ?_) ?_)
  ·obtain⟨z,hz⟩:∃ z:Cut,z=⟨[],s⟩:=⟨_,rfl⟩
   rw[← hz]
   generalize hr:List.replicate N _=r
   cbv
   subst hz hr
   refine⟨WkR.of_eq ?_,rfl,?_⟩
   ·simp only [O.h,Cut.rows,Strs,List.map_nil,List.length_nil,List.nil_append,Nat.sub_zero];rfl
   ·simp [O.h,Cut.i]
  intro x
  obtain⟨ci,eci⟩:∃ ci,ci=O.o Cut.i x:=⟨_,rfl⟩
  obtain⟨cr,ecr⟩:∃ cr,cr=O.o (Cut.rows N) x:=⟨_,rfl⟩
  rw[← eci,← ecr]
  rw[O.h] at eci ecr
  rintro ⟨i1,i2,i3⟩
  simp only [Cut.i] at eci
  have hlen:=Cut.rows_len N x
  rw[← ecr] at hlen
  have hcur:=cnt_le x.cur
  have hpos:0<cnt x.cur→_:=cnt_pos
  have hix:O.o idx x.cur=idx x.cur:=congrFun (O.h idx) x.cur
  cbv
  (repeat' first|(refine Na ?_ fun _ _=>?_;(focus lia);cbv)|(refine CallThen.mk _ _ (C.fn (index_fn O _ _ hd)) ?_;cbv)|(refine Ex.mk [.str ByteArray.empty] ?_ ?_;rotate_left;cbv)|(refine RetThen.mk [] [2112] ?_;cbv)|(refine Back.to (Cut.next x) [] [] ?_ fun _ _=>?_;rotate_left;cbv)|(refine Nl fun _ _ hq=>?_;(try simp only [lenS] at hq);cbv)|(refine Nm fun _ _=>?_;cbv)|(refine Br.f ?_ ?_;(focus first|assumption|lia);cbv)|(refine Br.mk (fun _=>?_) (fun _=>?_)<;>cbv)|(refine Need.mk ?_ ?_;rotate_left;cbv))
  ·-- the next round
   rename_i y hy
   subst hy
   obtain⟨p0,p1,p2,p3⟩:=hpos (by lia)
   rename_i m em t et k ek r er l el l2 el2 t2 et2 i ei
   clear hq
   rw[hix,Int.add_zero] at em
   rw[hix] at el2
   subst em et ek er el2 et2 ei
   refine⟨WkR.of_eq ?_,?_,?_,trivial⟩
   ·simp only [O.h]
    rw[eci,ecr,Int.toNat_natCast]
    show _=(Cut.rows N x).set _ [.str _]
    rw[Cut.rows_set _ _ (by lia)]
    simp [Cut.next,Cut.rows]
   ·show x.cur.extract _ _=_
    rw[show(idx x.cur+l).toNat=(idx x.cur).toNat+1 by lia]
   ·simp only [O.h];simp [Cut.i,Cut.next,eci]
  ·obtain⟨p0,p1,p2,p3⟩:=hpos (by lia)
   refine⟨⟨?_,?_,?_⟩,?_⟩
   ·simp only [Cut.next,List.append_assoc,List.singleton_append];rw[i1,p2]
   ·simp only [Cut.next,List.length_append,List.length_singleton];rw[p3];lia
   ·simp only [Cut.next];rw[ByteArray.size_extract];lia
   ·simp only [Cut.next,List.length_append,List.length_singleton];lia
  ·lia
  ·refine⟨by lia,?_⟩
   rename_i k ek
   rw[show(Int.ofNat k).toNat=x.done.length by lia,ecr]
   exact Cut.rows_at _ _ (by lia)
  ·lia
  ·lia
  ·-- the end
   rename_i k ek r er hr i ei n en rs ers
   clear hr hq
   rw[show n=x.done.length+1 by lia,er,ek,eci,ecr] at ers
   have h0:=cnt_zero (s:=x.cur) (by lia)
   subst ers
   refine⟨WkR.of_eq ?_,trivial⟩
   simp only [O.h]
   rw[i1,h0]
   show _=List.take _ (((Cut.rows N x).set (Int.toNat _) [.str x.cur]).drop 0)
   rw[Int.toNat_natCast,Cut.rows_set _ _ (by lia),List.drop_zero,List.take_append_of_le_length (by simp [Strs]),List.take_of_length_le (by simp [Strs])]
  ·rename_i k ek r er i ei
   have:=hlen (by lia)
   lia
  ·refine⟨by lia,?_⟩
   rename_i k ek
   rw[show(Int.ofNat k).toNat=x.done.length by lia,ecr]
   exact Cut.rows_at _ _ (by lia)
  ·have:=hlen (by lia)
   lia
 ·rename_i n1 e1 n2 e2 n3 e3 n4 e4
  have q4:n4=cnt s+1:=by rw[e4];split<;>lia
  dsimp only
  lia
theorem split_fn (O:Opq) (s sep:ByteArray) (hd:sep=dot) (hs:s.size≤1099511627776):Fn prog 53 [.str s,.str sep] [] [.sl false 0 false 1 (O.o Strs (O.o pieces s))] []:=by
 refine go (fn:=Proofs.Tryz.f53) (n:=6) (rv:=[ResultVar.tmp 4]) rfl (by decide) rfl (by decide +kernel) rfl rfl (by simp) fun F L C=>?_
 cbv
 (repeat' first|(refine CallThen.mk _ _ (C.fn (genSplit_fn O _ _ hd hs)) ?_;cbv)|(refine R0 ?_;cbv))
 all_goals exact⟨.refl _,trivial⟩
theorem srch_step {α:Type} {p:α→Bool} {l:List α} {k:Nat} {x:α} (h:∀ (j:Nat) y,j<k→l[j]?=some y→p y=false) (hx:l[k]?=some x) (hp:p x=false):∀ (j:Nat) y,j<k+1→l[j]?=some y→p y=false:=fun j y hj hy=>by
 by_cases e:j=k
 ·subst e;rw[hx] at hy;cases hy;exact hp
 ·exact h j y (by omega) hy
def hasP (p:ByteArray) (f:Field):Bool:=decide (f.path=p)
def zeroV:Val:=⟨0,0,ByteArray.empty,0,0⟩
def getI (d:Doc) (p:ByteArray):Int:=findI (hasP p) d
def getB (d:Doc) (p:ByteArray):Bool:=d.any (hasP p)
def getV (d:Doc) (p:ByteArray):Val:=((d.find? (hasP p)).map Field.val).getD zeroV
theorem find_at {α:Type} {p:α→Bool} {l:List α} {k:Nat} (h:findI p l=k):l.find? p=l[k]?:=by
 have hk:0≤findI p l:=by omega
 have ha:=findI_ge.1 hk
 obtain⟨x,hx,hp⟩:=findI_lt hk
 rw[findI,if_pos ha] at h
 have hkk:l.findIdx p=k:=by omega
 have hlt:l.findIdx p<l.length:=List.findIdx_lt_length_of_exists (by simpa using ha)
 subst hkk
 rw[List.find?_eq_some_iff_getElem.2 ⟨List.findIdx_getElem (w:=hlt),l.findIdx p,hlt,rfl,fun j hj=>by simpa using List.not_of_lt_findIdx hj⟩]
 simp [hlt]
theorem getV_at {d:Doc} {p:ByteArray} {x:Field} (h:0≤getI d p) (hx:d[(getI d p).toNat]?=some x):getV d p=x.val:=by
 obtain⟨k,hk⟩:=Int.eq_ofNat_of_zero_le h
 rw[getV,find_at (l:=d) (p:=hasP p) (k:=k) hk]
 rw[hk,Int.toNat_natCast] at hx
 rw[hx];rfl
theorem getV_none {d:Doc} {p:ByteArray} (h:getI d p<0):getV d p=zeroV:=by
 have:d.any (hasP p)=false:=by
  cases hh:d.any (hasP p) with
  | false=>rfl
  | true=>have:=findI_ge.2 hh;unfold getI at h;omega
 rw[getV,List.find?_eq_none.2 (by simpa using this)];rfl
theorem getB_iff {d:Doc} {p:ByteArray}:getB d p=true ↔ 0≤getI d p:=findI_ge.symm
def cmpS (a b:ByteArray):Int:=Lib.compareBytes a.data.toList b.data.toList
theorem compareBytes_lt:∀ (x y:List UInt8),(Lib.compareBytes x y<0 ↔ x<y)∧(Lib.compareBytes x y=0 ↔ x=y)
 | [],[]=>by simp [Lib.compareBytes]
 | [],_::_=>by simp [Lib.compareBytes]
 | _::_,[]=>by simp [Lib.compareBytes]
 | a::x,b::y=>by
  have ih:=compareBytes_lt x y
  simp only [Lib.compareBytes,List.cons_lt_cons_iff,List.cons.injEq]
  split
  ·rename_i h;simp [h];intro e;subst e;exact absurd h (UInt8.lt_irrefl _)
  ·rename_i h
   split
   ·rename_i h';have hne:a≠b:=fun e=>by subst e;exact h h'
    simp [h,hne]
   ·rename_i h'
    have e:a=b:=UInt8.le_antisymm (UInt8.not_lt.1 h') (UInt8.not_lt.1 h)
    subst e
    simp [h,ih.1,ih.2]
theorem cmpS_lt {a b:ByteArray}:cmpS a b<0 ↔ slt a b:=by rw[cmpS,(compareBytes_lt _ _).1,slt_iff,Lib.toList_data,Lib.toList_data]
theorem cmpS_eq {a b:ByteArray}:cmpS a b=0 ↔ a=b:=by
 rw[cmpS,(compareBytes_lt _ _).2]
 constructor
 ·intro h;cases a;cases b;simp only [Array.toList_inj] at h;rw[h]
 ·rintro rfl;rfl
theorem Named.w8 {x:Int} {K:Int→Prop} (h:0≤x) (k:∀ n,n=x % 256→0≤n→n<256→K n):Named Int (fun _=>IntKind.u8.wrap x) K:=.mk fun n hn=>by
 have:n=x % 256:=by rw[hn];unfold IntKind.wrap;simp [IntKind.bits,IntKind.signed]
 exact k n this (by omega) (by omega)
theorem Named.w8s {x:Int} {K:Int→Prop} (h:0≤x∧x<256) (k:∀ n,n=x→K n):Named Int (fun _=>IntKind.u8.wrap x) K:=.mk fun n hn=>by
 have:n=x % 256:=by rw[hn];unfold IntKind.wrap;simp [IntKind.bits,IntKind.signed]
 exact k n (by omega)
theorem Named.rem {x y:Int} {K:Int→Prop} (h:0≤x∧0<y) (k:∀ n,n=x % y→K n):Named Int (fun _=>x.tmod y) K:=.mk fun n hn=>k n (by
 rw[hn];exact Int.tmod_eq_emod_of_nonneg h.1)
theorem Named.quo {x y:Int} {K:Int→Prop} (h:0≤x∧0<y∧x<9223372036854775808) (k:∀ n,n=x / y→K n):Named Int (fun _=>IntKind.i64.wrap (x.tdiv y)) K:=.mk fun n hn=>k n (by
 have e:x.tdiv y=x / y:=Int.tdiv_eq_ediv_of_nonneg h.1
 have h1:0≤x / y:=Int.ediv_nonneg h.1 (by omega)
 have h2:x / y≤x:=Int.ediv_le_self _ h.1
 rw[hn,e,wrap64 (by omega)])
open Go Go.Proofs Go.Proofs.Tryz
set_option maxRecDepth 10000
theorem shape_str {n:Nat} {xs:List PV} (h:shape prog n 9 xs):∃ s:ByteArray,xs=[.str s]∧s.size≤9223372036854775807:=by
 cases n with
 | zero=>exact h.elim
 | succ n=>simp only [shape,Tryz.underlying9] at h;exact h
theorem shape_int {n:Nat} {xs:List PV} (h:shape prog n 3 xs):∃ m:Int,xs=[.int .i64 m]∧-9223372036854775808≤m∧m≤9223372036854775807:=by
 cases n with
 | zero=>exact h.elim
 | succ n =>
  simp only [shape,Tryz.underlying3] at h
  obtain⟨m,rfl,hm⟩:=h
  refine⟨m,rfl,?_⟩
  simp only [Lit.wf,Bool.and_eq_true,decide_eq_true_eq] at hm
  exact hm
def inInt (m:Int):Prop:=-9223372036854775808≤m∧m≤9223372036854775807
def inStr (s:ByteArray):Prop:=s.size≤9223372036854775807
theorem c3:prog.cellsOf 3=1:=by decide +kernel
theorem c9:prog.cellsOf 9=1:=by decide +kernel
theorem rows_of {α:Type} {e:α→List PV} {In:α→Prop} {Q:List PV→Prop} (hq:∀ r,Q r→∃ a,r=e a∧In a):∀ {rows:List (List PV)},(∀ r∈rows,Q r)→∃ l:List α,rows=l.map e∧∀ a∈l,In a
 | [],_=>⟨[],rfl,by simp⟩
 | r::rows,h=>by
  obtain⟨a,ha,ia⟩:=hq r (h r (by simp))
  obtain⟨l,hl,il⟩:=rows_of (rows:=rows) hq fun r hr=>h r (List.mem_cons_of_mem _ hr)
  exact⟨a::l,by simp [ha,hl],by simpa using⟨ia,il⟩⟩
theorem rows_wkx {α:Type} {e:α→List PV} {In:α→Prop} {Q:List PV→Prop} (hq:∀ r,Q r→∃ a,WkL (e a) r∧In a):∀ {rows:List (List PV)},(∀ r∈rows,Q r)→∃ l:List α,WkR (l.map e) rows∧l.length=rows.length∧∀ a∈l,In a
 | [],_=>⟨[],.refl _,rfl,by simp⟩
 | r::rows,h=>by
  obtain⟨a,ha,ia⟩:=hq r (h r (by simp))
  obtain⟨l,hl,ll,il⟩:=rows_wkx (rows:=rows) hq fun r hr=>h r (List.mem_cons_of_mem _ hr)
  exact⟨a::l,.cons ha hl,by simp [ll],by simpa using⟨ia,il⟩⟩
def Val.In (v:Val):Prop:=inInt v.kind∧inInt v.num∧inStr v.text∧inInt v.re∧inInt v.im
def Field.In (f:Field):Prop:=inStr f.path∧f.val.In
theorem c33:prog.cellsOf 90=2:=by decide +kernel
theorem c35:prog.cellsOf 92=5:=by decide +kernel
theorem c37:prog.cellsOf 94=6:=by decide +kernel
theorem shape_point {n:Nat} {xs:List PV} (h:shape prog n 90 xs):∃ a b:Int,xs=[.int .i64 a,.int .i64 b]∧inInt a∧inInt b:=by
 cases n with
 | zero=>exact h.elim
 | succ n =>
  simp only [shape,Tryz.underlying90,List.forall_mem_cons,List.not_mem_nil,false_imp_iff,implies_true,and_true,c33,c3] at h
  obtain⟨hl,h1,h2⟩:=h
  match xs,hl with
  | [x,y],_ =>
  obtain⟨a,ea,ia⟩:=shape_int (xs:=[x]) h1
  obtain⟨b,eb,ib⟩:=shape_int (xs:=[y]) h2
  cases ea;cases eb
  exact⟨a,b,rfl,ia,ib⟩
theorem shape_val {n:Nat} {xs:List PV} (h:shape prog n 92 xs):∃ v:Val,xs=v.enc∧v.In:=by
 cases n with
 | zero=>exact h.elim
 | succ n =>
  simp only [shape,Tryz.underlying92,List.forall_mem_cons,List.not_mem_nil,false_imp_iff,implies_true,and_true,c35,c33,c9,c3] at h
  obtain⟨hl,h1,h2,h3,h4⟩:=h
  match xs,hl with
  | [x,y,z,u,w],_ =>
  obtain⟨a,ea,ia⟩:=shape_int (xs:=[x]) h1
  obtain⟨b,eb,ib⟩:=shape_int (xs:=[y]) h2
  obtain⟨t,et,it⟩:=shape_str (xs:=[z]) h3
  obtain⟨p,q,ep,ip,iq⟩:=shape_point (xs:=[u,w]) h4
  cases ea;cases eb;cases et;cases ep
  exact⟨⟨a,b,t,p,q⟩,rfl,ia,ib,it,ip,iq⟩
theorem shape_field {n:Nat} {xs:List PV} (h:shape prog n 94 xs):∃ f:Field,xs=f.enc∧f.In:=by
 cases n with
 | zero=>exact h.elim
 | succ n =>
  simp only [shape,Tryz.underlying94,List.forall_mem_cons,List.not_mem_nil,false_imp_iff,implies_true,and_true,c37,c35,c9] at h
  obtain⟨hl,h1,h2⟩:=h
  match xs,hl with
  | x::ys,hl =>
  obtain⟨t,et,it⟩:=shape_str (xs:=[x]) h1
  have hy:(List.drop 1 (x::ys)).take 5=ys:=List.take_of_length_le (Nat.le_of_eq (by simpa using hl))
  rw[hy] at h2
  obtain⟨v,rfl,iv⟩:=shape_val h2
  cases et
  exact⟨⟨t,v⟩,rfl,it,iv⟩
theorem shape_doc {n:Nat} {x:PV} (h:shape prog n 38 [x]):∃ d:Doc,Wk (.sl false 0 false 6 (Doc.enc d)) x∧d.length≤9223372036854775807∧∀ f∈d,f.In:=by
 cases n with
 | zero=>exact h.elim
 | succ n =>
  simp only [shape,Tryz.underlying38,c37] at h
  rcases h with h | ⟨rows,h,hl,hr⟩
  ·cases h
   exact⟨[],.nil _ _,by simp,by simp⟩
  ·cases h
   obtain⟨d,rfl,hd⟩:=rows_of (fun r hr=>shape_field hr) hr
   exact⟨d,.sl' rfl rfl (.refl _),by simpa [maxLen] using hl,hd⟩
end Go.Sym
