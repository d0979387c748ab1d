/- The frame of this seat's walks. -/
import Derived.Test.YthaaoongjcmleaaGreatDoorJ4
import Derived.Test.YthaaoongjcmleaaGreatDoorJ5
import Derived.Lib.Bytealg
import Derived.Lib.SlTrimSet
import Derived.Lib.IndexLaws
import Derived.Test.YthaaoongjcmleaaGreatDoorProg
import Derived.Shelf.Strings.SlTrimAscii
set_option linter.all false
set_option linter.unusedVariables false
set_option linter.unusedSimpArgs false
namespace Go.Sym
open Go Go.Proofs.Tryz
def tyOf (t:Nat):Option TyI:=lookTy tyOf_all t
def env:Env:={ ty:=fun t=>tyOf t,mode:=fun f=>match f with
  | 55=>[.own,.bor,.own]
  | 65=>[.own]
  | 83=>[.own]
  | 101=>[.own,.own]
  | 102=>[.own]
  | 112=>[.own]
  | 134=>[.own,.bor,.own]
  | 135=>[.own]
  | 136=>[.own]
  | 137=>[.own]
  | 152=>[.own,.own]
  | 153=>[.own]
  | 154=>[.own]
  | 178=>[.own,.bor,.own]
  | 179=>[.own]
  | 183=>[.own]
  | 236=>[.own,.own]
  | 237=>[.own]
  | 239=>[.own]
  | 262=>[.own]
  | 281=>[.own]
  | 292=>[.own]
  | 299=>[.own]
  | _=>[] }
theorem hE:EnvOk prog env:=env_ok (by rfl) ty_ok
theorem hm:prog.follows .mixedOrders=true:=rfl
structure Ctx (n0:Nat) (F:FnT) (L:LpT):Prop where
 fn:∀ {f args H res H'},Fn prog f args H res H'→F f args H res H'
 loop:∀ {ι:Type} (S:ι→ASt) (I:ι→Prop) (μ:ι→Nat) {b:Code} {st:ASt} {K:AEx→ASt→Prop},regOk b=true→Start S I n0 st→(∀ i,I i→cw env F L b (S i) (bodyK S I μ n0 i K))→noScope b=true→L b st K
 scope:∀ {ι:Type} (S:ι→ASt) (I:ι→Prop) (μ:ι→Nat) {b rest:Code} {l:Nat} {st:ASt} {K:AEx→ASt→Prop},findLabel b l=some rest→regOk b=true→regOk rest=true→cw env F L b st (jumpK0 S I n0 l K)→(∀ i,I i→cw env F L rest (S i) (jumpK S I μ n0 l i K))→L (.scope b) st K
theorem Ctx.loopAt {n0:Nat} {F:FnT} {L:LpT} (C:Ctx n0 F L) {ι:Type} {b:Code} {st:ASt} {K:AEx→ASt→Prop} (rs:List (Nat×Nat)) (us:ι→List (Nat×PV)) (h:ι→Heap) (I:ι→Prop) (μ:ι→Nat) (hr:regOk b=true)
  (start:Start (fun i=>⟨sets (resets st.tmps rs) (us i),h i⟩) I n0 st) (body:∀ i,I i→cw env F L b ⟨sets (resets st.tmps rs) (us i),h i⟩ (bodyK (fun i=>⟨sets (resets st.tmps rs) (us i),h i⟩) I μ n0 i K)) (hb:noScope b=true:=by rfl):L b st K :=
 C.loop _ I μ hr start body hb
theorem goB {f : Nat} {fn : Func} {code : Code} {args res : List PV} {H H' : List Sym.Obj} {n : Nat} {rv : List ResultVar} (hf : prog.funcs[f]? = some fn) (hname : fn.name ≠ "runtime.NumGoroutine") (hb : fn.body = some code) (hr : regOk code = true)
    (hn : fn.ntmps - args.length = n) (hrv : fn.results.toList = rv) (h64 : H.length ≤ 64) (h : ∀ F L, Ctx H.length F L → cw env F L code ⟨args ++ tops n, heapOf 0 H⟩ (retK env rv H.length res H')) : FnB prog f args H res H' :=
  fnB_of_cw hE hm hf hname hb hr hn hrv fun fc hfc => h _ _ ⟨fun h => h, fun S I μ _ _ _ hr start body hb => loop_rule S I μ hE (by omega) hm hfc hr start body hb, fun S I μ _ _ _ _ _ hf hr hr2 first body => scope_rule S I μ hE (by omega) hm hfc hf hr hr2 first body⟩
theorem go {f : Nat} {fn : Func} {code : Code} {args res : List PV} {H H' : List Sym.Obj} {n : Nat} {rv : List ResultVar} (hf : prog.funcs[f]? = some fn) (hname : fn.name ≠ "runtime.NumGoroutine") (hb : fn.body = some code) (hr : regOk code = true)
    (hn : fn.ntmps - args.length = n) (hrv : fn.results.toList = rv) (h64 : H.length ≤ 64) (h : ∀ F L, Ctx H.length F L → cw env F L code ⟨args ++ tops n, heapOf 0 H⟩ (retK env rv H.length res H')) : Fn prog f args H res H' := .inl (goB hf hname hb hr hn hrv h64 h)
open Go
structure Val where
 kind:Int
 num:Int
 text:ByteArray
 re:Int
 im:Int
structure Field where
 path:ByteArray
 val:Val
def Val.enc (v:Val):List PV:=[.int .i64 v.kind,.int .i64 v.num,.str v.text,.int .i64 v.re,.int .i64 v.im]
def Field.enc (f:Field):List PV:=.str f.path::f.val.enc
abbrev Doc:=List Field
def Doc.enc:Doc→List (List PV):=List.map Field.enc
theorem Doc.enc_len (d:Doc):(Doc.enc d).length=d.length:=by simp [Doc.enc]
theorem Val.enc_inj {v w:Val}:v.enc=w.enc ↔ v=w:=by
 cases v;cases w;simp [Val.enc]
theorem Field.enc_inj {v w:Field}:v.enc=w.enc ↔ v=w:=by
 cases v;cases w;simp [Field.enc,Val.enc_inj]
theorem emp:({ data:={ toList:=[] } }:ByteArray)=ByteArray.empty:=rfl
def Val.Ok (v:Val):Prop :=
 (v.kind=1∧v.text=ByteArray.empty∧v.re=0∧v.im=0∧-9007199254740992≤v.num∧v.num≤9007199254740992) ∨
 (v.kind=3∧v.num=0∧v.text=ByteArray.empty∧-1048576≤v.re∧v.re≤1048576∧-1048576≤v.im∧v.im≤1048576) ∨
 (v.kind=2∧v.num=0∧v.re=0∧v.im=0∧v.text.size≤256)
open Classical in
noncomputable def Val.err (v:Val):Int:=if v.kind=2∧256<v.text.size then 3 else if v.Ok then 0 else 1
theorem Val.err_ok {v:Val}:v.err=0 ↔ v.Ok:=by
 unfold Val.err
 split
 ·rename_i h;simp [Val.Ok];omega
 ·split<;>simp_all
def numV (n:Int):Val:=⟨1,n,ByteArray.empty,0,0⟩
def textV (s:ByteArray):Val:=⟨2,0,s,0,0⟩
def pointV (a b:Int):Val:=⟨3,0,ByteArray.empty,a,b⟩
def isPart (n:Int):Bool:=decide (-1048576≤n∧n≤1048576)
def isKey (s:ByteArray):Bool:=decide (1≤s.size∧s.size≤64)
def isLet (c:Int):Bool:=(decide (97≤c) && decide (c≤122)) || (decide (48≤c) && decide (c≤57))
def scan:List UInt8→Bool→Bool
 | [],w=>w
 | c::r,w=>if (c.toNat:Int)=46∧w=true then scan r false else if isLet c.toNat=true then scan r true else false
def isPath (s:ByteArray):Bool:=scan s.data.toList false && decide (s.size≤64)
theorem size_list (s:ByteArray):s.data.toList.length=s.size:=by simp [← ByteArray.size_data]
def okAt (d:Doc) (i:Nat):Prop:=∃ f,d[i]?=some f∧isPath f.path=true∧f.val.Ok∧(0<i→∃ g,d[i-1]?=some g∧slt g.path f.path)
open Classical in
noncomputable def may (d:Doc):Bool:=decide (d.length≤16∧∀ i,i<d.length→okAt d i)
noncomputable def docErr (d:Doc):Int:=if may d=true then 0 else 1
def findI {α:Type} (p:α→Bool) (l:List α):Int:=if l.any p=true then(l.findIdx p:Int) else -1
theorem findI_at {α:Type} {p:α→Bool} {l:List α} {k:Nat} {x:α} (h:l[k]?=some x) (hp:p x=true) (hn:∀ (j:Nat) y,j<k→l[j]?=some y→p y=false):findI p l=k:=by
 obtain⟨hk,e⟩:=List.getElem?_eq_some_iff.1 h
 have ha:l.any p=true:=List.any_eq_true.2 ⟨x,List.mem_of_getElem? h,hp⟩
 rw[findI,if_pos ha,(List.findIdx_eq hk).2 ⟨by rw[e];exact hp,fun j hj=>hn j _ hj (by simp)⟩]
theorem findI_none {α:Type} {p:α→Bool} {l:List α} (hn:∀ (j:Nat) y,j<l.length→l[j]?=some y→p y=false):findI p l=-1:=by
 rw[findI,if_neg]
 intro h
 obtain⟨x,hx,hp⟩:=List.any_eq_true.1 h
 obtain⟨j,hj,rfl⟩:=List.getElem_of_mem hx
 rw[hn j _ hj (by simp)] at hp;cases hp
theorem findI_ge {α:Type} {p:α→Bool} {l:List α}:0≤findI p l ↔ l.any p=true:=by
 rw[findI];split
 ·rename_i h;simp [h]
 ·rename_i h;simp [h]
theorem okAt_iff {d:Doc} {k:Nat} {x:Field} (h:d[k]?=some x):okAt d k ↔ isPath x.path=true∧x.val.Ok∧(0<k→∃ g,d[k-1]?=some g∧slt g.path x.path):=by
 simp only [okAt,h,Option.some.injEq]
 exact⟨fun⟨f,e,k⟩=>by subst e;exact k,fun k=>⟨x,rfl,k⟩⟩
theorem okAt_step {d:Doc} {k:Nat} (h:∀ j,j<k→okAt d j) (hk:okAt d k):∀ j,j<k+1→okAt d j:=fun j hj=>by
 by_cases e:j=k
 ·subst e;exact hk
 ·exact h j (by omega)
theorem may_false {d:Doc} {i:Nat} (hi:i<d.length) (h:¬ okAt d i):may d=false:=by
 simp only [may,decide_eq_false_iff_not];exact fun k=>h (k.2 i hi)
theorem may_true {d:Doc} (hl:d.length≤16) (h:∀ i,i<d.length→okAt d i):may d=true:=by
 simp only [may,decide_eq_true_eq];exact⟨hl,h⟩
theorem docErr_bad {d:Doc} {i:Nat} {x:Field} (hx:d[i]?=some x) (h:¬ (isPath x.path=true∧x.val.Ok∧(0<i→∃ g,d[i-1]?=some g∧slt g.path x.path))):docErr d=1:=by
 rw[docErr,may_false (List.getElem?_eq_some_iff.1 hx).1 (fun k=>h ((okAt_iff hx).1 k))];rfl
theorem docErr_ok {d:Doc} (hl:d.length≤16) (h:∀ i,i<d.length→okAt d i):docErr d=0:=by
 rw[docErr,may_true hl h];rfl
theorem docErr_zero {d:Doc}:docErr d=0 ↔ may d=true:=by
 rw[docErr];split<;>simp_all
theorem may_long {d:Doc} (hl:16<d.length):may d=false:=by
 simp only [may,decide_eq_false_iff_not];omega
theorem docErr_long {d:Doc} (hl:16<d.length):docErr d=1:=by rw[docErr,may_long hl];rfl
set_option maxRecDepth 100000
theorem num_fn (O:Opq) (n:Int):Fn prog 172 [.int .i64 n] [] [.agg (numV n).enc] []:=by
 refine go (fn:=Proofs.Tryz.f172) (n:=4) (rv:=[ResultVar.cell 2 102]) rfl (by decide) rfl (by decide +kernel) rfl rfl (by simp) fun F L C=>?_
 cbv
 (repeat' first|(refine Na ?_ fun _ _=>?_;(focus lia);cbv)|(refine Nl fun _ _ hq=>?_;(try simp only [lenS] at hq);cbv)|(refine Nm fun _ _=>?_;cbv)|(refine Br.t ?_ ?_;(focus first|assumption|lia);cbv)|(refine Br.f ?_ ?_;(focus first|assumption|lia);cbv)|(refine Br.mk (fun _=>?_) (fun _=>?_)<;>cbv)|(refine Need.mk ?_ ?_;rotate_left;cbv)|(refine R0 ?_;cbv))
theorem text_fn (O:Opq) (s:ByteArray):Fn prog 175 [.str s] [] [.agg (textV s).enc] []:=by
 refine go (fn:=Proofs.Tryz.f175) (n:=4) (rv:=[ResultVar.cell 2 102]) rfl (by decide) rfl (by decide +kernel) rfl rfl (by simp) fun F L C=>?_
 cbv
 (repeat' first|(refine Na ?_ fun _ _=>?_;(focus lia);cbv)|(refine Nl fun _ _ hq=>?_;(try simp only [lenS] at hq);cbv)|(refine Nm fun _ _=>?_;cbv)|(refine Br.t ?_ ?_;(focus first|assumption|lia);cbv)|(refine Br.f ?_ ?_;(focus first|assumption|lia);cbv)|(refine Br.mk (fun _=>?_) (fun _=>?_)<;>cbv)|(refine Need.mk ?_ ?_;rotate_left;cbv)|(refine R0 ?_;cbv))
theorem point_fn (O:Opq) (a b:Int):Fn prog 173 [.int .i64 a,.int .i64 b] [] [.agg (pointV a b).enc] []:=by
 refine go (fn:=Proofs.Tryz.f173) (n:=7) (rv:=[ResultVar.cell 4 102]) rfl (by decide) rfl (by decide +kernel) rfl rfl (by simp) fun F L C=>?_
 cbv
 (repeat' first|(refine Na ?_ fun _ _=>?_;(focus lia);cbv)|(refine Nl fun _ _ hq=>?_;(try simp only [lenS] at hq);cbv)|(refine Nm fun _ _=>?_;cbv)|(refine Br.t ?_ ?_;(focus first|assumption|lia);cbv)|(refine Br.f ?_ ?_;(focus first|assumption|lia);cbv)|(refine Br.mk (fun _=>?_) (fun _=>?_)<;>cbv)|(refine Need.mk ?_ ?_;rotate_left;cbv)|(refine R0 ?_;cbv))
theorem part_fn (O:Opq) (a:Int):Fn prog 174 [.int .i64 a] [] [.bool (O.o isPart a)] []:=by
 refine go (fn:=Proofs.Tryz.f174) (n:=8) (rv:=[ResultVar.tmp 2]) rfl (by decide) rfl (by decide +kernel) rfl rfl (by simp) fun F L C=>?_
 cbv
 (repeat' first|(refine Na ?_ fun _ _=>?_;(focus lia);cbv)|(refine Nl fun _ _ hq=>?_;(try simp only [lenS] at hq);cbv)|(refine Nm fun _ _=>?_;cbv)|(refine Br.t ?_ ?_;(focus first|assumption|lia);cbv)|(refine Br.f ?_ ?_;(focus first|assumption|lia);cbv)|(refine Br.mk (fun _=>?_) (fun _=>?_)<;>cbv)|(refine Need.mk ?_ ?_;rotate_left;cbv)|(refine R0 ?_;cbv))
 all_goals(try subst_vars)
 all_goals(try simp only [O.h,natTo,natPred,emp] at *)
 all_goals(try subst_vars)
 all_goals(repeat' apply And.intro)
 all_goals first
  | exact True.intro
  | exact WkR.refl _
  | lia
  | (simp_all [isPart];done)
  | (simp_all [isPart]<;>lia)
  | (grind [isPart])
  | skip
theorem key_fn (O:Opq) (s:ByteArray):Fn prog 122 [.str s] [] [.bool (O.o isKey s)] []:=by
 refine go (fn:=Proofs.Tryz.f122) (n:=10) (rv:=[ResultVar.tmp 2]) rfl (by decide) rfl (by decide +kernel) rfl rfl (by simp) fun F L C=>?_
 cbv
 (repeat' first|(refine Na ?_ fun _ _=>?_;(focus lia);cbv)|(refine Nl fun _ _ hq=>?_;(try simp only [lenS] at hq);cbv)|(refine Nm fun _ _=>?_;cbv)|(refine Br.t ?_ ?_;(focus first|assumption|lia);cbv)|(refine Br.f ?_ ?_;(focus first|assumption|lia);cbv)|(refine Br.mk (fun _=>?_) (fun _=>?_)<;>cbv)|(refine Need.mk ?_ ?_;rotate_left;cbv)|(refine R0 ?_;cbv))
 all_goals(try subst_vars)
 all_goals(try simp only [O.h,natTo,natPred,emp] at *)
 all_goals(try subst_vars)
 all_goals(repeat' apply And.intro)
 all_goals first
  | exact True.intro
  | exact WkR.refl _
  | lia
  | (simp_all [isKey];done)
  | (simp_all [isKey]<;>lia)
  | (grind [isKey])
  | skip
theorem rcheck_fn (O:Opq) (v:Val):Fn prog 143 [.agg v.enc] [] [.int .i64 (O.o Val.err v)] []:=by
 refine go (fn:=Proofs.Tryz.f143) (n:=58) (rv:=[ResultVar.tmp 2]) rfl (by decide) rfl (by decide +kernel) rfl rfl (by simp) fun F L C=>?_
 cbv
 (repeat' first|(refine Na ?_ fun _ _=>?_;(focus lia);cbv)|(refine CallThen.mk _ _ (C.fn (num_fn O _)) ?_;cbv)|(refine CallThen.mk _ _ (C.fn (text_fn O _)) ?_;cbv)|(refine CallThen.mk _ _ (C.fn (point_fn O _ _)) ?_;cbv)|(refine CallThen.bool (C.fn (part_fn O _)) (fun _=>?_) (fun _=>?_)<;>cbv)|(refine Nl fun _ _ hq=>?_;(try simp only [lenS] at hq);cbv)|(refine Nm fun _ _=>?_;cbv)|(refine Br.t ?_ ?_;(focus first|assumption|lia);cbv)|(refine Br.f ?_ ?_;(focus first|assumption|lia);cbv)|(refine Br.mk (fun _=>?_) (fun _=>?_)<;>cbv)|(refine Need.mk ?_ ?_;rotate_left;cbv)|(refine R0 ?_;cbv))
 all_goals(try subst_vars)
 all_goals(try simp only [O.h,natTo,natPred,emp] at *)
 all_goals(try subst_vars)
 all_goals(repeat' apply And.intro)
 all_goals first
  | exact True.intro
  | exact WkR.refl _
  | lia
  | (simp_all [Val.err,Val.Ok,isPart];done)
  | (simp_all [Val.err,Val.Ok,isPart]<;>lia)
  | (grind [Val.err,Val.Ok,isPart])
  | skip
def Strs:List ByteArray→List (List PV):=List.map fun s=>[.str s]
theorem Strs_len (l:List ByteArray):(Strs l).length=l.length:=by simp [Strs]
def dot:ByteArray:=⟨#[46]⟩
def ofL (l:List UInt8):ByteArray:=⟨l.toArray⟩
theorem toL_ofL (l:List UInt8):(ofL l).data.toList=l:=rfl
theorem toL_extract (s:ByteArray) (a b:Nat):(s.extract a b).data.toList=(s.data.toList.take b).drop a:=by
 rw[ByteArray.data_extract,Array.toList_extract,List.extract_eq_take_drop,List.drop_take]
theorem eq_of_toL {s t:ByteArray} (h:s.data.toList=t.data.toList):s=t:=by
 cases s;cases t;simp only [Array.toList_inj] at h;rw[h]
def splitL:List UInt8→List (List UInt8)
 | []=>[[]]
 | c::r=>if c=46 then[]::splitL r else match splitL r with
  | p::ps=>(c::p)::ps
  | []=>[[c]]
theorem splitL_ne (l:List UInt8):splitL l≠[]:=by
 induction l with
 | nil=>simp [splitL]
 | cons c r ih =>
  simp only [splitL]
  split
  ·simp
  ·split<;>simp
theorem splitL_none {l:List UInt8} (h:∀ c∈l,c≠46):splitL l=[l]:=by
 induction l with
 | nil=>rfl
 | cons c r ih=>simp only [splitL];rw[if_neg (h c (by simp)),ih fun c hc=>h c (by simp [hc])]
theorem splitL_at:∀ {l:List UInt8} {m:Nat},l[m]?=some 46→(∀ j,j<m→l[j]?≠some 46)→splitL l=l.take m::splitL (l.drop (m+1))
 | [],m,h,_=>by simp at h
 | c::r,0,h,_=>by
  simp at h;subst h;simp [splitL]
 | c::r,m+1,h,hn=>by
  have hc:c≠46:=by have:=hn 0 (by omega);simpa using this
  have:=splitL_at (l:=r) (m:=m) (by simpa using h) fun j hj=>by have:=hn (j+1) (by omega);simpa using this
  simp only [splitL,if_neg hc,this,List.take_succ_cons,List.drop_succ_cons]
def pieces (s:ByteArray):List ByteArray:=(splitL s.data.toList).map ofL
def cnt (s:ByteArray):Int:=(Lib.countByte s.data.toList 46:Nat)
def idx (s:ByteArray):Int:=Lib.indexByte s.data.toList 46
theorem count_at:∀ {l:List UInt8} {m:Nat},l[m]?=some 46→(∀ j,j<m→l[j]?≠some 46)→l.count 46=(l.drop (m+1)).count 46+1
 | [],m,h,_=>by simp at h
 | c::r,0,h,_=>by simp at h;subst h;simp
 | c::r,m+1,h,hn=>by
  have hc:c≠46:=by have:=hn 0 (by omega);simpa using this
  have:=count_at (l:=r) (m:=m) (by simpa using h) fun j hj=>by have:=hn (j+1) (by omega);simpa using this
  rw[List.count_cons_of_ne hc,this,List.drop_succ_cons]
theorem cnt_pos {s:ByteArray} (h:0<cnt s):0≤idx s∧idx s<s.size∧pieces s=s.extract 0 (idx s).toNat::pieces (s.extract ((idx s).toNat+1) s.size)∧cnt (s.extract ((idx s).toNat+1) s.size)=cnt s-1:=by
 have hge:=Lib.indexByte_ge s.data.toList 46
 by_cases hn:idx s=-1
 ·have:=Lib.indexByte_none hn
  have hc:s.data.toList.count 46=0:=List.count_eq_zero.2 fun hm=>by
   obtain⟨k,hk,e⟩:=List.getElem_of_mem hm
   exact this k (List.getElem?_eq_some_iff.2 ⟨hk,e⟩)
  simp [cnt,Lib.countByte,hc] at h
 ·have hpos:0≤idx s:=by unfold idx at *;omega
  obtain⟨o,ho⟩:=Int.eq_ofNat_of_zero_le hpos
  obtain⟨h1,h2⟩:=Lib.indexByte_some (show Lib.indexByte s.data.toList 46=o from ho)
  have hlt:o<s.size:=by rw[← size_list];exact(List.getElem?_eq_some_iff.1 h1).1
  have hd:(s.extract (o+1) s.size).data.toList=s.data.toList.drop (o+1):=by rw[toL_extract,← size_list,List.take_length]
  refine⟨hpos,by omega,?_,?_⟩
  ·rw[ho,Int.toNat_natCast,pieces,pieces,hd,splitL_at h1 h2,List.map_cons]
   refine congrArg (·::_) (eq_of_toL ?_)
   rw[toL_ofL,toL_extract,List.drop_zero]
  ·rw[ho,Int.toNat_natCast]
   simp only [cnt,Lib.countByte,hd,count_at h1 h2]
   omega
theorem cnt_zero {s:ByteArray} (h:cnt s≤0):pieces s=[s]:=by
 have hc:s.data.toList.count 46=0:=by simp only [cnt,Lib.countByte] at h;omega
 rw[pieces,splitL_none fun c hm e=>by subst e;exact List.count_eq_zero.1 hc hm]
 rfl
theorem cnt_le (s:ByteArray):0≤cnt s∧cnt s≤s.size:=by
 have:=List.count_le_length (a:=(46:UInt8)) (l:=s.data.toList)
 rw[size_list] at this
 simp only [cnt,Lib.countByte];omega
theorem splitL_len (l:List UInt8):(splitL l).length≤l.length+1∧∀ p∈splitL l,p.length≤l.length:=by
 induction l with
 | nil=>simp [splitL]
 | cons c r ih =>
  simp only [splitL]
  split
  ·refine⟨by simp;omega,fun p hp=>?_⟩
   rcases List.mem_cons.1 hp with rfl|hp
   ·simp
   ·have:=ih.2 p hp;simp;omega
  ·split
   ·rename_i q qs hq
    rw[hq] at ih
    refine⟨by have:=ih.1;simp at this ⊢;omega,fun p hp=>?_⟩
    rcases List.mem_cons.1 hp with rfl|hp
    ·have:=ih.2 q (by simp);simp;omega
    ·have:=ih.2 p (by simp [hp]);simp;omega
   ·simp
theorem pieces_len {s:ByteArray} (h:s.size≤1099511627776):(pieces s).length≤1099511627777:=by
 have:=(splitL_len s.data.toList).1
 rw[size_list] at this
 simp only [pieces,List.length_map];omega
theorem size_ofL (l:List UInt8):(ofL l).size=l.length:=by rw[← size_list];rfl
theorem pieces_size {s:ByteArray} (h:s.size≤1099511627776):∀ p∈pieces s,p.size≤1099511627776:=by
 intro p hp
 obtain⟨q,hq,rfl⟩:=List.mem_map.1 hp
 have:=(splitL_len s.data.toList).2 q hq
 rw[size_list] at this
 rw[size_ofL];omega
def trimW (s:ByteArray) (cs:List UInt8):ByteArray:=⟨(Lib.trimS s.data.toList cs).toArray⟩
def letters:ByteArray:=⟨#[97,98,99,100,101,102,103,104,105,106,107,108,109,110,111,112,113,114,115,116,117,118,119,120,121,122,48,49,50,51,52,53,54,55,56,57]⟩
def badW (s:ByteArray):Bool:=s.data.toList.isEmpty || s.data.toList.any fun c=>!isLet c.toNat
theorem scan_split:∀ (l:List UInt8) (w:Bool),scan l w=match splitL l with
  | p::ps=>(w || !p.isEmpty) && (p.all fun c=>isLet c.toNat) && ps.all fun p=>!p.isEmpty && p.all fun c=>isLet c.toNat
  | []=>false
 | [],w=>by simp [scan,splitL]
 | c::r,w=>by
  have ih1:=scan_split r true
  have ih2:=scan_split r false
  have hne:=splitL_ne r
  have hc:(c.toNat:Int)=46 ↔ c=46:=by
   constructor
   ·intro h;exact UInt8.toNat_inj.1 (by simpa using(by omega:c.toNat=46))
   ·rintro rfl;rfl
  simp only [scan,splitL,hc]
  cases hs:splitL r with
  | nil=>exact absurd hs hne
  | cons p ps =>
   rw[hs] at ih1 ih2
   by_cases h:c=46
   ·subst h
    cases w
    ·simp [isLet]
    ·simp [ih2]
   ·simp only [h,false_and,if_false,ih1]
    cases hl:isLet c.toNat<;>simp [hl]
theorem isPath_pieces (s:ByteArray):isPath s=(isKey s && !(pieces s).any badW):=by
 have h:=scan_split s.data.toList false
 have hne:=splitL_ne s.data.toList
 have hk:s.size=0→scan s.data.toList false=false:=by
  intro h0
  have:s.data.toList=[]:=List.eq_nil_of_length_eq_zero (by rw[size_list,h0])
  rw[this];rfl
 have hb:(!(pieces s).any badW)=scan s.data.toList false:=by
  rw[h]
  unfold pieces
  cases hs:splitL s.data.toList with
  | nil=>exact absurd hs hne
  | cons p ps =>
   rw[Bool.eq_iff_iff]
   simp [badW,toL_ofL]
 rw[hb]
 unfold isPath isKey
 by_cases h0:s.size=0
 ·simp [hk h0]
 ·have:1≤s.size:=by omega
  simp only [this,true_and]
  exact Bool.and_comm _ _
theorem letters_iff:∀ n:Fin 256,letters.data.toList.contains (UInt8.ofNat n.val)=isLet n.val:=by decide +kernel
theorem letters_c (c:UInt8):letters.data.toList.contains c=isLet c.toNat:=by
 have:=letters_iff ⟨c.toNat,c.toNat_lt⟩
 simpa using this
theorem dropWhile_nil {α:Type} (p:α→Bool) (l:List α):l.dropWhile p=[] ↔ ∀ x∈l,p x=true:=by
 induction l with
 | nil=>simp
 | cons x r ih =>
  rw[List.dropWhile_cons]
  split<;>simp_all
theorem dropWhile_mem {α:Type} {p:α→Bool} {l:List α} {x:α} (hx:x∈l) (hp:p x=false):x∈l.dropWhile p:=by
 induction l with
 | nil=>simp at hx
 | cons y r ih =>
  rw[List.dropWhile_cons]
  split
  ·rcases List.mem_cons.1 hx with rfl|hx
   ·simp_all
   ·exact ih hx
  ·exact hx
theorem trimW_empty (s:ByteArray):(trimW s letters.data.toList=ByteArray.empty) ↔ (s.data.toList.any fun c=>!isLet c.toNat)=false:=by
 have e:trimW s letters.data.toList=ByteArray.empty ↔ Lib.trimS s.data.toList letters.data.toList=[]:=by
  constructor
  ·intro h;exact congrArg (fun t:ByteArray=>t.data.toList) h
  ·intro h;exact eq_of_toL h
 rw[e,Lib.trimS,Lib.trimLeftS,dropWhile_nil,Lib.trimRightS]
 constructor
 ·intro h
  rw[List.any_eq_false]
  intro c hc
  cases hl:isLet c.toNat with
  | true=>simp
  | false =>
   have hp:letters.data.toList.contains c=false:=by rw[letters_c,hl]
   have:=h c (List.mem_reverse.2 (dropWhile_mem (List.mem_reverse.2 hc) hp))
   rw[hp] at this;cases this
 ·intro h c hc
  rw[List.any_eq_false] at h
  have hm:c∈s.data.toList:=List.mem_reverse.1 ((List.dropWhile_sublist _).mem (List.mem_reverse.1 hc))
  rw[letters_c]
  simpa using h c hm
end Go.Sym
namespace Go.Proofs
open Go.Shelf
def Tryz.trimLays_ren:Go.Shelf.Ren:=⟨fun | 160=>171 | 232=>230 | 231=>229 | 227=>231 | 234=>233 | 233=>232 | 236=>235 | 235=>234 | 228=>277 | 271=>280 | 151=>279 | 197=>278 | 120=>298 | 152=>297 | 260=>296 | 137=>311 | 119=>312 | 224=>284 | 225=>283 | 217=>282 | 266=>300|n=>n,fun | 9=>9 | 4=>4 | 3=>3 | 5=>5 | 117=>324 | 116=>323 | 0=>0 | 124=>327 | 21=>21 | 105=>366 | 46=>180 | 119=>389 | 139=>392 | 138=>391|n=>n,fun | 3=>1 | 4=>2|n=>n⟩
theorem Tryz.trimLays:Lays.n160 Tryz.prog Tryz.trimLays_ren:={
  mixed:=(by kernel_rfl)
  f119:=Tryz.func312.trans (congrArg some (by kernel_rfl))
  f120:=Tryz.func298.trans (congrArg some (by kernel_rfl))
  f137:=Tryz.func311.trans (congrArg some (by kernel_rfl))
  f151:=Tryz.func279.trans (congrArg some (by kernel_rfl))
  f152:=Tryz.func297.trans (congrArg some (by kernel_rfl))
  f160:=Tryz.func171.trans (congrArg some (by kernel_rfl))
  f197:=Tryz.func278.trans (congrArg some (by kernel_rfl))
  f217:=Tryz.func282.trans (congrArg some (by kernel_rfl))
  f224:=Tryz.func284.trans (congrArg some (by kernel_rfl))
  f225:=Tryz.func283.trans (congrArg some (by kernel_rfl))
  f227:=Tryz.func231.trans (congrArg some (by kernel_rfl))
  f228:=Tryz.func277.trans (congrArg some (by kernel_rfl))
  f231:=Tryz.func229.trans (congrArg some (by kernel_rfl))
  f232:=Tryz.func230.trans (congrArg some (by kernel_rfl))
  f233:=Tryz.func232.trans (congrArg some (by kernel_rfl))
  f234:=Tryz.func233.trans (congrArg some (by kernel_rfl))
  f235:=Tryz.func234.trans (congrArg some (by kernel_rfl))
  f236:=Tryz.func235.trans (congrArg some (by kernel_rfl))
  f260:=Tryz.func296.trans (congrArg some (by kernel_rfl))
  f266:=Tryz.func300.trans (congrArg some (by kernel_rfl))
  f271:=Tryz.func280.trans (congrArg some (by kernel_rfl))
  t0:=Tryz.underlying0
  a0:=Tryz.isAgg0
  z0:=Tryz.sizeOf0
  v0:=Tryz.zeroValue0
  t3:=Tryz.underlying3
  a3:=Tryz.isAgg3
  z3:=Tryz.sizeOf3
  v3:=Tryz.zeroValue3
  t4:=Tryz.underlying4
  a4:=Tryz.isAgg4
  z4:=Tryz.sizeOf4
  v4:=Tryz.zeroValue4
  t5:=Tryz.underlying5
  a5:=Tryz.isAgg5
  z5:=Tryz.sizeOf5
  v5:=Tryz.zeroValue5
  t9:=Tryz.underlying9
  a9:=Tryz.isAgg9
  z9:=Tryz.sizeOf9
  v9:=Tryz.zeroValue9
  t21:=Tryz.underlying21
  a21:=Tryz.isAgg21
  z21:=Tryz.sizeOf21
  v21:=Tryz.zeroValue21
  t46:=Tryz.underlying180
  a46:=Tryz.isAgg180
  z46:=Tryz.sizeOf180
  v46:=Tryz.zeroValue180
  t105:=Tryz.underlying366
  a105:=Tryz.isAgg366
  z105:=Tryz.sizeOf366
  v105:=Tryz.zeroValue366
  t116:=Tryz.underlying323
  a116:=Tryz.isAgg323
  z116:=Tryz.sizeOf323
  t117:=Tryz.underlying324
  a117:=Tryz.isAgg324
  z117:=Tryz.sizeOf324
  v117:=Tryz.zeroValue324
  t119:=Tryz.underlying389
  a119:=Tryz.isAgg389
  z119:=Tryz.sizeOf389
  t124:=Tryz.underlying327
  a124:=Tryz.isAgg327
  z124:=Tryz.sizeOf327
  v124:=Tryz.zeroValue327
  t138:=Tryz.underlying391
  a138:=Tryz.isAgg391
  z138:=Tryz.sizeOf391
  v138:=Tryz.zeroValue391
  t139:=Tryz.underlying392
  a139:=Tryz.isAgg392
  z139:=Tryz.sizeOf392
  v139:=Tryz.zeroValue392
  g3:=(by kernel_rfl)
  g4:=(by kernel_rfl) }
end Go.Proofs
