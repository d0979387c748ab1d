/- Values of expressions, of a document. -/
import Derived.Test.YtaedpfkpdeaibaaGreatDoorK5
import Derived.Test.YtaedpfkpdeaibaaGreatDoorK11
import Derived.Test.YtaedpfkpdeaibaaGreatDoorK6
set_option linter.all false
set_option linter.unusedVariables false
set_option linter.unusedSimpArgs false
namespace Go.Sym
open Go
def asP (v:Val):Option (Int×Int):=if v.kind=1 then(if gOk v.num 0=true then some (v.num,0) else none) else if v.kind=3 then some (v.re,v.im) else none
def mulP (p q:Int×Int):Val:=pointV (p.1 * q.1-p.2 * q.2) (p.1 * q.2+p.2 * q.1)
def twoO (k:Int) (a b:Val):Option Val :=
 if a.kind=2∨b.kind=2 then(if k=3∧a.kind=b.kind then some (textV (a.text++b.text)) else none)
 else if a.kind=1∧b.kind=1 then some (numV (if k=3 then a.num+b.num else a.num * b.num))
 else if k=3 then(if a.kind=b.kind then some (pointV (a.re+b.re) (a.im+b.im)) else none)
 else match asP a,asP b with
  | some p,some q=>some (mulP p q)
  | _,_=>none
def lowC (c:UInt8):UInt8:=if 65≤c.toNat∧c.toNat≤90 then c+32 else c
def lowS (s:ByteArray):ByteArray:=⟨(s.data.toList.map lowC).toArray⟩
def headS (s:ByteArray):ByteArray:=s.extract 0 (min 1 s.size)
def nNorm:List UInt8:=[110,111,114,109]
def nConj:List UInt8:=[99,111,110,106]
def nTurn:List UInt8:=[116,117,114,110]
def nLow:List UInt8:=[108,111,119]
def nHead:List UInt8:=[104,101,97,100]
def callO (w:List UInt8) (v:Val):Option Val :=
 if v.kind=3 then(if w=nNorm then some (numV (v.re * v.re+v.im * v.im)) else if w=nConj then some (pointV v.re (-v.im)) else if w=nTurn then some (pointV (-v.im) v.re) else none)
 else if v.kind=2 then(if w=nLow then some (textV (lowS v.text)) else if w=nHead then some (textV (headS v.text)) else none)
 else none
open Classical in
noncomputable def okV (o:Option Val):Option Val:=match o with
 | some v=>if v.Ok then some v else none
 | none=>none
noncomputable def rawO (d:Doc) (k:Int) (t:List UInt8) (n:Int) (vs:List Val):Option Val :=
 if k=1 then(if getB d (ofL t)=true then some (getV d (ofL t)) else none)
 else if k=2 then some (numV n)
 else if k=5 then(match vs with
  | [v]=>callO t v
  | _=>none)
 else(match vs with
  | [a,b]=>twoO k a b
  | _=>none)
mutual
noncomputable def valO (d:Doc):Nd→Option Val
 | .mk k t n l=>match valsO d l with
  | none=>none
  | some vs=>okV (rawO d k t n vs)
noncomputable def valsO (d:Doc):List Nd→Option (List Val)
 | []=>some []
 | x::r=>match valO d x with
  | none=>none
  | some v=>match valsO d r with
   | none=>none
   | some vs=>some (v::vs)
end
theorem okV_some {o:Option Val} {v:Val}:okV o=some v ↔ o=some v∧v.Ok:=by
 unfold okV
 cases o with
 | none=>simp
 | some w =>
  simp only
  split
  ·rename_i h;simp only [Option.some.injEq];exact⟨fun e=>by subst e;exact⟨rfl,h⟩,fun e=>e.1⟩
  ·rename_i h;simp only [Option.some.injEq];exact⟨fun e=>(by cases e),fun e=>absurd (e.1 ▸ e.2) h⟩
theorem valO_ok {d:Doc} {x:Nd} {v:Val} (h:valO d x=some v):v.Ok:=by
 obtain⟨k,t,n,l⟩:=x
 rw[valO] at h
 split at h
 ·cases h
 ·exact(okV_some.1 h).2
theorem valsO_append (d:Doc):∀ (l:List Nd) (x:Nd),valsO d (l++[x])=match valsO d l with
  | none=>none
  | some vs=>(valO d x).map fun v=>vs++[v]
 | [],x=>by
  rw[List.nil_append,valsO,valsO,valsO]
  cases valO d x<;>rfl
 | y::l,x=>by
  rw[List.cons_append,valsO,valsO,valsO_append d l x]
  cases valO d y with
  | none=>rfl
  | some v =>
   cases valsO d l with
   | none=>rfl
   | some vs=>cases valO d x<;>rfl
theorem valsO_take_none {d:Doc} {l:List Nd} {i:Nat} {x:Nd} (hx:l[i]?=some x) (hn:valO d x=none):valsO d l=none:=by
 induction l generalizing i with
 | nil=>simp at hx
 | cons y r ih =>
  rw[valsO]
  cases i with
  | zero =>
   simp at hx;subst hx
   rw[hn]
  | succ i =>
   rw[ih (by simpa using hx)]
   cases valO d y<;>rfl
theorem valsO_len {d:Doc}:∀ {l:List Nd} {vs:List Val},valsO d l=some vs→vs.length=l.length
 | [],vs,h=>by simp [valsO] at h;subst h;rfl
 | x::r,vs,h=>by
  rw[valsO] at h
  split at h
  ·cases h
  ·split at h
   ·cases h
   ·rename_i ws e
    cases h
    simp [valsO_len e]
theorem valsO_ok {d:Doc}:∀ {l:List Nd} {vs:List Val},valsO d l=some vs→∀ v∈vs,v.Ok
 | [],vs,h=>by simp [valsO] at h;subst h;simp
 | x::r,vs,h=>by
  rw[valsO] at h
  split at h
  ·cases h
  ·rename_i v ev
   split at h
   ·cases h
   ·rename_i ws e
    cases h
    intro w hw
    rcases List.mem_cons.1 hw with rfl|hw
    ·exact valO_ok ev
    ·exact valsO_ok e w hw
noncomputable def valV (d:Doc) (x:Nd):Val:=(valO d x).getD zeroV
noncomputable def valB (d:Doc) (x:Nd):Bool:=(valO d x).isSome
def Vals.enc (l:List Val):List (List PV):=l.map Val.enc
theorem Vals.enc_len (l:List Val):(Vals.enc l).length=l.length:=by simp [Vals.enc]
noncomputable def valsF (d:Doc) (l:List Nd) (i:Nat):List Val:=(valsO d (l.take i)).getD []
theorem valsF_succ {d:Doc} {l:List Nd} {i:Nat} {x:Nd} {v:Val} (hx:l[i]?=some x) (h:valsO d (l.take i)=some (valsF d l i)) (hv:valO d x=some v) :
  valsO d (l.take (i+1))=some (valsF d l (i+1))∧valsF d l (i+1)=valsF d l i++[v]:=by
 have e:valsO d (l.take (i+1))=some (valsF d l i++[v]):=by
  rw[List.take_add_one,hx,Option.toList_some,valsO_append,h,hv];rfl
 have e2:valsF d l (i+1)=valsF d l i++[v]:=by rw[valsF,e];rfl
 exact⟨by rw[e,e2],e2⟩
theorem valsF_zero (d : Doc) (l : List Nd) : valsF d l 0 = [] ∧ valsO d (l.take 0) = some (valsF d l 0) := by
  have : valsO d (l.take 0) = some [] := by rw [List.take_zero, valsO]
  exact ⟨by rw [valsF, this]; rfl, by rw [valsF, this]; rfl⟩
/-! ### What the program's product of numbers asks -/
theorem prod_fits {a b:Int} (ha:-9007199254740992≤a∧a≤9007199254740992) (hb:-9007199254740992≤b∧b≤9007199254740992) (h0:a≠0) :
  (IntKind.i64.wrap (IntKind.i64.wrap (a * b) |>.tdiv a)=b∧IntKind.i64.wrap (a * b)=a * b) ∨
  (¬ IntKind.i64.wrap (IntKind.i64.wrap (a * b) |>.tdiv a)=b∧¬ (-9007199254740992≤a * b∧a * b≤9007199254740992)):=by
 by_cases hf:-9223372036854775808≤a * b∧a * b<9223372036854775808
 ·left
  have e:IntKind.i64.wrap (a * b)=a * b:=wrap64 hf
  rw[e,Int.mul_tdiv_cancel_left b h0]
  exact⟨wrap64 (by omega),rfl⟩
 ·right
  refine⟨?_,by omega⟩
  obtain⟨n,hn⟩:∃ n,n=IntKind.i64.wrap (a * b):=⟨_,rfl⟩
  rw[← hn]
  have hw:∃ k:Int,k≠0∧a * b=n+k * 18446744073709551616∧-9223372036854775808≤n∧n<9223372036854775808:=by
   unfold IntKind.wrap at hn
   simp only [IntKind.bits,IntKind.signed] at hn
   refine⟨(a * b-n) / 18446744073709551616,?_,?_,?_,?_⟩<;>(simp at hn;omega)
  obtain⟨k,hk0,hk,h1,h2⟩:=hw
  intro hq
  -- n / a is b up to 2^64,and n=a * (n / a)+rest
  have hr:=Int.tmod_add_mul_tdiv n a
  have hrb:(n.tmod a).natAbs<a.natAbs:=by
   rw[Int.natAbs_tmod]
   exact Nat.mod_lt _ (by omega)
  by_cases hm:a=-1
  ·subst hm
   have:-1 * b=-b:=by omega
   omega
  ·have hqs:-9223372036854775808≤n.tdiv a∧n.tdiv a<9223372036854775808:=by
    by_cases h1':a=1
    ·subst h1';rw[Int.tdiv_one];exact⟨h1,h2⟩
    ·have h2':2≤a.natAbs:=by omega
     have:(n.tdiv a).natAbs≤9223372036854775808 / 2:=by
      rw[Int.natAbs_tdiv]
      exact Nat.div_le_div (by omega) h2' (by omega)
     omega
   rw[wrap64 hqs] at hq
   rw[hq] at hr
   omega
open Go Go.Proofs.Tryz
set_option maxRecDepth 100000
open Classical in
noncomputable def okB (B:Bool) (v:Val):Option Val:=if B=true∧v.Ok then some v else none
theorem okV_is {o:Option Val} {v:Val} (h:o=some v):okV o=okB true v:=by
 subst h
 by_cases hv:v.Ok<;>simp [okV,okB,hv]
theorem okV_not {o:Option Val} {v:Val} (h:okV o=none):okV o=okB false v:=by rw[h,okB,if_neg (by simp)]
theorem okV_bad {v:Val} (h:¬ v.Ok):okV (some v)=none:=by unfold okV;simp [h]
theorem val_cases {v:Val} (h:v.Ok):(∃ n,v=numV n∧-9007199254740992≤n∧n≤9007199254740992)∨(∃ x y,v=pointV x y∧gOk x y=true)∨∃ s,v=textV s∧s.size≤256:=by
 obtain⟨k,n,t,x,y⟩:=v
 rcases h with ⟨h1,h2,h3,h4,h5,h6⟩ | ⟨h1,h2,h3,h4,h5,h6,h7⟩ | ⟨h1,h2,h3,h4,h5⟩
 ·simp only at h1 h2 h3 h4 h5 h6;subst h1;subst h2;subst h3;subst h4;exact .inl ⟨n,rfl,h5,h6⟩
 ·simp only at h1 h2 h3 h4 h5 h6 h7;subst h1;subst h2;subst h3;exact .inr (.inl ⟨x,y,rfl,gOk_iff.2 ⟨h4,h5,h6,h7⟩⟩)
 ·simp only at h1 h2 h3 h4 h5;subst h1;subst h2;subst h3;subst h4;exact .inr (.inr ⟨t,rfl,h5⟩)
theorem numV_ok {n:Int}:(numV n).Ok ↔ -9007199254740992≤n∧n≤9007199254740992:=by simp [Val.Ok,numV]
theorem textV_ok {s:ByteArray}:(textV s).Ok ↔ s.size≤256:=by simp [Val.Ok,textV]
theorem pointV_ok {x y:Int}:(pointV x y).Ok ↔ gOk x y=true:=by simp [Val.Ok,pointV,gOk]
theorem rcheck_p (x y:Int):Fn prog 51 [.agg (pointV x y).enc] [] [.int .i64 (gErr x y)] []:=by
 have h:=rcheck_fn Opq.id (pointV x y)
 rw[Opq.id.h] at h
 rwa [show Val.err (pointV x y)=gErr x y by
  unfold gErr Val.err
  rw[if_neg (by simp [pointV])]
  by_cases h:gOk x y=true
  ·rw[if_pos h,if_pos (pointV_ok.2 h)]
  ·rw[if_neg h,if_neg (fun q=>h (pointV_ok.1 q))]] at h
theorem epoint_n (n:Int):Fn prog 80 [.agg (numV n).enc] [] [.agg [.int .i64 n,.int .i64 0],.bool (gOk n 0)] []:=by
 have k1:=point_fn Opq.id n 0
 have k2:=rcheck_p n 0
 have hg:=@gErr_ok n 0
 have hb:=@gErr_bad n 0
 obtain⟨B,eB⟩:∃ B,B=gOk n 0:=⟨_,rfl⟩
 obtain⟨E,eE⟩:∃ E,E=gErr n 0:=⟨_,rfl⟩
 rw[← eB,← eE] at hg hb
 rw[← eE] at k2
 rw[← eB]
 clear eB eE
 cases B
 ·have hE:E=1:=hb (by decide)
  clear hg hb
  refine go (fn:=Proofs.Tryz.f80) (n:=19) (rv:=[ResultVar.cell 2 35,ResultVar.tmp 3]) rfl (by decide) rfl (by decide +kernel) rfl rfl (by simp) fun F L C=>?_
  cbv
  (repeat' first|(refine Na ?_ fun _ _=>?_;(focus lia);cbv)|(refine CallThen.mk _ _ (C.fn (k1)) ?_;cbv)|(refine CallThen.mk _ _ (C.fn (k2)) ?_;cbv)|(refine Nl fun _ _ hq=>?_;(try simp only [lenS] at hq);cbv)|(refine Nm fun _ _=>?_;cbv)|(refine Br.t ?_ ?_;(focus first|assumption|lia);cbv)|(refine Br.f ?_ ?_;(focus first|assumption|lia);cbv)|(refine Br.mk (fun _=>?_) (fun _=>?_)<;>cbv)|(refine Need.mk ?_ ?_;rotate_left;cbv)|(refine R0 ?_;cbv))
  all_goals first
   | exact⟨rfl,rfl,rfl,trivial⟩
   | (exfalso;clear k1 k2;lia)
   | trace_state
 ·have hE:E=0:=hg rfl
  clear hg hb
  refine go (fn:=Proofs.Tryz.f80) (n:=19) (rv:=[ResultVar.cell 2 35,ResultVar.tmp 3]) rfl (by decide) rfl (by decide +kernel) rfl rfl (by simp) fun F L C=>?_
  cbv
  (repeat' first|(refine Na ?_ fun _ _=>?_;(focus lia);cbv)|(refine CallThen.mk _ _ (C.fn (k1)) ?_;cbv)|(refine CallThen.mk _ _ (C.fn (k2)) ?_;cbv)|(refine Nl fun _ _ hq=>?_;(try simp only [lenS] at hq);cbv)|(refine Nm fun _ _=>?_;cbv)|(refine Br.t ?_ ?_;(focus first|assumption|lia);cbv)|(refine Br.f ?_ ?_;(focus first|assumption|lia);cbv)|(refine Br.mk (fun _=>?_) (fun _=>?_)<;>cbv)|(refine Need.mk ?_ ?_;rotate_left;cbv)|(refine R0 ?_;cbv))
  all_goals first
   | exact⟨rfl,rfl,rfl,trivial⟩
   | (exfalso;clear k1 k2;lia)
   | trace_state
theorem epoint_p {x y : Int} (h : gOk x y = true) : Fn prog 80 [.agg (pointV x y).enc] [] [.agg [.int .i64 x, .int .i64 y], .bool true] [] := by
  have k2 := rcheck_p x y
  rw [gErr_ok h] at k2
  clear h
  refine go (fn := Proofs.Tryz.f80) (n := 19) (rv := [ResultVar.cell 2 35, ResultVar.tmp 3]) rfl (by decide) rfl (by decide +kernel) rfl rfl (by simp) fun F L C => ?_
  cbv
  (repeat' first | (refine Named.i64 ?_ fun _ _ => ?_; (focus lia); cbv) | (refine CallThen.mk _ _ (C.fn (k2)) ?_; cbv) | (refine Named.len fun _ _ hq => ?_; (try simp only [List.length_append, List.length_take, List.length_drop, List.length_replicate, List.length_set] at hq); cbv) | (refine Named.mk fun _ _ => ?_; cbv) | (refine Br.t ?_ ?_; (focus first | assumption | lia); cbv) | (refine Br.f ?_ ?_; (focus first | assumption | lia); cbv) | (refine Br.mk (fun _ => ?_) (fun _ => ?_) <;> cbv) | (refine Need.mk ?_ ?_; rotate_left; cbv) | (refine RetThen.mk [] [] ?_; cbv))
  all_goals first
    | exact ⟨rfl, rfl, rfl, trivial⟩
    | (exfalso; clear k2; lia)
    | trace_state
/-! ### Sums, products -/
theorem two_tt1 {s t S:ByteArray} (hS:S=s++t) (hs:s.size≤256) (ht:t.size≤256) (h:s.size+t.size≤256):Fn prog 55 [.int .i64 3,.agg (textV s).enc,.agg (textV t).enc] [] [.agg (textV S).enc,.bool true] []:=by
 have k:=text_fn Opq.id S
 refine go (fn:=Proofs.Tryz.f55) (n:=140) (rv:=[ResultVar.cell 6 37,ResultVar.tmp 7]) rfl (by decide) rfl (by decide +kernel) rfl rfl (by simp) fun F L C=>?_
 cbv
 (repeat' first|(refine Named.atG S hS ?_;cbv)|(refine Na ?_ fun _ _=>?_;(focus lia);cbv)|(refine CallThen.mk _ _ (C.fn (k)) ?_;cbv)|(refine Nl fun _ _ hq=>?_;(try simp only [lenS] at hq);cbv)|(refine Nm fun _ _=>?_;cbv)|(refine Br.t ?_ ?_;(focus first|assumption|lia);cbv)|(refine Br.f ?_ ?_;(focus first|assumption|lia);cbv)|(refine Br.mk (fun _=>?_) (fun _=>?_)<;>cbv)|(refine Need.mk ?_ ?_;rotate_left;cbv)|(refine R0 ?_;cbv))
 all_goals first
  | exact⟨rfl,rfl,trivial⟩
  | exact⟨rfl,rfl,rfl,trivial⟩
  | exact⟨rfl,rfl,rfl,rfl,trivial⟩
  | exact⟨rfl,rfl,rfl,rfl,rfl,trivial⟩
  | exact⟨rfl,rfl,rfl,rfl,rfl,rfl,trivial⟩
  | (exfalso;clear k hS;lia)
  | (clear k hS;omega)
  | trace_state
theorem two_tt0 {s t S:ByteArray} (hS:S=s++t) (hs:s.size≤256) (ht:t.size≤256) (h:¬ s.size+t.size≤256):Fn prog 55 [.int .i64 3,.agg (textV s).enc,.agg (textV t).enc] [] [.agg (textV S).enc,.bool false] []:=by
 have k:=text_fn Opq.id S
 refine go (fn:=Proofs.Tryz.f55) (n:=140) (rv:=[ResultVar.cell 6 37,ResultVar.tmp 7]) rfl (by decide) rfl (by decide +kernel) rfl rfl (by simp) fun F L C=>?_
 cbv
 (repeat' first|(refine Named.atG S hS ?_;cbv)|(refine Na ?_ fun _ _=>?_;(focus lia);cbv)|(refine CallThen.mk _ _ (C.fn (k)) ?_;cbv)|(refine Nl fun _ _ hq=>?_;(try simp only [lenS] at hq);cbv)|(refine Nm fun _ _=>?_;cbv)|(refine Br.t ?_ ?_;(focus first|assumption|lia);cbv)|(refine Br.f ?_ ?_;(focus first|assumption|lia);cbv)|(refine Br.mk (fun _=>?_) (fun _=>?_)<;>cbv)|(refine Need.mk ?_ ?_;rotate_left;cbv)|(refine R0 ?_;cbv))
 all_goals first
  | exact⟨rfl,rfl,trivial⟩
  | exact⟨rfl,rfl,rfl,trivial⟩
  | exact⟨rfl,rfl,rfl,rfl,trivial⟩
  | exact⟨rfl,rfl,rfl,rfl,rfl,trivial⟩
  | exact⟨rfl,rfl,rfl,rfl,rfl,rfl,trivial⟩
  | (exfalso;clear k hS;lia)
  | (clear k hS;omega)
  | trace_state
theorem two_tx {k:Int} (hk:k=3∨k=4) {s S:ByteArray} (hS:S=s++ByteArray.empty) (hs:s.size≤256) {b:Val} (hb:b.kind=1∨b.kind=3) (hx:b.text=ByteArray.empty):Fn prog 55 [.int .i64 k,.agg (textV s).enc,.agg b.enc] [] [.agg (textV S).enc,.bool false] []:=by
 obtain⟨b1,b2,b3,b4,b5⟩:=b;have hx:b3=ByteArray.empty:=hx;subst hx;have hb:b1=1∨b1=3:=hb;have k1:=text_fn Opq.id S
 refine go (fn:=Proofs.Tryz.f55) (n:=140) (rv:=[ResultVar.cell 6 37,ResultVar.tmp 7]) rfl (by decide) rfl (by decide +kernel) rfl rfl (by simp) fun F L C=>?_
 cbv
 (repeat' first|(refine Named.atG S hS ?_;cbv)|(refine Na ?_ fun _ _=>?_;(focus lia);cbv)|(refine CallThen.mk _ _ (C.fn (k1)) ?_;cbv)|(refine Nl fun _ _ hq=>?_;(try simp only [lenS] at hq);cbv)|(refine Nm fun _ _=>?_;cbv)|(refine Br.t ?_ ?_;(focus first|assumption|lia);cbv)|(refine Br.f ?_ ?_;(focus first|assumption|lia);cbv)|(refine Br.mk (fun _=>?_) (fun _=>?_)<;>cbv)|(refine Need.mk ?_ ?_;rotate_left;cbv)|(refine R0 ?_;cbv))
 all_goals first
  | exact⟨rfl,rfl,trivial⟩
  | exact⟨rfl,rfl,rfl,trivial⟩
  | exact⟨rfl,rfl,rfl,rfl,trivial⟩
  | exact⟨rfl,rfl,rfl,rfl,rfl,trivial⟩
  | exact⟨rfl,rfl,rfl,rfl,rfl,rfl,trivial⟩
  | (exfalso;clear k1 hS;lia)
  | (clear k1 hS;simp only [emp,ByteArray.size_empty];omega)
  | trace_state
theorem two_xt {k:Int} (hk:k=3∨k=4) {s S:ByteArray} (hS:S=ByteArray.empty++s) (hs:s.size≤256) {a:Val} (hb:a.kind=1∨a.kind=3) (hx:a.text=ByteArray.empty):Fn prog 55 [.int .i64 k,.agg a.enc,.agg (textV s).enc] [] [.agg (textV S).enc,.bool false] []:=by
 obtain⟨b1,b2,b3,b4,b5⟩:=a;have hx:b3=ByteArray.empty:=hx;subst hx;have hb:b1=1∨b1=3:=hb;have k1:=text_fn Opq.id S
 refine go (fn:=Proofs.Tryz.f55) (n:=140) (rv:=[ResultVar.cell 6 37,ResultVar.tmp 7]) rfl (by decide) rfl (by decide +kernel) rfl rfl (by simp) fun F L C=>?_
 cbv
 (repeat' first|(refine Named.atG S hS ?_;cbv)|(refine Na ?_ fun _ _=>?_;(focus lia);cbv)|(refine CallThen.mk _ _ (C.fn (k1)) ?_;cbv)|(refine Nl fun _ _ hq=>?_;(try simp only [lenS] at hq);cbv)|(refine Nm fun _ _=>?_;cbv)|(refine Br.t ?_ ?_;(focus first|assumption|lia);cbv)|(refine Br.f ?_ ?_;(focus first|assumption|lia);cbv)|(refine Br.mk (fun _=>?_) (fun _=>?_)<;>cbv)|(refine Need.mk ?_ ?_;rotate_left;cbv)|(refine R0 ?_;cbv))
 all_goals first
  | exact⟨rfl,rfl,trivial⟩
  | exact⟨rfl,rfl,rfl,trivial⟩
  | exact⟨rfl,rfl,rfl,rfl,trivial⟩
  | exact⟨rfl,rfl,rfl,rfl,rfl,trivial⟩
  | exact⟨rfl,rfl,rfl,rfl,rfl,rfl,trivial⟩
  | (exfalso;clear k1 hS;lia)
  | (clear k1 hS;simp only [emp,ByteArray.size_empty];omega)
  | trace_state
theorem two_tt4 {s t S:ByteArray} (hS:S=s++t) (hs:s.size≤256) (ht:t.size≤256):Fn prog 55 [.int .i64 4,.agg (textV s).enc,.agg (textV t).enc] [] [.agg (textV S).enc,.bool false] []:=by
 have k:=text_fn Opq.id S
 refine go (fn:=Proofs.Tryz.f55) (n:=140) (rv:=[ResultVar.cell 6 37,ResultVar.tmp 7]) rfl (by decide) rfl (by decide +kernel) rfl rfl (by simp) fun F L C=>?_
 cbv
 (repeat' first|(refine Named.atG S hS ?_;cbv)|(refine Na ?_ fun _ _=>?_;(focus lia);cbv)|(refine CallThen.mk _ _ (C.fn (k)) ?_;cbv)|(refine Nl fun _ _ hq=>?_;(try simp only [lenS] at hq);cbv)|(refine Nm fun _ _=>?_;cbv)|(refine Br.t ?_ ?_;(focus first|assumption|lia);cbv)|(refine Br.f ?_ ?_;(focus first|assumption|lia);cbv)|(refine Br.mk (fun _=>?_) (fun _=>?_)<;>cbv)|(refine Need.mk ?_ ?_;rotate_left;cbv)|(refine R0 ?_;cbv))
 all_goals first
  | exact⟨rfl,rfl,trivial⟩
  | exact⟨rfl,rfl,rfl,trivial⟩
  | exact⟨rfl,rfl,rfl,rfl,trivial⟩
  | exact⟨rfl,rfl,rfl,rfl,rfl,trivial⟩
  | exact⟨rfl,rfl,rfl,rfl,rfl,rfl,trivial⟩
  | (exfalso;clear k hS;lia)
  | (clear k hS;omega)
  | trace_state
theorem two_nn3 {m n:Int} (hm:-9007199254740992≤m∧m≤9007199254740992) (hn:-9007199254740992≤n∧n≤9007199254740992) {q:Int} (hq:q=m+n):Fn prog 55 [.int .i64 3,.agg (numV m).enc,.agg (numV n).enc] [] [.agg (numV q).enc,.bool true] []:=by
 have k:=num_fn Opq.id q;have nq:q=IntKind.i64.wrap (m+n):=by rw[wrap64 (by omega)];exact hq
 refine go (fn:=Proofs.Tryz.f55) (n:=140) (rv:=[ResultVar.cell 6 37,ResultVar.tmp 7]) rfl (by decide) rfl (by decide +kernel) rfl rfl (by simp) fun F L C=>?_
 cbv
 (repeat' first|(refine Named.atG q nq ?_;cbv)|(refine Na ?_ fun _ _=>?_;(focus lia);cbv)|(refine CallThen.mk _ _ (C.fn (k)) ?_;cbv)|(refine Nl fun _ _ hq=>?_;(try simp only [lenS] at hq);cbv)|(refine Nm fun _ _=>?_;cbv)|(refine Br.t ?_ ?_;(focus first|assumption|lia);cbv)|(refine Br.f ?_ ?_;(focus first|assumption|lia);cbv)|(refine Br.mk (fun _=>?_) (fun _=>?_)<;>cbv)|(refine Need.mk ?_ ?_;rotate_left;cbv)|(refine R0 ?_;cbv))
 all_goals first
  | exact⟨rfl,rfl,trivial⟩
  | exact⟨rfl,rfl,rfl,trivial⟩
  | exact⟨rfl,rfl,rfl,rfl,trivial⟩
  | exact⟨rfl,rfl,rfl,rfl,rfl,trivial⟩
  | exact⟨rfl,rfl,rfl,rfl,rfl,rfl,trivial⟩
  | (exfalso;clear k nq;lia)
  | trace_state
  | trace_state
theorem two_nn0 {n:Int} (hn:-9007199254740992≤n∧n≤9007199254740992) {q:Int} (hq:q=0):Fn prog 55 [.int .i64 4,.agg (numV 0).enc,.agg (numV n).enc] [] [.agg (numV q).enc,.bool true] []:=by
 have k:=num_fn Opq.id q;have nq:q=IntKind.i64.wrap (0 * n):=by rw[Int.zero_mul,hq];rfl
 refine go (fn:=Proofs.Tryz.f55) (n:=140) (rv:=[ResultVar.cell 6 37,ResultVar.tmp 7]) rfl (by decide) rfl (by decide +kernel) rfl rfl (by simp) fun F L C=>?_
 cbv
 (repeat' first|(refine Named.atG q nq ?_;cbv)|(refine Na ?_ fun _ _=>?_;(focus lia);cbv)|(refine CallThen.mk _ _ (C.fn (k)) ?_;cbv)|(refine Nl fun _ _ hq=>?_;(try simp only [lenS] at hq);cbv)|(refine Nm fun _ _=>?_;cbv)|(refine Br.t ?_ ?_;(focus first|assumption|lia);cbv)|(refine Br.f ?_ ?_;(focus first|assumption|lia);cbv)|(refine Br.mk (fun _=>?_) (fun _=>?_)<;>cbv)|(refine Need.mk ?_ ?_;rotate_left;cbv)|(refine R0 ?_;cbv))
 all_goals first
  | exact⟨rfl,rfl,trivial⟩
  | exact⟨rfl,rfl,rfl,trivial⟩
  | exact⟨rfl,rfl,rfl,rfl,trivial⟩
  | exact⟨rfl,rfl,rfl,rfl,rfl,trivial⟩
  | exact⟨rfl,rfl,rfl,rfl,rfl,rfl,trivial⟩
  | (exfalso;clear k nq;lia)
  | trace_state
  | trace_state
theorem two_nnT {m n:Int} (hm:m≠0) {q r:Int} (hq:q=IntKind.i64.wrap (m * n)) (hr:r=IntKind.i64.wrap (q.tdiv m)) (h:r=n):Fn prog 55 [.int .i64 4,.agg (numV m).enc,.agg (numV n).enc] [] [.agg (numV q).enc,.bool true] []:=by
 have k:=num_fn Opq.id q
 refine go (fn:=Proofs.Tryz.f55) (n:=140) (rv:=[ResultVar.cell 6 37,ResultVar.tmp 7]) rfl (by decide) rfl (by decide +kernel) rfl rfl (by simp) fun F L C=>?_
 cbv
 (repeat' first|(refine Named.atG q hq ?_;cbv)|(refine Named.atG r hr ?_;cbv)|(refine Na ?_ fun _ _=>?_;(focus lia);cbv)|(refine CallThen.mk _ _ (C.fn (k)) ?_;cbv)|(refine Nl fun _ _ hq=>?_;(try simp only [lenS] at hq);cbv)|(refine Nm fun _ _=>?_;cbv)|(refine Br.t ?_ ?_;(focus first|assumption|lia);cbv)|(refine Br.f ?_ ?_;(focus first|assumption|lia);cbv)|(refine Br.mk (fun _=>?_) (fun _=>?_)<;>cbv)|(refine Need.mk ?_ ?_;rotate_left;cbv)|(refine R0 ?_;cbv))
 all_goals first
  | exact⟨rfl,rfl,trivial⟩
  | exact⟨rfl,rfl,rfl,trivial⟩
  | exact⟨rfl,rfl,rfl,rfl,trivial⟩
  | exact⟨rfl,rfl,rfl,rfl,rfl,trivial⟩
  | exact⟨rfl,rfl,rfl,rfl,rfl,rfl,trivial⟩
  | (exfalso;clear k hq hr;lia)
  | exact hm
  | trace_state
theorem two_nnF {m n:Int} (hm:m≠0) {q r:Int} (hq:q=IntKind.i64.wrap (m * n)) (hr:r=IntKind.i64.wrap (q.tdiv m)) (h:¬ r=n):Fn prog 55 [.int .i64 4,.agg (numV m).enc,.agg (numV n).enc] [] [.agg (numV q).enc,.bool false] []:=by
 have k:=num_fn Opq.id q
 refine go (fn:=Proofs.Tryz.f55) (n:=140) (rv:=[ResultVar.cell 6 37,ResultVar.tmp 7]) rfl (by decide) rfl (by decide +kernel) rfl rfl (by simp) fun F L C=>?_
 cbv
 (repeat' first|(refine Named.atG q hq ?_;cbv)|(refine Named.atG r hr ?_;cbv)|(refine Na ?_ fun _ _=>?_;(focus lia);cbv)|(refine CallThen.mk _ _ (C.fn (k)) ?_;cbv)|(refine Nl fun _ _ hq=>?_;(try simp only [lenS] at hq);cbv)|(refine Nm fun _ _=>?_;cbv)|(refine Br.t ?_ ?_;(focus first|assumption|lia);cbv)|(refine Br.f ?_ ?_;(focus first|assumption|lia);cbv)|(refine Br.mk (fun _=>?_) (fun _=>?_)<;>cbv)|(refine Need.mk ?_ ?_;rotate_left;cbv)|(refine R0 ?_;cbv))
 all_goals first
  | exact⟨rfl,rfl,trivial⟩
  | exact⟨rfl,rfl,rfl,trivial⟩
  | exact⟨rfl,rfl,rfl,rfl,trivial⟩
  | exact⟨rfl,rfl,rfl,rfl,rfl,trivial⟩
  | exact⟨rfl,rfl,rfl,rfl,rfl,rfl,trivial⟩
  | (exfalso;clear k hq hr;lia)
  | exact hm
  | trace_state
theorem two_np3 {n x y:Int}:Fn prog 55 [.int .i64 3,.agg (numV n).enc,.agg (pointV x y).enc] [] [.agg zeroV.enc,.bool false] []:=by
 skip
 refine go (fn:=Proofs.Tryz.f55) (n:=140) (rv:=[ResultVar.cell 6 37,ResultVar.tmp 7]) rfl (by decide) rfl (by decide +kernel) rfl rfl (by simp) fun F L C=>?_
 cbv
 (repeat' first|(refine Na ?_ fun _ _=>?_;(focus lia);cbv)|(refine Nl fun _ _ hq=>?_;(try simp only [lenS] at hq);cbv)|(refine Nm fun _ _=>?_;cbv)|(refine Br.t ?_ ?_;(focus first|assumption|lia);cbv)|(refine Br.f ?_ ?_;(focus first|assumption|lia);cbv)|(refine Br.mk (fun _=>?_) (fun _=>?_)<;>cbv)|(refine Need.mk ?_ ?_;rotate_left;cbv)|(refine R0 ?_;cbv))
 all_goals first
  | exact⟨rfl,rfl,trivial⟩
  | exact⟨rfl,rfl,rfl,trivial⟩
  | exact⟨rfl,rfl,rfl,rfl,trivial⟩
  | exact⟨rfl,rfl,rfl,rfl,rfl,trivial⟩
  | exact⟨rfl,rfl,rfl,rfl,rfl,rfl,trivial⟩
  | (exfalso;skip;lia)
  | trace_state
  | trace_state
theorem two_pn3 {n x y:Int}:Fn prog 55 [.int .i64 3,.agg (pointV x y).enc,.agg (numV n).enc] [] [.agg zeroV.enc,.bool false] []:=by
 skip
 refine go (fn:=Proofs.Tryz.f55) (n:=140) (rv:=[ResultVar.cell 6 37,ResultVar.tmp 7]) rfl (by decide) rfl (by decide +kernel) rfl rfl (by simp) fun F L C=>?_
 cbv
 (repeat' first|(refine Na ?_ fun _ _=>?_;(focus lia);cbv)|(refine Nl fun _ _ hq=>?_;(try simp only [lenS] at hq);cbv)|(refine Nm fun _ _=>?_;cbv)|(refine Br.t ?_ ?_;(focus first|assumption|lia);cbv)|(refine Br.f ?_ ?_;(focus first|assumption|lia);cbv)|(refine Br.mk (fun _=>?_) (fun _=>?_)<;>cbv)|(refine Need.mk ?_ ?_;rotate_left;cbv)|(refine R0 ?_;cbv))
 all_goals first
  | exact⟨rfl,rfl,trivial⟩
  | exact⟨rfl,rfl,rfl,trivial⟩
  | exact⟨rfl,rfl,rfl,rfl,trivial⟩
  | exact⟨rfl,rfl,rfl,rfl,rfl,trivial⟩
  | exact⟨rfl,rfl,rfl,rfl,rfl,rfl,trivial⟩
  | (exfalso;skip;lia)
  | trace_state
  | trace_state
end Go.Sym
