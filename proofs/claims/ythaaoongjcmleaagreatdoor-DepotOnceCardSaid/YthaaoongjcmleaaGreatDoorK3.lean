/- A feed is checked. -/
import Derived.Test.YthaaoongjcmleaaGreatDoorJ13
import Derived.Test.YthaaoongjcmleaaGreatDoorK2
set_option linter.all false
set_option linter.unusedVariables false
set_option linter.unusedSimpArgs false
namespace Go.Sym
open Go Go.Proofs.Tryz
set_option maxRecDepth 100000
set_option maxHeartbeats 4000000 in
theorem fcheckB_fn (O:Opq) (f:Feed) (hl:f.changes.length≤1099511627776) (hs:f.subs.length≤1099511627776) (hd:∀ c∈f.changes,inC c∧c.doc.length≤1099511627776):Fn prog 87 [.agg (f.encB O true true)] [] [.int .i64 (O.o feedErr f)] []:=by
  have hl1:=Chs.len O f.changes
  have hl2:=Subs.len O f.subs
  have hbad:¬ headF f→O.o feedErr f=1:=fun h=>by rw[O.h];exact feedErr_one (mayF_head h)
  obtain⟨N,hN⟩:∃ N:Nat,N=f.changes.length:=⟨_,rfl⟩
  obtain⟨M,hM⟩:∃ N:Nat,N=f.subs.length:=⟨_,rfl⟩
  obtain⟨z,hz⟩:∃ z:Nat,z=0:=⟨_,rfl⟩
  refine go (fn:=Proofs.Tryz.f87) (n:=121) (rv:=[ResultVar.tmp 2]) rfl (by decide) rfl (by decide +kernel) rfl rfl (by simp) fun F L C=>?_
  cbv
  (repeat' first|(refine Na ?_ fun _ _=>?_;(focus lia);cbv)|(refine Nl fun _ _ hq=>?_;(try simp only [lenS] at hq);cbv)|(refine Nm fun _ _=>?_;cbv)|(refine Br.t ?_ ?_;(focus first|assumption|lia);cbv)|(refine Br.f ?_ ?_;(focus first|assumption|lia);cbv)|(refine Br.mk (fun _=>?_) (fun _=>?_)<;>cbv)|(refine Need.mk ?_ ?_;rotate_left;cbv)|(refine R0 ?_;cbv))
  all_goals try first
    | lia
    | (refine⟨hbad fun h=>?_,trivial⟩;obtain⟨q1,q2,q3,q4,q5⟩:=h;lia)
  have hh:headF f:=⟨by lia,by lia,by lia,by lia,by lia⟩
  have hb0:=hh.1
  have hb1:f.base≤2147483647:=by have:=hh.2.1;have:=hh.2.2.1;omega
  refine LoopThen.mk (C.loopAt (ι:=Nat) [(2,4),(42,78)] (fun k=>[(2,.int .i64 0),(42,.int .i64 k)]) (fun _=>[(192,.box (f.encB O true true))])
    (fun k=>k≤f.changes.length∧allC f k) (fun k=>N-k) (by decide +kernel) (Start.mk z [] [] ⟨by lia,by rw[hz];exact allC_zero f⟩ (by cbv;(repeat' apply And.intro)<;>first|exact True.intro|exact WkR.refl _|rfl|lia)) ?_)
  intro k g
  cbv
  have g1:k≤f.changes.length:=g.1
  have g2:allC f k:=g.2
  clear g
  by_cases hk:k<f.changes.length
  · obtain⟨x,hx⟩:∃ x,f.changes[k]?=some x:=⟨f.changes[k],by simp [hk]⟩
    have hi:=hd x (List.mem_of_getElem? hx)
    have hc:¬ okC f.base x k→O.o feedErr f=1:=fun h=>by rw[O.h];exact feedErr_one (mayF_badC hx h)
    have hst:okC f.base x k→allC f (k+1):=allC_step g2 hx
    have hi1:=hi.1
    have hi2:=hi.2
    clear hbad hd g2 hi
    obtain⟨p,key,has,doc⟩:=x
    have hp:∀ n:Int,n=k+1→(IntKind.i64.wrap (p-f.base)=n ↔ p=f.base+n):=fun n hn=>wrap_pos hi1 hb0 hb1 (by omega) (by omega)
    have hn0:O.o docErr doc=0 ↔ may doc=true:=by rw[O.h,docErr_zero]
    have hn1:O.o isKey key=isKey key:=by rw[O.h]
    have hn2:(O.o Doc.enc doc).length=doc.length:=by rw[O.h,Doc.enc_len]
    have hn3:doc=[] ↔ doc.length=0:=by simp
    cases has<;>(repeat' first|(refine Na ?_ fun _ _=>?_;(focus lia);cbv)|(refine Ex.known O (Change.enc O) rfl hx ?_ ?_;(focus lia);cbv)|(refine CallThen.bool (C.fn (key_fn O key)) (fun _=>?_) (fun _=>?_)<;>cbv)|(refine CallThen.mk _ _ (C.fn (check_fn O doc hi2)) ?_;cbv)|(refine Back.up [] [] ?_ ?_ fun _ _=>?_;rotate_left 2;cbv;refine And.intro ?_ ?_)|(refine Nl fun _ _ hq=>?_;(try simp only [lenS] at hq);cbv)|(refine Nm fun _ _=>?_;cbv)|(refine Br.t ?_ ?_;(focus first|assumption|lia);cbv)|(refine Br.f ?_ ?_;(focus first|assumption|lia);cbv)|(refine Br.mk (fun _=>?_) (fun _=>?_)<;>cbv)|(refine Need.mk ?_ ?_;rotate_left;cbv)|(refine R0 ?_;cbv))
    all_goals(repeat' apply And.intro)
    all_goals try first
      | exact True.intro
      | exact WkR.refl _
      | lia
    all_goals try first
      | (refine hc fun h=>?_;obtain⟨a1,a2,a3,a4⟩:=h;simp only at a1 a2 a3 a4;clear hc hst hx;grind)
      | (refine hst ⟨?_,?_,?_,?_⟩<;>simp only<;>clear hc hst hx<;>grind)
    all_goals trace_state
  · clear hbad
    (repeat' first|(refine Na ?_ fun _ _=>?_;(focus lia);cbv)|(refine Nl fun _ _ hq=>?_;(try simp only [lenS] at hq);cbv)|(refine Nm fun _ _=>?_;cbv)|(refine Br.t ?_ ?_;(focus first|assumption|lia);cbv)|(refine Br.f ?_ ?_;(focus first|assumption|lia);cbv)|(refine Br.mk (fun _=>?_) (fun _=>?_)<;>cbv)|(refine Need.mk ?_ ?_;rotate_left;cbv)|(refine R0 ?_;cbv))
    all_goals try lia
    have hal:allC f f.changes.length:=by
      have:k=f.changes.length:=by lia
      rwa [← this]
    refine LoopThen.mk (C.loopAt (ι:=Nat) [(2,2),(5,6),(82,121)] (fun k=>[(2,.int .i64 0),(82,.int .i64 k)]) (fun _=>[(192,.box (f.encB O true true))])
      (fun k=>k≤f.subs.length∧allS f k) (fun k=>M-k) (by decide +kernel) (Start.mk z [] [] ⟨by lia,by rw[hz];exact allS_zero f⟩ (by cbv;(repeat' apply And.intro)<;>first|exact True.intro|exact WkR.refl _|rfl|lia)) ?_)
    intro i g
    cbv
    have g3:i≤f.subs.length:=g.1
    have g4:allS f i:=g.2
    clear g g2
    by_cases hi:i<f.subs.length
    · obtain⟨x,hx⟩:∃ x,f.subs[i]?=some x:=⟨f.subs[i],by simp [hi]⟩
      obtain⟨y,hy⟩:∃ y,f.subs[i-1]?=some y:=⟨f.subs[i-1],by simp⟩
      have hc:¬ okS f.base f.total f.subs x i→O.o feedErr f=1:=fun h=>by rw[O.h];exact feedErr_one (mayF_badS hx h)
      have hst:okS f.base f.total f.subs x i→allS f (i+1):=allS_step g4 hx
      clear g4 hal hd hh
      obtain⟨nm,p⟩:=x
      obtain⟨nm2,p2⟩:=y
      have hn1:O.o isKey nm=isKey nm:=by rw[O.h]
      (repeat' first|(refine Na ?_ fun _ _=>?_;(focus lia);cbv)|(refine Ex.known O Sub.enc rfl hx ?_ ?_;(focus lia);cbv)|(refine Ex.known O Sub.enc rfl hy ?_ ?_;(focus lia);cbv)|(refine CallThen.bool (C.fn (key_fn O nm)) (fun _=>?_) (fun _=>?_)<;>cbv)|(refine Back.up [] [] ?_ ?_ fun _ _=>?_;rotate_left 2;cbv;refine And.intro ?_ ?_)|(refine Nl fun _ _ hq=>?_;(try simp only [lenS] at hq);cbv)|(refine Nm fun _ _=>?_;cbv)|(refine Br.t ?_ ?_;(focus first|assumption|lia);cbv)|(refine Br.f ?_ ?_;(focus first|assumption|lia);cbv)|(refine Br.mk (fun _=>?_) (fun _=>?_)<;>cbv)|(refine Need.mk ?_ ?_;rotate_left;cbv)|(refine R0 ?_;cbv))
      all_goals(repeat' apply And.intro)
      all_goals try first
        | exact True.intro
        | exact WkR.refl _
        | lia
      all_goals try first
        | (refine hc fun h=>?_;obtain⟨a1,a2,a3,a4⟩:=h;simp only at a1 a2 a3 a4;first|(clear hc hst hx hy a4;grind)|(obtain⟨g,hg,hgs⟩:=a4 (by lia);rw[hy] at hg;cases hg;clear hc hst hx hy a4;grind [slt_asymm,slt_irrefl]))
        | (refine hst ⟨?_,?_,?_,fun h0=>⟨_,hy,?_⟩⟩<;>simp only<;>clear hc hst hx hy<;>first|lia|grind|exact slt_not (by assumption)|skip)
      all_goals trace_state
    · (repeat' first|(refine Na ?_ fun _ _=>?_;(focus lia);cbv)|(refine Nl fun _ _ hq=>?_;(try simp only [lenS] at hq);cbv)|(refine Nm fun _ _=>?_;cbv)|(refine Br.t ?_ ?_;(focus first|assumption|lia);cbv)|(refine Br.f ?_ ?_;(focus first|assumption|lia);cbv)|(refine Br.mk (fun _=>?_) (fun _=>?_)<;>cbv)|(refine Need.mk ?_ ?_;rotate_left;cbv)|(refine R0 ?_;cbv))
      all_goals try lia
      all_goals
        refine⟨?_,trivial⟩
        simp only [O.h]
        rw [feedErr, if_pos (mayF_iff.2 ⟨hh, hal, by have : i = f.subs.length := by lia
                                                     rwa [← this]⟩)]
theorem feed_wk {O:Opq} {f:Feed} {b1 b2 f1 f2:Bool} {n1 n2:Nat} (h1:b1=true∨n1=0) (h2:b2=true∨n2=0):WkA (.agg (f.encB O true true)) (.agg [.int .i64 f.base,.int .i64 f.total,.sl b1 n1 f1 4 (O.o (Chs.enc O) f.changes),.sl b2 n2 f2 2 (O.o Subs.enc f.subs)]):=by
  refine .agg' (.cons (.refl _) (.cons (.refl _) (.cons ?_ (.cons ?_ .nil))))
  · cases b1 with
    | true=>exact .bor (by cases f1<;>rfl) (.refl _)
    | false => obtain rfl : n1 = 0 := by simpa using h1
               exact .lend (by cases f1<;>rfl)
  · cases b2 with
    | true=>exact .bor (by cases f2<;>rfl) (.refl _)
    | false => obtain rfl : n2 = 0 := by simpa using h2
               exact .lend (by cases f2<;>rfl)
theorem fcheckA_fn (O:Opq) (f:Feed) {b1 b2 f1 f2:Bool} {n1 n2:Nat} (h1:b1=true∨n1=0) (h2:b2=true∨n2=0) (hl:f.changes.length≤1099511627776) (hs:f.subs.length≤1099511627776) (hd:∀ c∈f.changes,inC c∧c.doc.length≤1099511627776) :
  Fn prog 87 [.agg [.int .i64 f.base,.int .i64 f.total,.sl b1 n1 f1 4 (O.o (Chs.enc O) f.changes),.sl b2 n2 f2 2 (O.o Subs.enc f.subs)]] [] [.int .i64 (O.o feedErr f)] [] :=
 (fcheckB_fn O f hl hs hd).wkA (.cons (feed_wk h1 h2) .nil)
theorem fcheck_fn (O:Opq) (f:Feed) (hl:f.changes.length≤1099511627776) (hs:f.subs.length≤1099511627776) (hd:∀ c∈f.changes,inC c∧c.doc.length≤1099511627776):Fn prog 87 [.agg (f.enc O)] [] [.int .i64 (O.o feedErr f)] [] :=
 fcheckA_fn O f (.inr rfl) (.inr rfl) hl hs hd
theorem atS1_fn (O:Opq) (s:Sub) (p:ByteArray):Fn prog 150 [.agg s.enc,.str p] [] [.int .i64 (O.o (cmpK Sub.name) s p)] []:=by
 refine go (fn:=Proofs.Tryz.f150) (n:=7) (rv:=[ResultVar.tmp 4]) rfl (by decide) rfl (by decide +kernel) rfl rfl (by simp) fun F L C=>?_
 cbv
 (repeat' first|(refine Na ?_ fun _ _=>?_;(focus lia);cbv)|(refine CallThen.mk _ _ (C.fn (cmp_fn O _ _)) ?_;cbv)|(refine Nl fun _ _ hq=>?_;(try simp only [lenS] at hq);cbv)|(refine Nm fun _ _=>?_;cbv)|(refine Br.t ?_ ?_;(focus first|assumption|lia);cbv)|(refine Br.f ?_ ?_;(focus first|assumption|lia);cbv)|(refine Br.mk (fun _=>?_) (fun _=>?_)<;>cbv)|(refine Need.mk ?_ ?_;rotate_left;cbv)|(refine R0 ?_;cbv))
 all_goals exact⟨by simp only [O.h];rfl,trivial⟩
theorem bsearchS_fn (O:Opq) (bo:Bool) (d:List Sub) (p:ByteArray) (hd:d.length≤1099511627776) (hs:sortedK Sub.name d):Fn prog 149 [.sl bo 0 false 2 (O.o Subs.enc d),.str p,.fn 150 [] []] [] [.int .i64 (O.o (posKZ Sub.name) d p),.bool (O.o (getK Sub.name) d p)] []:=by
 have hlen:=Subs.len O d
 obtain⟨N,hN⟩:∃ N:Nat,N=d.length:=⟨_,rfl⟩
 cases bo
 all_goals
  refine go (fn:=Proofs.Tryz.f149) (n:=46) (rv:=[ResultVar.tmp 6,ResultVar.tmp 7]) rfl (by decide) rfl (by decide +kernel) rfl rfl (by simp) fun F L C=>?_
  cbv
  (repeat' first|(refine Na ?_ fun _ _=>?_;(focus lia);cbv)|(refine Nl fun _ _ hq=>?_;(try simp only [lenS] at hq);cbv)|(refine Nm fun _ _=>?_;cbv)|(refine Br.t ?_ ?_;(focus first|assumption|lia);cbv)|(refine Br.f ?_ ?_;(focus first|assumption|lia);cbv)|(refine Br.mk (fun _=>?_) (fun _=>?_)<;>cbv)|(refine Need.mk ?_ ?_;rotate_left;cbv)|(refine R0 ?_;cbv))
  refine LoopThen.mk (C.loopAt (ι:=Int×Int) [(9,11),(15,34)] (fun x=>[(9,.int .i64 x.1),(10,.int .i64 x.2)]) (fun _=>[])
   (fun x=>0≤x.1∧x.1≤x.2∧x.2≤d.length∧(∀ (j:Nat) y,j<x.1→d[j]?=some y→slt y.name p)∧(∀ (j:Nat) y,x.2≤j→d[j]?=some y→¬ slt y.name p)) (fun x=>(x.2-x.1).toNat) (by decide +kernel) (Start.mk (0,(N:Int)) [] [] (by refine⟨by simp,by simp,by simp [hN],fun j y h=>by simp at h;omega,fun j y h1 h2=>?_⟩;have:=(List.getElem?_eq_some_iff.1 h2).1;simp at h1;omega) (by cbv;(repeat' apply And.intro)<;>first|exact True.intro|exact WkR.refl _|rfl|lia)) ?_)
  rintro ⟨i,j⟩ g
  cbv
  obtain⟨h1,h2,h3,h4,h5⟩:=g
  simp only at h1 h2 h3 h4 h5
  (repeat' first|(refine Na ?_ fun _ _=>?_;(focus lia);cbv)|(refine Named.u64 ?_ fun _ _=>?_;(focus lia);cbv)|(refine Named.half fun _ _=>?_;cbv)|(refine Ex.map O Sub.enc rfl ?_ fun x hx=>?_;rotate_left;obtain⟨q,k'⟩:=x;cbv)|(refine CallThen.mk _ _ (C.fn (atS1_fn O ⟨_,_⟩ _)) ?_;cbv)|(apply Back.of (i:=(_,_)) [] [];(focus(cbv;(repeat' apply And.intro)<;>first|exact True.intro|exact WkR.refl _|rfl)))|(refine Nl fun _ _ hq=>?_;(try simp only [lenS] at hq);cbv)|(refine Nm fun _ _=>?_;cbv)|(refine Br.t ?_ ?_;(focus first|assumption|lia);cbv)|(refine Br.f ?_ ?_;(focus first|assumption|lia);cbv)|(refine Br.mk (fun _=>?_) (fun _=>?_)<;>cbv)|(refine Need.mk ?_ ?_;rotate_left;cbv)|(refine R0 ?_;cbv))
  all_goals(try subst_vars)
  all_goals simp only [O.h,cmpK_lt,cmpK_eq] at *
  all_goals(repeat' apply And.intro)
  all_goals first
   | exact True.intro
   | lia
   | assumption
   | (refine bsK_lo hs ?_ (by assumption) (by assumption);lia)
   | (refine bsK_hi hs ?_ (by assumption) (by assumption);lia)
   | exact posKZ_at h1 (by lia) h4 (fun k y hk=>h5 k y (by lia))
   | exact(getK_at h1 (by assumption) hs h4 (fun k y hk=>h5 k y (by lia))).2 (by assumption)
   | (cases hb:getK Sub.name d p with
     | false=>rfl
     | true=>exact absurd ((getK_at h1 (by assumption) hs h4 (fun k y hk=>h5 k y (by lia))).1 hb) (by assumption))
   | exact getK_end (by lia) h4
   | trace_state
theorem atS_fn (O:Opq) (bo:Bool) (f:Feed) (p:ByteArray) (hd:f.subs.length≤1099511627776) (hs:sortedK Sub.name f.subs):Fn prog 131 [.agg (f.encB O false bo),.str p] [] [.int .i64 (O.o (posKZ Sub.name) f.subs p),.bool (O.o (getK Sub.name) f.subs p)] []:=by
 cases bo
 all_goals
  refine go (fn:=Proofs.Tryz.f131) (n:=10) (rv:=[ResultVar.tmp 4,ResultVar.tmp 5]) rfl (by decide) rfl (by decide +kernel) rfl rfl (by simp) fun F L C=>?_
  cbv
  (repeat' first|(refine Na ?_ fun _ _=>?_;(focus lia);cbv)|(refine CallThen.mk _ _ (C.fn (bsearchS_fn O _ _ _ hd hs)) ?_;cbv)|(refine Nl fun _ _ hq=>?_;(try simp only [lenS] at hq);cbv)|(refine Nm fun _ _=>?_;cbv)|(refine Br.t ?_ ?_;(focus first|assumption|lia);cbv)|(refine Br.f ?_ ?_;(focus first|assumption|lia);cbv)|(refine Br.mk (fun _=>?_) (fun _=>?_)<;>cbv)|(refine Need.mk ?_ ?_;rotate_left;cbv)|(refine R0 ?_;cbv))
  all_goals exact⟨rfl,rfl,trivial⟩
def envM (m:Nat→List Mode):Env:={ ty:=fun t=>tyOf t,mode:=m }
theorem hEM (m:Nat→List Mode):EnvOk prog (envM m):=env_ok (by rfl) ty_ok
def modeOf (f:Nat) (l:List Mode):Nat→List Mode:=fun g=>match Nat.beq g f with
 | true=>l
 | false=>env.mode g
structure CtxM (m:Nat→List Mode) (n0:Nat) (F:FnT) (L:LpT):Prop where
 fn:∀ {f args H res H'},Fn prog f args H res H'→F f args H res H'
 loop:∀ {ι:Type} (S:ι→ASt) (I:ι→Prop) (μ:ι→Nat) {b:Code} {st:ASt} {K:AEx→ASt→Prop},regOk b=true→Start S I n0 st→(∀ i,I i→cw (envM m) F L b (S i) (bodyK S I μ n0 i K))→noScope b=true→L b st K
theorem CtxM.loopAt {m:Nat→List Mode} {n0:Nat} {F:FnT} {L:LpT} (C:CtxM m n0 F L) {ι:Type} {b:Code} {st:ASt} {K:AEx→ASt→Prop} (rs:List (Nat×Nat)) (us:ι→List (Nat×PV)) (h:ι→Heap) (I:ι→Prop) (μ:ι→Nat) (hr:regOk b=true)
  (start:Start (fun i=>⟨sets (resets st.tmps rs) (us i),h i⟩) I n0 st) (body:∀ i,I i→cw (envM m) F L b ⟨sets (resets st.tmps rs) (us i),h i⟩ (bodyK (fun i=>⟨sets (resets st.tmps rs) (us i),h i⟩) I μ n0 i K)) (hb:noScope b=true:=by rfl):L b st K :=
 C.loop _ I μ hr start body hb
theorem goM (m : Nat → List Mode) {f : Nat} {fn : Func} {code : Code} {args res : List PV} {H H' : List Sym.Obj} {n : Nat} {rv : List ResultVar} (hf : prog.funcs[f]? = some fn) (hname : fn.name ≠ "runtime.NumGoroutine") (hb : fn.body = some code) (hr : regOk code = true)
    (hn : fn.ntmps - args.length = n) (hrv : fn.results.toList = rv) (h64 : H.length ≤ 64) (h : ∀ F L, CtxM m H.length F L → cw (envM m) F L code ⟨args ++ tops n, heapOf 0 H⟩ (retK (envM m) rv H.length res H')) : Fn prog f args H res H' :=
  .inl (fnB_of_cw (hEM m) hm hf hname hb hr hn hrv fun fc hfc => h _ _ ⟨fun h => h, fun S I μ _ _ _ hr start body hb => loop_rule S I μ (hEM m) (by omega) hm hfc hr start body hb⟩)
open Go
def zeroL:LastR:=⟨0,0,ans0⟩
def cmpL (l:List LastR) (c:Int) (j:Nat):Int:=IntKind.i64.wrap ((l.getD j zeroL).client-c)
def seekI (l:List LastR) (c:Int):Nat:=bsI (cmpL l c) 0 l.length
def seekZ (l:List LastR) (c:Int):Int:=seekI l c
def seekB (l:List LastR) (c:Int):Bool:=decide (seekI l c<l.length∧cmpL l c (seekI l c)=0)
theorem cmpL_at {l:List LastR} {c:Int} {j:Nat} {x:LastR} (h:l[j]?=some x):cmpL l c j=IntKind.i64.wrap (x.client-c):=by
 rw[cmpL,List.getD_eq_getElem?_getD,h];rfl
theorem cmpL_ok {l:List LastR} {c:Int} {j:Nat} {x:LastR} (hl:lastsOk l=true) (hc:countB c=true) (h:l[j]?=some x):cmpL l c j=x.client-c:=by
 have h1:=(lastsOk_iff.1 hl).2.1 x (List.mem_of_getElem? h)
 simp only [countB,decide_eq_true_eq] at h1 hc
 rw[cmpL_at h,wrap64 (by omega)]
theorem seek_ok {l:List LastR} {c:Int} (hl:lastsOk l=true) (hc:countB c=true):seekI l c=posL l c∧seekB l c=getL l c:=by
 have hs:=(lastsOk_iff.1 hl).2.2
 have hle:=bsI_le (cmpL l c) 0 l.length (Nat.zero_le _)
 have hb:=bsI_sorted (f:=cmpL l c) (n:=l.length) (fun a b hab hbn h=>by
  have ha:l[a]?=some l[a]:=by simp
  have hb:l[b]?=some l[b]:=by simp
  rw[cmpL_ok hl hc hb] at h
  rw[cmpL_ok hl hc ha]
  by_cases e:a=b
  ·subst e;exact h
  ·have:=sortedL_lt hs (i:=a) (j:=b) (by omega) ha hb
   omega) 0 l.length (Nat.zero_le _) (Nat.le_refl _) (fun a ha=>by omega) (fun a h1 h2=>by omega)
 have hp:posL l c=seekI l c:=posL_at hle.2 (fun j y hj hy=>by
  have:=hb.1 j hj
  rw[cmpL_ok hl hc hy] at this;omega) (fun j y hj hy=>by
  have:=hb.2 j hj (List.getElem?_eq_some_iff.1 hy).1
  rw[cmpL_ok hl hc hy] at this;omega)
 refine⟨hp.symm,?_⟩
 cases g:getL l c
 ·rw[seekB,decide_eq_false_iff_not]
  rintro ⟨h1,h2⟩
  have hx:l[seekI l c]?=some l[seekI l c]:=by simp [h1]
  rw[cmpL_ok hl hc hx] at h2
  exact getL_no g _ (List.getElem_mem h1) (by omega)
 ·obtain⟨x,hx,he⟩:=posL_there hs g
  rw[hp] at hx
  rw[seekB,decide_eq_true_eq]
  refine⟨(List.getElem?_eq_some_iff.1 hx).1,?_⟩
  rw[cmpL_ok hl hc hx];omega
open Classical in
noncomputable def sameDp (a b:Depot):Bool:=decide (a=b)
theorem sameDp_iff {a b:Depot}:sameDp a b=true ↔ a=b:=by simp [sameDp]
theorem Depot.ext' {a b:Depot}:a=b ↔ a.docs=b.docs∧a.feed=b.feed∧a.last=b.last:=by
 obtain⟨x,y,z⟩:=a;obtain⟨x',y',z'⟩:=b;simp only [Depot.mk.injEq]
open Go Go.Proofs Go.Proofs.Tryz
set_option maxRecDepth 10000
theorem cOp0:prog.cellsOf 153=2:=by decide +kernel
theorem cOp1:prog.cellsOf 9=1:=by decide +kernel
theorem cOp2:prog.cellsOf 52=1:=by decide +kernel
def Ndoc.In (c:Ndoc):Prop:=inS (c.key)∧((c.doc).length≤9223372036854775807∧∀ y∈c.doc,y.In)
theorem shape_ndoc {n:Nat} {xs:List PV} (h:shape prog n 153 xs):∃ c:Ndoc,WkL (Ndoc.enc Opq.id c) xs∧c.In:=by
 cases n with
 | zero=>exact h.elim
 | succ n =>
  simp only [shape,Tryz.underlying153,List.forall_mem_cons,List.not_mem_nil,false_imp_iff,implies_true,and_true,cOp0,cOp1,cOp2] at h
  obtain⟨hl,h0,h1⟩:=h
  match xs,hl with
  | [x0,x1],_ =>
  obtain⟨a0,e0,i0⟩:=shape_str (xs:=[x0]) h0
  obtain⟨a1,w1,i1⟩:=shape_doc (x:=x1) h1
  cases e0
  exact⟨⟨a0,a1⟩,(WkL.append (WkL.refl [_]) (WkL.cons w1 (WkL.refl []))),⟨i0,i1⟩⟩
theorem shape_ndocs {n:Nat} {x:PV} (h:shape prog n 41 [x]):∃ l:List Ndoc,Wk (.sl false 0 false 2 (l.map (Ndoc.enc Opq.id))) x∧l.length≤9223372036854775807∧∀ c∈l,c.In:=by
 cases n with
 | zero=>exact h.elim
 | succ n =>
  simp only [shape,Tryz.underlying41,cOp0] at h
  rcases h with h | ⟨rows,h,hl,hr⟩
  ·cases h
   exact⟨[],.nil _ _,by simp,by simp⟩
  ·cases h
   obtain⟨l,hw,hll,hi⟩:=rows_wkx (fun r hr=>shape_ndoc hr) hr
   exact⟨l,.sl' rfl rfl hw,by rw[hll];simpa [maxLen] using hl,hi⟩
def PairK.In (c:PairK):Prop:=inS (c.key)∧inS (c.val)
theorem cOp6:prog.cellsOf 4=1:=by decide +kernel
theorem cOp7:prog.cellsOf 41=1:=by decide +kernel
theorem cOp8:prog.cellsOf 24=1:=by decide +kernel
theorem cOp9:prog.cellsOf 3=1:=by decide +kernel
def Answer.In (c:Answer):Prop:=inI (c.code)∧((c.doc).length≤9223372036854775807∧∀ y∈c.doc,y.In)∧((c.docs).length≤9223372036854775807∧∀ y∈c.docs,y.In)∧((c.news).length≤9223372036854775807∧∀ y∈c.news,y.In)∧inI (c.n)∧inI (c.total)∧((c.keys).length≤9223372036854775807∧∀ y∈c.keys,y.In)
theorem cOp11:prog.cellsOf 55=11:=by decide +kernel
theorem cOp12:prog.cellsOf 53=1:=by decide +kernel
inductive Opn.In:Opn→Prop
 | mk {c:Opn} (h:inI (c.kind)∧inS (c.key)∧inS (c.to)∧((c.doc).length≤9223372036854775807∧∀ y∈c.doc,y.In)∧((c.want).length≤9223372036854775807∧∀ y∈c.want,y.In)∧inI (c.n)∧inI (c.most)∧((c.docs).length≤9223372036854775807∧∀ y∈c.docs,y.In)∧((c.news).length≤9223372036854775807∧∀ y∈c.news,y.In)) (hl:c.list.length≤9223372036854775807) (hr:∀ y∈c.list,y.In):c.In
theorem shape_opn:∀ {n:Nat} {xs:List PV},shape prog n 55 xs→∃ c:Opn,WkL (Opn.enc Opq.id c) xs∧c.In
 | 0,_,h=>h.elim
 | 1,_,h=>by
  simp only [shape,Tryz.underlying55,List.forall_mem_cons,List.not_mem_nil,false_imp_iff,implies_true,and_true] at h
  exact h.2.1.elim
 | n+2,xs,h=>by
  have ih:=fun(r:List PV)=>shape_opn (n:=n) (xs:=r)
  rw[shape] at h
  simp only [Tryz.underlying55,List.forall_mem_cons,List.not_mem_nil,false_imp_iff,implies_true,and_true,cOp11,cOp9,cOp1,cOp2,cOp6,cOp12,cOp7,cOp8] at h
  obtain⟨hl,h0,h1,h2,h3,h4,h5,h6,h7,h8,h9,h10⟩:=h
  match xs,hl with
  | [x0,x1,x2,x3,x4,x5,x6,x7,x8,x9,x10],_ =>
  obtain⟨a0,e0,i0⟩:=shape_int (xs:=[x0]) h0
  obtain⟨a1,e1,i1⟩:=shape_str (xs:=[x1]) h1
  obtain⟨a2,e2,i2⟩:=shape_str (xs:=[x2]) h2
  obtain⟨a3,w3,i3⟩:=shape_doc (x:=x3) h3
  obtain⟨a4,w4,i4⟩:=shape_doc (x:=x4) h4
  obtain⟨a5,e5⟩:=shape_bool (xs:=[x5]) h5
  obtain⟨a6,e6,i6⟩:=shape_int (xs:=[x6]) h6
  obtain⟨a7,e7,i7⟩:=shape_int (xs:=[x7]) h7
  obtain⟨a8,w8,ll8,il8⟩:∃ l:List Opn,Wk (.sl false 0 false 11 (Ops.enc Opq.id l)) x8∧l.length≤9223372036854775807∧∀ c∈l,c.In:=by
   simp only [List.drop_succ_cons,List.drop_zero,List.take_succ_cons,List.take_zero,shape,Tryz.underlying53,cOp11] at h8
   rcases h8 with h8 | ⟨rows,h8,hl,hr⟩
   ·cases h8
    exact⟨[],.nil _ _,by simp,by simp⟩
   ·cases h8
    obtain⟨l,hw,hll,hi⟩:=rows_wkx (fun r hr=>ih r hr) hr
    rw[← Ops.enc_map] at hw
    exact⟨l,.sl' rfl rfl hw,by rw[hll];simpa [maxLen] using hl,hi⟩
  obtain⟨a9,w9,i9⟩:=shape_ndocs (x:=x9) h9
  obtain⟨a10,w10,i10⟩:=shape_changes (x:=x10) h10
  cases e0;cases e1;cases e2;cases e5;cases e6;cases e7
  exact⟨.mk a0 a1 a2 a3 a4 a5 a6 a7 a8 a9 a10,(WkL.append (WkL.refl [_]) (WkL.append (WkL.refl [_]) (WkL.append (WkL.refl [_]) (WkL.append (WkL.cons w3 (WkL.refl [])) (WkL.append (WkL.cons w4 (WkL.refl [])) (WkL.append (WkL.refl [_]) (WkL.append (WkL.refl [_]) (WkL.append (WkL.refl [_]) (WkL.append (WkL.cons w8 (WkL.refl [])) (WkL.append (WkL.cons w9 (WkL.refl [])) (WkL.cons w10 (WkL.refl [])))))))))))),.mk ⟨i0,i1,i2,i3,i4,i6,i7,i9,i10⟩ ll8 il8⟩
def Reqn.ens (O:Opq) (q:Reqn):List PV:=.int .i64 q.client::.int .i64 q.id::Opn.enc O q.op
theorem Reqn.en_eq (O:Opq) (q:Reqn):Reqn.en O q=Reqn.ens O q:=by rw[Reqn.ens,Opn.en_eq];rfl
end Go.Sym
