/- The document's reading of expressions: what it makes of a text. -/
import Derived.Test.YtjlefaabcalkkaaGreatDoorK12
import Derived.Test.YtjlefaabcalkkaaGreatDoorK18
set_option linter.all false
set_option linter.unusedVariables false
set_option linter.unusedSimpArgs false
namespace Go.Sym
open Go
def headP (s:List UInt8):List UInt8:=s.takeWhile (·≠40)
def tailP (s:List UInt8):List UInt8:=s.dropWhile (·≠40)
def leafR (s:List UInt8):Nd×Bool :=
 if plainL s=true then(.mk 2 [] (natOf (s.take 16):Nat) [],decide (s.length≤15∧digN (natOf (s.take 16))=s)) else(.mk 1 s 0 [],pathL s)
open Classical in
noncomputable def readN:Nat→List UInt8→Nd×Bool
 | 0,_=>(zeroN,false)
 | n+1,s =>
  if s=[] then(zeroN,false)
  else match lastN 43 s with
  | some i=>(sumN (readN n (s.take i)).1 (readN n (s.drop (i+1))).1,(readN n (s.take i)).2 && (readN n (s.drop (i+1))).2)
  | none=>match lastN 42 s with
   | some i=>(mulN (readN n (s.take i)).1 (readN n (s.drop (i+1))).1,(readN n (s.take i)).2 && (readN n (s.drop (i+1))).2)
   | none =>
    if wholeB s then readN n s.tail.dropLast
    else if 40∈s then
     if nameL (headP s)=true∧wholeB (tailP s) then(callN (headP s) (readN n (tailP s).tail.dropLast).1,(readN n (tailP s).tail.dropLast).2) else(zeroN,false)
    else leafR s
theorem leafR_some {s:List UInt8} {x:Xp} (h:leafL s=some x):leafR s=(x.nd,true):=by
 unfold leafL at h
 unfold leafR
 split at h
 ·rename_i k
  rw[if_pos k]
  split at h
  ·rename_i k2
   cases h
   rw[List.take_of_length_le (by omega),decide_eq_true k2.2];rfl
  ·cases h
 ·rename_i k
  rw[if_neg k]
  split at h
  ·rename_i k2;cases h;rw[k2];rfl
  ·cases h
theorem leafR_none {s:List UInt8} (h0:s≠[]) (h:leafL s=none):(leafR s).2=false:=by
 unfold leafL at h
 unfold leafR
 split at h
 ·rename_i k
  rw[if_pos k]
  split at h
  ·cases h
  ·rename_i k2
   simp only [decide_eq_false_iff_not]
   rintro ⟨k3,k4⟩
   rw[List.take_of_length_le (by omega)] at k4
   exact k2 ⟨h0,k3,k4⟩
 ·rename_i k
  rw[if_neg k]
  split at h
  ·cases h
  ·rename_i k2;simpa using k2
theorem readN_X:∀ (n:Nat) (s:List UInt8),(∀ e,readX lexE.toLex n s=some e→readN n s=(e.nd,true))∧(readX lexE.toLex n s=none→(readN n s).2=false)
 | 0,s=>⟨fun e h=>by simp [readX] at h,fun _=>rfl⟩
 | n+1,s=>by
  have ih:=readN_X n
  have two:∀ (f:Nd→Nd→Nd) (g:Xp→Xp→Xp) (a b:List UInt8),(∀ x y,(g x y).nd=f x.nd y.nd) →
    (∀ e,(match readX lexE.toLex n a,readX lexE.toLex n b with|some x,some y=>some (g x y)|_,_=>none)=some e→(f (readN n a).1 (readN n b).1,(readN n a).2 && (readN n b).2)=(e.nd,true)) ∧
    ((match readX lexE.toLex n a,readX lexE.toLex n b with|some x,some y=>some (g x y)|_,_=>none)=none→((readN n a).2 && (readN n b).2)=false):=by
   intro f g a b hg
   cases ha:readX lexE.toLex n a with
   | none =>
    refine⟨fun e h=>by simp at h,fun _=>?_⟩
    rw[(ih a).2 ha];rfl
   | some x =>
    cases hb:readX lexE.toLex n b with
    | none =>
     refine⟨fun e h=>by simp at h,fun _=>?_⟩
     rw[(ih b).2 hb];simp
    | some y =>
     refine⟨fun e h=>?_,fun h=>by simp at h⟩
     simp only [Option.some.injEq] at h
     subst h
     rw[(ih a).1 x ha,(ih b).1 y hb,hg];rfl
  unfold readX readN
  by_cases h0:s=[]
  ·rw[if_pos h0,if_pos h0];exact⟨fun e h=>(by cases h),fun _=>rfl⟩
  rw[if_neg h0,if_neg h0]
  cases h43:lastN 43 s with
  | some i=>exact two sumN .sum _ _ fun x y=>rfl
  | none =>
   cases h42:lastN 42 s with
   | some i=>exact two mulN .mul _ _ fun x y=>rfl
   | none =>
    simp only
    by_cases hw:wholeB s
    ·rw[if_pos hw,if_pos hw];exact ih _
    rw[if_neg hw,if_neg hw]
    by_cases h40:40∈s
    ·rw[if_pos h40,if_pos h40]
     by_cases hc:nameL (headP s)=true∧wholeB (tailP s)
     ·rw[if_pos hc,if_pos (show lexE.toLex.name (s.takeWhile (·≠40))=true∧wholeB (s.dropWhile (·≠40)) from hc)]
      have i2:=ih (tailP s).tail.dropLast
      constructor
      ·intro e h
       simp only [Option.map_eq_some_iff] at h
       obtain⟨y,hy,rfl⟩:=h
       rw[i2.1 y hy];rfl
      ·intro h
       simp only [Option.map_eq_none_iff] at h
       exact i2.2 h
     ·rw[if_neg hc,if_neg (show ¬ (lexE.toLex.name (s.takeWhile (·≠40))=true∧wholeB (s.dropWhile (·≠40))) from hc)]
      exact⟨fun e h=>(by cases h),fun _=>rfl⟩
    ·rw[if_neg h40,if_neg h40]
     exact⟨fun e h=>leafR_some h,fun h=>leafR_none h0 h⟩
theorem read_parse {s:List UInt8} (hl:s.length≤256):((readN 300 s).2=true ↔ (parse0 s).2=([],false))∧((readN 300 s).2=true→(readN 300 s).1=(parse0 s).1):=by
 have a:=reads_agree (s:=s) (n:=300) (m:=300) (by omega) (by omega)
 have b:=readN_X 300 s
 cases hx:readX lexE.toLex 300 s with
 | none =>
  have k:=a.2 hx
  have k2:=b.2 hx
  rw[k2]
  exact⟨⟨fun h=>(by cases h),fun h=>absurd h k⟩,fun h=>by cases h⟩
 | some e =>
  have k:parse0 s=(e.nd,[],false):=a.1 e hx
  have k2:=b.1 e hx
  rw[k,k2]
  exact⟨⟨fun _=>rfl,fun _=>rfl⟩,fun _=>rfl⟩
theorem deep_I (x:Nd):deepB 8 x=true ↔ 8<depthI 9 x:=by
 rw[deep_depth 8 9 x (by decide),depthI];omega
theorem lastI_some {c:UInt8} (hc:parV c=0) {s:List UInt8} {i:Nat} (h:lastN c s=some i):lastI c s s.length=i∧i<s.length:=by
 refine⟨by rw[lastI_end,h],?_⟩
 obtain⟨a,b,rfl,rfl,_,_⟩:=lastN_some hc h
 simp
theorem lastI_none {c:UInt8} {s:List UInt8} (h:lastN c s=none):lastI c s s.length=-1:=by rw[lastI_end,h]
theorem cut_head (s:List UInt8) (i:Nat):ofL (s.take i)=(ofL s).extract 0 i:=by rw[extract_ofL];simp
theorem cut_tail (s:List UInt8) (i:Nat):ofL (s.drop i)=(ofL s).extract i (ofL s).size:=by rw[extract_ofL,size_ofL];simp
theorem cut_mid (s:List UInt8) (p:Nat):ofL ((s.drop p).tail.dropLast)=(ofL s).extract (p+1) ((ofL s).size-1):=by
 rw[extract_ofL,size_ofL,List.dropLast_eq_take,List.tail_drop,List.drop_take,List.length_drop]
 congr 2
 omega
theorem cut_in (s:List UInt8):ofL s.tail.dropLast=(ofL s).extract 1 ((ofL s).size-1):=by
 have:=cut_mid s 0
 simpa using this
theorem head_take (s:List UInt8):headP s=s.take (headP s).length:=by
 have h:headP s++tailP s=s:=List.takeWhile_append_dropWhile
 conv=>rhs;rw[← h]
 rw[List.take_append_of_le_length (by rw[h];exact Nat.le_refl _)]
 rw[h,List.take_of_length_le (Nat.le_refl _)]
theorem tail_drop (s:List UInt8):tailP s=s.drop (headP s).length:=by
 have h:headP s++tailP s=s:=List.takeWhile_append_dropWhile
 have k:=congrArg (List.drop (headP s).length) h
 rw[List.drop_left] at k
 exact k
theorem head_all:∀ (s:List UInt8),∀ c∈headP s,c≠40
 | [],c,h=>by cases h
 | d::r,c,h=>by
  unfold headP at h
  rw[List.takeWhile_cons] at h
  split at h
  ·rename_i k
   rcases List.mem_cons.1 h with rfl|h
   ·simpa using k
   ·exact head_all r c h
  ·cases h
theorem tail_at:∀ {s:List UInt8} {c:UInt8} {r:List UInt8},tailP s=c::r→c=40
 | [],c,r,h=>by cases h
 | d::t,c,r,h=>by
  unfold tailP at h
  rw[List.dropWhile_cons] at h
  split at h
  ·exact tail_at (s:=t) h
  ·rename_i k
   cases h
   simpa using k
theorem head_no {s:List UInt8} {j:Nat} (h:j<(headP s).length):¬ ((s.getD j 0).toNat:Int)=40:=fun e=>by
 have hl:(headP s).length≤s.length:=(List.takeWhile_sublist _).length_le
 have h1:=getD_some (s:=s) (i:=j) (by omega)
 rw[(u8_int (c:=s.getD j 0) (k:=40) (by decide)).1 e] at h1
 have h2:(headP s)[j]?=some 40:=by
  rw[head_take s,List.getElem?_take,if_pos h];exact h1
 have h3:=List.mem_of_getElem? h2
 exact head_all s _ h3 rfl
theorem head_at {s:List UInt8} (h:40∈s):(headP s).length<s.length∧((s.getD (headP s).length 0).toNat:Int)=40:=by
 have hs:headP s++tailP s=s:=List.takeWhile_append_dropWhile
 have hne:tailP s≠[]:=fun e=>by
  have h40:40∈headP s:=by rw[e,List.append_nil] at hs;rw[hs];exact h
  exact head_all s _ h40 rfl
 obtain⟨c,r,hcr⟩:=List.exists_cons_of_ne_nil hne
 have hc:c=40:=tail_at hcr
 have hl:(headP s).length<s.length:=by
  have:=congrArg List.length hs
  rw[hcr] at this;simp at this;omega
 refine⟨hl,?_⟩
 have:s[(headP s).length]?=some c:=by
  have k:(headP s++tailP s)[(headP s).length]?=some c:=by rw[List.getElem?_append_right (Nat.le_refl _),Nat.sub_self,hcr];rfl
  rwa [hs] at k
 rw[List.getD_eq_getElem?_getD,this,hc];rfl
open Classical in
theorem wholeD_yes {s:List UInt8} (h:wholeB s):wholeD s=true:=decide_eq_true h
open Classical in
theorem wholeD_not {s:List UInt8} (h:¬ wholeB s):wholeD s=false:=decide_eq_false h
theorem cons_snoc {α:Type} {a:α} {L D:List α} {x:α} (h:a::L=D++[x]):(L=[]∧D=[]∧a=x)∨∃ D',D=a::D'∧L=D'++[x]:=by
 cases D with
 | nil=>simp at h;exact .inl ⟨h.2,rfl,h.1⟩
 | cons d D'=>simp at h;exact .inr ⟨D',by rw[h.1],h.2⟩
theorem split_snoc:∀ (l:List UInt8) (c:UInt8) (D:List (List UInt8)) (x:List UInt8),splitLC l=D++[x]→splitLC (l++[c])=if c=44 then D++[x]++[[]] else D++[x++[c]]
 | [],c,D,x,h=>by
  rcases cons_snoc (show[]::[]=D++[x] from h) with ⟨_,rfl,rfl⟩ | ⟨D',_,h2⟩
  ·simp only [List.nil_append,splitLC];rfl
  ·simp at h2
 | d::r,c,D,x,h=>by
  rw[List.cons_append]
  simp only [splitLC] at h ⊢
  by_cases hd:d=44
  ·rw[if_pos hd] at h ⊢
   rcases cons_snoc h with ⟨h1,_,_⟩ | ⟨D',rfl,h2⟩
   ·exact absurd h1 (splitL_neC r)
   ·rw[split_snoc r c D' x h2]
    split<;>simp
  ·rw[if_neg hd] at h ⊢
   cases hs:splitLC r with
   | nil=>exact absurd hs (splitL_neC r)
   | cons p ps =>
    rw[hs] at h
    rcases cons_snoc h with ⟨rfl,rfl,rfl⟩ | ⟨D',rfl,rfl⟩
    ·rw[split_snoc r c [] p (by rw[hs];rfl)]
     by_cases hc:c=44
     ·simp [hc]
     ·simp [hc]
    ·rw[split_snoc r c (p::D') x (by rw[hs];rfl)]
     by_cases hc:c=44
     ·simp [hc]
     ·simp [hc]
def CutAt (s:List UInt8) (i st:Nat) (D:List (List UInt8)):Prop :=
 st≤i∧((i≤s.length∧splitLC (s.take i)=D++[(s.take i).drop st])∨(i=s.length+1∧D=splitLC s))
theorem CutAt.start (s:List UInt8):CutAt s 0 0 []:=⟨Nat.le_refl _,.inl ⟨Nat.zero_le _,rfl⟩⟩
theorem CutAt.comma {s:List UInt8} {i st:Nat} {D:List (List UInt8)} (h:CutAt s i st D) (hi:i<s.length) (hc:s.getD i 0=44):CutAt s (i+1) (i+1) (D++[(s.take i).drop st]):=by
 obtain⟨h1,h2|h2⟩:=h
 ·refine⟨Nat.le_refl _,.inl ⟨by omega,?_⟩⟩
  rw[take_snoc (getD_some hi),split_snoc _ _ _ _ h2.2,if_pos hc]
  simp
  omega
 ·omega
theorem CutAt.go {s:List UInt8} {i st:Nat} {D:List (List UInt8)} (h:CutAt s i st D) (hi:i<s.length) (hc:¬ s.getD i 0=44):CutAt s (i+1) st D:=by
 obtain⟨h1,h2|h2⟩:=h
 ·refine⟨by omega,.inl ⟨by omega,?_⟩⟩
  rw[take_snoc (getD_some hi),split_snoc _ _ _ _ h2.2,if_neg hc,List.drop_append_of_le_length (by rw[List.length_take];omega)]
 ·omega
theorem CutAt.last {s:List UInt8} {i st:Nat} {D:List (List UInt8)} (h:CutAt s i st D) (hi:i=s.length):CutAt s (i+1) (i+1) (D++[(s.take i).drop st]):=by
 obtain⟨h1,h2|h2⟩:=h
 ·refine⟨Nat.le_refl _,.inr ⟨by omega,?_⟩⟩
  rw[← h2.2,hi,List.take_length]
 ·omega
theorem CutAt.done {s:List UInt8} {i st:Nat} {D:List (List UInt8)} (h:CutAt s i st D) (hi:¬ i≤s.length):D=splitLC s:=by
 obtain⟨h1,h2|h2⟩:=h
 ·omega
 ·exact h2.2
theorem CutAt.le {s:List UInt8} {i st:Nat} {D:List (List UInt8)} (h:CutAt s i st D):i≤s.length+1∧st≤i:=by
 obtain⟨h1,h2|h2⟩:=h<;>omega
theorem CutAt.count {s:List UInt8} {i st:Nat} {D:List (List UInt8)} (h:CutAt s i st D):D.length≤i:=by
 obtain⟨h1,h2|h2⟩:=h
 ·have:=congrArg List.length h2.2
  rw[split_count] at this
  simp only [List.length_append,List.length_cons,List.length_nil] at this
  have k:=List.count_le_length (a:=(44:UInt8)) (l:=s.take i)
  rw[List.length_take] at k
  omega
 ·rw[h2.2,split_count]
  have k:=List.count_le_length (a:=(44:UInt8)) (l:=s)
  omega
theorem Strs_snoc (O:Opq) (D:List (List UInt8)) (p:List UInt8):O.o Strs ((D++[p]).map ofL)=O.o Strs (D.map ofL)++[[.str (O.o ofL p)]]:=by
 simp only [O.h,Strs_eq,List.map_append,List.map_cons,List.map_nil];rfl
theorem cut_range (s:List UInt8) (a b:Nat):ofL ((s.take b).drop a)=(ofL s).extract a b:=(extract_ofL s a b).symm
open Go Go.Proofs.Tryz
set_option maxRecDepth 100000
theorem bts_snoc (O:Opq) (l:List UInt8) {n:Nat} (h:n<256) {v:Int} (hv:v=n):O.o bts (l++[UInt8.ofNat n])=O.o bts l++[[.int .u8 v]]:=by
 simp only [O.h,bts_append]
 rw[hv]
 simp only [bts,List.map_cons,List.map_nil,UInt8.toNat_ofNat']
 rw[show n % 2 ^ 8=n by omega]
theorem idocs_fn (O:Opq) (l:List Ndoc) (hl:l.length≤1099511627776) (hd:∀ n∈l,n.doc.length≤1099511627776):Fn prog 14 [.sl false 0 false 2 (O.o (Nms.enc O) l)] [] [.int .i64 (O.o docsErr l)] []:=by
 have hlen:=Nms.len O l
 have hbad:docsOk l=false→O.o docsErr l=1:=fun h=>by rw[O.h,docsErr,h];rfl
 have hgood:docsOk l=true→O.o docsErr l=0:=fun h=>by rw[O.h];exact docsErr_zero.2 h
 obtain⟨Q,eQ⟩:∃ Q,Q=O.o docsErr l:=⟨_,rfl⟩
 rw[← eQ] at hbad hgood ⊢
 obtain⟨N,hN⟩:∃ N:Nat,N=l.length:=⟨_,rfl⟩
 obtain⟨z,hz⟩:∃ z:Nat,z=0:=⟨_,rfl⟩
 clear eQ
 refine go (fn:=Proofs.Tryz.f14) (n:=37) (rv:=[ResultVar.tmp 2]) rfl (by decide) rfl (by decide +kernel) rfl rfl (by simp) fun F L C=>?_
 cbv
 (repeat' first|(refine Nm fun _ _=>?_;cbv))
 refine LoopThen.mk (C.loopAt (ι:=Nat) [(2,4),(7,37)] (fun i=>[(2,.int .i64 0),(7,.int .i64 i)]) (fun _=>[])
  (fun i=>i≤N∧∀ j,j<i→okN l j) (fun i=>N-i) (by decide +kernel) (Start.mk z [] [] ⟨by lia,fun j hj=>by omega⟩ (by cbv;(repeat' apply And.intro)<;>first|exact True.intro|exact WkR.refl _|rfl|lia)) ?_)
 intro i g
 cbv
 have g1:i≤N:=g.1
 have g2:=g.2
 clear g
 by_cases hi:i<l.length
 ·obtain⟨x,hx⟩:∃ x,l[i]?=some x:=⟨l[i],by simp [hi]⟩
  have hxd:=hd x (List.mem_of_getElem? hx)
  have hno:¬ (isKey x.key=true∧may x.doc=true∧(0<i→∃ g,l[i-1]?=some g∧slt g.key x.key))→Q=1:=fun h=>hbad (docsOk_bad hx h)
  have hst:(isKey x.key=true∧may x.doc=true∧(0<i→∃ g,l[i-1]?=some g∧slt g.key x.key))→∀ j,j<i+1→okN l j:=fun h=>okN_step g2 ((okN_iff hx).2 h)
  have hk:=key_fn O x.key
  have hc:=check_fn O x.doc hxd
  have hk2:O.o isKey x.key=isKey x.key:=by rw[O.h]
  have hc2:O.o docErr x.doc=0 ↔ may x.doc=true:=by rw[O.h];exact docErr_zero
  obtain⟨b,eb⟩:∃ b,b=O.o isKey x.key:=⟨_,rfl⟩
  obtain⟨e,ee⟩:∃ b,b=O.o docErr x.doc:=⟨_,rfl⟩
  rw[← eb] at hk hk2
  rw[← ee] at hc hc2
  rw[← hk2,← hc2] at hno hst
  clear hbad hgood g2 eb ee hk2 hc2 hd hxd
  by_cases h0:0<i
  ·obtain⟨y,hy⟩:∃ y,l[i-1]?=some y:=⟨l[i-1],by simp⟩
   have hyy:(0<i→∃ g,l[i-1]?=some g∧slt g.key x.key) ↔ slt y.key x.key:=⟨fun h=>by obtain⟨g,h1,h2⟩:=h h0;rw[hy] at h1;cases h1;exact h2,fun h _=>⟨y,hy,h⟩⟩
   rw[hyy] at hno hst
   clear hyy
   obtain⟨xk,xd⟩:=x
   obtain⟨yk,yd⟩:=y
   simp only at hno hst hk hc
   obtain⟨i1,hi1⟩:∃ j,j=i-1:=⟨_,rfl⟩
   rw[← hi1] at hy
   (repeat' first|(refine Na ?_ fun _ _=>?_;(focus lia);cbv)|(refine Ex.known O (Ndoc.enc O) rfl hx ?_ ?_;(focus lia);cbv)|(refine Ex.known O (Ndoc.enc O) rfl hy ?_ ?_;(focus lia);cbv)|(refine CallThen.bool (C.fn (hk)) (fun _=>?_) (fun _=>?_)<;>cbv)|(refine CallThen.mk _ _ (C.fn (hc)) ?_;cbv)|(refine Back.up [] [] ?_ ?_ fun _ _=>?_;rotate_left 2;cbv;refine And.intro ?_ ?_)|(refine Br.t ?_ ?_;(focus first|assumption|lia);cbv)|(refine Br.mk (fun _=>?_) (fun _=>?_)<;>cbv)|(refine R0 ?_;cbv))
   all_goals(repeat' apply And.intro)
   all_goals try first
    | exact True.intro
    | exact WkR.refl _
    | (clear hx hy hno hst hk hc;lia)
   all_goals first
    | (refine hno fun h=>?_;clear hno hst hx hy hk hc;grind [slt_asymm,slt_irrefl,slt_not])
    | (refine hst ?_;clear hno hst hx hy hk hc;grind [slt_asymm,slt_irrefl,slt_not])
    | trace_state
  ·have hyy:(0<i→∃ g,l[i-1]?=some g∧slt g.key x.key) ↔ True:=⟨fun _=>trivial,fun _ h=>absurd h h0⟩
   rw[hyy] at hno hst
   clear hyy
   obtain⟨xk,xd⟩:=x
   simp only at hno hst hk hc
   (repeat' first|(refine Na ?_ fun _ _=>?_;(focus lia);cbv)|(refine Ex.known O (Ndoc.enc O) rfl hx ?_ ?_;(focus lia);cbv)|(refine CallThen.bool (C.fn (hk)) (fun _=>?_) (fun _=>?_)<;>cbv)|(refine CallThen.mk _ _ (C.fn (hc)) ?_;cbv)|(refine Back.up [] [] ?_ ?_ fun _ _=>?_;rotate_left 2;cbv;refine And.intro ?_ ?_)|(refine Br.t ?_ ?_;(focus first|assumption|lia);cbv)|(refine Br.f ?_ ?_;(focus first|assumption|lia);cbv)|(refine Br.mk (fun _=>?_) (fun _=>?_)<;>cbv)|(refine R0 ?_;cbv))
   all_goals(repeat' apply And.intro)
   all_goals try first
    | exact True.intro
    | exact WkR.refl _
    | (clear hx hno hst hk hc;lia)
   all_goals first
    | (refine hno fun h=>?_;clear hno hst hx hk hc;grind)
    | (refine hst ?_;clear hno hst hx hk hc;grind)
    | trace_state
 ·have hg:=hgood (docsOk_good fun j hj=>g2 j (by omega))
  clear hbad hgood g2 hd
  (repeat' first|(refine Br.f ?_ ?_;(focus first|assumption|lia);cbv)|(refine R0 ?_;cbv))
  all_goals first
   | exact⟨hg,trivial⟩
   | (exfalso;lia)
   | trace_state
end Go.Sym
