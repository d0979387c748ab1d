/- Sorting pairs: patterns broken. -/
import Derived.Test.YtjlefaabcalkkaaGreatDoorK17
import Derived.Test.YtjlefaabcalkkaaGreatDoorK24
set_option linter.all false
set_option linter.unusedVariables false
set_option linter.unusedSimpArgs false
namespace Go.Sym
open Go Go.Proofs.Tryz
set_option maxRecDepth 100000
open Go.Sort (swp xorNext bitsLen breakStep breakPatterns)
theorem wrapU {n:Nat} (h:n<18446744073709551616):IntKind.u64.wrap (n:Int)=n:=by
 unfold IntKind.wrap;simp [IntKind.bits,IntKind.signed];omega
theorem xor64 (u v:UInt64):bitsVal .xor .u64 (u.toNat:Int) (v.toNat:Int)=((u ^^^ v).toNat:Int):=by
 show IntKind.u64.wrap ((BitVec.ofInt 64 (u.toNat:Int) ^^^ BitVec.ofInt 64 (v.toNat:Int)).toNat:Int)=_
 have h1:=u.toNat_lt
 have h2:=v.toNat_lt
 rw[show BitVec.ofInt 64 ((u.toNat:Nat):Int)=BitVec.ofNat 64 u.toNat by simp,show BitVec.ofInt 64 ((v.toNat:Nat):Int)=BitVec.ofNat 64 v.toNat by simp]
 rw[BitVec.toNat_xor,BitVec.toNat_ofNat,BitVec.toNat_ofNat,Nat.mod_eq_of_lt h1,Nat.mod_eq_of_lt h2,← UInt64.toNat_xor]
 exact wrapU (UInt64.toNat_lt _)
theorem shl64 (u:UInt64) (k:Nat) (kb:UInt64) (h:kb.toNat=k) (hk:k<64):IntKind.u64.wrap ((u.toNat:Int) * 2 ^ min (Int.toNat k) IntKind.u64.bits)=((u <<< kb).toNat:Int):=by
 rw[UInt64.toNat_shiftLeft,h,Nat.mod_eq_of_lt hk,Nat.shiftLeft_eq,Int.toNat_natCast,show min k IntKind.u64.bits=k by simp [IntKind.bits];omega]
 unfold IntKind.wrap;simp [IntKind.bits,IntKind.signed]
theorem shr64 (u:UInt64) (k:Nat) (kb:UInt64) (h:kb.toNat=k) (hk:k<64):(u.toNat:Int).fdiv (2 ^ min (Int.toNat k) IntKind.u64.bits)=((u >>> kb).toNat:Int):=by
 rw[UInt64.toNat_shiftRight,h,Nat.mod_eq_of_lt hk,Nat.shiftRight_eq_div_pow,Int.toNat_natCast,show min k IntKind.u64.bits=k by simp [IntKind.bits];omega]
 rw[Int.fdiv_eq_ediv_of_nonneg _ (Int.pow_nonneg (by decide))]
 simp
theorem and64 {x y:Nat} (h:x<18446744073709551616) (k:y<18446744073709551616):bitsVal .and .u64 (x:Int) (y:Int)=((x &&& y:Nat):Int):=by
 show IntKind.u64.wrap ((BitVec.ofInt 64 (x:Int) &&& BitVec.ofInt 64 (y:Int)).toNat:Int)=_
 rw[show BitVec.ofInt 64 ((x:Nat):Int)=BitVec.ofNat 64 x by simp,show BitVec.ofInt 64 ((y:Nat):Int)=BitVec.ofNat 64 y by simp]
 rw[BitVec.toNat_and,BitVec.toNat_ofNat,BitVec.toNat_ofNat,Nat.mod_eq_of_lt h,Nat.mod_eq_of_lt k]
 exact wrapU (Nat.lt_of_le_of_lt Nat.and_le_left h)
theorem bitsLen_le {n:Nat} (h:n<256):bitsLen n≤8:=by revert n;decide +kernel
theorem bitsLen_pow {n:Nat} (h:n<256) (h1:1≤n):n<1 <<< bitsLen n∧1 <<< bitsLen n≤2 * n:=by revert n;decide +kernel
theorem len64_fn (n:Nat) (h:n<256) (x l:Int) (hx:x=n) (hl:l=bitsLen n):Fn prog 88 [.int .u64 x] [] [.int .i64 l] []:=by
 refine go (fn:=Proofs.Tryz.f88) (n:=24) (rv:=[ResultVar.tmp 2]) rfl (by decide) rfl (by decide +kernel) rfl rfl (by simp) fun F L C=>?_
 cbv
 (repeat' first|(refine Nm fun _ _=>?_;cbv)|(refine Br.f ?_ ?_;(focus first|assumption|lia);cbv)|(refine Need.mk ?_ ?_;rotate_left;cbv)|(refine R0 ?_;cbv))
 ·subst_vars
  refine⟨?_,trivial⟩
  clear L C F
  revert n
  decide +kernel
 ·subst_vars
  clear L C F
  revert n
  decide +kernel
theorem len_fn (n:Nat) (h:n<256) (x l:Int) (hx:x=n) (hl:l=bitsLen n):Fn prog 58 [.int .u64 x] [] [.int .i64 l] []:=by
 have k:=fun y (e:y=x)=>len64_fn n h y l (e.trans hx) hl
 refine go (fn:=Proofs.Tryz.f58) (n:=7) (rv:=[ResultVar.tmp 2]) rfl (by decide) rfl (by decide +kernel) rfl rfl (by simp) fun F L C=>?_
 cbv
 (repeat' first|(refine CallThen.mk _ _ (C.fn (k _ ?_)) ?_;(focus first|rfl|lia);cbv)|(refine R0 ?_;cbv))
 all_goals exact⟨rfl,trivial⟩
theorem npow_fn (n:Nat) (h:n<256) (x m:Int) (hx:x=n) (hm:m=(1 <<< bitsLen n:Nat)):Fn prog 111 [.int .i64 x] [] [.int .u64 m] []:=by
 obtain⟨l,hl⟩:∃ l:Int,l=bitsLen n:=⟨_,rfl⟩
 have k:=fun y (e:y=IntKind.u64.wrap x)=>len_fn n h y l (by rw[e,hx];exact wrapU (by omega)) hl
 refine go (fn:=Proofs.Tryz.f111) (n:=6) (rv:=[ResultVar.tmp 2]) rfl (by decide) rfl (by decide +kernel) rfl rfl (by simp) fun F L C=>?_
 cbv
 (repeat' first|(refine CallThen.mk _ _ (C.fn (k _ (by assumption))) ?_;cbv)|(refine Nm fun _ _=>?_;cbv)|(refine Need.mk ?_ ?_;rotate_left;cbv)|(refine R0 ?_;cbv))
 ·clear k
  subst_vars
  refine⟨?_,trivial⟩
  clear L C F
  revert n
  decide +kernel
 ·rw[hl];exact Int.natCast_nonneg _
theorem xnext_fn (u:UInt64) (r r':Int) (hr:r=u.toNat) (hr':r'=(xorNext u).toNat):Fn prog 112 [.ptr 0 0] [.box [.int .u64 r]] [.int .u64 r'] [.box [.int .u64 r']]:=by
 refine go (fn:=Proofs.Tryz.f112) (n:=32) (rv:=[ResultVar.tmp 2]) rfl (by decide) rfl (by decide +kernel) rfl rfl (by simp) fun F L C=>?_
 cbv
 (repeat' first|(refine Nm fun _ _=>?_;cbv)|(refine Need.mk ?_ ?_;rotate_left;cbv)|(refine R0 ?_;cbv))
 all_goals try(show(0:Int)≤_;decide)
 rename_i a ea b eb c ec d ed e ee f ef
 have e1:a=((u <<< 13).toNat:Int):=by rw[ea,hr];exact shl64 u 13 13 rfl (by decide)
 have e2:b=((u ^^^ (u <<< 13)).toNat:Int):=by rw[eb,hr,e1];exact xor64 _ _
 have e3:c=(((u ^^^ (u <<< 13)) >>> 7).toNat:Int):=by rw[ec,e2];exact shr64 _ 7 7 rfl (by decide)
 have e4:d=(((u ^^^ (u <<< 13)) ^^^ ((u ^^^ (u <<< 13)) >>> 7)).toNat:Int):=by rw[ed,e2,e3];exact xor64 _ _
 have e5:e=((((u ^^^ (u <<< 13)) ^^^ ((u ^^^ (u <<< 13)) >>> 7)) <<< 17).toNat:Int):=by rw[ee,e4];exact shl64 _ 17 17 rfl (by decide)
 have e6:f=r':=by rw[ef,e4,e5,hr'];exact xor64 _ _
 exact⟨e6.symm,e6.symm,trivial⟩
def breakIt (a l m idx:Nat) (s:UInt64×Array PairK):Nat→UInt64×Array PairK
 | 0=>s
 | k+1=>breakStep a l m (breakIt a l m idx s k) (idx+k)
theorem breakIt_size (a l m idx:Nat) (s:UInt64×Array PairK):∀ k,(breakIt a l m idx s k).2.size=s.2.size
 | 0=>rfl
 | k+1=>by rw[breakIt,breakStep,swp_size,breakIt_size a l m idx s k]
theorem break_at {d:Array PairK} {a b:Nat} (h:8≤b-a):breakPatterns d a b=(breakIt a (b-a) (1 <<< bitsLen (b-a)) (a+(b-a) / 4 * 2-1) (UInt64.ofNat (b-a),d) 3).2:=by
 unfold breakPatterns
 dsimp only
 rw[if_pos h]
 rfl
theorem Named.andN {x y o:Int} {K:Int→Prop} (h:bitsVal .and .u64 x y=o) (k:K o):Named Int (fun _=>bitsVal .and .u64 x y) K:=.mk fun n e=>by rw[e,h];exact k
set_option maxHeartbeats 8000000 in
theorem break_fn (O:Opq) (d:Array PairK) (a b:Nat) (ai bi:Int) (hai:ai=a) (hbi:bi=b) (hb:b≤d.size) (ha:a+12<b) (hd:d.size≤255) :
  Fn prog 81 [.ref 0,.int .i64 ai,.int .i64 bi,.fn 35 [] []] [.arr 0 none 2 (O.o arrE d)] [] [.arr 0 none 2 (O.o arrE (breakPatterns d a b))]:=by
 rw[break_at (by omega)]
 obtain⟨l,hl⟩:∃ l,l=b-a:=⟨_,rfl⟩
 obtain⟨m,hm⟩:∃ m,m=1 <<< bitsLen l:=⟨_,rfl⟩
 obtain⟨I,hI⟩:∃ I,I=a+l / 4 * 2-1:=⟨_,rfl⟩
 rw[← hl,← hm,← hI]
 obtain⟨s,hs⟩:∃ s,s=(UInt64.ofNat l,d):=⟨_,rfl⟩
 rw[← hs]
 have hmm:=bitsLen_pow (n:=l) (by omega) (by omega)
 rw[← hm] at hmm
 obtain⟨mi,hmi⟩:∃ mi:Int,mi=m:=⟨_,rfl⟩
 have kp:=fun x h=>npow_fn l (by omega) x mi h (by rw[hmi,hm])
 obtain⟨R,hR⟩:∃ R,R=(breakIt a l m I s 3).2:=⟨_,rfl⟩
 rw[← hR]
 obtain⟨n,hn⟩:∃ n,n=d.size:=⟨_,rfl⟩
 have hsz:=breakIt_size a l m I s
 have hs2:s.2.size=n:=by rw[hs,hn]
 rw[hs2] at hsz
 obtain⟨z,hz⟩:∃ z:Int×Int×Array PairK,z=((I:Int),(l:Int),d):=⟨_,rfl⟩
 have z1:z.1=I:=by rw[hz]
 have z3:z.2.1=l:=by rw[hz]
 have z2:O.o arrE d=O.o arrE z.2.2:=by rw[hz]
 have hz0:∃ (k:Nat) (u:UInt64),k≤3∧z.1=I+k∧z.2.1=u.toNat∧(u,z.2.2)=breakIt a l m I s k:=by
  rw[hz]
  refine⟨0,UInt64.ofNat l,by omega,by dsimp only;omega,?_,hs.symm⟩
  show(l:Int)=_
  rw[UInt64.toNat_ofNat',Nat.mod_eq_of_lt (by omega)]
 have hb:b≤n:=by omega
 have hd:n≤255:=by omega
 have hl2:(l:Int)=bi-ai:=by omega
 have h8:8≤l:=by omega
 have hI2:(I:Int)=ai+((l / 4:Nat):Int) * 2-1:=by omega
 have ed:4 * ((l / 4:Nat):Int)≤l∧(l:Int)<4 * ((l / 4:Nat):Int)+4:=by omega
 obtain⟨q,hq⟩:∃ q:Int,q=((l / 4:Nat):Int):=⟨_,rfl⟩
 rw[← hq] at hI2 ed
 have hIb:I+3≤b:=by omega
 clear hz hs hn hm hI hq hs2 hl ha
 obtain⟨Z,hZ⟩:∃ Z,Z=O.o arrE d:=⟨_,rfl⟩
 rw[← hZ] at z2 ⊢
 clear hZ
 refine go (fn:=Proofs.Tryz.f81) (n:=63) (rv:=[]) rfl (by decide) rfl (by decide +kernel) rfl rfl (by simp) fun F L C=>?_
 cbv
 have hnn:0≤bi-ai:=by lia
 (repeat' first|(refine Named.u64 ?_ fun _ _=>?_;(focus(clear kp hz0 hsz z2 hR;lia));cbv)|(refine Need.mk (fun h=>nomatch h) ?_;cbv)|(refine Na ?_ fun _ _=>?_;(focus lia);cbv)|(refine CallThen.mk _ _ (C.fn (kp _ ?_)) ?_;(focus(clear kp hz0 hsz z2 hR;lia));cbv)|(refine Br.t ?_ ?_;(focus first|assumption|lia);cbv))
 all_goals try(exfalso;clear kp hz0 hsz z2 hR;lia)
 refine LoopThen.mk (C.loopAt (ι:=Int×Int×Array PairK) [(11,12),(28,66)] (fun x=>[(11,.int .i64 x.1)]) (fun x=>[(0,.arr 0 none 2 (O.o arrE x.2.2)),(704,.box [.int .u64 x.2.1])])
  (fun x=>∃ (k:Nat) (u:UInt64),k≤3∧x.1=I+k∧x.2.1=u.toNat∧(u,x.2.2)=breakIt a l m I s k) (fun x=>(I+3-x.1).toNat) (by decide +kernel) (Start.mk z [] [] hz0 ?_) ?_)
 ·cbv
  (repeat' apply And.intro)<;>first|exact True.intro|exact WkR.refl _|exact WkR.of_eq z2.symm|rfl|(clear hz0 z2 kp hsz hR;lia)|trace_state
 clear hz0 z1 z2 z3 kp
 intro x g
 obtain⟨i,r,e⟩:=x
 cbv
 obtain⟨k,u,g1,g2,g3,g4⟩:=g
 replace g2:i=I+k:=g2
 replace g3:r=u.toNat:=g3
 replace g4:(u,e)=breakIt a l m I s k:=g4
 have hes:e.size=n:=by have:=hsz k;rw[← g4] at this;exact this
 have hlen:=arrE_len O e
 by_cases hk:k<3
 ·obtain⟨w,hw⟩:∃ w:Nat,w=(xorNext u).toNat &&& (m-1):=⟨_,rfl⟩
  have hwm:w≤m-1:=by rw[hw];exact Nat.and_le_right
  obtain⟨r',hr'⟩:∃ r':Int,r'=(xorNext u).toNat:=⟨_,rfl⟩
  have kn:=xnext_fn u r r' g3 hr'
  have hand:∀ y,y=mi-1→bitsVal .and .u64 r' y=(w:Int):=fun y h=>by
   rw[hr',show y=((m-1:Nat):Int) by clear hsz hR g4 kn;lia,hw]
   exact and64 (UInt64.toNat_lt _) (by clear hsz hR g4 kn;lia)
  obtain⟨wi,hwi⟩:∃ wi:Int,wi=w:=⟨_,rfl⟩
  rw[← hwi] at hand
  obtain⟨w2,hw2⟩:∃ w2:Nat,w2=if w ≥ l then w-l else w:=⟨_,rfl⟩
  obtain⟨j,hj⟩:∃ j,j=I+k:=⟨_,rfl⟩
  have hij:i=j:=by clear hsz hR g4 kn hand hw;lia
  have g5:(xorNext u,swp e j (a+w2))=breakIt a l m I s (k+1):=by
   rw[breakIt,← g4,breakStep,hw2,hw,hj]
  have hb2:w2<l∧((w2:Int)=wi∨(w2:Int)=wi-l)∧(wi<l→(w2:Int)=wi)∧(¬ wi<l→(w2:Int)=wi-l):=by
   rw[hw2];clear hsz hR g4 kn hand g5 hw;split<;>lia
  have hz5:∃ (k':Nat) (u':UInt64),k'≤3∧i+1=I+k'∧r'=u'.toNat∧(u',swp e j (a+w2))=breakIt a l m I s k':=⟨k+1,xorNext u,by clear hsz hR g4 kn hand g5 hw;lia,by clear hsz hR g4 kn hand g5 hw;lia,hr',g5⟩
  clear g5 hw hr' hw2 g4 hR
  obtain⟨x,hx⟩:∃ x,x=e[j]!:=⟨_,rfl⟩
  obtain⟨y,hy⟩:∃ y,y=e[a+w2]!:=⟨_,rfl⟩
  have b1:j<e.size:=by clear hx hy hz5 hand kn hsz;lia
  have b2:a+w2<e.size:=by clear hx hy hz5 hand kn hsz;lia
  have hsw:=@swp_rows O e j (a+w2) _ _ b1 b2 hx hy
  obtain⟨V,hV⟩:∃ V,V=swp e j (a+w2):=⟨_,rfl⟩
  rw[← hV] at hsw hz5
  clear hV
  obtain⟨xa,xb⟩:=x
  obtain⟨ya,yb⟩:=y
  (repeat' first|(refine Need.mk (fun h=>nomatch h) ?_;cbv)|(refine Named.andN (o:=wi) (hand _ ?_) ?_;(focus assumption);cbv)|(refine Na ?_ fun _ _=>?_;(focus lia);cbv)|(refine Named.u64 ?_ fun _ _=>?_;(focus(clear hx hy hsw hz5 hand kn;lia));cbv)|(refine CallThen.mk _ _ (C.fn (kn)) ?_;cbv)|(refine Ex.arr O b1 hx ?_ ?_;(focus(clear hx hy hsw hz5 hand kn;lia));cbv)|(refine Ex.arr O b2 hy ?_ ?_;(focus(clear hx hy hsw hz5 hand kn;lia));cbv)|(refine Ex.swp O b2 hy (by assumption) rfl ?_ ?_;(focus(clear hx hy hsw hz5 hand kn;lia));cbv)|(refine Back.to (i+1,r',V) [] [] ?_ fun _ _=>?_;rotate_left;cbv)|(refine Nl fun _ _ hq=>?_;(try simp only [lenS] at hq);cbv)|(refine Nm fun _ _=>?_;cbv)|(refine Br.t ?_ ?_;(focus first|assumption|lia);cbv)|(refine Br.mk (fun _=>?_) (fun _=>?_)<;>cbv)|(refine Need.mk ?_ ?_;rotate_left;cbv))
  all_goals first
   | (rename_i y' hy';subst hy';refine⟨WkR.of_eq (hsw (by assumption) (by assumption) rfl rfl (by lia) (by lia)).symm,rfl,?_,trivial⟩;(clear hx hy hsw hz5 hand kn;lia))
   | exact⟨hz5,by dsimp only;clear hx hy hsw hz5 hand kn hsz;lia⟩
   | (clear hx hy hsw hz5 hand kn;lia)
   | trace_state
 ·have:k=3:=by omega
  subst this
  have hRe:e=R:=by rw[hR,← g4]
  subst hRe
  clear hR g4 hsz
  (repeat' first|(refine Need.mk (fun h=>nomatch h) ?_;cbv)|(refine Na ?_ fun _ _=>?_;(focus lia);cbv)|(refine Br.f ?_ ?_;(focus first|assumption|lia);cbv)|(refine R0 ?_;cbv))
  all_goals first
   | exact⟨.refl _,trivial⟩
   | exact .refl _
   | lia
   | trace_state
open Go.Sort (swp scanUp scanDown partEqLoop partitionEqual insOuter insertionSort heapSort heapBuild heapPop breakPatterns choosePivot reverseRange reverseLoop partialInsertionSort pdq Hint)
theorem scanUp_le (p:PairK→Bool) (d:Array PairK) (j:Nat):∀ (m i:Nat),j+1-i≤m→scanUp p d j i≤i∨scanUp p d j i≤j+1:=by
 intro m
 induction m with
 | zero=>intro i h;rw[scanUp_stop fun k=>by omega];exact .inl (Nat.le_refl _)
 | succ m ih =>
  intro i h
  by_cases hp:i≤j∧p d[i]! = true
  ·rw[scanUp_go hp.1 hp.2]
   have:=ih (i+1) (by omega)
   omega
  ·rw[scanUp_stop fun k=>by cases e:p d[i]!<;>simp_all];exact .inl (Nat.le_refl _)
theorem partEq_range (a J:Nat):∀ (m i j:Nat) (d:Array PairK),j+1-i≤m→1≤i→i≤J+1→j≤J→i≤(partEqLoop ltP a i j d).1∧(partEqLoop ltP a i j d).1≤J+1:=by
 intro m
 induction m using Nat.strongRecOn with
 | ind m ih =>
  intro i j d h h1 h2 h3
  have g1:=scanUp_ge (fun x=>!ltP d[a]! x) d j _ i (Nat.le_refl _)
  have g2:=scanDown_le (fun x=>ltP d[a]! x) d (scanUp (fun x=>!ltP d[a]! x) d j i) j
  have g3:=scanUp_le (fun x=>!ltP d[a]! x) d j _ i (Nat.le_refl _)
  rw[partEq_at rfl rfl g1 g2 h1]
  split
  ·constructor
   ·exact g1
   ·dsimp only;omega
  ·rename_i hk
   have:=ih _ (by omega) (scanUp (fun x=>!ltP d[a]! x) d j i+1) (scanDown (fun x=>ltP d[a]! x) d (scanUp (fun x=>!ltP d[a]! x) d j i) j-1) (swp d (scanUp (fun x=>!ltP d[a]! x) d j i) (scanDown (fun x=>ltP d[a]! x) d (scanUp (fun x=>!ltP d[a]! x) d j i) j)) (Nat.le_refl _) (by omega) (by omega) (by omega)
   exact⟨by omega,this.2⟩
theorem partitionEq_range {d:Array PairK} {a b p:Nat} (h:a<b):a<(partitionEqual ltP d a b p).1∧(partitionEqual ltP d a b p).1≤b:=by
 have:=partEq_range a (b-1) _ (a+1) (b-1) (swp d a p) (Nat.le_refl _) (by omega) (by omega) (Nat.le_refl _)
 unfold partitionEqual
 omega
theorem partitionEq_size (d:Array PairK) (a b p:Nat):(partitionEqual ltP d a b p).2.size=d.size:=by
 unfold partitionEqual
 rw[partEq_size _ _ _ _ _ (Nat.le_refl _),swp_size]
theorem partition_size (d:Array PairK) (a b p:Nat):(Go.Sort.partition ltP d a b p).2.2.size=d.size:=by
 rw[partition_at rfl rfl rfl rfl rfl]
 split
 ·rw[swp_size,swp_size]
 ·dsimp only;rw[swp_size,part_size _ _ _ _ _ (Nat.le_refl _),swp_size,swp_size]
theorem rev_size:∀ (m i j:Nat) (d:Array PairK),j-i≤m→(reverseLoop i j d).size=d.size:=by
 intro m
 induction m with
 | zero=>intro i j d h;rw[reverseLoop,if_neg (by omega)]
 | succ m ih =>
  intro i j d h
  rw[reverseLoop]
  split
  ·rw[ih _ _ _ (by omega),swp_size]
  ·rfl
theorem heapPop_size (first:Nat):∀ (k:Nat) (e:Array PairK),(heapPop ltP first k e).size=e.size
 | 0,_=>rfl
 | k+1,e=>by
  rw[heapPop,heapPop_size first k,sift_size k first _ 0 _ (Nat.le_refl _),swp_size]
theorem pdq_round (d:Array PairK) (a b l:Nat) (wb wp:Bool) (h:¬ b-a≤12) (hl:¬ l=0) (hb:b≤d.size) :
  ∃ (d1 d2 d3:Array PairK) (l' p:Nat) (pb:Bool) (c:Nat×Hint),d1=(if wb=false then breakPatterns d a b else d)∧l'=(if wb=false then l-1 else l)∧c=choosePivot ltP d1 a b ∧
   d2=(if c.2=.decreasing then reverseRange d1 a b else d1)∧p=(if c.2=.decreasing then b-1-(c.1-a) else c.1) ∧
   (d3,pb)=(if wb=true∧wp=true∧c.2≠.unknown then partialInsertionSort ltP d2 a b else(d2,false)) ∧
   d1.size=d.size∧d2.size=d.size∧d3.size=d.size∧a≤c.1∧c.1<b∧a≤p∧p<b ∧
   (a<(partitionEqual ltP d3 a b p).1∧(partitionEqual ltP d3 a b p).1≤b)∧(a≤(Go.Sort.partition ltP d3 a b p).1∧(Go.Sort.partition ltP d3 a b p).1<b) ∧
   pdq ltP d a b l wb wp=if pb=true then d3 else pdqS d3 a b l' p wb wp:=by
 obtain⟨d1,h1⟩:∃ d1,d1=(if wb=false then breakPatterns d a b else d):=⟨_,rfl⟩
 obtain⟨l',hl'⟩:∃ l',l'=(if wb=false then l-1 else l):=⟨_,rfl⟩
 obtain⟨c,hc⟩:∃ c,c=choosePivot ltP d1 a b:=⟨_,rfl⟩
 obtain⟨d2,h2⟩:∃ d2,d2=(if c.2=.decreasing then reverseRange d1 a b else d1):=⟨_,rfl⟩
 obtain⟨p,hp⟩:∃ p,p=(if c.2=.decreasing then b-1-(c.1-a) else c.1):=⟨_,rfl⟩
 obtain⟨⟨d3,pb⟩,h3⟩:∃ q:Array PairK×Bool,q=(if wb=true∧wp=true∧c.2≠.unknown then partialInsertionSort ltP d2 a b else(d2,false)):=⟨_,rfl⟩
 have s1:d1.size=d.size:=by
  rw[h1];split
  ·rw[break_at (by omega),breakIt_size]
  ·rfl
 have s2:d2.size=d.size:=by
  rw[h2,← s1];split
  ·unfold reverseRange;rw[rev_size _ _ _ _ (Nat.le_refl _)]
  ·rfl
 have s3:d3.size=d.size:=by
  have e:d3=(if wb=true∧wp=true∧c.2≠.unknown then partialInsertionSort ltP d2 a b else(d2,false)).1:=by rw[← h3]
  rw[e,← s2];split
  ·unfold partialInsertionSort;rw[partIns_size]
  ·rfl
 have q1:=Go.Sort.choosePivot_holds ltP d1 a b (by omega)
 rw[← hc] at q1
 have q2:a≤p∧p<b:=by rw[hp];split<;>omega
 have q3:=partitionEq_range (d:=d3) (p:=p) (show a<b by omega)
 have q4:=Go.Sort.partition_holds ltP ltP_swo d3 a b p q2.1 q2.2 (by omega)
 refine⟨d1,d2,d3,l',p,pb,c,h1,hl',hc,h2,hp,h3,s1,s2,s3,q1.1,q1.2,q2.1,q2.2,q3,⟨q4.1,q4.2.1⟩,?_⟩
 exact pdq_at h hl h1 hl' hc h2 hp h3 q3 ⟨q4.1,q4.2.1⟩
theorem pdq_size:∀ (N:Nat) (d:Array PairK) (a b l:Nat) (wb wp:Bool),b-a≤N→b≤d.size→(pdq ltP d a b l wb wp).size=d.size:=by
 intro N
 induction N with
 | zero=>intro d a b l wb wp h hb;rw[pdq_small (by omega)];unfold insertionSort;rw[insOuter_size _ _ _ _ _ (Nat.le_refl _)]
 | succ N ih =>
  intro d a b l wb wp h hb
  by_cases h12:b-a≤12
  ·rw[pdq_small h12];unfold insertionSort;rw[insOuter_size _ _ _ _ _ (Nat.le_refl _)]
  ·by_cases hl:l=0
   ·rw[pdq_heap h12 hl];unfold heapSort;rw[heapPop_size,heapBuild_size]
   ·obtain⟨d1,d2,d3,l',p,pb,c,-,-,-,-,-,-,-,-,s3,-,-,q1,q2,q3,q4,e⟩:=pdq_round d a b l wb wp h12 hl hb
    rw[e]
    have e1:=partitionEq_size d3 a b p
    have e2:=partition_size d3 a b p
    split
    ·exact s3
    ·unfold pdqS
     split
     ·rw[ih _ _ _ _ _ _ (by omega) (by omega)];omega
     ·split
      ·have i1:=ih (Go.Sort.partition ltP d3 a b p).2.2 a (Go.Sort.partition ltP d3 a b p).1 l' true true (by omega) (by omega)
       rw[ih _ _ _ _ _ _ (by omega) (by omega)];omega
      ·have i1:=ih (Go.Sort.partition ltP d3 a b p).2.2 ((Go.Sort.partition ltP d3 a b p).1+1) b l' true true (by omega) (by omega)
       rw[ih _ _ _ _ _ _ (by omega) (by omega)];omega
open Go.Sort (partitionEqual insertionSort heapSort breakPatterns choosePivot reverseRange partialInsertionSort pdq Hint)
def pdqInv (n N:Nat) (R:Array PairK) (x:Int×Int×Int×Bool×Bool×Array PairK):Prop :=
 ∃ a b l:Nat,x.1=a∧x.2.1=b∧x.2.2.1=l∧a≤b∧b≤n∧l≤64∧b-a≤N∧x.2.2.2.2.2.size=n∧pdq ltP x.2.2.2.2.2 a b l x.2.2.2.1 x.2.2.2.2.1=R
set_option maxHeartbeats 32000000 in
theorem pdq_fn (O:Opq):∀ (N:Nat) (d:Array PairK) (a b l:Nat) (ai bi li:Int),ai=a→bi=b→li=l→b-a≤N→a≤b→b≤d.size→d.size≤255→l≤64 →
  Fn prog 57 [.ref 0,.int .i64 ai,.int .i64 bi,.int .i64 li,.fn 35 [] []] [.arr 0 none 2 (O.o arrE d)] [] [.arr 0 none 2 (O.o arrE (pdq ltP d a b l true true))]:=by
 intro N
 induction N using Nat.strongRecOn with
 | ind N ih =>
 intro d a b l ai bi li hai hbi hli hN hab hb hd hl
 obtain⟨R,hR⟩:∃ R,R=pdq ltP d a b l true true:=⟨_,rfl⟩
 rw[← hR]
 obtain⟨n,hn⟩:∃ n,n=d.size:=⟨_,rfl⟩
 obtain⟨z,hz⟩:∃ z:Int×Int×Int×Bool×Bool×Array PairK,z=(ai,bi,li,true,true,d):=⟨_,rfl⟩
 have z1:z.1=ai:=by rw[hz]
 have z2:z.2.1=bi:=by rw[hz]
 have z3:z.2.2.1=li:=by rw[hz]
 have z4:z.2.2.2.1=true:=by rw[hz]
 have z5:z.2.2.2.2.1=true:=by rw[hz]
 have z6:O.o arrE d=O.o arrE z.2.2.2.2.2:=by rw[hz]
 have hz0:pdqInv n N R z:=by rw[hz];exact⟨a,b,l,hai,hbi,hli,hab,by omega,hl,hN,hn.symm,hR.symm⟩
 have hd:n≤255:=by omega
 clear hz hR hn hb hai hbi hli hN hab hl
 obtain⟨Z,hZ⟩:∃ Z,Z=O.o arrE d:=⟨_,rfl⟩
 rw[← hZ] at z6 ⊢
 clear hZ
 refine go (fn:=Proofs.Tryz.f57) (n:=143) (rv:=[]) rfl (by decide) rfl (by decide +kernel) rfl rfl (by simp) fun F L C=>?_
 cbv
 refine LoopThen.mk (C.loopAt (ι:=Int×Int×Int×Bool×Bool×Array PairK) [(1,3),(10,147)] (fun x=>[(1,.int .i64 x.1),(2,.int .i64 x.2.1),(3,.int .i64 x.2.2.1),(10,.bool x.2.2.2.1),(11,.bool x.2.2.2.2.1)]) (fun x=>[(0,.arr 0 none 2 (O.o arrE x.2.2.2.2.2))])
  (pdqInv n N R) (fun x=>(x.2.1-x.1).toNat) (by decide +kernel) (Start.mk z [] [] hz0 ?_) ?_)
 ·cbv
  (repeat' apply And.intro)<;>first|exact True.intro|exact WkR.refl _|exact WkR.of_eq z6.symm|exact z1|exact z2|exact z3|exact z4|exact z5|rfl|trace_state
 clear hz0 z1 z2 z3 z4 z5 z6
 intro x g
 obtain⟨ai,bi,li,wb,wp,e⟩:=x
 obtain⟨a,b,l,hai,hbi,hli,hab,hb,hl,hN,hen,hat⟩:=g
 replace hai:ai=a:=hai
 replace hbi:bi=b:=hbi
 replace hli:li=l:=hli
 replace hen:e.size=n:=hen
 replace hat:pdq ltP e a b l wb wp=R:=hat
 by_cases h12:b-a≤12
 ·rw[pdq_small h12] at hat
  have k1:=insertionSort_fn O e a b ai bi hai hbi (by omega) hab (by omega)
  rw[hat] at k1
  clear ih hat
  cbv
  (repeat' first|(refine Na ?_ fun _ _=>?_;(focus lia);cbv)|(refine CallThen.mk _ _ (C.fn (k1)) ?_;cbv)|(refine Br.t ?_ ?_;(focus first|assumption|lia);cbv)|(refine R0 ?_;cbv))
  all_goals first
   | exact⟨.refl _,trivial⟩
   | exact .refl _
   | (clear k1;lia)
   | trace_state
 by_cases hl0:l=0
 ·rw[pdq_heap h12 hl0] at hat
  have k1:=heapSort_fn O e a b ai bi hai hbi (by omega) (by omega) (by omega)
  rw[hat] at k1
  clear ih hat
  cbv
  (repeat' first|(refine Na ?_ fun _ _=>?_;(focus lia);cbv)|(refine CallThen.mk _ _ (C.fn (k1)) ?_;cbv)|(refine Br.t ?_ ?_;(focus first|assumption|lia);cbv)|(refine Br.f ?_ ?_;(focus first|assumption|lia);cbv)|(refine R0 ?_;cbv))
  all_goals first
   | exact⟨.refl _,trivial⟩
   | exact .refl _
   | (clear k1;lia)
   | trace_state
 obtain⟨d1,d2,d3,l',p,pb,c,h1,hl',hc,h2,hp,h3,s1,s2,s3,c1,c2,p1,p2,q3,q4,e0⟩:=pdq_round e a b l wb wp h12 hl0 (by omega)
 rw[e0] at hat
 obtain⟨pi0,hpi0⟩:∃ i:Int,i=c.1:=⟨_,rfl⟩
 obtain⟨hi,hhi⟩:∃ i:Int,i=hintI c.2:=⟨_,rfl⟩
 have kc:=choosePivot_fn O d1 a b ai bi pi0 hi hai hbi (by rw[hpi0,hc]) (by rw[hhi,hc]) (by omega) (by omega) (by omega)
 have hret:pb=true→d3=R:=fun h=>by rw[← hat,if_pos h]
 have hat2:pb=false→pdqS d3 a b l' p wb wp=R:=fun h=>by rw[← hat,if_neg (by rw[h];simp)]
 clear hat e0
 have ke:=fun pi h=>partitionEqual_fn O d3 a b p ai bi pi (((partitionEqual ltP d3 a b p).1:Nat):Int) hai hbi h rfl (by omega) (by omega) p2 (by omega)
 have se:=partitionEq_size d3 a b p
 obtain⟨QE,hQE⟩:∃ Q,Q=partitionEqual ltP d3 a b p:=⟨_,rfl⟩
 have kq:=fun pi h=>partition_fn O d3 a b p ai bi pi (((Go.Sort.partition ltP d3 a b p).1:Nat):Int) (Go.Sort.partition ltP d3 a b p).2.1 hai hbi h rfl rfl (by omega) (by omega) p2 (by omega)
 have sq:=partition_size d3 a b p
 obtain⟨QQ,hQQ⟩:∃ Q,Q=Go.Sort.partition ltP d3 a b p:=⟨_,rfl⟩
 unfold pdqS at hat2
 rw[← hQE] at ke se q3 hat2
 rw[← hQQ] at kq sq q4 hat2
 obtain⟨m1n,DE⟩:=QE
 obtain⟨m2n,t2,D4⟩:=QQ
 dsimp only at ke se q3 hat2 kq sq q4
 obtain⟨m1,hm1⟩:∃ m:Int,m=m1n:=⟨_,rfl⟩
 obtain⟨m2,hm2⟩:∃ m:Int,m=m2n:=⟨_,rfl⟩
 obtain⟨m2p,hm2p⟩:∃ m:Int,m=m2n+1:=⟨_,rfl⟩
 obtain⟨l2,hl2⟩:∃ m:Int,m=l':=⟨_,rfl⟩
 rw[← hm1] at ke
 rw[← hm2] at kq
 have hl64:l'≤64:=by rw[hl'];split<;>omega
 have kl:=fun v h=>ih (b-a-1) (by omega) D4 a m2n l' ai m2 v hai hm2 h (by omega) (by omega) (by omega) (by omega) hl64
 have km:=fun u v h h'=>ih (b-a-1) (by omega) D4 (m2n+1) b l' u bi v h hbi h' (by omega) (by omega) (by omega) (by omega) hl64
 have sl:=pdq_size _ D4 a m2n l' true true (Nat.le_refl _) (by omega)
 have sm:=pdq_size _ D4 (m2n+1) b l' true true (Nat.le_refl _) (by omega)
 obtain⟨D5,hD5⟩:∃ D,D=pdq ltP D4 a m2n l' true true:=⟨_,rfl⟩
 obtain⟨D6,hD6⟩:∃ D,D=pdq ltP D4 (m2n+1) b l' true true:=⟨_,rfl⟩
 rw[← hD5] at kl sl hat2
 rw[← hD6] at km sm hat2
 obtain⟨B1,hB1⟩:∃ B,B=decide (m2n-a ≥ (b-a) / 8):=⟨_,rfl⟩
 obtain⟨B2,hB2⟩:∃ B,B=decide (b-m2n ≥ (b-a) / 8):=⟨_,rfl⟩
 rw[← hB1,← hB2] at hat2
 have hB1:(B1=true→bi-ai<8 * (m2-ai)+8)∧(B1=false→8 * (m2-ai)+8≤bi-ai):=by
  rw[hB1];constructor
  ·intro h;have:=of_decide_eq_true h;omega
  ·intro h;have:=of_decide_eq_false h;omega
 have hB2:(B2=true→bi-ai<8 * (bi-m2)+8)∧(B2=false→8 * (bi-m2)+8≤bi-ai):=by
  rw[hB2];constructor
  ·intro h;have:=of_decide_eq_true h;omega
  ·intro h;have:=of_decide_eq_false h;omega
 obtain⟨x,hx⟩:∃ x,x=d3[a-1]!:=⟨_,rfl⟩
 obtain⟨y,hy⟩:∃ x,x=d3[p]!:=⟨_,rfl⟩
 have b1:a-1<d3.size:=by omega
 have b2:p<d3.size:=by omega
 have ko:=order_fn O x y
 rw[← hx,← hy,← congrFun (O.h (ordI x)) y] at hat2
 obtain⟨S,hS⟩:∃ S,S=O.o (ordI x) y:=⟨_,rfl⟩
 rw[← hS] at ko hat2
 clear hS
 have hIE:pb=false→1≤ai→¬ S<0→pdqInv n N R (m1,bi,l2,wb,wp,DE)∧(bi-m1).toNat<(bi-ai).toNat:=fun k1 k2 k3=>by
  have:=hat2 k1
  rw[if_pos ⟨by omega,k3⟩] at this
  exact⟨⟨m1n,b,l',hm1,hbi,hl2,by omega,hb,hl64,by omega,by dsimp only;omega,this⟩,by omega⟩
 have hIL:pb=false→(ai<1∨S<0)→m2-ai<bi-m2→pdqInv n N R (m2p,bi,l2,B1,t2,D5)∧(bi-m2p).toNat<(bi-ai).toNat:=fun k1 k2 k3=>by
  have:=hat2 k1
  rw[if_neg (by omega),if_pos (by omega)] at this
  exact⟨⟨m2n+1,b,l',by dsimp only;omega,hbi,hl2,by omega,hb,hl64,by omega,by dsimp only;omega,this⟩,by omega⟩
 have hIR:pb=false→(ai<1∨S<0)→¬ m2-ai<bi-m2→pdqInv n N R (ai,m2,l2,B2,t2,D6)∧(m2-ai).toNat<(bi-ai).toNat:=fun k1 k2 k3=>by
  have:=hat2 k1
  rw[if_neg (by omega),if_neg (by omega)] at this
  exact⟨⟨a,m2n,l',hai,hm2,hl2,by omega,by omega,hl64,by omega,by dsimp only;omega,this⟩,by omega⟩
 have hpp:((c.2=.decreasing→(p:Int)=bi-1-(pi0-ai))∧(c.2≠.decreasing→(p:Int)=pi0)):=by
  rw[hp];constructor
  ·intro h;rw[if_pos h];omega
  ·intro h;rw[if_neg h];omega
 clear ih hat2 hD5 hD6 hQE hQQ hc hp
 obtain⟨xa,xb⟩:=x
 obtain⟨ya,yb⟩:=y
 obtain⟨cp,ch⟩:=c
 dsimp only at *
 have hcp:0≤pi0∧pi0<256∧ai≤pi0∧pi0<bi:=by omega
 have hll:(wb=false→l2=li-1)∧(wb=true→l2=li):=by
  rw[hl2,hl',hli];constructor
  ·intro h;rw[if_pos h];omega
  ·intro h;rw[if_neg (by rw[h];simp)]
 have hlp:1≤li:=by omega
 clear hl'
 have hno:ch≠.decreasing→hi≠2:=fun h k=>by
  rw[hhi] at k
  cases ch
  ·exact absurd k (by decide)
  ·exact absurd k (by decide)
  ·exact h rfl
 have hde:ch=.decreasing→hi=2:=fun h=>by rw[hhi,h];rfl
 have hin:ch=.increasing→hi=1:=fun h=>by rw[hhi,h];rfl
 have hun:ch=.unknown→hi=0:=fun h=>by rw[hhi,h];rfl
 clear hhi
 have hlen:=arrE_len O d3
 cases wb
 ·replace hll:l2=li-1:=hll.1 rfl
  have kb:=break_fn O e a b ai bi hai hbi (by omega) (by omega) (by omega)
  rw[if_pos rfl] at h1
  rw[← h1] at kb
  rw[if_neg (by simp)] at h3
  have e3:d3=d2:=by injection h3
  have e4:pb=false:=by injection h3
  subst e4
  clear h3 hret h1
  by_cases hch:ch=.decreasing
  ·rw[if_pos hch] at h2
   have kr:=reverseRange_fn O d1 a b ai bi hai hbi (by omega) (by omega) (by omega)
   rw[← h2,← e3] at kr
   have hpp:=hpp.1 hch
   have hde:=hde hch
   clear h2 e3 hno hin hun hch
   cbv
   as_aux_lemma =>
    (repeat' first|(refine Need.mk (fun h=>nomatch h) ?_;cbv)|(refine Na ?_ fun _ _=>?_;(focus lia);cbv)|(refine CallThen.mk _ _ (C.fn (kb)) ?_;cbv)|(refine CallThen.mk _ _ (C.fn (kr)) ?_;cbv)|(refine CallThen.mk _ _ (C.fn (kc)) ?_;cbv)|(refine Ex.arr O b1 hx ?_ ?_;(focus(clear hx hy ko kc ke kq kl km kb kr hIE hIL hIR;lia));cbv)|(refine Ex.arr O b2 hy ?_ ?_;(focus(clear hx hy ko kc ke kq kl km kb kr hIE hIL hIR;lia));cbv)|(refine CallThen.mk _ _ (C.fn (ko)) ?_;cbv)|(refine CallThen.mk _ _ (C.fn (ke _ ?_)) ?_;(focus(clear hx hy ko kc ke kq kl km kb kr hIE hIL hIR;lia));cbv)|(refine CallThen.mk _ _ (C.fn (kq _ ?_)) ?_;(focus(clear hx hy ko kc ke kq kl km kb kr hIE hIL hIR;lia));cbv)|(refine CallThen.mk _ _ (C.fn (kl _ ?_)) ?_;(focus(clear hx hy ko kc ke kq kl km kb kr hIE hIL hIR;lia));cbv)|(refine CallThen.mk _ _ (C.fn (km _ _ ?_ ?_)) ?_;(focus(clear hx hy ko kc ke kq kl km kb kr hIE hIL hIR;lia));(focus(clear hx hy ko kc ke kq kl km kb kr hIE hIL hIR;lia));cbv)|(refine Back.to (m1,bi,l2,false,wp,DE) [] [] ?_ fun y' hy'=>?_;rotate_left;cbv;(focus(subst hy';(repeat' apply And.intro)<;>first|exact True.intro|exact WkR.refl _|rfl|(clear hx hy ko kc ke kq kl km kb kr;lia)|(clear hx hy ko kc ke kq kl km kb kr hIE hIL hIR;cases B1<;>first|rfl|(exfalso;lia))|(clear hx hy ko kc ke kq kl km kb kr hIE hIL hIR;cases B2<;>first|rfl|(exfalso;lia)))))|(refine Back.to (m2p,bi,l2,B1,t2,D5) [] [] ?_ fun y' hy'=>?_;rotate_left;cbv;(focus(subst hy';(repeat' apply And.intro)<;>first|exact True.intro|exact WkR.refl _|rfl|(clear hx hy ko kc ke kq kl km kb kr;lia)|(clear hx hy ko kc ke kq kl km kb kr hIE hIL hIR;cases B1<;>first|rfl|(exfalso;lia))|(clear hx hy ko kc ke kq kl km kb kr hIE hIL hIR;cases B2<;>first|rfl|(exfalso;lia)))))|(refine Back.to (ai,m2,l2,B2,t2,D6) [] [] ?_ fun y' hy'=>?_;rotate_left;cbv;(focus(subst hy';(repeat' apply And.intro)<;>first|exact True.intro|exact WkR.refl _|rfl|(clear hx hy ko kc ke kq kl km kb kr;lia)|(clear hx hy ko kc ke kq kl km kb kr hIE hIL hIR;cases B1<;>first|rfl|(exfalso;lia))|(clear hx hy ko kc ke kq kl km kb kr hIE hIL hIR;cases B2<;>first|rfl|(exfalso;lia)))))|(refine Nm fun _ _=>?_;cbv)|(refine Br.t ?_ ?_;(focus first|assumption|lia);cbv)|(refine Br.f ?_ ?_;(focus first|assumption|lia);cbv)|(refine Br.mk (fun _=>?_) (fun _=>?_)<;>cbv)|(refine Need.mk ?_ ?_;rotate_left;cbv))
    all_goals first
     | exact hIE (by first|rfl|assumption) (by clear hx hy ko kc ke kq kl km kb kr hIE hIL hIR;lia) (by assumption)
     | exact hIL (by first|rfl|assumption) (by clear hx hy ko kc ke kq kl km kb kr hIE hIL hIR;lia) (by clear hx hy ko kc ke kq kl km kb kr hIE hIL hIR;lia)
     | exact hIR (by first|rfl|assumption) (by clear hx hy ko kc ke kq kl km kb kr hIE hIL hIR;lia) (by clear hx hy ko kc ke kq kl km kb kr hIE hIL hIR;lia)
     | fail
     | (clear hx hy ko kc ke kq kl km kb kr hIE hIL hIR;lia)
     | trace_state
  ·rw[if_neg hch] at h2
   have e2:d3=d1:=e3.trans h2
   subst e2
   have hpp:=hpp.2 hch
   have hno:=hno hch
   clear h2 e3 hde hin hun hch
   cbv
   as_aux_lemma =>
    (repeat' first|(refine Need.mk (fun h=>nomatch h) ?_;cbv)|(refine Na ?_ fun _ _=>?_;(focus lia);cbv)|(refine CallThen.mk _ _ (C.fn (kb)) ?_;cbv)|(refine CallThen.mk _ _ (C.fn (kc)) ?_;cbv)|(refine Ex.arr O b1 hx ?_ ?_;(focus(clear hx hy ko kc ke kq kl km kb hIE hIL hIR;lia));cbv)|(refine Ex.arr O b2 hy ?_ ?_;(focus(clear hx hy ko kc ke kq kl km kb hIE hIL hIR;lia));cbv)|(refine CallThen.mk _ _ (C.fn (ko)) ?_;cbv)|(refine CallThen.mk _ _ (C.fn (ke _ ?_)) ?_;(focus(clear hx hy ko kc ke kq kl km kb hIE hIL hIR;lia));cbv)|(refine CallThen.mk _ _ (C.fn (kq _ ?_)) ?_;(focus(clear hx hy ko kc ke kq kl km kb hIE hIL hIR;lia));cbv)|(refine CallThen.mk _ _ (C.fn (kl _ ?_)) ?_;(focus(clear hx hy ko kc ke kq kl km kb hIE hIL hIR;lia));cbv)|(refine CallThen.mk _ _ (C.fn (km _ _ ?_ ?_)) ?_;(focus(clear hx hy ko kc ke kq kl km kb hIE hIL hIR;lia));(focus(clear hx hy ko kc ke kq kl km kb hIE hIL hIR;lia));cbv)|(refine Back.to (m1,bi,l2,false,wp,DE) [] [] ?_ fun y' hy'=>?_;rotate_left;cbv;(focus(subst hy';(repeat' apply And.intro)<;>first|exact True.intro|exact WkR.refl _|rfl|(clear hx hy ko kc ke kq kl km kb;lia)|(clear hx hy ko kc ke kq kl km kb hIE hIL hIR;cases B1<;>first|rfl|(exfalso;lia))|(clear hx hy ko kc ke kq kl km kb hIE hIL hIR;cases B2<;>first|rfl|(exfalso;lia)))))|(refine Back.to (m2p,bi,l2,B1,t2,D5) [] [] ?_ fun y' hy'=>?_;rotate_left;cbv;(focus(subst hy';(repeat' apply And.intro)<;>first|exact True.intro|exact WkR.refl _|rfl|(clear hx hy ko kc ke kq kl km kb;lia)|(clear hx hy ko kc ke kq kl km kb hIE hIL hIR;cases B1<;>first|rfl|(exfalso;lia))|(clear hx hy ko kc ke kq kl km kb hIE hIL hIR;cases B2<;>first|rfl|(exfalso;lia)))))|(refine Back.to (ai,m2,l2,B2,t2,D6) [] [] ?_ fun y' hy'=>?_;rotate_left;cbv;(focus(subst hy';(repeat' apply And.intro)<;>first|exact True.intro|exact WkR.refl _|rfl|(clear hx hy ko kc ke kq kl km kb;lia)|(clear hx hy ko kc ke kq kl km kb hIE hIL hIR;cases B1<;>first|rfl|(exfalso;lia))|(clear hx hy ko kc ke kq kl km kb hIE hIL hIR;cases B2<;>first|rfl|(exfalso;lia)))))|(refine Nm fun _ _=>?_;cbv)|(refine Br.f ?_ ?_;(focus first|assumption|lia);cbv)|(refine Br.mk (fun _=>?_) (fun _=>?_)<;>cbv)|(refine Need.mk ?_ ?_;rotate_left;cbv))
    all_goals first
     | exact hIE (by first|rfl|assumption) (by clear hx hy ko kc ke kq kl km kb hIE hIL hIR;lia) (by assumption)
     | exact hIL (by first|rfl|assumption) (by clear hx hy ko kc ke kq kl km kb hIE hIL hIR;lia) (by clear hx hy ko kc ke kq kl km kb hIE hIL hIR;lia)
     | exact hIR (by first|rfl|assumption) (by clear hx hy ko kc ke kq kl km kb hIE hIL hIR;lia) (by clear hx hy ko kc ke kq kl km kb hIE hIL hIR;lia)
     | fail
     | (clear hx hy ko kc ke kq kl km kb hIE hIL hIR;lia)
     | trace_state
 ·replace hll:l2=li:=hll.2 rfl
  rw[if_neg (by simp)] at h1
  cases wp
  ·rw[if_neg (by simp)] at h3
   have e3:d3=d2:=by injection h3
   have e4:pb=false:=by injection h3
   subst e4
   clear h3 hret
   by_cases hch:ch=.decreasing
   ·rw[if_pos hch] at h2
    have kr:=reverseRange_fn O d1 a b ai bi hai hbi (by omega) (by omega) (by omega)
    rw[← h2,← e3] at kr
    have hpp:=hpp.1 hch
    have hde:=hde hch
    subst h1
    clear h2 e3 hno hin hun hch
    cbv
    as_aux_lemma =>
     (repeat' first|(refine Need.mk (fun h=>nomatch h) ?_;cbv)|(refine Na ?_ fun _ _=>?_;(focus lia);cbv)|(refine CallThen.mk _ _ (C.fn (kr)) ?_;cbv)|(refine CallThen.mk _ _ (C.fn (kc)) ?_;cbv)|(refine Ex.arr O b1 hx ?_ ?_;(focus(clear hx hy ko kc ke kq kl km kr hIE hIL hIR;lia));cbv)|(refine Ex.arr O b2 hy ?_ ?_;(focus(clear hx hy ko kc ke kq kl km kr hIE hIL hIR;lia));cbv)|(refine CallThen.mk _ _ (C.fn (ko)) ?_;cbv)|(refine CallThen.mk _ _ (C.fn (ke _ ?_)) ?_;(focus(clear hx hy ko kc ke kq kl km kr hIE hIL hIR;lia));cbv)|(refine CallThen.mk _ _ (C.fn (kq _ ?_)) ?_;(focus(clear hx hy ko kc ke kq kl km kr hIE hIL hIR;lia));cbv)|(refine CallThen.mk _ _ (C.fn (kl _ ?_)) ?_;(focus(clear hx hy ko kc ke kq kl km kr hIE hIL hIR;lia));cbv)|(refine CallThen.mk _ _ (C.fn (km _ _ ?_ ?_)) ?_;(focus(clear hx hy ko kc ke kq kl km kr hIE hIL hIR;lia));(focus(clear hx hy ko kc ke kq kl km kr hIE hIL hIR;lia));cbv)|(refine Back.to (m1,bi,l2,true,false,DE) [] [] ?_ fun y' hy'=>?_;rotate_left;cbv;(focus(subst hy';(repeat' apply And.intro)<;>first|exact True.intro|exact WkR.refl _|rfl|(clear hx hy ko kc ke kq kl km kr;lia)|(clear hx hy ko kc ke kq kl km kr hIE hIL hIR;cases B1<;>first|rfl|(exfalso;lia))|(clear hx hy ko kc ke kq kl km kr hIE hIL hIR;cases B2<;>first|rfl|(exfalso;lia)))))|(refine Back.to (m2p,bi,l2,B1,t2,D5) [] [] ?_ fun y' hy'=>?_;rotate_left;cbv;(focus(subst hy';(repeat' apply And.intro)<;>first|exact True.intro|exact WkR.refl _|rfl|(clear hx hy ko kc ke kq kl km kr;lia)|(clear hx hy ko kc ke kq kl km kr hIE hIL hIR;cases B1<;>first|rfl|(exfalso;lia))|(clear hx hy ko kc ke kq kl km kr hIE hIL hIR;cases B2<;>first|rfl|(exfalso;lia)))))|(refine Back.to (ai,m2,l2,B2,t2,D6) [] [] ?_ fun y' hy'=>?_;rotate_left;cbv;(focus(subst hy';(repeat' apply And.intro)<;>first|exact True.intro|exact WkR.refl _|rfl|(clear hx hy ko kc ke kq kl km kr;lia)|(clear hx hy ko kc ke kq kl km kr hIE hIL hIR;cases B1<;>first|rfl|(exfalso;lia))|(clear hx hy ko kc ke kq kl km kr hIE hIL hIR;cases B2<;>first|rfl|(exfalso;lia)))))|(refine Nm fun _ _=>?_;cbv)|(refine Br.t ?_ ?_;(focus first|assumption|lia);cbv)|(refine Br.f ?_ ?_;(focus first|assumption|lia);cbv)|(refine Br.mk (fun _=>?_) (fun _=>?_)<;>cbv)|(refine Need.mk ?_ ?_;rotate_left;cbv))
     all_goals first
      | exact hIE (by first|rfl|assumption) (by clear hx hy ko kc ke kq kl km kr hIE hIL hIR;lia) (by assumption)
      | exact hIL (by first|rfl|assumption) (by clear hx hy ko kc ke kq kl km kr hIE hIL hIR;lia) (by clear hx hy ko kc ke kq kl km kr hIE hIL hIR;lia)
      | exact hIR (by first|rfl|assumption) (by clear hx hy ko kc ke kq kl km kr hIE hIL hIR;lia) (by clear hx hy ko kc ke kq kl km kr hIE hIL hIR;lia)
      | fail
      | (clear hx hy ko kc ke kq kl km kr hIE hIL hIR;lia)
      | trace_state
   ·rw[if_neg hch] at h2
    have e2:d3=e:=e3.trans (h2.trans h1)
    subst h1
    subst e2
    have hpp:=hpp.2 hch
    have hno:=hno hch
    clear h2 e3 hde hin hun hch
    cbv
    as_aux_lemma =>
     (repeat' first|(refine Need.mk (fun h=>nomatch h) ?_;cbv)|(refine Na ?_ fun _ _=>?_;(focus lia);cbv)|(refine CallThen.mk _ _ (C.fn (kc)) ?_;cbv)|(refine Ex.arr O b1 hx ?_ ?_;(focus(clear hx hy ko kc ke kq kl km hIE hIL hIR;lia));cbv)|(refine Ex.arr O b2 hy ?_ ?_;(focus(clear hx hy ko kc ke kq kl km hIE hIL hIR;lia));cbv)|(refine CallThen.mk _ _ (C.fn (ko)) ?_;cbv)|(refine CallThen.mk _ _ (C.fn (ke _ ?_)) ?_;(focus(clear hx hy ko kc ke kq kl km hIE hIL hIR;lia));cbv)|(refine CallThen.mk _ _ (C.fn (kq _ ?_)) ?_;(focus(clear hx hy ko kc ke kq kl km hIE hIL hIR;lia));cbv)|(refine CallThen.mk _ _ (C.fn (kl _ ?_)) ?_;(focus(clear hx hy ko kc ke kq kl km hIE hIL hIR;lia));cbv)|(refine CallThen.mk _ _ (C.fn (km _ _ ?_ ?_)) ?_;(focus(clear hx hy ko kc ke kq kl km hIE hIL hIR;lia));(focus(clear hx hy ko kc ke kq kl km hIE hIL hIR;lia));cbv)|(refine Back.to (m1,bi,l2,true,false,DE) [] [] ?_ fun y' hy'=>?_;rotate_left;cbv;(focus(subst hy';(repeat' apply And.intro)<;>first|exact True.intro|exact WkR.refl _|rfl|(clear hx hy ko kc ke kq kl km;lia)|(clear hx hy ko kc ke kq kl km hIE hIL hIR;cases B1<;>first|rfl|(exfalso;lia))|(clear hx hy ko kc ke kq kl km hIE hIL hIR;cases B2<;>first|rfl|(exfalso;lia)))))|(refine Back.to (m2p,bi,l2,B1,t2,D5) [] [] ?_ fun y' hy'=>?_;rotate_left;cbv;(focus(subst hy';(repeat' apply And.intro)<;>first|exact True.intro|exact WkR.refl _|rfl|(clear hx hy ko kc ke kq kl km;lia)|(clear hx hy ko kc ke kq kl km hIE hIL hIR;cases B1<;>first|rfl|(exfalso;lia))|(clear hx hy ko kc ke kq kl km hIE hIL hIR;cases B2<;>first|rfl|(exfalso;lia)))))|(refine Back.to (ai,m2,l2,B2,t2,D6) [] [] ?_ fun y' hy'=>?_;rotate_left;cbv;(focus(subst hy';(repeat' apply And.intro)<;>first|exact True.intro|exact WkR.refl _|rfl|(clear hx hy ko kc ke kq kl km;lia)|(clear hx hy ko kc ke kq kl km hIE hIL hIR;cases B1<;>first|rfl|(exfalso;lia))|(clear hx hy ko kc ke kq kl km hIE hIL hIR;cases B2<;>first|rfl|(exfalso;lia)))))|(refine Nm fun _ _=>?_;cbv)|(refine Br.f ?_ ?_;(focus first|assumption|lia);cbv)|(refine Br.mk (fun _=>?_) (fun _=>?_)<;>cbv)|(refine Need.mk ?_ ?_;rotate_left;cbv))
     all_goals first
      | exact hIE (by first|rfl|assumption) (by clear hx hy ko kc ke kq kl km hIE hIL hIR;lia) (by assumption)
      | exact hIL (by first|rfl|assumption) (by clear hx hy ko kc ke kq kl km hIE hIL hIR;lia) (by clear hx hy ko kc ke kq kl km hIE hIL hIR;lia)
      | exact hIR (by first|rfl|assumption) (by clear hx hy ko kc ke kq kl km hIE hIL hIR;lia) (by clear hx hy ko kc ke kq kl km hIE hIL hIR;lia)
      | fail
      | (clear hx hy ko kc ke kq kl km hIE hIL hIR;lia)
      | trace_state
  ·subst h1
   by_cases hch:ch=.decreasing
   ·rw[if_pos hch] at h2
    have kr:=reverseRange_fn O d1 a b ai bi hai hbi (by omega) (by omega) (by omega)
    rw[← h2] at kr
    rw[if_pos ⟨rfl,rfl,by rw[hch];decide⟩] at h3
    have ki:=partialIns_fn O d2 a b ai bi _ hai hbi rfl (by omega) (by omega) (by omega)
    rw[← h3] at ki
    dsimp only at ki
    have hpp:=hpp.1 hch
    have hde:=hde hch
    clear h2 h3 hno hin hun hch
    cbv
    as_aux_lemma =>
     (repeat' first|(refine Need.mk (fun h=>nomatch h) ?_;cbv)|(refine Na ?_ fun _ _=>?_;(focus lia);cbv)|(refine CallThen.mk _ _ (C.fn (kr)) ?_;cbv)|(refine CallThen.bool (C.fn (ki)) (fun _=>?_) (fun _=>?_)<;>cbv)|(refine CallThen.mk _ _ (C.fn (kc)) ?_;cbv)|(refine Ex.arr O b1 hx ?_ ?_;(focus(clear hx hy ko kc ke kq kl km kr ki hIE hIL hIR;lia));cbv)|(refine Ex.arr O b2 hy ?_ ?_;(focus(clear hx hy ko kc ke kq kl km kr ki hIE hIL hIR;lia));cbv)|(refine CallThen.mk _ _ (C.fn (ko)) ?_;cbv)|(refine CallThen.mk _ _ (C.fn (ke _ ?_)) ?_;(focus(clear hx hy ko kc ke kq kl km kr ki hIE hIL hIR;lia));cbv)|(refine CallThen.mk _ _ (C.fn (kq _ ?_)) ?_;(focus(clear hx hy ko kc ke kq kl km kr ki hIE hIL hIR;lia));cbv)|(refine CallThen.mk _ _ (C.fn (kl _ ?_)) ?_;(focus(clear hx hy ko kc ke kq kl km kr ki hIE hIL hIR;lia));cbv)|(refine CallThen.mk _ _ (C.fn (km _ _ ?_ ?_)) ?_;(focus(clear hx hy ko kc ke kq kl km kr ki hIE hIL hIR;lia));(focus(clear hx hy ko kc ke kq kl km kr ki hIE hIL hIR;lia));cbv)|(refine Back.to (m1,bi,l2,true,true,DE) [] [] ?_ fun y' hy'=>?_;rotate_left;cbv;(focus(subst hy';(repeat' apply And.intro)<;>first|exact True.intro|exact WkR.refl _|rfl|(clear hx hy ko kc ke kq kl km kr ki;lia)|(clear hx hy ko kc ke kq kl km kr ki hIE hIL hIR;cases B1<;>first|rfl|(exfalso;lia))|(clear hx hy ko kc ke kq kl km kr ki hIE hIL hIR;cases B2<;>first|rfl|(exfalso;lia)))))|(refine Back.to (m2p,bi,l2,B1,t2,D5) [] [] ?_ fun y' hy'=>?_;rotate_left;cbv;(focus(subst hy';(repeat' apply And.intro)<;>first|exact True.intro|exact WkR.refl _|rfl|(clear hx hy ko kc ke kq kl km kr ki;lia)|(clear hx hy ko kc ke kq kl km kr ki hIE hIL hIR;cases B1<;>first|rfl|(exfalso;lia))|(clear hx hy ko kc ke kq kl km kr ki hIE hIL hIR;cases B2<;>first|rfl|(exfalso;lia)))))|(refine Back.to (ai,m2,l2,B2,t2,D6) [] [] ?_ fun y' hy'=>?_;rotate_left;cbv;(focus(subst hy';(repeat' apply And.intro)<;>first|exact True.intro|exact WkR.refl _|rfl|(clear hx hy ko kc ke kq kl km kr ki;lia)|(clear hx hy ko kc ke kq kl km kr ki hIE hIL hIR;cases B1<;>first|rfl|(exfalso;lia))|(clear hx hy ko kc ke kq kl km kr ki hIE hIL hIR;cases B2<;>first|rfl|(exfalso;lia)))))|(refine Nm fun _ _=>?_;cbv)|(refine Br.t ?_ ?_;(focus first|assumption|lia);cbv)|(refine Br.f ?_ ?_;(focus first|assumption|lia);cbv)|(refine Br.mk (fun _=>?_) (fun _=>?_)<;>cbv)|(refine Need.mk ?_ ?_;rotate_left;cbv)|(refine R0 ?_;cbv))
     all_goals first
      | exact hIE (by first|rfl|assumption) (by clear hx hy ko kc ke kq kl km kr ki hIE hIL hIR;lia) (by assumption)
      | exact hIL (by first|rfl|assumption) (by clear hx hy ko kc ke kq kl km kr ki hIE hIL hIR;lia) (by clear hx hy ko kc ke kq kl km kr ki hIE hIL hIR;lia)
      | exact hIR (by first|rfl|assumption) (by clear hx hy ko kc ke kq kl km kr ki hIE hIL hIR;lia) (by clear hx hy ko kc ke kq kl km kr ki hIE hIL hIR;lia)
      | (obtain rfl:=hret (by assumption);first|exact⟨.refl _,trivial⟩|exact .refl _)
      | (clear hx hy ko kc ke kq kl km kr ki hIE hIL hIR;lia)
      | trace_state
   ·rw[if_neg hch] at h2
    subst h2
    have hpp:=hpp.2 hch
    have hno:=hno hch
    by_cases hci:ch=.increasing
    ·rw[if_pos ⟨rfl,rfl,by rw[hci];decide⟩] at h3
     have ki:=partialIns_fn O d2 a b ai bi _ hai hbi rfl (by omega) (by omega) (by omega)
     rw[← h3] at ki
     dsimp only at ki
     have hin:=hin hci
     clear h3 hde hun hch hci
     cbv
     as_aux_lemma =>
      (repeat' first|(refine Need.mk (fun h=>nomatch h) ?_;cbv)|(refine Na ?_ fun _ _=>?_;(focus lia);cbv)|(refine CallThen.bool (C.fn (ki)) (fun _=>?_) (fun _=>?_)<;>cbv)|(refine CallThen.mk _ _ (C.fn (kc)) ?_;cbv)|(refine Ex.arr O b1 hx ?_ ?_;(focus(clear hx hy ko kc ke kq kl km ki hIE hIL hIR;lia));cbv)|(refine Ex.arr O b2 hy ?_ ?_;(focus(clear hx hy ko kc ke kq kl km ki hIE hIL hIR;lia));cbv)|(refine CallThen.mk _ _ (C.fn (ko)) ?_;cbv)|(refine CallThen.mk _ _ (C.fn (ke _ ?_)) ?_;(focus(clear hx hy ko kc ke kq kl km ki hIE hIL hIR;lia));cbv)|(refine CallThen.mk _ _ (C.fn (kq _ ?_)) ?_;(focus(clear hx hy ko kc ke kq kl km ki hIE hIL hIR;lia));cbv)|(refine CallThen.mk _ _ (C.fn (kl _ ?_)) ?_;(focus(clear hx hy ko kc ke kq kl km ki hIE hIL hIR;lia));cbv)|(refine CallThen.mk _ _ (C.fn (km _ _ ?_ ?_)) ?_;(focus(clear hx hy ko kc ke kq kl km ki hIE hIL hIR;lia));(focus(clear hx hy ko kc ke kq kl km ki hIE hIL hIR;lia));cbv)|(refine Back.to (m1,bi,l2,true,true,DE) [] [] ?_ fun y' hy'=>?_;rotate_left;cbv;(focus(subst hy';(repeat' apply And.intro)<;>first|exact True.intro|exact WkR.refl _|rfl|(clear hx hy ko kc ke kq kl km ki;lia)|(clear hx hy ko kc ke kq kl km ki hIE hIL hIR;cases B1<;>first|rfl|(exfalso;lia))|(clear hx hy ko kc ke kq kl km ki hIE hIL hIR;cases B2<;>first|rfl|(exfalso;lia)))))|(refine Back.to (m2p,bi,l2,B1,t2,D5) [] [] ?_ fun y' hy'=>?_;rotate_left;cbv;(focus(subst hy';(repeat' apply And.intro)<;>first|exact True.intro|exact WkR.refl _|rfl|(clear hx hy ko kc ke kq kl km ki;lia)|(clear hx hy ko kc ke kq kl km ki hIE hIL hIR;cases B1<;>first|rfl|(exfalso;lia))|(clear hx hy ko kc ke kq kl km ki hIE hIL hIR;cases B2<;>first|rfl|(exfalso;lia)))))|(refine Back.to (ai,m2,l2,B2,t2,D6) [] [] ?_ fun y' hy'=>?_;rotate_left;cbv;(focus(subst hy';(repeat' apply And.intro)<;>first|exact True.intro|exact WkR.refl _|rfl|(clear hx hy ko kc ke kq kl km ki;lia)|(clear hx hy ko kc ke kq kl km ki hIE hIL hIR;cases B1<;>first|rfl|(exfalso;lia))|(clear hx hy ko kc ke kq kl km ki hIE hIL hIR;cases B2<;>first|rfl|(exfalso;lia)))))|(refine Nm fun _ _=>?_;cbv)|(refine Br.t ?_ ?_;(focus first|assumption|lia);cbv)|(refine Br.f ?_ ?_;(focus first|assumption|lia);cbv)|(refine Br.mk (fun _=>?_) (fun _=>?_)<;>cbv)|(refine Need.mk ?_ ?_;rotate_left;cbv)|(refine R0 ?_;cbv))
      all_goals first
       | exact hIE (by first|rfl|assumption) (by clear hx hy ko kc ke kq kl km ki hIE hIL hIR;lia) (by assumption)
       | exact hIL (by first|rfl|assumption) (by clear hx hy ko kc ke kq kl km ki hIE hIL hIR;lia) (by clear hx hy ko kc ke kq kl km ki hIE hIL hIR;lia)
       | exact hIR (by first|rfl|assumption) (by clear hx hy ko kc ke kq kl km ki hIE hIL hIR;lia) (by clear hx hy ko kc ke kq kl km ki hIE hIL hIR;lia)
       | (obtain rfl:=hret (by assumption);first|exact⟨.refl _,trivial⟩|exact .refl _)
       | (clear hx hy ko kc ke kq kl km ki hIE hIL hIR;lia)
       | trace_state
    ·have hcu:ch=.unknown:=by cases ch<;>first|rfl|contradiction
     rw[if_neg (by rw[hcu];simp)] at h3
     have e3:d3=d2:=by injection h3
     have e4:pb=false:=by injection h3
     subst e4
     subst e3
     have hun:=hun hcu
     clear h3 hret hde hin hch hci hcu
     cbv
     as_aux_lemma =>
      (repeat' first|(refine Need.mk (fun h=>nomatch h) ?_;cbv)|(refine Na ?_ fun _ _=>?_;(focus lia);cbv)|(refine CallThen.mk _ _ (C.fn (kc)) ?_;cbv)|(refine Ex.arr O b1 hx ?_ ?_;(focus(clear hx hy ko kc ke kq kl km hIE hIL hIR;lia));cbv)|(refine Ex.arr O b2 hy ?_ ?_;(focus(clear hx hy ko kc ke kq kl km hIE hIL hIR;lia));cbv)|(refine CallThen.mk _ _ (C.fn (ko)) ?_;cbv)|(refine CallThen.mk _ _ (C.fn (ke _ ?_)) ?_;(focus(clear hx hy ko kc ke kq kl km hIE hIL hIR;lia));cbv)|(refine CallThen.mk _ _ (C.fn (kq _ ?_)) ?_;(focus(clear hx hy ko kc ke kq kl km hIE hIL hIR;lia));cbv)|(refine CallThen.mk _ _ (C.fn (kl _ ?_)) ?_;(focus(clear hx hy ko kc ke kq kl km hIE hIL hIR;lia));cbv)|(refine CallThen.mk _ _ (C.fn (km _ _ ?_ ?_)) ?_;(focus(clear hx hy ko kc ke kq kl km hIE hIL hIR;lia));(focus(clear hx hy ko kc ke kq kl km hIE hIL hIR;lia));cbv)|(refine Back.to (m1,bi,l2,true,true,DE) [] [] ?_ fun y' hy'=>?_;rotate_left;cbv;(focus(subst hy';(repeat' apply And.intro)<;>first|exact True.intro|exact WkR.refl _|rfl|(clear hx hy ko kc ke kq kl km;lia)|(clear hx hy ko kc ke kq kl km hIE hIL hIR;cases B1<;>first|rfl|(exfalso;lia))|(clear hx hy ko kc ke kq kl km hIE hIL hIR;cases B2<;>first|rfl|(exfalso;lia)))))|(refine Back.to (m2p,bi,l2,B1,t2,D5) [] [] ?_ fun y' hy'=>?_;rotate_left;cbv;(focus(subst hy';(repeat' apply And.intro)<;>first|exact True.intro|exact WkR.refl _|rfl|(clear hx hy ko kc ke kq kl km;lia)|(clear hx hy ko kc ke kq kl km hIE hIL hIR;cases B1<;>first|rfl|(exfalso;lia))|(clear hx hy ko kc ke kq kl km hIE hIL hIR;cases B2<;>first|rfl|(exfalso;lia)))))|(refine Back.to (ai,m2,l2,B2,t2,D6) [] [] ?_ fun y' hy'=>?_;rotate_left;cbv;(focus(subst hy';(repeat' apply And.intro)<;>first|exact True.intro|exact WkR.refl _|rfl|(clear hx hy ko kc ke kq kl km;lia)|(clear hx hy ko kc ke kq kl km hIE hIL hIR;cases B1<;>first|rfl|(exfalso;lia))|(clear hx hy ko kc ke kq kl km hIE hIL hIR;cases B2<;>first|rfl|(exfalso;lia)))))|(refine Nm fun _ _=>?_;cbv)|(refine Br.f ?_ ?_;(focus first|assumption|lia);cbv)|(refine Br.mk (fun _=>?_) (fun _=>?_)<;>cbv)|(refine Need.mk ?_ ?_;rotate_left;cbv))
      all_goals first
       | exact hIE (by first|rfl|assumption) (by clear hx hy ko kc ke kq kl km hIE hIL hIR;lia) (by assumption)
       | exact hIL (by first|rfl|assumption) (by clear hx hy ko kc ke kq kl km hIE hIL hIR;lia) (by clear hx hy ko kc ke kq kl km hIE hIL hIR;lia)
       | exact hIR (by first|rfl|assumption) (by clear hx hy ko kc ke kq kl km hIE hIL hIR;lia) (by clear hx hy ko kc ke kq kl km hIE hIL hIR;lia)
       | fail
       | (clear hx hy ko kc ke kq kl km hIE hIL hIR;lia)
       | trace_state
theorem sortFunc_fn (O:Opq) (d:Array PairK) (hd:d.size≤255):Fn prog 34 [.ref 0,.fn 35 [] []] [.arr 0 none 2 (O.o arrE d)] [] [.arr 0 none 2 (O.o arrE (Go.Sort.sort ltP d))]:=by
 have hlen:=arrE_len O d
 obtain⟨z,hz⟩:∃ z:Int,z=0:=⟨_,rfl⟩
 obtain⟨l,hl⟩:∃ l:Int,l=Go.Sort.bitsLen d.size:=⟨_,rfl⟩
 have k1:=fun x h=>len_fn d.size (by omega) x l h hl
 have hb:=bitsLen_le (n:=d.size) (by omega)
 have k2:=fun ni hni=>pdq_fn O d.size d 0 d.size (Go.Sort.bitsLen d.size) 0 ni l rfl hni hl (by omega) (by omega) (Nat.le_refl _) hd (by omega)
 have hR:Go.Sort.sort ltP d=pdq ltP d 0 d.size (Go.Sort.bitsLen d.size) true true:=rfl
 rw[← hR] at k2
 obtain⟨R,eR⟩:∃ R,R=Go.Sort.sort ltP d:=⟨_,rfl⟩
 rw[← eR] at k2 ⊢
 clear hR eR hl
 refine go (fn:=Proofs.Tryz.f34) (n:=12) (rv:=[]) rfl (by decide) rfl (by decide +kernel) rfl rfl (by simp) fun F L C=>?_
 cbv
 (repeat' first|(refine Named.u64 ?_ fun _ _=>?_;(focus(clear k1 k2;lia));cbv)|(refine CallThen.mk _ _ (C.fn (k1 _ ?_)) ?_;(focus(clear k2;lia));cbv)|(refine CallThen.mk _ _ (C.fn (k2 _ ?_)) ?_;(focus(clear k1 k2;lia));cbv)|(refine Nm fun _ _=>?_;cbv)|(refine R0 ?_;cbv))
 all_goals first
  | exact⟨.refl _,trivial⟩
  | exact .refl _
  | (clear k1 k2;lia)
  | trace_state
end Go.Sym
