/- Expressions: their texts, read back. -/
import Derived.Test.YtjlefaabcalkkaaGreatDoorK3
import Derived.Lib.AtoiAllCases
import Derived.Lib.ItoaNum
import Derived.Test.YtjlefaabcalkkaaGreatDoorK2
import Derived.Lib.AppendIntMem
import Derived.Lib.Strings
import Derived.LaidLaws
import Derived.Lib.LaidTab
import Derived.MakeChecks
import Derived.KernelRfl
set_option linter.all false
set_option linter.unusedVariables false
set_option linter.unusedSimpArgs false
namespace Go.Sym
structure LexP extends Lex where
 dig:Nat→List UInt8
 leafX:∀ w x,leaf w=some x→x=.path w∨∃ n,x=.num n∧dig n=w
inductive Xp.Ok (L:LexP):Xp→Prop
 | path {w} (h:L.leaf w=some (.path w)):Xp.Ok L (.path w)
 | num {n} (h:L.leaf (L.dig n)=some (.num n)):Xp.Ok L (.num n)
 | sum {a b} (h:Xp.Ok L a) (k:Xp.Ok L b):Xp.Ok L (.sum a b)
 | mul {a b} (h:Xp.Ok L a) (k:Xp.Ok L b):Xp.Ok L (.mul a b)
 | call {w a} (h:L.name w=true) (k:Xp.Ok L a):Xp.Ok L (.call w a)
def Xp.lvl:Xp→Nat
 | .sum _ _=>2
 | .mul _ _=>1
 | _=>0
def inPar (b:Prop) [Decidable b] (s:List UInt8):List UInt8:=if b then 40::(s++[41]) else s
def Xp.txt (dig:Nat→List UInt8):Xp→List UInt8
 | .path w=>w
 | .num n=>dig n
 | .sum a b=>a.txt dig++43::inPar (b.lvl=2) (b.txt dig)
 | .mul a b=>inPar (a.lvl=2) (a.txt dig)++42::inPar (1≤b.lvl) (b.txt dig)
 | .call w a=>w++40::(a.txt dig++[41])
theorem Der.up {L:Lex} {k:Nat} {s:List UInt8} {e:Xp} (h:Der L k s e) (hk:k≤2):Der L 2 s e:=by
 match k,hk with
 | 0,_=>exact .up1 (.up0 h)
 | 1,_=>exact .up1 h
 | 2,_=>exact h
theorem Xp.lvl_le (e:Xp):e.lvl≤2:=by cases e<;>simp [Xp.lvl]
theorem der_par {L:Lex} {s:List UInt8} {e:Xp} (h:Der L e.lvl s e) (k:Nat) (hk:k≤1) {b:Prop} [Decidable b] (hb:b ↔ k<e.lvl):Der L k (inPar b s) e:=by
 have hl:=e.lvl_le
 unfold inPar
 split
 ·have d:Der L 0 (40::(s++[41])) e:=.paren (h.up hl)
  match k,hk with
  | 0,_=>exact d
  | 1,_=>exact .up0 d
 ·rename_i hn
  have:e.lvl≤k:=by have:=_root_.mt hb.2 hn;omega
  clear hb hn
  generalize e.lvl=l at h this
  have c:l=0∧k=0∨l=0∧k=1∨l=1∧k=1:=by omega
  rcases c with ⟨rfl,rfl⟩ | ⟨rfl,rfl⟩ | ⟨rfl,rfl⟩
  ·exact h
  ·exact .up0 h
  ·exact h
theorem txt_der {L:LexP} {e:Xp} (h:e.Ok L):Der L.toLex e.lvl (e.txt L.dig) e:=by
 induction h with
 | path h=>exact .leaf h
 | num h=>exact .leaf h
 | @sum a b h k ih jh=>exact .sum (ih.up a.lvl_le) (der_par jh 1 (by omega) (by have:=b.lvl_le;omega))
 | @mul a b h k ih jh=>exact .mul (der_par ih 1 (by omega) (by have:=a.lvl_le;omega)) (der_par jh 0 (by omega) (by omega))
 | @call w a h k ih=>exact .call h (ih.up a.lvl_le)
theorem der_ok {L:LexP} {k:Nat} {s:List UInt8} {e:Xp} (h:Der L.toLex k s e):e.Ok L:=by
 induction h with
 | @leaf w x h =>
  rcases L.leafX w x h with rfl | ⟨n,rfl,e⟩
  ·exact .path h
  ·exact .num (by rw[e];exact h)
 | paren h ih=>exact ih
 | call hw h ih=>exact .call hw ih
 | up0 h ih=>exact ih
 | mul h k ih jh=>exact .mul ih jh
 | up1 h ih=>exact ih
 | sum h k ih jh=>exact .sum ih jh
open Go
def isD (c:UInt8):Bool:=decide (48≤c.toNat) && decide (c.toNat≤57)
def wordC (c:UInt8):Bool:=isLet c.toNat || decide (c.toNat=46)
def plainL (w:List UInt8):Bool:=w.all isD
def pathL (w:List UInt8):Bool:=scan w false && decide (w.length≤64)
def natOf (w:List UInt8):Nat:=w.foldl (fun n c=>n * 10+(c.toNat-48)) 0
def digN (n:Nat):List UInt8:=if n<10 then[UInt8.ofNat (48+n)] else digN (n / 10)++[UInt8.ofNat (48+n % 10)]
def nameL (w:List UInt8):Bool:=w == [110,111,114,109] || w == [99,111,110,106] || w == [116,117,114,110] || w == [108,111,119] || w == [104,101,97,100]
def leafL (w:List UInt8):Option Xp :=
 if plainL w=true then(if w≠[]∧w.length≤15∧digN (natOf w)=w then some (.num (natOf w)) else none)
 else if pathL w=true then some (.path w) else none
theorem scan_all:∀ {w:List UInt8} {b:Bool},scan w b=true→∀ c∈w,wordC c=true
 | [],_,_,c,hc=>by cases hc
 | d::r,b,h,c,hc=>by
  unfold scan at h
  split at h
  ·rename_i k
   rcases List.mem_cons.1 hc with rfl|hc
   ·have:c.toNat=46:=by omega
    simp [wordC,this]
   ·exact scan_all h c hc
  ·split at h
   ·rename_i k
    rcases List.mem_cons.1 hc with rfl|hc
    ·simp [wordC,k]
    ·exact scan_all h c hc
   ·cases h
theorem isD_word {c:UInt8} (h:isD c=true):wordC c=true:=by
 simp only [isD,Bool.and_eq_true,decide_eq_true_eq] at h
 simp only [wordC,isLet,Bool.or_eq_true,Bool.and_eq_true,decide_eq_true_eq]
 omega
theorem leafL_word {w:List UInt8} {x:Xp} (h:leafL w=some x):w≠[]∧∀ c∈w,wordC c=true:=by
 unfold leafL at h
 split at h
 ·rename_i k
  split at h
  ·rename_i k2
   exact⟨k2.1,fun c hc=>isD_word (List.all_eq_true.1 k c hc)⟩
  ·cases h
 ·split at h
  ·rename_i k
   simp only [pathL,Bool.and_eq_true] at k
   refine⟨fun e=>?_,scan_all k.1⟩
   subst e;simp [scan] at k
  ·cases h
def lexE:LexP where
 name:=nameL
 leaf:=leafL
 isW:=wordC
 wpar:=fun c h=>by
  simp only [wordC,isLet,Bool.or_eq_true,Bool.and_eq_true,decide_eq_true_eq] at h
  refine⟨?_,?_,?_,?_⟩<;>(rintro rfl;revert h;decide)
 nameW:=fun w h=>by
  simp only [nameL,Bool.or_eq_true,beq_iff_eq] at h
  rcases h with (((rfl|rfl)|rfl)|rfl)|rfl<;>exact⟨by simp,by decide⟩
 leafW:=fun w x h=>leafL_word h
 dig:=digN
 leafX:=fun w x h=>by
  unfold leafL at h
  split at h
  ·split at h
   ·rename_i k;cases h;exact .inr ⟨_,rfl,k.2.2⟩
   ·cases h
  ·split at h
   ·cases h;exact .inl rfl
   ·cases h
theorem digit_nat {k:Nat} (h:k<10):(UInt8.ofNat (48+k)).toNat=48+k:=by simp;omega
theorem digN_plain (n:Nat):plainL (digN n)=true:=by
 induction n using Nat.strongRecOn with
 | ind n ih =>
  have hd:∀ k,k<10→isD (UInt8.ofNat (48+k))=true:=fun k hk=>by rw[isD,digit_nat hk];simp;omega
  unfold digN
  split
  ·rename_i h;simp only [plainL,List.all_cons,List.all_nil,Bool.and_true];exact hd n h
  ·rename_i h
   have:=ih (n / 10) (by omega)
   simp only [plainL,List.all_append,List.all_cons,List.all_nil,Bool.and_true,Bool.and_eq_true] at this ⊢
   exact⟨this,hd _ (by omega)⟩
theorem natOf_snoc (w:List UInt8) (c:UInt8):natOf (w++[c])=natOf w * 10+(c.toNat-48):=by simp [natOf,List.foldl_append]
theorem natOf_digN (n:Nat):natOf (digN n)=n:=by
 induction n using Nat.strongRecOn with
 | ind n ih =>
  unfold digN
  split
  ·rename_i h
   show 0 * 10+((UInt8.ofNat (48+n)).toNat-48)=n
   rw[digit_nat h];omega
  ·rename_i h
   rw[natOf_snoc,ih (n / 10) (by omega),digit_nat (by omega)];omega
theorem digN_len {n k:Nat} (hk:0<k) (h:n<10 ^ k):(digN n).length≤k:=by
 induction k generalizing n with
 | zero=>omega
 | succ k ih =>
  unfold digN
  split
  ·simp
  ·rename_i hn
   by_cases h0:k=0
   ·subst h0;omega
   ·have:=ih (n:=n / 10) (by omega) (by rw[Nat.pow_succ] at h;omega)
    simp only [List.length_append,List.length_cons,List.length_nil];omega
theorem natOf_lt {w:List UInt8} (h:plainL w=true):natOf w<10 ^ w.length:=by
 induction w using snocRec with
 | h0=>decide
 | h1 p d ih =>
  simp only [plainL,List.all_append,List.all_cons,List.all_nil,Bool.and_true,Bool.and_eq_true] at h
  have h1:=ih h.1
  have h2:=h.2
  simp only [isD,Bool.and_eq_true,decide_eq_true_eq] at h2
  rw[natOf_snoc,List.length_append,List.length_singleton,Nat.pow_succ];omega
theorem leaf_path {w:List UInt8} (h:pathL w=true) (k:plainL w=false):leafL w=some (.path w):=by
 rw[leafL,if_neg (by simp [k]),if_pos h]
def Nd.kind:Nd→Int | .mk k _ _ _=>k
def Nd.text:Nd→List UInt8 | .mk _ t _ _=>t
def Nd.num:Nd→Int | .mk _ _ n _=>n
def Nd.args:Nd→List Nd | .mk _ _ _ l=>l
def deepB:Nat→Nd→Bool
 | 0,_=>true
 | k+1,.mk _ _ _ l=>l.any (deepB k)
def depthN:Nat→Nd→Nat
 | 0,_=>1
 | k+1,.mk _ _ _ l=>l.foldl (fun d a=>max d (depthN k a)) 0+1
theorem foldl_maxE {α:Type} (f:α→Nat):∀ (l:List α) (d k:Nat),k<l.foldl (fun d a=>max d (f a)) d ↔ k<d∨∃ a∈l,k<f a
 | [],d,k=>by simp
 | x::r,d,k=>by
  rw[List.foldl_cons,foldl_maxE f r]
  constructor
  ·rintro (h | ⟨a,ha,h⟩)
   ·by_cases hd:k<d
    ·exact .inl hd
    ·exact .inr ⟨x,by simp,by omega⟩
   ·exact .inr ⟨a,by simp [ha],h⟩
  ·rintro (h | ⟨a,ha,h⟩)
   ·exact .inl (by omega)
   ·rcases List.mem_cons.1 ha with rfl|ha
    ·exact .inl (by omega)
    ·exact .inr ⟨a,ha,h⟩
theorem deep_depth:∀ (k m:Nat) (n:Nd),k≤m→(deepB k n=true ↔ k<depthN m n)
 | 0,0,n,_=>by simp [deepB,depthN]
 | 0,m+1,.mk _ _ _ l,_=>by simp [deepB,depthN]
 | k+1,m+1,.mk _ _ _ l,h=>by
  rw[deepB,depthN,List.any_eq_true]
  have:k+1<l.foldl (fun d a=>max d (depthN m a)) 0+1 ↔ k<l.foldl (fun d a=>max d (depthN m a)) 0:=by omega
  rw[this,foldl_maxE]
  constructor
  ·rintro ⟨a,ha,h1⟩;exact .inr ⟨a,ha,(deep_depth k m a (by omega)).1 h1⟩
  ·rintro (h1 | ⟨a,ha,h1⟩)
   ·omega
   ·exact⟨a,ha,(deep_depth k m a (by omega)).2 h1⟩
def madeB (n:Nd):Bool :=
 if n.kind=1 then decide (n.num=0) && n.args.isEmpty && pathL n.text && !plainL n.text
 else if n.kind=2 then decide (0≤n.num∧n.num<1000000000000000) && n.args.isEmpty && n.text.isEmpty
 else if n.kind=3∨n.kind=4 then decide (n.num=0) && decide (n.args.length=2) && n.text.isEmpty
 else if n.kind=5 then decide (n.num=0) && decide (n.args.length=1) && nameL n.text
 else false
inductive Made:Nd→Prop
 | mk {n:Nd} (h:madeB n=true) (k:∀ a∈n.args,Made a):Made n
theorem made_nd {e:Xp} (h:e.Ok lexE):Made e.nd:=by
 induction h with
 | @path w h =>
  refine .mk ?_ (by simp [Xp.nd,Nd.args])
  have hp:plainL w=false∧pathL w=true:=by
   change leafL w=some (.path w) at h
   unfold leafL at h
   split at h
   ·split at h<;>cases h
   ·rename_i k;split at h
    ·rename_i k2;exact⟨by simpa using k,k2⟩
    ·cases h
  simp [madeB,Xp.nd,Nd.kind,Nd.num,Nd.args,Nd.text,hp.1,hp.2]
 | @num n h =>
  refine .mk ?_ (by simp [Xp.nd,Nd.args])
  have hn:n<1000000000000000:=by
   change leafL (digN n)=some (.num n) at h
   unfold leafL at h
   rw[if_pos (digN_plain n)] at h
   split at h
   ·rename_i k
    have:=natOf_lt (digN_plain n)
    rw[natOf_digN] at this
    exact Nat.lt_of_lt_of_le this (Nat.pow_le_pow_right (by decide) k.2.1)
   ·cases h
  simp [madeB,Xp.nd,Nd.kind,Nd.num,Nd.args,Nd.text];omega
 | @sum a b h k ih jh =>
  refine .mk (by simp [madeB,Xp.nd,sumN,Nd.kind,Nd.num,Nd.args,Nd.text]) fun x hx=>?_
  simp only [Xp.nd,sumN,Nd.args,List.mem_cons,List.not_mem_nil,or_false] at hx
  rcases hx with rfl|rfl<;>assumption
 | @mul a b h k ih jh =>
  refine .mk (by simp [madeB,Xp.nd,mulN,Nd.kind,Nd.num,Nd.args,Nd.text]) fun x hx=>?_
  simp only [Xp.nd,mulN,Nd.args,List.mem_cons,List.not_mem_nil,or_false] at hx
  rcases hx with rfl|rfl<;>assumption
 | @call w a h k ih =>
  have h:nameL w=true:=h
  refine .mk (by simp [madeB,Xp.nd,callN,Nd.kind,Nd.num,Nd.args,Nd.text,h]) fun x hx=>?_
  simp only [Xp.nd,callN,Nd.args,List.mem_cons,List.not_mem_nil,or_false] at hx
  subst hx;assumption
def leafN (w:List UInt8):Nd×Bool :=
 if w≠[]∧plainL w=true then(.mk 2 [] (min (natOf w) 9223372036854775807:Nat) [],!decide (w.length≤15∧digN (natOf w)=w))
 else(.mk 1 w 0 [],!pathL w)
def lexT:LexT where
 toLex:=lexE.toLex
 leafT:=leafN
 leafT_ok:=fun w x h=>by
  have h:leafL w=some x:=h
  unfold leafL at h
  unfold leafN
  split at h
  ·rename_i k
   split at h
   ·rename_i k2
    cases h
    rw[if_pos ⟨k2.1,k⟩]
    have:natOf w<10 ^ 15:=Nat.lt_of_lt_of_le (natOf_lt k) (Nat.pow_le_pow_right (by decide) k2.2.1)
    have e:min (natOf w) 9223372036854775807=natOf w:=Nat.min_eq_left (by omega)
    simp [Xp.nd,e,k2.2]
   ·cases h
  ·rename_i k
   split at h
   ·rename_i k2
    cases h
    rw[if_neg (by simp [k]),k2];rfl
   ·cases h
 leafT_no:=fun w h=>by
  have h:leafL w=none:=h
  unfold leafL at h
  unfold leafN
  split at h
  ·rename_i k
   split at h
   ·cases h
   ·rename_i k2
    by_cases hw:w=[]
    ·subst hw;rw[if_neg (by simp)];rfl
    ·rw[if_pos ⟨hw,k⟩]
     simp only [Bool.not_eq_true',decide_eq_false_iff_not]
     exact fun q=>k2 ⟨hw,q.1,q.2⟩
  ·rename_i k
   split at h
   ·cases h
   ·rename_i k2
    rw[if_neg (by simp [k])];simpa using k2
theorem reads_agree {s:List UInt8} {n m:Nat} (hn:s.length<n) (hm:s.length<m) :
  (∀ e,readX lexE.toLex m s=some e→sumD lexT n s=(e.nd,[],false))∧(readX lexE.toLex m s=none→¬ ((sumD lexT n s).2=([],false))):=by
 refine⟨fun e h=>parse_some hn ((readX_iff hm).1 h),fun h k=>?_⟩
 obtain⟨e,d,_⟩:=parse_sound (L:=lexT) (s:=s) (n:=n) (x:=(sumD lexT n s).1) (by rw[← k])
 have:=(readX_iff (L:=lexE.toLex) hm).2 d
 rw[h] at this;cases this
mutual
def Nd.enc:Nd→List PV
 | .mk k t n l=>[.int .i64 k,.str (ofL t),.int .i64 n,.sl false 0 false 4 (Nds.enc l)]
def Nds.enc:List Nd→List (List PV)
 | []=>[]
 | x::r=>x.enc::Nds.enc r
end
theorem Nds.enc_map:∀ l:List Nd,Nds.enc l=l.map Nd.enc
 | []=>rfl
 | x::r=>by rw[Nds.enc,Nds.enc_map r];rfl
theorem Nds.enc_len (l:List Nd):(Nds.enc l).length=l.length:=by rw[Nds.enc_map,List.length_map]
theorem Nds.enc_append (l m:List Nd):Nds.enc (l++m)=Nds.enc l++Nds.enc m:=by simp [Nds.enc_map]
def Nd.en (O:Opq) (c:Nd):List PV:=[.int .i64 c.kind,.str (O.o ofL c.text),.int .i64 c.num,.sl false 0 false 4 (O.o Nds.enc c.args)]
theorem Nd.en_eq (O:Opq) (c:Nd):c.enc=c.en O:=by
 obtain⟨k,t,n,l⟩:=c
 simp only [Nd.enc,Nd.en,O.h]
 rfl
theorem Nds.en_eq (O:Opq) (l:List Nd):Nds.enc l=l.map (Nd.en O):=by
 rw[Nds.enc_map];exact List.map_congr_left fun c _=>Nd.en_eq O c
theorem Nds.en_len (O:Opq) (l:List Nd):(O.o Nds.enc l).length=l.length:=by rw[O.h,Nds.enc_len]
theorem Ex.nd (O:Opq) {l:List Nd} {k:Nat} {x:Nd} (hx:l[k]?=some x) {i:Int} {K:List PV→Prop} (hi:i=k) (h:K (x.en O)):Ex (List PV) (fun row=>0≤i∧(O.o Nds.enc l)[i.toNat]?=some row) K :=
 .mk (x.en O) ⟨by omega,by rw[O.h,Nds.en_eq O,List.getElem?_map,hi,Int.toNat_natCast,hx];rfl⟩ h
theorem Nds.two (O:Opq) (a b:Nd):O.o Nds.enc [a,b]=[a.en O,b.en O]:=by rw[O.h,Nds.en_eq O];rfl
theorem Nds.one (O:Opq) (a:Nd):O.o Nds.enc [a]=[a.en O]:=by rw[O.h,Nds.en_eq O];rfl
theorem Nds.nil (O : Opq) : O.o Nds.enc [] = [] := by rw [O.h]; rfl
/-! texts as lists -/
theorem ofL_emp {l:List UInt8}:ofL l=ByteArray.empty ↔ l=[]:=by
 constructor
 ·intro h;have:=congrArg (fun t:ByteArray=>t.data.toList) h;exact this
 ·rintro rfl;rfl
theorem ofL_inj {l m:List UInt8}:ofL l=ofL m ↔ l=m :=
 ⟨fun h=>congrArg (fun t:ByteArray=>t.data.toList) h,fun h=>by rw[h]⟩
theorem byteAt_ofL (l:List UInt8) (i:Nat):byteAt (ofL l) i=((l.getD i 0).toNat:Int):=by
 unfold byteAt
 rw[toL_ofL,Int.toNat_natCast]
theorem extract_ofL (l:List UInt8) (a b:Nat):(ofL l).extract a b=ofL ((l.take b).drop a):=eq_of_toL (by rw[toL_extract,toL_ofL,toL_ofL])
def digitB:ByteArray:=⟨#[48,49,50,51,52,53,54,55,56,57]⟩
def wordB:ByteArray:=⟨#[97,98,99,100,101,102,103,104,105,106,107,108,109,110,111,112,113,114,115,116,117,118,119,120,121,122,48,49,50,51,52,53,54,55,56,57,46]⟩
theorem digit_iff:∀ n:Fin 256,digitB.data.toList.contains (UInt8.ofNat n.val)=isD (UInt8.ofNat n.val):=by decide +kernel
theorem digit_c (c:UInt8):digitB.data.toList.contains c=isD c:=by
 have:=digit_iff ⟨c.toNat,c.toNat_lt⟩
 simpa using this
theorem word_iff:∀ n:Fin 256,wordB.data.toList.contains (UInt8.ofNat n.val)=wordC (UInt8.ofNat n.val):=by decide +kernel
theorem word_c (c:UInt8):wordB.data.toList.contains c=wordC c:=by
 have:=word_iff ⟨c.toNat,c.toNat_lt⟩
 simpa using this
theorem trim_digits (w:List UInt8):trimW (ofL w) digitB.data.toList=ByteArray.empty ↔ plainL w=true:=by
 have e:trimW (ofL w) digitB.data.toList=ByteArray.empty ↔ Lib.trimS w digitB.data.toList=[]:=by
  constructor
  ·intro h;exact congrArg (fun t:ByteArray=>t.data.toList) h
  ·intro h;exact eq_of_toL h
 rw[e,Lib.trimS,Lib.trimLeftS,dropWhile_nil,Lib.trimRightS,plainL,List.all_eq_true]
 constructor
 ·intro h c hc
  cases hl:isD c with
  | true=>rfl
  | false =>
   have hp:digitB.data.toList.contains c=false:=by rw[digit_c,hl]
   have:=h c (List.mem_reverse.2 (dropWhile_mem (List.mem_reverse.2 hc) hp))
   rw[hp] at this;cases this
 ·intro h c hc
  have hm:c∈w:=List.mem_reverse.1 ((List.dropWhile_sublist _).mem (List.mem_reverse.1 hc))
  rw[digit_c];exact h c hm
def restW (s:List UInt8):List UInt8:=s.dropWhile wordC
def headW (s:List UInt8):List UInt8:=s.takeWhile wordC
theorem trim_word (s:List UInt8):(⟨(Lib.trimLeftS (ofL s).data.toList wordB.data.toList).toArray⟩:ByteArray)=ofL (restW s):=by
 rw[toL_ofL,Lib.trimLeftS]
 have:(fun x=>wordB.data.toList.contains x)=wordC:=funext word_c
 rw[this];rfl
theorem word_split (s:List UInt8):headW s++restW s=s:=List.takeWhile_append_dropWhile
theorem word_len (s:List UInt8):(headW s).length+(restW s).length=s.length:=by
 have:=congrArg List.length (word_split s)
 simpa using this
theorem word_take (s:List UInt8):s.take (headW s).length=headW s:=by
 have h:=congrArg (List.take (headW s).length) (word_split s)
 rw[List.take_left] at h
 exact h.symm
theorem word_drop (s : List UInt8) : s.drop (headW s).length = restW s := by
  have h := congrArg (List.drop (headW s).length) (word_split s)
  rw [List.drop_left] at h
  exact h.symm
/-! numbers -/
theorem parse_digits:∀ (l:List UInt8) (acc:Nat),(∀ c∈l,isD c=true)→acc<18446744073709551616 →
  Lib.parseUint10 acc l=if l.foldl (fun n c=>n * 10+(c.toNat-48)) acc<18446744073709551616 then .ok (l.foldl (fun n c=>n * 10+(c.toNat-48)) acc) else .range
 | [],acc,_,ha=>by simp [Lib.parseUint10,ha]
 | c::r,acc,h,ha=>by
  have hc:=h c (by simp)
  simp only [isD,Bool.and_eq_true,decide_eq_true_eq] at hc
  have grow:∀ (l:List UInt8) (a:Nat),a≤l.foldl (fun n c=>n * 10+(c.toNat-48)) a:=by
   intro l
   induction l with
   | nil=>intro a;exact Nat.le_refl _
   | cons d r ih=>intro a;refine Nat.le_trans ?_ (ih _);show a≤a * 10+(d.toNat-48);omega
  have hg:=grow r (acc * 10+(c.toNat-48))
  rw[Lib.parseUint10,if_pos hc,List.foldl_cons]
  split
  ·rw[if_neg (by omega)]
  ·split
   ·rw[if_neg (by omega)]
   ·exact parse_digits r _ (fun d hd=>h d (List.mem_cons_of_mem _ hd)) (by omega)
theorem atoi_digits {w:List UInt8} (h0:w≠[]) (h:plainL w=true):Lib.atoiAll w=if natOf w<9223372036854775808 then .ok (natOf w:Int) else .range:=by
 match w,h0 with
 | c::r,_ =>
  have ha:=List.all_eq_true.1 h
  have hc:=ha c (by simp)
  simp only [isD,Bool.and_eq_true,decide_eq_true_eq] at hc
  have hp:=parse_digits (c::r) 0 ha (by decide)
  have e:(c::r).foldl (fun n c=>n * 10+(c.toNat-48)) 0=natOf (c::r):=rfl
  rw[e] at hp
  simp only [Lib.atoiAll]
  rw[if_neg (by omega),Lib.parseMag,if_neg (by simp),hp]
  have hn:¬ c.toNat=45:=by omega
  by_cases h1:natOf (c::r)<18446744073709551616
  ·rw[if_pos h1]
   by_cases h2:natOf (c::r)<9223372036854775808
   ·rw[if_pos h2]
    simp only [hn,not_false_eq_true,true_and,false_and,if_false]
    rw[if_neg (by omega)]
   ·rw[if_neg h2]
    simp only [hn,not_false_eq_true,true_and,false_and,if_false]
    rw[if_pos (by omega)]
  ·rw[if_neg h1,if_neg (by omega)]
theorem sat_digits {w:List UInt8} (h0:w≠[]) (h:plainL w=true):Lib.atoiSat w=9223372036854775807:=by
 match w,h0 with
 | c::r,_ =>
  have hc:=List.all_eq_true.1 h c (by simp)
  simp only [isD,Bool.and_eq_true,decide_eq_true_eq] at hc
  simp only [Lib.atoiSat,List.head?_cons,Option.map_some,Option.some.injEq]
  rw[if_neg (by omega)]
theorem dec_digN (n:Nat):Lib.decDigits n=digN n:=by
 induction n using Nat.strongRecOn with
 | ind n ih =>
  unfold Lib.decDigits digN
  split
  ·rfl
  ·rw[ih (n / 10) (by omega)]
theorem itoa_digN (n : Nat) : Lib.itoa n = digN n := by
  rw [Lib.itoa, if_neg (by omega), Int.toNat_natCast, dec_digN]
/-! what is left is no longer -/
theorem rest_len {L:LexT}:∀ n,
  (∀ s,(partD L n s).2.1.length≤s.length)∧(∀ x s b,(loopP L n x s b).2.1.length≤s.length)∧(∀ x s b,(loopS L n x s b).2.1.length≤s.length):=by
 intro n
 induction n with
 | zero=>exact⟨fun s=>by simp [partD],fun x s b=>by simp [loopP],fun x s b=>by simp [loopS]⟩
 | succ n ih =>
  obtain⟨i1,i2,i3⟩:=ih
  have j1:∀ s,(prodD L n s).2.1.length≤s.length:=fun s=>by rw[prodD];exact Nat.le_trans (i2 _ _ _) (i1 s)
  have j2:∀ s,(sumD L n s).2.1.length≤s.length:=fun s=>by rw[sumD];exact Nat.le_trans (i3 _ _ _) (j1 s)
  have j3:∀ s,(innerD L n s).2.1.length≤s.length:=fun s=>by
   have:=j2 s
   rw[innerD]
   split
   ·rename_i t ht;rw[ht] at this;simp at this ⊢;omega
   ·rename_i t b ht;rw[ht] at this;exact this
  have hd:∀ s:List UInt8,(s.dropWhile L.isW).length≤s.length:=fun s=>(List.dropWhile_sublist _).length_le
  refine⟨fun s=>?_,fun x s b=>?_,fun x s b=>?_⟩
  ·have h0:=hd s
   rw[partD]
   split
   ·rename_i r hr
    rw[hr] at h0
    have h1:=j3 r
    simp only [List.length_cons] at h0
    split
    ·omega
    ·split
     ·simp only;omega
     ·simp only [List.length_cons];omega
   ·exact h0
  ·by_cases hs:(∃ s',s=42::s')∧b=false
   ·obtain⟨⟨s',rfl⟩,rfl⟩:=hs
    rw[loopP_star]
    have h1:=i2 (mulN x (partD L n s').1) (partD L n s').2.1 (partD L n s').2.2
    have h2:=i1 s'
    simp only [List.length_cons];omega
   ·rw[loopP_end (fun s' e=>by cases b with|true=>rfl|false=>exact absurd ⟨⟨s',e⟩,rfl⟩ hs)]
    exact Nat.le_refl _
  ·by_cases hs:(∃ s',s=43::s')∧b=false
   ·obtain⟨⟨s',rfl⟩,rfl⟩:=hs
    rw[loopS_plus]
    have h1:=i3 (sumN x (prodD L n s').1) (prodD L n s').2.1 (prodD L n s').2.2
    have h2:=j1 s'
    simp only [List.length_cons];omega
   ·rw[loopS_end (fun s' e=>by cases b with|true=>rfl|false=>exact absurd ⟨⟨s',e⟩,rfl⟩ hs)]
    exact Nat.le_refl _
open Go Go.Proofs.Tryz
set_option maxRecDepth 100000
theorem repL_str1 {c:RC} {s:ByteArray} {us:Array Value} (h:RepL c [.str s] us):us=#[.string s] :=
 repL_vals (vs:=[.string s]) h (fun i x u p q=>by
  match i,p with
  | 0,p=>simp at p;subst p;have:=(h.2 0 _ u rfl q).str_inv;simp [this]) rfl
theorem repL_int1 {c:RC} {n:Int} {us:Array Value} (h:RepL c [.int .i64 n] us):us=#[.int .i64 n] :=
 repL_vals (vs:=[.int .i64 n]) h (fun i x u p q=>by
  match i,p with
  | 0,p=>simp at p;subst p;have:=(h.2 0 _ u rfl q).int_inv;simp [this]) rfl
theorem fn_of_laid {P : Program} {f : Nat} {fn : Func} (hf : P.funcs[f]? = some fn) (hn : fn.name ≠ "runtime.NumGoroutine") (hb : fn.body.isSome = true) {args res : List PV} {vs : Array Value} (ha : ∀ c us, RepL c args us → us = vs)
    (h : ∀ w : World, theLaid.ok w → Calls P f vs w fun e w' => (∃ v, e = .returned v ∧ ∀ c, Rep c (packRes res) v) ∧ RowKit.Below w.heap.size w w') : Fn P f args [] res [] :=
  .inl ⟨⟨fn, hf, hn, hb⟩, fun c us h64 hi hr => by
    obtain rfl := ha c us hr
    refine Calls.mono (h c.w hi.lok) fun e w' he => ?_
    obtain ⟨⟨v, rfl, hv⟩, hb⟩ := he
    exact ⟨{ c with w := w' }, rfl, hi.grow ⟨hb.size, hb.block, hb.os, hb.tape, hb.output⟩, hv _⟩⟩
theorem trimD_fn (O:Opq) (s:ByteArray) (hs:s.size≤1099511627776):Fn prog 96 [.str s,.str digitB] [] [.str (O.o trimW s digitB.data.toList)] []:=by
 rw[O.h]
 exact fn_of_calls (fn:=Proofs.Tryz.f96) rfl (by decide) rfl (fun c us h=>repL_str2 h) (fun c=>.plain (.str _)) fun w=>Go.Proofs.Any.strings_Trim_laid trimLays (by kernel_rfl) s digitB w (by omega) (by decide) (Go.Proofs.ascii_of_all (by decide))
theorem trimL_fn (O:Opq) (s:List UInt8):Fn prog 177 [.str (O.o ofL s),.str wordB] [] [.str (O.o ofL (O.o restW s))] []:=by
 simp only [O.h]
 rw[← trim_word]
 exact fn_of_calls (fn:=Proofs.Tryz.f177) rfl (by decide) rfl (fun c us h=>repL_str2 h) (fun c=>.plain (.str _)) fun w=>Go.Proofs.Any.strings_TrimLeft_laid trimLLays (by kernel_rfl) (ofL s) wordB w (by decide) (Go.Proofs.ascii_of_all (by decide))
theorem rep_pair {c:RC} {x y:PV} {a b:Value} (h1:Rep c x a) (h2:Rep c y b):Rep c (packRes [x,y]) (.tuple #[a,b]) :=
 .tup _ _ rfl fun i z v p q=>by
  match i with
  | 0=>simp at p q;subst p;subst q;exact h1
  | 1=>simp at p q;subst p;subst q;exact h2
  | i+2=>simp at p
theorem atoi_ok (w:List UInt8) (h0:w≠[]) (h:plainL w=true) (hl:w.length≤100000) (hn:natOf w<9223372036854775808):Fn prog 158 [.str (ofL w)] [] [.int .i64 (natOf w),.lit .nilIface] []:=by
 have e:=atoi_digits h0 h
 rw[if_pos hn] at e
 refine fn_of_laid (fn:=Proofs.Tryz.f158) rfl (by decide) rfl (fun c us h=>repL_str1 h) fun W hW=>?_
 refine(Go.Proofs.Any.strconv_Atoi_ok atoiLays (ofL w) (by rw[size_ofL];omega) (natOf w) e W).mono ?_
 rintro e' w' ⟨rfl,hw⟩
 refine⟨⟨_,rfl,fun c=>rep_pair (.plain (.int _ _)) (.plain (.lit _))⟩,?_⟩
 rcases hw with rfl | ⟨t,rfl⟩
 ·exact RowKit.Below.refl _ _
 ·exact Lib.bytesWorld_below _ _ _
theorem atoi_range (w:List UInt8) (h0:w≠[]) (h:plainL w=true) (hl:w.length≤100000) (hn:¬ natOf w<9223372036854775808):Fn prog 158 [.str (ofL w)] [] [.int .i64 9223372036854775807,.ifc] []:=by
 have e:=atoi_digits h0 h
 rw[if_neg hn] at e
 refine fn_of_laid (fn:=Proofs.Tryz.f158) rfl (by decide) rfl (fun c us h=>repL_str1 h) fun W hW=>?_
 obtain⟨_,tp,p,hv⟩:=hW
 refine(Go.Proofs.Any.strconv_Atoi_range_var atoiLays (ofL w) (by rw[size_ofL];omega) e tp p W hv).mono ?_
 rintro e' w' ⟨N,rfl,_,_,hb⟩
 refine⟨⟨_,rfl,fun c=>?_⟩,hb⟩
 rw[toL_ofL,sat_digits h0 h]
 exact rep_pair (.plain (.int _ _)) (.ifc _ _)
def atoiV (w:List UInt8):Int:=(min (natOf w) 9223372036854775807:Nat)
theorem atoiV_lt {w:List UInt8} (h:natOf w<9223372036854775808):atoiV w=natOf w:=by rw[atoiV,Nat.min_eq_left (by omega)]
theorem atoiV_ge {w:List UInt8} (h:¬ natOf w<9223372036854775808):atoiV w=9223372036854775807:=by rw[atoiV,Nat.min_eq_right (by omega)];rfl
theorem itoa_fn (n:Nat) (h:n≤9223372036854775807):Fn prog 159 [.int .i64 n] [] [.str (ofL (digN n))] []:=by
 refine fn_of_laid (fn:=Proofs.Tryz.f159) rfl (by decide) rfl (fun c us h=>repL_int1 h) fun W hW=>?_
 refine(Go.Proofs.Any.strconv_Itoa itoaLays (n:Int) (by omega) (by omega) W hW.1).mono ?_
 rintro e' w' ⟨rfl,k,os,hw⟩
 refine⟨⟨_,rfl,fun c=>?_⟩,by rw[hw];exact Lib.below_grow _ _ (Nat.le_refl _) _ _⟩
 rw[itoa_digN]
 exact .plain (.str _)
def gOk (a b:Int):Bool:=decide (-1048576≤a∧a≤1048576∧-1048576≤b∧b≤1048576)
def gErr (a b:Int):Int:=if gOk a b=true then 0 else 1
theorem gErr_ok {a b:Int} (h:gOk a b=true):gErr a b=0:=by rw[gErr,if_pos h]
theorem gErr_bad {a b:Int} (h:¬ gOk a b=true):gErr a b=1:=by rw[gErr,if_neg h]
theorem gOk_iff {a b:Int}:gOk a b=true ↔ -1048576≤a∧a≤1048576∧-1048576≤b∧b≤1048576:=by simp [gOk]
theorem okF_of {a:Int} (h:-1125899906842624≤a∧a≤1125899906842624):okF a:=⟨by omega,by omega⟩
theorem mul_bound {a c:Int} (h1:-1048576≤a) (h2:a≤1048576) (h3:-1048576≤c) (h4:c≤1048576):-1099511627776≤a * c∧a * c≤1099511627776:=by
 have h:(a * c).natAbs≤1048576 * 1048576:=by
  rw[Int.natAbs_mul]
  exact Nat.mul_le_mul (by omega) (by omega)
 omega
theorem okM_of {a b c d:Int} (h:gOk a b=true) (k:gOk c d=true):okM a b c d:=by
 obtain⟨a1,a2,b1,b2⟩:=gOk_iff.1 h
 obtain⟨c1,c2,d1,d2⟩:=gOk_iff.1 k
 have e1:=mul_bound a1 a2 c1 c2
 have e2:=mul_bound b1 b2 d1 d2
 have e3:=mul_bound a1 a2 d1 d2
 have e4:=mul_bound b1 b2 c1 c2
 exact⟨okF_of (by omega),okF_of (by omega),okF_of (by omega),okF_of (by omega),okF_of (by omega),okF_of (by omega)⟩
theorem mul_parts {a b c d:Int} (h:gOk a b=true) (k:gOk c d=true):okF (a * c-b * d)∧okF (a * d+b * c):=⟨(okM_of h k).2.2.1,(okM_of h k).2.2.2.2.2⟩
end Go.Sym
namespace Go.Sym
open Go
section
variable {α:Type} (κ:α→ByteArray)
def sortedK (l:List α):Prop:=l.Pairwise fun x y=>slt (κ x) (κ y)
variable {κ}
end
end Go.Sym
namespace Go.Sym
open Go
structure Change where
 pos:Int
 key:ByteArray
 has:Bool
 doc:Doc
structure Sub where
 name:ByteArray
 pos:Int
structure Feed where
 base:Int
 total:Int
 changes:List Change
 subs:List Sub
def Change.enc (O:Opq) (c:Change):List PV:=[.int .i64 c.pos,.str c.key,.bool c.has,.sl false 0 false 6 (O.o Doc.enc c.doc)]
def Chs.enc (O:Opq) (l:List Change):List (List PV):=l.map (Change.enc O)
def Sub.enc (s:Sub):List PV:=[.str s.name,.int .i64 s.pos]
def Subs.enc:List Sub→List (List PV):=List.map Sub.enc
def Feed.enc (O:Opq) (f:Feed):List PV:=[.int .i64 f.base,.int .i64 f.total,.sl false 0 false 4 (O.o (Chs.enc O) f.changes),.sl false 0 false 2 (O.o Subs.enc f.subs)]
theorem Chs.enc_len (O:Opq) (l:List Change):(Chs.enc O l).length=l.length:=by simp [Chs.enc]
theorem Subs.enc_len (l:List Sub):(Subs.enc l).length=l.length:=by simp [Subs.enc]
theorem Chs.len (O:Opq) (l:List Change):(O.o (Chs.enc O) l).length=l.length:=by rw[O.h,Chs.enc_len]
theorem Subs.len (O:Opq) (l:List Sub):(O.o Subs.enc l).length=l.length:=by rw[O.h,Subs.enc_len]
def tx:ByteArray:=⟨#[120]⟩
def ty:ByteArray:=⟨#[121]⟩
open Go Go.Proofs Go.Proofs.Tryz
set_option maxRecDepth 10000
def Change.In (c:Change):Prop:=inInt c.pos∧inStr c.key∧c.doc.length≤9223372036854775807∧∀ f∈c.doc,f.In
def Sub.In (s:Sub):Prop:=inStr s.name∧inInt s.pos
def Feed.In (f:Feed):Prop:=inInt f.base∧inInt f.total∧f.changes.length≤9223372036854775807∧f.subs.length≤9223372036854775807∧(∀ c∈f.changes,c.In)∧∀ s∈f.subs,s.In
theorem laid_at {P:Program} {w:World} {n:String} {d:DataW Unit}:∀ {laid:List (String×DataW Unit)} {ps:List MemPlace},DataW.LaidVars P w laid ps→(n,d)∈laid →
  ∃ g t cs fuel p,P.globalNamed n=some g∧(P.globals[g]?).map (·.type)=some t∧w.var? P n=some cs∧DataW.trod (fun _=>()) P w 0 (fun _=>true) false fuel t cs.toList=some (d,p)
 | [],_,_,h=>by simp at h
 | (n',d')::r,ps,hl,h=>by
  obtain⟨g,t,cs,fuel,p,q,h1,h2,h3,h4,h5,_⟩:=hl
  rcases List.mem_cons.1 h with e|h
  ·cases e;exact⟨g,t,cs,fuel,p,h1,h2,h3,h4⟩
  ·exact laid_at h5 h
theorem hok_tab {laid:List (String×DataW Unit)} {W:World} {zs:List Int} {ps:List MemPlace} (hv:DataW.LaidVars prog W laid ps) (h1:(thePow,Lib.tabData .u64 zs)∈laid):Lib.TabIs prog W thePow .u64 zs:=by
 obtain⟨g,t,cs,fuel,p,hg,ht,hc,hd⟩:=laid_at hv h1
 have eg:prog.globalNamed thePow=some 5:=by kernel_rfl
 obtain rfl:=Option.some.inj (eg.symm.trans hg)
 have et:(prog.globals[5]?).map (·.type)=some 246:=by kernel_rfl
 obtain rfl:=Option.some.inj (et.symm.trans ht)
 have hcs:=Lib.cells_of_tab underlying246 underlying141 (by kernel_rfl) (by kernel_rfl) hd
 unfold Lib.TabIs
 rw[hc,← hcs]
theorem hok {laid:List (String×DataW Unit)} {W:World} {en:String} {ed:DataW Unit} (h:laidMet prog laid W) (h1:(thePow,Lib.tabData .u64 Lib.pow10Tab)∈laid) (h2:(theErr,.iface en ed)∈laid):theLaid.ok W:=by
 obtain⟨ps,hv,_⟩:=h
 obtain⟨g,t,cs',fuel,p,hg,ht,hc',hd'⟩:=laid_at hv h2
 have eg:prog.globalNamed theErr=some 4:=by kernel_rfl
 obtain rfl:=Option.some.inj (eg.symm.trans hg)
 have et:(prog.globals[4]?).map (·.type)=some 191:=by kernel_rfl
 obtain rfl:=Option.some.inj (et.symm.trans ht)
 obtain⟨f,u,v,hv',_,_⟩:=iface_of_trod underlying191 hd'
 refine⟨hok_tab hv h1,u,v,?_⟩
 rw[hc']
 exact congrArg some (Array.ext' hv')
end Go.Sym
