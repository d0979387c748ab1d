/- Bits. -/
import Derived.Test.YtfdbdalnpdgfmaaGreatDoorJ5
import Derived.Test.YtfdbdalnpdgfmaaGreatDoorJ4
import Derived.Test.YtfdbdalnpdgfmaaGreatDoorJ3
import Derived.Test.YtfdbdalnpdgfmaaGreatDoorProg
set_option linter.all false
set_option linter.unusedVariables false
set_option linter.unusedSimpArgs false
namespace Go.Sym
open Go
theorem Named.w8 {x:Int} {K:Int→Prop} (h:0≤x) (k:∀ n,n=x % 256→0≤n→n<256→K n):Named Int (fun _=>IntKind.u8.wrap x) K:=.mk fun n hn=>by
 have:n=x % 256:=by rw[hn];unfold IntKind.wrap;simp [IntKind.bits,IntKind.signed]
 exact k n this (by omega) (by omega)
theorem Named.rem {x y:Int} {K:Int→Prop} (h:0≤x∧0<y) (k:∀ n,n=x % y→K n):Named Int (fun _=>x.tmod y) K:=.mk fun n hn=>k n (by
 rw[hn];exact Int.tmod_eq_emod_of_nonneg h.1)
theorem Named.quo {x y:Int} {K:Int→Prop} (h:0≤x∧0<y∧x<9223372036854775808) (k:∀ n,n=x / y→K n):Named Int (fun _=>IntKind.i64.wrap (x.tdiv y)) K:=.mk fun n hn=>k n (by
 have e:x.tdiv y=x / y:=Int.tdiv_eq_ediv_of_nonneg h.1
 have h1:0≤x / y:=Int.ediv_nonneg h.1 (by omega)
 have h2:x / y≤x:=Int.ediv_le_self _ h.1
 rw[hn,e,wrap64 (by omega)])
structure Ndoc where
 key:ByteArray
 doc:Doc
structure PairK where
 key:ByteArray
 val:ByteArray
structure Answer where
 code:Int
 has:Bool
 doc:Doc
 docs:List Ndoc
 news:List Change
 n:Int
 total:Int
 keys:List PairK
inductive Opn where
 | mk (kind:Int) (key to:ByteArray) (doc want:Doc) (has:Bool) (n most:Int) (list:List Opn) (docs:List Ndoc) (news:List Change)
def Opn.kind:Opn→Int | .mk k _ _ _ _ _ _ _ _ _ _=>k
def Opn.key:Opn→ByteArray | .mk _ k _ _ _ _ _ _ _ _ _=>k
def Opn.to:Opn→ByteArray | .mk _ _ k _ _ _ _ _ _ _ _=>k
def Opn.doc:Opn→Doc | .mk _ _ _ k _ _ _ _ _ _ _=>k
def Opn.want:Opn→Doc | .mk _ _ _ _ k _ _ _ _ _ _=>k
def Opn.has:Opn→Bool | .mk _ _ _ _ _ k _ _ _ _ _=>k
def Opn.n:Opn→Int | .mk _ _ _ _ _ _ k _ _ _ _=>k
def Opn.most:Opn→Int | .mk _ _ _ _ _ _ _ k _ _ _=>k
def Opn.list:Opn→List Opn | .mk _ _ _ _ _ _ _ _ k _ _=>k
def Opn.docs:Opn→List Ndoc | .mk _ _ _ _ _ _ _ _ _ k _=>k
def Opn.news:Opn→List Change | .mk _ _ _ _ _ _ _ _ _ _ k=>k
def Ndoc.enc (O:Opq) (n:Ndoc):List PV:=[.str n.key,.sl false 0 false 6 (O.o Doc.enc n.doc)]
def Nms.enc (O:Opq) (l:List Ndoc):List (List PV):=l.map (Ndoc.enc O)
def PairK.enc (p:PairK):List PV:=[.str p.key,.str p.val]
def Prs.enc:List PairK→List (List PV):=List.map PairK.enc
theorem Nms.len (O:Opq) (l:List Ndoc):(O.o (Nms.enc O) l).length=l.length:=by rw[O.h,Nms.enc,List.length_map]
theorem Prs.len (O:Opq) (l:List PairK):(O.o Prs.enc l).length=l.length:=by rw[O.h,Prs.enc,List.length_map]
def Answer.enc (O:Opq) (a:Answer):List PV:=[.int .i64 a.code,.bool a.has,.sl false 0 false 6 (O.o Doc.enc a.doc),.sl false 0 false 2 (O.o (Nms.enc O) a.docs),.sl false 0 false 4 (O.o (Chs.enc O) a.news),.int .i64 a.n,.int .i64 a.total,.sl false 0 false 2 (O.o Prs.enc a.keys)]
mutual
def Opn.enc (O:Opq):Opn→List PV
 | .mk k key to d w h n m l ds ns=>[.int .i64 k,.str key,.str to,.sl false 0 false 6 (O.o Doc.enc d),.sl false 0 false 6 (O.o Doc.enc w),.bool h,.int .i64 n,.int .i64 m,.sl false 0 false 11 (Ops.enc O l),.sl false 0 false 2 (O.o (Nms.enc O) ds),.sl false 0 false 4 (O.o (Chs.enc O) ns)]
def Ops.enc (O:Opq):List Opn→List (List PV)
 | []=>[]
 | o::l=>o.enc O::Ops.enc O l
end
theorem Ops.enc_map (O:Opq):∀ l:List Opn,Ops.enc O l=l.map (Opn.enc O)
 | []=>by simp [Ops.enc]
 | c::l=>by rw[Ops.enc,Ops.enc_map O l];rfl
theorem Ops.len (O:Opq) (l:List Opn):(O.o (Ops.enc O) l).length=l.length:=by rw[O.h,Ops.enc_map];simp
def Opn.en (O:Opq) (o:Opn):List PV:=[.int .i64 o.kind,.str o.key,.str o.to,.sl false 0 false 6 (O.o Doc.enc o.doc),.sl false 0 false 6 (O.o Doc.enc o.want),.bool o.has,.int .i64 o.n,.int .i64 o.most,.sl false 0 false 11 (O.o (Ops.enc O) o.list),.sl false 0 false 2 (O.o (Nms.enc O) o.docs),.sl false 0 false 4 (O.o (Chs.enc O) o.news)]
theorem Opn.en_eq (O:Opq) (o:Opn):o.enc O=o.en O:=by
 obtain⟨k,key,to,d,w,h,n,m,l,ds,ns⟩:=o
 rw[Opn.enc,Opn.en,O.h (Ops.enc O)];rfl
theorem Ops.en_eq (O:Opq) (l:List Opn):Ops.enc O l=l.map (Opn.en O):=by
 rw[Ops.enc_map];exact List.map_congr_left fun c _=>Opn.en_eq O c
theorem Named.atI {α:Type} {x:Unit→α} {K:α→Prop} (v:α) (h:v=x ()) (k:K v):Named α x K:=.mk fun n e=>by rw[e,← h];exact k
def lessP (p q:PairK):Prop:=slt p.key q.key∨(p.key=q.key∧slt p.val q.val)
def ordI (p q:PairK):Int:=if cmpS p.key q.key=0 then cmpS p.val q.val else cmpS p.key q.key
theorem ordI_lt {p q:PairK}:ordI p q<0 ↔ lessP p q:=by
 unfold ordI lessP
 by_cases h:cmpS p.key q.key=0
 ·rw[if_pos h,cmpS_lt]
  have e:=cmpS_eq.1 h
  constructor
  ·intro k;exact .inr ⟨e,k⟩
  ·rintro (k | ⟨_,k⟩)
   ·exact absurd e (slt_ne k)
   ·exact k
 ·rw[if_neg h,cmpS_lt]
  constructor
  ·exact .inl
  ·rintro (k | ⟨k,_⟩)
   ·exact k
   ·exact absurd (cmpS_eq.2 k) h
def mayP (l:List PairK):Prop:=∀ (i:Nat) x y,l[i]?=some x→l[i+1]?=some y→lessP x y
open Classical in
noncomputable def mayPb (l:List PairK):Bool:=decide (mayP l)
open Classical in
theorem mayPb_iff {l:List PairK}:mayPb l=true ↔ mayP l:=by rw[mayPb,decide_eq_true_eq]
def mayTo (l:List PairK) (n:Nat):Prop:=∀ (i:Nat) x y,i+1<n→l[i]?=some x→l[i+1]?=some y→lessP x y
theorem mayTo_zero (l:List PairK):mayTo l 0:=fun i x y h=>by omega
theorem mayTo_one (l:List PairK):mayTo l 1:=fun i x y h=>by omega
theorem mayTo_step {l:List PairK} {n:Nat} {x y:PairK} (h:mayTo l (n+1)) (hx:l[n]?=some x) (hy:l[n+1]?=some y) (hl:lessP x y):mayTo l (n+2):=fun i a b hi ha hb=>by
 by_cases e:i=n
 ·subst e;rw[hx] at ha;rw[hy] at hb;cases ha;cases hb;exact hl
 ·exact h i a b (by omega) ha hb
theorem mayP_end {l:List PairK} {n:Nat} (h:mayTo l n) (hn:l.length≤n):mayP l:=fun i x y hx hy=>h i x y (by have:=(List.getElem?_eq_some_iff.1 hy).1;omega) hx hy
theorem mayP_no {l:List PairK} {n:Nat} {x y:PairK} (hx:l[n]?=some x) (hy:l[n+1]?=some y) (hl:¬ lessP x y):¬ mayP l:=fun h=>hl (h n x y hx hy)
open Classical in
noncomputable def stepF (f t : ByteArray) (m : Int) (acc : List PairK) (p : PairK) : List PairK := if ¬ slt p.key f ∧ (t = ByteArray.empty ∨ slt p.key t) ∧ (acc.length : Int) < m then acc ++ [p] else acc
noncomputable def findP (f t:ByteArray) (m:Int) (l:List PairK):List PairK:=l.foldl (stepF f t m) []
noncomputable def findK (f t:ByteArray) (m:Int) (l:List PairK) (n:Nat):List PairK:=findP f t m (l.take n)
theorem findK_zero (f t:ByteArray) (m:Int) (l:List PairK):findK f t m l 0=[]:=rfl
theorem findK_step {f t:ByteArray} {m:Int} {l:List PairK} {n:Nat} {p:PairK} (h:l[n]?=some p):findK f t m l (n+1)=stepF f t m (findK f t m l n) p:=by
 rw[findK,findP,List.take_add_one,h,List.foldl_append]
 rfl
theorem findK_end {f t:ByteArray} {m:Int} {l:List PairK} {n:Nat} (h:l.length≤n):findK f t m l n=findP f t m l:=by rw[findK,List.take_of_length_le h]
theorem findK_len (f t:ByteArray) (m:Int) (l:List PairK):∀ n,(findK f t m l n).length≤n
 | 0=>by simp [findK_zero]
 | n+1=>by
  have ih:=findK_len f t m l n
  cases h:l[n]? with
  | none =>
   have:=List.getElem?_eq_none_iff.1 h
   rw[findK_end (by omega),← findK_end (n:=n) this];omega
  | some p =>
   rw[findK_step h,stepF]
   split
   ·simp;omega
   ·omega
def yT0:Option TyI:=some { size:=1,bytes:=8,agg:=false,cmp:=false,tk:=.other,zero:=[.lit .nilFunc] }
def yT1:Option TyI:=some { size:=1,bytes:=8,agg:=false,cmp:=false,tk:=.other,zero:=[.lit (.pointer none)] }
def yT2:Option TyI:=some { size:=1,bytes:=8,agg:=false,cmp:=false,tk:=.int .i64,zero:=[.int .i64 0] }
def yT3:Option TyI:=some { size:=1,bytes:=1,agg:=false,cmp:=false,tk:=.int .u8,zero:=[.int .u8 0] }
def yT4:Option TyI:=some { size:=1,bytes:=8,agg:=false,cmp:=false,tk:=.int .u64,zero:=[.int .u64 0] }
def yT5:Option TyI:=some { size:=1,bytes:=16,agg:=false,cmp:=false,tk:=.str,zero:=[.str ByteArray.empty] }
def yT6:Option TyI:=some { size:=1,bytes:=16,agg:=false,cmp:=false,tk:=.iface,zero:=[.lit .nilIface] }
def yT7:Option TyI:=some { size:=1,bytes:=4,agg:=false,cmp:=false,tk:=.int .i32,zero:=[.int .i32 0] }
def tyOf_0:List (Option TyI):=[none,
 yT0,
 yT2,
 yT2,
 some { size:=1,bytes:=1,agg:=false,cmp:=false,tk:=.bool,zero:=[.bool false] },
 yT3,
 yT3,
 some { size:=4,bytes:=24,agg:=true,cmp:=false,tk:=.struct [(0,1,false),(1,1,false),(2,1,false),(3,1,false)],zero:=[.int .i64 0,.int .i64 0,.bool false,.int .u8 0] },
 some { size:=4,bytes:=24,agg:=true,cmp:=false,tk:=.struct [(0,1,false),(1,1,false),(2,1,false),(3,1,false)],zero:=[.int .i64 0,.int .i64 0,.bool false,.int .u8 0] },
 yT5,
 yT5,
 yT5,
 yT4,
 some { size:=2,bytes:=24,agg:=true,cmp:=false,tk:=.struct [(0,1,false),(1,1,false)],zero:=[.str ByteArray.empty,.int .u64 0] },
 some { size:=2,bytes:=24,agg:=true,cmp:=false,tk:=.struct [(0,1,false),(1,1,false)],zero:=[.str ByteArray.empty,.int .u64 0] },
 yT1]
def tyOf_1:List (Option TyI):=[yT1,
 yT1,
 some { size:=1,bytes:=8,agg:=true,cmp:=false,tk:=.struct [(0,1,false)],zero:=[.lit (.pointer none)] },
 some { size:=1,bytes:=8,agg:=true,cmp:=false,tk:=.struct [(0,1,false)],zero:=[.lit (.pointer none)] },
 yT6,
 yT7,
 yT0,
 some { size:=1,bytes:=24,agg:=false,cmp:=false,tk:=.slice 58,zero:=[.nils] },
 some { size:=4,bytes:=56,agg:=true,cmp:=false,tk:=.struct [(0,1,false),(1,1,false),(2,1,false),(3,1,false)],zero:=[.str ByteArray.empty,.bool false,.int .i64 0,.nils] },
 some { size:=4,bytes:=56,agg:=true,cmp:=false,tk:=.struct [(0,1,false),(1,1,false),(2,1,false),(3,1,false)],zero:=[.str ByteArray.empty,.bool false,.int .i64 0,.nils] },
 yT2,
 none,
 yT0,
 some { size:=1,bytes:=24,agg:=false,cmp:=false,tk:=.slice 50,zero:=[.nils] },
 none,
 yT0]
def tyOf_2:List (Option TyI):=[yT0,
 yT0,
 some { size:=1,bytes:=24,agg:=false,cmp:=false,tk:=.slice 83,zero:=[.nils] },
 some { size:=1,bytes:=24,agg:=false,cmp:=false,tk:=.slice 83,zero:=[.nils] },
 some { size:=1,bytes:=24,agg:=false,cmp:=false,tk:=.slice 40,zero:=[.nils] },
 some { size:=1,bytes:=24,agg:=false,cmp:=false,tk:=.slice 85,zero:=[.nils] },
 some { size:=1,bytes:=24,agg:=false,cmp:=false,tk:=.slice 74,zero:=[.nils] },
 some { size:=11,bytes:=184,agg:=true,cmp:=false,tk:=.struct [(0,1,false),(1,1,false),(2,1,false),(3,1,false),(4,1,false),(5,1,false),(6,1,false),(7,1,false),(8,1,false),(9,1,false),(10,1,false)],zero:=[.int .i64 0,.str ByteArray.empty,.str ByteArray.empty,.nils,.nils,.bool false,.int .i64 0,.int .i64 0,.nils,.nils,.nils] },
 some { size:=11,bytes:=184,agg:=true,cmp:=false,tk:=.struct [(0,1,false),(1,1,false),(2,1,false),(3,1,false),(4,1,false),(5,1,false),(6,1,false),(7,1,false),(8,1,false),(9,1,false),(10,1,false)],zero:=[.int .i64 0,.str ByteArray.empty,.str ByteArray.empty,.nils,.nils,.bool false,.int .i64 0,.int .i64 0,.nils,.nils,.nils] },
 yT0,
 some { size:=8,bytes:=128,agg:=true,cmp:=false,tk:=.struct [(0,1,false),(1,1,false),(2,1,false),(3,1,false),(4,1,false),(5,1,false),(6,1,false),(7,1,false)],zero:=[.int .i64 0,.bool false,.nils,.nils,.nils,.int .i64 0,.int .i64 0,.nils] },
 some { size:=8,bytes:=128,agg:=true,cmp:=false,tk:=.struct [(0,1,false),(1,1,false),(2,1,false),(3,1,false),(4,1,false),(5,1,false),(6,1,false),(7,1,false)],zero:=[.int .i64 0,.bool false,.nils,.nils,.nils,.int .i64 0,.int .i64 0,.nils] },
 none,
 yT0,
 yT0,
 yT0]
def tyOf_3:List (Option TyI):=[some { size:=1,bytes:=24,agg:=false,cmp:=false,tk:=.slice 9,zero:=[.nils] },
 some { size:=4,bytes:=56,agg:=true,cmp:=false,tk:=.struct [(0,1,false),(1,1,false),(2,1,false),(3,1,false)],zero:=[.int .i64 0,.str ByteArray.empty,.int .i64 0,.nils] },
 some { size:=4,bytes:=56,agg:=true,cmp:=false,tk:=.struct [(0,1,false),(1,1,false),(2,1,false),(3,1,false)],zero:=[.int .i64 0,.str ByteArray.empty,.int .i64 0,.nils] },
 none,
 yT0,
 yT0,
 yT0,
 yT0,
 yT0,
 some { size:=2,bytes:=32,agg:=true,cmp:=true,tk:=.struct [(0,1,false),(1,1,false)],zero:=[.str ByteArray.empty,.str ByteArray.empty] },
 some { size:=2,bytes:=32,agg:=true,cmp:=true,tk:=.struct [(0,1,false),(1,1,false)],zero:=[.str ByteArray.empty,.str ByteArray.empty] },
 yT0,
 yT0,
 yT0,
 yT0,
 yT0]
def tyOf_4:List (Option TyI):=[yT0,
 yT0,
 none,
 yT0,
 yT0,
 yT0,
 yT0,
 none,
 yT0,
 some { size:=4,bytes:=56,agg:=true,cmp:=false,tk:=.struct [(0,1,false),(1,1,false),(2,1,false),(3,1,false)],zero:=[.int .i64 0,.str ByteArray.empty,.bool false,.nils] },
 some { size:=4,bytes:=56,agg:=true,cmp:=false,tk:=.struct [(0,1,false),(1,1,false),(2,1,false),(3,1,false)],zero:=[.int .i64 0,.str ByteArray.empty,.bool false,.nils] },
 yT0,
 yT0,
 yT0,
 some { size:=2,bytes:=16,agg:=true,cmp:=true,tk:=.struct [(0,1,false),(1,1,false)],zero:=[.int .i64 0,.int .i64 0] },
 some { size:=2,bytes:=16,agg:=true,cmp:=true,tk:=.struct [(0,1,false),(1,1,false)],zero:=[.int .i64 0,.int .i64 0] }]
def tyOf_5:List (Option TyI):=[some { size:=5,bytes:=48,agg:=true,cmp:=true,tk:=.struct [(0,1,false),(1,1,false),(2,1,false),(3,2,true)],zero:=[.int .i64 0,.int .i64 0,.str ByteArray.empty,.int .i64 0,.int .i64 0] },
 some { size:=5,bytes:=48,agg:=true,cmp:=true,tk:=.struct [(0,1,false),(1,1,false),(2,1,false),(3,2,true)],zero:=[.int .i64 0,.int .i64 0,.str ByteArray.empty,.int .i64 0,.int .i64 0] },
 some { size:=6,bytes:=64,agg:=true,cmp:=true,tk:=.struct [(0,1,false),(1,5,true)],zero:=[.str ByteArray.empty,.int .i64 0,.int .i64 0,.str ByteArray.empty,.int .i64 0,.int .i64 0] },
 some { size:=6,bytes:=64,agg:=true,cmp:=true,tk:=.struct [(0,1,false),(1,5,true)],zero:=[.str ByteArray.empty,.int .i64 0,.int .i64 0,.str ByteArray.empty,.int .i64 0,.int .i64 0] },
 some { size:=2,bytes:=40,agg:=true,cmp:=false,tk:=.struct [(0,1,false),(1,1,false)],zero:=[.str ByteArray.empty,.nils] },
 some { size:=2,bytes:=40,agg:=true,cmp:=false,tk:=.struct [(0,1,false),(1,1,false)],zero:=[.str ByteArray.empty,.nils] },
 yT0,
 yT0,
 yT0,
 yT1,
 some { size:=3,bytes:=32,agg:=true,cmp:=true,tk:=.struct [(0,1,false),(1,1,false),(2,1,false)],zero:=[.str ByteArray.empty,.bool false,.int .i64 0] },
 some { size:=3,bytes:=32,agg:=true,cmp:=true,tk:=.struct [(0,1,false),(1,1,false),(2,1,false)],zero:=[.str ByteArray.empty,.bool false,.int .i64 0] },
 yT0,
 yT0,
 yT0,
 yT0]
def tyOf_6:List (Option TyI):=[yT0,
 none,
 yT0,
 yT0,
 yT0,
 yT0,
 yT0,
 none,
 yT0,
 yT0,
 yT0,
 yT0,
 yT0,
 yT0,
 yT0,
 some { size:=1,bytes:=24,agg:=false,cmp:=false,tk:=.slice 81,zero:=[.nils] }]
def tyOf_7:List (Option TyI):=[none,
 yT0,
 none,
 yT0,
 yT0,
 yT0,
 yT4,
 yT0,
 yT0,
 yT0,
 yT0,
 yT0,
 yT0,
 yT0,
 yT0,
 yT0]
def tyOf_8:List (Option TyI):=[none,
 yT0,
 yT0,
 some { size:=1,bytes:=24,agg:=false,cmp:=false,tk:=.slice 3,zero:=[.nils] },
 none,
 yT0,
 some { size:=1,bytes:=24,agg:=false,cmp:=false,tk:=.slice 5,zero:=[.nils] },
 yT0,
 yT0,
 yT0,
 yT2,
 none,
 yT0,
 yT0,
 yT0,
 yT0]
def tyOf_9:List (Option TyI):=[yT0,
 some { size:=1,bytes:=4,agg:=false,cmp:=false,tk:=.int .u32,zero:=[.int .u32 0] },
 yT0,
 yT4,
 yT0,
 yT0,
 none,
 none,
 none,
 yT0,
 yT0,
 yT1,
 none,
 yT0,
 yT0,
 yT6]
def tyOf_10:List (Option TyI):=[yT6,
 none,
 yT0,
 yT0,
 yT4,
 yT0,
 yT0,
 yT0,
 yT1,
 yT0,
 yT0,
 yT0,
 none,
 some { size:=2,bytes:=2,agg:=true,cmp:=true,tk:=.struct [(0,1,false),(1,1,false)],zero:=[.int .u8 0,.int .u8 0] },
 some { size:=2,bytes:=2,agg:=true,cmp:=true,tk:=.struct [(0,1,false),(1,1,false)],zero:=[.int .u8 0,.int .u8 0] },
 some { size:=32,bytes:=32,agg:=true,cmp:=false,tk:=.array 16 174,zero:=[.int .u8 0,.int .u8 0,.int .u8 0,.int .u8 0,.int .u8 0,.int .u8 0,.int .u8 0,.int .u8 0,.int .u8 0,.int .u8 0,.int .u8 0,.int .u8 0,.int .u8 0,.int .u8 0,.int .u8 0,.int .u8 0,.int .u8 0,.int .u8 0,.int .u8 0,.int .u8 0,.int .u8 0,.int .u8 0,.int .u8 0,.int .u8 0,.int .u8 0,.int .u8 0,.int .u8 0,.int .u8 0,.int .u8 0,.int .u8 0,.int .u8 0,.int .u8 0] }]
def tyOf_11:List (Option TyI):=[yT0,
 yT0,
 yT0,
 yT0,
 yT0,
 yT1,
 none,
 yT0,
 yT0,
 yT0,
 yT2,
 none,
 yT0,
 yT1,
 yT0,
 yT0]
def tyOf_12:List (Option TyI):=[yT0,
 yT0,
 yT0,
 yT0,
 yT0,
 yT0,
 none,
 yT0,
 none,
 yT0,
 yT0,
 none,
 yT0,
 yT0,
 some { size:=3,bytes:=48,agg:=true,cmp:=false,tk:=.struct [(0,1,false),(1,1,false),(2,1,false)],zero:=[.str ByteArray.empty,.str ByteArray.empty,.lit .nilIface] },
 some { size:=3,bytes:=48,agg:=true,cmp:=false,tk:=.struct [(0,1,false),(1,1,false),(2,1,false)],zero:=[.str ByteArray.empty,.str ByteArray.empty,.lit .nilIface] }]
def tyOf_13:List (Option TyI):=[yT0,
 some { size:=24,bytes:=24,agg:=true,cmp:=false,tk:=.array 24 5,zero:=[.int .u8 0,.int .u8 0,.int .u8 0,.int .u8 0,.int .u8 0,.int .u8 0,.int .u8 0,.int .u8 0,.int .u8 0,.int .u8 0,.int .u8 0,.int .u8 0,.int .u8 0,.int .u8 0,.int .u8 0,.int .u8 0,.int .u8 0,.int .u8 0,.int .u8 0,.int .u8 0,.int .u8 0,.int .u8 0,.int .u8 0,.int .u8 0] },
 yT0,
 none,
 yT0,
 yT0,
 some { size:=1,bytes:=16,agg:=false,cmp:=false,tk:=.complex .f64,zero:=[.lit (.complex .f64 0 0)] },
 yT0,
 yT0,
 yT0,
 yT0,
 yT1,
 yT1,
 some { size:=1,bytes:=16,agg:=true,cmp:=true,tk:=.struct [(0,1,false)],zero:=[.str ByteArray.empty] },
 some { size:=1,bytes:=16,agg:=true,cmp:=true,tk:=.struct [(0,1,false)],zero:=[.str ByteArray.empty] },
 yT0]
def tyOf_14:List (Option TyI):=[some { size:=20,bytes:=160,agg:=true,cmp:=false,tk:=.array 20 147,zero:=[.int .u64 0,.int .u64 0,.int .u64 0,.int .u64 0,.int .u64 0,.int .u64 0,.int .u64 0,.int .u64 0,.int .u64 0,.int .u64 0,.int .u64 0,.int .u64 0,.int .u64 0,.int .u64 0,.int .u64 0,.int .u64 0,.int .u64 0,.int .u64 0,.int .u64 0,.int .u64 0] },
 none,
 some { size:=1,bytes:=8,agg:=false,cmp:=false,tk:=.float .f64,zero:=[.lit (.float .f64 0)] },
 some { size:=32,bytes:=32,agg:=true,cmp:=false,tk:=.array 32 5,zero:=[.int .u8 0,.int .u8 0,.int .u8 0,.int .u8 0,.int .u8 0,.int .u8 0,.int .u8 0,.int .u8 0,.int .u8 0,.int .u8 0,.int .u8 0,.int .u8 0,.int .u8 0,.int .u8 0,.int .u8 0,.int .u8 0,.int .u8 0,.int .u8 0,.int .u8 0,.int .u8 0,.int .u8 0,.int .u8 0,.int .u8 0,.int .u8 0,.int .u8 0,.int .u8 0,.int .u8 0,.int .u8 0,.int .u8 0,.int .u8 0,.int .u8 0,.int .u8 0] },
 none,
 some { size:=4,bytes:=40,agg:=true,cmp:=false,tk:=.struct [(0,1,false),(1,1,false),(2,1,false),(3,1,false)],zero:=[.lit (.pointer none),.lit (.pointer none),.lit (.pointer none),.str ByteArray.empty] },
 some { size:=4,bytes:=40,agg:=true,cmp:=false,tk:=.struct [(0,1,false),(1,1,false),(2,1,false),(3,1,false)],zero:=[.lit (.pointer none),.lit (.pointer none),.lit (.pointer none),.str ByteArray.empty] },
 some { size:=0,bytes:=0,agg:=true,cmp:=false,tk:=.array 0 16,zero:=[] },
 some { size:=0,bytes:=0,agg:=true,cmp:=false,tk:=.struct [(0,0,true)],zero:=[] },
 some { size:=0,bytes:=0,agg:=true,cmp:=false,tk:=.struct [(0,0,true)],zero:=[] },
 yT0,
 yT3,
 yT3,
 yT0,
 yT7,
 yT7]
def tyOf_15:List (Option TyI):=[some { size:=11,bytes:=48,agg:=true,cmp:=false,tk:=.struct [(0,1,false),(1,1,false),(2,1,false),(3,1,false),(4,1,false),(5,1,false),(6,1,false),(7,1,false),(8,1,false),(9,1,false),(10,1,false)],zero:=[.int .u64 0,.int .u64 0,.int .u32 0,.int .u8 0,.int .u8 0,.int .u8 0,.int .u8 0,.lit .nilFunc,.lit (.pointer none),.int .i32 0,.int .i32 0] },
 some { size:=11,bytes:=48,agg:=true,cmp:=false,tk:=.struct [(0,1,false),(1,1,false),(2,1,false),(3,1,false),(4,1,false),(5,1,false),(6,1,false),(7,1,false),(8,1,false),(9,1,false),(10,1,false)],zero:=[.int .u64 0,.int .u64 0,.int .u32 0,.int .u8 0,.int .u8 0,.int .u8 0,.int .u8 0,.lit .nilFunc,.lit (.pointer none),.int .i32 0,.int .i32 0] },
 yT1]
def tyOf_all:List (List (Option TyI)):=[tyOf_0,tyOf_1,tyOf_2,tyOf_3,tyOf_4,tyOf_5,tyOf_6,tyOf_7,tyOf_8,tyOf_9,tyOf_10,tyOf_11,tyOf_12,tyOf_13,tyOf_14,tyOf_15]
theorem ty_ok:allB Go.Proofs.Tryz.prog 0 tyOf_all=true:=by decide +kernel
end Go.Sym
