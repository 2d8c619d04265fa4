import Derived.Test.YtkgjbipfhhjlpaaGreatDoorMf2
import Derived.Lib.AppendIntMem
import Derived.StillTailTactics
set_option linter.unusedVariables false
set_option linter.unusedSimpArgs false
set_option maxRecDepth 100000
set_option maxHeartbeats 32000000
namespace Go.Proofs.YtkgjbipfhhjlpaaGreatDoor
section
open Go.Lib
def J6 (c:UInt8):List UInt8→List (List UInt8)
 |[]=>[[]]
 |x::r=>if x=c then []::J6 c r else match J6 c r with
  |[]=>[[x]]
  |h::t=>(x::h)::t
theorem Jko (c:UInt8):∀l,J6 c l≠[]
 |[]=>by simp[J6]
 |x::r=>by
  unfold J6
  split
  ·simp
  ·split<;>simp
theorem Jby (c:UInt8):index [] [c]=-1:=by simp[index]
theorem Ja5 (c x:UInt8)(r:List UInt8):index (x::r) [c]=if x=c then 0 else if index r [c]=-1 then-1 else index r [c]+1:=by
 rw[index]
 by_cases h:x=c
 ·subst h;simp
 ·have h':([c].isPrefixOf (x::r))=false:=by
   show(c==x&&List.isPrefixOf [] r)=false
   have:(c==x)=false:=by simpa using fun e:c=x=>h e.symm
   rw[this];rfl
  rw[h',if_neg h]
  simp
theorem Jd7 (c:UInt8):∀l,index l [c]=-1→J6 c l=[l]
 |[],_=>rfl
 |x::r,h=>by
  rw[Ja5] at h
  by_cases hx:x=c
  ·rw[if_pos hx] at h;exact absurd h (by decide)
  ·rw[if_neg hx] at h
   have hr:index r [c]=-1:=by
    by_cases e:index r [c]=-1
    ·exact e
    ·rw[if_neg e] at h;have:=index_ge r [c];omega
   rw[J6,if_neg hx,Jd7 c r hr]
theorem JfN (c:UInt8):∀(l:List UInt8) (i:Nat),index l [c]=(i:Int)→J6 c l=l.take i::J6 c (l.drop (i+1))
 |[],i,h=>by rw[Jby] at h;omega
 |x::r,i,h=>by
  rw[Ja5] at h
  by_cases hx:x=c
  ·rw[if_pos hx] at h
   obtain rfl:i=0:=by omega
   rw[J6,if_pos hx];rfl
  ·rw[if_neg hx] at h
   by_cases e:index r [c]=-1
   ·rw[if_pos e] at h;omega
   ·rw[if_neg e] at h
    have hge:=index_ge r [c]
    obtain⟨j,rfl⟩:∃j,i=j+1:=⟨i-1,by omega⟩
    have hj:index r [c]=(j:Int):=by omega
    rw[J6,if_neg hx,JfN c r j hj]
    rfl
theorem Jao (c:UInt8):∀(fuel:Nat) (s:List UInt8),s.length<fuel→splitK [c] 0 (countFrom [c] fuel s) s=J6 c s
 |0,s,h=>absurd h (Nat.not_lt_zero _)
 |fuel+1,s,h=>by
  rw[countFrom]
  by_cases e:index s [c]=-1
  ·rw[if_pos (by simpa using e),Jd7 c s e];rfl
  ·rw[if_neg (by simpa using e)]
   have hge:=index_ge s [c]
   obtain⟨i,hi⟩:∃i:Nat,index s [c]=(i:Int):=⟨(index s [c]).toNat,by omega⟩
   rw[JfN c s i hi,hi,show 1+countFrom [c] fuel (s.drop ((i:Int).toNat+[c].length))=countFrom [c] fuel (s.drop (i+1))+1 by simp[Nat.add_comm]]
   rw[splitK,hi,if_neg (by simp)]
   have hs:s≠[]:=by rintro rfl;rw[Jby] at hi;omega
   have hpos:0<s.length:=List.length_pos_iff.2 hs
   have:=Jao c fuel (s.drop (i+1)) (by rw[List.length_drop];omega)
   simp only[Int.toNat_natCast,Nat.add_zero,List.length_singleton]
   rw[this]
theorem Jia (c:UInt8)(s:List UInt8):split s [c]=J6 c s:=Jao c _ s (Nat.lt_succ_self _)
def XU (c:UInt8):Nat:=
 if 65≤c.toNat∧c.toNat≤70 then c.toNat-55 else if 97≤c.toNat∧c.toNat≤102 then c.toNat-87 else if 48≤c.toNat∧c.toNat≤57 then c.toNat-48 else 99
def JdQ (base most:Nat):Nat→List UInt8→Option Nat
 |n,[]=>some n
 |n,c::r=>if base≤XU c∨most≤n*base+XU c then none else JdQ base most (n*base+XU c) r
def Xv (base most:Nat)(l:List UInt8):Option Nat:=if l=[] then none else JdQ base most 0 l
theorem Jc6 (base most:Nat):∀(l:List UInt8) (n:Nat) (r:List UInt8),JdQ base most n (l++r)=(JdQ base most n l).bind fun m=>JdQ base most m r
 |[],n,r=>rfl
 |c::l,n,r=>by
  rw[List.cons_append,JdQ,JdQ]
  split
  ·rfl
  ·exact Jc6 base most l _ r
theorem JgW (base most:Nat):∀(l:List UInt8) (n m:Nat),n<most→JdQ base most n l=some m→m<most
 |[],n,m,h,e=>by simp only[JdQ,Option.some.injEq] at e;omega
 |c::l,n,m,h,e=>by
  rw[JdQ] at e
  split at e
  ·cases e
  ·exact JgW base most l _ m (by omega) e
theorem Jb2 (d:Nat)(h:d<10):XU (UInt8.ofNat (48+d))=d:=by
 have:d=0∨d=1∨d=2∨d=3∨d=4∨d=5∨d=6∨d=7∨d=8∨d=9:=by omega
 rcases this with rfl|rfl|rfl|rfl|rfl|rfl|rfl|rfl|rfl|rfl<;>decide
theorem Jcu (u:Nat):decDigits u≠[]:=by
 rw[decDigits];split<;>simp
theorem JhE (most:Nat):∀(k u:Nat),u≤k→u<most→JdQ 10 most 0 (decDigits u)=some u
 |0,u,hk,hm=>by
  obtain rfl:u=0:=by omega
  rw[decDigits,dif_pos (by omega),JdQ,Jb2 0 (by omega),if_neg (by omega)];rfl
 |k+1,u,hk,hm=>by
  rw[decDigits]
  by_cases h:u<10
  ·rw[dif_pos h,JdQ,Jb2 u h,if_neg (by omega)];simp[JdQ]
  ·rw[dif_neg h,Jc6,JhE most k (u/10) (by omega) (by omega)]
   simp only[Option.bind]
   rw[JdQ,Jb2 _ (by omega),if_neg (by omega),JdQ]
   congr 1
   omega
def JdR (most:Nat)(l:List UInt8):Option Nat:=match Xv 10 most l with
 |some n=>if decDigits n=l then some n else none
 |none=>none
theorem Q9 {most:Nat}{l:List UInt8}{n:Nat}:JdR most l=some n↔n<most∧l=decDigits n:=by
 unfold JdR
 constructor
 ·intro h
  split at h
  ·rename_i m hm
   split at h
   ·rename_i hd
    cases h
    refine⟨?_,hd.symm⟩
    unfold Xv at hm
    split at hm
    ·cases hm
    ·rcases Nat.lt_or_ge 0 most with h0|h0
     ·exact JgW 10 most l 0 _ h0 hm
     ·exfalso
      obtain rfl:most=0:=by omega
      cases l with
      |nil=>contradiction
      |cons c r=>rw[JdQ,if_pos (.inr (Nat.zero_le _))] at hm;cases hm
   ·cases h
  ·cases h
 ·rintro⟨h1,rfl⟩
  have:Xv 10 most (decDigits n)=some n:=by
   rw[Xv,if_neg (Jcu n),JhE most n n (JnA _) h1]
  rw[this]
  simp
theorem Zs:∀(l:List UInt8) (acc:Nat) (r:List UInt8) (m:Nat),parseUint10 acc l=.ok m→parseUint10 acc (l++r)=parseUint10 m r
 |[],acc,r,m,h=>by simp only[parseUint10,NumEnd.ok.injEq] at h;subst h;rfl
 |c::l,acc,r,m,h=>by
  rw[List.cons_append,parseUint10]
  rw[parseUint10] at h
  split
  ·rename_i hc
   rw[if_pos hc] at h
   split
   ·rename_i h2;rw[if_pos h2] at h;cases h
   ·rename_i h2
    rw[if_neg h2] at h
    split
    ·rename_i h3;rw[if_pos h3] at h;cases h
    ·rename_i h3;rw[if_neg h3] at h;exact Zs l _ r m h
  ·rename_i hc;rw[if_neg hc] at h;cases h
theorem ZG (d:Nat)(h:d<10):(UInt8.ofNat (48+d)).toNat=48+d:=by
 simp[UInt8.toNat_ofNat'];omega
theorem Jap:∀(k u:Nat),u≤k→u<9223372036854775808→parseUint10 0 (decDigits u)=.ok u
 |0,u,hk,hm=>by
  obtain rfl:u=0:=by omega
  rw[decDigits,dif_pos (by omega)];decide
 |k+1,u,hk,hm=>by
  rw[decDigits]
  by_cases h:u<10
  ·rw[dif_pos h,parseUint10,ZG u h,if_pos (by omega),if_neg (by omega),if_neg (by omega),parseUint10]
   congr 1;omega
  ·rw[dif_neg h,Zs _ _ _ _ (Jap k (u/10) (by omega) (by omega)),parseUint10,ZG _ (by omega),if_pos (by omega),if_neg (by omega),if_neg (by omega),parseUint10]
   congr 1;omega
theorem JdS (u:Nat):∀k,u≤k→∃(d:Nat) (r:List UInt8),d<10∧decDigits u=UInt8.ofNat (48+d)::r:=by
 intro k
 induction k generalizing u with
 |zero=>intro h;obtain rfl:u=0:=by omega
        exact⟨0,[],by omega,by rw[decDigits,dif_pos (by omega)]⟩
 |succ k ih=>
  intro h
  rw[decDigits]
  by_cases h':u<10
  ·rw[dif_pos h'];exact⟨u,[],h',rfl⟩
  ·rw[dif_neg h']
   obtain⟨d,r,hd,e⟩:=ih (u/10) (by omega)
   exact⟨d,r++[UInt8.ofNat (48+u%10)],hd,by rw[e];rfl⟩
theorem Jkp (u:Nat)(hm:u<9223372036854775808):atoiAll (decDigits u)=.ok (u:Int):=by
 obtain⟨d,r,hd,e⟩:=JdS u u (JnA _)
 have hp:=Jap u u (JnA _) hm
 rw[e] at hp⊢
 have ht:=ZG d hd
 simp only[atoiAll,ht]
 rw[if_neg (by omega:¬(48+d=43∨48+d=45))]
 simp only[parseMag]
 rw[if_neg (by simp),hp]
 simp only
 rw[if_neg (by omega),if_neg (by omega),if_neg (by omega)]
theorem Ji2 (most:Nat)(hmost:most≤1000000)(l:List UInt8):JdR most l=match atoiAll l with
 | .ok v=>if 0≤v∧v<most∧itoa v=l then some v.toNat else none
 |_=>none:=by
 cases h:JdR most l with
 |some n=>
  obtain⟨h1,rfl⟩:=Q9.1 h
  rw[Jkp n (by omega)]
  simp only
  rw[if_pos ⟨by omega,by omega,by unfold itoa;rw[if_neg (by omega)];simp⟩]
  simp
 |none=>
  cases hv:atoiAll l with
  |ok v=>
   simp only
   by_cases hc:0≤v∧v<most∧itoa v=l
   ·exfalso
    obtain⟨h0,h1,h2⟩:=hc
    have:JdR most l=some v.toNat:=Q9.2 ⟨by omega,by rw[←h2];unfold itoa;rw[if_neg (by omega)]⟩
    rw[this] at h;cases h
   ·rw[if_neg hc]
  |range=>rfl
  |_=>rfl
def Ji3 (g:List UInt8):Option Nat:=if g.length≤4 then Xv 16 65536 g else none
def Qi (s:List UInt8):Option (List Nat):=if s=[] then some [] else (J6 58 s).mapM Ji3
def JhF (s:List UInt8):Option (List Nat):=
 if index s [58,58]=-1 then (Qi s).bind fun l=>if l.length=8 then some l else none
 else (Qi (s.take (index s [58,58]).toNat)).bind fun l=>(Qi (s.drop ((index s [58,58]).toNat+2))).bind fun m=>
  if l.length+m.length≤7 then some (l++List.replicate (8-l.length-m.length) 0++m) else none
def JgX (s:List UInt8):Option (List Nat):=if (J6 46 s).length=4 then (J6 46 s).mapM (JdR 256) else none
def Jl2 (z:Nat→Bool)(i:Nat):Nat→Nat→Nat×Nat→Nat×Nat
 |0,_,ft=>ft
 |f+1,n,ft=>if z n then Jl2 z i f (n+1) (if 2≤n+1-i∧ft.2-ft.1<n+1-i then (i,n+1) else ft) else ft
def JfO (z:Nat→Bool):Nat→Nat→Nat×Nat→Nat×Nat
 |0,_,ft=>ft
 |f+1,i,ft=>JfO z f (i+1) (Jl2 z i (8-i) i ft)
def JN (z:Nat→Bool):Nat×Nat:=JfO z 8 0 (0,0)
abbrev Tok:=Option Nat
def JgY:List Nat→List Tok
 |[]=>[]
 |[i]=>[some i]
 |i::l=>some i::none::JgY l
def Ji4 (z:Nat→Bool):List Tok:=
 if (JN z).1=(JN z).2 then JgY (List.range 8) else JgY ((List.range 8).take (JN z).1)++[none,none]++JgY ((List.range 8).drop (JN z).2)
def zof (l:List Bool)(i:Nat):Bool:=l.getD i false
theorem JgZ:∀a b c d e f g h:Bool,(JN (zof [a,b,c,d,e,f,g,h])).1≤(JN (zof [a,b,c,d,e,f,g,h])).2∧(JN (zof [a,b,c,d,e,f,g,h])).2≤8:=by decide
def Jb3 (G:Nat→List UInt8):List Tok→List UInt8
 |[]=>[]
 |none::l=>58::Jb3 G l
 |some i::l=>G i++Jb3 G l
theorem Zt (G:Nat→List UInt8):∀a b:List Tok,Jb3 G (a++b)=Jb3 G a++Jb3 G b
 |[],b=>rfl
 |none::a,b=>by rw[List.cons_append,Jb3,Jb3,Zt G a b];rfl
 |some i::a,b=>by rw[List.cons_append,Jb3,Jb3,Zt G a b,List.append_assoc]
def Xa (c:UInt8):List (List UInt8)→List UInt8
 |[]=>[]
 |[p]=>p
 |p::l=>p++c::Xa c l
theorem Xj (c:UInt8)(p q:List UInt8)(l:List (List UInt8)):Xa c (p::q::l)=p++c::Xa c (q::l):=rfl
theorem Jbz (G:Nat→List UInt8):∀l:List Nat,Jb3 G (JgY l)=Xa 58 (l.map G)
 |[]=>rfl
 |[i]=>by simp[JgY,Jb3,Xa]
 |i::j::l=>by
  have:=Jbz G (j::l)
  rw[JgY]
  ·simp only[Jb3,List.map_cons,Xj]
   rw[this];rfl
  ·simp
theorem Jd8 (c:UInt8):∀p:List UInt8,c∉p→J6 c p=[p]
 |[],_=>rfl
 |x::r,h=>by
  simp only[List.mem_cons,not_or] at h
  rw[J6,if_neg (fun e=>h.1 e.symm),Jd8 c r h.2]
theorem JfP (c:UInt8):∀(p r:List UInt8),c∉p→J6 c (p++c::r)=p::J6 c r
 |[],r,_=>by rw[List.nil_append,J6,if_pos rfl]
 |x::p,r,h=>by
  simp only[List.mem_cons,not_or] at h
  rw[List.cons_append,J6,if_neg (fun e=>h.1 e.symm),JfP c p r h.2]
theorem Jd9 (c:UInt8):∀l:List (List UInt8),l≠[]→(∀p∈l,c∉p)→J6 c (Xa c l)=l
 |[],h,_=>absurd rfl h
 |[p],_,h=>by rw[Xa];exact Jd8 c p (h p (by simp))
 |p::q::l,_,h=>by
  rw[Xj,JfP c p _ (h p (by simp)),Jd9 c (q::l) (by simp) (fun p' hp=>h p' (by simp[hp]))]
open Go.RowKit
def Jke (B:Nat→Int)(k:Nat):Int:=B (2*k)*256+B (2*k+1)
theorem Ji5 {B:Nat→Int}(hB:U8 B)(k:Nat):0≤Jke B k∧Jke B k<65536:=by
 have h1:=hB (2*k)
 have h2:=hB (2*k+1)
 unfold Jke;omega
theorem Ji6 (a b i m:Nat)(hm:m=2^i)(h:a<m):(b*m) ||| a=b*m+a:=by
 subst hm
 rw[←Nat.shiftLeft_eq,Nat.shiftLeft_add_eq_or_of_lt h]
theorem Jlv (x y:Int)(h0:0≤x)(h1:x<256)(h2:0≤y)(h3:y<256):bits BinOp.or IntKind.u64 (x*256) y=x*256+y:=by
 obtain⟨n,rfl⟩:=Int.eq_ofNat_of_zero_le h0
 obtain⟨m,rfl⟩:=Int.eq_ofNat_of_zero_le h2
 rw[show((n:Int)*256)=((n*256:Nat):Int) by omega,u64_or_nat (n*256) m (by omega) (by omega),Ji6 m n 8 256 (by decide) (by omega)]
 omega
theorem JfQ (six:Bool)(B:Nat→Int)(hB:U8 B)(k:Nat)(hk:k<8)(w:World):Calls Tryz.prog 131 #[adV six B,.int .i64 (k:Int)] w (Jk w (.int .u64 (Jke B k))):=by
 have HX:JZ (w.alloc (.cells (JnH six B) 27)) w.heap.size 27 six B:=JZ.made w _ six B
 have HB:=Jnv (Below.all (Jny w.heap.size w) (.cells (JnH six B) 27))
 have hcx:=HX.cell (2*k) (by omega)
 have hcy:=HX.cell (2*k+1) (by omega)
 have hx:=hB (2*k)
 have hy:=hB (2*k+1)
 have HG:Hid (Jke B k=B (2*k)*256+B (2*k+1)):=Jnv rfl
 clear HX
 unfold adV
 go_enter Tryz.func131,Tryz.ntmps131
 go_wp2_with fail
 generalize w.alloc (.cells (JnH six B) 27)=w1 at*
 generalize B (2*k)=x at*
 generalize B (2*k+1)=y at*
 go_region
 go_wp2_with fail
 go_ret
 exact .mk (by rw[Jlv x y hx.1 hx.2 hy.1 hy.2,HG.out];rfl) HB.out.drew
theorem Jg0 (six:Bool)(B:Nat→Int)(hB:U8 B)(z:Nat→Bool)(hz:∀k,k<8→z k=(Jke B k==0))(w:World):
 Calls Tryz.prog 132 #[adV six B] w (Jk w (.tuple #[.int .i64 ((JN z).1:Nat),.int .i64 ((JN z).2:Nat)])):=by
 have HX:Hid (JZ (w.alloc (.cells (JnH six B) 27)) w.heap.size 27 six B):=Jnv (JZ.made w _ six B)
 have HB:=Jnv (Below.all (Jny w.heap.size w) (.cells (JnH six B) 27))
 have HG:=Jnv (fun k hk w=>JfQ six B hB k hk w)
 have HZ:=Jnv hz
 clear hB hz
 unfold adV at*
 go_enter Tryz.func132,Tryz.ntmps132
 go_wp2_with fail
 generalize w.alloc (.cells (JnH six B) 27)=w1 at*
 go_step3
 go_wp2_with fail
 go_step3
 go_wp2_with fail
 go_loopg [2,3,4] 8 (fun g u2 u3 u4 wr=>∃(i f t:Nat),i+g=8∧f≤t∧t≤8∧u2=.int .i64 f∧u3=.int .i64 t∧u4=.int .i64 i∧Hid (JfO z (8-i) i (f,t)=JN z)∧Hid (JZ wr w.heap.size 27 six B)∧Hid (Below w.heap.size w wr))
 case atStart=>exact⟨0,0,0,by omega,by omega,by omega,rfl,rfl,rfl,Jnv rfl,HX,HB⟩
 case round=>
  obtain⟨i,f,t,hi,hft,ht,rfl,rfl,rfl,HN,HX,HW⟩:=hrel
  by_cases hlt:i<8
  ·have HN2:Hid (JfO z (7-i) (i+1) (Jl2 z i (8-i) i (f,t))=JN z):=Jnv (by rw[←HN.out,show JfO z (8-i) i (f,t)=JfO z (7-i+1) i (f,t) by rw[show 8-i=7-i+1 by omega]];rfl)
   have hd:decide ((i:Int)<8)=true:=by simp;omega
   go_wp2_with fail
   clear hd
   go_loopg [2,3,5] (8-i) (fun h u2 u3 u5 wr=>∃(n f t:Nat),n+h=8∧i≤n∧f≤t∧t≤8∧u2=.int .i64 f∧u3=.int .i64 t∧u5=.int .i64 n∧Hid (JfO z (7-i) (i+1) (Jl2 z i (8-n) n (f,t))=JN z)∧Hid (JZ wr w.heap.size 27 six B)∧Hid (Below w.heap.size w wr))
   case atStart=>exact⟨i,f,t,by omega,by omega,hft,ht,rfl,rfl,rfl,HN2,HX,HW⟩
   case round=>
    obtain⟨n,f,t,hn,hin,hft,ht,rfl,rfl,rfl,HN,HX,HW⟩:=hrel
    by_cases hlt2:n<8
    ·have hpp:=HX.out.part
     have HGn:=Jnv (HG.out n hlt2)
     have hzn:=HZ.out n hlt2
     have HS:Hid (Jl2 z i (8-n) n (f,t)=if z n then Jl2 z i (8-(n+1)) (n+1) (if 2≤n+1-i∧t-f<n+1-i then (i,n+1) else (f,t)) else (f,t)):=Jnv (by rw[show 8-n=8-(n+1)+1 by omega];rfl)
     generalize Jke B n=g at*
     go_wp2_with fail
     refine Jnx (HGn.out _) ?_
     rintro e w2 ⟨rfl,hb2⟩
     have HX2:=Jnv (HX.out.below hb2)
     have HW2:=Jnv (Jno HW.out hb2)
     clear hpp hb2 HX HW
     by_cases hg:g=0
     ·have hzt:z n=true:=by rw[hzn,hg];rfl
      subst hg
      rw[hzt,if_pos rfl] at HS
      have HS2:=HS.out
      clear HS hzn hzt HGn
      by_cases h2:2≤n+1-i
      ·have h2':(2:Int)≤n+1-i:=by omega
       by_cases h3:t-f<n+1-i
       ·have h3':(t:Int)-f<n+1-i:=by omega
        rw[if_pos ⟨h2,h3⟩] at HS2
        have HS3:=Jnv HS2
        clear HS2 h2 h3
        go_wp2_with fail
        go_roundg (8-(n+1))
        case measure=>omega
        case rel=>exact⟨n+1,i,n+1,by omega,by omega,by omega,by omega,rfl,by go_num,by go_num,Jnv (by rw[←HS3.out];exact HN.out),HX2,HW2⟩
       ·have h3':¬((n:Int)+1-i>t-f):=by omega
        have h3'':¬((t:Int)-f<n+1-i):=by omega
        rw[if_neg (fun h=>h3 h.2)] at HS2
        have HS3:=Jnv HS2
        clear HS2 h2 h3
        go_wp2_with fail
        go_roundg (8-(n+1))
        case measure=>omega
        case rel=>exact⟨n+1,f,t,by omega,by omega,by omega,by omega,rfl,rfl,by go_num,Jnv (by rw[←HS3.out];exact HN.out),HX2,HW2⟩
      ·have h2':¬((2:Int)≤n+1-i):=by omega
       rw[if_neg (fun h=>h2 h.1)] at HS2
       have HS3:=Jnv HS2
       clear HS2 h2
       go_wp2_with fail
       go_roundg (8-(n+1))
       case measure=>omega
       case rel=>exact⟨n+1,f,t,by omega,by omega,by omega,by omega,rfl,rfl,by go_num,Jnv (by rw[←HS3.out];exact HN.out),HX2,HW2⟩
     ·have hzt:z n=false:=by rw[hzn];simpa using hg
      rw[hzt,if_neg (by simp)] at HS
      clear hzn hzt HGn
      go_wp2_with fail
      go_roundg (8-(i+1))
      case measure=>omega
      case rel=>exact⟨i+1,f,t,by omega,by omega,by omega,rfl,rfl,by go_num,Jnv (by rw[←HN.out,HS.out,show 8-(i+1)=7-i by omega]),HX2,HW2⟩
    ·obtain rfl:n=8:=by omega
     have HN3:Hid (JfO z (7-i) (i+1) (f,t)=JN z):=HN
     go_wp2_with fail
     go_roundg (8-(i+1))
     case measure=>omega
     case rel=>exact⟨i+1,f,t,by omega,by omega,by omega,rfl,rfl,by go_num,Jnv (by rw[←HN3.out,show 8-(i+1)=7-i by omega]),HX,HW⟩
  ·obtain rfl:i=8:=by omega
   have HN3:Hid ((f,t)=JN z):=HN
   go_wp2_with fail
   go_ret2
   exact .mk (by rw[←HN3.out];rfl) HW.out
open Go.RowKit
theorem JmE:IntKind.u64.wrap (-16)=18446744073709551600:=by decide
theorem JmF:bits BinOp.and IntKind.u64 16 18446744073709551600=16:=by kernel_rfl
theorem JmG:IntKind.u64.wrap (16*285870213051353865)=4573923408821661840:=by decide
theorem JmH:(4573923408821661840:Int)/288230376151711744=15:=by decide
theorem Jlw (w:World)(hb:w.cell? ⟨7,15,none⟩=some (.int .u8 4)):Calls Tryz.prog 239 #[.int .u64 16] w (fun e w'=>e=.returned (.int .i64 4)∧w=w'):=by
 have h1:=JmE
 have h2:=JmF
 have h3:=JmG
 have h4:=JmH
 go_enter Tryz.func239,Tryz.ntmps239
 go_wp2_with fail
 go_ret
 exact⟨rfl,rfl⟩
theorem JmI (w:World)(hb:w.cell? ⟨7,15,none⟩=some (.int .u8 4)):Calls Tryz.prog 232 #[.int .u64 16] w (fun e w'=>e=.returned (.int .i64 4)∧w=w'):=by
 go_enter Tryz.func232,Tryz.ntmps232
 go_wp2_with fail
 refine Jnx (Jlw w hb) ?_
 rintro e w2 ⟨rfl,rfl⟩
 go_wp2_with fail
 go_ret
 exact⟨rfl,rfl⟩
theorem JmJ (w:World):Calls Tryz.prog 231 #[.int .i64 16] w (fun e w'=>e=.returned (.bool true)∧w=w'):=by
 have h1:bits BinOp.and IntKind.i64 16 15=0:=by kernel_rfl
 go_enter Tryz.func231,Tryz.ntmps231
 go_wp2_with fail
 go_ret
 exact⟨rfl,rfl⟩
open Go.RowKit
structure Env (w:World):Prop where
 len:∃m,w.cell? ⟨0,0,none⟩=some (.int .i64 m)
 syn:∃te pe,w.cell? ⟨1,0,none⟩=some (.iface te pe)
 rng:∃te pe,w.cell? ⟨2,0,none⟩=some (.iface te pe)
 tab:Lib.TabIs Tryz.prog w "internal/strconv.uint64pow10" .u64 Lib.pow10Tab
 bits:w.cell? ⟨7,15,none⟩=some (.int .u8 4)
theorem Env.below {w w':World}(h:Env w)(hb:Below w.heap.size w w'):Env w':=by
 obtain⟨m,hm⟩:=h.len
 obtain⟨t1,p1,h1⟩:=h.syn
 obtain⟨t2,p2,h2⟩:=h.rng
 exact⟨⟨m,(hb.cell (p:=⟨_,_,none⟩) (World.block_lt_of_cell? w _ hm)).trans hm⟩,⟨t1,p1,(hb.cell (p:=⟨_,_,none⟩) (World.block_lt_of_cell? w _ h1)).trans h1⟩,
  ⟨t2,p2,(hb.cell (p:=⟨_,_,none⟩) (World.block_lt_of_cell? w _ h2)).trans h2⟩,Joins.tab_stays (g:=3) (by kernel_rfl) h.tab hb (JnA _),(hb.cell (p:=⟨_,_,none⟩) (World.block_lt_of_cell? w _ h.bits)).trans h.bits⟩
open Go.RowKit
def hexc (d:Nat):UInt8:=if d<10 then UInt8.ofNat (48+d) else UInt8.ofNat (87+d)
def XS (b u:Nat):List UInt8:=if h:u<b∨b<2 then [hexc u] else XS b (u/b)++[hexc (u%b)]
termination_by u
decreasing_by exact Nat.div_lt_self (by omega) (by omega)
theorem JcO:∀(k u:Nat),u≤k→XS 10 u=Lib.decDigits u
 |0,u,h=>by
  obtain rfl:u=0:=by omega
  rw[XS,dif_pos (by omega),Lib.decDigits,dif_pos (by omega)];rfl
 |k+1,u,h=>by
  rw[XS,Lib.decDigits]
  by_cases hu:u<10
  ·rw[dif_pos (.inl hu),dif_pos hu,hexc,if_pos hu]
  ·rw[dif_neg (by omega),dif_neg hu,JcO k (u/10) (by omega),hexc,if_pos (by omega)]
theorem Jaq (s:ByteArray):s.toList=s.data.toList:=ByteArray.toList_eq s
theorem ZV (b:Nat):∀(k u:Nat),u≤k→(XS b u).length≤u+1
 |0,u,h=>by
  obtain rfl:u=0:=by omega
  rw[XS];split
  ·simp
  ·rename_i h';simp only[not_or,Nat.not_lt] at h';omega
 |k+1,u,h=>by
  rw[XS];split
  ·simp
  ·rename_i h'
   simp only[not_or,Nat.not_lt] at h'
   have hlt:u/b<u:=Nat.div_lt_self (by omega) (by omega)
   have:=ZV b k (u/b) (by omega)
   rw[List.length_append,List.length_singleton]
   omega
theorem JfR (a b:List UInt8)(ha:a.length≤100000)(hb:b.length≤100000)(w:World):(binOp .add 9 (.string ⟨a.toArray⟩) (.string ⟨b.toArray⟩)).run Tryz.prog w=.ok (.string ⟨(a++b).toArray⟩) w:=by
 have e:(⟨a.toArray⟩:ByteArray)++⟨b.toArray⟩=⟨(a++b).toArray⟩:=by
  apply ByteArray.ext
  simp
 have h:=run_string_add_sum (P:=Tryz.prog) w ⟨a.toArray⟩ ⟨b.toArray⟩ (by simp[ByteArray.size];omega)
 rw[e] at h
 simpa[binOp] using h
theorem JfS (w:World):(Instr.slice 9 (.string ⟨#[48,49,50,51,52,53,54,55,56,57,97,98,99,100,101,102]⟩) (some (.int .i64 ((0:Nat):Int))) (some (.int .i64 (((0:Nat):Int)+1))) none).run Tryz.prog w=.ok (.string ⟨#[hexc 0]⟩) w:=by kernel_rfl
theorem JfT (w:World):(Instr.slice 9 (.string ⟨#[48,49,50,51,52,53,54,55,56,57,97,98,99,100,101,102]⟩) (some (.int .i64 ((1:Nat):Int))) (some (.int .i64 (((1:Nat):Int)+1))) none).run Tryz.prog w=.ok (.string ⟨#[hexc 1]⟩) w:=by kernel_rfl
theorem JfU (w:World):(Instr.slice 9 (.string ⟨#[48,49,50,51,52,53,54,55,56,57,97,98,99,100,101,102]⟩) (some (.int .i64 ((2:Nat):Int))) (some (.int .i64 (((2:Nat):Int)+1))) none).run Tryz.prog w=.ok (.string ⟨#[hexc 2]⟩) w:=by kernel_rfl
theorem JfV (w:World):(Instr.slice 9 (.string ⟨#[48,49,50,51,52,53,54,55,56,57,97,98,99,100,101,102]⟩) (some (.int .i64 ((3:Nat):Int))) (some (.int .i64 (((3:Nat):Int)+1))) none).run Tryz.prog w=.ok (.string ⟨#[hexc 3]⟩) w:=by kernel_rfl
theorem JfW (w:World):(Instr.slice 9 (.string ⟨#[48,49,50,51,52,53,54,55,56,57,97,98,99,100,101,102]⟩) (some (.int .i64 ((4:Nat):Int))) (some (.int .i64 (((4:Nat):Int)+1))) none).run Tryz.prog w=.ok (.string ⟨#[hexc 4]⟩) w:=by kernel_rfl
theorem JfX (w:World):(Instr.slice 9 (.string ⟨#[48,49,50,51,52,53,54,55,56,57,97,98,99,100,101,102]⟩) (some (.int .i64 ((5:Nat):Int))) (some (.int .i64 (((5:Nat):Int)+1))) none).run Tryz.prog w=.ok (.string ⟨#[hexc 5]⟩) w:=by kernel_rfl
theorem JfY (w:World):(Instr.slice 9 (.string ⟨#[48,49,50,51,52,53,54,55,56,57,97,98,99,100,101,102]⟩) (some (.int .i64 ((6:Nat):Int))) (some (.int .i64 (((6:Nat):Int)+1))) none).run Tryz.prog w=.ok (.string ⟨#[hexc 6]⟩) w:=by kernel_rfl
theorem JfZ (w:World):(Instr.slice 9 (.string ⟨#[48,49,50,51,52,53,54,55,56,57,97,98,99,100,101,102]⟩) (some (.int .i64 ((7:Nat):Int))) (some (.int .i64 (((7:Nat):Int)+1))) none).run Tryz.prog w=.ok (.string ⟨#[hexc 7]⟩) w:=by kernel_rfl
theorem Jf0 (w:World):(Instr.slice 9 (.string ⟨#[48,49,50,51,52,53,54,55,56,57,97,98,99,100,101,102]⟩) (some (.int .i64 ((8:Nat):Int))) (some (.int .i64 (((8:Nat):Int)+1))) none).run Tryz.prog w=.ok (.string ⟨#[hexc 8]⟩) w:=by kernel_rfl
theorem Jf1 (w:World):(Instr.slice 9 (.string ⟨#[48,49,50,51,52,53,54,55,56,57,97,98,99,100,101,102]⟩) (some (.int .i64 ((9:Nat):Int))) (some (.int .i64 (((9:Nat):Int)+1))) none).run Tryz.prog w=.ok (.string ⟨#[hexc 9]⟩) w:=by kernel_rfl
theorem JeH (w:World):(Instr.slice 9 (.string ⟨#[48,49,50,51,52,53,54,55,56,57,97,98,99,100,101,102]⟩) (some (.int .i64 ((10:Nat):Int))) (some (.int .i64 (((10:Nat):Int)+1))) none).run Tryz.prog w=.ok (.string ⟨#[hexc 10]⟩) w:=by kernel_rfl
theorem JeI (w:World):(Instr.slice 9 (.string ⟨#[48,49,50,51,52,53,54,55,56,57,97,98,99,100,101,102]⟩) (some (.int .i64 ((11:Nat):Int))) (some (.int .i64 (((11:Nat):Int)+1))) none).run Tryz.prog w=.ok (.string ⟨#[hexc 11]⟩) w:=by kernel_rfl
theorem JeJ (w:World):(Instr.slice 9 (.string ⟨#[48,49,50,51,52,53,54,55,56,57,97,98,99,100,101,102]⟩) (some (.int .i64 ((12:Nat):Int))) (some (.int .i64 (((12:Nat):Int)+1))) none).run Tryz.prog w=.ok (.string ⟨#[hexc 12]⟩) w:=by kernel_rfl
theorem JeK (w:World):(Instr.slice 9 (.string ⟨#[48,49,50,51,52,53,54,55,56,57,97,98,99,100,101,102]⟩) (some (.int .i64 ((13:Nat):Int))) (some (.int .i64 (((13:Nat):Int)+1))) none).run Tryz.prog w=.ok (.string ⟨#[hexc 13]⟩) w:=by kernel_rfl
theorem JeL (w:World):(Instr.slice 9 (.string ⟨#[48,49,50,51,52,53,54,55,56,57,97,98,99,100,101,102]⟩) (some (.int .i64 ((14:Nat):Int))) (some (.int .i64 (((14:Nat):Int)+1))) none).run Tryz.prog w=.ok (.string ⟨#[hexc 14]⟩) w:=by kernel_rfl
theorem JeM (w:World):(Instr.slice 9 (.string ⟨#[48,49,50,51,52,53,54,55,56,57,97,98,99,100,101,102]⟩) (some (.int .i64 ((15:Nat):Int))) (some (.int .i64 (((15:Nat):Int)+1))) none).run Tryz.prog w=.ok (.string ⟨#[hexc 15]⟩) w:=by kernel_rfl
theorem Jc7 (d:Nat)(h:d<16)(w:World):(Instr.slice 9 (.string ⟨#[48,49,50,51,52,53,54,55,56,57,97,98,99,100,101,102]⟩) (some (.int .i64 (d:Int))) (some (.int .i64 ((d:Int)+1))) none).run Tryz.prog w=.ok (.string ⟨#[hexc d]⟩) w:=by
 have:d=0∨d=1∨d=2∨d=3∨d=4∨d=5∨d=6∨d=7∨d=8∨d=9∨d=10∨d=11∨d=12∨d=13∨d=14∨d=15:=by omega
 rcases this with rfl|rfl|rfl|rfl|rfl|rfl|rfl|rfl|rfl|rfl|rfl|rfl|rfl|rfl|rfl|rfl
 ·exact JfS w
 ·exact JfT w
 ·exact JfU w
 ·exact JfV w
 ·exact JfW w
 ·exact JfX w
 ·exact JfY w
 ·exact JfZ w
 ·exact Jf0 w
 ·exact Jf1 w
 ·exact JeH w
 ·exact JeI w
 ·exact JeJ w
 ·exact JeK w
 ·exact JeL w
 ·exact JeM w
theorem Jb4 {a b:ByteArray}(h:a=b):Value.string a=.string b:=by rw[h]
theorem Jar (l r:List UInt8):(⟨l.toArray⟩:ByteArray)++⟨r.toArray⟩=⟨(l++r).toArray⟩:=by
 apply ByteArray.ext
 simp
theorem Jle (k:Nat):∀(m:Int) (w:World),0≤m→m<65536→m≤k→Calls Tryz.prog 73 #[.int .i64 m,.int .i64 10] w (Jk w (.string ⟨(XS 10 m.toNat).toArray⟩)):=by
 induction k with
 |zero=>
  intro m w h0 h1 hk
  obtain rfl:m=0:=by omega
  have hsl:=Jc7 0 (by decide)
  go_enter Tryz.func73,Tryz.ntmps73
  go_wp2_with fail
  go_ret
  exact .mk (Jb4 (by decide+kernel)) (Jny _ _)
 |succ k ih=>
  intro m w h0 h1 hk
  by_cases hm:m<10
  ·obtain⟨d,rfl⟩:∃d:Nat,m=d:=⟨m.toNat,by omega⟩
   have hsl:=Jc7 d (by omega)
   clear ih
   go_enter Tryz.func73,Tryz.ntmps73
   go_wp2_with fail
   go_ret
   refine .mk (Jb4 ?_) (Jny _ _)
   rw[Int.toNat_natCast,XS,dif_pos (by omega)]
  ·have IH:=Jnv ih
   have q1:m.tdiv 10=m/10:=Int.tdiv_eq_ediv_of_nonneg h0
   have q2:m.tmod 10=m%10:=Int.tmod_eq_emod_of_nonneg h0
   have q3:IntKind.i64.wrap (m/10)=m/10:=IntWalk.i64_in _ (by omega)
   have q4:IntKind.i64.wrap (m%10)=m%10:=IntWalk.i64_in _ (by omega)
   have hl1:(XS 10 (m/10).toNat).length≤100000:=by have:=ZV 10 _ _ (JnA (m/10).toNat);omega
   have hl2:(XS 10 (m%10).toNat).length≤100000:=by have:=ZV 10 _ _ (JnA (m%10).toNat);omega
   have hl3:(XS 10 (m/10).toNat).length+(XS 10 (m%10).toNat).length≤9223372036854775807:=by omega
   have hl4:((XS 10 (m/10).toNat).length:Int)+((XS 10 (m%10).toNat).length:Int)≤9223372036854775807:=by omega
   have hcat:=JfR (XS 10 (m/10).toNat) (XS 10 (m%10).toNat) (by have:=ZV 10 _ _ (JnA (m/10).toNat);omega) (by have:=ZV 10 _ _ (JnA (m%10).toNat);omega)
   clear ih
   go_enter Tryz.func73,Tryz.ntmps73
   go_wp2_with fail
   refine Jr (by kernel_rfl) (by kernel_rfl) ?_
   iterate 4 go_big_quiet_step (fail)
   go_big_quiet_step ((go_at_call 73;exact JJ (IH.out (m/10) _ (by omega) (by omega) (by omega))))
   iterate 4 go_big_quiet_step (fail)
   go_big_quiet_step ((go_at_call 73;exact JJ (IH.out (m%10) _ (by omega) (by omega) (by omega))))
   repeat go_big_quiet_step (fail)
   refine wpQuiet_nil ?_
   intro x
   go_wp2_with fail
   go_ret
   refine .mk (Jb4 ?_) x.below
   have e1:m.toNat/10=(m/10).toNat:=by omega
   have e2:m.toNat%10=(m%10).toNat:=by omega
   rw[XS.eq_def 10 m.toNat,dif_neg (by omega),e1,e2,XS.eq_def 10 (m%10).toNat,dif_pos (by omega)]
   exact Jar _ [_]
def Jg1 (w:World)(most:Nat)(l:List UInt8):Ending→World→Prop:=fun e w'=>∃(n:Int) (ok:Bool),e=.returned (.tuple #[.int .i64 n,ok])∧-9223372036854775808≤n∧n≤9223372036854775807∧((ok=true∧0≤n∧JdR most l=some n.toNat)∨(ok=false∧JdR most l=none))∧Below w.heap.size w w'
theorem Qq (w:World)(s:ByteArray):Below w.heap.size w (Lib.bytesWorld w 5 s):=by
 exact Joins.below_bytesWorld _ _ _ _ (JnA _)
theorem Jg1.no {w w':World}{most:Nat}{l:List UInt8}{n:Int}{b:Bool}(h:JdR most l=none)(hb:b=false)(h1:-9223372036854775808≤n)(h2:n≤9223372036854775807)(hw:Below w.heap.size w w'):Jg1 w most l (.returned (.tuple #[.int .i64 n,b])) w':=
 ⟨n,b,rfl,h1,h2,.inr ⟨hb,h⟩,hw⟩
theorem Jib (l:List UInt8):-9223372036854775808≤Lib.atoiSat l∧Lib.atoiSat l≤9223372036854775807:=by
 unfold Lib.atoiSat;split<;>decide
theorem Jg2 (s:ByteArray)(most:Nat)(hmost:most≤1000000)(hs:s.size≤1000)(w:World)(henv:Env w):Calls Tryz.prog 172 #[.string s,.int .i64 most] w (Jg1 w most s.data.toList):=by
 have hd:=Ji2 most hmost s.data.toList
 have HE:=Jnv henv
 clear henv
 cases hv:Lib.atoiAll s.data.toList with
 |ok v=>
  rw[hv] at hd
  simp only at hd
  have hat:=Jnv (fun w=>Tryz.strconv_Atoi_ok s (by omega) v hv w)
  have hvb:-9223372036854775808≤v∧v≤9223372036854775807:=Lib.atoiAll_bounds hv
  clear hv
  by_cases h0:0≤v
  ·by_cases h1:v<most
   ·have HD:=Jnv hd
    clear hd
    go_enter Tryz.func172,Tryz.ntmps172
    go_wp2_with fail
    refine Jnx (hat.out w) ?_
    rintro e w1 ⟨rfl,hw⟩
    have hb:Below w.heap.size w w1:=by
     rcases hw with rfl|⟨t,rfl⟩
     ·exact Jny _ _
     ·exact Qq _ _
    clear hw
    go_wp2_with fail
    refine Jnx (Tryz.strconv_Itoa v hvb.1 hvb.2 w1 (HE.out.below hb).tab) ?_
    rintro e w2 ⟨rfl,hw⟩
    have hb2:Below w.heap.size w w2:=by
     obtain⟨k,os,rfl⟩:=hw
     exact hb.trans (Lib.below_grow _ _ hb.size _ _)
    clear hw
    go_wp2_with fail
    go_ret2
    refine⟨v,_,rfl,hvb.1,hvb.2,?_,hb2⟩
    have hdd:=HD.out
    by_cases h2:Lib.itoa v=s.data.toList
    ·rw[if_pos ⟨h0,h1,h2⟩] at hdd
     refine .inl ⟨?_,h0,hdd⟩
     have h3:Lib.itoa v=s.toList:=by rw[h2,Jaq]
     simp[h3]
    ·rw[if_neg (by simp[h2])] at hdd
     refine .inr ⟨?_,hdd⟩
     have h3:¬Lib.itoa v=s.toList:=fun e=>h2 (by rw[e,Jaq])
     simpa using h3
   ·have hn:JdR most s.data.toList=none:=by rw[hd,if_neg (by omega)]
    have HD:=Jnv hn
    clear hd hn
    go_enter Tryz.func172,Tryz.ntmps172
    go_wp2_with fail
    refine Jnx (hat.out w) ?_
    rintro e w1 ⟨rfl,hw⟩
    have hb:Below w.heap.size w w1:=by
     rcases hw with rfl|⟨t,rfl⟩
     ·exact Jny _ _
     ·exact Qq _ _
    clear hw
    go_wp2_with fail
    go_ret2
    exact .no HD.out rfl hvb.1 hvb.2 hb
  ·have hn:JdR most s.data.toList=none:=by rw[hd,if_neg (by omega)]
   have HD:=Jnv hn
   clear hd hn
   go_enter Tryz.func172,Tryz.ntmps172
   go_wp2_with fail
   refine Jnx (hat.out w) ?_
   rintro e w1 ⟨rfl,hw⟩
   have hb:Below w.heap.size w w1:=by
    rcases hw with rfl|⟨t,rfl⟩
    ·exact Jny _ _
    ·exact Qq _ _
   clear hw
   go_wp2_with fail
   go_ret2
   exact .no HD.out rfl hvb.1 hvb.2 hb
 |range=>
  rw[hv] at hd
  obtain⟨te,pe,hev⟩:=HE.out.rng
  have hat:=Jnv (Tryz.strconv_Atoi_range s (by omega) hv _ w hev (.inr ⟨te,pe,rfl⟩))
  have HD:=Jnv hd
  have hsb:=Jib s.data.toList
  clear hd hv hev
  generalize Lib.atoiSat s.data.toList=sat at*
  go_enter Tryz.func172,Tryz.ntmps172
  go_wp2_with fail
  refine Jnx hat.out ?_
  rintro e w1 ⟨N,rfl,-,-,hb⟩
  go_wp2_with fail
  go_ret2
  exact .no HD.out rfl hsb.1 hsb.2 hb
 |_=>
  rw[hv] at hd
  obtain⟨te,pe,hev⟩:=HE.out.syn
  have hat:=Jnv (Tryz.strconv_Atoi_syntax s (by omega) hv _ w hev (.inr ⟨te,pe,rfl⟩))
  have HD:=Jnv hd
  clear hd hv hev
  go_enter Tryz.func172,Tryz.ntmps172
  go_wp2_with fail
  refine Jnx hat.out ?_
  rintro e w1 ⟨N,rfl,-,-,hb⟩
  go_wp2_with fail
  go_ret2
  exact .no HD.out rfl (by decide) (by decide) hb
open Go.RowKit
theorem JdT (l:List UInt8):strOfNums (l.map fun b=>(b.toNat:Int))=⟨l.toArray⟩:=by
 have h:((fun n:Int=>UInt8.ofNat n.toNat) ∘ fun b:UInt8=>(b.toNat:Int))=id:=by funext b;simp
 simp[strOfNums,h]
theorem JeN {α:Type}(xs:List α)(j:Nat)(h:j<xs.length)(v:α):(xs.set j v).drop j=v::xs.drop (j+1):=by
 rw[List.drop_eq_getElem_cons (by simpa using h),List.getElem_set_self,List.drop_set_of_lt (by omega)]
theorem Ji7 (b u:Nat)(hb:2≤b)(h:b≤u):XS b u=XS b (u/b)++[hexc (u%b)]:=by
 rw[XS,dif_neg (by omega)]
theorem Ji8 (b u:Nat)(h:u<b):XS b u=[hexc u]:=by
 rw[XS,dif_pos (by omega)]
theorem Jl9 (d:Nat)(h:d<16)(w:World):
 (Instr.index 9 (.string ⟨#[48,49,50,51,52,53,54,55,56,57,97,98,99,100,101,102,103,104,105,106,107,108,109,110,111,112,113,114,115,116,117,118,119,120,121,122]⟩) (.int .u64 (d:Int))).run Tryz.prog w=.ok (.int .u8 ((hexc d).toNat:Int)) w:=by
 rw[run_index_string w 9 _ .u64 d Tryz.underlying9,dif_pos (by
  have:(ByteArray.size ⟨#[48,49,50,51,52,53,54,55,56,57,97,98,99,100,101,102,103,104,105,106,107,108,109,110,111,112,113,114,115,116,117,118,119,120,121,122]⟩)=36:=rfl
  omega)]
 have hd:d=0∨d=1∨d=2∨d=3∨d=4∨d=5∨d=6∨d=7∨d=8∨d=9∨d=10∨d=11∨d=12∨d=13∨d=14∨d=15:=by omega
 rcases hd with rfl|rfl|rfl|rfl|rfl|rfl|rfl|rfl|rfl|rfl|rfl|rfl|rfl|rfl|rfl|rfl<;>rfl
theorem Ji9 (d:Nat)(h:d<16)(h':d<(ByteArray.size ⟨#[48,49,50,51,52,53,54,55,56,57,97,98,99,100,101,102,103,104,105,106,107,108,109,110,111,112,113,114,115,116,117,118,119,120,121,122]⟩)):
 (⟨#[48,49,50,51,52,53,54,55,56,57,97,98,99,100,101,102,103,104,105,106,107,108,109,110,111,112,113,114,115,116,117,118,119,120,121,122]⟩:ByteArray)[d]=hexc d:=by
 have hd:d=0∨d=1∨d=2∨d=3∨d=4∨d=5∨d=6∨d=7∨d=8∨d=9∨d=10∨d=11∨d=12∨d=13∨d=14∨d=15:=by omega
 rcases hd with rfl|rfl|rfl|rfl|rfl|rfl|rfl|rfl|rfl|rfl|rfl|rfl|rfl|rfl|rfl|rfl<;>rfl
def JeO (w0 w:World)(k:Nat)(l:List UInt8):Prop:=∃xs,JI w w0.heap.size 1 (some ⟨w0.heap.size,0,none⟩) 65 65 xs∧l.length=k∧xs.drop (65-k)=l.map fun(c:UInt8)=>Value.int .u8 (c.toNat:Int)
theorem JeO.more {w0 w:World}{k:Nat}{l:List UInt8}(h:JeO w0 w k l)(j:Nat)(hj:j+1+k=65)(c:UInt8):JeO w0 (w.setCell ⟨w0.heap.size,j,none⟩ (.int .u8 (c.toNat:Int))) (k+1) (c::l):=by
 obtain⟨xs,ho,hl,hd⟩:=h
 have hlen:xs.length=65:=by have:=ho.len;omega
 refine⟨xs.set j (.int .u8 (c.toNat:Int)),?_,by rw[List.length_cons,hl],?_⟩
 ·have:=ho.set j (by omega) (.int .u8 (c.toNat:Int))
  rwa [Nat.zero_add] at this
 ·rw[show 65-(k+1)=j by omega,JeN xs j (by omega),show j+1=65-k by omega,hd];rfl
theorem JeO.cell {w0 w:World}{k:Nat}{l:List UInt8}(h:JeO w0 w k l)(j:Nat)(hj:j<65):(∃u,w.cell? ⟨w0.heap.size,j,none⟩=some u)∧w.frozen? ⟨w0.heap.size,j,none⟩=false:=by
 obtain⟨xs,ho,hl,hd⟩:=h
 obtain⟨g,off,e,hb,hg,hc,ht⟩:=ho.here (by omega)
 cases e
 obtain⟨h1,h2⟩:=ht j (by omega)
 rw[Nat.zero_add] at h1 h2
 exact⟨Option.isSome_iff_exists.1 h1,h2⟩
theorem JeO.reads {w0 w:World}{k:Nat}{l:List UInt8}(h:JeO w0 w k l)(hk:k≤65)(hk0:0<k):Jj w (some ⟨w0.heap.size,65-k,none⟩) k k (l.map fun c=>(c.toNat:Int)):=by
 obtain⟨xs,ho,hl,hd⟩:=h
 have hlen:xs.length=65:=by have:=ho.len;omega
 obtain⟨g,off,e,hb,hg,hc,ht⟩:=ho.here (by omega)
 cases e
 refine⟨by rw[List.length_map,hl],JnA _,by unfold maxLen;omega,?_,.inr ⟨_,_,rfl,hg,fun j hj=>?_⟩⟩
 ·intro v hv
  obtain⟨c,-,rfl⟩:=List.mem_map.1 hv
  have:=c.toNat_lt
  omega
 ·have:=hc (65-k+j) (xs[65-k+j]'(by omega)) (by simp)
  rw[Nat.zero_add] at this
  rw[this]
  have h2:(xs.drop (65-k))[j]? =(l.map fun(c:UInt8)=>Value.int .u8 (c.toNat:Int))[j]?:=by rw[hd]
  rw[List.getElem?_drop,List.getElem?_eq_getElem (by omega),List.getElem?_map,List.getElem?_eq_getElem (by omega)] at h2
  rw[Option.some.inj h2,Jac _ _ (by simpa[hl] using hj)]
  rw[List.getElem_map]
theorem Jlx:Tryz.zeroCells316.toList.take 65=List.replicate 65 (.int .u8 0):=by kernel_rfl
theorem Jkq:Tryz.zeroCells316.size=65:=by kernel_rfl
theorem Jkr (u:Nat)(hu:u<65536)(w:World)(hb:w.cell? ⟨7,15,none⟩=some (.int .u8 4)):
 Calls Tryz.prog 216 #[JnE,.int .u64 (u:Int),.int .i64 16,false,false] w (Jk w (.tuple #[JnE,.string ⟨(XS 16 u).toArray⟩])):=by
 have HB:=Jnv hb
 have HW0:Hid (Below w.heap.size w (w.alloc (.cells Tryz.zeroCells316 316))):=Jnv (Below.all (Jny _ _) _)
 have HS0:Hid (JeO w (w.alloc (.cells Tryz.zeroCells316 316)) 0 []):=Jnv ⟨List.replicate 65 (.int .u8 0),JI.made _ 65 65 _ _ (JnA _) (by rw[Jkq];decide) (JnA _) (by decide) (by rw[Nat.mul_one];exact Jlx),rfl,by simp⟩
 clear hb
 go_enter Tryz.func216,Tryz.ntmps216
 go_wp2_with fail
 refine Jnx (JmJ _) ?_
 rintro e w2 ⟨rfl,rfl⟩
 go_wp2_with fail
 generalize w.alloc (.cells Tryz.zeroCells316 316)=w1 at*
 refine Jnx (JmI _ ((HW0.out.cell (World.block_lt_of_cell? w _ HB.out)).trans HB.out)) ?_
 rintro e w2 ⟨rfl,rfl⟩
 go_wp2_with fail
 go_loopw [1,13] (fun u1 u13 wr=>∃(v i k:Nat) (l:List UInt8),u1=.int .u64 v∧u13=.int .i64 i∧i+k=65∧((k=0∧v<65536)∨(k=1∧v<4096)∨(k=2∧v<256)∨(k=3∧v<16))∧Hid (XS 16 u=XS 16 v++l)∧Hid (JeO w wr k l)∧Hid (Below w.heap.size w wr)) (fun u1 _ _=>intOf u1 |>.toNat)
 case atStart=>exact⟨u,65,0,[],rfl,rfl,rfl,.inl ⟨rfl,hu⟩,Jnv (by simp),HS0,HW0⟩
 case round=>
  obtain⟨v,i,k,l,rfl,rfl,hik,hkv,HD,HS,HW⟩:=hrel
  obtain⟨j,rfl⟩:∃j,i=j+1:=⟨i-1,by omega⟩
  obtain⟨⟨c0,hc0⟩,hf0⟩:=HS.out.cell j (by omega)
  by_cases hlt:16≤v
  ·have hand:bits BinOp.and IntKind.u64 (v:Int) 15=((v%16:Nat):Int):=by
    rw[show(15:Int)=((15:Nat):Int) from rfl,u64_and_nat v 15 (by omega) (by decide),show 15=2^4-1 from rfl,Nat.and_two_pow_sub_one_eq_mod]
   have HD2:=Jnv (Ji7 16 v (by decide) hlt)
   go_wp2_with fail
   rw[Ji9 _ (Nat.mod_lt _ (by decide))]
   go_roundw
   case rel=>exact⟨v/16,j,k+1,hexc (v%16)::l,by go_num,rfl,by omega,by omega,Jnv (by rw[HD.out,HD2.out,List.append_assoc];rfl),Jnv (HS.out.more j hik _),Jnv (HW.out.setCell (JnA _) _)⟩
   case measure=>simp[intOf];omega
  ·have hv16:v<16:=by omega
   have HD2:=Jnv (Ji8 16 v hv16)
   have hj1:(j:Int)≤65:=by omega
   have hj2:¬(65=j):=by omega
   go_wp2_with fail
   rw[Ji9 _ hv16]
   have hR:=(HS.out.more j hik (hexc v)).reads (by omega) (by omega)
   have hcv:=Jad (P:=Tryz.prog) 22 5 Tryz.underlying22 Tryz.underlying5 hR 9 Tryz.underlying9
   rw[JdT,show 65-(k+1)=j by omega,show k+1=65-j by omega] at hcv
   have HWE:=Jnv (show Below w.heap.size w (wr.setCell ⟨w.heap.size,j,none⟩ (.int .u8 ((hexc v).toNat:Int))) from HW.out.setCell (JnA _) _)
   have HE:Hid (hexc v::l=XS 16 u):=Jnv (by rw[HD.out,HD2.out];rfl)
   rw[hcv]
   clear hR hcv
   go_wp2_with fail
   go_ret2
   exact .mk (by rw[←HE.out];rfl) HWE.out
theorem Jly (u:Nat)(hu:u<65536)(w:World)(hb:w.cell? ⟨7,15,none⟩=some (.int .u8 4)):
 Calls Tryz.prog 180 #[.int .u64 (u:Int),.int .i64 16] w (Jk w (.string ⟨(XS 16 u).toArray⟩)):=by
 go_enter Tryz.func180,Tryz.ntmps180
 go_wp2_with fail
 refine Calls.later (Jkr u hu w hb) ?_
 intro x
 go_wp2_with fail
 go_ret
 exact .mk rfl (Jnn (Jny _ _))
theorem Jma (u:Nat)(hu:u<65536)(w:World)(hb:Env w):
 Calls Tryz.prog 130 #[.int .u64 (u:Int),.int .i64 16] w (Jk w (.string ⟨(XS 16 u).toArray⟩)):=by
 have hbi:=hb.bits
 clear hb
 go_enter Tryz.func130,Tryz.ntmps130
 go_wp2_with fail
 refine Calls.later (Jly u hu w hbi) ?_
 intro x
 go_wp2_with fail
 go_ret
 exact .mk rfl (Jnn (Jny _ _))
open Go.RowKit
theorem Jas (c:UInt8):∀(l:List UInt8),∀p∈J6 c l,p.length≤l.length
 |[],p,h=>by simp[J6] at h;simp[h]
 |x::r,p,h=>by
  rw[J6] at h
  split at h
  ·rcases List.mem_cons.1 h with rfl|h
   ·simp
   ·have:=Jas c r p h;simp;omega
  ·cases hr:J6 c r with
   |nil=>rw[hr] at h;simp only[List.mem_singleton] at h;subst h;simp
   |cons hd tl=>
    rw[hr] at h
    simp only at h
    have ih:=Jas c r
    rw[hr] at ih
    rcases List.mem_cons.1 h with rfl|h
    ·have:=ih hd (List.mem_cons_self ..);simp;omega
    ·have:=ih p (List.mem_cons_of_mem _ h);simp;omega
theorem Ze (c:UInt8):∀(l:List UInt8),(J6 c l).length≤l.length+1
 |[]=>by simp[J6]
 |x::r=>by
  have ih:=Ze c r
  rw[J6]
  split
  ·simp only[List.length_cons];omega
  ·cases hr:J6 c r with
   |nil=>simp
   |cons hd tl=>rw[hr] at ih;simp only[List.length_cons] at ih⊢;omega
def JdK (l:List UInt8):Value:=.string ⟨l.toArray⟩
def Jea (w:World)(L:List (List UInt8)):Ending→World→Prop:=fun e w'=>
 ∃oa cap,e=.returned (.slice oa L.length cap)∧JI w' w.heap.size 1 oa L.length cap (L.map JdK)∧Below w.heap.size w w'
theorem JeP:(Tryz.prog.info? 9).map (fun i=>(i.zero,i.size,i.bytes))=some (some (.string ⟨#[]⟩),1,16):=by kernel_rfl
open Go.RowKit
theorem Jf2 {α β:Type}(f:α→Option β)(l:List α)(x:α)(a:List β)(b:β)(h:l.mapM f=some a)(hx:f x=some b):(l++[x]).mapM f=some (a++[b]):=by
 simp[List.mapM_append,List.mapM_cons,h,hx]
theorem Jf3 {α β:Type}(f:α→Option β)(l:List α)(k:Nat)(hk:k<l.length)(hx:f l[k]=none):l.mapM f=none:=by
 cases h:l.mapM f with
 |none=>rfl
 |some a=>
  exfalso
  have e:l=l.take k++l[k]::l.drop (k+1):=by rw[←List.drop_eq_getElem_cons hk,List.take_append_drop]
  rw[e,List.mapM_append,List.mapM_cons,hx] at h
  cases h2:(l.take k).mapM f<;>simp[h2] at h
theorem JeQ {α β:Type}(f:α→Option β):∀(l:List α) (a:List β),l.mapM f=some a→a.length=l.length
 |[],a,h=>by simp at h;subst h;rfl
 |x::l,a,h=>by
  rw[List.mapM_cons] at h
  cases hx:f x with
  |none=>rw[hx] at h;simp at h
  |some b=>
   cases hl:l.mapM f with
   |none=>rw[hx,hl] at h;simp at h
   |some c=>rw[hx,hl] at h;simp at h;subst h;simp[JeQ f l c hl]
open Go.RowKit
def JbA:Lib.NumEnd Nat:=Lib.parseUintB 64 []
theorem Jf4:(match JbA with| .ok n=>some n|_=>none:Option Nat)=none:=rfl
theorem Jf5 (n:Nat):JbA≠ .ok n:=fun h=>by
 have h2:(match JbA with| .ok n=>some n|_=>none:Option Nat)=some n:=by rw[h]
 rw[Jf4] at h2
 cases h2
def QD (acc:Nat):List UInt8→Lib.NumEnd Nat
 |[]=>.ok acc
 |c::r=>if 16≤XU c then JbA else if 65535<acc*16+XU c then .range else QD (acc*16+XU c) r
theorem Jc8:∀(l:List UInt8) (acc:Nat),JdQ 16 65536 acc l=match QD acc l with| .ok n=>some n|_=>none
 |[],acc=>rfl
 |c::r,acc=>by
  rw[JdQ,QD]
  by_cases h1:16≤XU c
  ·rw[if_pos (.inl h1),if_pos h1];rfl
  ·by_cases h2:65535<acc*16+XU c
   ·rw[if_pos (.inr (by omega)),if_neg h1,if_pos h2]
   ·rw[if_neg (by omega),if_neg h1,if_neg h2,Jc8 r]
theorem Jmb:∀n:Nat,n<256→65≤n→n≤70→bits .or .u8 (n:Int) 32=(n:Int)+32:=by decide+kernel
theorem Jlz:∀n:Nat,n<256→97≤n→n≤102→bits .or .u8 (n:Int) 32=(n:Int):=by decide+kernel
theorem Jja:∀n:Nat,n<256→¬(65≤n∧n≤70)→¬(97≤n∧n≤102)→bits .or .u8 (n:Int) 32<97∨103≤bits .or .u8 (n:Int) 32:=by decide+kernel
theorem Jic (t:ByteArray)(hne:t.size≠0)(hmax:t.size≤1000)(w:World):
 Calls Tryz.prog 118 #[.string t,.int .i64 16,.int .i64 16] w fun e w'=>e=.returned (Lib.uintTupleM 264 65535 (QD 0 t.data.toList))∧w'=Lib.bytesWorld w 5 t:=by
 have hemp:t.toList.isEmpty=false:=by
  rw[←decide_eq_emptyBytes]
  exact decide_eq_false (fun h=>hne (by rw[h];rfl))
 have hcv:=Lib.run_convert_string_bytes (P:=Tryz.prog) w 9 22 5 t (u:=.string) Tryz.underlying9 Tryz.underlying22 Tryz.underlying5
 have hB:∀j,j<t.size→(Lib.bytesWorld w 5 t).cell? ⟨w.heap.size,j,none⟩=some (.int .u8 (t.data.toList.getD j 0).toNat):=fun j hj=>Lib.bytesWorld_cell w 5 t j hj
 obtain⟨W1,hW1⟩:∃W1,W1=Lib.bytesWorld w 5 t:=⟨_,rfl⟩
 rw[←hW1] at hcv hB⊢
 clear hW1
 obtain⟨bs,hL⟩:∃bs,bs=t.data.toList:=⟨_,rfl⟩
 have hLn:bs.length=t.size:=by rw[hL,Lib.size_eq]
 rw[←hL] at hB⊢
 clear hL
 have hmv:IntKind.u64.wrap (IntKind.u64.wrap 65536-1)=65535:=by
  rw[IntKind.wrap_u64,IntKind.wrap_u64]
  decide
 go_enter Tryz.func118,Tryz.ntmps118
 go_wp2_with fail
 go_loopw [12,13,101] (fun vu vn vi wr=>∃(k acc:Nat) (a:Int),vu=.bool false∧vn=.int .u64 a∧vi=.int .i64 k∧k≤t.size∧Hid (a=(acc:Int)∧acc≤65535∧QD 0 bs=QD acc (bs.drop k))∧wr=W1)
  (fun _ _ vi _=>t.size-(intOf vi).toNat)
 case atStart=>exact⟨0,0,0,rfl,rfl,rfl,by omega,⟨rfl,by omega,rfl⟩,rfl⟩
 case round=>
  obtain⟨k,acc,a,rfl,rfl,rfl,hk,hh,rfl⟩:=hrel
  obtain⟨ha,hacc,hdec⟩:=hh.out
  clear hh
  have a0:0≤a:=by omega
  have a1:a≤65535:=by omega
  by_cases hkn:k<t.size
  ·have hc:=hB k hkn
   have hdrop:bs.drop k=bs[k]'(by omega)::bs.drop (k+1):=List.drop_eq_getElem_cons (by omega)
   have hget:bs.getD k 0=bs[k]'(by omega):=by simp[List.getD,List.getElem?_eq_getElem (show k<bs.length by omega)]
   rw[hdrop] at hdec
   rw[hget] at hc
   generalize bs[k]'(by omega)=c at hc hdec
   have hc256:c.toNat<256:=c.toNat_lt
   clear hB hdrop hget
   have hdN:XU c=if 65≤c.toNat∧c.toNat≤70 then c.toNat-55 else if 97≤c.toNat∧c.toNat≤102 then c.toNat-87 else if 48≤c.toNat∧c.toNat≤57 then c.toNat-48 else 99:=rfl
   have hstep:∀d,XU c=d→d<16→QD 0 bs=if 65535<acc*16+d then .range else QD (acc*16+d) (bs.drop (k+1)):=by
    intro d h1 h2
    rw[hdec,QD,h1,if_neg (by omega)]
   have hsyn:16≤XU c→QD 0 bs=JbA:=by
    intro h1
    rw[hdec,QD,if_pos h1]
   clear hdec
   have hlo:=Jja c.toNat hc256
   have hup:=Jmb c.toNat hc256
   have hlw:=Jlz c.toNat hc256
   by_cases hdig:48≤c.toNat∧c.toNat≤57
   ·obtain⟨hd0,hd1⟩:=hdig
    have hs:=hstep (c.toNat-48) (by rw[hdN,if_neg (by omega),if_neg (by omega),if_pos ⟨hd0,hd1⟩]) (by omega)
    clear hstep hsyn hdN hlo hup hlw
    by_cases hov:65535<acc*16+(c.toNat-48)
    ·rw[if_pos hov] at hs
     have iov:65535<a*16+((c.toNat:Int)-48):=by omega
     have HS:=Jnv hs
     clear hov ha hacc hs
     go_wp2_with fail
     go_ret2
     exact⟨by rw[HS.out];rfl,rfl⟩
    ·rw[if_neg hov] at hs
     have HN:Hid (a*16+((c.toNat:Int)-48)=((acc*16+(c.toNat-48):Nat):Int)∧acc*16+(c.toNat-48)≤65535∧QD 0 bs=QD (acc*16+(c.toNat-48)) (bs.drop (k+1))):=Jnv ⟨by omega,by omega,hs⟩
     have iov:a*16+((c.toNat:Int)-48)≤65535:=by omega
     clear hov ha hacc hs
     go_wp2_with fail
     go_roundw
     case rel=>exact⟨k+1,acc*16+(c.toNat-48),a*16+((c.toNat:Int)-48),rfl,(by first|rfl|(congr 1;omega)),(by first|rfl|(congr 1;omega)),by omega,HN,trivial⟩
     case measure=>simp[intOf];omega
   ·by_cases hU:65≤c.toNat∧c.toNat≤70
    ·obtain⟨hd0,hd1⟩:=hU
     have hs:=hstep (c.toNat-55) (by rw[hdN,if_pos ⟨hd0,hd1⟩]) (by omega)
     have hv:=hup hd0 hd1
     have hlc:∀w,Calls Tryz.prog 166 #[.int .u8 (c.toNat:Int)] w fun e w'=>e=.returned (.int .u8 ((c.toNat:Int)+32))∧w'=w:=fun w=>by rw[←hv];exact Tryz.internal_strconv_lower _ _
     clear hstep hsyn hdN hlo hup hlw hdig hv
     by_cases hov:65535<acc*16+(c.toNat-55)
     ·rw[if_pos hov] at hs
      have iov:65535<a*16+((c.toNat:Int)-55):=by omega
      have HS:=Jnv hs
      clear hov ha hacc hs
      go_wp2_with (go_at_call 166;refine(hlc _).mono ?_;rintro e w' ⟨rfl,rfl⟩)
      go_ret2
      exact⟨by rw[HS.out];rfl,rfl⟩
     ·rw[if_neg hov] at hs
      have HN:Hid (a*16+((c.toNat:Int)-55)=((acc*16+(c.toNat-55):Nat):Int)∧acc*16+(c.toNat-55)≤65535∧QD 0 bs=QD (acc*16+(c.toNat-55)) (bs.drop (k+1))):=Jnv ⟨by omega,by omega,hs⟩
      have iov:a*16+((c.toNat:Int)-55)≤65535:=by omega
      clear hov ha hacc hs
      go_wp2_with (go_at_call 166;refine(hlc _).mono ?_;rintro e w' ⟨rfl,rfl⟩)
      go_roundw
      case rel=>exact⟨k+1,acc*16+(c.toNat-55),a*16+((c.toNat:Int)-55),rfl,(by first|rfl|(congr 1;omega)),(by first|rfl|(congr 1;omega)),by omega,HN,trivial⟩
      case measure=>simp[intOf];omega
    ·by_cases hL:97≤c.toNat∧c.toNat≤102
     ·obtain⟨hd0,hd1⟩:=hL
      have hs:=hstep (c.toNat-87) (by rw[hdN,if_neg hU,if_pos ⟨hd0,hd1⟩]) (by omega)
      have hv:=hlw hd0 hd1
      have hlc:∀w,Calls Tryz.prog 166 #[.int .u8 (c.toNat:Int)] w fun e w'=>e=.returned (.int .u8 (c.toNat:Int))∧w'=w:=fun w=>by
       have h:=Tryz.internal_strconv_lower (c.toNat:Int) w
       rw[hv] at h;exact h
      clear hstep hsyn hdN hlo hup hlw hdig hv hU
      by_cases hov:65535<acc*16+(c.toNat-87)
      ·rw[if_pos hov] at hs
       have iov:65535<a*16+((c.toNat:Int)-87):=by omega
       have HS:=Jnv hs
       clear hov ha hacc hs
       go_wp2_with (go_at_call 166;refine(hlc _).mono ?_;rintro e w' ⟨rfl,rfl⟩)
       go_ret2
       exact⟨by rw[HS.out];rfl,rfl⟩
      ·rw[if_neg hov] at hs
       have HN:Hid (a*16+((c.toNat:Int)-87)=((acc*16+(c.toNat-87):Nat):Int)∧acc*16+(c.toNat-87)≤65535∧QD 0 bs=QD (acc*16+(c.toNat-87)) (bs.drop (k+1))):=Jnv ⟨by omega,by omega,hs⟩
       have iov:a*16+((c.toNat:Int)-87)≤65535:=by omega
       clear hov ha hacc hs
       go_wp2_with (go_at_call 166;refine(hlc _).mono ?_;rintro e w' ⟨rfl,rfl⟩)
       go_roundw
       case rel=>exact⟨k+1,acc*16+(c.toNat-87),a*16+((c.toNat:Int)-87),rfl,(by first|rfl|(congr 1;omega)),(by first|rfl|(congr 1;omega)),by omega,HN,trivial⟩
       case measure=>simp[intOf];omega
     ·have HS:=Jnv (hsyn (by rw[hdN,if_neg hU,if_neg hL,if_neg hdig];decide))
      have hlo':=hlo hU hL
      have hv0:=bits_lo_u8 .or (c.toNat:Int) 32
      have hv1:=bits_hi_u8 .or (c.toNat:Int) 32
      have hlc:∀w,Calls Tryz.prog 166 #[.int .u8 (c.toNat:Int)] w fun e w'=>e=.returned (.int .u8 (bits .or .u8 (c.toNat:Int) 32))∧w'=w:=fun w=>Tryz.internal_strconv_lower _ _
      have hd':(c.toNat:Int)<48∨57<(c.toNat:Int):=by omega
      have hci0:(0:Int)≤(c.toNat:Int):=by omega
      have hci1:(c.toNat:Int)≤255:=by omega
      clear hstep hsyn hdN hlo hup hlw hU hL hdig hc256 ha hacc
      generalize bits .or .u8 (c.toNat:Int) 32=v at*
      generalize (c.toNat:Int)=ci at*
      by_cases h95:ci=95
      all_goals try subst h95
      all_goals rcases hlo' with hl|hl
      all_goals rcases hd' with hd|hd
      all_goals try (exfalso;omega)
      all_goals by_cases hz:v≤122
      all_goals try (exfalso;omega)
      all_goals go_wp2_with (go_at_call 166;refine(hlc _).mono ?_;rintro e w' ⟨rfl,rfl⟩)
      all_goals go_ret2
      all_goals exact⟨by rw[HS.out];rfl,rfl⟩
  ·have hkk:k=t.size:=by omega
   subst hkk
   have hF:QD acc (bs.drop t.size)=.ok acc:=by rw[List.drop_eq_nil_of_le (by omega)];rfl
   rw[hF] at hdec
   subst ha
   have HS:=Jnv hdec
   clear hacc hF a0 a1 hdec
   go_wp2_with fail
   go_ret2
   exact⟨by rw[HS.out];rfl,rfl⟩
open Go.RowKit
def Jks (w:World)(o:Option Nat):Ending→World→Prop:=fun e w'=>∃(u:Int) (er:Value),e=.returned (.tuple #[.int .u64 u,er])∧0≤u∧u≤65535∧
 ((∃n:Nat,o=some n∧u=n∧er=.nilIface)∨(o=none∧∃te pe,er=.iface te pe))∧Below w.heap.size w w'
theorem Jg3 (t:ByteArray)(hmax:t.size≤1000)(w:World):
 Calls Tryz.prog 118 #[.string t,.int .i64 16,.int .i64 16] w fun e w'=>e=.returned (Lib.uintTupleM 264 65535 (if t.size=0 then JbA else QD 0 t.data.toList))∧Below w.heap.size w w':=by
 by_cases h:t.size=0
 ·obtain rfl:t=⟨#[]⟩:=by
   cases t;rename_i d
   have:d.size=0:=h
   rw[Array.eq_empty_of_size_eq_zero this]
  refine(Tryz.internal_strconv_ParseUint_empty 16 16 w).mono ?_
  rintro e w' ⟨rfl,rfl⟩
  exact⟨rfl,Jny _ _⟩
 ·refine(Jic t h hmax w).mono ?_
  rintro e w' ⟨rfl,rfl⟩
  exact⟨by rw[if_neg h],Qq _ _⟩
theorem Jf6:∀(l:List UInt8) (acc n:Nat),acc≤65535→QD acc l=.ok n→n≤65535
 |[],acc,n,h,e=>by simp only[QD,Lib.NumEnd.ok.injEq] at e;omega
 |c::r,acc,n,h,e=>by
  rw[QD] at e
  split at e
  ·exact absurd e (Jf5 n)
  ·split at e
   ·cases e
   ·exact Jf6 r _ n (by omega) e
theorem X4 (t:ByteArray)(hmax:t.size≤1000)(w:World)(henv:Env w):
 Calls Tryz.prog 58 #[.string t,.int .i64 16,.int .i64 16] w (Jks w (Xv 16 65536 t.data.toList)):=by
 have HE:=Jnv henv
 clear henv
 have hnum:Xv 16 65536 t.data.toList=match (if t.size=0 then JbA else QD 0 t.data.toList) with| .ok n=>some n|_=>none:=by
  have hl:t.data.toList.length=t.size:=by rw[Array.length_toList,ByteArray.size_data]
  rw[Xv]
  by_cases h:t.size=0
  ·rw[if_pos h,if_pos (List.length_eq_zero_iff.1 (by omega))];rfl
  ·rw[if_neg h,if_neg (fun e=>h (by rw[←hl,e];rfl)),Jc8]
   try (cases QD 0 t.data.toList<;>rfl)
 have hle:∀n,(if t.size=0 then JbA else QD 0 t.data.toList)=Lib.NumEnd.ok n→n≤65535:=by
  intro n h
  split at h
  ·exact absurd h (Jf5 n)
  ·exact Jf6 _ _ _ (by omega) h
 have HC:=Jnv (Jg3 t hmax w)
 cases hR:(if t.size=0 then JbA else QD 0 t.data.toList) with
 |ok n=>
  rw[hR] at HC hnum
  have HN:=Jnv hnum
  have hn:=hle n hR
  clear hR hle hnum
  go_enter Tryz.func58,Tryz.ntmps58
  go_wp2_with fail
  refine Jnx HC.out ?_
  rintro e w1 ⟨rfl,hb⟩
  simp only[Lib.uintTupleM]
  go_wp2_with fail
  go_ret2
  exact⟨n,.nilIface,rfl,by omega,by omega,.inl ⟨n,HN.out,rfl,rfl⟩,hb⟩
 |range=>
  rw[hR] at HC hnum
  have HN:=Jnv hnum
  clear hR hle hnum
  go_enter Tryz.func58,Tryz.ntmps58
  go_wp2_with fail
  refine Jnx HC.out ?_
  rintro e w1 ⟨rfl,hb⟩
  simp only[Lib.uintTupleM]
  obtain⟨te,pe,hev⟩:=(HE.out.below hb).rng
  have HT:=Jnv (Tryz.strconv_toError_range ⟨#[80,97,114,115,101,85,105,110,116]⟩ t 16 16 _ w1 (by omega) hev (.inr ⟨te,pe,rfl⟩))
  go_wp2_with fail
  refine Jnx HT.out ?_
  rintro e w2 ⟨N,rfl,-,-,hb2⟩
  go_wp2_with fail
  go_ret2
  exact⟨65535,_,rfl,by omega,by omega,.inr ⟨HN.out,_,_,rfl⟩,Jno hb hb2⟩
 |_=>
  rw[hR] at HC hnum
  have HN:=Jnv hnum
  clear hR hle hnum
  go_enter Tryz.func58,Tryz.ntmps58
  go_wp2_with fail
  refine Jnx HC.out ?_
  rintro e w1 ⟨rfl,hb⟩
  simp only[Lib.uintTupleM]
  obtain⟨te,pe,hev⟩:=(HE.out.below hb).syn
  have HT:=Jnv (Tryz.strconv_toError_syntax ⟨#[80,97,114,115,101,85,105,110,116]⟩ t 16 16 _ w1 (by omega) hev (.inr ⟨te,pe,rfl⟩))
  go_wp2_with fail
  refine Jnx HT.out ?_
  rintro e w2 ⟨N,rfl,-,-,hb2⟩
  go_wp2_with fail
  go_ret2
  exact⟨0,_,rfl,by omega,by omega,.inr ⟨HN.out,_,_,rfl⟩,Jno hb hb2⟩
open Go.RowKit
def Jlf (x:Nat):Bool:=decide (48≤x∧x≤57∨97≤x∧x≤102∨65≤x∧x≤70)
theorem Jjb (x:Nat)(hx:x≤1114111)(w:World):Calls Tryz.prog 210 #[.int .i32 (x:Int)] w (Jk w (.bool (Jlf x))):=by
 have h0:(0:Int)≤(x:Int):=by omega
 have h1:(x:Int)≤1114111:=by omega
 go_enter Tryz.func210,Tryz.ntmps210
 go_wp2_with fail
 all_goals go_ret
 all_goals refine .mk (JL ?_) (Jny _ _)
 all_goals unfold Jlf
 all_goals rw[Bool.eq_iff_iff]
 all_goals simp
 all_goals omega
theorem Jc9 (base most:Nat):∀(l:List UInt8) (acc n:Nat),JdQ base most acc l=some n→∀c∈l,XU c<base
 |[],_,_,_,c,hc=>absurd hc (List.not_mem_nil)
 |x::r,acc,n,h,c,hc=>by
  rw[JdQ] at h
  split at h
  ·cases h
  ·rcases List.mem_cons.1 hc with rfl|hc
   ·omega
   ·exact Jc9 base most r _ n h c hc
theorem JlA (c:UInt8)(h:XU c<16):Jlf c.toNat=true∧c.toNat<128:=by
 unfold XU at h
 unfold Jlf
 split at h
 ·exact⟨decide_eq_true (by omega),by omega⟩
 ·split at h
  ·exact⟨decide_eq_true (by omega),by omega⟩
  ·split at h
   ·exact⟨decide_eq_true (by omega),by omega⟩
   ·omega
theorem JhG (s:ByteArray)(h:∀c∈s.data.toList,XU c<16):∀(f pos:Nat),Lib.idxFuncFrom (fun x=>!Jlf x) true s f pos=-1
 |0,_=>rfl
 |f+1,pos=>by
  rw[Lib.idxFuncFrom]
  by_cases hp:pos<s.size
  ·have hd:=JlA (s[pos]'hp) (h _ (by rw[show s[pos]'hp=s.data.toList[pos]'(by simpa using hp) from rfl];exact List.getElem_mem _))
   rw[if_pos hp,decode_ascii s pos hp hd.2]
   simp only[hd.1]
   exact JhG s h f _
  ·rw[if_neg hp]
theorem JeR (w:World):PredGrows Tryz.prog 209 #[] (fun x=>!Jlf x) w:=by
 intro W x hx hb
 show Calls Tryz.prog 209 #[.int .i32 (x:Int)] W _
 go_enter Tryz.func209,Tryz.ntmps209
 go_wp2_with fail
 refine Jnx (Jjb x hx W) ?_
 rintro e w1 ⟨rfl,hb1⟩
 go_wp2_with fail
 go_ret
 exact⟨rfl,hb1⟩
end
end Go.Proofs.YtkgjbipfhhjlpaaGreatDoor
