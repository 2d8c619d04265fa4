import Derived.Test.YtkgjbipfhhjlpaaGreatDoorMk2
import Derived.Test.YtkgjbipfhhjlpaaGreatDoorMk3
import Derived.Lib.AppendIntMem
set_option linter.unusedVariables false
set_option linter.unusedSimpArgs false
set_option maxRecDepth 100000
set_option maxHeartbeats 32000000
namespace Go.Proofs.YtkgjbipfhhjlpaaGreatDoor
section
open Go.Lib
def cutsL (c:UInt8):List UInt8→List (List UInt8)
 |[]=>[[]]
 |x::r=>if x=c then []::cutsL c r else match cutsL c r with
  |[]=>[[x]]
  |h::t=>(x::h)::t
theorem cutsL_ne (c:UInt8):∀l,cutsL c l≠[]
 |[]=>by simp[cutsL]
 |x::r=>by
  unfold cutsL
  split
  ·simp
  ·split<;>simp
theorem index_one_nil (c:UInt8):index [] [c]=-1:=by simp[index]
theorem index_one_cons (c x:UInt8)(r:List UInt8):index (x::r) [c]=if x=c then 0 else if index r [c]=-1 then-1 else index r [c]+1:=by
 rw[index]
 by_cases h:x=c
 ·subst h;simp
 ·have h':([c].isPrefixOf (x::r))=false:=by
   show(c==x&&List.isPrefixOf [] r)=false
   have:(c==x)=false:=by simpa using fun e:c=x=>h e.symm
   rw[this];rfl
  rw[h',if_neg h]
  simp
theorem cutsL_miss (c:UInt8):∀l,index l [c]=-1→cutsL c l=[l]
 |[],_=>rfl
 |x::r,h=>by
  rw[index_one_cons] at h
  by_cases hx:x=c
  ·rw[if_pos hx] at h;exact absurd h (by decide)
  ·rw[if_neg hx] at h
   have hr:index r [c]=-1:=by
    by_cases e:index r [c]=-1
    ·exact e
    ·rw[if_neg e] at h;have:=index_ge r [c];omega
   rw[cutsL,if_neg hx,cutsL_miss c r hr]
theorem cutsL_hit (c:UInt8):∀(l:List UInt8) (i:Nat),index l [c]=(i:Int)→cutsL c l=l.take i::cutsL c (l.drop (i+1))
 |[],i,h=>by rw[index_one_nil] at h;omega
 |x::r,i,h=>by
  rw[index_one_cons] at h
  by_cases hx:x=c
  ·rw[if_pos hx] at h
   obtain rfl:i=0:=by omega
   rw[cutsL,if_pos hx];rfl
  ·rw[if_neg hx] at h
   by_cases e:index r [c]=-1
   ·rw[if_pos e] at h;omega
   ·rw[if_neg e] at h
    have hge:=index_ge r [c]
    obtain⟨j,rfl⟩:∃j,i=j+1:=⟨i-1,by omega⟩
    have hj:index r [c]=(j:Int):=by omega
    rw[cutsL,if_neg hx,cutsL_hit c r j hj]
    rfl
theorem split_cuts_fuel (c:UInt8):∀(fuel:Nat) (s:List UInt8),s.length<fuel→splitK [c] 0 (countFrom [c] fuel s) s=cutsL c s
 |0,s,h=>absurd h (Nat.not_lt_zero _)
 |fuel+1,s,h=>by
  rw[countFrom]
  by_cases e:index s [c]=-1
  ·rw[if_pos (by simpa using e),cutsL_miss c s e];rfl
  ·rw[if_neg (by simpa using e)]
   have hge:=index_ge s [c]
   obtain⟨i,hi⟩:∃i:Nat,index s [c]=(i:Int):=⟨(index s [c]).toNat,by omega⟩
   rw[cutsL_hit c s i hi,hi,show 1+countFrom [c] fuel (s.drop ((i:Int).toNat+[c].length))=countFrom [c] fuel (s.drop (i+1))+1 by simp[Nat.add_comm]]
   rw[splitK,hi,if_neg (by simp)]
   have hs:s≠[]:=by rintro rfl;rw[index_one_nil] at hi;omega
   have hpos:0<s.length:=List.length_pos_iff.2 hs
   have:=split_cuts_fuel c fuel (s.drop (i+1)) (by rw[List.length_drop];omega)
   simp only[Int.toNat_natCast,Nat.add_zero,List.length_singleton]
   rw[this]
theorem split_cuts (c:UInt8)(s:List UInt8):split s [c]=cutsL c s:=split_cuts_fuel c _ s (Nat.lt_succ_self _)
def digitN (c:UInt8):Nat:=
 if 65≤c.toNat∧c.toNat≤70 then c.toNat-55 else if 97≤c.toNat∧c.toNat≤102 then c.toNat-87 else if 48≤c.toNat∧c.toNat≤57 then c.toNat-48 else 99
def numL (base most:Nat):Nat→List UInt8→Option Nat
 |n,[]=>some n
 |n,c::r=>if base≤digitN c∨most≤n*base+digitN c then none else numL base most (n*base+digitN c) r
def numberL (base most:Nat)(l:List UInt8):Option Nat:=if l=[] then none else numL base most 0 l
theorem numL_append (base most:Nat):∀(l:List UInt8) (n:Nat) (r:List UInt8),numL base most n (l++r)=(numL base most n l).bind fun m=>numL base most m r
 |[],n,r=>rfl
 |c::l,n,r=>by
  rw[List.cons_append,numL,numL]
  split
  ·rfl
  ·exact numL_append base most l _ r
theorem numL_lt (base most:Nat):∀(l:List UInt8) (n m:Nat),n<most→numL base most n l=some m→m<most
 |[],n,m,h,e=>by simp only[numL,Option.some.injEq] at e;omega
 |c::l,n,m,h,e=>by
  rw[numL] at e
  split at e
  ·cases e
  ·exact numL_lt base most l _ m (by omega) e
theorem digitN_dec (d:Nat)(h:d<10):digitN (UInt8.ofNat (48+d))=d:=by
 have:d=0∨d=1∨d=2∨d=3∨d=4∨d=5∨d=6∨d=7∨d=8∨d=9:=by omega
 rcases this with rfl|rfl|rfl|rfl|rfl|rfl|rfl|rfl|rfl|rfl<;>decide
theorem decDigits_ne (u:Nat):decDigits u≠[]:=by
 rw[decDigits];split<;>simp
theorem numL_dec (most:Nat):∀(k u:Nat),u≤k→u<most→numL 10 most 0 (decDigits u)=some u
 |0,u,hk,hm=>by
  obtain rfl:u=0:=by omega
  rw[decDigits,dif_pos (by omega),numL,digitN_dec 0 (by omega),if_neg (by omega)];rfl
 |k+1,u,hk,hm=>by
  rw[decDigits]
  by_cases h:u<10
  ·rw[dif_pos h,numL,digitN_dec u h,if_neg (by omega)];simp[numL]
  ·rw[dif_neg h,numL_append,numL_dec most k (u/10) (by omega) (by omega)]
   simp only[Option.bind]
   rw[numL,digitN_dec _ (by omega),if_neg (by omega),numL]
   congr 1
   omega
def decL (most:Nat)(l:List UInt8):Option Nat:=match numberL 10 most l with
 |some n=>if decDigits n=l then some n else none
 |none=>none
theorem decL_some {most:Nat}{l:List UInt8}{n:Nat}:decL most l=some n↔n<most∧l=decDigits n:=by
 unfold decL
 constructor
 ·intro h
  split at h
  ·rename_i m hm
   split at h
   ·rename_i hd
    cases h
    refine⟨?_,hd.symm⟩
    unfold numberL at hm
    split at hm
    ·cases hm
    ·rcases Nat.lt_or_ge 0 most with h0|h0
     ·exact numL_lt 10 most l 0 _ h0 hm
     ·exfalso
      obtain rfl:most=0:=by omega
      cases l with
      |nil=>contradiction
      |cons c r=>rw[numL,if_pos (.inr (Nat.zero_le _))] at hm;cases hm
   ·cases h
  ·cases h
 ·rintro⟨h1,rfl⟩
  have:numberL 10 most (decDigits n)=some n:=by
   rw[numberL,if_neg (decDigits_ne n),numL_dec most n n (Nat.le_refl _) h1]
  rw[this]
  simp
theorem parseUint10_append:∀(l:List UInt8) (acc:Nat) (r:List UInt8) (m:Nat),parseUint10 acc l=.ok m→parseUint10 acc (l++r)=parseUint10 m r
 |[],acc,r,m,h=>by simp only[parseUint10,NumEnd.ok.injEq] at h;subst h;rfl
 |c::l,acc,r,m,h=>by
  rw[List.cons_append,parseUint10]
  rw[parseUint10] at h
  split
  ·rename_i hc
   rw[if_pos hc] at h
   split
   ·rename_i h2;rw[if_pos h2] at h;cases h
   ·rename_i h2
    rw[if_neg h2] at h
    split
    ·rename_i h3;rw[if_pos h3] at h;cases h
    ·rename_i h3;rw[if_neg h3] at h;exact parseUint10_append l _ r m h
  ·rename_i hc;rw[if_neg hc] at h;cases h
theorem toNat_dec (d:Nat)(h:d<10):(UInt8.ofNat (48+d)).toNat=48+d:=by
 simp[UInt8.toNat_ofNat'];omega
theorem parseUint10_dec:∀(k u:Nat),u≤k→u<9223372036854775808→parseUint10 0 (decDigits u)=.ok u
 |0,u,hk,hm=>by
  obtain rfl:u=0:=by omega
  rw[decDigits,dif_pos (by omega)];decide
 |k+1,u,hk,hm=>by
  rw[decDigits]
  by_cases h:u<10
  ·rw[dif_pos h,parseUint10,toNat_dec u h,if_pos (by omega),if_neg (by omega),if_neg (by omega),parseUint10]
   congr 1;omega
  ·rw[dif_neg h,parseUint10_append _ _ _ _ (parseUint10_dec k (u/10) (by omega) (by omega)),parseUint10,toNat_dec _ (by omega),if_pos (by omega),if_neg (by omega),if_neg (by omega),parseUint10]
   congr 1;omega
theorem decDigits_head (u:Nat):∀k,u≤k→∃(d:Nat) (r:List UInt8),d<10∧decDigits u=UInt8.ofNat (48+d)::r:=by
 intro k
 induction k generalizing u with
 |zero=>intro h;obtain rfl:u=0:=by omega
        exact⟨0,[],by omega,by rw[decDigits,dif_pos (by omega)]⟩
 |succ k ih=>
  intro h
  rw[decDigits]
  by_cases h':u<10
  ·rw[dif_pos h'];exact⟨u,[],h',rfl⟩
  ·rw[dif_neg h']
   obtain⟨d,r,hd,e⟩:=ih (u/10) (by omega)
   exact⟨d,r++[UInt8.ofNat (48+u%10)],hd,by rw[e];rfl⟩
theorem atoi_dec (u:Nat)(hm:u<9223372036854775808):atoiAll (decDigits u)=.ok (u:Int):=by
 obtain⟨d,r,hd,e⟩:=decDigits_head u u (Nat.le_refl _)
 have hp:=parseUint10_dec u u (Nat.le_refl _) hm
 rw[e] at hp⊢
 have ht:=toNat_dec d hd
 simp only[atoiAll,ht]
 rw[if_neg (by omega:¬(48+d=43∨48+d=45))]
 simp only[parseMag]
 rw[if_neg (by simp),hp]
 simp only
 rw[if_neg (by omega),if_neg (by omega),if_neg (by omega)]
theorem decL_atoi (most:Nat)(hmost:most≤1000000)(l:List UInt8):decL most l=match atoiAll l with
 | .ok v=>if 0≤v∧v<most∧itoa v=l then some v.toNat else none
 |_=>none:=by
 cases h:decL most l with
 |some n=>
  obtain⟨h1,rfl⟩:=decL_some.1 h
  rw[atoi_dec n (by omega)]
  simp only
  rw[if_pos ⟨by omega,by omega,by unfold itoa;rw[if_neg (by omega)];simp⟩]
  simp
 |none=>
  cases hv:atoiAll l with
  |ok v=>
   simp only
   by_cases hc:0≤v∧v<most∧itoa v=l
   ·exfalso
    obtain⟨h0,h1,h2⟩:=hc
    have:decL most l=some v.toNat:=decL_some.2 ⟨by omega,by rw[←h2];unfold itoa;rw[if_neg (by omega)]⟩
    rw[this] at h;cases h
   ·rw[if_neg hc]
  |range=>rfl
  |_=>rfl
def hexG (g:List UInt8):Option Nat:=if g.length≤4 then numberL 16 65536 g else none
def groupsL (s:List UInt8):Option (List Nat):=if s=[] then some [] else (cutsL 58 s).mapM hexG
def sixL (s:List UInt8):Option (List Nat):=
 if index s [58,58]=-1 then (groupsL s).bind fun l=>if l.length=8 then some l else none
 else (groupsL (s.take (index s [58,58]).toNat)).bind fun l=>(groupsL (s.drop ((index s [58,58]).toNat+2))).bind fun m=>
  if l.length+m.length≤7 then some (l++List.replicate (8-l.length-m.length) 0++m) else none
def fourL (s:List UInt8):Option (List Nat):=if (cutsL 46 s).length=4 then (cutsL 46 s).mapM (decL 256) else none
def nrow (z:Nat→Bool)(i:Nat):Nat→Nat→Nat×Nat→Nat×Nat
 |0,_,ft=>ft
 |f+1,n,ft=>if z n then nrow z i f (n+1) (if 2≤n+1-i∧ft.2-ft.1<n+1-i then (i,n+1) else ft) else ft
def nrows (z:Nat→Bool):Nat→Nat→Nat×Nat→Nat×Nat
 |0,_,ft=>ft
 |f+1,i,ft=>nrows z f (i+1) (nrow z i (8-i) i ft)
def noughtsZ (z:Nat→Bool):Nat×Nat:=nrows z 8 0 (0,0)
def runZ (z:Nat→Bool):Nat→Nat→Nat
 |0,_=>0
 |f+1,i=>if z i then runZ z f (i+1)+1 else 0
def bestGo (z:Nat→Bool):Nat→Nat→Nat→Nat
 |0,_,b=>b
 |f+1,i,b=>bestGo z f (i+1) (if 2≤runZ z (8-i) i∧(b=8∨runZ z (8-b) b<runZ z (8-i) i) then i else b)
def bestZ (z:Nat→Bool):Nat:=bestGo z 8 0 8
abbrev Tok:=Option Nat
def txtGo (z:Nat→Bool)(best:Nat):Nat→Nat→List Tok→List Tok
 |0,_,T=>T
 |f+1,i,T=>if 8≤i then T else if i=best then txtGo z best f (i+runZ z (8-best) best) (T++[none,none])
  else txtGo z best f (i+1) (T++(if T=[]∨T.getLast? =some none then [] else [none])++[some i])
def refTok (z:Nat→Bool):List Tok:=txtGo z (bestZ z) 9 0 []
def joinT:List Nat→List Tok
 |[]=>[]
 |[i]=>[some i]
 |i::l=>some i::none::joinT l
def progTok (z:Nat→Bool):List Tok:=
 if (noughtsZ z).1=(noughtsZ z).2 then joinT (List.range 8) else joinT ((List.range 8).take (noughtsZ z).1)++[none,none]++joinT ((List.range 8).drop (noughtsZ z).2)
def zof (l:List Bool)(i:Nat):Bool:=l.getD i false
theorem tok_eq8:∀a b c d e f g h:Bool,progTok (zof [a,b,c,d,e,f,g,h])=refTok (zof [a,b,c,d,e,f,g,h]):=by decide
theorem noughts_bd8:∀a b c d e f g h:Bool,(noughtsZ (zof [a,b,c,d,e,f,g,h])).1≤(noughtsZ (zof [a,b,c,d,e,f,g,h])).2∧(noughtsZ (zof [a,b,c,d,e,f,g,h])).2≤8:=by decide
def flatT (G:Nat→List UInt8):List Tok→List UInt8
 |[]=>[]
 |none::l=>58::flatT G l
 |some i::l=>G i++flatT G l
theorem flatT_append (G:Nat→List UInt8):∀a b:List Tok,flatT G (a++b)=flatT G a++flatT G b
 |[],b=>rfl
 |none::a,b=>by rw[List.cons_append,flatT,flatT,flatT_append G a b];rfl
 |some i::a,b=>by rw[List.cons_append,flatT,flatT,flatT_append G a b,List.append_assoc]
def joinL (c:UInt8):List (List UInt8)→List UInt8
 |[]=>[]
 |[p]=>p
 |p::l=>p++c::joinL c l
theorem joinL_cons2 (c:UInt8)(p q:List UInt8)(l:List (List UInt8)):joinL c (p::q::l)=p++c::joinL c (q::l):=rfl
theorem flat_join (G:Nat→List UInt8):∀l:List Nat,flatT G (joinT l)=joinL 58 (l.map G)
 |[]=>rfl
 |[i]=>by simp[joinT,flatT,joinL]
 |i::j::l=>by
  have:=flat_join G (j::l)
  rw[joinT]
  ·simp only[flatT,List.map_cons,joinL_cons2]
   rw[this];rfl
  ·simp
theorem cutsL_none (c:UInt8):∀p:List UInt8,c∉p→cutsL c p=[p]
 |[],_=>rfl
 |x::r,h=>by
  simp only[List.mem_cons,not_or] at h
  rw[cutsL,if_neg (fun e=>h.1 e.symm),cutsL_none c r h.2]
theorem cutsL_app (c:UInt8):∀(p r:List UInt8),c∉p→cutsL c (p++c::r)=p::cutsL c r
 |[],r,_=>by rw[List.nil_append,cutsL,if_pos rfl]
 |x::p,r,h=>by
  simp only[List.mem_cons,not_or] at h
  rw[List.cons_append,cutsL,if_neg (fun e=>h.1 e.symm),cutsL_app c p r h.2]
theorem cutsL_join (c:UInt8):∀l:List (List UInt8),l≠[]→(∀p∈l,c∉p)→cutsL c (joinL c l)=l
 |[],h,_=>absurd rfl h
 |[p],_,h=>by rw[joinL];exact cutsL_none c p (h p (by simp))
 |p::q::l,_,h=>by
  rw[joinL_cons2,cutsL_app c p _ (h p (by simp)),cutsL_join c (q::l) (by simp) (fun p' hp=>h p' (by simp[hp]))]
open Go.RowKit
def grpI (B:Nat→Int)(k:Nat):Int:=B (2*k)*256+B (2*k+1)
theorem grpI_bd {B:Nat→Int}(hB:U8 B)(k:Nat):0≤grpI B k∧grpI B k<65536:=by
 have h1:=hB (2*k)
 have h2:=hB (2*k+1)
 unfold grpI;omega
theorem or_mul2 (a b i m:Nat)(hm:m=2^i)(h:a<m):(b*m) ||| a=b*m+a:=by
 subst hm
 rw[←Nat.shiftLeft_eq,Nat.shiftLeft_add_eq_or_of_lt h]
theorem or_byte (x y:Int)(h0:0≤x)(h1:x<256)(h2:0≤y)(h3:y<256):bits BinOp.or IntKind.u64 (x*256) y=x*256+y:=by
 obtain⟨n,rfl⟩:=Int.eq_ofNat_of_zero_le h0
 obtain⟨m,rfl⟩:=Int.eq_ofNat_of_zero_le h2
 rw[show((n:Int)*256)=((n*256:Nat):Int) by omega,u64_or_nat (n*256) m (by omega) (by omega),or_mul2 m n 8 256 (by decide) (by omega)]
 omega
theorem group_any (six:Bool)(B:Nat→Int)(hB:U8 B)(k:Nat)(hk:k<8)(w:World):Calls Tryz.prog 131 #[adV six B,.int .i64 (k:Int)] w (RetAt w (.int .u64 (grpI B k))):=by
 have HX:AdBox (w.alloc (.cells #[.bool six,.int .u8 (B 0),.int .u8 (B 1),.int .u8 (B 2),.int .u8 (B 3),.int .u8 (B 4),.int .u8 (B 5),.int .u8 (B 6),.int .u8 (B 7),.int .u8 (B 8),.int .u8 (B 9),.int .u8 (B 10),.int .u8 (B 11),.int .u8 (B 12),.int .u8 (B 13),.int .u8 (B 14),.int .u8 (B 15)] 27)) w.heap.size 27 six B:=AdBox.made w _ six B
 have HB:=Lib.hid (Below.all (Below.refl w.heap.size w) (.cells #[.bool six,.int .u8 (B 0),.int .u8 (B 1),.int .u8 (B 2),.int .u8 (B 3),.int .u8 (B 4),.int .u8 (B 5),.int .u8 (B 6),.int .u8 (B 7),.int .u8 (B 8),.int .u8 (B 9),.int .u8 (B 10),.int .u8 (B 11),.int .u8 (B 12),.int .u8 (B 13),.int .u8 (B 14),.int .u8 (B 15)] 27))
 have hcx:=HX.cell (2*k) (by omega)
 have hcy:=HX.cell (2*k+1) (by omega)
 have hx:=hB (2*k)
 have hy:=hB (2*k+1)
 have HG:Hid (grpI B k=B (2*k)*256+B (2*k+1)):=Lib.hid rfl
 clear HX
 unfold adV
 go_enter Tryz.func131,Tryz.ntmps131
 go_wp2_with fail
 generalize w.alloc (.cells #[.bool six,.int .u8 (B 0),.int .u8 (B 1),.int .u8 (B 2),.int .u8 (B 3),.int .u8 (B 4),.int .u8 (B 5),.int .u8 (B 6),.int .u8 (B 7),.int .u8 (B 8),.int .u8 (B 9),.int .u8 (B 10),.int .u8 (B 11),.int .u8 (B 12),.int .u8 (B 13),.int .u8 (B 14),.int .u8 (B 15)] 27)=w1 at*
 generalize B (2*k)=x at*
 generalize B (2*k+1)=y at*
 go_region
 go_wp2_with fail
 go_ret
 exact .mk (by rw[or_byte x y hx.1 hx.2 hy.1 hy.2,HG.out];rfl) HB.out.drew
theorem rgroup_any (six:Bool)(B:Nat→Int)(hB:U8 B)(k:Nat)(hk:k<8)(w:World):Calls Tryz.prog 134 #[adV six B,.int .i64 (k:Int)] w (RetAt w (.int .i64 (grpI B k))):=by
 have HX:AdBox (w.alloc (.cells #[.bool six,.int .u8 (B 0),.int .u8 (B 1),.int .u8 (B 2),.int .u8 (B 3),.int .u8 (B 4),.int .u8 (B 5),.int .u8 (B 6),.int .u8 (B 7),.int .u8 (B 8),.int .u8 (B 9),.int .u8 (B 10),.int .u8 (B 11),.int .u8 (B 12),.int .u8 (B 13),.int .u8 (B 14),.int .u8 (B 15)] 36)) w.heap.size 36 six B:=AdBox.made w _ six B
 have HB:=Lib.hid (Below.all (Below.refl w.heap.size w) (.cells #[.bool six,.int .u8 (B 0),.int .u8 (B 1),.int .u8 (B 2),.int .u8 (B 3),.int .u8 (B 4),.int .u8 (B 5),.int .u8 (B 6),.int .u8 (B 7),.int .u8 (B 8),.int .u8 (B 9),.int .u8 (B 10),.int .u8 (B 11),.int .u8 (B 12),.int .u8 (B 13),.int .u8 (B 14),.int .u8 (B 15)] 36))
 have hcx:=HX.cell (2*k) (by omega)
 have hcy:=HX.cell (2*k+1) (by omega)
 have hx:=hB (2*k)
 have hy:=hB (2*k+1)
 have HG:Hid (grpI B k=B (2*k)*256+B (2*k+1)):=Lib.hid rfl
 clear HX
 unfold adV
 go_enter Tryz.func134,Tryz.ntmps134
 go_wp2_with fail
 generalize w.alloc (.cells #[.bool six,.int .u8 (B 0),.int .u8 (B 1),.int .u8 (B 2),.int .u8 (B 3),.int .u8 (B 4),.int .u8 (B 5),.int .u8 (B 6),.int .u8 (B 7),.int .u8 (B 8),.int .u8 (B 9),.int .u8 (B 10),.int .u8 (B 11),.int .u8 (B 12),.int .u8 (B 13),.int .u8 (B 14),.int .u8 (B 15)] 36)=w1 at*
 generalize B (2*k)=x at*
 generalize B (2*k+1)=y at*
 go_region
 go_wp2_with fail
 go_ret
 exact .mk (by rw[HG.out];rfl) HB.out.drew
theorem noughts_any (six:Bool)(B:Nat→Int)(hB:U8 B)(z:Nat→Bool)(hz:∀k,k<8→z k=(grpI B k==0))(w:World):
 Calls Tryz.prog 132 #[adV six B] w (RetAt w (.tuple #[.int .i64 ((noughtsZ z).1:Nat),.int .i64 ((noughtsZ z).2:Nat)])):=by
 have HX:Hid (AdBox (w.alloc (.cells #[.bool six,.int .u8 (B 0),.int .u8 (B 1),.int .u8 (B 2),.int .u8 (B 3),.int .u8 (B 4),.int .u8 (B 5),.int .u8 (B 6),.int .u8 (B 7),.int .u8 (B 8),.int .u8 (B 9),.int .u8 (B 10),.int .u8 (B 11),.int .u8 (B 12),.int .u8 (B 13),.int .u8 (B 14),.int .u8 (B 15)] 27)) w.heap.size 27 six B):=Lib.hid (AdBox.made w _ six B)
 have HB:=Lib.hid (Below.all (Below.refl w.heap.size w) (.cells #[.bool six,.int .u8 (B 0),.int .u8 (B 1),.int .u8 (B 2),.int .u8 (B 3),.int .u8 (B 4),.int .u8 (B 5),.int .u8 (B 6),.int .u8 (B 7),.int .u8 (B 8),.int .u8 (B 9),.int .u8 (B 10),.int .u8 (B 11),.int .u8 (B 12),.int .u8 (B 13),.int .u8 (B 14),.int .u8 (B 15)] 27))
 have HG:=Lib.hid (fun k hk w=>group_any six B hB k hk w)
 have HZ:=Lib.hid hz
 clear hB hz
 unfold adV at*
 go_enter Tryz.func132,Tryz.ntmps132
 go_wp2_with fail
 generalize w.alloc (.cells #[.bool six,.int .u8 (B 0),.int .u8 (B 1),.int .u8 (B 2),.int .u8 (B 3),.int .u8 (B 4),.int .u8 (B 5),.int .u8 (B 6),.int .u8 (B 7),.int .u8 (B 8),.int .u8 (B 9),.int .u8 (B 10),.int .u8 (B 11),.int .u8 (B 12),.int .u8 (B 13),.int .u8 (B 14),.int .u8 (B 15)] 27)=w1 at*
 go_step3
 go_wp2_with fail
 go_step3
 go_wp2_with fail
 go_loopg [2,3,4] 8 (fun g u2 u3 u4 wr=>∃(i f t:Nat),i+g=8∧f≤t∧t≤8∧u2=.int .i64 f∧u3=.int .i64 t∧u4=.int .i64 i∧Hid (nrows z (8-i) i (f,t)=noughtsZ z)∧Hid (AdBox wr w.heap.size 27 six B)∧Hid (Below w.heap.size w wr))
 case atStart=>exact⟨0,0,0,by omega,by omega,by omega,rfl,rfl,rfl,Lib.hid rfl,HX,HB⟩
 case round=>
  obtain⟨i,f,t,hi,hft,ht,rfl,rfl,rfl,HN,HX,HW⟩:=hrel
  by_cases hlt:i<8
  ·have HN2:Hid (nrows z (7-i) (i+1) (nrow z i (8-i) i (f,t))=noughtsZ z):=Lib.hid (by rw[←HN.out,show nrows z (8-i) i (f,t)=nrows z (7-i+1) i (f,t) by rw[show 8-i=7-i+1 by omega]];rfl)
   have hd:decide ((i:Int)<8)=true:=by simp;omega
   go_wp2_with fail
   clear hd
   go_loopg [2,3,5] (8-i) (fun h u2 u3 u5 wr=>∃(n f t:Nat),n+h=8∧i≤n∧f≤t∧t≤8∧u2=.int .i64 f∧u3=.int .i64 t∧u5=.int .i64 n∧Hid (nrows z (7-i) (i+1) (nrow z i (8-n) n (f,t))=noughtsZ z)∧Hid (AdBox wr w.heap.size 27 six B)∧Hid (Below w.heap.size w wr))
   case atStart=>exact⟨i,f,t,by omega,by omega,hft,ht,rfl,rfl,rfl,HN2,HX,HW⟩
   case round=>
    obtain⟨n,f,t,hn,hin,hft,ht,rfl,rfl,rfl,HN,HX,HW⟩:=hrel
    by_cases hlt2:n<8
    ·have hpp:=HX.out.part
     have HGn:=Lib.hid (HG.out n hlt2)
     have hzn:=HZ.out n hlt2
     have HS:Hid (nrow z i (8-n) n (f,t)=if z n then nrow z i (8-(n+1)) (n+1) (if 2≤n+1-i∧t-f<n+1-i then (i,n+1) else (f,t)) else (f,t)):=Lib.hid (by rw[show 8-n=8-(n+1)+1 by omega];rfl)
     generalize grpI B n=g at*
     go_wp2_with fail
     refine Calls.mono (HGn.out _) ?_
     rintro e w2 ⟨rfl,hb2⟩
     have HX2:=Lib.hid (HX.out.below hb2)
     have HW2:=Lib.hid (Below.via HW.out hb2)
     clear hpp hb2 HX HW
     by_cases hg:g=0
     ·have hzt:z n=true:=by rw[hzn,hg];rfl
      subst hg
      rw[hzt,if_pos rfl] at HS
      have HS2:=HS.out
      clear HS hzn hzt HGn
      by_cases h2:2≤n+1-i
      ·have h2':(2:Int)≤n+1-i:=by omega
       by_cases h3:t-f<n+1-i
       ·have h3':(t:Int)-f<n+1-i:=by omega
        rw[if_pos ⟨h2,h3⟩] at HS2
        have HS3:=Lib.hid HS2
        clear HS2 h2 h3
        go_wp2_with fail
        go_roundg (8-(n+1))
        case measure=>omega
        case rel=>exact⟨n+1,i,n+1,by omega,by omega,by omega,by omega,rfl,by go_num,by go_num,Lib.hid (by rw[←HS3.out];exact HN.out),HX2,HW2⟩
       ·have h3':¬((n:Int)+1-i>t-f):=by omega
        have h3'':¬((t:Int)-f<n+1-i):=by omega
        rw[if_neg (fun h=>h3 h.2)] at HS2
        have HS3:=Lib.hid HS2
        clear HS2 h2 h3
        go_wp2_with fail
        go_roundg (8-(n+1))
        case measure=>omega
        case rel=>exact⟨n+1,f,t,by omega,by omega,by omega,by omega,rfl,rfl,by go_num,Lib.hid (by rw[←HS3.out];exact HN.out),HX2,HW2⟩
      ·have h2':¬((2:Int)≤n+1-i):=by omega
       rw[if_neg (fun h=>h2 h.1)] at HS2
       have HS3:=Lib.hid HS2
       clear HS2 h2
       go_wp2_with fail
       go_roundg (8-(n+1))
       case measure=>omega
       case rel=>exact⟨n+1,f,t,by omega,by omega,by omega,by omega,rfl,rfl,by go_num,Lib.hid (by rw[←HS3.out];exact HN.out),HX2,HW2⟩
     ·have hzt:z n=false:=by rw[hzn];simpa using hg
      rw[hzt,if_neg (by simp)] at HS
      clear hzn hzt HGn
      go_wp2_with fail
      go_roundg (8-(i+1))
      case measure=>omega
      case rel=>exact⟨i+1,f,t,by omega,by omega,by omega,rfl,rfl,by go_num,Lib.hid (by rw[←HN.out,HS.out,show 8-(i+1)=7-i by omega]),HX2,HW2⟩
    ·obtain rfl:n=8:=by omega
     have HN3:Hid (nrows z (7-i) (i+1) (f,t)=noughtsZ z):=HN
     go_wp2_with fail
     go_roundg (8-(i+1))
     case measure=>omega
     case rel=>exact⟨i+1,f,t,by omega,by omega,by omega,rfl,rfl,by go_num,Lib.hid (by rw[←HN3.out,show 8-(i+1)=7-i by omega]),HX,HW⟩
  ·obtain rfl:i=8:=by omega
   have HN3:Hid ((f,t)=noughtsZ z):=HN
   go_wp2_with fail
   go_ret2
   exact .mk (by rw[←HN3.out];rfl) HW.out
open Go.RowKit
theorem w64_1:IntKind.u64.wrap (-16)=18446744073709551600:=by decide
theorem w64_2:bits BinOp.and IntKind.u64 16 18446744073709551600=16:=by kernel_rfl
theorem w64_3:IntKind.u64.wrap (16*285870213051353865)=4573923408821661840:=by decide
theorem w64_4:(4573923408821661840:Int)/288230376151711744=15:=by decide
theorem tz64_16 (w:World)(hb:w.cell? ⟨7,15,none⟩=some (.int .u8 4)):Calls Tryz.prog 239 #[.int .u64 16] w (fun e w'=>e=.returned (.int .i64 4)∧w=w'):=by
 have h1:=w64_1
 have h2:=w64_2
 have h3:=w64_3
 have h4:=w64_4
 go_enter Tryz.func239,Tryz.ntmps239
 go_wp2_with fail
 go_ret
 exact⟨rfl,rfl⟩
theorem tz_16 (w:World)(hb:w.cell? ⟨7,15,none⟩=some (.int .u8 4)):Calls Tryz.prog 232 #[.int .u64 16] w (fun e w'=>e=.returned (.int .i64 4)∧w=w'):=by
 go_enter Tryz.func232,Tryz.ntmps232
 go_wp2_with fail
 refine Calls.mono (tz64_16 w hb) ?_
 rintro e w2 ⟨rfl,rfl⟩
 go_wp2_with fail
 go_ret
 exact⟨rfl,rfl⟩
theorem p2_16 (w:World):Calls Tryz.prog 231 #[.int .i64 16] w (fun e w'=>e=.returned (.bool true)∧w=w'):=by
 have h1:bits BinOp.and IntKind.i64 16 15=0:=by kernel_rfl
 go_enter Tryz.func231,Tryz.ntmps231
 go_wp2_with fail
 go_ret
 exact⟨rfl,rfl⟩
open Go.RowKit
structure Env (w:World):Prop where
 len:∃m,w.cell? ⟨0,0,none⟩=some (.int .i64 m)
 syn:∃te pe,w.cell? ⟨1,0,none⟩=some (.iface te pe)
 rng:∃te pe,w.cell? ⟨2,0,none⟩=some (.iface te pe)
 tab:Lib.TabIs Tryz.prog w "internal/strconv.uint64pow10" .u64 Lib.pow10Tab
 bits:w.cell? ⟨7,15,none⟩=some (.int .u8 4)
theorem Env.below {w w':World}(h:Env w)(hb:Below w.heap.size w w'):Env w':=by
 obtain⟨m,hm⟩:=h.len
 obtain⟨t1,p1,h1⟩:=h.syn
 obtain⟨t2,p2,h2⟩:=h.rng
 exact⟨⟨m,(hb.cell (p:=⟨_,_,none⟩) (World.block_lt_of_cell? w _ hm)).trans hm⟩,⟨t1,p1,(hb.cell (p:=⟨_,_,none⟩) (World.block_lt_of_cell? w _ h1)).trans h1⟩,
  ⟨t2,p2,(hb.cell (p:=⟨_,_,none⟩) (World.block_lt_of_cell? w _ h2)).trans h2⟩,Joins.tab_stays (g:=3) (by kernel_rfl) h.tab hb (Nat.le_refl _),(hb.cell (p:=⟨_,_,none⟩) (World.block_lt_of_cell? w _ h.bits)).trans h.bits⟩
theorem Env.later {w:World}(h:Env w)(x:Later w):Env x.world:=h.below x.below
theorem take_snoc8 (s:ByteArray)(k:Nat)(h:k<s.size):s.data.toList.take (k+1)=s.data.toList.take k++[s[k]]:=by
 rw[List.take_succ_eq_append_getElem (by simpa using h)];rfl
theorem drop_cons8 (s:ByteArray)(k:Nat)(h:k<s.size):s.data.toList.drop k=s[k]::s.data.toList.drop (k+1):=by
 rw[List.drop_eq_getElem_cons (by simpa using h)];rfl
theorem index_byte (s:ByteArray)(k:Nat)(h:k<s.size)(c:Nat)(hc:s[k].toNat=c)(w:World):(Instr.index 9 (.string s) (.int .i64 (k:Int))).run Tryz.prog w=.ok (.int .u8 (c:Int)) w:=by
 rw[run_index_string w 9 s .i64 k Tryz.underlying9,dif_pos (by omega)]
 simp only[Int.toNat_natCast,hc]
def numV (o:Option Nat):Value:=match o with
 |some n=>.tuple #[.int .i64 n,.bool true]
 |none=>.tuple #[.int .i64 0,.bool false]
theorem numV_none {o:Option Nat}(h:o=none):Value.tuple #[.int .i64 0,.bool false]=numV o:=by rw[h];rfl
theorem number_any (s:ByteArray)(base most:Nat)(w:World)(hs:s.size≤1000)(hb:base≤16)(hm:most≤65536)(hm1:1≤most):
 Calls Tryz.prog 61 #[.string s,.int .i64 base,.int .i64 most] w (RetAt w (numV (numberL base most s.data.toList))):=by
 go_enter Tryz.func61,Tryz.ntmps61
 go_wp2_with fail
 go_loopw [8,9] (fun u8 u9 wr=>∃k n:Nat,k≤s.size∧u9=.int .i64 k∧u8=.int .i64 n∧n<most∧Hid (numL base most 0 (s.data.toList.take k)=some n)∧wr=w) (fun _ u9 _=>(s.size:Int)-intOf u9 |>.toNat)
 case atStart=>exact⟨0,0,Nat.zero_le _,rfl,rfl,by omega,Lib.hid rfl,rfl⟩
 case round=>
  obtain⟨k,n,hk,rfl,rfl,hn,HN,rfl⟩:=hrel
  by_cases hlt:k<s.size
  ·have hts:=take_snoc8 s k hlt
   have HT:Hid (numL base most 0 (s.data.toList.take (k+1))=if base≤digitN s[k]∨most≤n*base+digitN s[k] then none else some (n*base+digitN s[k])):=Lib.hid (by
    rw[hts,numL_append,HN.out]
    simp only[Option.bind,numL])
   have HR:Hid (base≤digitN s[k]∨most≤n*base+digitN s[k]→numberL base most s.data.toList=none):=Lib.hid (fun h=>by
    have hne:s.data.toList≠[]:=fun e=>by
     have h0:=congrArg List.length e
     rw[Array.length_toList,ByteArray.size_data] at h0
     simp only[List.length_nil] at h0
     omega
    rw[numberL,if_neg hne]
    have e:s.data.toList=s.data.toList.take (k+1)++s.data.toList.drop (k+1):=(List.take_append_drop _ _).symm
    rw[e,numL_append,HT.out,if_pos h];rfl)
   clear hts
   have hD:digitN s[k]=if 65≤s[k].toNat∧s[k].toNat≤70 then s[k].toNat-55 else if 97≤s[k].toNat∧s[k].toNat≤102 then s[k].toNat-87 else if 48≤s[k].toNat∧s[k].toNat≤57 then s[k].toNat-48 else 99:=rfl
   have c1:s[k].toNat<256:=s[k].toNat_lt
   have hix:=index_byte s k hlt _ rfl
   generalize digitN s[k]=D at*
   generalize s[k].toNat=c at*
   have hmul:n*base≤65536*16:=Nat.mul_le_mul (by omega) hb
   have hmi:((n*base:Nat):Int)=(n:Int)*base:=by push_cast;rfl
   have m0:(0:Int)≤(n:Int)*base:=by rw[←hmi];omega
   have m1:(n:Int)*base≤1048576:=by rw[←hmi];omega
   rcases(show c<48∨(48≤c∧c≤57)∨(58≤c∧c≤64)∨(65≤c∧c≤70)∨(71≤c∧c≤96)∨(97≤c∧c≤102)∨103≤c by omega) with h|⟨h,h'⟩|⟨h,h'⟩|⟨h,h'⟩|⟨h,h'⟩|⟨h,h'⟩|h
   ·have hv:D=99:=by rw[hD];(repeat' split)<;>omega
    have HV:=Lib.hid hv
    have HMI:=Lib.hid hmi
    clear hD hv hmi
    go_wp2_with fail
    all_goals first
     |(go_ret2;exact .mk (numV_none (HR.out (by have:=HV.out;have:=HMI.out;omega))) (Below.refl _ _))
     |(have hnf:¬(base≤D∨most≤n*base+D):=by(have:=HV.out;have:=HMI.out;omega)
       go_roundw
       case rel=>exact⟨k+1,n*base+D,by omega,by go_num,val_int (by have:=HV.out;have:=HMI.out;omega),by omega,Lib.hid (by rw[HT.out,if_neg hnf]),trivial⟩
       case measure=>simp[intOf];omega)
   ·have hv:D=c-48:=by rw[hD];(repeat' split)<;>omega
    have HV:=Lib.hid hv
    have HMI:=Lib.hid hmi
    clear hD hv hmi
    go_wp2_with fail
    all_goals first
     |(go_ret2;exact .mk (numV_none (HR.out (by have:=HV.out;have:=HMI.out;omega))) (Below.refl _ _))
     |(have hnf:¬(base≤D∨most≤n*base+D):=by(have:=HV.out;have:=HMI.out;omega)
       go_roundw
       case rel=>exact⟨k+1,n*base+D,by omega,by go_num,val_int (by have:=HV.out;have:=HMI.out;omega),by omega,Lib.hid (by rw[HT.out,if_neg hnf]),trivial⟩
       case measure=>simp[intOf];omega)
   ·have hv:D=99:=by rw[hD];(repeat' split)<;>omega
    have HV:=Lib.hid hv
    have HMI:=Lib.hid hmi
    clear hD hv hmi
    go_wp2_with fail
    all_goals first
     |(go_ret2;exact .mk (numV_none (HR.out (by have:=HV.out;have:=HMI.out;omega))) (Below.refl _ _))
     |(have hnf:¬(base≤D∨most≤n*base+D):=by(have:=HV.out;have:=HMI.out;omega)
       go_roundw
       case rel=>exact⟨k+1,n*base+D,by omega,by go_num,val_int (by have:=HV.out;have:=HMI.out;omega),by omega,Lib.hid (by rw[HT.out,if_neg hnf]),trivial⟩
       case measure=>simp[intOf];omega)
   ·have hv:D=c-55:=by rw[hD];(repeat' split)<;>omega
    have HV:=Lib.hid hv
    have HMI:=Lib.hid hmi
    clear hD hv hmi
    go_wp2_with fail
    all_goals first
     |(go_ret2;exact .mk (numV_none (HR.out (by have:=HV.out;have:=HMI.out;omega))) (Below.refl _ _))
     |(have hnf:¬(base≤D∨most≤n*base+D):=by(have:=HV.out;have:=HMI.out;omega)
       go_roundw
       case rel=>exact⟨k+1,n*base+D,by omega,by go_num,val_int (by have:=HV.out;have:=HMI.out;omega),by omega,Lib.hid (by rw[HT.out,if_neg hnf]),trivial⟩
       case measure=>simp[intOf];omega)
   ·have hv:D=99:=by rw[hD];(repeat' split)<;>omega
    have HV:=Lib.hid hv
    have HMI:=Lib.hid hmi
    clear hD hv hmi
    go_wp2_with fail
    all_goals first
     |(go_ret2;exact .mk (numV_none (HR.out (by have:=HV.out;have:=HMI.out;omega))) (Below.refl _ _))
     |(have hnf:¬(base≤D∨most≤n*base+D):=by(have:=HV.out;have:=HMI.out;omega)
       go_roundw
       case rel=>exact⟨k+1,n*base+D,by omega,by go_num,val_int (by have:=HV.out;have:=HMI.out;omega),by omega,Lib.hid (by rw[HT.out,if_neg hnf]),trivial⟩
       case measure=>simp[intOf];omega)
   ·have hv:D=c-87:=by rw[hD];(repeat' split)<;>omega
    have HV:=Lib.hid hv
    have HMI:=Lib.hid hmi
    clear hD hv hmi
    go_wp2_with fail
    all_goals first
     |(go_ret2;exact .mk (numV_none (HR.out (by have:=HV.out;have:=HMI.out;omega))) (Below.refl _ _))
     |(have hnf:¬(base≤D∨most≤n*base+D):=by(have:=HV.out;have:=HMI.out;omega)
       go_roundw
       case rel=>exact⟨k+1,n*base+D,by omega,by go_num,val_int (by have:=HV.out;have:=HMI.out;omega),by omega,Lib.hid (by rw[HT.out,if_neg hnf]),trivial⟩
       case measure=>simp[intOf];omega)
   ·have hv:D=99:=by rw[hD];(repeat' split)<;>omega
    have HV:=Lib.hid hv
    have HMI:=Lib.hid hmi
    clear hD hv hmi
    go_wp2_with fail
    all_goals first
     |(go_ret2;exact .mk (numV_none (HR.out (by have:=HV.out;have:=HMI.out;omega))) (Below.refl _ _))
     |(have hnf:¬(base≤D∨most≤n*base+D):=by(have:=HV.out;have:=HMI.out;omega)
       go_roundw
       case rel=>exact⟨k+1,n*base+D,by omega,by go_num,val_int (by have:=HV.out;have:=HMI.out;omega),by omega,Lib.hid (by rw[HT.out,if_neg hnf]),trivial⟩
       case measure=>simp[intOf];omega)
  ·obtain rfl:k=s.size:=by omega
   have HF:Hid (s.data.toList.take s.size=s.data.toList):=Lib.hid (List.take_of_length_le (by rw[Array.length_toList,ByteArray.size_data];exact Nat.le_refl _))
   go_wp2_with fail
   go_ret2
   refine .mk ?_ (Below.refl _ _)
   have hnum:=HN.out
   rw[HF.out] at hnum
   by_cases h0:s.data.toList=[]
   ·have hz:s.size=0:=by
     have:=congrArg List.length h0
     rwa [Array.length_toList,ByteArray.size_data] at this
    rw[h0] at hnum⊢
    simp only[numL,Option.some.injEq] at hnum
    subst hnum
    simp[numberL,numV,hz]
   ·have hz:0<s.size:=by
     rcases Nat.eq_zero_or_pos s.size with e|e
     ·exact absurd (List.eq_nil_of_length_eq_zero (by rw[Array.length_toList,ByteArray.size_data];exact e)) h0
     ·exact e
    rw[numberL,if_neg h0,hnum]
    simp[numV,hz]
open Go.RowKit
def hexc (d:Nat):UInt8:=if d<10 then UInt8.ofNat (48+d) else UInt8.ofNat (87+d)
def digB (b u:Nat):List UInt8:=if h:u<b∨b<2 then [hexc u] else digB b (u/b)++[hexc (u%b)]
termination_by u
decreasing_by exact Nat.div_lt_self (by omega) (by omega)
theorem digB_ten:∀(k u:Nat),u≤k→digB 10 u=Lib.decDigits u
 |0,u,h=>by
  obtain rfl:u=0:=by omega
  rw[digB,dif_pos (by omega),Lib.decDigits,dif_pos (by omega)];rfl
 |k+1,u,h=>by
  rw[digB,Lib.decDigits]
  by_cases hu:u<10
  ·rw[dif_pos (.inl hu),dif_pos hu,hexc,if_pos hu]
  ·rw[dif_neg (by omega),dif_neg hu,digB_ten k (u/10) (by omega),hexc,if_pos (by omega)]
theorem toList_data8 (s:ByteArray):s.toList=s.data.toList:=ByteArray.toList_eq s
theorem digB_len (b:Nat):∀(k u:Nat),u≤k→(digB b u).length≤u+1
 |0,u,h=>by
  obtain rfl:u=0:=by omega
  rw[digB];split
  ·simp
  ·rename_i h';simp only[not_or,Nat.not_lt] at h';omega
 |k+1,u,h=>by
  rw[digB];split
  ·simp
  ·rename_i h'
   simp only[not_or,Nat.not_lt] at h'
   have hlt:u/b<u:=Nat.div_lt_self (by omega) (by omega)
   have:=digB_len b k (u/b) (by omega)
   rw[List.length_append,List.length_singleton]
   omega
theorem concat_small (a b:List UInt8)(ha:a.length≤100000)(hb:b.length≤100000)(w:World):(binOp .add 9 (.string ⟨a.toArray⟩) (.string ⟨b.toArray⟩)).run Tryz.prog w=.ok (.string ⟨(a++b).toArray⟩) w:=by
 have e:(⟨a.toArray⟩:ByteArray)++⟨b.toArray⟩=⟨(a++b).toArray⟩:=by
  apply ByteArray.ext
  simp
 have h:=run_string_add_sum (P:=Tryz.prog) w ⟨a.toArray⟩ ⟨b.toArray⟩ (by simp[ByteArray.size];omega)
 rw[e] at h
 simpa[binOp] using h
theorem slice_digit0 (w:World):(Instr.slice 9 (.string ⟨#[48,49,50,51,52,53,54,55,56,57,97,98,99,100,101,102]⟩) (some (.int .i64 ((0:Nat):Int))) (some (.int .i64 (((0:Nat):Int)+1))) none).run Tryz.prog w=.ok (.string ⟨#[hexc 0]⟩) w:=by kernel_rfl
theorem slice_digit1 (w:World):(Instr.slice 9 (.string ⟨#[48,49,50,51,52,53,54,55,56,57,97,98,99,100,101,102]⟩) (some (.int .i64 ((1:Nat):Int))) (some (.int .i64 (((1:Nat):Int)+1))) none).run Tryz.prog w=.ok (.string ⟨#[hexc 1]⟩) w:=by kernel_rfl
theorem slice_digit2 (w:World):(Instr.slice 9 (.string ⟨#[48,49,50,51,52,53,54,55,56,57,97,98,99,100,101,102]⟩) (some (.int .i64 ((2:Nat):Int))) (some (.int .i64 (((2:Nat):Int)+1))) none).run Tryz.prog w=.ok (.string ⟨#[hexc 2]⟩) w:=by kernel_rfl
theorem slice_digit3 (w:World):(Instr.slice 9 (.string ⟨#[48,49,50,51,52,53,54,55,56,57,97,98,99,100,101,102]⟩) (some (.int .i64 ((3:Nat):Int))) (some (.int .i64 (((3:Nat):Int)+1))) none).run Tryz.prog w=.ok (.string ⟨#[hexc 3]⟩) w:=by kernel_rfl
theorem slice_digit4 (w:World):(Instr.slice 9 (.string ⟨#[48,49,50,51,52,53,54,55,56,57,97,98,99,100,101,102]⟩) (some (.int .i64 ((4:Nat):Int))) (some (.int .i64 (((4:Nat):Int)+1))) none).run Tryz.prog w=.ok (.string ⟨#[hexc 4]⟩) w:=by kernel_rfl
theorem slice_digit5 (w:World):(Instr.slice 9 (.string ⟨#[48,49,50,51,52,53,54,55,56,57,97,98,99,100,101,102]⟩) (some (.int .i64 ((5:Nat):Int))) (some (.int .i64 (((5:Nat):Int)+1))) none).run Tryz.prog w=.ok (.string ⟨#[hexc 5]⟩) w:=by kernel_rfl
theorem slice_digit6 (w:World):(Instr.slice 9 (.string ⟨#[48,49,50,51,52,53,54,55,56,57,97,98,99,100,101,102]⟩) (some (.int .i64 ((6:Nat):Int))) (some (.int .i64 (((6:Nat):Int)+1))) none).run Tryz.prog w=.ok (.string ⟨#[hexc 6]⟩) w:=by kernel_rfl
theorem slice_digit7 (w:World):(Instr.slice 9 (.string ⟨#[48,49,50,51,52,53,54,55,56,57,97,98,99,100,101,102]⟩) (some (.int .i64 ((7:Nat):Int))) (some (.int .i64 (((7:Nat):Int)+1))) none).run Tryz.prog w=.ok (.string ⟨#[hexc 7]⟩) w:=by kernel_rfl
theorem slice_digit8 (w:World):(Instr.slice 9 (.string ⟨#[48,49,50,51,52,53,54,55,56,57,97,98,99,100,101,102]⟩) (some (.int .i64 ((8:Nat):Int))) (some (.int .i64 (((8:Nat):Int)+1))) none).run Tryz.prog w=.ok (.string ⟨#[hexc 8]⟩) w:=by kernel_rfl
theorem slice_digit9 (w:World):(Instr.slice 9 (.string ⟨#[48,49,50,51,52,53,54,55,56,57,97,98,99,100,101,102]⟩) (some (.int .i64 ((9:Nat):Int))) (some (.int .i64 (((9:Nat):Int)+1))) none).run Tryz.prog w=.ok (.string ⟨#[hexc 9]⟩) w:=by kernel_rfl
theorem slice_digit10 (w:World):(Instr.slice 9 (.string ⟨#[48,49,50,51,52,53,54,55,56,57,97,98,99,100,101,102]⟩) (some (.int .i64 ((10:Nat):Int))) (some (.int .i64 (((10:Nat):Int)+1))) none).run Tryz.prog w=.ok (.string ⟨#[hexc 10]⟩) w:=by kernel_rfl
theorem slice_digit11 (w:World):(Instr.slice 9 (.string ⟨#[48,49,50,51,52,53,54,55,56,57,97,98,99,100,101,102]⟩) (some (.int .i64 ((11:Nat):Int))) (some (.int .i64 (((11:Nat):Int)+1))) none).run Tryz.prog w=.ok (.string ⟨#[hexc 11]⟩) w:=by kernel_rfl
theorem slice_digit12 (w:World):(Instr.slice 9 (.string ⟨#[48,49,50,51,52,53,54,55,56,57,97,98,99,100,101,102]⟩) (some (.int .i64 ((12:Nat):Int))) (some (.int .i64 (((12:Nat):Int)+1))) none).run Tryz.prog w=.ok (.string ⟨#[hexc 12]⟩) w:=by kernel_rfl
theorem slice_digit13 (w:World):(Instr.slice 9 (.string ⟨#[48,49,50,51,52,53,54,55,56,57,97,98,99,100,101,102]⟩) (some (.int .i64 ((13:Nat):Int))) (some (.int .i64 (((13:Nat):Int)+1))) none).run Tryz.prog w=.ok (.string ⟨#[hexc 13]⟩) w:=by kernel_rfl
theorem slice_digit14 (w:World):(Instr.slice 9 (.string ⟨#[48,49,50,51,52,53,54,55,56,57,97,98,99,100,101,102]⟩) (some (.int .i64 ((14:Nat):Int))) (some (.int .i64 (((14:Nat):Int)+1))) none).run Tryz.prog w=.ok (.string ⟨#[hexc 14]⟩) w:=by kernel_rfl
theorem slice_digit15 (w:World):(Instr.slice 9 (.string ⟨#[48,49,50,51,52,53,54,55,56,57,97,98,99,100,101,102]⟩) (some (.int .i64 ((15:Nat):Int))) (some (.int .i64 (((15:Nat):Int)+1))) none).run Tryz.prog w=.ok (.string ⟨#[hexc 15]⟩) w:=by kernel_rfl
theorem slice_digit (d:Nat)(h:d<16)(w:World):(Instr.slice 9 (.string ⟨#[48,49,50,51,52,53,54,55,56,57,97,98,99,100,101,102]⟩) (some (.int .i64 (d:Int))) (some (.int .i64 ((d:Int)+1))) none).run Tryz.prog w=.ok (.string ⟨#[hexc d]⟩) w:=by
 have:d=0∨d=1∨d=2∨d=3∨d=4∨d=5∨d=6∨d=7∨d=8∨d=9∨d=10∨d=11∨d=12∨d=13∨d=14∨d=15:=by omega
 rcases this with rfl|rfl|rfl|rfl|rfl|rfl|rfl|rfl|rfl|rfl|rfl|rfl|rfl|rfl|rfl|rfl
 ·exact slice_digit0 w
 ·exact slice_digit1 w
 ·exact slice_digit2 w
 ·exact slice_digit3 w
 ·exact slice_digit4 w
 ·exact slice_digit5 w
 ·exact slice_digit6 w
 ·exact slice_digit7 w
 ·exact slice_digit8 w
 ·exact slice_digit9 w
 ·exact slice_digit10 w
 ·exact slice_digit11 w
 ·exact slice_digit12 w
 ·exact slice_digit13 w
 ·exact slice_digit14 w
 ·exact slice_digit15 w
theorem val_string {a b:ByteArray}(h:a=b):Value.string a=.string b:=by rw[h]
theorem bytes_append (l r:List UInt8):(⟨l.toArray⟩:ByteArray)++⟨r.toArray⟩=⟨(l++r).toArray⟩:=by
 apply ByteArray.ext
 simp
theorem digits10_any (k:Nat):∀(m:Int) (w:World),0≤m→m<65536→m≤k→Calls Tryz.prog 73 #[.int .i64 m,.int .i64 10] w (RetAt w (.string ⟨(digB 10 m.toNat).toArray⟩)):=by
 induction k with
 |zero=>
  intro m w h0 h1 hk
  obtain rfl:m=0:=by omega
  have hsl:=slice_digit 0 (by decide)
  go_enter Tryz.func73,Tryz.ntmps73
  go_wp2_with fail
  go_ret
  exact .mk (val_string (by decide+kernel)) (Below.refl _ _)
 |succ k ih=>
  intro m w h0 h1 hk
  by_cases hm:m<10
  ·obtain⟨d,rfl⟩:∃d:Nat,m=d:=⟨m.toNat,by omega⟩
   have hsl:=slice_digit d (by omega)
   clear ih
   go_enter Tryz.func73,Tryz.ntmps73
   go_wp2_with fail
   go_ret
   refine .mk (val_string ?_) (Below.refl _ _)
   rw[Int.toNat_natCast,digB,dif_pos (by omega)]
  ·have IH:=Lib.hid ih
   have q1:m.tdiv 10=m/10:=Int.tdiv_eq_ediv_of_nonneg h0
   have q2:m.tmod 10=m%10:=Int.tmod_eq_emod_of_nonneg h0
   have q3:IntKind.i64.wrap (m/10)=m/10:=IntWalk.i64_in _ (by omega)
   have q4:IntKind.i64.wrap (m%10)=m%10:=IntWalk.i64_in _ (by omega)
   have hl1:(digB 10 (m/10).toNat).length≤100000:=by have:=digB_len 10 _ _ (Nat.le_refl (m/10).toNat);omega
   have hl2:(digB 10 (m%10).toNat).length≤100000:=by have:=digB_len 10 _ _ (Nat.le_refl (m%10).toNat);omega
   have hl3:(digB 10 (m/10).toNat).length+(digB 10 (m%10).toNat).length≤9223372036854775807:=by omega
   have hl4:((digB 10 (m/10).toNat).length:Int)+((digB 10 (m%10).toNat).length:Int)≤9223372036854775807:=by omega
   have hcat:=concat_small (digB 10 (m/10).toNat) (digB 10 (m%10).toNat) (by have:=digB_len 10 _ _ (Nat.le_refl (m/10).toNat);omega) (by have:=digB_len 10 _ _ (Nat.le_refl (m%10).toNat);omega)
   clear ih
   go_enter Tryz.func73,Tryz.ntmps73
   go_wp2_with fail
   refine wp_region_later (by kernel_rfl) (by kernel_rfl) ?_
   iterate 4 go_big_quiet_step (fail)
   go_big_quiet_step ((go_at_call 73;exact later_call (IH.out (m/10) _ (by omega) (by omega) (by omega))))
   iterate 4 go_big_quiet_step (fail)
   go_big_quiet_step ((go_at_call 73;exact later_call (IH.out (m%10) _ (by omega) (by omega) (by omega))))
   repeat go_big_quiet_step (fail)
   refine wpQuiet_nil ?_
   intro x
   go_wp2_with fail
   go_ret
   refine .mk (val_string ?_) x.below
   have e1:m.toNat/10=(m/10).toNat:=by omega
   have e2:m.toNat%10=(m%10).toNat:=by omega
   rw[digB.eq_def 10 m.toNat,dif_neg (by omega),e1,e2,digB.eq_def 10 (m%10).toNat,dif_pos (by omega)]
   exact bytes_append _ [_]
def DecPost (w:World)(most:Nat)(l:List UInt8):Ending→World→Prop:=fun e w'=>∃(n:Int) (ok:Bool),e=.returned (.tuple #[.int .i64 n,.bool ok])∧-9223372036854775808≤n∧n≤9223372036854775807∧((ok=true∧0≤n∧decL most l=some n.toNat)∨(ok=false∧decL most l=none))∧Below w.heap.size w w'
theorem bytesWorld_below (w:World)(s:ByteArray):Below w.heap.size w (Lib.bytesWorld w 5 s):=by
 exact Joins.below_bytesWorld _ _ _ _ (Nat.le_refl _)
theorem DecPost.no {w w':World}{most:Nat}{l:List UInt8}{n:Int}{b:Bool}(h:decL most l=none)(hb:b=false)(h1:-9223372036854775808≤n)(h2:n≤9223372036854775807)(hw:Below w.heap.size w w'):DecPost w most l (.returned (.tuple #[.int .i64 n,.bool b])) w':=
 ⟨n,b,rfl,h1,h2,.inr ⟨hb,h⟩,hw⟩
theorem atoiSat_bd (l:List UInt8):-9223372036854775808≤Lib.atoiSat l∧Lib.atoiSat l≤9223372036854775807:=by
 unfold Lib.atoiSat;split<;>decide
theorem decimal_any (s:ByteArray)(most:Nat)(hmost:most≤1000000)(hs:s.size≤1000)(w:World)(henv:Env w):Calls Tryz.prog 172 #[.string s,.int .i64 most] w (DecPost w most s.data.toList):=by
 have hd:=decL_atoi most hmost s.data.toList
 have HE:=Lib.hid henv
 clear henv
 cases hv:Lib.atoiAll s.data.toList with
 |ok v=>
  rw[hv] at hd
  simp only at hd
  have hat:=Lib.hid (fun w=>Tryz.strconv_Atoi_ok s (by omega) v hv w)
  have hvb:-9223372036854775808≤v∧v≤9223372036854775807:=Lib.atoiAll_bounds hv
  clear hv
  by_cases h0:0≤v
  ·by_cases h1:v<most
   ·have HD:=Lib.hid hd
    clear hd
    go_enter Tryz.func172,Tryz.ntmps172
    go_wp2_with fail
    refine Calls.mono (hat.out w) ?_
    rintro e w1 ⟨rfl,hw⟩
    have hb:Below w.heap.size w w1:=by
     rcases hw with rfl|⟨t,rfl⟩
     ·exact Below.refl _ _
     ·exact bytesWorld_below _ _
    clear hw
    go_wp2_with fail
    refine Calls.mono (Tryz.strconv_Itoa v hvb.1 hvb.2 w1 (HE.out.below hb).tab) ?_
    rintro e w2 ⟨rfl,hw⟩
    have hb2:Below w.heap.size w w2:=by
     obtain⟨k,os,rfl⟩:=hw
     exact hb.trans (Lib.below_grow _ _ hb.size _ _)
    clear hw
    go_wp2_with fail
    go_ret2
    refine⟨v,_,rfl,hvb.1,hvb.2,?_,hb2⟩
    have hdd:=HD.out
    by_cases h2:Lib.itoa v=s.data.toList
    ·rw[if_pos ⟨h0,h1,h2⟩] at hdd
     refine .inl ⟨?_,h0,hdd⟩
     have h3:Lib.itoa v=s.toList:=by rw[h2,toList_data8]
     simp[h3]
    ·rw[if_neg (by simp[h2])] at hdd
     refine .inr ⟨?_,hdd⟩
     have h3:¬Lib.itoa v=s.toList:=fun e=>h2 (by rw[e,toList_data8])
     simpa using h3
   ·have hn:decL most s.data.toList=none:=by rw[hd,if_neg (by omega)]
    have HD:=Lib.hid hn
    clear hd hn
    go_enter Tryz.func172,Tryz.ntmps172
    go_wp2_with fail
    refine Calls.mono (hat.out w) ?_
    rintro e w1 ⟨rfl,hw⟩
    have hb:Below w.heap.size w w1:=by
     rcases hw with rfl|⟨t,rfl⟩
     ·exact Below.refl _ _
     ·exact bytesWorld_below _ _
    clear hw
    go_wp2_with fail
    go_ret2
    exact .no HD.out rfl hvb.1 hvb.2 hb
  ·have hn:decL most s.data.toList=none:=by rw[hd,if_neg (by omega)]
   have HD:=Lib.hid hn
   clear hd hn
   go_enter Tryz.func172,Tryz.ntmps172
   go_wp2_with fail
   refine Calls.mono (hat.out w) ?_
   rintro e w1 ⟨rfl,hw⟩
   have hb:Below w.heap.size w w1:=by
    rcases hw with rfl|⟨t,rfl⟩
    ·exact Below.refl _ _
    ·exact bytesWorld_below _ _
   clear hw
   go_wp2_with fail
   go_ret2
   exact .no HD.out rfl hvb.1 hvb.2 hb
 |range=>
  rw[hv] at hd
  obtain⟨te,pe,hev⟩:=HE.out.rng
  have hat:=Lib.hid (Tryz.strconv_Atoi_range s (by omega) hv _ w hev (.inr ⟨te,pe,rfl⟩))
  have HD:=Lib.hid hd
  have hsb:=atoiSat_bd s.data.toList
  clear hd hv hev
  generalize Lib.atoiSat s.data.toList=sat at*
  go_enter Tryz.func172,Tryz.ntmps172
  go_wp2_with fail
  refine Calls.mono hat.out ?_
  rintro e w1 ⟨N,rfl,-,-,hb⟩
  go_wp2_with fail
  go_ret2
  exact .no HD.out rfl hsb.1 hsb.2 hb
 |_=>
  rw[hv] at hd
  obtain⟨te,pe,hev⟩:=HE.out.syn
  have hat:=Lib.hid (Tryz.strconv_Atoi_syntax s (by omega) hv _ w hev (.inr ⟨te,pe,rfl⟩))
  have HD:=Lib.hid hd
  clear hd hv hev
  go_enter Tryz.func172,Tryz.ntmps172
  go_wp2_with fail
  refine Calls.mono hat.out ?_
  rintro e w1 ⟨N,rfl,-,-,hb⟩
  go_wp2_with fail
  go_ret2
  exact .no HD.out rfl (by decide) (by decide) hb
open Go.RowKit
theorem strOfNums_map8 (l:List UInt8):strOfNums (l.map fun b=>(b.toNat:Int))=⟨l.toArray⟩:=by
 have h:((fun n:Int=>UInt8.ofNat n.toNat) ∘ fun b:UInt8=>(b.toNat:Int))=id:=by funext b;simp
 simp[strOfNums,h]
theorem drop_set_self {α:Type}(xs:List α)(j:Nat)(h:j<xs.length)(v:α):(xs.set j v).drop j=v::xs.drop (j+1):=by
 rw[List.drop_eq_getElem_cons (by simpa using h),List.getElem_set_self,List.drop_set_of_lt (by omega)]
theorem digB_more (b u:Nat)(hb:2≤b)(h:b≤u):digB b u=digB b (u/b)++[hexc (u%b)]:=by
 rw[digB,dif_neg (by omega)]
theorem digB_last (b u:Nat)(h:u<b):digB b u=[hexc u]:=by
 rw[digB,dif_pos (by omega)]
theorem index_dig (d:Nat)(h:d<16)(w:World):
 (Instr.index 9 (.string ⟨#[48,49,50,51,52,53,54,55,56,57,97,98,99,100,101,102,103,104,105,106,107,108,109,110,111,112,113,114,115,116,117,118,119,120,121,122]⟩) (.int .u64 (d:Int))).run Tryz.prog w=.ok (.int .u8 ((hexc d).toNat:Int)) w:=by
 rw[run_index_string w 9 _ .u64 d Tryz.underlying9,dif_pos (by
  have:(ByteArray.size ⟨#[48,49,50,51,52,53,54,55,56,57,97,98,99,100,101,102,103,104,105,106,107,108,109,110,111,112,113,114,115,116,117,118,119,120,121,122]⟩)=36:=rfl
  omega)]
 have hd:d=0∨d=1∨d=2∨d=3∨d=4∨d=5∨d=6∨d=7∨d=8∨d=9∨d=10∨d=11∨d=12∨d=13∨d=14∨d=15:=by omega
 rcases hd with rfl|rfl|rfl|rfl|rfl|rfl|rfl|rfl|rfl|rfl|rfl|rfl|rfl|rfl|rfl|rfl<;>rfl
theorem dig_get (d:Nat)(h:d<16)(h':d<(ByteArray.size ⟨#[48,49,50,51,52,53,54,55,56,57,97,98,99,100,101,102,103,104,105,106,107,108,109,110,111,112,113,114,115,116,117,118,119,120,121,122]⟩)):
 (⟨#[48,49,50,51,52,53,54,55,56,57,97,98,99,100,101,102,103,104,105,106,107,108,109,110,111,112,113,114,115,116,117,118,119,120,121,122]⟩:ByteArray)[d]=hexc d:=by
 have hd:d=0∨d=1∨d=2∨d=3∨d=4∨d=5∨d=6∨d=7∨d=8∨d=9∨d=10∨d=11∨d=12∨d=13∨d=14∨d=15:=by omega
 rcases hd with rfl|rfl|rfl|rfl|rfl|rfl|rfl|rfl|rfl|rfl|rfl|rfl|rfl|rfl|rfl|rfl<;>rfl
def DigSt (w0 w:World)(k:Nat)(l:List UInt8):Prop:=∃xs,Owns w w0.heap.size 1 (some ⟨w0.heap.size,0,none⟩) 65 65 xs∧l.length=k∧xs.drop (65-k)=l.map fun(c:UInt8)=>Value.int .u8 (c.toNat:Int)
theorem DigSt.more {w0 w:World}{k:Nat}{l:List UInt8}(h:DigSt w0 w k l)(j:Nat)(hj:j+1+k=65)(c:UInt8):DigSt w0 (w.setCell ⟨w0.heap.size,j,none⟩ (.int .u8 (c.toNat:Int))) (k+1) (c::l):=by
 obtain⟨xs,ho,hl,hd⟩:=h
 have hlen:xs.length=65:=by have:=ho.len;omega
 refine⟨xs.set j (.int .u8 (c.toNat:Int)),?_,by rw[List.length_cons,hl],?_⟩
 ·have:=ho.set j (by omega) (.int .u8 (c.toNat:Int))
  rwa [Nat.zero_add] at this
 ·rw[show 65-(k+1)=j by omega,drop_set_self xs j (by omega),show j+1=65-k by omega,hd];rfl
theorem DigSt.cell {w0 w:World}{k:Nat}{l:List UInt8}(h:DigSt w0 w k l)(j:Nat)(hj:j<65):(∃u,w.cell? ⟨w0.heap.size,j,none⟩=some u)∧w.frozen? ⟨w0.heap.size,j,none⟩=false:=by
 obtain⟨xs,ho,hl,hd⟩:=h
 obtain⟨g,off,e,hb,hg,hc,ht⟩:=ho.here (by omega)
 cases e
 obtain⟨h1,h2⟩:=ht j (by omega)
 rw[Nat.zero_add] at h1 h2
 exact⟨Option.isSome_iff_exists.1 h1,h2⟩
theorem DigSt.reads {w0 w:World}{k:Nat}{l:List UInt8}(h:DigSt w0 w k l)(hk:k≤65)(hk0:0<k):Reads w (some ⟨w0.heap.size,65-k,none⟩) k k (l.map fun c=>(c.toNat:Int)):=by
 obtain⟨xs,ho,hl,hd⟩:=h
 have hlen:xs.length=65:=by have:=ho.len;omega
 obtain⟨g,off,e,hb,hg,hc,ht⟩:=ho.here (by omega)
 cases e
 refine⟨by rw[List.length_map,hl],Nat.le_refl _,by unfold maxLen;omega,?_,.inr ⟨_,_,rfl,hg,fun j hj=>?_⟩⟩
 ·intro v hv
  obtain⟨c,-,rfl⟩:=List.mem_map.1 hv
  have:=c.toNat_lt
  omega
 ·have:=hc (65-k+j) (xs[65-k+j]'(by omega)) (by simp)
  rw[Nat.zero_add] at this
  rw[this]
  have h2:(xs.drop (65-k))[j]? =(l.map fun(c:UInt8)=>Value.int .u8 (c.toNat:Int))[j]?:=by rw[hd]
  rw[List.getElem?_drop,List.getElem?_eq_getElem (by omega),List.getElem?_map,List.getElem?_eq_getElem (by omega)] at h2
  rw[Option.some.inj h2,getD_map_default _ _ (by simpa[hl] using hj)]
  rw[List.getElem_map]
theorem zero133:Tryz.zeroCells316.toList.take 65=List.replicate 65 (.int .u8 0):=by kernel_rfl
theorem zero133s:Tryz.zeroCells316.size=65:=by kernel_rfl
theorem fbits_16 (u:Nat)(hu:u<65536)(w:World)(hb:w.cell? ⟨7,15,none⟩=some (.int .u8 4)):
 Calls Tryz.prog 216 #[.slice none 0 0,.int .u64 (u:Int),.int .i64 16,.bool false,.bool false] w (RetAt w (.tuple #[.slice none 0 0,.string ⟨(digB 16 u).toArray⟩])):=by
 have HB:=Lib.hid hb
 have HW0:Hid (Below w.heap.size w (w.alloc (.cells Tryz.zeroCells316 316))):=Lib.hid (Below.all (Below.refl _ _) _)
 have HS0:Hid (DigSt w (w.alloc (.cells Tryz.zeroCells316 316)) 0 []):=Lib.hid ⟨List.replicate 65 (.int .u8 0),Owns.made _ 65 65 _ _ (Nat.le_refl _) (by rw[zero133s];decide) (Nat.le_refl _) (by decide) (by rw[Nat.mul_one];exact zero133),rfl,by simp⟩
 clear hb
 go_enter Tryz.func216,Tryz.ntmps216
 go_wp2_with fail
 refine Calls.mono (p2_16 _) ?_
 rintro e w2 ⟨rfl,rfl⟩
 go_wp2_with fail
 generalize w.alloc (.cells Tryz.zeroCells316 316)=w1 at*
 refine Calls.mono (tz_16 _ ((HW0.out.cell (World.block_lt_of_cell? w _ HB.out)).trans HB.out)) ?_
 rintro e w2 ⟨rfl,rfl⟩
 go_wp2_with fail
 go_loopw [1,13] (fun u1 u13 wr=>∃(v i k:Nat) (l:List UInt8),u1=.int .u64 v∧u13=.int .i64 i∧i+k=65∧((k=0∧v<65536)∨(k=1∧v<4096)∨(k=2∧v<256)∨(k=3∧v<16))∧Hid (digB 16 u=digB 16 v++l)∧Hid (DigSt w wr k l)∧Hid (Below w.heap.size w wr)) (fun u1 _ _=>intOf u1 |>.toNat)
 case atStart=>exact⟨u,65,0,[],rfl,rfl,rfl,.inl ⟨rfl,hu⟩,Lib.hid (by simp),HS0,HW0⟩
 case round=>
  obtain⟨v,i,k,l,rfl,rfl,hik,hkv,HD,HS,HW⟩:=hrel
  obtain⟨j,rfl⟩:∃j,i=j+1:=⟨i-1,by omega⟩
  obtain⟨⟨c0,hc0⟩,hf0⟩:=HS.out.cell j (by omega)
  by_cases hlt:16≤v
  ·have hand:bits BinOp.and IntKind.u64 (v:Int) 15=((v%16:Nat):Int):=by
    rw[show(15:Int)=((15:Nat):Int) from rfl,u64_and_nat v 15 (by omega) (by decide),show 15=2^4-1 from rfl,Nat.and_two_pow_sub_one_eq_mod]
   have HD2:=Lib.hid (digB_more 16 v (by decide) hlt)
   go_wp2_with fail
   rw[dig_get _ (Nat.mod_lt _ (by decide))]
   go_roundw
   case rel=>exact⟨v/16,j,k+1,hexc (v%16)::l,by go_num,rfl,by omega,by omega,Lib.hid (by rw[HD.out,HD2.out,List.append_assoc];rfl),Lib.hid (HS.out.more j hik _),Lib.hid (HW.out.setCell (Nat.le_refl _) _)⟩
   case measure=>simp[intOf];omega
  ·have hv16:v<16:=by omega
   have HD2:=Lib.hid (digB_last 16 v hv16)
   have hj1:(j:Int)≤65:=by omega
   have hj2:¬(65=j):=by omega
   go_wp2_with fail
   rw[dig_get _ hv16]
   have hR:=(HS.out.more j hik (hexc v)).reads (by omega) (by omega)
   have hcv:=run_string_reads (P:=Tryz.prog) 22 5 Tryz.underlying22 Tryz.underlying5 hR 9 Tryz.underlying9
   rw[strOfNums_map8,show 65-(k+1)=j by omega,show k+1=65-j by omega] at hcv
   have HWE:=Lib.hid (show Below w.heap.size w (wr.setCell ⟨w.heap.size,j,none⟩ (.int .u8 ((hexc v).toNat:Int))) from HW.out.setCell (Nat.le_refl _) _)
   have HE:Hid (hexc v::l=digB 16 u):=Lib.hid (by rw[HD.out,HD2.out];rfl)
   rw[hcv]
   clear hR hcv
   go_wp2_with fail
   go_ret2
   exact .mk (by rw[←HE.out];rfl) HWE.out
theorem ifmt_16 (u:Nat)(hu:u<65536)(w:World)(hb:w.cell? ⟨7,15,none⟩=some (.int .u8 4)):
 Calls Tryz.prog 180 #[.int .u64 (u:Int),.int .i64 16] w (RetAt w (.string ⟨(digB 16 u).toArray⟩)):=by
 go_enter Tryz.func180,Tryz.ntmps180
 go_wp2_with fail
 refine Calls.later (fbits_16 u hu w hb) ?_
 intro x
 go_wp2_with fail
 go_ret
 exact .mk rfl (Below.lat (Below.refl _ _))
theorem fmt_16 (u:Nat)(hu:u<65536)(w:World)(hb:Env w):
 Calls Tryz.prog 130 #[.int .u64 (u:Int),.int .i64 16] w (RetAt w (.string ⟨(digB 16 u).toArray⟩)):=by
 have hbi:=hb.bits
 clear hb
 go_enter Tryz.func130,Tryz.ntmps130
 go_wp2_with fail
 refine Calls.later (ifmt_16 u hu w hbi) ?_
 intro x
 go_wp2_with fail
 go_ret
 exact .mk rfl (Below.lat (Below.refl _ _))
end
end Go.Proofs.YtkgjbipfhhjlpaaGreatDoor
