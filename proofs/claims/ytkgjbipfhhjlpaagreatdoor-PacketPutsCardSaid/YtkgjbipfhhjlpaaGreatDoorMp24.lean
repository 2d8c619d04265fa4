import Derived.Test.YtkgjbipfhhjlpaaGreatDoorMp23
set_option linter.unusedVariables false
set_option linter.unusedSimpArgs false
set_option maxRecDepth 100000
set_option maxHeartbeats 32000000
namespace Go.Proofs.YtkgjbipfhhjlpaaGreatDoor
section
open Go.RowKit
theorem exec_conv (ev:Operand→Value)(w:World){dst:Option Tmp}{ty:TypeId}{pos:String}{after:Array Edge}{g:Option (Nat×Bool)}{t u:TypeId}{x:Operand}{vx v:Value}{w2:World}(hx:ev x=vx)
 (hr:(convert t u vx).run Tryz.prog w=.ok v w2):(execOp ev ⟨dst,.convert t u x,ty,pos,after,g⟩).run Tryz.prog w=.ok (.value v) w2:=by
 simp[execOp,hx,hr,Result.andThen]
theorem run_strReads {w:World}{oa:Option Addr}{n cap:Nat}{l:List Int}(h:Reads w oa n cap l):(convert 22 9 (.slice oa n cap)).run Tryz.prog w=.ok (.string (strOfNums l)) w:=
 run_string_reads 22 5 Tryz.underlying22 Tryz.underlying5 h 9 Tryz.underlying9
theorem rtput_of (p x1 x2 x5 x9 x10:Int)(d src dst:List Int)(hd:d.length≤2048)(hH:tHead p≠0)(hp:0≤p∧p<256)(hl:src.length=dst.length)(h4:src.length=4∨src.length=16)(hs:IsBytes src)(ht:IsBytes dst)(STD:Int→List Int)
 (hR:∀w',Calls Tryz.prog 97 #[.agg #[.int .u8 p,.int .u16 x1,.int .u16 x2,.int .u32 0,.int .u32 0,.int .u8 x5,.int .u16 0,.int .u16 0,.string ⟨#[]⟩,.int .u8 x9,.int .u8 x10,.string (strOfNums d)]] w' (RetAt w' (.bool true)))
 (hS:∀c w',0≤c→c<65536→Calls Tryz.prog 101 #[.agg #[.int .u8 p,.int .u16 x1,.int .u16 x2,.int .u32 0,.int .u32 0,.int .u8 x5,.int .u16 0,.int .u16 0,.string ⟨#[]⟩,.int .u8 x9,.int .u8 x10,.string (strOfNums d)],.int .u16 c] w' (RetAt w' (.string (strOfNums (STD c)))))
 (hSB:∀c,IsBytes (STD c)∧(STD c).length=tHead p+d.length)(R:List Int)(hRes:R=STD (if sumOf (pseudoL p ((tHead p:Int)+(d.length:Int)) src dst++STD 0)=0∧p=17 then 65535 else (sumOf (pseudoL p ((tHead p:Int)+(d.length:Int)) src dst++STD 0):Nat)))(w:World):
 Calls Tryz.prog 48 #[.agg #[.int .u8 p,.int .u16 x1,.int .u16 x2,.int .u32 0,.int .u32 0,.int .u8 x5,.int .u16 0,.int .u16 0,.string ⟨#[]⟩,.int .u8 x9,.int .u8 x10,.string (strOfNums d)],.string (strOfNums src),.string (strOfNums dst)] w (BodyPost w R 0):=by
 have hh:tHead p≤20:=by
  unfold tHead
  split
  ·omega
  ·split
   ·omega
   ·split<;>omega
 refine rtput_gen p x1 x2 x5 x9 x10 _ _ _ d.length (pseudoL p ((tHead p:Int)+(d.length:Int)) src dst) STD (tHead p+d.length) hH (by omega) hR (fun w'=>rlength_any p x1 x2 x5 x9 x10 _ d.length (strOfNums_size _) (by omega) w') hS (fun w'=>?_) ?_ ?_ hSB (by omega) R hRes w
 ·rcases h4 with h|h
  ·exact rpseudo_four p _ src dst h (hl▸h) hp (by omega) w'
  ·exact rpseudo_six p _ src dst h (hl▸h) hp (by omega) w'
 ·unfold pseudoL
  split
  ·intro v hv;cases hv
  ·split
   ·refine isBytes_app (isBytes_app (isBytes_app hs ht) ?_) (be2_bytes _)
    intro v hv;simp only[List.mem_cons,List.not_mem_nil,or_false] at hv;rcases hv with rfl|rfl;decide;exact hp
   ·refine isBytes_app (isBytes_app (isBytes_app (isBytes_app hs ht) ?_) (be2_bytes _)) ?_
    ·intro v hv;simp only[List.mem_cons,List.not_mem_nil,or_false] at hv;rcases hv with rfl|rfl<;>decide
    ·intro v hv;simp only[List.mem_cons,List.not_mem_nil,or_false] at hv;rcases hv with rfl|rfl|rfl|rfl<;>first|exact hp|decide
 ·unfold pseudoL
  split
  ·simp
  ·split
   ·simp[be2];omega
   ·simp[be2];omega
theorem tStands_len (p a b f n c:Int)(d:List Int)(hH:tHead p≠0):(tStands p a b f n c d).length=tHead p+d.length:=by
 unfold tStands tHead at*
 split
 ·simp[be2];omega
 ·split
  ·simp[be2];omega
  ·rename_i h1 h2
   rw[if_neg h1,if_neg h2] at hH
   split
   ·simp[be2];omega
   ·rename_i h3;rw[if_neg h3] at hH;exact absurd rfl hH
theorem tStands_byte (p a b f n c:Int)(d:List Int)(hp:¬(p=6∨p=17)→(0≤a∧a<256)∧(0≤b∧b<256))(hf:0≤f∧f<256)(hd:IsBytes d):IsBytes (tStands p a b f n c d):=by
 unfold tStands
 split
 ·refine isBytes_app (isBytes_app (isBytes_app (isBytes_app (isBytes_app (be2_bytes _) (be2_bytes _)) ?_) (be2_bytes _)) ?_) hd
  ·intro v hv
   simp only[List.mem_cons,List.not_mem_nil,or_false] at hv
   rcases hv with rfl|rfl|rfl|rfl|rfl|rfl|rfl|rfl|rfl|rfl|rfl|rfl<;>first|exact hf|decide
  ·intro v hv
   simp only[List.mem_cons,List.not_mem_nil,or_false] at hv
   rcases hv with rfl|rfl<;>decide
 ·split
  ·exact isBytes_app (isBytes_app (isBytes_app (isBytes_app (be2_bytes _) (be2_bytes _)) (be2_bytes _)) (be2_bytes _)) hd
  ·rename_i h1 h2
   have:=hp (by omega)
   refine isBytes_app (isBytes_app ?_ (be2_bytes _)) hd
   intro v hv
   simp only[List.mem_cons,List.not_mem_nil,or_false] at hv
   rcases hv with rfl|rfl
   ·exact this.1
   ·exact this.2
theorem tPut_std (p a b f:Int)(d src dst:List Int):tPut p a b f d src dst=(fun c=>tStands p a b f ((tHead p:Int)+(d.length:Int)) c d) (if sumOf (pseudoL p ((tHead p:Int)+(d.length:Int)) src dst++tStands p a b f ((tHead p:Int)+(d.length:Int)) 0 d)=0∧p=17 then 65535 else (sumOf (pseudoL p ((tHead p:Int)+(d.length:Int)) src dst++tStands p a b f ((tHead p:Int)+(d.length:Int)) 0 d):Nat)):=by
 unfold tPut tSum
 simp only[Int.natCast_add]
 generalize sumOf (pseudoL p ((tHead p:Int)+(d.length:Int)) src dst++tStands p a b f ((tHead p:Int)+(d.length:Int)) 0 d)=z
 by_cases h:z=0∧p=17
 ·rw[if_pos h,if_pos ⟨by omega,h.2⟩]
 ·rw[if_neg h,if_neg (fun h'=>h ⟨by omega,h'.2⟩)]
theorem rtput_tcp (a b f:Int)(d src dst:List Int)(hd:d.length≤2048)(hdb:IsBytes d)(hl:src.length=dst.length)(h4:src.length=4∨src.length=16)(hs:IsBytes src)(ht:IsBytes dst)(ha:0≤a∧a<65536)(hb:0≤b∧b<65536)(hf:0≤f∧f<256)(w:World):
 Calls Tryz.prog 48 #[.agg #[.int .u8 6,.int .u16 a,.int .u16 b,.int .u32 0,.int .u32 0,.int .u8 f,.int .u16 0,.int .u16 0,.string ⟨#[]⟩,.int .u8 0,.int .u8 0,.string (strOfNums d)],.string (strOfNums src),.string (strOfNums dst)] w (BodyPost w (tPut 6 a b f d src dst) 0):=
 rtput_of 6 a b f 0 0 d src dst hd (by decide) (by decide) hl h4 hs ht (fun c=>tStands 6 a b f ((tHead 6:Int)+(d.length:Int)) c d) (fun w=>rtright_tcp a b f _ d.length (strOfNums_size _) (by omega) w) (fun c w h0 h1=>rstands_tcp a b f _ d c hdb (by omega) ha hb hf ⟨h0,h1⟩ w) (fun c=>⟨tStands_byte 6 a b f _ c d (fun h=>absurd (.inl rfl) h) hf hdb,tStands_len 6 a b f _ c d (by decide)⟩) _ (tPut_std 6 a b f d src dst) w
theorem rtput_udp (a b:Int)(d src dst:List Int)(hd:d.length≤2048)(hdb:IsBytes d)(hl:src.length=dst.length)(h4:src.length=4∨src.length=16)(hs:IsBytes src)(ht:IsBytes dst)(ha:0≤a∧a<65536)(hb:0≤b∧b<65536)(w:World):
 Calls Tryz.prog 48 #[.agg #[.int .u8 17,.int .u16 a,.int .u16 b,.int .u32 0,.int .u32 0,.int .u8 0,.int .u16 0,.int .u16 0,.string ⟨#[]⟩,.int .u8 0,.int .u8 0,.string (strOfNums d)],.string (strOfNums src),.string (strOfNums dst)] w (BodyPost w (tPut 17 a b 0 d src dst) 0):=
 rtput_of 17 a b 0 0 0 d src dst hd (by decide) (by decide) hl h4 hs ht (fun c=>tStands 17 a b 0 ((tHead 17:Int)+(d.length:Int)) c d) (fun w=>rtright_udp a b _ d.length (strOfNums_size _) (by omega) w) (fun c w h0 h1=>rstands_udp a b d c hdb (by omega) ha hb ⟨h0,h1⟩ w) (fun c=>⟨tStands_byte 17 a b 0 _ c d (fun h=>absurd (.inr rfl) h) (by decide) hdb,tStands_len 17 a b 0 _ c d (by decide)⟩) _ (tPut_std 17 a b 0 d src dst) w
theorem rtput_icmp (p a b:Int)(hp:p=1∨p=58)(d src dst:List Int)(hd:d.length≤2048)(hdb:IsBytes d)(hl:src.length=dst.length)(h4:src.length=4∨src.length=16)(hs:IsBytes src)(ht:IsBytes dst)(ha:0≤a∧a<256)(hb:0≤b∧b<256)(w:World):
 Calls Tryz.prog 48 #[.agg #[.int .u8 p,.int .u16 0,.int .u16 0,.int .u32 0,.int .u32 0,.int .u8 0,.int .u16 0,.int .u16 0,.string ⟨#[]⟩,.int .u8 a,.int .u8 b,.string (strOfNums d)],.string (strOfNums src),.string (strOfNums dst)] w (BodyPost w (tPut p a b 0 d src dst) 0):=by
 have hH:tHead p≠0:=by rcases hp with rfl|rfl<;>decide
 have hpb:0≤p∧p<256:=by omega
 exact rtput_of p 0 0 0 a b d src dst hd hH hpb hl h4 hs ht (fun c=>tStands p a b 0 ((tHead p:Int)+(d.length:Int)) c d) (fun w=>rtright_icmp p a b _ d.length (strOfNums_size _) (by omega) hp w) (fun c w h0 h1=>rstands_icmp p a b _ d c hdb (by omega) hp ha hb ⟨h0,h1⟩ w) (fun c=>⟨tStands_byte p a b 0 _ c d (fun _=>⟨ha,hb⟩) (by decide) hdb,tStands_len p a b 0 _ c d hH⟩) _ (tPut_std p a b 0 d src dst) w
end
section
open Go.RowKit
section
variable {P:Program} {ops:Array Oper} {md:Region.Mode}
def ReadIn (P:Program)(ops:Array Oper)(Ψ:World→Prop)(o:Oper)(v:Value)(a:Act):Prop:=Region.wanted o (yielded ops a.tmps)=true∧∀w,Ψ w→(execOp a.eval o).run P w=.ok (.value v) w
def extG (G:Nat→World→Prop)(n:Nat)(Ψ:World→Prop):Nat→World→Prop:=fun g=>if g=n then Ψ else G g
theorem kept_ext {G:Nat→World→Prop}{top:List Nat}{k R:Nat}{C:World→Prop}{Ψ:World→Prop}(h:Kept G top (k+1) C)(hp:∀w,C w→Ψ w):Kept (extG G top.length Ψ) (top++[R]) (k+1) C:=by
 intro g hg w hw
 unfold extG
 by_cases e:g=top.length
 ·rw[if_pos e];exact hp w hw
 ·rw[if_neg e]
  refine h g ?_ w hw
  rw[List.getD_eq_getElem?_getD] at hg⊢
  rcases Nat.lt_or_ge g top.length with hl|hl
  ·rwa [List.getElem?_append_left hl] at hg
  ·rw[List.getElem?_append_right hl,List.getElem?_eq_none (by simp;omega)] at hg
   simp at hg
theorem kept_unext {G:Nat→World→Prop}{top:List Nat}{k R:Nat}{C:World→Prop}{Ψ:World→Prop}(h:Kept (extG G top.length Ψ) (top++[R]) (k+1) C):Kept G top (k+1) C:=by
 intro g hg w hw
 have hl:g<top.length:=by
  rcases Nat.lt_or_ge g top.length with hl|hl
  ·exact hl
  ·rw[List.getD_eq_getElem?_getD,List.getElem?_eq_none hl] at hg;simp at hg
 have:=h g (by rw[List.getD_eq_getElem?_getD,List.getElem?_append_left hl,←List.getD_eq_getElem?_getD];exact hg) w hw
 unfold extG at this
 rwa [if_neg (by omega)] at this
theorem kept_new {G:Nat→World→Prop}{top:List Nat}{k R:Nat}{C:World→Prop}{Ψ:World→Prop}(hk:k+1≤R)(h:Kept (extG G top.length Ψ) (top++[R]) (k+1) C):∀w,C w→Ψ w:=by
 intro w hw
 have:=h top.length (by rw[List.getD_eq_getElem?_getD,List.getElem?_append_right (Nat.le_refl _)];simpa using hk) w hw
 unfold extG at this
 rwa [if_pos rfl] at this
theorem wpZ_weak {hd sq:List Nat}{f:Nat}{ob:Obj}{G G':Nat→World→Prop}{top top':List Nat}{Q:Exit→Act→World→Prop}(hK:∀k C,Kept G' top' (k+1) C→Kept G top (k+1) C):
 ∀(n k:Nat) (C:FC) (fl:Option Nat) (listed:Array Bool) (a:Act),wpZ P md ops hd sq f ob G' top' Q n k C fl listed a→wpZ P md ops hd sq f ob G top Q n k C fl listed a
 |0,k,C,fl,listed,a,h=>h
 |n+1,k,C,fl,listed,a,h=>by
  refine⟨h.1,fun i hi oi hoi=>?_⟩
  rcases h.2 i hi oi hoi with ⟨h1,v,h2,h3⟩|⟨h1,C',h2,h3,h4⟩|⟨h1,h2,h3,h4,h5,h6⟩
  ·exact .inl ⟨h1,v,h2,wpZ_weak hK n _ _ _ _ _ h3⟩
  ·exact .inr (.inl ⟨h1,C',h2,fun v fl=>hK _ _ (h3 v fl),fun v hv=>wpZ_weak hK n _ _ _ _ _ (h4 v hv)⟩)
  ·exact .inr (.inr ⟨h1,h2,h3,h4,h5,fun b=>wpZ_weak hK n _ _ _ _ _ (h6 b)⟩)
def wpPartC (P:Program)(ops:Array Oper)(R:Nat)(E:FC→Act→Prop):List (Kd×Oper)→(Nat→World→Prop)→List Nat→Nat→FC→Act→Prop
 |[],_,_,_,C,a=>E C a
 |(.w,o)::rest,G,top,k,C,a=>∃C':Value→FC,(SeqRun P ops (C none) (fun v w=>C' v none w) o a)∧(∀v fl,Kept G top (k+1) (C' v fl))∧∀v,(∃w,C' v none w)→wpPartC P ops R E rest G top (k+1) (C' v) (a.put o.dst v)
 |(.c,o)::rest,G,top,k,C,a=>∃(v:Value) (Ψ:World→Prop),ReadIn P ops Ψ o v a∧(∀fl w,C fl w→Ψ w)∧wpPartC P ops R E rest (extG G top.length Ψ) (top++[R]) k C (a.put o.dst v)
 |(_,o)::rest,G,top,k,C,a=>∃v,PlainIn P ops o v a∧wpPartC P ops R E rest G top k C (a.put o.dst v)
def partC (md:Region.Mode)(ops:Array Oper):List (Kd×Nat)→Array Bool→Bool
 |[],_=>true
 |(.w,i)::r,listed=>decide (Region.ready md ops listed=[i])&&partC md ops r (listed.setIfInBounds i true)
 |(.q,i)::r,listed=>(Region.ready md ops listed).contains i&&(Region.free md ops listed i&&partC md ops r (listed.setIfInBounds i true))
 |(.c,i)::r,listed=>(Region.ready md ops listed).contains i&&(Region.free md ops listed i&&partC md ops r (listed.setIfInBounds i true))
 |_,_=>false
def movesC:List (Kd×Nat)→List Nat
 |[]=>[]
 |(.q,i)::r=>i::movesC r
 |(.c,i)::r=>i::movesC r
 |_::r=>movesC r
theorem mem_movesC:∀(is:List (Kd×Nat)) (p:Kd×Nat),p∈is→(p.1=.q∨p.1=.c)→p.2∈movesC is
 |(kd,i)::r,p,h,hk=>by
  rcases List.mem_cons.1 h with rfl|h
  ·simp only at hk
   rcases hk with rfl|rfl<;>simp[movesC]
  ·have:=mem_movesC r p h hk
   cases kd<;>simp only[movesC]<;>first|exact this|exact List.mem_cons_of_mem _ this
theorem wpZ_partC {hd sq:List Nat}{f:Nat}{ob:Obj}{Q:Exit→Act→World→Prop}{R:Nat}{E:FC→Act→Prop}{m:Nat}(hR:sq.length≤R)
 (hsel:∀(j:Nat) (o:Oper) cs b,ops[j]? =some o→o.op≠ .select cs b)(once:∀k k' t:Nat,sq[k]? =some t→sq[k']? =some t→k=k')(hap:∀j∈hd,j∉sq):
 ∀(l:List (Kd×Oper)) (is:List (Kd×Nat)) (G:Nat→World→Prop) (top:List Nat) (k:Nat) (C:FC) (listed:Array Bool) (a:Act),is.map (fun p=>ops[p.2]?)=l.map (fun p=>some p.2)→is.map (·.1)=l.map (·.1)→(∀p∈is,(p.1=.q∨p.1=.c)→p.2∈hd)→(∀j t,(rowOf is)[j]? =some t→sq[k+j]? =some t)→SeqInv md ops sq k listed→
 partC md ops is listed=true→(∀G' top' k' C' a',E C' a'→SeqInv md ops sq k' (listedP is listed)→wpZ P md ops hd sq f ob G' top' Q m k' C' none (listedP is listed) a')→
 wpPartC P ops R E l G top k C a→wpZ P md ops hd sq f ob G top Q (l.length+m) k C none listed a
 |[],is,G,top,k,C,listed,a,h1,_,_,_,inv,_,hE,h=>by
  cases is with
  |cons i is=>cases h1
  |nil=>rw[List.length_nil,Nat.zero_add];exact hE G top k C a h inv
 |(kk,o)::l,is,G,top,k,C,listed,a,h1,h2,h3,h4,inv,hB,hE,h=>by
  cases is with
  |nil=>cases h1
  |cons q is=>
   obtain⟨kd,i⟩:=q
   simp only[List.map_cons,List.cons.injEq] at h1 h2
   obtain⟨rfl,h2⟩:=h2
   have ha:i∈Region.ready md ops listed:=by
    cases kd<;>simp only[partC,Bool.and_eq_true,decide_eq_true_eq] at hB
    ·cases hB
    ·simpa using hB.1
    ·rw[hB.1];simp
    ·simpa using hB.1
    ·cases hB
   rw[show((kd,o)::l).length+m=(l.length+m)+1 by simp only[List.length_cons];omega]
   cases kd with
   |h=>cases hB
   |f=>cases hB
   |q=>
    simp only[partC,Bool.and_eq_true] at hB
    obtain⟨v,hv,hk⟩:=h
    have hin:=h3 (.q,i) (by simp) (.inl rfl)
    refine wpZ_first (a0:=a) h1.1 hsel once hap hin (fun _ _=>True) (fun _ _ _ fl a' e1 e2=>(hv.of_same e1 e2).yields _) (fun _ _ _ _ _ _ _ _ _ _ _=>trivial) (l.length+m) k C none listed a trivial inv (Region.free_spec h1.1 hB.2.1) ha rfl rfl ?_
    exact wpZ_partC hR hsel once hap l is G top k C _ _ h1.2 h2 (fun p hp=>h3 p (by simp[hp])) (fun j t ht=>h4 j t ht) (inv.other ha (hap i hin)) hB.2.2 hE hk
   |c=>
    simp only[partC,Bool.and_eq_true] at hB
    obtain⟨v,Ψ,hv,hC,hk⟩:=h
    have hin:=h3 (.c,i) (by simp) (.inr rfl)
    refine wpZ_weak (fun k C=>kept_unext (R:=R) (Ψ:=Ψ)) _ _ _ _ _ _ ?_
    refine wpZ_first (a0:=a) h1.1 hsel once hap hin (fun _ C=>∀fl w,C fl w→Ψ w) (fun _ C hc fl a' e1 e2=>yields_value (by rw[e2];exact hv.1) (fun w hw=>by rw[e1];exact hv.2 w (hc fl w hw))) (fun k1 C1 C2 listed' j _ _ _ _ hj hkept fl w hw=>?_) (l.length+m) k C none listed a hC inv (Region.free_spec h1.1 hB.2.1) ha rfl rfl ?_
    ·exact kept_new (Nat.le_trans (List.getElem?_eq_some_iff.1 hj).1 hR) (hkept fl) w hw
    exact wpZ_partC hR hsel once hap l is _ _ k C _ _ h1.2 h2 (fun p hp=>h3 p (by simp[hp])) (fun j t ht=>h4 j t ht) (inv.other ha (hap i hin)) hB.2.2 hE hk
   |w=>
    simp only[partC,Bool.and_eq_true,decide_eq_true_eq] at hB
    obtain⟨C',e1,e2,e4⟩:=h
    have hk0:sq[k]? =some i:=h4 0 i rfl
    refine⟨by rw[hB.1];simp,fun j hj oj hoj=>?_⟩
    rw[hB.1] at hj
    obtain rfl:j=i:=by simpa using hj
    obtain rfl:o=oj:=Option.some.inj (h1.1.symm.trans hoj)
    refine .inr (.inl ⟨hk0,C',e1,e2,fun v hv=>?_⟩)
    exact wpZ_partC hR hsel once hap l is G top (k+1) (C' v) _ _ h1.2 h2 (fun p hp=>h3 p (by simp[hp])) (fun j t ht=>by have:=h4 (j+1) t (by simpa[rowOf] using ht);rwa [show k+(j+1)=k+1+j by omega] at this) (inv.row2 once ha hk0) hB.2 hE (e4 v hv)
def srB (l:List Oper)(hs:List Nat)(lates:List (Nat×Nat×Nat))(top:List Nat)(os:List Oper)(s:List (Kd×Nat)):Bool:=
 let late:=fun i=>((lates.lookup i).map (·.1)).getD 0
 let grp:=fun i=>((lates.lookup i).map (·.2)).getD 0
 let sq:=rowOf s
 let hd:=hs++movesC s
 let L:=listedIn hs (Array.replicate l.toArray.size false)
 Region.noSelect l.toArray&&(rowB .any l.toArray hs sq late&&(hs.all (fun i=>decide (late i≤top.getD (grp i) 0))&&(headsB .any l.toArray hs (Array.replicate l.toArray.size false)&&(onwardB l.toArray os&&
  (hd.all (fun i=>!sq.contains i)&&(s.all (fun p=>decide (p.2<l.length))&&(partC .any l.toArray s L&&(decide (Region.ready .any l.toArray (listedP s L)=[])&&decide (hs.length+s.length=l.length)))))))))
theorem wp_region_sr {id:Nat}{Q:Exit→Act→World→Prop}{a:Act}{w:World}{l:List Oper}(ms:List Kd)(lates:List (Nat×Nat×Nat))(G:Nat→World→Prop)(top:List Nat)(s:List (Kd×Nat))(hm:P.follows .mixedOrders=true)(hms0:Nat.ble ms.length l.length=true)
 (hB:srB l (headsI ms 0) lates top (headsL ms l) s=true)(hd:dstsB a.tmps.size (headsL ms l)=true)
 (h:∃aF:Act,(∀w1,Below w.heap.size w w1→wpQuiet P l.toArray (fun w'=>∃x:Later w1,w'=x.world) (fun a'=>a'=aF) (headsL ms l) a)∧
   (∀p∈lates,∀oi,l[p.1]? =some oi→LateOk P l.toArray (G p.2.2) oi aF)∧
   wpPartC P l.toArray (rowOf s).length (fun C a''=>∀w',C none w'→Q .normal a'' w') (opsAt l s) G top 0 (startC w (.cells #[] 0)) aF):(Code.region id l.toArray true).wp P Q a w:=by
 have hms:ms.length≤l.length:=Nat.le_of_ble_eq_true hms0
 obtain⟨aF,H,hlate,hrun⟩:=h
 simp only[srB,Bool.and_eq_true,decide_eq_true_eq,List.all_eq_true] at hB
 obtain⟨hsel,hrow,hgrp,hheads,hon,hap,hs1,hp1,hend,hlen⟩:=hB
 have sh:=rowShape hrow
 have hap':∀j∈headsI ms 0++movesC s,j∉rowOf s:=fun j hj hc=>by
  have:=hap j hj
  rw[List.contains_iff_mem.2 hc] at this;cases this
 have hmap1:(headsI ms 0).map (fun i=>l.toArray[i]?)=(headsL ms l).map some:=by
  have:=headsI_map (l0:=l) ms 0 (by omega)
  simpa using this
 obtain⟨m1,k1⟩:=opsAt_map (l:=l) s (List.all_eq_true.2 fun p hp=>by simpa using hs1 p hp)
 have l1:s.length=(opsAt l s).length:=by have:=congrArg List.length m1;simpa using this
 have inv0:SeqInv .any l.toArray (rowOf s) 0 (Array.replicate l.toArray.size false):=
  ⟨by simp,fun j oj _ hl=>(by rw[getD_replicate_false] at hl;cases hl),fun k' t _ hs=>by
    refine getD_in ?_ (getD_replicate_false _ _)
    obtain⟨p,hp,rfl⟩:=mem_row _ t (List.mem_of_getElem? hs)
    simpa using hs1 p hp,fun k' t hk hs=>by omega⟩
 have HZ:=fun hinv=>wpZ_partC (P:=P) (md:=.any) (ops:=l.toArray) (f:=l.length) (m:=0) (hd:=headsI ms 0++movesC s) (sq:=rowOf s) (Q:=Q) (ob:=.cells #[] 0) (R:=(rowOf s).length) (E:=fun C a''=>∀w',C none w'→Q .normal a'' w') (Nat.le_refl _) (Region.noSelect_spec hsel) sh.once hap' (opsAt l s) s G top 0 (startC w (.cells #[] 0)) (listedIn (headsI ms 0) (Array.replicate l.toArray.size false)) aF (by simpa using m1) k1
  (fun p hp hq=>List.mem_append.2 (.inr (mem_movesC _ p hp hq))) (fun j t h=>by rw[Nat.zero_add];exact h) hinv hp1 (fun G2 top2 k2 C2 a2 hE2 _=>⟨hend,hE2⟩) hrun
 have HF:=wpZ_lexH (md:=.any) (hd:=headsI ms 0++movesC s) (f:=l.length) (ob:=.cells #[] 0) (w0:=w) (fl:=none) (r:=(opsAt l s).length+0) (late:=fun i=>((lates.lookup i).map (·.1)).getD 0) (grp:=fun i=>((lates.lookup i).map (·.2)).getD 0) (Q:=Q) hsel sh
  (fun i hi=>List.mem_append.2 (.inl hi)) hap' hgrp
  (fun i hi oi hoi hpos=>by
    cases hlk:lates.lookup i with
    |none=>rw[hlk] at hpos;simp at hpos
    |some m=>
     have hmem:=lookup_mem3 lates i m hlk
     have:=hlate (i,m) hmem oi (by simpa using hoi)
     simpa[hlk] using this)
  (headsI ms 0) (headsL ms l) _ a hmap1 (fun i hi=>hi) inv0 hd hon hheads HZ H
 refine wp_region_any hm ?_
 have:=wpAny_of_Z (Q':=Q) _ 0 _ none _ _ _ ⟨⟨⟨_,(Below.refl w.heap.size w).drew⟩,rfl⟩,fun b hb=>by cases hb⟩ HF
 rw[show(headsI ms 0).length+((opsAt l s).length+0)=l.toArray.size by simp only[List.size_toArray];omega] at this
 exact this
end
end
section
open Go.RowKit Bits
structure IpOkW (k:Nat)(h:IpH):Prop where
 tos:0≤h.tos∧h.tos<256
 total:0≤h.total∧h.total<65536
 id:0≤h.id∧h.id<65536
 frag:0≤h.frag∧h.frag<65536
 ttl:0≤h.ttl∧h.ttl<256
 proto:0≤h.proto∧h.proto<256
 src:h.src.length=k∧IsBytes h.src
 dst:h.dst.length=k∧IsBytes h.dst
 opt:IsBytes h.opt
theorem ipStandsW_bytes {h:IpH}{k:Nat}(hk:IpOkW k h)(hx:ipRight h=true)(z:Int):IsBytes (ipStands h z):=by
 have hn:h.opt.length≤40:=by unfold ipRight at hx;simp at hx;omega
 unfold ipStands
 refine isBytes_app (isBytes_app (isBytes_app (isBytes_app (isBytes_app (isBytes_app ?_ (be2_bytes _)) (be2_bytes _)) (be2_bytes _)) ?_) (be2_bytes _)) (isBytes_app (isBytes_app hk.src.2 hk.dst.2) hk.opt)
 ·intro v hv;simp only[List.mem_cons,List.not_mem_nil,or_false] at hv;rcases hv with rfl|rfl;omega;exact hk.tos
 ·intro v hv;simp only[List.mem_cons,List.not_mem_nil,or_false] at hv;rcases hv with rfl|rfl;exact hk.ttl;exact hk.proto
theorem rstandsW_any (h:IpH)(z:Int)(hz:0≤z∧z<65536)(w:World)(k:Nat)(hk16:k≤16)(hk:IpOkW k h)(hx:ipRight h=true):
 Calls Tryz.prog 103 #[.agg (ripV h),.int .u16 z] w (NewBytes w (ipStands h z)):=by
 have hn:h.opt.length≤40∧h.opt.length%4=0:=by
  unfold ipRight at hx;simp at hx;omega
 have HK:=Lib.hid hk
 have HP2:Hid (∀(v:Int) (w:World),0≤v→v<65536→Calls Tryz.prog 67 #[.int .u64 v,.int .i64 2] w (NewBytes w (be2 v))):=Lib.hid (fun v w h0 h1=>by
  have:=refput_any 2 v w (by decide) h0 (by omega)
  rwa [refPut2] at this)
 have HP1:Hid (∀(v:Int) (w:World),0≤v→v<256→Calls Tryz.prog 67 #[.int .u64 v,.int .i64 1] w (NewBytes w [v])):=Lib.hid (fun v w h0 h1=>by
  have:=refput_any 1 v w (by decide) h0 (by omega)
  rwa [refPut1 v ⟨h0,h1⟩] at this)
 have HF1:Hid (∀w,Calls Tryz.prog 157 #[.bool h.df,.int .u64 16384] w (RetAt w (.int .u64 (if h.df then 16384 else 0)))):=Lib.hid (fun w=>rbit_any _ _ _)
 have HF2:Hid (∀w,Calls Tryz.prog 157 #[.bool h.mf,.int .u64 8192] w (RetAt w (.int .u64 (if h.mf then 8192 else 0)))):=Lib.hid (fun w=>rbit_any _ _ _)
 have hb1:0≤(if h.df then (16384:Int) else 0)∧(if h.df then (16384:Int) else 0)≤16384:=by split<;>omega
 have hb2:0≤(if h.mf then (8192:Int) else 0)∧(if h.mf then (8192:Int) else 0)≤8192:=by split<;>omega
 have hfr:h.frag≤8191:=by unfold ipRight at hx;simp at hx;omega
 have HST:Hid (ipStands h z=[64+((20+h.opt.length:Nat):Int)/4,h.tos]++be2 h.total++be2 h.id++be2 ((if h.df then 16384 else 0)+(if h.mf then 8192 else 0)+h.frag)++[h.ttl,h.proto]++be2 z++(h.src++h.dst++h.opt)):=Lib.hid rfl
 have hso:(strOfNums h.opt).size=h.opt.length:=strOfNums_size _
 have hs1:(strOfNums h.src).size=k:=by rw[strOfNums_size,hk.src.1]
 have hs2:(strOfNums h.dst).size=k:=by rw[strOfNums_size,hk.dst.1]
 have HCC:Hid (strOfNums h.src++strOfNums h.dst++strOfNums h.opt=strOfNums (h.src++h.dst++h.opt)):=Lib.hid (by rw[strN_append,strN_append])
 have HCL:Hid ((h.src++h.dst++h.opt).length=2*k+h.opt.length):=Lib.hid (by rw[List.length_append,List.length_append,hk.src.1,hk.dst.1];omega)
 have HCB:Hid (IsBytes (h.src++h.dst++h.opt)):=Lib.hid (isBytes_app (isBytes_app hk.src.2 hk.dst.2) hk.opt)
 unfold ripV
 generalize (if h.df then (16384:Int) else 0)=f1 at*
 generalize (if h.mf then (8192:Int) else 0)=f2 at*
 generalize strOfNums h.opt=S at*
 generalize strOfNums h.src=S1 at*
 generalize strOfNums h.dst=S2 at*
 generalize h.opt.length=n at*
 obtain⟨q,hq⟩:∃q:Int,(20+(n:Int))/4=q:=⟨_,rfl⟩
 have htd:Int.tdiv (20+(n:Int)) 4=q:=by rw[Int.tdiv_eq_ediv_of_nonneg (by omega)];exact hq
 have hq0:0≤q∧q<16:=by omega
 have HQ:Hid (((20+n:Nat):Int)/4=q):=Lib.hid (by omega)
 have bt:=hk.total
 have bi:=hk.id
 have bf:=hk.frag
 have btl:=hk.ttl
 have bp:=hk.proto
 have bts:=hk.tos
 clear hk hx
 go_enter Tryz.func103,Tryz.ntmps103
 go_wp2_with fail
 refine Calls.mono (HP1.out _ _ (by omega) (by omega)) ?_
 rintro e y1 ⟨oa1,c1,rfl,ho,hb⟩
 have hrb:=RowBox.start (w:=w) (heap_alloc_new w _) (Below.all (Below.refl _ _) _) (Nat.le_refl _) hb ho (by intro v hv;obtain rfl:=List.mem_singleton.1 hv;omega)
 have RB1:=Lib.hid hrb
 have HRL:=Lib.hid (box_reads (heap_alloc_new y1 (.cells #[.int .u8 h.tos] 5)) 0 1 [h.tos] rfl (by intro v hv;obtain rfl:=List.mem_singleton.1 hv;exact bts) (by decide) (fun j hj=>by
  rcases j with _|j
  ·rfl
  ·omega))
 have hlt:=hrb.lt
 clear hrb ho hb
 have hr:=RB1.out.box
 have hc0:y1.cell? ⟨w.heap.size,0,none⟩=some (.int .u8 h.tos):=cell_of_row _ _ 0 _ _ (0,0) hr
 clear hr
 go_wp2_with (at_builtin;refine Stopped.of ?_)
 refine Stopped.mk ?_
 refine wpList_append_reads _ rfl _ _ 22 rfl 5 (w.heap.size+1) Tryz.underlying22 infoU8 oa1 1 c1 _ rfl (RB1.out.below (Below.all (Below.refl _ _) _)).own (some ⟨y1.heap.size,0,none⟩) 1 1 [h.tos] rfl HRL.out (by omega) (by simp;omega) ?_
 intro oa2 c2 y2 ho hg _
 have RB2:=Lib.hid ((RB1.out.below (Below.all (Below.refl _ _) _)).app ho hg (by intro v hv;obtain rfl:=List.mem_singleton.1 hv;exact bts))
 rw[show[64+q]++[h.tos]=[64+q,h.tos] from rfl] at RB2
 clear ho hg HRL RB1 hc0 hlt
 have hr:=RB2.out.box
 have hc1:y2.cell? ⟨w.heap.size,1,none⟩=some (.int .u16 h.total):=cell_of_row _ _ 1 _ _ (0,0) hr
 clear hr
 go_wp2_with fail
 refine Calls.mono (HP2.out _ _ (by omega) (by omega)) ?_
 rintro e y3a ⟨oa3a,c3a,rfl,ho,hb⟩
 have RB3a:=Lib.hid (RB2.out.below hb)
 have HR3a:=Lib.hid (ho.reads (be2_bytes _))
 clear ho hb RB2 hc1
 go_wp2_with fail
 refine Calls.mono (Bits.join_any oa2 2 c2 [64+q,h.tos] _ _ _ (be2 (h.total)) _ RB3a.out.reads HR3a.out (by omega) (by simp[be2])) ?_
 rintro e y3b ⟨oa3b,c3b,rfl,ho,hb⟩
 obtain⟨L3b,hL⟩:∃L3b,L3b=[64+q,h.tos]++be2 (h.total):=⟨_,rfl⟩
 rw[←hL] at ho⊢
 have RB3b:=Lib.hid (RB3a.out.anew hb ho (by rw[hL];exact isBytes_app RB3a.out.byte (be2_bytes _)))
 have hn3b:L3b.length=4:=by rw[hL,List.length_append,RB3a.out.len];rfl
 have HL3b:=Lib.hid hL
 clear hL ho hb RB3a HR3a
 rw[hn3b] at RB3b⊢
 have hr:=RB3b.out.box
 have hc2:y3b.cell? ⟨w.heap.size,2,none⟩=some (.int .u16 h.id):=cell_of_row _ _ 2 _ _ (0,0) hr
 clear hr
 go_wp2_with fail
 refine Calls.mono (HP2.out _ _ (by omega) (by omega)) ?_
 rintro e y4a ⟨oa4a,c4a,rfl,ho,hb⟩
 have RB4a:=Lib.hid (RB3b.out.below hb)
 have HR4a:=Lib.hid (ho.reads (be2_bytes _))
 clear ho hb RB3b hc2
 go_wp2_with fail
 refine Calls.mono (Bits.join_any oa3b 4 c3b L3b _ _ _ (be2 (h.id)) _ RB4a.out.reads HR4a.out (by omega) (by simp[be2])) ?_
 rintro e y4b ⟨oa4b,c4b,rfl,ho,hb⟩
 obtain⟨L4b,hL⟩:∃L4b,L4b=L3b++be2 (h.id):=⟨_,rfl⟩
 rw[←hL] at ho⊢
 have RB4b:=Lib.hid (RB4a.out.anew hb ho (by rw[hL];exact isBytes_app RB4a.out.byte (be2_bytes _)))
 have hn4b:L4b.length=6:=by rw[hL,List.length_append,RB4a.out.len];rfl
 have HL4b:=Lib.hid hL
 clear hL ho hb RB4a HR4a
 rw[hn4b] at RB4b⊢
 have hr:=RB4b.out.box
 have hc3:y4b.cell? ⟨w.heap.size,3,none⟩=some (.bool h.df):=cell_of_row _ _ 3 _ _ (0,0) hr
 have hc4:y4b.cell? ⟨w.heap.size,4,none⟩=some (.bool h.mf):=cell_of_row _ _ 4 _ _ (0,0) hr
 have hc5:y4b.cell? ⟨w.heap.size,5,none⟩=some (.int .u16 h.frag):=cell_of_row _ _ 5 _ _ (0,0) hr
 clear hr
 go_wp2_with fail
 have HV5:Hid (0≤f1+f2+h.frag∧f1+f2+h.frag<65536):=Lib.hid (by omega)
 clear hc3 hc4 hc5
 refine wp_region_late 12 [true] (by kernel_rfl) (by kernel_rfl) (by kernel_rfl) ?_
 apply Exists.intro
 refine⟨fun wx hbx=>?_,?_⟩
 ·have hbw:w.heap.size<wx.heap.size:=(RB4b.out.below hbx).lt
  have hr:=(RB4b.out.below hbx).box
  have hc3:wx.cell? ⟨w.heap.size,3,none⟩=some (.bool h.df):=cell_of_row _ _ 3 _ _ (0,0) hr
  have hc4:wx.cell? ⟨w.heap.size,4,none⟩=some (.bool h.mf):=cell_of_row _ _ 4 _ _ (0,0) hr
  have hc5:wx.cell? ⟨w.heap.size,5,none⟩=some (.int .u16 h.frag):=cell_of_row _ _ 5 _ _ (0,0) hr
  clear hr
  clear hbx
  simp only[List.take_succ_cons,List.take_zero]
  repeat go_big_quiet_step ((first|(go_at_call 157;exact later_call (HF1.out _))|(go_at_call 157;exact later_call (HF2.out _))))
  exact wpQuiet_nil rfl
 simp only[List.drop_succ_cons,List.drop_zero,List.zip_cons_cons,List.zip_nil_left,List.length_cons,List.length_nil]
 refine wpLate_wide (newR (be2 (f1+f2+h.frag))) (WideF.call 67 #[.int .u64 (f1+f2+h.frag),.int .i64 2] rfl (fun w1=>by kernel_rfl) (fun w1 hb1 _=>(HP2.out _ w1 HV5.out.1 HV5.out.2).mono fun e w2 hp=>newR_of hp)) (newR_stable _) ?_
 rintro lo hi v hlo hhi-⟨w0,oa5a,c5a,rfl,-⟩
 refine wpLate_end ?_
 intro y5a hb hal
 obtain⟨oc',cc',he,hoc,-⟩:=((hal _ (List.mem_cons_self ..)).2 y5a (Below.refl _ _))
 obtain⟨rfl,-,rfl⟩:oa5a=oc'∧True∧c5a=cc':=by simpa using he
 have RB5a:=Lib.hid (RB4b.out.below hb)
 have HR5a:=Lib.hid (hoc.reads (be2_bytes _))
 clear hal he hhi hlo hoc hb RB4b
 go_wp2_with fail
 refine Calls.mono (Bits.join_any oa4b 6 c4b L4b _ _ _ (be2 (f1+f2+h.frag)) _ RB5a.out.reads HR5a.out (by omega) (by simp[be2])) ?_
 rintro e y5b ⟨oa5b,c5b,rfl,ho,hb⟩
 obtain⟨L5b,hL⟩:∃L5b,L5b=L4b++be2 (f1+f2+h.frag):=⟨_,rfl⟩
 rw[←hL] at ho⊢
 have RB5b:=Lib.hid (RB5a.out.anew hb ho (by rw[hL];exact isBytes_app RB5a.out.byte (be2_bytes _)))
 have hn5b:L5b.length=8:=by rw[hL,List.length_append,RB5a.out.len];rfl
 have HL5b:=Lib.hid hL
 clear hL ho hb RB5a HR5a
 rw[hn5b] at RB5b⊢
 have hr:=RB5b.out.box
 have hc6:y5b.cell? ⟨w.heap.size,6,none⟩=some (.int .u8 h.ttl):=cell_of_row _ _ 6 _ _ (0,0) hr
 have hc7:y5b.cell? ⟨w.heap.size,7,none⟩=some (.int .u8 h.proto):=cell_of_row _ _ 7 _ _ (0,0) hr
 clear hr
 have HRL:=Lib.hid (box_reads (heap_alloc_new y5b (.cells #[.int .u8 h.ttl,.int .u8 h.proto] 5)) 0 2 [h.ttl,h.proto] rfl (by intro v hv;simp only[List.mem_cons,List.not_mem_nil,or_false] at hv;rcases hv with rfl|rfl;exact btl;exact bp) (by decide) (fun j hj=>by
  rcases j with _|_|j
  ·rfl
  ·rfl
  ·omega))
 have hlt:=RB5b.out.lt
 go_wp2_with (at_builtin;refine Stopped.of ?_)
 refine Stopped.mk ?_
 refine wpList_append_reads _ rfl _ _ 22 rfl 5 (w.heap.size+1) Tryz.underlying22 infoU8 oa5b 8 c5b _ rfl (RB5b.out.below (Below.all (Below.refl _ _) _)).own (some ⟨y5b.heap.size,0,none⟩) 2 2 [h.ttl,h.proto] rfl HRL.out (by omega) (by simp;omega) ?_
 intro oa6 c6 y6 ho hg _
 have RB6:=Lib.hid ((RB5b.out.below (Below.all (Below.refl _ _) _)).app ho hg (by intro v hv;simp only[List.mem_cons,List.not_mem_nil,or_false] at hv;rcases hv with rfl|rfl;exact btl;exact bp))
 clear ho hg HRL RB5b hc6 hc7 hlt
 go_wp2_with fail
 refine Calls.mono (HP2.out _ _ (by omega) (by omega)) ?_
 rintro e y7a ⟨oa7a,c7a,rfl,ho,hb⟩
 have RB7a:=Lib.hid (RB6.out.below hb)
 have HR7a:=Lib.hid (ho.reads (be2_bytes _))
 clear ho hb RB6
 go_wp2_with fail
 refine Calls.mono (Bits.join_any oa6 10 c6 (L5b++[h.ttl,h.proto]) _ _ _ (be2 (z)) _ RB7a.out.reads HR7a.out (by omega) (by simp[be2])) ?_
 rintro e y7b ⟨oa7b,c7b,rfl,ho,hb⟩
 obtain⟨L7b,hL⟩:∃L7b,L7b=(L5b++[h.ttl,h.proto])++be2 (z):=⟨_,rfl⟩
 rw[←hL] at ho⊢
 have RB7b:=Lib.hid (RB7a.out.anew hb ho (by rw[hL];exact isBytes_app RB7a.out.byte (be2_bytes _)))
 have hn7b:L7b.length=12:=by rw[hL,List.length_append,RB7a.out.len];rfl
 have HL7b:=Lib.hid hL
 clear hL ho hb RB7a HR7a
 rw[hn7b] at RB7b⊢
 have hr:=RB7b.out.box
 have hc8:y7b.cell? ⟨w.heap.size,8,none⟩=some (.string S1):=cell_of_row _ _ 8 _ _ (0,0) hr
 have hc9:y7b.cell? ⟨w.heap.size,9,none⟩=some (.string S2):=cell_of_row _ _ 9 _ _ (0,0) hr
 have hc10:y7b.cell? ⟨w.heap.size,10,none⟩=some (.string S):=cell_of_row _ _ 10 _ _ (0,0) hr
 clear hr
 have hsz:S1.size+S2.size≤9223372036854775807:=by omega
 have hsz2:(S1++S2).size+S.size≤9223372036854775807:=by rw[ByteArray.size_append];omega
 go_wp2_with (with_reducible refine stop_tmp 66 ?_)
 refine Stopped.mk ?_
 refine wpList_tobytes _ rfl 9 22 _ rfl 5 Tryz.underlying9 Tryz.underlying22 Tryz.underlying5 (h.src++h.dst++h.opt) (by show Value.string (S1++S2++S)=_;rw[HCC.out]) HCB.out (by rw[HCL.out];omega) ?_
 intro c8 y8 hb hr8
 rw[HCL.out] at hr8⊢
 have RB8:=Lib.hid (RB7b.out.below hb)
 have HR8:=Lib.hid hr8
 clear hb hr8 hc8 hc9 hc10 RB7b
 go_wp2_with fail
 refine Calls.mono (Bits.join_any oa7b 12 c7b L7b _ _ _ (h.src++h.dst++h.opt) _ RB8.out.reads HR8.out (by omega) (by omega)) ?_
 rintro e y9 ⟨oa9,c9,rfl,ho,hb⟩
 have HE:Hid (L7b++(h.src++h.dst++h.opt)=ipStands h z):=Lib.hid (by
  rw[HST.out,HQ.out,HL7b.out,HL5b.out,HL4b.out,HL3b.out])
 rw[HE.out] at ho⊢
 have HO:=Lib.hid ho
 have HB:Hid (Below w.heap.size w y9):=Lib.hid (Below.via RB8.out.out hb)
 have HSZ:=Lib.hid RB8.out.out.size
 clear ho hb RB8 HR8
 go_wp2_with fail
 go_ret
 exact⟨oa9,c9,rfl,HO.out.mono HSZ.out,HB.out⟩
theorem ripputW_any (h:IpH)(w:World)(k:Nat)(hk16:k≤16)(hk:IpOkW k h)(hn:h.opt.length≤100000):Calls Tryz.prog 49 #[.agg (ripV h)] w (BytesErr w (ipPutL h) (ipPutErr h)):=by
 have HR:Hid (∀w,Calls Tryz.prog 102 #[.agg (ripV h)] w (RetAt w (.bool (ipRight h)))):=Lib.hid (fun w=>ripright_any h w hn hk.total)
 by_cases hx:ipRight h=true
 ·have HF:Hid (BytesErr w (ipPutL h) (ipPutErr h)=BytesErr w (ipPut h) 0):=Lib.hid (by unfold ipPutL ipPutErr;rw[hx];rfl)
  have HSD:Hid (∀(z:Int) (w:World),0≤z→z<65536→Calls Tryz.prog 103 #[.agg (ripV h),.int .u16 z] w (NewBytes w (ipStands h z))):=Lib.hid (fun z w h0 h1=>rstandsW_any h z ⟨h0,h1⟩ w k hk16 hk hx)
  have HPP:Hid (ipPut h=ipStands h (sumOf (ipStands h 0))):=Lib.hid rfl
  have HLN:Hid ((ipStands h 0).length≤1000000):=Lib.hid (by
   have h1:=hk.src.1;have h2:=hk.dst.1;unfold ipStands;simp[be2,h1,h2];omega)
  have HBY:Hid (IsBytes (ipStands h 0)):=Lib.hid (ipStandsW_bytes hk hx 0)
  rw[hx] at HR
  clear hx hk
  unfold ripV at*
  generalize strOfNums h.opt=S at*
  generalize strOfNums h.src=S1 at*
  generalize strOfNums h.dst=S2 at*
  go_enter Tryz.func49,Tryz.ntmps49
  go_wp2_with (go_at_call 102;refine Calls.later (HR.out _) ?_;intro x)
  have hbx:=(x.below.block w.heap.size (by simp)).trans (heap_alloc_new w _)
  have HXB:Hid (Below w.heap.size w x.world):=Lib.hid (Below.lat (Below.all (Below.refl _ _) _))
  have HX:=Lib.hid hbx
  clear hbx
  generalize x.world=y at*
  refine wp_region_late 2 [true,false] (by kernel_rfl) (by kernel_rfl) (by kernel_rfl) ?_
  apply Exists.intro
  refine⟨fun wx hbx=>?_,?_⟩
  ·have hr:=(hbx.block _ (Array.getElem?_eq_some_iff.1 HX.out).1).trans HX.out
   have hbw:w.heap.size<wx.heap.size:=(Array.getElem?_eq_some_iff.1 hr).1
   have hpt:partOf wx w.heap.size 0 11=#[.int .u8 h.tos,.int .u16 h.total,.int .u16 h.id,.bool h.df,.bool h.mf,.int .u16 h.frag,.int .u8 h.ttl,.int .u8 h.proto,.string S1,.string S2,.string S]:=by rw[partOf_row _ _ _ _ _ _ _ hr];simp
   have hld:∀x:Later wx,ldRun Tryz.prog 106 x.world (.pointer (some ⟨w.heap.size,0,none⟩))=.ok (.value (.agg #[.int .u8 h.tos,.int .u16 h.total,.int .u16 h.id,.bool h.df,.bool h.mf,.int .u16 h.frag,.int .u8 h.ttl,.int .u8 h.proto,.string S1,.string S2,.string S])) x.world:=fun x=>by
    have e:partOf x.world w.heap.size 0 11=_:=(Later.part x w.heap.size 0 11 hbw).trans hpt
    rw[run_load_riph x.world w.heap.size 0 (by rw[e];rfl),e]
   clear hr hbx
   simp only[List.take_succ_cons,List.take_zero]
   repeat go_big_quiet_step (fail)
   exact wpQuiet_nil rfl
  simp only[List.drop_succ_cons,List.drop_zero,List.zip_cons_cons,List.zip_nil_left,List.length_cons,List.length_nil]
  refine wpLate_wide (newR (ipStands h 0)) (WideF.call 103 #[.agg _,.int .u16 0] rfl (fun w1=>by kernel_rfl) (fun w1 hb1 _=>(HSD.out 0 w1 (by decide) (by decide)).mono fun e w2 hp=>newR_of hp)) (newR_stable _) ?_
  rintro lo hi v hlo hhi-⟨w0,ob,cb,rfl,-⟩
  generalize hl0:(ipStands h 0).length=l0 at*
  refine wpLate_quiet (.int .u16 (sumOf (ipStands h 0):Nat)) (YieldsF.call 100 #[.slice ob l0 cb] rfl (fun w1=>by kernel_rfl) ?_) ?_
  ·intro w1 hb1 hal
   obtain⟨ob',cb',he,hob,-⟩:=((hal _ (List.mem_cons_self ..)).2 w1 (Below.refl _ _))
   rw[hl0] at he hob
   obtain⟨rfl,-,rfl⟩:ob=ob'∧True∧cb=cb':=by simpa using he
   exact rof_any _ _ _ _ w1 (hob.reads HBY.out) HLN.out
  refine wpLate_end ?_
  intro w' hb hal
  have HB:Hid (Below w.heap.size w w'):=Lib.hid (Below.via HXB.out hb)
  clear hal hb hhi hlo
  have hs0:=sumOf_le (ipStands h 0)
  generalize sumOf (ipStands h 0)=sm at*
  go_wp2_with fail
  refine Calls.mono (HSD.out sm _ (by omega) (by omega)) ?_
  rintro e y9 ⟨oa9,c9,rfl,ho,hb⟩
  rw[←HPP.out] at ho⊢
  have HO:=Lib.hid (ho.mono HB.out.size)
  have HB9:Hid (Below w.heap.size w y9):=Lib.hid (Below.via HB.out hb)
  clear ho hb
  generalize hlf:(ipPut h).length=lf at*
  go_wp2_with fail
  go_ret2
  show BytesErr w (ipPutL h) (ipPutErr h) _ _
  rw[HF.out]
  exact⟨oa9,c9,by rw[hlf];rfl,by rw[hlf];exact HO.out,HB9.out⟩
 ·have hx':ipRight h=false:=by simpa using hx
  have HF:Hid (BytesErr w (ipPutL h) (ipPutErr h)=BytesErr w [] 51):=Lib.hid (by unfold ipPutL ipPutErr;rw[hx'];rfl)
  rw[hx'] at HR
  clear hx hx'
  unfold ripV at*
  go_enter Tryz.func49,Tryz.ntmps49
  go_wp2_with (go_at_call 102;refine Calls.later (HR.out _) ?_;intro x)
  go_ret2
  show BytesErr w (ipPutL h) (ipPutErr h) _ _
  rw[HF.out]
  exact⟨none,0,rfl,Owns.nil _ _ _,Below.lat (Below.all (Below.refl _ _) _)⟩
open Go.RowKit
theorem Bx.set {W w:World}{fs:List (Nat×Obj)}{b:Nat}{old:Array Value}{t:TypeId}(h:Bx W w ((b,.cells old t (0,0))::fs))(cs:Array Value)(hb:W.heap.size≤b)(hne:∀p∈fs,p.1≠b):Bx W (w.setRow b cs) ((b,.cells cs t (0,0))::fs):=by
 refine⟨fun c o hm=>?_,below_setRow h.out hb _⟩
 rcases List.mem_cons.1 hm with e|hm
 ·cases e;exact setRow_row (h.at 0 rfl)
 ·exact(setRow_other _ _ _ _ (hne _ hm)).trans (h.all c o (List.mem_cons_of_mem _ hm))
theorem Bx.lts {W w:World}{fs:List (Nat×Obj)}(h:Bx W w fs):∀p∈fs,p.1<w.heap.size:=fun p hp=>(Array.getElem?_eq_some_iff.1 (h.all p.1 p.2 hp)).1
theorem Bx.grown {W w w' z:World}{fs:List (Nat×Obj)}{oa:Option Addr}(h:Bx W w fs)(hz:Bx W z fs)(hg:w.grownBy w' (oa.map Addr.block))(hn:∀a,oa=some a→z.heap.size≤a.block):Bx W w' fs:=by
 refine⟨fun b o hm=>?_,Below.grown h.out hg h.out.size (fun k hk=>?_)⟩
 ·refine(hg.block b (Array.getElem?_eq_some_iff.1 (h.all b o hm)).1 (fun e=>?_)).trans (h.all b o hm)
  obtain⟨a,ha,hab⟩:=Option.map_eq_some_iff.1 e.symm
  have h1:=hn a ha
  have h2:b<z.heap.size:=hz.lts _ hm
  omega
 ·obtain⟨a,ha,hab⟩:=Option.map_eq_some_iff.1 hk
  have h1:=hn a ha
  have h2:=hz.out.size
  omega
open Go.RowKit
theorem noBody {w w':World}{err:Int}(h:Below w.heap.size w w'):BodyPost w [] err (.returned (.tuple #[.slice none 0 0,.int .i64 err])) w':=
 ⟨none,0,rfl,⟨rfl,Nat.le_refl _,Nat.zero_le _,(fun v hv=>by cases hv),.inl rfl⟩,h⟩
theorem sp_parts {s t:Bool}{S T:Nat→Int}{p a b f d:Int}(hg:spBad ⟨⟨s,S,t,T,p,a,b⟩,f,d⟩=false):kyRight ⟨s,S,t,T,p,a,b⟩=true∧(s&&behindB p)=false∧(f != 0&&p != 6)=false∧decide (d<0)=false:=by
 rw[show spBad ⟨⟨s,S,t,T,p,a,b⟩,f,d⟩=(!(kyRight ⟨s,S,t,T,p,a,b⟩)||((s&&behindB p)||((f != 0&&p != 6)||decide (d<0)))) from rfl] at hg
 generalize kyRight ⟨s,S,t,T,p,a,b⟩=r at*
 generalize (s&&behindB p)=x at*
 generalize (f != 0&&p != 6)=y at*
 generalize decide (d<0)=z at*
 revert hg
 cases r<;>cases x<;>cases y<;>cases z<;>decide
theorem behind_cases (p:Int):((true&&behindB p)=true→p=0∨p=43∨p=44∨p=60)∧((true&&behindB p)=false→(p==0)=false∧(p==43)=false∧(p==44)=false∧(p==60)=false):=by
 rw[Bool.true_and]
 unfold behindB
 constructor
 ·intro h
  simp only[Bool.or_eq_true,beq_iff_eq] at h
  rcases h with ((h|h)|h)|h<;>simp[h]
 ·intro h
  simp only[Bool.or_eq_false_iff] at h
  exact⟨h.1.1.1,h.1.1.2,h.1.2,h.2⟩
def AnyErr (w:World)(n:Nat)(err:Int):Ending→World→Prop:=fun e w'=>∃oa cap,e=.returned (.tuple #[.slice oa n cap,.int .i64 err])∧Below w.heap.size w w'
theorem rput_bad_four (S:Nat→Int)(t:Bool)(T:Nat→Int)(p a b f d:Int)(hg:spBad ⟨⟨false,S,t,T,p,a,b⟩,f,d⟩=true∨(spBad ⟨⟨false,S,t,T,p,a,b⟩,f,d⟩=false∧2048<d))(ho:SpOk ⟨⟨false,S,t,T,p,a,b⟩,f,d⟩)(w:World):
 Calls Tryz.prog 16 #[.agg (spC false S t T p a b f d)] w (BodyPost w (spL ⟨⟨false,S,t,T,p,a,b⟩,f,d⟩) (spErr ⟨⟨false,S,t,T,p,a,b⟩,f,d⟩)):=by
 obtain⟨r,hr⟩:∃r,kyRight ⟨false,S,t,T,p,a,b⟩=r:=⟨_,rfl⟩
 have HR:Hid (∀w,Calls Tryz.prog 27 #[.agg (kyC false S t T p a b)] w (RetAt w (.bool r))):=Lib.hid fun w=>by rw[←hr];exact rkright_any false S t T p a b w
 obtain⟨L,hL⟩:∃L,spL ⟨⟨false,S,t,T,p,a,b⟩,f,d⟩=L:=⟨_,rfl⟩
 obtain⟨er,her⟩:∃L,spErr ⟨⟨false,S,t,T,p,a,b⟩,f,d⟩=L:=⟨_,rfl⟩
 obtain⟨x,hx⟩:∃x,(false&&behindB p)=x:=⟨_,rfl⟩
 have HB:Hid ((((!r||(x||((f != 0&&p != 6)||decide (d<0))))=true)∧L=[]∧er=2)∨(((!r||(x||((f != 0&&p != 6)||decide (d<0))))=false)∧decide (2048<d)=true∧L=[]∧er=3)):=Lib.hid (by
  rw[←hr,←hx,←hL,←her]
  rcases hg with hg|⟨hg,hn⟩
  ·obtain⟨e1,e2⟩:=sp_no hg
   exact .inl ⟨hg,e2,e1⟩
  ·obtain⟨e1,e2⟩:=sp_big hg hn
   exact .inr ⟨hg,decide_eq_true hn,e2,e1⟩)
 have hd0:=ho.n
 rw[hL,her]
 obtain rfl:x=false:=hx▸rfl
 clear hx
 clear hr hL her hg ho
 have hbx:=((Bx.start w).box (spC false S t T p a b f d) 52).box (kyC false S t T p a b) 38
 rw[show(w.alloc (.cells (spC false S t T p a b f d) 52)).heap.size=w.heap.size+1 by simp] at hbx
 have BX0:=Lib.hid hbx
 clear hbx
 unfold spC kyC at*
 go_enter Tryz.func16,Tryz.ntmps16
 go_wp2_with fail
 refine BX0.out.ret (HR.out _) ?_
 intro z1 hb1 BX1
 clear hb1 BX0
 cases r
 ·obtain⟨rfl,rfl⟩:L=[]∧er=2:=by rcases HB.out with h|h;exact h.2;exact absurd h.1 (by simp)
  clear HB
  go_wp2_with fail
  go_ret2
  exact noBody BX1.out.out
 have c37:z1.cell? ⟨w.heap.size,37,none⟩=some (.int .u8 f):=BX1.out.cell 1 37 rfl rfl
 have c38:z1.cell? ⟨w.heap.size,38,none⟩=some (.int .i64 d):=BX1.out.cell 1 38 rfl rfl
 have c34:z1.cell? ⟨w.heap.size+1,34,none⟩=some (.int .u8 p):=BX1.out.cell 0 34 rfl rfl
 rcases(by cases h1:(f != 0)<;>cases h2:(p != 6)<;>simp:(f != 0)=false∨((f != 0)=true∧(p != 6)=false)∨((f != 0)=true∧(p != 6)=true)) with hq|⟨hq,hq2⟩|⟨hq,hq2⟩
 rotate_right
 ·obtain⟨rfl,rfl⟩:L=[]∧er=2:=by rcases HB.out with h|h;exact h.2;exact absurd h.1 (by rw[hq,hq2];simp)
  clear HB
  go_wp2_with fail
  go_ret2
  exact noBody BX1.out.out
 all_goals
  by_cases hdn:d<0
  ·have h2:decide (d<0)=true:=by simpa using hdn
   obtain⟨rfl,rfl⟩:L=[]∧er=2:=by rcases HB.out with h|h;exact h.2;exact absurd h.1 (by rw[h2];simp)
   clear HB hdn
   go_wp2_with fail
   go_ret2
   exact noBody BX1.out.out
  have h2:decide (d<0)=false:=by simpa using hdn
  obtain⟨h3,rfl,rfl⟩:decide (2048<d)=true∧L=[]∧er=3:=by
   rcases HB.out with h|h
   ·exact absurd h.1 (by rw[h2];first|(rw[hq,hq2];decide)|(rw[hq];simp))
   ·exact h.2
  clear HB hdn
  go_wp2_with fail
  go_ret2
  exact noBody BX1.out.out
theorem rput_bad_six (S:Nat→Int)(t:Bool)(T:Nat→Int)(p a b f d:Int)(hg:spBad ⟨⟨true,S,t,T,p,a,b⟩,f,d⟩=true∨(spBad ⟨⟨true,S,t,T,p,a,b⟩,f,d⟩=false∧2048<d))(ho:SpOk ⟨⟨true,S,t,T,p,a,b⟩,f,d⟩)(w:World):
 Calls Tryz.prog 16 #[.agg (spC true S t T p a b f d)] w (BodyPost w (spL ⟨⟨true,S,t,T,p,a,b⟩,f,d⟩) (spErr ⟨⟨true,S,t,T,p,a,b⟩,f,d⟩)):=by
 obtain⟨r,hr⟩:∃r,kyRight ⟨true,S,t,T,p,a,b⟩=r:=⟨_,rfl⟩
 have HR:Hid (∀w,Calls Tryz.prog 27 #[.agg (kyC true S t T p a b)] w (RetAt w (.bool r))):=Lib.hid fun w=>by rw[←hr];exact rkright_any true S t T p a b w
 obtain⟨L,hL⟩:∃L,spL ⟨⟨true,S,t,T,p,a,b⟩,f,d⟩=L:=⟨_,rfl⟩
 obtain⟨er,her⟩:∃L,spErr ⟨⟨true,S,t,T,p,a,b⟩,f,d⟩=L:=⟨_,rfl⟩
 obtain⟨x,hx⟩:∃x,(true&&behindB p)=x:=⟨_,rfl⟩
 have HB:Hid ((((!r||(x||((f != 0&&p != 6)||decide (d<0))))=true)∧L=[]∧er=2)∨(((!r||(x||((f != 0&&p != 6)||decide (d<0))))=false)∧decide (2048<d)=true∧L=[]∧er=3)):=Lib.hid (by
  rw[←hr,←hx,←hL,←her]
  rcases hg with hg|⟨hg,hn⟩
  ·obtain⟨e1,e2⟩:=sp_no hg
   exact .inl ⟨hg,e2,e1⟩
  ·obtain⟨e1,e2⟩:=sp_big hg hn
   exact .inr ⟨hg,decide_eq_true hn,e2,e1⟩)
 have hd0:=ho.n
 rw[hL,her]
 have HX:Hid ((x=true→p=0∨p=43∨p=44∨p=60)∧(x=false→(p==0)=false∧(p==43)=false∧(p==44)=false∧(p==60)=false)):=Lib.hid (by rw[←hx];exact behind_cases p)
 clear hx
 clear hr hL her hg ho
 have hbx:=((Bx.start w).box (spC true S t T p a b f d) 52).box (kyC true S t T p a b) 38
 rw[show(w.alloc (.cells (spC true S t T p a b f d) 52)).heap.size=w.heap.size+1 by simp] at hbx
 have BX0:=Lib.hid hbx
 clear hbx
 unfold spC kyC at*
 go_enter Tryz.func16,Tryz.ntmps16
 cases x
 rotate_right
 ·obtain⟨rfl,rfl⟩:L=[]∧er=2:=by rcases HB.out with h|h;exact h.2;exact absurd h.1 (by cases r<;>simp)
  clear HB
  rcases HX.out.1 rfl with rfl|rfl|rfl|rfl
  all_goals
   go_wp2_with fail
   refine BX0.out.ret (HR.out _) ?_
   intro z1 hb1 BX1
   clear hb1 BX0
   cases r
   ·go_wp2_with fail
    go_ret2
    exact noBody BX1.out.out
   ·go_wp2_with fail
    go_ret2
    exact noBody BX1.out.out
 obtain⟨k0,k43,k44,k60⟩:=HX.out.2 rfl
 go_wp2_with fail
 refine BX0.out.ret (HR.out _) ?_
 intro z1 hb1 BX1
 clear hb1 BX0 k0 k43 k44 k60
 cases r
 ·obtain⟨rfl,rfl⟩:L=[]∧er=2:=by rcases HB.out with h|h;exact h.2;exact absurd h.1 (by simp)
  clear HB
  go_wp2_with fail
  go_ret2
  exact noBody BX1.out.out
 have c37:z1.cell? ⟨w.heap.size,37,none⟩=some (.int .u8 f):=BX1.out.cell 1 37 rfl rfl
 have c38:z1.cell? ⟨w.heap.size,38,none⟩=some (.int .i64 d):=BX1.out.cell 1 38 rfl rfl
 have c34:z1.cell? ⟨w.heap.size+1,34,none⟩=some (.int .u8 p):=BX1.out.cell 0 34 rfl rfl
 rcases(by cases h1:(f != 0)<;>cases h2:(p != 6)<;>simp:(f != 0)=false∨((f != 0)=true∧(p != 6)=false)∨((f != 0)=true∧(p != 6)=true)) with hq|⟨hq,hq2⟩|⟨hq,hq2⟩
 rotate_right
 ·obtain⟨rfl,rfl⟩:L=[]∧er=2:=by rcases HB.out with h|h;exact h.2;exact absurd h.1 (by rw[hq,hq2];simp)
  clear HB
  go_wp2_with fail
  go_ret2
  exact noBody BX1.out.out
 all_goals
  by_cases hdn:d<0
  ·have h2:decide (d<0)=true:=by simpa using hdn
   obtain⟨rfl,rfl⟩:L=[]∧er=2:=by rcases HB.out with h|h;exact h.2;exact absurd h.1 (by rw[h2];simp)
   clear HB hdn
   go_wp2_with fail
   go_ret2
   exact noBody BX1.out.out
  have h2:decide (d<0)=false:=by simpa using hdn
  obtain⟨h3,rfl,rfl⟩:decide (2048<d)=true∧L=[]∧er=3:=by
   rcases HB.out with h|h
   ·exact absurd h.1 (by rw[h2];first|(rw[hq,hq2];decide)|(rw[hq];simp))
   ·exact h.2
  clear HB hdn
  go_wp2_with fail
  go_ret2
  exact noBody BX1.out.out
end
end Go.Proofs.YtkgjbipfhhjlpaaGreatDoor
