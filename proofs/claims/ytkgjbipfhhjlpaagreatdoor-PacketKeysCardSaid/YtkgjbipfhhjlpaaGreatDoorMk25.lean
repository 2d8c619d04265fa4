import Derived.Test.YtkgjbipfhhjlpaaGreatDoorMk24
set_option linter.unusedVariables false
set_option linter.unusedSimpArgs false
set_option maxRecDepth 100000
set_option maxHeartbeats 32000000
namespace Go.Proofs.YtkgjbipfhhjlpaaGreatDoor
section
open Go.RowKit
section
variable {P:Program} {ops:Array Oper} {md:Region.Mode}
def ReadIn (P:Program)(ops:Array Oper)(Ψ:World→Prop)(o:Oper)(v:Value)(a:Act):Prop:=Region.wanted o (yielded ops a.tmps)=true∧∀w,Ψ w→(execOp a.eval o).run P w=.ok (.value v) w
def extG (G:Nat→World→Prop)(n:Nat)(Ψ:World→Prop):Nat→World→Prop:=fun g=>if g=n then Ψ else G g
theorem kept_ext {G:Nat→World→Prop}{top:List Nat}{k R:Nat}{C:World→Prop}{Ψ:World→Prop}(h:Kept G top (k+1) C)(hp:∀w,C w→Ψ w):Kept (extG G top.length Ψ) (top++[R]) (k+1) C:=by
 intro g hg w hw
 unfold extG
 by_cases e:g=top.length
 ·rw[if_pos e];exact hp w hw
 ·rw[if_neg e]
  refine h g ?_ w hw
  rw[List.getD_eq_getElem?_getD] at hg⊢
  rcases Nat.lt_or_ge g top.length with hl|hl
  ·rwa [List.getElem?_append_left hl] at hg
  ·rw[List.getElem?_append_right hl,List.getElem?_eq_none (by simp;omega)] at hg
   simp at hg
theorem kept_unext {G:Nat→World→Prop}{top:List Nat}{k R:Nat}{C:World→Prop}{Ψ:World→Prop}(h:Kept (extG G top.length Ψ) (top++[R]) (k+1) C):Kept G top (k+1) C:=by
 intro g hg w hw
 have hl:g<top.length:=by
  rcases Nat.lt_or_ge g top.length with hl|hl
  ·exact hl
  ·rw[List.getD_eq_getElem?_getD,List.getElem?_eq_none hl] at hg;simp at hg
 have:=h g (by rw[List.getD_eq_getElem?_getD,List.getElem?_append_left hl,←List.getD_eq_getElem?_getD];exact hg) w hw
 unfold extG at this
 rwa [if_neg (by omega)] at this
theorem kept_new {G:Nat→World→Prop}{top:List Nat}{k R:Nat}{C:World→Prop}{Ψ:World→Prop}(hk:k+1≤R)(h:Kept (extG G top.length Ψ) (top++[R]) (k+1) C):∀w,C w→Ψ w:=by
 intro w hw
 have:=h top.length (by rw[List.getD_eq_getElem?_getD,List.getElem?_append_right (Nat.le_refl _)];simpa using hk) w hw
 unfold extG at this
 rwa [if_pos rfl] at this
theorem wpZ_weak {hd sq:List Nat}{f:Nat}{ob:Obj}{G G':Nat→World→Prop}{top top':List Nat}{Q:Exit→Act→World→Prop}(hK:∀k C,Kept G' top' (k+1) C→Kept G top (k+1) C):
 ∀(n k:Nat) (C:FC) (fl:Option Nat) (listed:Array Bool) (a:Act),wpZ P md ops hd sq f ob G' top' Q n k C fl listed a→wpZ P md ops hd sq f ob G top Q n k C fl listed a
 |0,k,C,fl,listed,a,h=>h
 |n+1,k,C,fl,listed,a,h=>by
  refine⟨h.1,fun i hi oi hoi=>?_⟩
  rcases h.2 i hi oi hoi with ⟨h1,v,h2,h3⟩|⟨h1,C',h2,h3,h4⟩|⟨h1,h2,h3,h4,h5,h6⟩
  ·exact .inl ⟨h1,v,h2,wpZ_weak hK n _ _ _ _ _ h3⟩
  ·exact .inr (.inl ⟨h1,C',h2,fun v fl=>hK _ _ (h3 v fl),fun v hv=>wpZ_weak hK n _ _ _ _ _ (h4 v hv)⟩)
  ·exact .inr (.inr ⟨h1,h2,h3,h4,h5,fun b=>wpZ_weak hK n _ _ _ _ _ (h6 b)⟩)
def wpPartC (P:Program)(ops:Array Oper)(R:Nat)(E:FC→Act→Prop):List (Kd×Oper)→(Nat→World→Prop)→List Nat→Nat→FC→Act→Prop
 |[],_,_,_,C,a=>E C a
 |(.w,o)::rest,G,top,k,C,a=>∃C':Value→FC,(SeqRun P ops (C none) (fun v w=>C' v none w) o a)∧(∀v fl,Kept G top (k+1) (C' v fl))∧∀v,(∃w,C' v none w)→wpPartC P ops R E rest G top (k+1) (C' v) (a.put o.dst v)
 |(.c,o)::rest,G,top,k,C,a=>∃(v:Value) (Ψ:World→Prop),ReadIn P ops Ψ o v a∧(∀fl w,C fl w→Ψ w)∧wpPartC P ops R E rest (extG G top.length Ψ) (top++[R]) k C (a.put o.dst v)
 |(_,o)::rest,G,top,k,C,a=>∃v,PlainIn P ops o v a∧wpPartC P ops R E rest G top k C (a.put o.dst v)
def partC (md:Region.Mode)(ops:Array Oper):List (Kd×Nat)→Array Bool→Bool
 |[],_=>true
 |(.w,i)::r,listed=>decide (Region.ready md ops listed=[i])&&partC md ops r (listed.setIfInBounds i true)
 |(.q,i)::r,listed=>(Region.ready md ops listed).contains i&&(Region.free md ops listed i&&partC md ops r (listed.setIfInBounds i true))
 |(.c,i)::r,listed=>(Region.ready md ops listed).contains i&&(Region.free md ops listed i&&partC md ops r (listed.setIfInBounds i true))
 |_,_=>false
def movesC:List (Kd×Nat)→List Nat
 |[]=>[]
 |(.q,i)::r=>i::movesC r
 |(.c,i)::r=>i::movesC r
 |_::r=>movesC r
theorem mem_movesC:∀(is:List (Kd×Nat)) (p:Kd×Nat),p∈is→(p.1=.q∨p.1=.c)→p.2∈movesC is
 |(kd,i)::r,p,h,hk=>by
  rcases List.mem_cons.1 h with rfl|h
  ·simp only at hk
   rcases hk with rfl|rfl<;>simp[movesC]
  ·have:=mem_movesC r p h hk
   cases kd<;>simp only[movesC]<;>first|exact this|exact List.mem_cons_of_mem _ this
theorem wpZ_partC {hd sq:List Nat}{f:Nat}{ob:Obj}{Q:Exit→Act→World→Prop}{R:Nat}{E:FC→Act→Prop}{m:Nat}(hR:sq.length≤R)
 (hsel:∀(j:Nat) (o:Oper) cs b,ops[j]? =some o→o.op≠ .select cs b)(once:∀k k' t:Nat,sq[k]? =some t→sq[k']? =some t→k=k')(hap:∀j∈hd,j∉sq):
 ∀(l:List (Kd×Oper)) (is:List (Kd×Nat)) (G:Nat→World→Prop) (top:List Nat) (k:Nat) (C:FC) (listed:Array Bool) (a:Act),is.map (fun p=>ops[p.2]?)=l.map (fun p=>some p.2)→is.map (·.1)=l.map (·.1)→(∀p∈is,(p.1=.q∨p.1=.c)→p.2∈hd)→(∀j t,(rowOf is)[j]? =some t→sq[k+j]? =some t)→SeqInv md ops sq k listed→
 partC md ops is listed=true→(∀G' top' k' C' a',E C' a'→SeqInv md ops sq k' (listedP is listed)→wpZ P md ops hd sq f ob G' top' Q m k' C' none (listedP is listed) a')→
 wpPartC P ops R E l G top k C a→wpZ P md ops hd sq f ob G top Q (l.length+m) k C none listed a
 |[],is,G,top,k,C,listed,a,h1,_,_,_,inv,_,hE,h=>by
  cases is with
  |cons i is=>cases h1
  |nil=>rw[List.length_nil,Nat.zero_add];exact hE G top k C a h inv
 |(kk,o)::l,is,G,top,k,C,listed,a,h1,h2,h3,h4,inv,hB,hE,h=>by
  cases is with
  |nil=>cases h1
  |cons q is=>
   obtain⟨kd,i⟩:=q
   simp only[List.map_cons,List.cons.injEq] at h1 h2
   obtain⟨rfl,h2⟩:=h2
   have ha:i∈Region.ready md ops listed:=by
    cases kd<;>simp only[partC,Bool.and_eq_true,decide_eq_true_eq] at hB
    ·cases hB
    ·simpa using hB.1
    ·rw[hB.1];simp
    ·simpa using hB.1
    ·cases hB
   rw[show((kd,o)::l).length+m=(l.length+m)+1 by simp only[List.length_cons];omega]
   cases kd with
   |h=>cases hB
   |f=>cases hB
   |q=>
    simp only[partC,Bool.and_eq_true] at hB
    obtain⟨v,hv,hk⟩:=h
    have hin:=h3 (.q,i) (by simp) (.inl rfl)
    refine wpZ_first (a0:=a) h1.1 hsel once hap hin (fun _ _=>True) (fun _ _ _ fl a' e1 e2=>(hv.of_same e1 e2).yields _) (fun _ _ _ _ _ _ _ _ _ _ _=>trivial) (l.length+m) k C none listed a trivial inv (Region.free_spec h1.1 hB.2.1) ha rfl rfl ?_
    exact wpZ_partC hR hsel once hap l is G top k C _ _ h1.2 h2 (fun p hp=>h3 p (by simp[hp])) (fun j t ht=>h4 j t ht) (inv.other ha (hap i hin)) hB.2.2 hE hk
   |c=>
    simp only[partC,Bool.and_eq_true] at hB
    obtain⟨v,Ψ,hv,hC,hk⟩:=h
    have hin:=h3 (.c,i) (by simp) (.inr rfl)
    refine wpZ_weak (fun k C=>kept_unext (R:=R) (Ψ:=Ψ)) _ _ _ _ _ _ ?_
    refine wpZ_first (a0:=a) h1.1 hsel once hap hin (fun _ C=>∀fl w,C fl w→Ψ w) (fun _ C hc fl a' e1 e2=>yields_value (by rw[e2];exact hv.1) (fun w hw=>by rw[e1];exact hv.2 w (hc fl w hw))) (fun k1 C1 C2 listed' j _ _ _ _ hj hkept fl w hw=>?_) (l.length+m) k C none listed a hC inv (Region.free_spec h1.1 hB.2.1) ha rfl rfl ?_
    ·exact kept_new (Nat.le_trans (List.getElem?_eq_some_iff.1 hj).1 hR) (hkept fl) w hw
    exact wpZ_partC hR hsel once hap l is _ _ k C _ _ h1.2 h2 (fun p hp=>h3 p (by simp[hp])) (fun j t ht=>h4 j t ht) (inv.other ha (hap i hin)) hB.2.2 hE hk
   |w=>
    simp only[partC,Bool.and_eq_true,decide_eq_true_eq] at hB
    obtain⟨C',e1,e2,e4⟩:=h
    have hk0:sq[k]? =some i:=h4 0 i rfl
    refine⟨by rw[hB.1];simp,fun j hj oj hoj=>?_⟩
    rw[hB.1] at hj
    obtain rfl:j=i:=by simpa using hj
    obtain rfl:o=oj:=Option.some.inj (h1.1.symm.trans hoj)
    refine .inr (.inl ⟨hk0,C',e1,e2,fun v hv=>?_⟩)
    exact wpZ_partC hR hsel once hap l is G top (k+1) (C' v) _ _ h1.2 h2 (fun p hp=>h3 p (by simp[hp])) (fun j t ht=>by have:=h4 (j+1) t (by simpa[rowOf] using ht);rwa [show k+(j+1)=k+1+j by omega] at this) (inv.row2 once ha hk0) hB.2 hE (e4 v hv)
def srB (l:List Oper)(hs:List Nat)(lates:List (Nat×Nat×Nat))(top:List Nat)(os:List Oper)(s:List (Kd×Nat)):Bool:=
 let late:=fun i=>((lates.lookup i).map (·.1)).getD 0
 let grp:=fun i=>((lates.lookup i).map (·.2)).getD 0
 let sq:=rowOf s
 let hd:=hs++movesC s
 let L:=listedIn hs (Array.replicate l.toArray.size false)
 Region.noSelect l.toArray&&(rowB .any l.toArray hs sq late&&(hs.all (fun i=>decide (late i≤top.getD (grp i) 0))&&(headsB .any l.toArray hs (Array.replicate l.toArray.size false)&&(onwardB l.toArray os&&
  (hd.all (fun i=>!sq.contains i)&&(s.all (fun p=>decide (p.2<l.length))&&(partC .any l.toArray s L&&(decide (Region.ready .any l.toArray (listedP s L)=[])&&decide (hs.length+s.length=l.length)))))))))
theorem wp_region_sr {id:Nat}{Q:Exit→Act→World→Prop}{a:Act}{w:World}{l:List Oper}(ms:List Kd)(lates:List (Nat×Nat×Nat))(G:Nat→World→Prop)(top:List Nat)(s:List (Kd×Nat))(hm:P.follows .mixedOrders=true)(hms0:Nat.ble ms.length l.length=true)
 (hB:srB l (headsI ms 0) lates top (headsL ms l) s=true)(hd:dstsB a.tmps.size (headsL ms l)=true)
 (h:∃aF:Act,(∀w1,Below w.heap.size w w1→wpQuiet P l.toArray (fun w'=>∃x:Later w1,w'=x.world) (fun a'=>a'=aF) (headsL ms l) a)∧
   (∀p∈lates,∀oi,l[p.1]? =some oi→LateOk P l.toArray (G p.2.2) oi aF)∧
   wpPartC P l.toArray (rowOf s).length (fun C a''=>∀w',C none w'→Q .normal a'' w') (opsAt l s) G top 0 (startC w (.cells #[] 0)) aF):(Code.region id l.toArray true).wp P Q a w:=by
 have hms:ms.length≤l.length:=Nat.le_of_ble_eq_true hms0
 obtain⟨aF,H,hlate,hrun⟩:=h
 simp only[srB,Bool.and_eq_true,decide_eq_true_eq,List.all_eq_true] at hB
 obtain⟨hsel,hrow,hgrp,hheads,hon,hap,hs1,hp1,hend,hlen⟩:=hB
 have sh:=rowShape hrow
 have hap':∀j∈headsI ms 0++movesC s,j∉rowOf s:=fun j hj hc=>by
  have:=hap j hj
  rw[List.contains_iff_mem.2 hc] at this;cases this
 have hmap1:(headsI ms 0).map (fun i=>l.toArray[i]?)=(headsL ms l).map some:=by
  have:=headsI_map (l0:=l) ms 0 (by omega)
  simpa using this
 obtain⟨m1,k1⟩:=opsAt_map (l:=l) s (List.all_eq_true.2 fun p hp=>by simpa using hs1 p hp)
 have l1:s.length=(opsAt l s).length:=by have:=congrArg List.length m1;simpa using this
 have inv0:SeqInv .any l.toArray (rowOf s) 0 (Array.replicate l.toArray.size false):=
  ⟨by simp,fun j oj _ hl=>(by rw[getD_replicate_false] at hl;cases hl),fun k' t _ hs=>by
    refine getD_in ?_ (getD_replicate_false _ _)
    obtain⟨p,hp,rfl⟩:=mem_row _ t (List.mem_of_getElem? hs)
    simpa using hs1 p hp,fun k' t hk hs=>by omega⟩
 have HZ:=fun hinv=>wpZ_partC (P:=P) (md:=.any) (ops:=l.toArray) (f:=l.length) (m:=0) (hd:=headsI ms 0++movesC s) (sq:=rowOf s) (Q:=Q) (ob:=.cells #[] 0) (R:=(rowOf s).length) (E:=fun C a''=>∀w',C none w'→Q .normal a'' w') (Nat.le_refl _) (Region.noSelect_spec hsel) sh.once hap' (opsAt l s) s G top 0 (startC w (.cells #[] 0)) (listedIn (headsI ms 0) (Array.replicate l.toArray.size false)) aF (by simpa using m1) k1
  (fun p hp hq=>List.mem_append.2 (.inr (mem_movesC _ p hp hq))) (fun j t h=>by rw[Nat.zero_add];exact h) hinv hp1 (fun G2 top2 k2 C2 a2 hE2 _=>⟨hend,hE2⟩) hrun
 have HF:=wpZ_lexH (md:=.any) (hd:=headsI ms 0++movesC s) (f:=l.length) (ob:=.cells #[] 0) (w0:=w) (fl:=none) (r:=(opsAt l s).length+0) (late:=fun i=>((lates.lookup i).map (·.1)).getD 0) (grp:=fun i=>((lates.lookup i).map (·.2)).getD 0) (Q:=Q) hsel sh
  (fun i hi=>List.mem_append.2 (.inl hi)) hap' hgrp
  (fun i hi oi hoi hpos=>by
    cases hlk:lates.lookup i with
    |none=>rw[hlk] at hpos;simp at hpos
    |some m=>
     have hmem:=lookup_mem3 lates i m hlk
     have:=hlate (i,m) hmem oi (by simpa using hoi)
     simpa[hlk] using this)
  (headsI ms 0) (headsL ms l) _ a hmap1 (fun i hi=>hi) inv0 hd hon hheads HZ H
 refine wp_region_any hm ?_
 have:=wpAny_of_Z (Q':=Q) _ 0 _ none _ _ _ ⟨⟨⟨_,(Below.refl w.heap.size w).drew⟩,rfl⟩,fun b hb=>by cases hb⟩ HF
 rw[show(headsI ms 0).length+((opsAt l s).length+0)=l.toArray.size by simp only[List.size_toArray];omega] at this
 exact this
end
end
section
open Go.RowKit
theorem exec_conv (ev:Operand→Value)(w:World){dst:Option Tmp}{ty:TypeId}{pos:String}{after:Array Edge}{g:Option (Nat×Bool)}{t u:TypeId}{x:Operand}{vx v:Value}{w2:World}(hx:ev x=vx)
 (hr:(convert t u vx).run Tryz.prog w=.ok v w2):(execOp ev ⟨dst,.convert t u x,ty,pos,after,g⟩).run Tryz.prog w=.ok (.value v) w2:=by
 simp[execOp,hx,hr,Result.andThen]
theorem run_strReads {w:World}{oa:Option Addr}{n cap:Nat}{l:List Int}(h:Reads w oa n cap l):(convert 22 9 (.slice oa n cap)).run Tryz.prog w=.ok (.string (strOfNums l)) w:=
 run_string_reads 22 5 Tryz.underlying22 Tryz.underlying5 h 9 Tryz.underlying9
theorem kyBytes_byte (k:Ky)(hk:KyOk k):IsBytes (kyBytes k):=by
 unfold kyBytes
 split
 ·have hA:∀s {B:Nat→Int},U8 B→IsBytes (adBytes s B):=fun s B hB v hv=>by
   unfold adBytes at hv
   obtain⟨i,-,rfl⟩:=List.mem_map.1 hv
   exact hB i
  refine isBytes_app (isBytes_app (isBytes_app (isBytes_app (isBytes_app ?_ (hA _ hk.S)) (hA _ hk.T)) ?_) (be2_bytes _)) (be2_bytes _)
  ·intro v hv
   obtain rfl:=List.mem_singleton.1 hv
   split<;>decide
  ·intro v hv
   obtain rfl:=List.mem_singleton.1 hv
   exact hk.p
 ·intro v hv;cases hv
theorem kyBytes_len (k:Ky):(kyBytes k).length≤38:=by
 unfold kyBytes
 split
 ·simp only[List.length_append,List.length_singleton,adBytes_len,be2,List.length_cons,List.length_nil]
  have:∀s,(sizeZ s).toNat≤16:=by decide
  have h1:=this k.s
  have h2:=this k.t
  omega
 ·simp
theorem run_bytesOf {P:Program}{w:World}{oa:Option Addr}{n c:Nat}{l:List Int}(h:Reads w oa n c l):(Extern.Bytes.bytesOf (.slice oa n c)).run P w=.ok ⟨(Lib.bytesOf l).toArray⟩ w:=by
 obtain rfl:=h.len
 cases oa with
 |none=>
  rcases h.at' with h0|⟨g,off,e,-⟩
  ·obtain rfl:=List.eq_nil_of_length_eq_zero h0
   rfl
  ·cases e
 |some a=>
  rcases h.at' with h0|⟨g,off,e,-,hc⟩
  ·obtain rfl:=List.eq_nil_of_length_eq_zero h0
   exact Lib.run_loadBytesX (P:=P) w [] a .empty (fun j x hj=>by cases hj)
  ·cases e
   have:=Lib.run_loadBytesX (P:=P) w l ⟨g,off,none⟩ .empty (fun j x hj=>by
    rw[Addr.add_lit]
    have hl:=(List.getElem?_eq_some_iff.1 hj).1
    rw[hc j hl,List.getD_eq_getElem?_getD,hj];rfl)
   simpa[Extern.Bytes.bytesOf] using this
theorem run_compareAny {P:Program}{w:World}{o1 o2:Option Addr}{n1 n2 c1 c2:Nat}{xs ys:List Int}(h1:Reads w o1 n1 c1 xs)(h2:Reads w o2 n2 c2 ys):
 (Extern.BytealgCompare.compare #[.slice o1 n1 c1,.slice o2 n2 c2]).run P w=.ok (.int .i64 (Lib.compareBytes (Lib.bytesOf xs) (Lib.bytesOf ys))) w:=by
 have l1:=run_bytesOf (P:=P) h1
 have l2:=run_bytesOf (P:=P) h2
 change Sem.run P (do pure (goInt (Extern.BytealgCompare.cmp (←Extern.Bytes.bytesOf (.slice o1 n1 c1)) (←Extern.Bytes.bytesOf (.slice o2 n2 c2))))) w=_
 simp only[Sem.run_bind,l1,l2,Sem.run_pure,Result.andThen]
 rw[Lib.cmp_eq]
 simp[goInt]
theorem comparek_any {o1 o2:Option Addr}{n1 n2 c1 c2:Nat}{xs ys:List Int}{w:World}(h1:Reads w o1 n1 c1 xs)(h2:Reads w o2 n2 c2 ys):
 Calls Tryz.prog 75 #[.slice o1 n1 c1,.slice o2 n2 c2] w (RetAt w (.int .i64 (Lib.compareBytes (Lib.bytesOf xs) (Lib.bytesOf ys)))):=by
 have hrun:=run_compareAny (P:=Tryz.prog) h1 h2
 clear h1 h2
 generalize Lib.compareBytes (Lib.bytesOf xs) (Lib.bytesOf ys)=R at*
 go_enter Tryz.func75,Tryz.ntmps75
 go_wp2
 rw[run_callFunc_extern Tryz.func135 (by kernel_rfl) (by kernel_rfl) (by kernel_rfl) (e:=Extern.BytealgCompare.compare) (by kernel_rfl),hrun]
 simp only[Result.andThen]
 rw[Oper.upon_value]
 go_wp2
 go_ret
 exact⟨rfl,Below.refl _ _⟩
theorem kcmp_any (k m:Ky)(hk:KyOk k)(hm:KyOk m)(w:World):Calls Tryz.prog 30 #[.agg (kyV k),.agg (kyV m)] w (RetAt w (.int .i64 (kyCmp k m))):=by
 obtain⟨nk,hnk⟩:∃n,(kyBytes k).length=n:=⟨_,rfl⟩
 obtain⟨nm,hnm⟩:∃n,(kyBytes m).length=n:=⟨_,rfl⟩
 have HK:Hid (∀w,Calls Tryz.prog 24 #[.agg (kyV k)] w (NewN w nk (kyBytes k))):=Lib.hid fun w=>(kbytes_any k hk w).mono fun _ _ h=>h.n hnk (kyBytes_byte k hk)
 have HM:Hid (∀w,Calls Tryz.prog 24 #[.agg (kyV m)] w (NewN w nm (kyBytes m))):=Lib.hid fun w=>(kbytes_any m hm w).mono fun _ _ h=>h.n hnm (kyBytes_byte m hm)
 have HR:Hid (kyCmp k m=Lib.compareBytes (Lib.bytesOf (kyBytes k)) (Lib.bytesOf (kyBytes m))):=Lib.hid rfl
 have hbx:=((Bx.start w).box (kyV k) 30).box (kyV m) 30
 rw[show(w.alloc (.cells (kyV k) 30)).heap.size=w.heap.size+1 by simp] at hbx
 have BX:=Lib.hid hbx
 generalize kyCmp k m=R at*
 generalize kyBytes k=X at*
 generalize kyBytes m=Y at*
 clear hbx hnk hnm hk hm
 obtain⟨ks,hks⟩:∃c,c=kyV k:=⟨_,rfl⟩
 obtain⟨ms,hms⟩:∃c,c=kyV m:=⟨_,rfl⟩
 have z1:ks.size=37:=by rw[hks];rfl
 have z2:ms.size=37:=by rw[hms];rfl
 rw[←hks,←hms] at BX⊢
 rw[←hks] at HK
 rw[←hms] at HM
 clear hks hms
 go_enter Tryz.func30,Tryz.ntmps30
 go_wp2_with fail
 generalize (w.alloc _).alloc _=y at*
 have hl0:w.heap.size<y.heap.size:=BX.out.lt 1 rfl
 have hl1:w.heap.size+1<y.heap.size:=BX.out.lt 0 rfl
 have q1:partOf y (w.heap.size+1) 0 37=ms:=BX.out.part 0 rfl z2
 refine wp_region_sc [.h,.w,.h] [(2,1,0)] (fun _ w'=>partOf w' (w.heap.size+1) 0 37=ms) [1] [(.w,1),(.w,3),(.w,4),(.q,5)] (by kernel_rfl) (by kernel_rfl) (by kernel_rfl) (by kernel_rfl) ?_
 apply Exists.intro
 refine⟨fun wx hbx=>?_,?_,?_⟩
 ·have hbx1:w.heap.size<wx.heap.size:=Nat.lt_of_lt_of_le hl0 hbx.size
  have hbx2:w.heap.size+1<wx.heap.size:=Nat.lt_of_lt_of_le hl1 hbx.size
  have p0:partOf wx w.heap.size 0 37=ks:=(BX.out.go hbx).part 1 rfl z1
  have p1:partOf wx (w.heap.size+1) 0 37=ms:=(BX.out.go hbx).part 0 rfl z2
  clear hbx
  simp only[headsL]
  repeat go_big_quiet_step (fail)
  exact wpQuiet_nil rfl
 ·intro q hq oi hoi
  simp only[List.mem_cons,List.not_mem_nil,or_false] at hq
  rcases hq with rfl
  cases hoi;exact⟨_,rfl,rfl,fun w2 hw=>do_load_key _ w2 _ ms (by kernel_rfl) hw z2⟩
 simp only[opsAt,List.getElem?_cons_succ,List.getElem?_cons_zero]
 refine⟨fun v fl w2=>∃o1 c1,v=.slice o1 nk c1∧Reads w2 o1 nk c1 X∧Below y.heap.size y w2,?_,?_,(fun h=>by cases h),?_⟩
 ·rintro fl rfl
  refine⟨rfl,fun w' hw'=>.inr ⟨24,#[.agg ks],by kernel_rfl,?_⟩⟩
  obtain⟨⟨x,rfl⟩,-⟩:=hw'
  refine(HK.out x.world).mono ?_
  rintro e w2 ⟨o1,c1,rfl,h1,hb⟩
  exact⟨_,rfl,o1,c1,rfl,h1,Below.via x.below hb⟩
 ·rintro v fq g-w2 ⟨o1,c1,-,-,hb⟩
  exact(partOf_below hb _ 0 37 hl1).trans q1
 rintro v ⟨gl0,w30,o1,c1,rfl,-⟩
 refine⟨fun v fl w2=>∃o2 c2,v=.slice o2 nm c2∧Reads w2 o1 nk c1 X∧Reads w2 o2 nm c2 Y∧Below y.heap.size y w2,?_,fun _ _=>kept_top rfl,(fun h=>by cases h),?_⟩
 ·rintro fl rfl
  refine⟨rfl,fun w' hw'=>.inr ⟨24,#[.agg ms],by kernel_rfl,?_⟩⟩
  obtain⟨o1',c1',he,h1,hb1⟩:=hw'
  obtain⟨rfl,rfl⟩:o1=o1'∧c1=c1':=by simpa using he
  refine(HM.out w').mono ?_
  rintro e w2 ⟨o2,c2,rfl,h2,hb⟩
  exact⟨_,rfl,o2,c2,rfl,h1.below hb,h2,Below.via hb1 hb⟩
 rintro v ⟨gl1,w31,o2,c2,rfl,-⟩
 refine⟨fun v fl w2=>v=.int .i64 R∧Below y.heap.size y w2,?_,fun _ _=>kept_top rfl,(fun h=>by cases h),?_⟩
 ·rintro fl rfl
  refine⟨rfl,fun w' hw'=>.inr ⟨75,#[.slice o1 nk c1,.slice o2 nm c2],by kernel_rfl,?_⟩⟩
  obtain⟨o2',c2',he,h1,h2,hb1⟩:=hw'
  obtain⟨rfl,rfl⟩:o2=o2'∧c2=c2':=by simpa using he
  refine(comparek_any h1 h2).mono ?_
  rintro e w2 ⟨rfl,hb⟩
  rw[←HR.out]
  exact⟨_,rfl,rfl,Below.via hb1 hb⟩
 rintro v ⟨gl2,w32,rfl,-⟩
 refine⟨.int .i64 R,⟨rfl,fun _=>by kernel_rfl⟩,?_⟩
 rintro z ⟨-,hb3⟩
 have HB:=Lib.hid (BX.out.out.trans (hb3.mono BX.out.out.size))
 clear gl0 gl1 gl2 w30 w31 w32 q1 hl0 hl1 hb3
 simp only[Act.put,List.setIfInBounds_toArray,List.set_cons_succ,List.set_cons_zero]
 go_wp2_with fail
 go_ret
 exact .mk rfl HB.out
theorem cmp_cases:∀a b:List UInt8,(Op.bytesLess a b=true∧Lib.compareBytes a b=-1)∨(Op.bytesLess a b=false∧(a==b)=false∧Lib.compareBytes a b=1)∨(Op.bytesLess a b=false∧(a==b)=true∧Lib.compareBytes a b=0)
 |[],[]=>.inr (.inr ⟨rfl,rfl,rfl⟩)
 |[],_::_=>.inl ⟨rfl,rfl⟩
 |_::_,[]=>.inr (.inl ⟨rfl,rfl,rfl⟩)
 |x::a,y::b=>by
  have ih:=cmp_cases a b
  unfold Op.bytesLess Lib.compareBytes
  by_cases h1:x<y
  ·rw[if_pos h1];left;simp[h1]
  ·by_cases h2:y<x
   ·have hne:¬x=y:=fun e=>UInt8.lt_irrefl _ (e▸h2)
    rw[if_neg h1,if_pos h2];right;left;simp[h1,hne]
   ·have e:x=y:=UInt8.le_antisymm (UInt8.not_lt.1 h2) (UInt8.not_lt.1 h1)
    subst e
    rw[if_neg h1,if_neg h2]
    simpa using ih
theorem rkcmp_any (k m:Ky)(hk:KyOk k)(hm:KyOk m)(w:World):Calls Tryz.prog 31 #[.agg (kyV k),.agg (kyV m)] w (RetAt w (.int .i64 (kyCmp k m))):=by
 obtain⟨nk,hnk⟩:∃n,(kyBytes k).length=n:=⟨_,rfl⟩
 obtain⟨nm,hnm⟩:∃n,(kyBytes m).length=n:=⟨_,rfl⟩
 have HK:Hid (∀w,Calls Tryz.prog 25 #[.agg (kyV k)] w (NewN w nk (kyBytes k))):=Lib.hid fun w=>(rkbytes_any k hk w).mono fun _ _ h=>h.n hnk (kyBytes_byte k hk)
 have HM:Hid (∀w,Calls Tryz.prog 25 #[.agg (kyV m)] w (NewN w nm (kyBytes m))):=Lib.hid fun w=>(rkbytes_any m hm w).mono fun _ _ h=>h.n hnm (kyBytes_byte m hm)
 have HR:Hid (kyCmp k m=Lib.compareBytes (Lib.bytesOf (kyBytes k)) (Lib.bytesOf (kyBytes m))):=Lib.hid rfl
 have hbx:=((Bx.start w).box (kyV k) 38).box (kyV m) 38
 rw[show(w.alloc (.cells (kyV k) 38)).heap.size=w.heap.size+1 by simp] at hbx
 have BX:=Lib.hid hbx
 generalize kyCmp k m=R at*
 generalize kyBytes k=X at*
 generalize kyBytes m=Y at*
 clear hbx hnk hnm hk hm
 obtain⟨ks,hks⟩:∃c,c=kyV k:=⟨_,rfl⟩
 obtain⟨ms,hms⟩:∃c,c=kyV m:=⟨_,rfl⟩
 have z1:ks.size=37:=by rw[hks];rfl
 have z2:ms.size=37:=by rw[hms];rfl
 rw[←hks,←hms] at BX⊢
 rw[←hks] at HK
 rw[←hms] at HM
 clear hks hms
 go_enter Tryz.func31,Tryz.ntmps31
 go_wp2_with fail
 generalize (w.alloc _).alloc _=y at*
 have hl0:w.heap.size<y.heap.size:=BX.out.lt 1 rfl
 have hl1:w.heap.size+1<y.heap.size:=BX.out.lt 0 rfl
 have q1:partOf y (w.heap.size+1) 0 37=ms:=BX.out.part 0 rfl z2
 refine wp_region_sr [.h,.w,.w,.h] [(3,1,0)] (fun _ w'=>partOf w' (w.heap.size+1) 0 37=ms) [1] [(.w,1),(.c,2),(.w,4),(.c,5),(.q,6),(.q,7)] (by kernel_rfl) (by kernel_rfl) (by kernel_rfl) (by kernel_rfl) ?_
 apply Exists.intro
 refine⟨fun wx hbx=>?_,?_,?_⟩
 ·have hbx1:w.heap.size<wx.heap.size:=Nat.lt_of_lt_of_le hl0 hbx.size
  have hbx2:w.heap.size+1<wx.heap.size:=Nat.lt_of_lt_of_le hl1 hbx.size
  have p0:partOf wx w.heap.size 0 37=ks:=(BX.out.go hbx).part 1 rfl z1
  have p1:partOf wx (w.heap.size+1) 0 37=ms:=(BX.out.go hbx).part 0 rfl z2
  clear hbx
  simp only[headsL]
  repeat go_big_quiet_step (fail)
  exact wpQuiet_nil rfl
 ·intro q hq oi hoi
  simp only[List.mem_cons,List.not_mem_nil,or_false] at hq
  rcases hq with rfl
  cases hoi;exact⟨_,rfl,rfl,fun w2 hw=>do_load_rkey _ w2 _ ms (by kernel_rfl) hw z2⟩
 simp only[opsAt,List.getElem?_cons_succ,List.getElem?_cons_zero]
 refine⟨fun v fl w2=>∃o1 c1,v=.slice o1 nk c1∧Reads w2 o1 nk c1 X∧Below y.heap.size y w2,?_,?_,?_⟩
 ·refine⟨rfl,fun w' hw'=>.inr ⟨25,#[.agg ks],by kernel_rfl,?_⟩⟩
  obtain⟨⟨x,rfl⟩,-⟩:=hw'
  refine(HK.out x.world).mono ?_
  rintro e w2 ⟨o1,c1,rfl,h1,hb⟩
  exact⟨_,rfl,o1,c1,rfl,h1,Below.via x.below hb⟩
 ·rintro v fl g-w2 ⟨o1,c1,-,-,hb⟩
  exact(partOf_below hb _ 0 37 hl1).trans q1
 rintro v ⟨w30,o1,c1,rfl,-⟩
 refine⟨.string (strOfNums X),fun w'=>Reads w' o1 nk c1 X,⟨rfl,fun w' hw=>exec_conv _ _ (by kernel_rfl) (run_strReads hw)⟩,?_,?_⟩
 ·rintro fl w' ⟨o1',c1',he,h1,-⟩
  obtain⟨rfl,rfl⟩:o1=o1'∧c1=c1':=by simpa using he
  exact h1
 refine⟨fun v fl w2=>∃o2 c2,v=.slice o2 nm c2∧Reads w2 o1 nk c1 X∧Reads w2 o2 nm c2 Y∧Below y.heap.size y w2,?_,?_,?_⟩
 ·refine⟨rfl,fun w' hw'=>.inr ⟨25,#[.agg ms],by kernel_rfl,?_⟩⟩
  obtain⟨o1',c1',he,h1,hb1⟩:=hw'
  obtain⟨rfl,rfl⟩:o1=o1'∧c1=c1':=by simpa using he
  refine(HM.out w').mono ?_
  rintro e w2 ⟨o2,c2,rfl,h2,hb⟩
  exact⟨_,rfl,o2,c2,rfl,h1.below hb,h2,Below.via hb1 hb⟩
 ·intro v fl
  exact kept_ext (kept_top rfl) (fun w2 ⟨_,_,_,h1,_⟩=>h1)
 rintro v ⟨w31,o2,c2,rfl,-⟩
 refine⟨.string (strOfNums Y),fun w'=>Reads w' o2 nm c2 Y,⟨rfl,fun w' hw=>exec_conv _ _ (by kernel_rfl) (run_strReads hw)⟩,?_,?_⟩
 ·rintro fl w' ⟨o2',c2',he,-,h2,-⟩
  obtain⟨rfl,rfl⟩:o2=o2'∧c2=c2':=by simpa using he
  exact h2
 refine⟨.string (strOfNums X),⟨rfl,fun _=>by kernel_rfl⟩,?_⟩
 refine⟨.string (strOfNums Y),⟨rfl,fun _=>by kernel_rfl⟩,?_⟩
 rintro z ⟨o2',c2',-,-,-,hb3⟩
 have HB:=Lib.hid (BX.out.out.trans (hb3.mono BX.out.out.size))
 clear w30 w31 q1 hl0 hl1 hb3
 simp only[Act.put,List.setIfInBounds_toArray,List.set_cons_succ,List.set_cons_zero]
 have hX:(strOfNums X).toList=Lib.bytesOf X:=Lib.strOfNums_toList X
 have hY:(strOfNums Y).toList=Lib.bytesOf Y:=Lib.strOfNums_toList Y
 rcases cmp_cases (strOfNums X).toList (strOfNums Y).toList with ⟨h1,h2⟩|⟨h1,h2,h3⟩|⟨h1,h2,h3⟩
 ·have HV:Hid (R=-1):=Lib.hid (by rw[HR.out,←hX,←hY];exact h2)
  clear hX hY h2 HR
  go_wp2_with fail
  go_ret
  exact .mk (by rw[HV.out];rfl) HB.out
 ·have HV:Hid (R=1):=Lib.hid (by rw[HR.out,←hX,←hY];exact h3)
  clear hX hY h3 HR
  go_wp2_with fail
  go_ret
  exact .mk (by rw[HV.out];rfl) HB.out
 ·have HV:Hid (R=0):=Lib.hid (by rw[HR.out,←hX,←hY];exact h3)
  clear hX hY h3 HR
  go_wp2_with fail
  go_ret
  exact .mk (by rw[HV.out];rfl) HB.out
theorem digits16_any (k:Nat):∀(m:Int) (w:World),0≤m→m<65536→m≤k→Calls Tryz.prog 73 #[.int .i64 m,.int .i64 16] w (RetAt w (.string ⟨(digB 16 m.toNat).toArray⟩)):=by
 induction k with
 |zero=>
  intro m w h0 h1 hk
  obtain rfl:m=0:=by omega
  have hsl:=slice_digit 0 (by decide)
  go_enter Tryz.func73,Tryz.ntmps73
  go_wp2_with fail
  go_ret
  exact .mk (val_string (by decide+kernel)) (Below.refl _ _)
 |succ k ih=>
  intro m w h0 h1 hk
  by_cases hm:m<16
  ·obtain⟨d,rfl⟩:∃d:Nat,m=d:=⟨m.toNat,by omega⟩
   have hsl:=slice_digit d (by omega)
   clear ih
   go_enter Tryz.func73,Tryz.ntmps73
   go_wp2_with fail
   go_ret
   refine .mk (val_string ?_) (Below.refl _ _)
   rw[Int.toNat_natCast,digB,dif_pos (by omega)]
  ·have IH:=Lib.hid ih
   have q1:m.tdiv 16=m/16:=Int.tdiv_eq_ediv_of_nonneg h0
   have q2:m.tmod 16=m%16:=Int.tmod_eq_emod_of_nonneg h0
   have q3:IntKind.i64.wrap (m/16)=m/16:=IntWalk.i64_in _ (by omega)
   have q4:IntKind.i64.wrap (m%16)=m%16:=IntWalk.i64_in _ (by omega)
   have hl1:(digB 16 (m/16).toNat).length≤100000:=by have:=digB_len 16 _ _ (Nat.le_refl (m/16).toNat);omega
   have hl2:(digB 16 (m%16).toNat).length≤100000:=by have:=digB_len 16 _ _ (Nat.le_refl (m%16).toNat);omega
   have hl3:(digB 16 (m/16).toNat).length+(digB 16 (m%16).toNat).length≤9223372036854775807:=by omega
   have hl4:((digB 16 (m/16).toNat).length:Int)+((digB 16 (m%16).toNat).length:Int)≤9223372036854775807:=by omega
   have hcat:=concat_small (digB 16 (m/16).toNat) (digB 16 (m%16).toNat) hl1 hl2
   clear ih
   go_enter Tryz.func73,Tryz.ntmps73
   go_wp2_with fail
   refine wp_region_later (by kernel_rfl) (by kernel_rfl) ?_
   iterate 4 go_big_quiet_step (fail)
   go_big_quiet_step ((go_at_call 73;exact later_call (IH.out (m/16) _ (by omega) (by omega) (by omega))))
   iterate 4 go_big_quiet_step (fail)
   go_big_quiet_step ((go_at_call 73;exact later_call (IH.out (m%16) _ (by omega) (by omega) (by omega))))
   repeat go_big_quiet_step (fail)
   refine wpQuiet_nil ?_
   intro x
   go_wp2_with fail
   go_ret
   refine .mk (val_string ?_) x.below
   have e1:m.toNat/16=(m/16).toNat:=by omega
   have e2:m.toNat%16=(m%16).toNat:=by omega
   rw[digB.eq_def 16 m.toNat,dif_neg (by omega),e1,e2,digB.eq_def 16 (m%16).toNat,dif_pos (by omega)]
   exact bytes_append _ [_]
theorem runZ_le (z:Nat→Bool):∀(f i:Nat),runZ z f i≤f
 |0,_=>Nat.le_refl _
 |f+1,i=>by
  rw[runZ]
  have:=runZ_le z f (i+1)
  split<;>omega
theorem run_any (six:Bool)(B:Nat→Int)(hB:U8 B)(z:Nat→Bool)(hz:∀k,k<8→z k=(grpI B k==0))(i:Nat)(hi:i≤8)(w:World):
 Calls Tryz.prog 133 #[adV six B,.int .i64 (i:Int)] w (RetAt w (.int .i64 ((runZ z (8-i) i:Nat):Int))):=by
 have HX:Hid (AdBox (w.alloc (.cells #[.bool six,.int .u8 (B 0),.int .u8 (B 1),.int .u8 (B 2),.int .u8 (B 3),.int .u8 (B 4),.int .u8 (B 5),.int .u8 (B 6),.int .u8 (B 7),.int .u8 (B 8),.int .u8 (B 9),.int .u8 (B 10),.int .u8 (B 11),.int .u8 (B 12),.int .u8 (B 13),.int .u8 (B 14),.int .u8 (B 15)] 36)) w.heap.size 36 six B):=Lib.hid (AdBox.made w _ six B)
 have HB:=Lib.hid (Below.all (Below.refl w.heap.size w) (.cells #[.bool six,.int .u8 (B 0),.int .u8 (B 1),.int .u8 (B 2),.int .u8 (B 3),.int .u8 (B 4),.int .u8 (B 5),.int .u8 (B 6),.int .u8 (B 7),.int .u8 (B 8),.int .u8 (B 9),.int .u8 (B 10),.int .u8 (B 11),.int .u8 (B 12),.int .u8 (B 13),.int .u8 (B 14),.int .u8 (B 15)] 36))
 have HG:=Lib.hid (fun k hk w=>rgroup_any six B hB k hk w)
 have HZ:=Lib.hid hz
 clear hB hz
 unfold adV at*
 go_enter Tryz.func133,Tryz.ntmps133
 go_wp2_with fail
 generalize w.alloc (.cells #[.bool six,.int .u8 (B 0),.int .u8 (B 1),.int .u8 (B 2),.int .u8 (B 3),.int .u8 (B 4),.int .u8 (B 5),.int .u8 (B 6),.int .u8 (B 7),.int .u8 (B 8),.int .u8 (B 9),.int .u8 (B 10),.int .u8 (B 11),.int .u8 (B 12),.int .u8 (B 13),.int .u8 (B 14),.int .u8 (B 15)] 36)=w1 at*
 go_loopw [5] (fun u5 wr=>∃n:Nat,i+n≤8∧u5=.int .i64 n∧Hid (runZ z (8-i) i=n+runZ z (8-(i+n)) (i+n))∧Hid (AdBox wr w.heap.size 36 six B)∧Hid (Below w.heap.size w wr)) (fun u5 _=>(8:Int)-intOf u5 |>.toNat)
 case atStart=>exact⟨0,hi,rfl,Lib.hid (by simp),HX,HB⟩
 case round=>
  obtain⟨n,hin,rfl,HN,HX,HW⟩:=hrel
  by_cases hlt:i+n<8
  ·have hpp:=HX.out.part
   have hlt2:(i:Int)+n<8:=by omega
   have hzn:=HZ.out (i+n) hlt
   have HS:Hid (runZ z (8-(i+n)) (i+n)=if z (i+n) then runZ z (8-(i+(n+1))) (i+(n+1))+1 else 0):=Lib.hid (by
    rw[show runZ z (8-(i+n)) (i+n)=runZ z (8-(i+(n+1))+1) (i+n) by rw[show 8-(i+n)=8-(i+(n+1))+1 by omega]];rfl)
   have HGn:=HG.out (i+n) hlt
   rw[show(((i+n:Nat)):Int)=(i:Int)+n by omega] at HGn
   have HGn:=Lib.hid HGn
   generalize grpI B (i+n)=g at*
   go_wp2_with fail
   refine Calls.mono (HGn.out _) ?_
   rintro e w2 ⟨rfl,hb2⟩
   have HX2:=Lib.hid (HX.out.below hb2)
   have HW2:=Lib.hid (Below.via HW.out hb2)
   clear hpp hb2 HX HW
   by_cases hg:g=0
   ·have hzt:z (i+n)=true:=by rw[hzn,hg];rfl
    subst hg
    have HS2:=HS.out
    rw[hzt,if_pos rfl] at HS2
    have HS3:=Lib.hid HS2
    clear HS HS2 hzt hzn HGn
    go_wp2_with fail
    go_roundw
    case rel=>exact⟨n+1,by omega,by go_num,Lib.hid (by rw[HN.out,HS3.out];omega),HX2,HW2⟩
    case measure=>simp[intOf];omega
   ·have hzt:z (i+n)=false:=by rw[hzn];simpa using hg
    have HS2:=HS.out
    rw[hzt,if_neg (by simp)] at HS2
    have HR:Hid (runZ z (8-i) i=n):=Lib.hid (by rw[HN.out,HS2];rfl)
    clear HS HS2 hzt hzn HGn HN
    go_wp2_with fail
    go_ret
    exact .mk (by rw[HR.out];rfl) HW2.out
  ·have hlt2:¬((i:Int)+n<8):=by omega
   have HR:Hid (runZ z (8-i) i=n):=Lib.hid (by rw[HN.out,show 8-(i+n)=0 by omega];rfl)
   clear HN
   go_wp2_with fail
   go_ret
   exact .mk (by rw[HR.out];rfl) HW.out
theorem rtext_wrong (six:Bool)(B:Nat→Int)(hr:rightB six B=false)(w:World):
 Calls Tryz.prog 74 #[adV six B] w (RetAt w (.string ⟨([]:List UInt8).toArray⟩)):=by
 have HR:Hid (∀w,Calls Tryz.prog 69 #[adV six B] w (RetAt w (.bool false))):=Lib.hid fun w=>by rw[←hr];exact rright_any six B w
 clear hr
 unfold adV at*
 go_enter Tryz.func74,Tryz.ntmps74
 go_wp2_with fail
 refine Calls.later (HR.out _) ?_
 intro x
 go_wp2_with fail
 go_ret
 exact .mk rfl (Below.lat (Below.all (Below.refl _ _) _))
theorem digits10_dec (b:Nat)(h:b<65536)(w:World):Calls Tryz.prog 73 #[.int .i64 (b:Int),.int .i64 10] w (RetAt w (.string ⟨(Lib.decDigits b).toArray⟩)):=by
 have:=digits10_any b (b:Int) w (by omega) (by omega) (by omega)
 rwa [Int.toNat_natCast,digB_ten b b (Nat.le_refl _)] at this
theorem rtext_four (B:Nat→Int)(hB:U8 B)(hr:rightB false B=true)(w:World):
 Calls Tryz.prog 74 #[adV false B] w (RetAt w (.string ⟨(text4 fun i=>(B i).toNat).toArray⟩)):=by
 have HR:Hid (∀w,Calls Tryz.prog 69 #[adV false B] w (RetAt w (.bool true))):=Lib.hid fun w=>by rw[←hr];exact rright_any false B w
 have HX:Hid (AdBox (w.alloc (.cells #[.bool false,.int .u8 (B 0),.int .u8 (B 1),.int .u8 (B 2),.int .u8 (B 3),.int .u8 (B 4),.int .u8 (B 5),.int .u8 (B 6),.int .u8 (B 7),.int .u8 (B 8),.int .u8 (B 9),.int .u8 (B 10),.int .u8 (B 11),.int .u8 (B 12),.int .u8 (B 13),.int .u8 (B 14),.int .u8 (B 15)] 36)) w.heap.size 36 false B):=Lib.hid (AdBox.made w _ false B)
 have HW:Hid (Below w.heap.size w (w.alloc (.cells #[.bool false,.int .u8 (B 0),.int .u8 (B 1),.int .u8 (B 2),.int .u8 (B 3),.int .u8 (B 4),.int .u8 (B 5),.int .u8 (B 6),.int .u8 (B 7),.int .u8 (B 8),.int .u8 (B 9),.int .u8 (B 10),.int .u8 (B 11),.int .u8 (B 12),.int .u8 (B 13),.int .u8 (B 14),.int .u8 (B 15)] 36))):=Lib.hid (Below.all (Below.refl w.heap.size w) _)
 have HT:Hid (text4 (fun i=>(B i).toNat)=Lib.decDigits (B 0).toNat++[46]++Lib.decDigits (B 1).toNat++[46]++Lib.decDigits (B 2).toNat++[46]++Lib.decDigits (B 3).toNat):=Lib.hid (by
  show joinL 46 [Lib.decDigits (B 0).toNat,Lib.decDigits (B 1).toNat,Lib.decDigits (B 2).toNat,Lib.decDigits (B 3).toNat]=_
  simp[joinL])
 have h0:=hB 0
 have h1:=hB 1
 have h2:=hB 2
 have h3:=hB 3
 generalize text4 (fun i=>(B i).toNat)=T at*
 clear hB hr
 unfold adV at*
 go_enter Tryz.func74,Tryz.ntmps74
 go_wp2_with fail
 generalize w.alloc (.cells #[.bool false,.int .u8 (B 0),.int .u8 (B 1),.int .u8 (B 2),.int .u8 (B 3),.int .u8 (B 4),.int .u8 (B 5),.int .u8 (B 6),.int .u8 (B 7),.int .u8 (B 8),.int .u8 (B 9),.int .u8 (B 10),.int .u8 (B 11),.int .u8 (B 12),.int .u8 (B 13),.int .u8 (B 14),.int .u8 (B 15)] 36)=w1 at*
 refine Calls.mono (HR.out _) ?_
 rintro e w2 ⟨rfl,hb2⟩
 have HX2:=Lib.hid (HX.out.below hb2)
 have HW2:=Lib.hid (Below.via HW.out hb2)
 have hsx:=HX2.out.six
 clear hb2 HX HW HR
 go_wp2_with fail
 clear hsx
 have hc0:w2.cell? ⟨w.heap.size,1,none⟩=some (.int .u8 (B 0)):=HX2.out.cell 0 (by omega)
 have hc1:w2.cell? ⟨w.heap.size,2,none⟩=some (.int .u8 (B 1)):=HX2.out.cell 1 (by omega)
 have hc2:w2.cell? ⟨w.heap.size,3,none⟩=some (.int .u8 (B 2)):=HX2.out.cell 2 (by omega)
 have hc3:w2.cell? ⟨w.heap.size,4,none⟩=some (.int .u8 (B 3)):=HX2.out.cell 3 (by omega)
 have hlt:=HX2.out.lt
 obtain⟨b0,e0⟩:∃b:Nat,B 0=b:=⟨(B 0).toNat,by omega⟩
 obtain⟨b1,e1⟩:∃b:Nat,B 1=b:=⟨(B 1).toNat,by omega⟩
 obtain⟨b2,e2⟩:∃b:Nat,B 2=b:=⟨(B 2).toNat,by omega⟩
 obtain⟨b3,e3⟩:∃b:Nat,B 3=b:=⟨(B 3).toNat,by omega⟩
 rw[e0,e1,e2,e3] at HT
 rw[e0] at hc0 h0
 rw[e1] at hc1 h1
 rw[e2] at hc2 h2
 rw[e3] at hc3 h3
 simp only[Int.toNat_natCast] at HT
 clear e0 e1 e2 e3
 have HD0:=Lib.hid (fun w=>digits10_dec b0 (by omega) w)
 have HD1:=Lib.hid (fun w=>digits10_dec b1 (by omega) w)
 have HD2:=Lib.hid (fun w=>digits10_dec b2 (by omega) w)
 have HD3:=Lib.hid (fun w=>digits10_dec b3 (by omega) w)
 have l0:=decDigits_small b0 (by omega)
 have l1:=decDigits_small b1 (by omega)
 have l2:=decDigits_small b2 (by omega)
 have l3:=decDigits_small b3 (by omega)
 generalize Lib.decDigits b0=d0 at*
 generalize Lib.decDigits b1=d1 at*
 generalize Lib.decDigits b2=d2 at*
 generalize Lib.decDigits b3=d3 at*
 refine wp_region_later (by kernel_rfl) (by kernel_rfl) ?_
 repeat go_big_quiet_step (fail)
 go_big_quiet_step ((go_at_call 73;exact later_call (HD0.out _)))
 repeat go_big_quiet_step (fail)
 go_big_quiet_step ((go_at_call 73;exact later_call (HD1.out _)))
 repeat go_big_quiet_step (fail)
 go_big_quiet_step ((go_at_call 73;exact later_call (HD2.out _)))
 repeat go_big_quiet_step (fail)
 go_big_quiet_step ((go_at_call 73;exact later_call (HD3.out _)))
 repeat go_big_quiet_step (fail)
 refine wpQuiet_nil ?_
 intro x
 go_wp2_with fail
 go_ret
 refine .mk ?_ (HW2.out.trans (x.below.mono HW2.out.size))
 rw[HT.out]
 simp only[←bytes_append]
 rfl
theorem flatT_last {G:Nat→List UInt8}(hG:∀i,G i≠[]∧(58:UInt8)∉G i)(T:List Tok)(h:T≠[]):∃l c,flatT G T=l++[c]∧(c=58↔T.getLast? =some none):=by
 obtain⟨T',x,rfl⟩:∃T' x,T=T'++[x]:=⟨T.dropLast,T.getLast h,(List.dropLast_concat_getLast h).symm⟩
 rw[flatT_append,List.getLast?_concat]
 cases x with
 |none=>exact⟨flatT G T',58,rfl,by simp⟩
 |some i=>
  obtain⟨h1,h2⟩:=hG i
  refine⟨flatT G T'++(G i).dropLast,(G i).getLast h1,?_,?_⟩
  ·show flatT G T'++(G i++[])=_
   rw[List.append_nil,List.append_assoc,List.dropLast_concat_getLast]
  ·constructor
   ·intro e
    exact absurd (e▸List.getLast_mem h1) h2
   ·intro e;cases e
theorem index_last (l:List UInt8)(c:UInt8)(w:World):(Instr.index 9 (.string ⟨(l++[c]).toArray⟩) (.int .i64 (l.length:Int))).run Tryz.prog w=.ok (.int .u8 (c.toNat:Int)) w:=by
 have hs:l.length<(⟨(l++[c]).toArray⟩:ByteArray).size:=by simp[ByteArray.size]
 refine index_byte _ l.length hs _ ?_ w
 show((l++[c]).toArray[l.length]'(by simp)).toNat=_
 simp
theorem rtext_six (B:Nat→Int)(hB:U8 B)(w:World):
 Calls Tryz.prog 74 #[adV true B] w (RetAt w (.string ⟨(text6 (grpN B)).toArray⟩)):=by
 have HR:Hid (∀w,Calls Tryz.prog 69 #[adV true B] w (RetAt w (.bool true))):=Lib.hid fun w=>rright_any true B w
 have HRUN:=Lib.hid (fun i hi w=>run_any true B hB (zg (grpN B)) (fun k hk=>zg_grp hB k hk) i hi w)
 have HG:=Lib.hid (fun k hk w=>rgroup_any true B hB k hk w)
 have HGE:=Lib.hid (fun k=>grpN_eq hB k)
 have HGL:=Lib.hid (fun k=>grpN_lt hB k)
 have HT:Hid (text6 (grpN B)=flatT (fun i=>digB 16 (grpN B i)) (refTok (zg (grpN B)))):=Lib.hid (by
  unfold text6
  rw[show progTok (zg (grpN B))=refTok (zg (grpN B)) from tok_eq8 _ _ _ _ _ _ _ _])
 have HGG:Hid (∀i,digB 16 (grpN B i)≠[]∧(58:UInt8)∉digB 16 (grpN B i)):=Lib.hid fun i=>⟨digB_ne _ _,digB_colon _⟩
 have HG4:Hid (∀i,(digB 16 (grpN B i)).length≤4):=Lib.hid fun i=>digB16_len _ (grpN_lt hB i)
 have HDI:Hid (∀i w,Calls Tryz.prog 73 #[.int .i64 (grpI B i),.int .i64 16] w (RetAt w (.string ⟨(digB 16 (grpN B i)).toArray⟩))):=Lib.hid fun i w=>by
  have h1:=grpN_lt hB i
  have:=digits16_any (grpN B i) (grpI B i) w (by have:=grpI_bd hB i;omega) (by have:=grpI_bd hB i;omega) (by rw[grpN_eq hB i];omega)
  exact this
 have HX:Hid (AdBox (w.alloc (.cells #[.bool true,.int .u8 (B 0),.int .u8 (B 1),.int .u8 (B 2),.int .u8 (B 3),.int .u8 (B 4),.int .u8 (B 5),.int .u8 (B 6),.int .u8 (B 7),.int .u8 (B 8),.int .u8 (B 9),.int .u8 (B 10),.int .u8 (B 11),.int .u8 (B 12),.int .u8 (B 13),.int .u8 (B 14),.int .u8 (B 15)] 36)) w.heap.size 36 true B):=Lib.hid (AdBox.made w _ true B)
 have HW:Hid (Below w.heap.size w (w.alloc (.cells #[.bool true,.int .u8 (B 0),.int .u8 (B 1),.int .u8 (B 2),.int .u8 (B 3),.int .u8 (B 4),.int .u8 (B 5),.int .u8 (B 6),.int .u8 (B 7),.int .u8 (B 8),.int .u8 (B 9),.int .u8 (B 10),.int .u8 (B 11),.int .u8 (B 12),.int .u8 (B 13),.int .u8 (B 14),.int .u8 (B 15)] 36))):=Lib.hid (Below.all (Below.refl w.heap.size w) _)
 clear hB
 generalize zg (grpN B)=z at*
 generalize text6 (grpN B)=TX at*
 generalize hGf:(fun i=>digB 16 (grpN B i))=G at*
 have HGf:Hid (∀i,digB 16 (grpN B i)=G i):=Lib.hid fun i=>by rw[←hGf]
 have HGG2:Hid (∀i,G i≠[]∧(58:UInt8)∉G i):=Lib.hid fun i=>by rw[←HGf.out i];exact HGG.out i
 have HG42:Hid (∀i,(G i).length≤4):=Lib.hid fun i=>by rw[←HGf.out i];exact HG4.out i
 have HDI2:Hid (∀i w,Calls Tryz.prog 73 #[.int .i64 (grpI B i),.int .i64 16] w (RetAt w (.string ⟨(G i).toArray⟩))):=Lib.hid fun i w=>by rw[←HGf.out i];exact HDI.out i w
 clear hGf HGf HGG HG4 HDI HGE HGL
 unfold adV at*
 go_enter Tryz.func74,Tryz.ntmps74
 go_wp2_with fail
 generalize w.alloc (.cells #[.bool true,.int .u8 (B 0),.int .u8 (B 1),.int .u8 (B 2),.int .u8 (B 3),.int .u8 (B 4),.int .u8 (B 5),.int .u8 (B 6),.int .u8 (B 7),.int .u8 (B 8),.int .u8 (B 9),.int .u8 (B 10),.int .u8 (B 11),.int .u8 (B 12),.int .u8 (B 13),.int .u8 (B 14),.int .u8 (B 15)] 36)=w1 at*
 refine Calls.mono (HR.out _) ?_
 rintro e w2 ⟨rfl,hb2⟩
 have HX2:=Lib.hid (HX.out.below hb2)
 have HW2:=Lib.hid (Below.via HW.out hb2)
 have hsx:=HX2.out.six
 clear hb2 HX HW HR
 go_wp2_with fail
 clear hsx
 go_loopw [3,4] (fun u3 u4 wr=>∃(i b:Nat),i≤8∧b≤8∧u4=.int .i64 i∧u3=.int .i64 b∧Hid (bestGo z (8-i) i b=bestZ z)∧Hid (b=8∨2≤runZ z (8-b) b)∧Hid (AdBox wr w.heap.size 36 true B)∧Hid (Below w.heap.size w wr)) (fun _ u4 _=>(8:Int)-intOf u4 |>.toNat)
 case atStart=>exact⟨0,8,by omega,by omega,rfl,rfl,Lib.hid rfl,Lib.hid (.inl rfl),HX2,HW2⟩
 case round=>
  obtain⟨i,b,hi,hb,rfl,rfl,HBE,HB8,HX,HW⟩:=hrel
  have hpp:=HX.out.part
  have hlW:=HX.out.lt
  by_cases hlt:i<8
  ·have HS:Hid (bestGo z (8-i) i b=bestGo z (8-(i+1)) (i+1) (if 2≤runZ z (8-i) i∧(b=8∨runZ z (8-b) b<runZ z (8-i) i) then i else b)):=Lib.hid (by
    rw[show bestGo z (8-i) i b=bestGo z (8-(i+1)+1) i b by rw[show 8-i=8-(i+1)+1 by omega]]
    rw[bestGo])
   have HRi:=Lib.hid (HRUN.out i hi)
   have HRb:=Lib.hid (HRUN.out b hb)
   generalize hri:runZ z (8-i) i=ri at HS HRi
   have HRI:=Lib.hid hri
   generalize hrbe:runZ z (8-b) b=rb at HS HRb
   clear hri hrbe
   by_cases h2:2≤ri
   ·by_cases h8:b=8
    ·have HS2:Hid (bestGo z (8-(i+1)) (i+1) i=bestZ z):=Lib.hid (by rw[←HBE.out,HS.out,if_pos ⟨h2,.inl h8⟩])
     subst h8
     have h2':(2:Int)≤ri:=by omega
     clear HS HBE
     go_wp2_with fail
     refine wp_region_later (by kernel_rfl) (by kernel_rfl) ?_
     repeat go_big_quiet_step ((go_at_call 133;exact later_call (HRi.out _)))
     refine wpQuiet_nil ?_
     intro x
     have HX3:=Lib.hid (HX.out.below x.below)
     have HW3:=Lib.hid (Below.via HW.out x.below)
     clear HX HW hpp
     go_wp2_with fail
     go_roundw
     case rel=>exact⟨i+1,i,by omega,by omega,by go_num,rfl,HS2,Lib.hid (.inr (by have:=HRI.out;omega)),HX3,HW3⟩
     case measure=>simp[intOf];omega
    ·have h8':¬((b:Int)=8):=by omega
     have h8b:((b:Int)==8)=false:=by simp;omega
     by_cases hgt:rb<ri
     ·have HS2:Hid (bestGo z (8-(i+1)) (i+1) i=bestZ z):=Lib.hid (by rw[←HBE.out,HS.out,if_pos ⟨h2,.inr hgt⟩])
      have hgt':(rb:Int)<ri:=by omega
      have h2':(2:Int)≤ri:=by omega
      clear HS HBE
      go_wp2_with fail
      refine wp_region_later (by kernel_rfl) (by kernel_rfl) ?_
      repeat go_big_quiet_step (fail)
      go_big_quiet_step ((go_at_call 133;exact later_call (HRi.out _)))
      repeat go_big_quiet_step (fail)
      go_big_quiet_step ((go_at_call 133;exact later_call (HRi.out _)))
      repeat go_big_quiet_step (fail)
      go_big_quiet_step ((go_at_call 133;exact later_call (HRb.out _)))
      repeat go_big_quiet_step (fail)
      refine wpQuiet_nil ?_
      intro x
      have HX3:=Lib.hid (HX.out.below x.below)
      have HW3:=Lib.hid (Below.via HW.out x.below)
      clear HX HW hpp
      go_wp2_with fail
      go_roundw
      case rel=>exact⟨i+1,i,by omega,by omega,by go_num,rfl,HS2,Lib.hid (.inr (by have:=HRI.out;omega)),HX3,HW3⟩
      case measure=>simp[intOf];omega
     ·have HS2:Hid (bestGo z (8-(i+1)) (i+1) b=bestZ z):=Lib.hid (by rw[←HBE.out,HS.out,if_neg (by omega)])
      have hgt':¬((rb:Int)<ri):=by omega
      have h2':(2:Int)≤ri:=by omega
      clear HS HBE
      go_wp2_with fail
      refine wp_region_later (by kernel_rfl) (by kernel_rfl) ?_
      repeat go_big_quiet_step (fail)
      go_big_quiet_step ((go_at_call 133;exact later_call (HRi.out _)))
      repeat go_big_quiet_step (fail)
      go_big_quiet_step ((go_at_call 133;exact later_call (HRi.out _)))
      repeat go_big_quiet_step (fail)
      go_big_quiet_step ((go_at_call 133;exact later_call (HRb.out _)))
      repeat go_big_quiet_step (fail)
      refine wpQuiet_nil ?_
      intro x
      have HX3:=Lib.hid (HX.out.below x.below)
      have HW3:=Lib.hid (Below.via HW.out x.below)
      clear HX HW hpp
      go_wp2_with fail
      go_roundw
      case rel=>exact⟨i+1,b,by omega,by omega,by go_num,rfl,HS2,HB8,HX3,HW3⟩
      case measure=>simp[intOf];omega
   ·have HS2:Hid (bestGo z (8-(i+1)) (i+1) b=bestZ z):=Lib.hid (by rw[←HBE.out,HS.out,if_neg (by omega)])
    have h2':¬((2:Int)≤ri):=by omega
    have h2d:decide ((2:Int)≤ri)=false:=decide_eq_false h2'
    clear HS HBE
    go_wp2_with fail
    refine wp_region_later (by kernel_rfl) (by kernel_rfl) ?_
    repeat go_big_quiet_step ((go_at_call 133;exact later_call (HRi.out _)))
    refine wpQuiet_nil ?_
    intro x
    have HX3:=Lib.hid (HX.out.below x.below)
    have HW3:=Lib.hid (Below.via HW.out x.below)
    clear HX HW hpp
    go_wp2_with fail
    go_roundw
    case rel=>exact⟨i+1,b,by omega,by omega,by go_num,rfl,HS2,HB8,HX3,HW3⟩
    case measure=>simp[intOf];omega
  ·obtain rfl:i=8:=by omega
   have HBB:Hid (b=bestZ z):=HBE
   have HRT:Hid (refTok z=txtGo z b 9 0 []):=Lib.hid (by rw[HBB.out];rfl)
   have HRB:=Lib.hid (HRUN.out b hb)
   have hrb:=runZ_le z (8-b) b
   clear HBE HBB HRUN hpp
   have hB8:=HB8.out
   clear HB8
   have HTS:Hid (∀(f i:Nat) (T:List Tok),txtGo z b (f+1) i T=if 8≤i then T else if i=b then txtGo z b f (i+runZ z (8-b) b) (T++[none,none]) else txtGo z b f (i+1) (T++(if T=[]∨T.getLast? =some none then [] else [none])++[some i])):=Lib.hid fun _ _ _=>rfl
   generalize runZ z (8-b) b=rb at*
   go_wp2_with fail
   go_loopg [5,6] 8 (fun f u5 u6 wr=>∃(i:Nat) (T:List Tok) (s:List UInt8),i≤8∧8≤i+f∧s.length≤8*(9-(f+1))∧f≤8∧u6=.int .i64 i∧u5=.string ⟨s.toArray⟩∧Hid (s=flatT G T)∧Hid (txtGo z b (f+1) i T=refTok z)∧Hid (AdBox wr w.heap.size 36 true B)∧Hid (Below w.heap.size w wr))
   case atStart=>exact⟨0,[],[],by omega,by omega,by simp,by omega,rfl,rfl,Lib.hid rfl,Lib.hid HRT.out.symm,HX,HW⟩
   case round=>
    obtain⟨i,T,s,hi,hf,hls,hf8,rfl,rfl,HST,HTX,HX,HW⟩:=hrel
    have hpp:=HX.out.part
    have hlW:=HX.out.lt
    by_cases hlt:i<8
    ·obtain⟨f',rfl⟩:∃f',gk=f'+1:=⟨gk-1,by omega⟩
     by_cases hib:i=b
     ·have HT2:Hid (txtGo z b (f'+1) (i+rb) (T++[none,none])=refTok z):=Lib.hid (by rw[←HTX.out,HTS.out (f'+1) i T,if_neg (show¬8≤i by omega),if_pos hib])
      have HS2:Hid (s++[58,58]=flatT G (T++[none,none])):=Lib.hid (by rw[flatT_append,HST.out];rfl)
      subst hib
      have hcat:=concat_small s [58,58] (by omega) (by decide)
      clear HTS HTX HST HT HG HDI2 HGG2 HG42 HRT
      go_wp2_with fail
      refine Calls.mono (HRB.out _) ?_
      rintro e w3 ⟨rfl,hb3⟩
      have HX3:=Lib.hid (HX.out.below hb3)
      have HW3:=Lib.hid (Below.via HW.out hb3)
      clear HX HW hpp hb3
      go_wp2_with fail
      go_roundg f'
      case measure=>omega
      case rel=>exact⟨i+rb,T++[none,none],s++[58,58],by omega,by omega,by simp;omega,by omega,by go_num,(by first|rfl|exact congrArg Value.string (bytes_append s [58,58])),HS2,HT2,HX3,HW3⟩
     ·have hib':¬((i:Int)=b):=by omega
      have hib2:((i:Int)==b)=false:=by simp;omega
      have hGl:=HG42.out i
      have HGi:=Lib.hid (HG.out i hlt)
      have HDi:=Lib.hid (HDI2.out i)
      have HTT:Hid (txtGo z b (f'+1) (i+1) (T++(if T=[]∨T.getLast? =some none then [] else [none])++[some i])=refTok z):=Lib.hid (by rw[←HTX.out,HTS.out (f'+1) i T,if_neg (show¬8≤i by omega),if_neg hib])
      have HGI:Hid (flatT G [some i]=G i):=Lib.hid (by simp[flatT])
      by_cases hT:T=[]
      ·subst hT
       have hs0:s=[]:=HST.out
       subst hs0
       have HT2:Hid (txtGo z b (f'+1) (i+1) [some i]=refTok z):=HTT
       clear HTT HTS HTX HST HT HG HDI2 HGG2 HG42 HRT HRB
       go_wp2_with fail
       refine Calls.mono (HGi.out _) ?_
       rintro e w3 ⟨rfl,hb3⟩
       go_wp2_with fail
       refine Calls.mono (HDi.out _) ?_
       rintro e w4 ⟨rfl,hb4⟩
       have HX4:=Lib.hid ((HX.out.below hb3).below hb4)
       have HW4:=Lib.hid (Below.via (Below.via HW.out hb3) hb4)
       have hcat:=concat_small [] (G i) (by simp) (by omega)
       have hl3:(G i).length≤9223372036854775807:=by omega
       have hl4:((G i).length:Int)≤9223372036854775807:=by omega
       clear HX HW hpp hb3 hb4
       go_wp2_with fail
       go_roundg f'
       case measure=>omega
       case rel=>exact⟨i+1,[some i],[]++G i,by omega,by omega,by simp;omega,by omega,by go_num,(by first|rfl|exact congrArg Value.string (bytes_append [] (G i))),Lib.hid (by rw[HGI.out];rfl),HT2,HX4,HW4⟩
      ·obtain⟨l,c,hlc,hc58⟩:=flatT_last HGG2.out T hT
       have hs0:s=l++[c]:=by rw[HST.out,hlc]
       have hll:l.length+1≤100:=by rw[hs0] at hls;simp at hls;omega
       by_cases hcol:T.getLast? =some none
       ·have hc:c=58:=hc58.2 hcol
        subst hc
        have HT2:Hid (txtGo z b (f'+1) (i+1) (T++[some i])=refTok z):=Lib.hid (by rw[←HTT.out,if_pos (.inr hcol),List.append_nil])
        have HS2:Hid (s++G i=flatT G (T++[some i])):=Lib.hid (by rw[flatT_append,HST.out,HGI.out])
        have hix:=index_last l 58
        have hsz:s.length=l.length+1:=by rw[hs0];simp
        have hne:(l++[(58:UInt8)]==[])=false:=by simp
        have hsl:(((l++[(58:UInt8)]).length:Nat):Int)-1=l.length:=by simp<;>omega
        have hsl2:IntKind.i64.wrap (((l++[(58:UInt8)]).length:Int)-1)=l.length:=by rw[hsl];exact IntWalk.i64_in _ (by omega)
        have hcat:=concat_small (l++[58]) (G i) (by simp;omega) (by omega)
        clear HTT HTS HTX HST HT HG HDI2 HGG2 HG42 HRT HRB hlc hc58 hcol
        subst hs0
        go_wp2_with fail
        refine Calls.mono (HGi.out _) ?_
        rintro e w3 ⟨rfl,hb3⟩
        go_wp2_with fail
        refine Calls.mono (HDi.out _) ?_
        rintro e w4 ⟨rfl,hb4⟩
        have HX4:=Lib.hid ((HX.out.below hb3).below hb4)
        have HW4:=Lib.hid (Below.via (Below.via HW.out hb3) hb4)
        clear HX HW hpp hb3 hb4
        go_wp2_with fail
        go_roundg f'
        case measure=>omega
        case rel=>exact⟨i+1,T++[some i],l++[58]++G i,by omega,by omega,by simp at hls⊢;omega,by omega,by go_num,(by first|rfl|exact congrArg Value.string (bytes_append (l++[58]) (G i))),HS2,HT2,HX4,HW4⟩
       ·have hc:c≠58:=fun e=>hcol (hc58.1 e)
        have HT2:Hid (txtGo z b (f'+1) (i+1) (T++[none]++[some i])=refTok z):=Lib.hid (by rw[←HTT.out,if_neg (fun h=>h.elim hT hcol)])
        have HS2:Hid (s++[58]++G i=flatT G (T++[none]++[some i])):=Lib.hid (by rw[flatT_append,flatT_append,HST.out,HGI.out];rfl)
        have hix:=index_last l c
        have hcN:¬c.toNat=58:=fun e=>hc (UInt8.toNat_inj.1 e)
        have hne:(l++[c]==[])=false:=by simp
        have hsl:(((l++[c]).length:Nat):Int)-1=l.length:=by simp<;>omega
        have hsl2:IntKind.i64.wrap (((l++[c]).length:Int)-1)=l.length:=by rw[hsl];exact IntWalk.i64_in _ (by omega)
        have hcat:=concat_small (l++[c]) [58] (by simp;omega) (by decide)
        have hcat2:=concat_small (l++[c]++[58]) (G i) (by simp;omega) (by omega)
        have hcI:¬((c.toNat:Int)=58):=by omega
        have hcB:((c.toNat:Int)==58)=false:=by simp;omega
        clear HTT HTS HTX HST HT HG HDI2 HGG2 HG42 HRT HRB hlc hc58 hcol
        subst hs0
        generalize c.toNat=cn at*
        go_wp2_with fail
        refine Calls.mono (HGi.out _) ?_
        rintro e w3 ⟨rfl,hb3⟩
        go_wp2_with fail
        refine Calls.mono (HDi.out _) ?_
        rintro e w4 ⟨rfl,hb4⟩
        have HX4:=Lib.hid ((HX.out.below hb3).below hb4)
        have HW4:=Lib.hid (Below.via (Below.via HW.out hb3) hb4)
        clear HX HW hpp hb3 hb4
        go_wp2_with fail
        go_roundg f'
        case measure=>omega
        case rel=>exact⟨i+1,T++[none]++[some i],l++[c]++[58]++G i,by omega,by omega,by simp at hls⊢;omega,by omega,by go_num,(by first|rfl|exact congrArg Value.string (bytes_append (l++[c]++[58]) (G i))),HS2,HT2,HX4,HW4⟩
    ·obtain rfl:i=8:=by omega
     have HF:Hid (T=refTok z):=Lib.hid (by rw[←HTX.out,HTS.out gk 8 T,if_pos (Nat.le_refl _)])
     go_wp2_with fail
     go_ret
     exact .mk (by rw[HT.out,←HF.out,←HST.out];rfl) HW.out
theorem rtext_any (six:Bool)(B:Nat→Int)(hB:U8 B)(w:World):
 Calls Tryz.prog 74 #[adV six B] w (RetAt w (.string ⟨(adText six B).toArray⟩)):=by
 unfold adText
 by_cases h:rightB six B=true
 ·rw[if_pos h]
  cases six
  ·exact rtext_four B hB h w
  ·exact rtext_six B hB w
 ·rw[if_neg h]
  exact rtext_wrong six B (by simpa using h) w
theorem rktext_yes (s:Bool)(S:Nat→Int)(t:Bool)(T:Nat→Int)(p a b:Nat)(hr:kyRight ⟨s,S,t,T,p,a,b⟩=true)(hS:U8 S)(hT:U8 T)(hp:p<256)(ha:a<65536)(hb:b<65536)(w:World):
 Calls Tryz.prog 29 #[.agg (kyC s S t T p a b)] w (RetAt w (.string ⟨(joinL 32 [Lib.decDigits p,adText s S,Lib.decDigits a,adText t T,Lib.decDigits b]).toArray⟩)):=by
 have HR:=fun w=>rkright_any s S t T p a b w
 rw[hr] at HR
 have HI0:=Lib.hid (fun w=>digits10_dec p (by omega) w)
 have HI2:=Lib.hid (fun w=>digits10_dec a (by omega) w)
 have HI4:=Lib.hid (fun w=>digits10_dec b (by omega) w)
 have HA1:=Lib.hid (fun w=>rtext_any s S hS w)
 have HA3:=Lib.hid (fun w=>rtext_any t T hT w)
 have HJ:Hid (joinL 32 [Lib.decDigits p,adText s S,Lib.decDigits a,adText t T,Lib.decDigits b]=Lib.decDigits p++[32]++adText s S++[32]++Lib.decDigits a++[32]++adText t T++[32]++Lib.decDigits b):=Lib.hid (by simp[joinL])
 have l0:(Lib.decDigits p).length≤100000:=by have:=decDigits_len16 p (by omega);omega
 have l1:(adText s S).length≤100000:=by have:=adText_max s S hS;omega
 have l2:(Lib.decDigits a).length≤100000:=by have:=decDigits_len16 a (by omega);omega
 have l3:(adText t T).length≤100000:=by have:=adText_max t T hT;omega
 have l4:(Lib.decDigits b).length≤100000:=by have:=decDigits_len16 b (by omega);omega
 clear hr hS hT
 generalize joinL 32 [Lib.decDigits p,adText s S,Lib.decDigits a,adText t T,Lib.decDigits b]=J at*
 generalize Lib.decDigits p=d0 at*
 generalize adText s S=d1 at*
 generalize Lib.decDigits a=d2 at*
 generalize adText t T=d3 at*
 generalize Lib.decDigits b=d4 at*
 unfold kyC adV at*
 go_enter Tryz.func29,Tryz.ntmps29
 go_wp2_with fail
 refine Calls.later (HR _) ?_
 intro x
 have h1:x.world.heap[w.heap.size]? =some (.cells (kyC s S t T p a b) 38 (0,0)):=(x.below.block _ (by simp)).trans (heap_alloc_new w (.cells (kyC s S t T p a b) 38))
 have HB:Hid (Below w.heap.size w x.world):=Lib.hid (Below.lat (Below.all (Below.refl _ _) _))
 go_wp2_with fail
 generalize x.world=y at*
 have hlt:w.heap.size<y.heap.size:=(Array.getElem?_eq_some_iff.1 h1).1
 have p1:partOf y w.heap.size 0 17=#[.bool s,.int .u8 (S 0),.int .u8 (S 1),.int .u8 (S 2),.int .u8 (S 3),.int .u8 (S 4),.int .u8 (S 5),.int .u8 (S 6),.int .u8 (S 7),.int .u8 (S 8),.int .u8 (S 9),.int .u8 (S 10),.int .u8 (S 11),.int .u8 (S 12),.int .u8 (S 13),.int .u8 (S 14),.int .u8 (S 15)]:=by rw[partOf_row _ _ _ _ _ _ _ h1];simp[kyC]
 have p2:partOf y w.heap.size 17 17=#[.bool t,.int .u8 (T 0),.int .u8 (T 1),.int .u8 (T 2),.int .u8 (T 3),.int .u8 (T 4),.int .u8 (T 5),.int .u8 (T 6),.int .u8 (T 7),.int .u8 (T 8),.int .u8 (T 9),.int .u8 (T 10),.int .u8 (T 11),.int .u8 (T 12),.int .u8 (T 13),.int .u8 (T 14),.int .u8 (T 15)]:=by rw[partOf_row _ _ _ _ _ _ _ h1];simp[kyC]
 have c34:y.cell? ⟨w.heap.size,34,none⟩=some (.int .u8 (p:Int)):=cell_of_row _ _ 34 _ _ (0,0) h1
 have c35:y.cell? ⟨w.heap.size,35,none⟩=some (.int .u16 (a:Int)):=cell_of_row _ _ 35 _ _ (0,0) h1
 have c36:y.cell? ⟨w.heap.size,36,none⟩=some (.int .u16 (b:Int)):=cell_of_row _ _ 36 _ _ (0,0) h1
 clear h1 HR
 refine wp_region_later (by kernel_rfl) (by kernel_rfl) ?_
 repeat go_big_quiet_step (fail)
 go_big_quiet_step ((go_at_call 73;exact later_call (HI0.out _)))
 repeat go_big_quiet_step (fail)
 go_big_quiet_step ((go_at_call 74;exact later_call (HA1.out _)))
 repeat go_big_quiet_step (fail)
 go_big_quiet_step ((go_at_call 73;exact later_call (HI2.out _)))
 repeat go_big_quiet_step (fail)
 go_big_quiet_step ((go_at_call 74;exact later_call (HA3.out _)))
 repeat go_big_quiet_step (fail)
 go_big_quiet_step ((go_at_call 73;exact later_call (HI4.out _)))
 repeat go_big_quiet_step (fail)
 refine wpQuiet_nil ?_
 intro x
 go_wp2_with fail
 go_ret
 refine .mk ?_ (HB.out.trans (x.below.mono HB.out.size))
 rw[HJ.out]
 simp only[←bytes_append]
 rfl
theorem rktext_any (k:Ky)(hk:KyOk k)(w:World):
 Calls Tryz.prog 29 #[.agg (kyV k)] w (RetAt w (.string ⟨(kyText k).toArray⟩)):=by
 obtain⟨s,S,t,T,p,a,b⟩:=k
 obtain⟨hS,hT,hp,ha,hb⟩:=hk
 simp only at hS hT hp ha hb
 cases hr:kyRight ⟨s,S,t,T,p,a,b⟩ with
 |false=>rw[kyText_no hr];exact rktext_no s S t T p a b hr w
 |true=>
  obtain⟨p,rfl⟩:=Int.eq_ofNat_of_zero_le hp.1
  obtain⟨a,rfl⟩:=Int.eq_ofNat_of_zero_le ha.1
  obtain⟨b,rfl⟩:=Int.eq_ofNat_of_zero_le hb.1
  rw[kyText_yes hr]
  simp only[kyParts,Int.toNat_natCast]
  exact rktext_yes s S t T p a b hr hS hT (by omega) (by omega) (by omega) w
end
end Go.Proofs.YtkgjbipfhhjlpaaGreatDoor
