import Derived.Test.YtppjnahcnofokaaGreatN0
import Derived.Test.YtppjnahcnofokaaGreatN9
import Derived.Test.YtppjnahcnofokaaGreatN10
import Derived.Test.YtppjnahcnofokaaGreatN11
set_option maxRecDepth 100000
set_option maxHeartbeats 32000000
set_option linter.unusedSimpArgs false
set_option linter.unnecessarySimpa false
set_option linter.unusedVariables false
namespace Go.Proofs.YtppjnahcnofokaaGreat.T
open Go.RowKit Go.Proofs.YtppjnahcnofokaaGreatW.PrintLast
open Go.Proofs.YtppjnahcnofokaaGreat.B (BookAt Chg)
open Go.Proofs.Tryz
variable{k:IntKind}{a:Act}{b i n B base m fuel D B':Nat}{l ch t0:List Int}{w w' w1 w2:World}{t:TypeId}{P:Program}{cs xs vs l3:List Value}{A A':Option Addr}{o oi:Oper}{e s f st fl:Int}{ops:Array Oper}{rest l0:List Oper}{v:Value}{r:Option Nat}{rs rs2:List (Option Addr×Nat×Nat×List Int)}{E:Prop}{ad ai go:List Bool}{N:Act->Prop}{place:Nat->Option (Nat×Nat)}{bad:Bool}{es es':List (Int×List Int)}{T:List TypeId}
structure Kp (T:List TypeId) (B:Nat) (w w':World):Prop where
 os:w'.os=w.os
 tape:w'.tape=w.tape
 output:w'.output=w.output
 size:w.heap.size<=w'.heap.size
 low:∀k,k<B->k<w.heap.size->w'.heap[k]? = w.heap[k]?
 blk:∀(k:Nat) (cs:Array Value) (t:TypeId) (fr:Nat×Nat),w.heap[k]? = some (Obj.cells cs t fr)->t ∉ T->w'.heap[k]? = w.heap[k]?
theorem Kp.refl(T:List TypeId)(B:Nat)(w:World):Kp T B w w:=⟨rfl,rfl,rfl,Nat.le_refl _,fun _ _ _=>rfl,fun _ _ _ _ _ _=>rfl⟩
theorem Kp.trans(h:Kp T B w w1)(k:Kp T B w1 w2):Kp T B w w2:=
 ⟨k.os.trans h.os,k.tape.trans h.tape,k.output.trans h.output,Nat.le_trans h.size k.size,fun i hi hs=>(k.low i hi (Nat.lt_of_lt_of_le hs h.size)).trans (h.low i hi hs),
  fun i cs t fr hi ht=>(k.blk i cs t fr ((h.blk i cs t fr hi ht).trans hi) ht).trans (h.blk i cs t fr hi ht)⟩
theorem Kp.mono{T':List TypeId}(h:Kp T B w w1)(hT:∀t,t ∈ T->t ∈ T'):Kp T' B w w1:=
 ⟨h.os,h.tape,h.output,h.size,h.low,fun i cs t fr hi ht=>h.blk i cs t fr hi (fun h'=>ht (hT t h'))⟩
theorem blk_lt{k:Nat}{o:Obj}(h:w.heap[k]? = some o):k<w.heap.size:=(Array.getElem?_eq_some_iff.1 h).1
theorem Kp.of_below(h:Bl w w1):Kp T B w w1:=
 ⟨h.os,h.tape,h.output,h.size,fun k _ hs=>h.block k hs,fun i _ _ _ hi _=>h.block i (blk_lt hi)⟩
theorem Kp.of_chgk{g:Nat}(hk:KeyAt w g s)(h:ChgK g w w1)(hB:B<=g):Kp [161] B w w1:=
 ⟨h.os,h.tape,h.output,h.size,fun k hk hs=>h.block k hs o_,fun i cs t fr hi ht=>h.block i (blk_lt hi) (fun e=>by
  subst e
  obtain⟨_,d,p,m,u,h',_⟩:=hk
  rw[h']at hi
  injection hi with hi
  injection hi with _ hi
  exact ht (by simp[hi]))⟩
theorem Kp.of_grown{c:Nat}{t0:TypeId}{cs0:Array Value}{fr0:Nat×Nat}(hc:w.heap[c]? = some (Obj.cells cs0 t0 fr0))(h:w.grownBy w1 (some c))(hB:B<=c):Kp [t0] B w w1:=
 ⟨h.os,h.tape,h.output,h.size,fun k hk hs=>h.block k hs s1_,fun i cs t fr hi ht=>h.block i (blk_lt hi) (fun e=>by
  injection e with e
  subst e
  rw[hc]at hi
  injection hi with hi
  injection hi with _ hi
  exact ht (by simp[hi]))⟩
theorem own_block{e size:Nat}(h:w.ownsRow base e size v n xs){k:Nat}(hk:v.ownBlock=some k):base<=k/\∃(cs:Array Value) (fr:Nat×Nat),w.heap[k]? = some (Obj.cells cs e fr):=by
 rcases h.2 with⟨rfl,_⟩|⟨g,cap,cur,rfl,hb,hg,_⟩
 · simp[Value.ownBlock]at hk
 simp only[Value.ownBlock,Option.some.injEq]at hk;subst hk;exact⟨hb,_,_,hg⟩
theorem Kp.of_row{e size:Nat}(ho:w.ownsRow base e size v n xs)(h:w.grownBy w1 v.ownBlock)(hB:B<=base):Kp [e] B w w1:=by
 cases hv:v.ownBlock with
 | none=>
  rw[hv]at h;exact Kp.of_below ⟨h.os,h.tape,h.output,h.size,fun k hk=>h.block k hk s_⟩
 | some k=>
  rw[hv]at h;obtain⟨h1,cs,fr,h2⟩:=own_block ho hv;exact Kp.of_grown h2 h o_
theorem own_kp{e size:Nat}(h:w.ownsRow base e size v n xs)(hk:Kp T B w w')(ht:e ∉ T):w'.ownsRow base e size v n xs:=by
 refine⟨h.1,?_⟩;rcases h.2 with h0|⟨g,cap,cur,rfl,hb,hg,r⟩
 · exact .inl h0
 exact .inr ⟨g,cap,cur,rfl,hb,(hk.blk g _ _ _ hg ht).trans hg,r⟩
theorem Cel.kp(h:Cel w b t vs)(hk:Kp T B w w')(ht:t ∉ T):Cel w' b t vs:=(hk.blk b _ _ _ h ht).trans h
theorem KeyAt.kp{g:Nat}(h:KeyAt w g s)(hk:Kp T B w w')(ht:161 ∉ T):KeyAt w' g s:=by
 obtain⟨h1,d,p,m,u,h2,h3⟩:=h;exact⟨h1,d,p,m,u,(hk.blk g _ _ _ h2 ht).trans h2,h3⟩
variable{x:PyP}
theorem PyAt.kp{g:Nat}(h:PyAt w b x g s)(hk:Kp T B w w')(h1:82 ∉ T)(h2:161 ∉ T):PyAt w' b x g s:=⟨h.cel.kp hk h1,h.ok,h.G,h.key.kp hk h2⟩
theorem bookAt_kp{g:Nat}(h:BookAt w base g v es st fl)(hk:Kp T B w w')(h1:98 ∉ T)(h2:149 ∉ T):BookAt w' base g v es st fl:=
 ⟨h.lo,(hk.blk g _ _ _ h.blk h1).trans h.blk,own_kp h.own hk h2,h.ok,h.len⟩
theorem KeyAt.same{g:Nat}{s':Int}(h:KeyAt w g s)(h':KeyAt w g s'):s=s':=by
 obtain⟨_,d,p,m,u,h1,_⟩:=h;obtain⟨_,d',p',m',u',h2,_⟩:=h';rw[h1]at h2;simp[KeyC]at h2;exact h2.1
def PyV(w:World)(B:Nat)(v:Value)(o:Option PyP):Prop:=(v=.pointer none/\o=none)\/∃b x g s,v=.pointer (some ⟨b,0,none⟩)/\o=some x/\PyAt w b x g s/\(B<=g/\MayP x)
theorem PyV.kp{o:Option PyP}(h:PyV w B v o)(hk:Kp T B' w w')(h1:82 ∉ T)(h2:161 ∉ T):PyV w' B v o:=by
 rcases h with h|⟨b,x,g,s,e1,e2,h3,h4⟩
 · exact .inl h
 exact .inr ⟨b,x,g,s,e1,e2,h3.kp hk h1 h2,h4⟩
theorem PyV.key{gk:Nat}{sk:Int}{o:Option PyP}(h:PyV w B v o)(h0:KeyAt w gk sk)(h1:KeyAt w' gk sk)(hk:ChgK gk w w'):PyV w' B v o:=by
 rcases h with h|⟨b,x,g,s,e1,e2,h3,h4⟩
 · exact .inl h
 refine .inr ⟨b,x,g,s,e1,e2,⟨h3.cel.kp (Kp.of_chgk (B:=0) h0 hk (Nat.zero_le _)) dd,h3.ok,h3.G,?_⟩,h4⟩;by_cases e:g=gk
 · subst e;rw[h3.key.same h0];exact h1
 obtain⟨a1,d,p,m,u,a2,a3⟩:=h3.key;exact⟨a1,d,p,m,u,(hk.block g (blk_lt a2) e).trans a2,a3⟩
structure BkD where
 g:Nat
 v:Value
 es:List (Int×List Int)
 st:Nat
 fl:Int
structure Bks (w:World) (B:Nat) (D:Nat->BkD):Prop where
 at_:∀i,i<8->BookAt w B (D i).g (D i).v (D i).es (D i).st (D i).fl/\(D i).st<=(D i).es.length
 ne:∀i j,i<8->j<8->i≠j->(D i).g≠(D j).g/\((D i).v.ownBlock=none\/(D i).v.ownBlock≠(D j).v.ownBlock)
theorem Bks.kp{D:Nat->BkD}(h:Bks w B D)(hk:Kp T B' w w')(h1:98 ∉ T)(h2:149 ∉ T):Bks w' B D:=
 ⟨fun i hi=>⟨bookAt_kp (h.at_ i hi).1 hk h1 h2,(h.at_ i hi).2⟩,h.ne⟩
structure Pst (w:World) (B:Nat) (v:Value) (n:Nat) (rs:List (Option Addr×Nat×Nat×List Int)):Prop where
 len:rs.length=n
 own:w.ownsRow B 31 1 v n (rs.map sv)
 each:∀r ∈ rs,w.ownsRow B 5 1 (sv r) r.2.1 (ints .u8 r.2.2.2)/\r.2.2.2.length=r.2.1/\r.2.1<=20000
theorem Pst.kp(h:Pst w B v n rs)(hk:Kp T B' w w')(h1:31 ∉ T)(h2:5 ∉ T):Pst w' B v n rs:=
 ⟨h.len,own_kp h.own hk h1,fun r hr=>⟨own_kp (h.each r hr).1 hk h2,(h.each r hr).2⟩⟩
def PstO(w:World)(B:Nat)(v:Value):Prop:=∃A n c rs,v=.slice A n c/\Pst w B v n rs/\n<=60
theorem PstO.kp(h:PstO w B v)(hk:Kp T B' w w')(h1:31 ∉ T)(h2:5 ∉ T):PstO w' B v:=by
 obtain⟨A,n,c,rs,e,h3,h4⟩:=h;exact⟨A,n,c,rs,e,h3.kp hk h1 h2,h4⟩
def apC(x:List Int×Int×Int×Int):List Value:=ints .u8 x.1 ++ [.int .i64 x.2.1,.int .i64 x.2.2.1,.int .i64 x.2.2.2]
theorem apC_len{x:List Int×Int×Int×Int}(h:x.1.length=32):(apC x).length=35:=by simp[apC,ints_len,h]
structure Aps (w:World) (B:Nat) (v:Value) (n:Nat) (xs:List (List Int×Int×Int×Int)):Prop where
 len:xs.length=n
 own:w.ownsRow B 125 35 v n (xs.flatMap apC)
 each:∀x ∈ xs,x.1.length=32/\0<=x.2.1/\x.2.1<8
theorem Aps.kp{xs:List (List Int×Int×Int×Int)}(h:Aps w B v n xs)(hk:Kp T B' w w')(h1:125 ∉ T):Aps w' B v n xs:=
 ⟨h.len,own_kp h.own hk h1,h.each⟩
structure WdD where
 X:Nat->Option PyP
 P:Nat->Value
 D:Nat->BkD
 K:Nat->Value
 O:Value
 A:Value
 xs:List (List Int×Int×Int×Int)
 n:Int
def wdC(s:Int)(d:WdD):List Value:=[.int .i32 s,.int .u32 0]++((List.range 8).map d.P++((List.range 8).map d.K ++ [d.O,d.A,.int .i64 d.n]))
structure WdAt (w:World) (B g:Nat) (s:Int) (d:WdD):Prop where
 lo:B<=g
 cel:Cel w g 74 (wdC s d)
 X:∀i,i<8->PyV w B (d.P i) (d.X i)
 K:∀i,i<8->d.K i=.pointer (some ⟨(d.D i).g,0,none⟩)
 D:Bks w B d.D
 O:PstO w B d.O
 A:∃A c,d.A=.slice A d.xs.length c/\Aps w B d.A d.xs.length d.xs
variable{d:WdD}
theorem WdAt.lt{g:Nat}(h:WdAt w B g s d):g<w.heap.size:=h.cel.lt
theorem WdAt.kp{g:Nat}(h:WdAt w B g s d)(hk:Kp T B' w w')(ht:∀t,t=74\/t=82\/t=161\/t=98\/t=149\/t=31\/t=5\/t=125->t ∉ T):WdAt w' B g s d:=by
 obtain⟨A,c,e,ha⟩:=h.A;exact⟨h.lo,h.cel.kp hk (ht _ s_),fun i hi=>(h.X i hi).kp hk (ht _ s_) (ht _ s_),h.K,h.D.kp hk (ht _ s_) (ht _ s_),h.O.kp hk (ht _ s_) (ht _ s_),⟨A,c,e,ha.kp hk (ht _ s_)⟩⟩
theorem WdAt.below{g:Nat}(h:WdAt w B g s d)(hb:Bl w w'):WdAt w' B g s d:=h.kp (Kp.of_below (T:=[]) (B:=0) hb) (fun _ _ h=>by cases h)
theorem WdAt.key{g gk:Nat}{sk:Int}(h:WdAt w B g s d)(h0:KeyAt w gk sk)(h1:KeyAt w' gk sk)(hk:ChgK gk w w'):WdAt w' B g s d:=by
 have hkp:=Kp.of_chgk (B:=0) h0 hk (Nat.zero_le _);obtain⟨A,c,e,ha⟩:=h.A;exact⟨h.lo,h.cel.kp hkp dd,fun i hi=>(h.X i hi).key h0 h1 hk,h.K,h.D.kp hkp dd dd,h.O.kp hkp dd dd,⟨A,c,e,ha.kp hkp dd⟩⟩
theorem map_upd{f:Nat->Value}(hi:i<8):((List.range 8).map f).set i v=(List.range 8).map (fun k=>if k=i then v else f k):=by
 apply List.ext_getElem?;intro k;simp only[List.getElem?_set,List.getElem?_map,List.length_map,List.length_range];by_cases e:i=k
 · subst e;simp[hi,List.getElem?_range hi]
 by_cases hk:k<8
 · simp[e,List.getElem?_range hk,show ¬k=i from fun h=>e h.symm]
 simp[e,show(List.range 8)[k]? = none by simp;omega]
theorem wd_P(hi:i<8):(wdC s d)[2+i]? = some (d.P i):=by
 unfold wdC;rw[List.getElem?_append_right s_,List.getElem?_append_left s1_];simp[List.getElem?_range hi]
theorem wd_K(hi:i<8):(wdC s d)[10+i]? = some (d.K i):=by
 unfold wdC;rw[List.getElem?_append_right s1_,List.getElem?_append_right s1_,List.getElem?_append_left s1_];rw[show 10+i-([Value.int .i32 s,.int .u32 0]:List Value).length-((List.range 8).map d.P).length=i by simp;omega];simp[List.getElem?_range hi]
theorem wd_O:(wdC s d)[18]? = some d.O:=rfl
theorem wd_A:(wdC s d)[19]? = some d.A:=rfl
theorem wd_n:(wdC s d)[20]? = some (.int .i64 d.n):=rfl
theorem wd_s:(wdC s d)[0]? = some (.int .i32 s):=rfl
theorem wd_set_s{s':Int}:(wdC s d).set 0 (.int .i32 s')=wdC s' d:=rfl
def WdD.sn(d:WdD)(x:Int):WdD:=⟨d.X,d.P,d.D,d.K,d.O,d.A,d.xs,x⟩
def WdD.sO(d:WdD)(x:Value):WdD:=⟨d.X,d.P,d.D,d.K,x,d.A,d.xs,d.n⟩
def WdD.sA(d:WdD)(x:Value)(xs:List (List Int×Int×Int×Int)):WdD:=⟨d.X,d.P,d.D,d.K,d.O,x,xs,d.n⟩
def WdD.sX(d:WdD)(i:Nat)(v:Value)(o:Option PyP):WdD:=⟨fun k=>if k=i then o else d.X k,fun k=>if k=i then v else d.P k,d.D,d.K,d.O,d.A,d.xs,d.n⟩
def WdD.sD(d:WdD)(i:Nat)(x:BkD):WdD:=⟨d.X,d.P,fun k=>if k=i then x else d.D k,fun k=>if k=i then .pointer (some ⟨x.g,0,none⟩) else d.K k,d.O,d.A,d.xs,d.n⟩
theorem wd_set_n{x:Int}:(wdC s d).set 20 (.int .i64 x)=wdC s (d.sn x):=rfl
theorem wd_set_O{x:Value}:(wdC s d).set 18 x=wdC s (d.sO x):=rfl
theorem wd_set_A{x:Value}{xs:List (List Int×Int×Int×Int)}:(wdC s d).set 19 x=wdC s (d.sA x xs):=rfl
theorem wd_set_P{o:Option PyP}(hi:i<8):(wdC s d).set (2+i) v=wdC s (d.sX i v o):=by
 unfold wdC WdD.sX;rw[List.set_append_right _ _ s_,List.set_append_left _ _ s1_,show 2+i-([Value.int .i32 s,.int .u32 0]:List Value).length=i by simp,map_upd hi]
theorem wd_set_K{x:BkD}(hi:i<8):(wdC s d).set (10+i) (.pointer (some ⟨x.g,0,none⟩))=wdC s (d.sD i x):=by
 unfold wdC WdD.sD;rw[List.set_append_right _ _ s1_,List.set_append_right _ _ s1_,List.set_append_left _ _ s1_,show 10+i-([Value.int .i32 s,.int .u32 0]:List Value).length-((List.range 8).map d.P).length=i by simp;omega,map_upd hi]
section
variable {w w':World} {B g:Nat} {s:Int} {d:WdD}
theorem WdAt.gkp(h:WdAt w B g s d)(i:Nat)(v:Value):Kp [74] B w (w.setCell ⟨g,i,none⟩ v):=Kp.of_grown h.cel (grownBy_set1 _ _ _ _) h.lo
theorem WdAt.put(h:WdAt w B g s d){s':Int}{d':WdD}(hc:(wdC s d).set i v=wdC s' d')(hX:∀i,i<8->PyV w B (d'.P i) (d'.X i))(hK:∀i,i<8->d'.K i=.pointer (some ⟨(d'.D i).g,0,none⟩))(hD:Bks w B d'.D)(hO:PstO w B d'.O)(hA:∃A c,d'.A=.slice A d'.xs.length c/\Aps w B d'.A d'.xs.length d'.xs): WdAt (w.setCell ⟨g,i,none⟩ v) B g s' d':=by
 have hk:=h.gkp i v;obtain⟨A,c,e,ha⟩:=hA;exact⟨h.lo,by rw[<-hc];exact h.cel.set i v,fun i hi=>(hX i hi).kp hk dd dd,hK,hD.kp hk dd dd,hO.kp hk dd dd,⟨A,c,e,ha.kp hk dd⟩⟩
theorem WdAt.put_s(h:WdAt w B g s d)(s':Int):WdAt (w.setCell ⟨g,0,none⟩ (.int .i32 s')) B g s' d:=h.put wd_set_s h.X h.K h.D h.O h.A
theorem WdAt.put_n(h:WdAt w B g s d)(x:Int):WdAt (w.setCell ⟨g,20,none⟩ (.int .i64 x)) B g s (d.sn x):=h.put wd_set_n h.X h.K h.D h.O h.A
theorem WdAt.put_X(h:WdAt w B g s d)(hi:i<8){o:Option PyP}(hv:PyV w B v o):WdAt (w.setCell ⟨g,2+i,none⟩ v) B g s (d.sX i v o):=by
 refine h.put (wd_set_P hi) (fun k hk=>?_) h.K h.D h.O h.A;show PyV w B (if k=i then v else d.P k) (if k=i then o else d.X k);by_cases e:k=i
 · rw[if_pos e,if_pos e];exact hv
 rw[if_neg e,if_neg e];exact h.X k hk
theorem WdAt.put_K(h:WdAt w B g s d)(hi:i<8){x:BkD}(hD:Bks w B (fun k=>if k=i then x else d.D k)):WdAt (w.setCell ⟨g,10+i,none⟩ (.pointer (some ⟨x.g,0,none⟩))) B g s (d.sD i x):=by
 refine h.put (wd_set_K hi) h.X (fun k hk=>?_) hD h.O h.A;show(if k=i then Value.pointer (some ⟨x.g,0,none⟩) else d.K k)=.pointer (some ⟨((if k=i then x else d.D k):BkD).g,0,none⟩);by_cases e:k=i
 · rw[if_pos e,if_pos e]
 rw[if_neg e,if_neg e];exact h.K k hk
theorem Bks.turn{D:Nat->BkD}(h:Bks w B D)(hi:i<8){x:BkD}(hx:BookAt w' B x.g x.v x.es x.st x.fl)(hs:x.st<=x.es.length)(hg:x.g=(D i).g)(hc:Chg w w' (D i).g (D i).v.ownBlock)(hr:x.v.ownBlock=(D i).v.ownBlock\/x.v.ownBlock=none\/∃k,x.v.ownBlock=some k/\w.heap.size<=k):Bks w' B (fun k=>if k=i then x else D k):=by
 have hold:∀k,k<8->∀r,(D k).v.ownBlock=some r->r<w.heap.size:=fun k hk r e=>((h.at_ k hk).1.own.lt r e).2;refine⟨fun k hk=>?_,fun k j hk hj hne=>?_⟩
 · show BookAt w' B (if k=i then x else D k).g (if k=i then x else D k).v (if k=i then x else D k).es (if k=i then x else D k).st (if k=i then x else D k).fl/\(if k=i then x else D k).st<=(if k=i then x else D k).es.length;by_cases e:k=i;(· rw[if_pos e];exact⟨hx,hs⟩);rw[if_neg e];obtain⟨h1,h2⟩:=h.ne k i hk hi e;refine⟨(h.at_ k hk).1.far hc h1 (fun e'=>?_) (fun e'=>?_) ?_,(h.at_ k hk).2⟩;(· obtain⟨_,cs,fr,hb⟩:=own_block (h.at_ i hi).1.own e'.symm;rw[(h.at_ k hk).1.blk]at hb;(injection hb with hb);(injection hb with _ hb);exact absurd hb dd);(· obtain⟨_,cs,fr,hb⟩:=own_block (h.at_ k hk).1.own e';rw[(h.at_ i hi).1.blk]at hb;(injection hb with hb);(injection hb with _ hb);exact absurd hb dd);exact h2
 show(if k=i then x else D k).g≠(if j=i then x else D j).g/\((if k=i then x else D k).v.ownBlock=none\/(if k=i then x else D k).v.ownBlock≠(if j=i then x else D j).v.ownBlock);by_cases e:k=i
 · have e2:¬j=i:=fun e'=>hne (e.trans e'.symm);rw[if_pos e,if_neg e2,hg];obtain⟨h1,h2⟩:=h.ne i j hi hj (fun e'=>e2 e'.symm);refine⟨h1,?_⟩;(rcases hr with hr|hr|⟨r,hr,hlt⟩);(· rw[hr];exact h2);(· exact .inl hr);refine .inr (fun e'=>?_);have:=hold j hj r (e'.symm.trans hr);omega
 rw[if_neg e];by_cases e2:j=i
 · rw[if_pos e2,hg];obtain⟨h1,h2⟩:=h.ne k i hk hi e;refine⟨h1,?_⟩;(rcases hr with hr|hr|⟨r,hr,hlt⟩);(· rw[hr];exact h2)
   · rw[hr]
     cases hv:(D k).v.ownBlock with
     | none=>exact .inl rfl
     | some r=>exact .inr s_
   refine .inr (fun e'=>?_);have:=hold k hk r (e'.trans hr);omega
 rw[if_neg e2];exact h.ne k j hk hj hne
theorem Bks.swap{D:Nat->BkD}(h:Bks w' B D)(hi:i<8){x:BkD}(hx:BookAt w' B x.g x.v x.es x.st x.fl)(hs:x.st<=x.es.length)(hg:m<=x.g)(hr:∀k,x.v.ownBlock=some k->m<=k)(hold:∀k,k<8->(D k).g<m/\∀r,(D k).v.ownBlock=some r->r<m):Bks w' B (fun k=>if k=i then x else D k):=by
 refine⟨fun k hk=>?_,fun k j hk hj hne=>?_⟩
 · show BookAt w' B (if k=i then x else D k).g (if k=i then x else D k).v (if k=i then x else D k).es (if k=i then x else D k).st (if k=i then x else D k).fl/\(if k=i then x else D k).st<=(if k=i then x else D k).es.length;by_cases e:k=i;(· rw[if_pos e];exact⟨hx,hs⟩);rw[if_neg e];exact h.at_ k hk
 show(if k=i then x else D k).g≠(if j=i then x else D j).g/\((if k=i then x else D k).v.ownBlock=none\/(if k=i then x else D k).v.ownBlock≠(if j=i then x else D j).v.ownBlock);by_cases e:k=i
 · have e2:¬j=i:=fun e'=>hne (e.trans e'.symm);rw[if_pos e,if_neg e2];obtain⟨h1,h2⟩:=hold j hj;refine⟨by omega,?_⟩
   cases hv:x.v.ownBlock with
   | none=>exact .inl rfl
   | some r=>exact .inr (fun e'=>by have:=hr r hv;have:=h2 r e'.symm;omega)
 rw[if_neg e];by_cases e2:j=i
 · rw[if_pos e2];obtain⟨h1,h2⟩:=hold k hk;refine⟨by omega,?_⟩
   cases hv:(D k).v.ownBlock with
   | none=>exact .inl rfl
   | some r=>exact .inr (fun e'=>by have:=hr r e'.symm;have:=h2 r hv;omega)
 rw[if_neg e2];exact h.ne k j hk hj hne
end
def TW:List TypeId:=[74,98,149,31,125,161]
end Go.Proofs.YtppjnahcnofokaaGreat.T
namespace Go.Proofs.YtppjnahcnofokaaGreat.T
open Go.RowKit Go.Proofs.YtppjnahcnofokaaGreatW.PrintLast
open Go.Proofs.YtppjnahcnofokaaGreat.B (BookAt Chg)
open Go.Proofs.Tryz
variable{k:IntKind}{a:Act}{b i n B base m fuel D B':Nat}{l ch t0:List Int}{w w' w1 w2:World}{t:TypeId}{P:Program}{cs xs vs l3:List Value}{A A':Option Addr}{o oi:Oper}{e s f st fl:Int}{ops:Array Oper}{rest l0:List Oper}{v:Value}{r:Option Nat}{rs rs2:List (Option Addr×Nat×Nat×List Int)}{E:Prop}{ad ai go:List Bool}{N:Act->Prop}{place:Nat->Option (Nat×Nat)}{bad:Bool}{es es':List (Int×List Int)}{T:List TypeId}
variable{d:WdD}
theorem WdAt.frozen{g:Nat}(h:WdAt w B g s d)(i:Nat):w.frozen? ⟨g,i,none⟩=false:=h.cel.free i
theorem WdAt.kTW{g:Nat}(h:WdAt w B g s d)(i:Nat)(v:Value):Kp TW B w (w.setCell ⟨g,i,none⟩ v):=(h.gkp i v).mono dd
def PtR(w:World)(o:Option PyP)(r:Ending)(w':World):Prop:=(o=none/\r=.returned (.pointer none))\/∃b x,o=some x/\r=.returned (.pointer (some ⟨b,0,none⟩))/\w.heap.size<=b/\Cel w' b 82 (pyC x)/\PyOk x/\MayP x
theorem party_any(w:World)(B g:Nat)(d:WdD)(h:WdAt w B g 0 d)(i:Nat)(hi:i<8):Calls prog 12 #[.pointer (some ⟨g,0,none⟩),.int .i64 i] w fun r w'=>PtR w (d.X i) r w'/\WdAt w' B g 0 d/\Kp TW B w w':=by
 have hii:(i:Int)<8:=by omega
 have HI:Hid (i<8):=hi;obtain⟨W1,hW1⟩:=ex_ (w.setCell ⟨g,0,none⟩ (.int .i32 1));have H1:Hid (WdAt W1 B g 1 d):=by rw[hW1];exact h.put_s 1
 have HK1:Hid (Kp TW B w W1):=by rw[hW1];exact h.kTW 0 _
 have HS1:Hid (W1.heap.size=w.heap.size):=by rw[hW1];show _=_;simp
 have HL:=hd_ (lock_free ⟨g,0,none⟩ w ((h.cel.cell 0).trans wd_s) (h.frozen 0));have HW1:=hd_ hW1;clear hW1 h;go_enter_defers func12,ntmps12
 go_wp2_with fail;refine(isPlace_any i w).mono ?_;rintro _ _ ⟨rfl,rfl⟩;have hd:decide ((0:Int)<=(i:Int)/\(i:Int)<8)=true:=by simp;omega
 rw[hd];go_wp2_with fail;refine HL.out.mono ?_;rintro _ w' ⟨rfl,hw'⟩;rw[<-HW1.out]at hw';subst hw';have HP:Hid (PyV w' B (d.P i) (d.X i)):=H1.out.X i hi;have kP:w'.cell? ⟨g,2+i,none⟩=some (d.P i):=(H1.out.cel.cell (2+i)).trans (wd_P hi);rcases HP.out with⟨e1,e2⟩|⟨b,x,gk,sk,e1,e2,hp,-,hmp⟩
 · rw[e1]at kP;go_wp2_with fail;refine(copy_nil w').mono ?_;rintro _ _ ⟨rfl,rfl⟩;go_wp2_with fail;refine leaves_cons (f:=23) (args:=#[.pointer (some ⟨g,0,none⟩)]) (by simp[settle]) (by simp[go_sem]) ?_;refine(unlock_deferred ⟨g,0,none⟩ _ _ ((H1.out.cel.cell 0).trans wd_s) (H1.out.frozen 0)).mono ?_;rintro e u' w5 ⟨rfl,rfl,hw5⟩;(have h5:WdAt w5 B g 0 d:=by rw[hw5];exact H1.out.put_s 0);have k5:Kp TW B w w5:=HK1.out.trans (by rw[hw5];exact H1.out.kTW 0 _);clear hw5;simp[Leaves,settle,results,results12];exact⟨.inl ⟨e2,rfl⟩,h5,k5⟩
 rw[e1]at kP;have HPy:=hd_ hp;have HMp:=hd_ hmp;clear hmp;clear hp;go_wp2_with fail;refine(copy_any b x w' HPy.out.cel HPy.out.ok).mono ?_;rintro _ w2 ⟨rfl,hc,hb⟩;have HC2:=hd_ hc;have H2:=hd_ (H1.out.below hb);have HK2:Hid (Kp TW B w w2):=HK1.out.trans (Kp.of_below hb);clear hb hc;go_wp2_with fail;refine leaves_cons (f:=23) (args:=#[.pointer (some ⟨g,0,none⟩)]) (by simp[settle]) (by simp[go_sem]) ?_;refine(unlock_deferred ⟨g,0,none⟩ _ _ ((H2.out.cel.cell 0).trans wd_s) (H2.out.frozen 0)).mono ?_;rintro e u' w5 ⟨rfl,rfl,hw5⟩;have h5:WdAt w5 B g 0 d:=by rw[hw5];exact H2.out.put_s 0
 have k5:Kp TW B w w5:=HK2.out.trans (by rw[hw5];exact H2.out.kTW 0 _);have c5:Cel w5 w'.heap.size 82 (pyC x):=by rw[hw5];exact HC2.out.kp (H2.out.gkp 0 _) dd
 clear hw5;simp[Leaves,settle,results,results12];exact⟨.inr ⟨w'.heap.size,x,e2,rfl,by have:=HS1.out;omega,c5,HPy.out.ok,HMp.out⟩,h5,k5⟩
end Go.Proofs.YtppjnahcnofokaaGreat.T
namespace Go.Proofs.YtppjnahcnofokaaGreat.T
open Go.RowKit Go.Proofs.YtppjnahcnofokaaGreatW.PrintLast
open Go.Proofs.YtppjnahcnofokaaGreat.B (BookAt Chg new_book new_calls)
open Go.Proofs.Tryz
variable{k:IntKind}{a:Act}{b i n B base m fuel D B':Nat}{l ch t0:List Int}{w w' w1 w2:World}{t:TypeId}{P:Program}{cs xs vs l3:List Value}{A A':Option Addr}{o oi:Oper}{e s f st fl:Int}{ops:Array Oper}{rest l0:List Oper}{v:Value}{r:Option Nat}{rs rs2:List (Option Addr×Nat×Nat×List Int)}{E:Prop}{ad ai go:List Bool}{N:Act->Prop}{place:Nat->Option (Nat×Nat)}{bad:Bool}{es es':List (Int×List Int)}{T:List TypeId}
def zbk:BkD:=⟨0,.slice none 0 0,[],0,0⟩
structure NwS (w:World) (B g n:Nat) (d:WdD):Prop where
 lo:B<=g
 cel:Cel w g 74 (wdC 0 d)
 X:∀i,i<8->PyV w B (d.P i) (d.X i)
 K:∀i,i<n->d.K i=.pointer (some ⟨(d.D i).g,0,none⟩)
 K0:∀i,n<=i->d.K i=.pointer none
 D:∀i,i<n->BookAt w B (d.D i).g (d.D i).v (d.D i).es (d.D i).st (d.D i).fl/\(d.D i).st<=(d.D i).es.length/\(d.D i).v.ownBlock=none
 ne:∀i j,i<n->j<n->i≠j->(d.D i).g≠(d.D j).g
 O:d.O=.slice none 0 0
 A:d.A=.slice none 0 0
 xs:d.xs=[]
variable{d:WdD}
theorem NwS.kp{g:Nat}(h:NwS w B g n d)(hk:Kp T B' w w')(ht:∀t,t=74\/t=82\/t=161\/t=98\/t=149->t ∉ T):NwS w' B g n d:=
 ⟨h.lo,h.cel.kp hk (ht _ s_),fun i hi=>(h.X i hi).kp hk (ht _ s_) (ht _ s_),h.K,h.K0,fun i hi=>⟨bookAt_kp (h.D i hi).1 hk (ht _ s_) (ht _ s_),(h.D i hi).2⟩,h.ne,h.O,h.A,h.xs⟩
theorem NwS.below{g:Nat}(h:NwS w B g n d)(hb:Bl w w'):NwS w' B g n d:=h.kp (Kp.of_below (T:=[]) (B:=0) hb) (fun _ _ h=>by cases h)
theorem bookAt_base{base' g:Nat}(h:BookAt w base g v es st fl)(hb:base'<=base):BookAt w base' g v es st fl:=⟨Nat.le_trans hb h.lo,h.blk,own_mono h.own hb,h.ok,h.len⟩
theorem NwS.one{g:Nat}(h:NwS w B g n d)(hn:n<8)(hB:B<=w.heap.size)(hw:w'=w.alloc (.cells #[.slice none 0 0,.int .i64 0,.int .i64 0] 98)): NwS (w'.setCell ⟨g,10+n,none⟩ (.pointer (some ⟨w.heap.size,0,none⟩))) B g (n+1) (d.sD n ⟨w.heap.size,.slice none 0 0,[],0,0⟩):=by
 have hb:Bl w w':=by rw[hw];exact b0_
 have h1:=h.below hb;have hk:Kp [74] B w' (w'.setCell ⟨g,10+n,none⟩ (.pointer (some ⟨w.heap.size,0,none⟩))):=Kp.of_grown h1.cel (grownBy_set1 _ _ _ _) h1.lo;have hnew:BookAt w' B w.heap.size (.slice none 0 0) [] 0 0:=by rw[hw];exact bookAt_base (new_book w) hB
 refine⟨h.lo,?_,fun i hi=>(h1.X i hi).kp hk dd dd,fun i hi=>?_,fun i hi=>?_,fun i hi=>?_,fun i j hi hj hne=>?_,h.O,h.A,h.xs⟩
 · rw[<-wd_set_K (x:=⟨w.heap.size,.slice none 0 0,[],0,0⟩) hn];exact h1.cel.set _ _
 · show(if i=n then Value.pointer (some ⟨w.heap.size,0,none⟩) else d.K i)=.pointer (some ⟨((if i=n then ⟨w.heap.size,.slice none 0 0,[],0,0⟩ else d.D i):BkD).g,0,none⟩);by_cases e:i=n;(· rw[if_pos e,if_pos e]);rw[if_neg e,if_neg e];exact h.K i o_
 · show(if i=n then Value.pointer (some ⟨w.heap.size,0,none⟩) else d.K i)=.pointer none;rw[if_neg o_];exact h.K0 i o_
 · show BookAt _ B (if i=n then (⟨w.heap.size,.slice none 0 0,[],0,0⟩:BkD) else d.D i).g (if i=n then (⟨w.heap.size,.slice none 0 0,[],0,0⟩:BkD) else d.D i).v (if i=n then (⟨w.heap.size,.slice none 0 0,[],0,0⟩:BkD) else d.D i).es (if i=n then (⟨w.heap.size,.slice none 0 0,[],0,0⟩:BkD) else d.D i).st (if i=n then (⟨w.heap.size,.slice none 0 0,[],0,0⟩:BkD) else d.D i).fl/\(if i=n then (⟨w.heap.size,.slice none 0 0,[],0,0⟩:BkD) else d.D i).st<=(if i=n then (⟨w.heap.size,.slice none 0 0,[],0,0⟩:BkD) else d.D i).es.length/\(if i=n then (⟨w.heap.size,.slice none 0 0,[],0,0⟩:BkD) else d.D i).v.ownBlock=none;by_cases e:i=n;(· simp only[if_pos e];exact⟨bookAt_kp hnew hk dd dd,Nat.le_refl _,rfl⟩);simp only[if_neg e];exact⟨bookAt_kp (h1.D i o_).1 hk dd dd,(h1.D i o_).2⟩
 show(if i=n then (⟨w.heap.size,.slice none 0 0,[],0,0⟩:BkD) else d.D i).g≠(if j=n then (⟨w.heap.size,.slice none 0 0,[],0,0⟩:BkD) else d.D j).g;by_cases e:i=n
 · have e2:¬j=n:=fun e'=>hne (e.trans e'.symm);rw[if_pos e,if_neg e2];have:=(h.D j o_).1.lt;show w.heap.size≠_;omega
 rw[if_neg e];by_cases e2:j=n
 · rw[if_pos e2];have:=(h.D i o_).1.lt;show _≠w.heap.size;omega
 rw[if_neg e2];exact h.ne i j o_ o_ hne
theorem NwS.wd{g:Nat}(h:NwS w B g 8 d):WdAt w B g 0 d:=
 ⟨h.lo,h.cel,h.X,h.K,⟨fun i hi=>⟨(h.D i hi).1,(h.D i hi).2.1⟩,fun i j hi hj hne=>⟨h.ne i j hi hj hne,.inl (h.D i hi).2.2⟩⟩,⟨none,0,0,[],h.O,by rw[h.O];exact⟨rfl,World.ownsRow_nil _ _ _ _,fun r hr=>by cases hr⟩,by omega⟩,⟨none,0,by rw[h.A,h.xs];rfl,by rw[h.A,h.xs];exact⟨rfl,World.ownsRow_nil _ _ _ _,fun r hr=>by cases hr⟩⟩⟩
def zwd:WdD:=⟨fun _=>none,fun _=>.pointer none,fun _=>zbk,fun _=>.pointer none,.slice none 0 0,.slice none 0 0,[],0⟩
def NwR(w:World)(r:Ending)(w':World):Prop:=∃g d x,r=.returned (.pointer (some ⟨g,0,none⟩))/\WdAt w' w.heap.size g 0 d/\Below w.heap.size w w'/\d.X 0=some x/\x.e=0/\(∀i,0<i->d.X i=none)/\d.xs=[]
theorem new_any(w:World):Calls prog 7 #[] w (NwR w):=by
 obtain⟨w1,hW⟩:=ex_ (w.alloc (.cells (wdC 0 zwd).toArray 74));have HB1:Hid (Bl w w1):=by rw[hW];exact b0_
 have HC1:Hid (Cel w1 w.heap.size 74 (wdC 0 zwd)):=by rw[hW];exact Cel.new _ rfl rfl
 have HW:=hd_ hW;clear hW;go_enter func7,ntmps7
 go_wp2_with fail;refine pr_ 0 7 (bt 7 0) fun w1d hw1d=>?_;refine mG ?_;have hd:w1.drew=w1d:=by rw[HW.out];exact hw1d
 have HC:Hid (Cel w1d w.heap.size 74 (wdC 0 zwd)):=by rw[<-hd];exact HC1.out.drew
 have HB:Hid (Bl w w1d):=by rw[<-hd];exact HB1.out.drew
 have hH:(fun _=>True) w1d:=trivial;clear hd hw1d HC1 HB1 HW;refine wpAny_of_last (S:=fun _=>True) (ds:=[6]) _ _ _ _ ?_;refine ts_ 0 1 6 (bt 7 1) hH ?_;refine mT0 ?_;refine ts_ 3 2 4 (bt 7 25) hH ?_;refine mT0 ?_;refine one_ (i:=1) (N:=some 6) (bt 7 27) rfl rfl kk dd (fun K hK=>?_);refine goes_ func19 kk rfl #[.int .i64 0] rr rfl rfl mL ?_;refine(seed_any 0 _).mono ?_;rintro _ w2 ⟨⟨lp,hlp,rfl⟩,hb⟩;refine⟨_,rfl,?_⟩;have HLp:=hd_ hlp;have HC2:=hd_ (HC.out.below hb HC.out.lt);have HB2:=tb_ HB hb;refine hK.out _ _ trivial (fun hH=>?_);clear hK K hb hlp HC HB;refine mN ?_;refine one_ (i:=2) (N:=some 7) (bt 7 31) rfl rfl kk dd (fun K hK=>?_);refine goes_ func18 kk rfl #[.agg (ints .u8 lp).toArray] rr rfl rfl mL ?_;refine(create_f lp _ HLp.out).mono ?_;rintro _ w3 ⟨⟨bx,gk,sk,x,rfl,hbx,hgk,hpy,hxe,hmp⟩,hb⟩;have HMp:=hd_ hmp;clear hmp;refine⟨_,rfl,?_⟩;have HPy:=hd_ hpy;have HE:=hd_ hxe;have HC3:=hd_ (HC2.out.below hb HC2.out.lt);have hsz2:=HB2.out.size;have HGk:Hid (w.heap.size<=gk):=Nat.le_trans hsz2 hgk;have HB3:=tb_ HB2 hb;refine hK.out _ _ trivial (fun hH=>?_);clear hK K hb hpy hxe hbx hgk HC2 HB2 hsz2;refine mN ?_;refine ts_ 5 1 1 (bt 7 63) hH ?_;refine mT0 ?_;refine tl_ 6 ?_;refine mF ?_;clear hH;have k2:w3.cell? ⟨w.heap.size,2,none⟩=some (.pointer none):=(HC3.out.cell 2).trans rfl;have f2:=HC3.out.free 2;obtain⟨W4,hW4⟩:=ex_ (w3.setCell ⟨w.heap.size,2,none⟩ (.pointer (some ⟨bx,0,none⟩)));have hg4:w3.grownBy W4 (some w.heap.size):=by rw[hW4];exact grownBy_set1 _ _ _ _
 have hk4:Kp [74] w.heap.size w3 W4:=Kp.of_grown HC3.out hg4 (Nat.le_refl _);have H4:Hid (NwS W4 w.heap.size w.heap.size 0 (zwd.sX 0 (.pointer (some ⟨bx,0,none⟩)) (some x))):=by
  refine⟨Nat.le_refl _,?_,fun i hi=>?_,fun i hi=>by omega,fun i _=>rfl,fun i hi=>by omega,fun i j hi=>by omega,rfl,rfl,rfl⟩
  · rw[hW4,<- wd_set_P (i:=0) dd];exact HC3.out.set 2 _
  show PyV W4 w.heap.size (if i=0 then .pointer (some ⟨bx,0,none⟩) else .pointer none) (if i=0 then some x else none);by_cases e:i=0
  · rw[if_pos e,if_pos e];exact .inr ⟨bx,x,gk,sk,rfl,rfl,HPy.out.kp hk4 dd dd,HGk.out,HMp.out⟩
  rw[if_neg e,if_neg e];exact .inl ⟨rfl,rfl⟩
 have HB4:=hd_ (HB3.out.grown hg4 HB3.out.size (fun k hk=>by cases hk;omega));have HX4:Hid ((zwd.sX 0 (.pointer (some ⟨bx,0,none⟩)) (some x)).X 0=some x/\∀i,0<i->(zwd.sX 0 (.pointer (some ⟨bx,0,none⟩)) (some x)).X i=none):=⟨rfl,fun i hi=>by show(if i=0 then some x else none)=none;rw[if_neg o_]⟩;obtain⟨d4,hd4⟩:=ex_ (zwd.sX 0 (.pointer (some ⟨bx,0,none⟩)) (some x));rw[<-hd4]at H4 HX4;have HW4:=hd_ hW4;clear hW4 hg4 hk4 hd4 HC3 HB3 HPy HGk;go_wp2_with fail;go_loopw [11] (fun v wr=>∃i:Nat,v=.int .i64 i/\i<=8/\Hid (∃d,NwS wr w.heap.size w.heap.size i d/\d.X=d4.X)/\Hid (Bl w wr)) (fun v _=>8-(intOf v).toNat)
 case atStart=>exact⟨0,rfl,by omega,(by rw[<-HW4.out];exact⟨d4,H4.out,rfl⟩),(by rw[<-HW4.out];exact HB4.out)⟩
 case round=>
  clear H4 HB4 HW4 k2 f2;obtain⟨wa,rfl⟩:=ex_ (wr);obtain⟨i,rfl,hi,HN,HB⟩:=hrel;obtain⟨d,hN,hdX⟩:=HN.out;have HN1:=hd_ hN;have HdX:=hd_ hdX;clear HN hN hdX;by_cases hlt:i<8
  · (have hii:(i:Int)<8:=by omega);go_wp2_with fail;refine pr_ 0 7 (bt 7 0) fun w1d hw1d=>?_;refine mG ?_;(have HN2:Hid (NwS w1d w.heap.size w.heap.size i d):=by rw[<-hw1d];exact HN1.out.below (Below.refl _ _).drew);(have HB2:Hid (Bl w w1d):=by rw[<-hw1d];exact HB.out.drew);have hH:(fun _=>True) w1d:=trivial;clear hw1d HN1 HB;refine wpAny_of_last (S:=fun _=>True) (ds:=[6]) _ _ _ _ ?_;refine ts_ 0 2 5 (bt 7 3) hH ?_;refine mT0 ?_;refine ts_ 3 2 3 (bt 7 27) hH ?_;refine mT0 ?_;refine one_ (i:=2) (N:=some 16) (bt 7 31) rfl rfl kk dd (fun K hK=>?_);refine goes_ func20 kk rfl #[] rr rfl rfl mL ?_;refine(new_calls _).mono ?_;rintro _ w3 ⟨rfl,hw3⟩;refine⟨_,rfl,?_⟩;have hb3:=nb_ hw3;have HN3:=hd_ (HN2.out.below hb3);have HB3:=tb_ HB2 hb3;have HN4:=hd_ (HN2.out.one hlt HB2.out.size hw3);refine hK.out _ _ trivial (fun hH=>?_);clear hK K hb3 hw3 HN2;refine mN ?_;refine ts_ 5 1 1 (bt 7 63) hH ?_;refine mT0 ?_;refine tl_ 6 ?_;refine mF ?_;clear hH;have kK:w3.cell? ⟨w.heap.size,10+i,none⟩=some (.pointer none):=(HN3.out.cel.cell (10+i)).trans ((wd_K hlt).trans (by rw[HN3.out.K0 i (Nat.le_refl _)]));have fK:=HN3.out.cel.free (10+i);have HB5:Hid (Bl w (w3.setCell ⟨w.heap.size,10+i,none⟩ (.pointer (some ⟨w1d.heap.size,0,none⟩)))):=HB3.out.grown (grownBy_set1 _ _ _ _) HB3.out.size (fun k hk=>by cases hk;omega);go_wp2_with fail;go_roundw;(case rel=>exact⟨i+1,by go_num,by omega,⟨_,HN4.out,HdX.out⟩,HB5⟩);case measure=>simp[intOf];omega
  obtain rfl:i=8:=by omega
  go_wp2_with fail;exact bodyPost_ret (v:=.pointer (some ⟨w.heap.size,0,none⟩)) (by simp[results,results7,asAddr,Act.put]) rfl ⟨w.heap.size,d,x,rfl,HN1.out.wd,HB.out,by rw[HdX.out];exact HX4.out.1,HE.out,fun i hi=>by rw[HdX.out];exact HX4.out.2 i hi,HN1.out.xs⟩
end Go.Proofs.YtppjnahcnofokaaGreat.T
namespace Go.Proofs.YtppjnahcnofokaaGreat.T
open Go.RowKit Go.Proofs.YtppjnahcnofokaaGreatW.PrintLast
open Go.Proofs.YtppjnahcnofokaaGreat.B (BookAt Chg)
open Go.Proofs.Tryz
variable{k:IntKind}{a:Act}{b i n B base m fuel D B':Nat}{l ch t0:List Int}{w w' w1 w2:World}{t:TypeId}{P:Program}{cs xs vs l3:List Value}{A A':Option Addr}{o oi:Oper}{e s f st fl:Int}{ops:Array Oper}{rest l0:List Oper}{v:Value}{r:Option Nat}{rs rs2:List (Option Addr×Nat×Nat×List Int)}{E:Prop}{ad ai go:List Bool}{N:Act->Prop}{place:Nat->Option (Nat×Nat)}{bad:Bool}{es es':List (Int×List Int)}{T:List TypeId}
structure Rel (who:Nat) (d d':WdD):Prop where
 oth:∀k,k<8->k≠who->d'.X k=d.X k
 own:∀x x',d.X who=some x->d'.X who=some x'->x'=x\/x'.e=wrap64 (x.e+1)
theorem Rel.refl(who:Nat)(d:WdD):Rel who d d:=⟨fun _ _ _=>rfl,fun x x' h h'=>.inl (by rw[h]at h';injection h' with h';exact h'.symm)⟩
variable{d:WdD}
theorem Rel.of_X{who:Nat}{d':WdD}(h:d'.X=d.X):Rel who d d':=⟨fun _ _ _=>by rw[h],fun x x' h1 h2=>.inl (by rw[h,h1]at h2;injection h2 with h2;exact h2.symm)⟩
def StR(B g:Nat)(s:Int)(who:Nat)(d:WdD)(w:World)(r:Ending)(w':World):Prop:=(∃e,r=.returned (.int .i64 e))/\∃d',WdAt w' B g s d'/\Kp TW B w w'/\Rel who d d'/\d'.xs.length<=d.xs.length+1
theorem StR.same{g who:Nat}(h:WdAt w' B g s d)(hk:Kp TW B w w'):StR B g s who d w (.returned (.int .i64 e)) w':=⟨⟨e,rfl⟩,d,h,hk,Rel.refl _ _,Nat.le_succ _⟩
theorem StR.put{g who:Nat}{o:Option PyP}(h:WdAt w' B g s d)(hk:Kp TW B w w')(hi:who<8)(hv:PyV w' B v o)(ho:∀x x',d.X who=some x->o=some x'->x'=x\/x'.e=wrap64 (x.e+1)):StR B g s who d w (.returned (.int .i64 e)) (w'.setCell ⟨g,2+who,none⟩ v):=
 ⟨⟨e,rfl⟩,_,h.put_X hi hv,hk.trans (h.kTW _ _),⟨fun k _ hne=>by show(if k=who then o else d.X k)=_;rw[if_neg hne],fun x x' h1 h2=>ho x x' h1 (by rw[<-h2];show _=(if who=who then o else d.X who);rw[if_pos rfl])⟩,Nat.le_succ _⟩
theorem gives_any(w:World)(B g:Nat)(d:WdD)(h:WdAt w B g 1 d)(i:Nat)(hi:i<8)(A:Option Addr)(n c:Nat)(l:List Int)(hr:Rd w .u8 A n c l)(hn:n<=1000000):Calls prog 44 #[.pointer (some ⟨g,0,none⟩),.int .i64 i,.slice A n c] w (StR B g 1 i d w):=by
 have hii:(i:Int)<8:=by omega
 have HI:=hd_ hi;have H0:=hd_ h;have HR:=hd_ hr;have kP:w.cell? ⟨g,2+i,none⟩=some (d.P i):=(h.cel.cell (2+i)).trans (wd_P hi);have hX:=h.X i hi;clear h hr hi;rcases hX with⟨e1,e2⟩|⟨b,x,gk,sk,e1,e2,hp,hgk⟩
 · rw[e1]at kP;(go_enter func44,ntmps44);go_wp2_with fail;refine(toWelcome_any A n c l w HR.out hn).mono ?_;rintro _ w2 ⟨⟨z,e,rfl,hz⟩,hb⟩;have HZ2:=hd_ hz;have H2:=hd_ (H0.out.below hb);have HK2:Hid (Kp TW B w w2):=Kp.of_below hb;(have HC2:Hid (Cel (w2.alloc (.cells Tryz.zeroCells137 137)) w2.heap.size 137 (wlC zwl)):=by rw[zc137];exact Cel.new _ rfl rfl);clear hb hz kP;by_cases he:e=0;rotate_left
   · go_wp2_with (first
      | (refine store_cel rfl 137 (.tmp 8) (.tmp 25) rr w2.heap.size 0 137 [] (wlC zwl) [] (wlC z) rr rr (by simpa using HC2.out) rfl (by rw[wl_len zvOk rfl,wl_len HZ2.out.vw HZ2.out.tag]) (wl_hi HZ2.out.vw HZ2.out.tag) (all_oneCell_toArray (wl_one HZ2.out)) ?_
         intro w3 hS hG
         have hbb:=below_new rfl hG
         have HC3:Hid (Cel w3 w2.heap.size 137 (wlC z)):=hd_ (by simpa using hS)
         have H3:=hd_ (H2.out.below hbb)
         have HZ3:=hd_ (HZ2.out.below hbb)
         have HK3:Hid (Kp TW B w w3):=HK2.out.trans (Kp.of_below hbb)
         clear hS hG hbb H2 HK2 HC2))
     exact bodyPost_ret (v:=.int .i64 e) (by simp[results,results44,asAddr,Act.put]) rfl (StR.same H3.out HK3.out)
   subst he
   go_wp2_with (first
    | (refine store_cel rfl 137 (.tmp 8) (.tmp 25) rr w2.heap.size 0 137 [] (wlC zwl) [] (wlC z) rr rr (by simpa using HC2.out) rfl (by rw[wl_len zvOk rfl,wl_len HZ2.out.vw HZ2.out.tag]) (wl_hi HZ2.out.vw HZ2.out.tag) (all_oneCell_toArray (wl_one HZ2.out)) ?_
       intro w3 hS hG
       have hbb:=below_new rfl hG
       have HC3:Hid (Cel w3 w2.heap.size 137 (wlC z)):=hd_ (by simpa using hS)
       have H3:=hd_ (H2.out.below hbb)
       have HZ3:=hd_ (HZ2.out.below hbb)
       have HK3:Hid (Kp TW B w w3):=HK2.out.trans (Kp.of_below hbb)
       clear hS hG hbb H2 HK2 HC2))
   refine pr_ 0 9 (bt 9 0) fun w1d hw1d=>?_;refine mG ?_;(have HC4:Hid (Cel w1d w2.heap.size 137 (wlC z)):=by rw[<-hw1d];exact HC3.out.drew);(have H4:Hid (WdAt w1d B g 1 d):=by rw[<-hw1d];exact H3.out.below (Below.refl _ _).drew);(have HZ4:Hid (WlOk w1d z):=by rw[<-hw1d];exact HZ3.out.below (Below.refl _ _).drew);(have HK4:Hid (Kp TW B w w1d):=by rw[<-hw1d];exact HK3.out.trans (Kp.of_below (Below.refl _ _).drew));have hH:(fun w'=>Hid (Cel w' w2.heap.size 137 (wlC z))) w1d:=HC4;clear hw1d HC3 H3 HZ3 HK3;refine wpAny_of_last (S:=fun w'=>Hid (Cel w' w2.heap.size 137 (wlC z))) (ds:=[7,8]) _ _ _ _ ?_;refine ts_ 0 1 8 (bt 9 1) hH ?_;refine mD ?_;(repeat (first|(refine tk_ 137 (.tmp 8) w2.heap.size 0 (wlC z) (fun _ h=>h.out.all) underlying137 rfl (wl_hi HZ2.out.vw HZ2.out.tag) ?_)|(refine uA ?_)|(refine mB0 ?_)));refine takes_nil ?_;refine ts_ 2 1 7 (bt 9 5) hH ?_;refine mD ?_;(repeat (first|(refine tk_ 137 (.tmp 8) w2.heap.size 0 (wlC z) (fun _ h=>h.out.all) underlying137 rfl (wl_hi HZ2.out.vw HZ2.out.tag) ?_)|(refine uA ?_)|(refine mB0 ?_)));refine takes_nil ?_;refine one_ (i:=1) (N:=some 32) (bt 9 7) rfl rfl kk dd (fun K hK=>?_);refine goes_ func19 kk rfl #[.int .i64 i] rr rfl rfl mL ?_;refine(seed_any i _).mono ?_;rintro _ w5 ⟨⟨lp,hlp,rfl⟩,hb⟩;refine⟨_,rfl,?_⟩;have HLp:=hd_ hlp;have H5:=hd_ (H4.out.below hb);have HZ5:=hd_ (HZ4.out.below hb);have HK5:Hid (Kp TW B w w5):=HK4.out.trans (Kp.of_below hb);refine hK.out _ _ (hd_ (HC4.out.below hb HC4.out.lt)) (fun hH=>?_);clear hK K hb hlp H4 HZ4 HK4 HC4;refine mN ?_;refine one_ (i:=3) (N:=some 34) (bt 9 15) rfl rfl kk dd (fun K hK=>?_);refine goes_ func71 kk rfl #[.agg (ints .u8 lp).toArray,.agg (wlC z).toArray] rr rfl rfl mL ?_;refine(join_f lp z _ HLp.out HZ5.out).mono ?_;rintro _ w6 ⟨⟨P,e6,rfl,hP⟩,hb⟩;refine⟨_,rfl,?_⟩;have HP6:Hid (∃o,PyV w6 B (.pointer P) o):=by
    cases P with
    | none=>exact⟨none,.inl ⟨rfl,rfl⟩⟩
    | some a=>
     obtain⟨b',x',g',s',rfl,h1,h2,h3,hm⟩:=hP a rfl;exact⟨some x',.inr ⟨b',x',g',s',rfl,rfl,h3,Nat.le_trans H5.out.lo (Nat.le_trans (Nat.le_of_lt H5.out.lt) h2),hm⟩⟩
   have H6:=hd_ (H5.out.below hb);have HK6:Hid (Kp TW B w w6):=HK5.out.trans (Kp.of_below hb);refine hK.out _ _ (hd_ (hH.out.below hb hH.out.lt)) (fun hH=>?_);clear hK K hb hP H5 HZ5 HK5;refine mN ?_;refine ts_ 4 2 3 (bt 9 63) hH ?_;refine mD ?_;(repeat (first|(refine tk_ 137 (.tmp 8) w2.heap.size 0 (wlC z) (fun _ h=>h.out.all) underlying137 rfl (wl_hi HZ2.out.vw HZ2.out.tag) ?_)|(refine uA ?_)|(refine mB0 ?_)));refine takes_nil ?_;refine ps_ 6 1 2 (bt 9 127) ?_;refine mT1 ?_;refine tl_ 7 ?_;refine mF ?_;clear hH;by_cases he6:e6=0;rotate_left;(· go_wp2_with fail;exact bodyPost_ret (v:=.int .i64 e6) (by simp[results,results44,asAddr,Act.put]) rfl (StR.same H6.out HK6.out));subst he6;have kP6:w6.cell? ⟨g,2+i,none⟩=some (d.P i):=(H6.out.cel.cell (2+i)).trans (wd_P HI.out);have fP6:=H6.out.frozen (2+i);obtain⟨o,hPv⟩:=HP6.out;have HPv:=hd_ hPv;have E2:=hd_ e2;clear hPv e2;go_wp2_with fail;exact bodyPost_ret (v:=.int .i64 0) (by simp[results,results44,asAddr,Act.put]) rfl (StR.put H6.out HK6.out HI.out HPv.out (fun y y' h1 _=>by rw[E2.out]at h1;cases h1))
 · rw[e1]at kP;have HPy:=hd_ hp;have HGk:=hd_ hgk;have E2:=hd_ e2;clear hp hgk e2;(go_enter func44,ntmps44);go_wp2_with fail;refine(toCommit_any A n c l w HR.out hn).mono ?_;rintro _ w2 ⟨⟨y,e,rfl,hy⟩,hb⟩;have HY2:=hd_ hy;have H2:=hd_ (H0.out.below hb);have HP2:=hd_ (HPy.out.below hb);have HK2:Hid (Kp TW B w w2):=Kp.of_below hb;have HC2:Hid (Cel (w2.alloc (.cells (cmC zcm).toArray 130)) w2.heap.size 130 (cmC zcm)):=Cel.new _ rfl rfl;clear hb hy kP;by_cases he:e=0;rotate_left
   · go_wp2_with (first
      | (change wpList _ _ _ _ _ (w2.alloc (.cells (cmC zcm).toArray 130))
         refine store_cel rfl 130 (.tmp 11) (.tmp 49) rr w2.heap.size 0 130 [] (cmC zcm) [] (cmC y) rr rr (by simpa using HC2.out) rfl (by rw[cm_len HY2.out.tag];rfl) (cm_hi HY2.out.tag) (all_oneCell_toArray (cm_one HY2.out)) ?_
         intro w3 hS hG
         have hbb:=below_new rfl hG
         have HC3:Hid (Cel w3 w2.heap.size 130 (cmC y)):=hd_ (by simpa using hS)
         have H3:=hd_ (H2.out.below hbb)
         have HP3:=hd_ (HP2.out.below hbb)
         have HY3:=hd_ (HY2.out.below hbb)
         have HK3:Hid (Kp TW B w w3):=HK2.out.trans (Kp.of_below hbb)
         clear hS hG hbb H2 HP2 HK2 HC2))
     exact bodyPost_ret (v:=.int .i64 e) (by simp[results,results44,asAddr,Act.put]) rfl (StR.same H3.out HK3.out)
   subst he
   go_wp2_with (first
    | (change wpList _ _ _ _ _ (w2.alloc (.cells (cmC zcm).toArray 130))
       refine store_cel rfl 130 (.tmp 11) (.tmp 49) rr w2.heap.size 0 130 [] (cmC zcm) [] (cmC y) rr rr (by simpa using HC2.out) rfl (by rw[cm_len HY2.out.tag];rfl) (cm_hi HY2.out.tag) (all_oneCell_toArray (cm_one HY2.out)) ?_
       intro w3 hS hG
       have hbb:=below_new rfl hG
       have HC3:Hid (Cel w3 w2.heap.size 130 (cmC y)):=hd_ (by simpa using hS)
       have H3:=hd_ (H2.out.below hbb)
       have HP3:=hd_ (HP2.out.below hbb)
       have HY3:=hd_ (HY2.out.below hbb)
       have HK3:Hid (Kp TW B w w3):=HK2.out.trans (Kp.of_below hbb)
       clear hS hG hbb H2 HP2 HK2 HC2)
    | (refine wpList_load_mid rfl 130 (.tmp 11) rr w2.heap.size 0 rr (cmC y) _ HC3.out.all underlying130 rfl (cm_hi HY3.out.tag) ?_))
   refine(process_f b x y w3 HP3.out.cel HP3.out.ok HY3.out HGk.out.2).mono ?_;rintro _ w6 ⟨⟨P,e6,rfl,hP⟩,hb⟩;have HP6:Hid (∃o,PyV w6 B (.pointer P) o/\∀x',o=some x'->x'.e=wrap64 (x.e+1)):=by
    cases P with
    | none=>exact⟨none,.inl ⟨rfl,rfl⟩,fun _ h=>by cases h⟩
    | some a=>
     obtain⟨b',x',rfl,h1,h2,h3,h4,h5,h6,hm⟩:=hP a rfl;exact⟨some x',.inr ⟨b',x',gk,sk,rfl,rfl,⟨h2,h3,h5.trans HP3.out.G,HP3.out.key.below hb HP3.out.key.lt⟩,HGk.out.1,hm⟩,fun x'' h=>by injection h with h;rw[<-h];exact h4⟩
   have H6:=hd_ (H3.out.below hb);have HK6:Hid (Kp TW B w w6):=HK3.out.trans (Kp.of_below hb);clear hb hP H3 HP3 HY3 HK3 HC3;by_cases he6:e6=0;rotate_left;(· go_wp2_with fail;exact bodyPost_ret (v:=.int .i64 e6) (by simp[results,results44,asAddr,Act.put]) rfl (StR.same H6.out HK6.out));subst he6;have kP6:w6.cell? ⟨g,2+i,none⟩=some (d.P i):=(H6.out.cel.cell (2+i)).trans (wd_P HI.out);have fP6:=H6.out.frozen (2+i);obtain⟨o,hPv,hPe⟩:=HP6.out;have HPv:=hd_ hPv;have HPe:=hd_ hPe;clear hPv hPe;go_wp2_with fail;exact bodyPost_ret (v:=.int .i64 0) (by simp[results,results44,asAddr,Act.put]) rfl (StR.put H6.out HK6.out HI.out HPv.out (fun y0 y' h1 h2=>by rw[E2.out]at h1;injection h1 with h1;rw[<-h1];exact .inr (HPe.out y' h2)))
end Go.Proofs.YtppjnahcnofokaaGreat.T
namespace Go.Proofs.YtppjnahcnofokaaGreat.T
open Go.RowKit Go.Proofs.YtppjnahcnofokaaGreatW.PrintLast
open Go.Proofs.YtppjnahcnofokaaGreat.B (run_eq_hash)
open Go.Proofs.Tryz
variable{k:IntKind}{a:Act}{b i n B base m fuel D B':Nat}{l ch t0:List Int}{w w' w1 w2:World}{t:TypeId}{P:Program}{cs xs vs l3:List Value}{A A':Option Addr}{o oi:Oper}{e s f st fl:Int}{ops:Array Oper}{rest l0:List Oper}{v:Value}{r:Option Nat}{rs rs2:List (Option Addr×Nat×Nat×List Int)}{E:Prop}{ad ai go:List Bool}{N:Act->Prop}{place:Nat->Option (Nat×Nat)}{bad:Bool}{es es':List (Int×List Int)}{T:List TypeId}
theorem chunk{α : Type}(f:α->List Value)(m:Nat):∀(zs:List α) (_:∀z ∈ zs,(f z).length=m) (j:Nat) (hj:j<zs.length) (k:Nat) (v:Value),(f zs[j])[k]? = some v->(zs.flatMap f)[j*m+k]? = some v
 | [],_,j,hj,_,_,_=>by simp at hj
 | z :: zs,h,j,hj,k,v,hv=>by
  have hz:=h z s_;rw[List.flatMap_cons]
  cases j with
  | zero=>
   have hk:k<(f z).length:=(List.getElem?_eq_some_iff.1 hv).1;rw[Nat.zero_mul,Nat.zero_add,List.getElem?_append_left hk];exact hv
  | succ j=>
   rw[List.getElem?_append_right (by rw[hz,Nat.succ_mul];omega),hz,show(j+1)*m+k-m=j*m+k by rw[Nat.succ_mul];omega];exact chunk f m zs (fun y hy=>h y (by simp[hy])) j (by simpa using hj) k v (by simpa using hv)
theorem Aps.at{c:Nat}{xs:List (List Int×Int×Int×Int)}(h:Aps w B (.slice A n c) n xs)(j:Nat)(hj:j<n):∃b o,A=some ⟨b,o,none⟩/\b<w.heap.size/\w.rangeAt b (o+j*35) (apC (xs[j]'(by rw[h.len];exact hj))):=by
 have hi:=own_rgI h.own;have hcap:=hi.rg.cap;obtain⟨b,o,e,hlt,hr⟩:=hi.rg.at_ o_;refine⟨b,o,e,hlt,fun k v hv=>?_⟩;rw[Nat.add_assoc];exact hr _ v (chunk apC 35 xs (fun x hx=>apC_len (h.each x hx).1) j (by rw[h.len];exact hj) k v hv)
def PvV(w:World)(v:Value):Prop:=v=.pointer none\/∃b o a e s,v=.pointer (some ⟨b,o,none⟩)/\b<w.heap.size/\w.rangeAt b o [.int .i64 a,.int .i64 e,.int .i64 s]
def Arr8(w w':World)(b:Nat):Prop:=∃F:List Value,F.length=8/\Cel w' b 176 F/\∀(i:Nat) (v:Value),F[i]? = some v->PvV w v
def zpn:List Value:=List.replicate 8 (.pointer none)
theorem Arr8.below(h:Arr8 w w1 b)(hb:Bl w1 w2):Arr8 w w2 b:=by
 obtain⟨F,h1,h2,h3⟩:=h;exact⟨F,h1,h2.below hb h2.lt,h3⟩
theorem Arr8.lt(h:Arr8 w w1 b):b<w1.heap.size:=by obtain⟨F,h1,h2,h3⟩:=h;exact h2.lt
theorem Arr8.set(h:Arr8 w w1 b)(hv:PvV w v):Arr8 w (w1.setCell ⟨b,i,none⟩ v) b:=by
 obtain⟨F,h1,h2,h3⟩:=h;refine⟨F.set i v,by rw[List.length_set];exact h1,h2.set i v,fun k u hu=>?_⟩;rw[List.getElem?_set]at hu;split at hu
 · split at hu;(· injection hu with hu;rw[<-hu];exact hv);cases hu
 exact h3 k u hu
theorem hi176{F:List Value}(h:F.length=8):(prog.info? 176).map (·.size)=some F.length:=by rw[h];kernel_rfl
theorem hi125{x:List Int×Int×Int×Int}(h:x.1.length=32):(prog.info? 125).map (·.size)=some (apC x).length:=by rw[apC_len h];kernel_rfl
theorem hi118(a e s:Int):(prog.info? 118).map (·.size)=some ([.int .i64 a,.int .i64 e,.int .i64 s]:List Value).length:=by show _=some 3;kernel_rfl
theorem apC_one(x:List Int×Int×Int×Int):∀v ∈ apC x,v.oneCell'=true:=by
 intro v hv;rcases List.mem_append.1 hv with h|h
 · exact ints_one v h
 simp at h;rcases h with h|h|h<;>subst h<;>rfl
theorem ap_paper{x:List Int×Int×Int×Int}(h:Cel w b 125 (apC x)):w.rangeAt b 0 (ints .u8 x.1):=Cel.range (l1:=[]) (l3:=[.int .i64 x.2.1,.int .i64 x.2.2.1,.int .i64 x.2.2.2]) (by simpa[apC] using h)
theorem ap_adm{x:List Int×Int×Int×Int}(h:x.1.length=32):(apC x)[32]? = some (.int .i64 x.2.1):=by
 unfold apC;rw[List.getElem?_append_right (by rw[ints_len,h];exact Nat.le_refl _)];simp[ints_len,h]
theorem idx176(F:List Value)(hF:F.length=8)(i:Nat)(hi:i<8)(v:Value)(hv:F[i]? = some v)(w:World):(Instr.index 176 (.agg F.toArray) (.int .i64 (i:Int))).run prog w=.ok v w:=by
 obtain⟨inf,hinf⟩:=inf_of (t:=175) kk;have hs:inf.size=1:=by
  have h:(prog.info? 175).map (·.size)=some 1:=by kernel_rfl
  rw[hinf]at h;simpa using h
 have hn:(0:Int)<=i/\(i:Int)<8:=by omega
 have hu:prog.underlying 176=some (.array 8 175):=by kernel_rfl
 have hag:(isAgg 175).run prog w=.ok false w:=by
  have h0:prog.underlying 175=some (.pointer 118):=by kernel_rfl
  simp[isAgg,run_underlying h0]
 simp[Instr.index,asIntOf,run_underlying hu,hn,sizeOf,typeInfo,hinf,hi,part,hag,hs,hv]
def AdR(w:World)(r:Ending)(w':World):Prop:=∃A n c l,r=.returned (.slice A n c)/\w'.ownsRow w.heap.size 118 3 (.slice A n c) n (ints .i64 l)/\n<=8
theorem approved_any(w:World)(B g:Nat)(s:Int)(d:WdD)(h:WdAt w B g s d)(p:List Int)(hp:p.length=32)(hm:d.xs.length<=100000):Calls prog 66 #[.pointer (some ⟨g,0,none⟩),.agg (ints .u8 p).toArray] w fun r w'=>AdR w r w'/\Bl w w':=by
 obtain⟨w1,hW⟩:=ex_ ((w.alloc (.cells (ints .u8 p).toArray 43)).alloc (.cells zpn.toArray 176));have HB1:Hid (Bl w w1):=by rw[hW];exact bal b0_
 have HP1:Hid (Blk w1 w.heap.size .u8 43 p):=by rw[hW];exact(blk_new w .u8 43 p _ rfl).below b0_ s_
 have HA1:Hid (Arr8 w w1 (w.heap.size+1)):=by rw[hW];refine⟨zpn,rfl,Cel.new _ s_ rfl,fun i v hv=>.inl ?_⟩;have:=List.mem_of_getElem? hv;exact List.eq_of_mem_replicate this
 obtain⟨AA,cA,eA,hA⟩:=h.A;obtain⟨m,hmm⟩:=ex_ (d.xs.length);obtain⟨xs,hxs⟩:=ex_ (d.xs);rw[<-hmm,<- hxs,eA,<- hmm]at hA;rw[<-hmm]at hm eA;have HAp:=hd_ hA;have EA:=hd_ eA;have H0:=hd_ h;have HPp:=hd_ hp;have HG:Hid (g<w.heap.size):=h.lt;have HW:=hd_ hW;clear hW h hA eA hp hmm hxs;have k19:w1.cell? ⟨g,19,none⟩=some (.slice AA m cA):=((H0.out.cel.below HB1.out HG.out).cell 19).trans (wd_A.trans (by rw[EA.out]));go_enter func66,ntmps66
 go_wp2_with ((change wpList _ _ _ _ _ ((w.alloc (.cells (ints .u8 p).toArray 43)).alloc (.cells zpn.toArray 176)));rw[<-HW.out]);go_loopw [16] (fun v wr=>∃i:Nat,v=.int .i64 i/\i<=m/\Hid (Blk wr w.heap.size .u8 43 p)/\Hid (Arr8 w wr (w.heap.size+1))/\Hid (Bl w wr)) (fun v _=>m-(intOf v).toNat)
 case atStart=>exact⟨0,rfl,by omega,HP1,HA1,HB1⟩
 case round=>
  clear HP1 HA1 HB1 HW k19
  obtain⟨wa,rfl⟩:=ex_ (wr)
  obtain⟨i,rfl,hi,HPa,HAa,HBa⟩:=hrel
  have kg:wa.cell? ⟨g,19,none⟩=some (.slice AA m cA):=((H0.out.cel.below HBa.out HG.out).cell 19).trans (wd_A.trans (by rw[EA.out]))
  have hs3:=HAa.out.lt
  by_cases hlt:i<m
  · obtain⟨ab,ao,rfl,hab,hrg⟩:=HAp.out.at i hlt;(have hix:i<xs.length:=by rw[HAp.out.len];exact hlt);obtain⟨x,hx⟩:=ex_ (xs[i]);have hxm:=HAp.out.each (xs[i]) (List.getElem_mem _);rw[<-hx]at hrg hxm;have hra:wa.rangeAt ab (ao+i*35) (apC x):=fun j v hv=>(HBa.out.cell (p:=⟨ab,ao+i*35+j,none⟩) hab).trans (hrg j v hv);have HRa:=hd_ hra;have HRw:=hd_ hrg;have HXm:=hd_ hxm;have HAb:Hid (ab<w.heap.size):=hab;have HZ:Hid (Cel (wa.alloc (.cells (apC (zl,0,0,0)).toArray 125)) wa.heap.size 125 (apC (zl,0,0,0))):=Cel.new _ rfl rfl;obtain⟨ad,had⟩:=Int.eq_ofNat_of_zero_le hxm.2.1;(have had8:ad<8:=by have:=hxm.2.2;omega);(have hadi:(ad:Int)<8:=by omega);have HAD:=hd_ had;obtain⟨q,hq⟩:∃q,(x.1==p)=q:=⟨_,rfl⟩;(have HQ:Hid (∀w:World,(binOp .eql 43 (.agg (ints .u8 x.1).toArray) (.agg (ints .u8 p).toArray)).run prog w=.ok (.bool q) w):=fun w=>by rw[<-hq];exact run_eq_hash x.1 p hxm.1 HPp.out w);obtain⟨F,hF,hCF,hvF⟩:=HAa.out;obtain⟨fv,hfv⟩:∃fv,F[ad]'o_=fv:=⟨_,rfl⟩;(have hFa:F[ad]? = some fv:=by rw[<-hfv];exact List.getElem?_eq_getElem o_);have HFa:=hd_ hFa;have HCF:=hd_ hCF;have hpv:=hvF ad fv hFa;clear hrg hra hxm hx had hq hF hvF hfv hFa hCF
    cases q with
    | false=>
     go_wp2_with (first
      | (refine wpList_load_mid rfl 125 (.tmp 19) rr ab (ao+i*35) rr (apC x) _ HRa.out underlying125 rfl (hi125 HXm.out.1) ?_)
      | (change wpList _ _ _ _ _ (wa.alloc (.cells (apC (zl,0,0,0)).toArray 125))
         refine store_cel rfl 125 (.tmp 7) (.tmp 20) rr wa.heap.size 0 125 [] (apC (zl,0,0,0)) [] (apC x) rr rr (by simpa using HZ.out) rfl (by rw[apC_len HXm.out.1];rfl) (hi125 HXm.out.1) (all_oneCell_toArray (apC_one x)) ?_
         intro wb hS hG
         have hbb:=below_new rfl hG
         have HX7:Hid (Cel wb wa.heap.size 125 (apC x)):=hd_ (by simpa using hS)
         have HPb:=hd_ (HPa.out.below hbb HPa.out.lt)
         have HAb2:=hd_ (HAa.out.below hbb)
         have HBb:=tb_ HBa hbb
         have HCb:=hd_ (HCF.out.below hbb HCF.out.lt)
         have k7:wb.cell? ⟨wa.heap.size,32,none⟩=some (.int .i64 ad):=(HX7.out.cell 32).trans ((ap_adm HXm.out.1).trans (by rw[HAD.out]))
         have k5:wb.cell? ⟨w.heap.size+1,ad,none⟩=some fv:=(HCb.out.cell ad).trans HFa.out
         have f5:=HCb.out.free ad
         clear hS hG hbb HPa HAa HBa kg HZ HCF)
      | (refine wpList_load_mid rfl 43 (.tmp 21) rr wa.heap.size 0 rr (ints .u8 x.1) _ (ap_paper HX7.out) underlying43 rfl (hi43 HXm.out.1).out ?_)
      | (refine wpList_load_mid rfl 43 (.tmp 3) rr w.heap.size 0 rr (ints .u8 p) _ HPb.out.range underlying43 rfl (hi43 HPp.out).out ?_)
      | (refine wpList_cmp rfl .eql 43 43 (.tmp 22) (.tmp 23) rr _ _ _ rr rr gd43 (HQ.out wb) ?_))
     exact⟨⟨i+1,by go_num,by omega,HPb,HAb2,HBb⟩,by simp[intOf];omega⟩
    | true=>
    (rcases hpv with rfl|⟨pb,po,pa,pe,ps,rfl,-,-⟩);rotate_left
    · go_wp2_with (first
       | (refine wpList_load_mid rfl 125 (.tmp 19) rr ab (ao+i*35) rr (apC x) _ HRa.out underlying125 rfl (hi125 HXm.out.1) ?_)
       | (change wpList _ _ _ _ _ (wa.alloc (.cells (apC (zl,0,0,0)).toArray 125))
          refine store_cel rfl 125 (.tmp 7) (.tmp 20) rr wa.heap.size 0 125 [] (apC (zl,0,0,0)) [] (apC x) rr rr (by simpa using HZ.out) rfl (by rw[apC_len HXm.out.1];rfl) (hi125 HXm.out.1) (all_oneCell_toArray (apC_one x)) ?_
          intro wb hS hG
          have hbb:=below_new rfl hG
          have HX7:Hid (Cel wb wa.heap.size 125 (apC x)):=hd_ (by simpa using hS)
          have HPb:=hd_ (HPa.out.below hbb HPa.out.lt)
          have HAb2:=hd_ (HAa.out.below hbb)
          have HBb:=tb_ HBa hbb
          have HCb:=hd_ (HCF.out.below hbb HCF.out.lt)
          have k7:wb.cell? ⟨wa.heap.size,32,none⟩=some (.int .i64 ad):=(HX7.out.cell 32).trans ((ap_adm HXm.out.1).trans (by rw[HAD.out]))
          have k5:wb.cell? ⟨w.heap.size+1,ad,none⟩=some (.pointer (some ⟨pb,po,none⟩)):=(HCb.out.cell ad).trans HFa.out
          have f5:=HCb.out.free ad
          clear hS hG hbb HPa HAa HBa kg HZ HCF)
       | (refine wpList_load_mid rfl 43 (.tmp 21) rr wa.heap.size 0 rr (ints .u8 x.1) _ (ap_paper HX7.out) underlying43 rfl (hi43 HXm.out.1).out ?_)
       | (refine wpList_load_mid rfl 43 (.tmp 3) rr w.heap.size 0 rr (ints .u8 p) _ HPb.out.range underlying43 rfl (hi43 HPp.out).out ?_)
       | (refine wpList_cmp rfl .eql 43 43 (.tmp 22) (.tmp 23) rr _ _ _ rr rr gd43 (HQ.out wb) ?_))
      exact⟨⟨i+1,by go_num,by omega,HPb,HAb2,HBb⟩,by simp[intOf];omega⟩
    go_wp2_with (first
     | (refine wpList_load_mid rfl 125 (.tmp 19) rr ab (ao+i*35) rr (apC x) _ HRa.out underlying125 rfl (hi125 HXm.out.1) ?_)
     | (change wpList _ _ _ _ _ (wa.alloc (.cells (apC (zl,0,0,0)).toArray 125))
        refine store_cel rfl 125 (.tmp 7) (.tmp 20) rr wa.heap.size 0 125 [] (apC (zl,0,0,0)) [] (apC x) rr rr (by simpa using HZ.out) rfl (by rw[apC_len HXm.out.1];rfl) (hi125 HXm.out.1) (all_oneCell_toArray (apC_one x)) ?_
        intro wb hS hG
        have hbb:=below_new rfl hG
        have HX7:Hid (Cel wb wa.heap.size 125 (apC x)):=hd_ (by simpa using hS)
        have HPb:=hd_ (HPa.out.below hbb HPa.out.lt)
        have HAb2:=hd_ (HAa.out.below hbb)
        have HBb:=tb_ HBa hbb
        have HCb:=hd_ (HCF.out.below hbb HCF.out.lt)
        have k7:wb.cell? ⟨wa.heap.size,32,none⟩=some (.int .i64 ad):=(HX7.out.cell 32).trans ((ap_adm HXm.out.1).trans (by rw[HAD.out]))
        have k5:wb.cell? ⟨w.heap.size+1,ad,none⟩=some (.pointer none):=(HCb.out.cell ad).trans HFa.out
        have f5:=HCb.out.free ad
        clear hS hG hbb HPa HAa HBa kg HZ HCF)
     | (refine wpList_load_mid rfl 43 (.tmp 21) rr wa.heap.size 0 rr (ints .u8 x.1) _ (ap_paper HX7.out) underlying43 rfl (hi43 HXm.out.1).out ?_)
     | (refine wpList_load_mid rfl 43 (.tmp 3) rr w.heap.size 0 rr (ints .u8 p) _ HPb.out.range underlying43 rfl (hi43 HPp.out).out ?_)
     | (refine wpList_cmp rfl .eql 43 43 (.tmp 22) (.tmp 23) rr _ _ _ rr rr gd43 (HQ.out wb) ?_))
    refine pr_ 0 12 (bt 12 0) fun w1d hw1d=>?_;refine mG ?_;(have HPc:Hid (Blk w1d w.heap.size .u8 43 p):=by rw[<-hw1d];exact HPb.out.drew);(have HAc:Hid (Arr8 w w1d (w.heap.size+1)):=by rw[<-hw1d];exact HAb2.out.below (Below.refl _ _).drew);(have HBc:Hid (Bl w w1d):=by rw[<-hw1d];exact HBb.out.drew);(have HCc:Hid (Cel w1d (w.heap.size+1) 176 F):=by rw[<-hw1d];exact HCb.out.drew);(have HXc:Hid (Cel w1d wa.heap.size 125 (apC x)):=by rw[<-hw1d];exact HX7.out.drew);have hH:(fun w'=>w'.cell? ⟨wa.heap.size,32,none⟩=some (.int .i64 ad)/\w'.cell? ⟨g,19,none⟩=some (.slice (some ⟨ab,ao,none⟩) m cA)) w1d:=⟨(HXc.out.cell 32).trans ((ap_adm HXm.out.1).trans (by rw[HAD.out])),((H0.out.cel.below HBc.out HG.out).cell 19).trans (wd_A.trans (by rw[EA.out]))⟩;clear hw1d HPb HAb2 HBb HCb HX7 k7 k5 f5;refine wpAny_of_last (S:=fun w'=>w'.cell? ⟨wa.heap.size,32,none⟩=some (.int .i64 ad)/\w'.cell? ⟨g,19,none⟩=some (.slice (some ⟨ab,ao,none⟩) m cA)) (ds:=[10,11]) _ _ _ _ ?_;refine ts_ 0 10 2 (bt 12 1023) hH ?_;refine mT2 ?_;refine tl_ 10 ?_;refine mF ?_;clear hH;have k5:w1d.cell? ⟨w.heap.size+1,ad,none⟩=some (.pointer none):=(HCc.out.cell ad).trans HFa.out;have f5:=HCc.out.free ad;obtain⟨W8,hW8⟩:=ex_ (w1d.setCell ⟨w.heap.size+1,ad,none⟩ (.pointer (some ⟨ab,ao+i*35+32,none⟩)));(have hG8:w1d.grownBy W8 (some (w.heap.size+1)):=by rw[hW8];exact grownBy_set1 _ _ _ _);have HP8:=hd_ (HPc.out.grown hG8 s_);have HB8:=hd_ (HBc.out.grown hG8 HBc.out.size (fun k hk=>by cases hk;omega));(have HA8:Hid (Arr8 w W8 (w.heap.size+1)):=by rw[hW8];refine HAc.out.set (.inr ⟨ab,ao+i*35+32,x.2.1,x.2.2.1,x.2.2.2,rfl,HAb.out,fun k v hv=>?_⟩);have:=HRw.out (32+k) v (by unfold apC;rw[List.getElem?_append_right (by rw[ints_len,HXm.out.1];omega),ints_len,HXm.out.1,Nat.add_sub_cancel_left];exact hv);rwa [<-Nat.add_assoc]at this);have HW8:=hd_ hW8;clear hW8 hG8 HPc HAc HBc HCc HXc;go_wp2_with fail;exact⟨⟨i+1,by go_num,by omega,by rw[<-HW8.out];exact HP8,by rw[<-HW8.out];exact HA8,by rw[<-HW8.out];exact HB8⟩,by simp[intOf];omega⟩
  · (obtain rfl:i=m:=by omega);obtain⟨F,hF,hCF,hvF⟩:=HAa.out;have HF:=hd_ hF;have HCF:=hd_ hCF;have HvF:=hd_ hvF;clear hF hCF hvF kg;go_wp2_with (refine wpList_load_mid rfl 176 (.tmp 5) rr (w.heap.size+1) 0 rr F _ HCF.out.all underlying176 rfl (hi176 HF.out) ?_);(go_loopw [8,46] (fun vx v wr=>∃(j n:Nat) (A3:Option Addr) (c3:Nat),v=.int .i64 j/\vx=.slice A3 n c3/\j<=8/\n<=j/\Hid (∃l,wr.ownsRow w.heap.size 118 3 (.slice A3 n c3) n (ints .i64 l))/\Hid (Bl w wr)) (fun _ v _=>8-(intOf v).toNat));(case atStart=>exact⟨0,0,none,0,rfl,rfl,by omega,by omega,⟨[],World.ownsRow_nil _ _ _ _⟩,HBa⟩)
    case round=>
     clear HPa HAa HBa HCF
     obtain⟨wc,rfl⟩:=ex_ (wr)
     obtain⟨j,n,A3,c3,rfl,rfl,hj,hnj,HO,HBc⟩:=hrel
     by_cases hlt2:j<8
     · obtain⟨fv,hfv⟩:∃fv,F[j]'(by rw[HF.out];exact hlt2)=fv:=⟨_,rfl⟩;(have hFa:F[j]? = some fv:=by rw[<-hfv];exact List.getElem?_eq_getElem (by rw[HF.out];exact hlt2));have hpv:=HvF.out j fv hFa;have HIx:Hid ((Instr.index 176 (.agg F.toArray) (.int .i64 (j:Int))).run prog wc=.ok fv wc):=idx176 F HF.out j hlt2 fv hFa wc;clear hfv hFa;(rcases hpv with rfl|⟨pb,po,pa,pe,ps,rfl,hpb,hpr⟩);(· go_wp2_with (refine wpList_index rfl 176 (.tmp 45) (.tmp 46) rfl _ _ _ rr rr HIx.out ?_);exact⟨⟨j+1,n,A3,c3,by go_num,rfl,by omega,by omega,HO,HBc⟩,by simp[intOf];omega⟩)
       · have HRv:Hid (wc.rangeAt pb po [.int .i64 pa,.int .i64 pe,.int .i64 ps]):=fun k v hv=>(HBc.out.cell (p:=⟨pb,po+k,none⟩) hpb).trans (hpr k v hv);obtain⟨l,hO⟩:=HO.out;obtain⟨wn,hwn⟩:=ex_ (wc.alloc (.cells #[.int .i64 pa,.int .i64 pe,.int .i64 ps] 118));have hbn:=nb_ hwn;(have HN:Hid (Rg wn 3 (some ⟨wc.heap.size,0,none⟩) 1 1 (ints .i64 [pa,pe,ps])):=by rw[hwn];exact⟨rfl,Nat.le_refl _,fun _=>⟨_,_,rfl,by simp,Blk.range (t:=118) (l:=[pa,pe,ps]) (heap_alloc_new _ _)⟩⟩);have HOn:=hd_ (own_below hO hbn);have HBn:=tb_ HBc hbn;have hbase:=HBn.out.size;have HWn:=hd_ hwn;clear hpr hpb hO hwn hbn HO HBc
         go_wp2_with (first
          | (refine wpList_index rfl 176 (.tmp 45) (.tmp 46) rfl _ _ _ rr rr HIx.out ?_)
          | (refine wpList_load_mid rfl 118 (.tmp 53) rr pb po rr [.int .i64 pa,.int .i64 pe,.int .i64 ps] _ HRv.out underlying118 rfl (hi118 pa pe ps) ?_)
          | (at_builtin
             change wpList _ _ _ _ _ (wc.alloc (.cells #[.int .i64 pa,.int .i64 pe,.int .i64 ps] 118))
             rw[<-HWn.out]
             refine append_rg rfl (.tmp 51) (.tmp 55) 126 rfl w.heap.size 118 3 24 et126 (.slice A3 n c3) n (ints .i64 l) rfl HOn.out (some ⟨wc.heap.size,0,none⟩) 1 1 (ints .i64 [pa,pe,ps]) rfl HN.out ints_one o_ (by unfold maxLen;omega) hbase ?_
             intro A7 c7 w7 hown7 hgrow hb7 hat
             have HB7:=hd_ (HBn.out.trans hb7)
             have HO7:Hid (∃l,w7.ownsRow w.heap.size 118 3 (.slice A7 (n+1) c7) (n+1) (ints .i64 l)):=⟨l ++ [pa,pe,ps],by unfold ints at hown7 ⊢;rw[List.map_append];exact hown7⟩
             clear hown7 hgrow hb7 hat))
         exact⟨⟨j+1,n+1,A7,c7,by go_num,rfl,by omega,by omega,HO7,HB7⟩,by simp[intOf];omega⟩
     · (obtain rfl:j=8:=by omega);obtain⟨l,hO⟩:=HO.out;have HO2:=hd_ hO;clear hO HO;go_wp2_with fail;exact bodyPost_ret (v:=.slice A3 n c3) (by simp[results,results66,asAddr,Act.put]) rfl ⟨⟨A3,n,c3,l,rfl,HO2.out,hnj⟩,HBc.out⟩
end Go.Proofs.YtppjnahcnofokaaGreat.T
namespace Go.Proofs.YtppjnahcnofokaaGreat.T
open Go.RowKit Go.Proofs.YtppjnahcnofokaaGreatW.PrintLast
open Go.Proofs.YtppjnahcnofokaaGreat.B (BookAt Chg writeOf)
open Go.Proofs.Tryz
variable{k:IntKind}{a:Act}{b i n B base m fuel D B':Nat}{l ch t0:List Int}{w w' w1 w2:World}{t:TypeId}{P:Program}{cs xs vs l3:List Value}{A A':Option Addr}{o oi:Oper}{e s f st fl:Int}{ops:Array Oper}{rest l0:List Oper}{v:Value}{r:Option Nat}{rs rs2:List (Option Addr×Nat×Nat×List Int)}{E:Prop}{ad ai go:List Bool}{N:Act->Prop}{place:Nat->Option (Nat×Nat)}{bad:Bool}{es es':List (Int×List Int)}{T:List TypeId}
structure AcP where
 kd:Int
 wh:Int
 n:Int
 fr:Int
 A:Option Addr
 nA:Nat
 cA:Nat
 lA:List Int
 dr:Int
 Y:Option Addr
 nY:Nat
 cY:Nat
 lY:List Int
def acC(x:AcP):List Value:=[.int .i64 x.kd,.int .i64 x.wh,.int .i64 x.n,.int .i64 x.fr,.slice x.A x.nA x.cA,.int .i64 x.dr,.slice x.Y x.nY x.cY]
structure AcOk (w:World) (B:Nat) (x:AcP):Prop where
 ops:OpsR w x.A x.nA x.cA x.lA
 nA:x.nA<=1000
 opsLo:LowA x.A x.cA B
 byt:Rd w .u8 x.Y x.nY x.cY x.lY
 nY:x.nY<=1000000
 bytLo:LowA x.Y x.cY B
theorem AcOk.kp{x:AcP}(h:AcOk w B x)(hk:Kp T B w w'):AcOk w' B x:=by
 refine⟨⟨h.ops.len,h.ops.cap,fun h0=>?_⟩,h.nA,h.opsLo,⟨h.byt.len,h.byt.cap,fun h0=>?_⟩,h.nY,h.bytLo⟩
 · obtain⟨b,o,e,hlt,hr⟩:=h.ops.at_ h0;obtain⟨b',o',e',hlo⟩:=h.opsLo h0;rw[e]at e';(injection e' with e');(injection e' with e1 e2);subst e1;subst e2;refine⟨b,o,e,Nat.lt_of_lt_of_le hlt hk.size,fun j v hv=>?_⟩;rw[World.cell?_of_block (a:=⟨b,o+j,none⟩) (hk.low b hlo hlt)];exact hr j v hv
 obtain⟨b,o,e,hlt,hr⟩:=h.byt.at_ h0;obtain⟨b',o',e',hlo⟩:=h.bytLo h0;rw[e]at e';injection e' with e'
 injection e' with e1 e2
 subst e1;subst e2;refine⟨b,o,e,Nat.lt_of_lt_of_le hlt hk.size,fun j v hv=>?_⟩;rw[World.cell?_of_block (a:=⟨b,o+j,none⟩) (hk.low b hlo hlt)];exact hr j v hv
theorem ac_hi(x:AcP):(prog.info? 33).map (·.size)=some (acC x).length:=by show _=some 7;kernel_rfl
theorem Kp.fresh{c:Nat}(h:Kp T B w w1)(hg:w1.grownBy w2 (some c))(hc:w.heap.size<=c)(hB:B<=w.heap.size):Kp T B w w2:=
 ⟨hg.os.trans h.os,hg.tape.trans h.tape,hg.output.trans h.output,Nat.le_trans h.size hg.size,fun k hk hs=>(hg.block k (Nat.lt_of_lt_of_le hs h.size) s1_).trans (h.low k hk hs),
  fun k cs t fr hk ht=>(hg.block k (Nat.lt_of_lt_of_le (blk_lt hk) h.size) (by have:=blk_lt hk;simp;omega)).trans (h.blk k cs t fr hk ht)⟩
theorem Kp.bel(h:Kp T B w w1)(hb:Bl w1 w2):Kp T B w w2:=h.trans (Kp.of_below hb)
theorem Row.kp(h:Row w b k t n)(hk:Kp T B w w')(ht:t ∉ T):Row w' b k t n:=by
 obtain⟨l,hl,hb⟩:=h;exact⟨l,hl,(hk.blk b _ _ _ hb ht).trans hb⟩
theorem Blk.kp(h:Blk w b k t l)(hk:Kp T B w w')(ht:t ∉ T):Blk w' b k t l:=(hk.blk b _ _ _ h ht).trans h
variable{x:PyP}
theorem PyAt.chgk{g:Nat}(h:PyAt w b x g s)(h1:KeyAt w' g s)(hk:ChgK g w w'):PyAt w' b x g s:=⟨h.cel.kp (Kp.of_chgk (B:=0) h.key hk (Nat.zero_le _)) dd,h.ok,h.G,h1⟩
theorem Kp.of_chg{gb:Nat}(hb:BookAt w B gb v es st fl)(hr:r=v.ownBlock\/r=none)(h:Chg w w1 gb r):Kp [98,149] B w w1:=by
 have hrow:∀k,r=some k->B<=k/\∃(cs:Array Value) (fr:Nat×Nat),w.heap[k]? = some (Obj.cells cs 149 fr):=by
  intro k hk;rcases hr with e|e
  · exact own_block hb.own (e.symm.trans hk)
  rw[e]at hk;cases hk
 refine⟨h.os,h.tape,h.output,h.size,fun k hk hs=>h.block k hs (by have:=hb.lo;omega) (fun e=>by have:=(hrow k e.symm).1;omega),fun k cs t fr hk ht=>h.block k (blk_lt hk) (fun e=>?_) (fun e=>?_)⟩
 · subst e;rw[hb.blk]at hk;(injection hk with hk);(injection hk with _ hk);exact ht (by simp[<-hk])
 obtain⟨_,cs',fr',h'⟩:=hrow k e.symm;rw[h']at hk;injection hk with hk
 injection hk with _ hk
 exact ht (by simp[<-hk])
def WdD.tD(d:WdD)(i:Nat)(x:BkD):WdD:=⟨d.X,d.P,fun k=>if k=i then x else d.D k,d.K,d.O,d.A,d.xs,d.n⟩
variable{d:WdD}
theorem WdAt.turn{g:Nat}(h:WdAt w B g s d)(hi:i<8){v':Value}{st':Nat}{fl':Int}(hx:BookAt w' B (d.D i).g v' es' st' fl')(hs:st'<=es'.length)(r:Option Nat)(hrr:r=(d.D i).v.ownBlock\/(r=none/\v'=(d.D i).v))(hc:Chg w w' (d.D i).g r)(hr:v'.ownBlock=(d.D i).v.ownBlock\/∃k,v'.ownBlock=some k/\w.heap.size<=k): WdAt w' B g s (d.tD i ⟨(d.D i).g,v',es',st',fl'⟩)/\Kp TW B w w':=by
 have hk:=Kp.of_chg (h.D.at_ i hi).1 (hrr.imp id (·.1)) hc;obtain⟨A,c,e,ha⟩:=h.A;have hc':Chg w w' (d.D i).g (d.D i).v.ownBlock:=by
  rcases hrr with e|⟨e,_⟩
  · rw[<-e];exact hc
  rw[e]at hc;exact⟨hc.os,hc.tape,hc.output,hc.size,fun k h1 h2 _=>hc.block k h1 h2 s_⟩
 refine⟨⟨h.lo,h.cel.kp hk dd,fun k hk'=>(h.X k hk').kp hk dd dd,fun k hk'=>?_,h.D.turn hi hx hs rfl hc' (hr.imp id .inr),h.O.kp hk dd dd,⟨A,c,e,ha.kp hk dd⟩⟩,hk.mono dd⟩;show d.K k=.pointer (some ⟨((if k=i then (⟨(d.D i).g,v',es',st',fl'⟩:BkD) else d.D k):BkD).g,0,none⟩);by_cases e:k=i
 · rw[if_pos e,e];exact h.K i hi
 rw[if_neg e];exact h.K k hk'
theorem write_grows{x:Int}{q:List Int}{code:Int}(h:writeOf es x q=(code,es')):∃t,es'=es++t:=by
 unfold writeOf at h;(repeat' split at h)<;>(obtain⟨_,rfl⟩:=Prod.mk.inj h)<;>first|exact⟨[],(List.append_nil _).symm⟩|exact⟨_,rfl⟩
theorem StR.via{g who:Nat}{d1:WdD}{r:Ending}(hk:Kp TW B w w1)(hX:d1.X=d.X)(hl:d1.xs.length<=d.xs.length)(h:StR B g s who d1 w1 r w2):StR B g s who d w r w2:=by
 obtain⟨he,d',h1,h2,h3,h4⟩:=h;exact⟨he,d',h1,hk.trans h2,⟨fun k hk hne=>by rw[h3.oth k hk hne,hX],fun x x' hx hx'=>h3.own x x' (by rw[hX];exact hx) hx'⟩,by omega⟩
theorem et68:ET 68 125 35 56:=et_of (z:=.agg (apC (zl,0,0,0)).toArray) underlying68 kk kk dd
theorem built125(parts:List (Nat×Value)):prog.built 125 parts=Instr.fill (#[(0,32),(32,3)][·]?) (apC (zl,0,0,0)).toArray parts:=by kernel_rfl
theorem run_build125(p:List Int)(a e s:Int)(h:p.length=32)(w:World):(Instr.build 125 #[(0,.agg (ints .u8 p).toArray),(1,.agg #[.int .i64 a,.int .i64 e,.int .i64 s])]).run prog w=.ok (.agg (apC (p,a,e,s)).toArray) w:=by
 refine run_build w 125 _ _ ?_;rw[built125];have e0:apC (zl,0,0,0)=[]++ints .u8 zl++ints .i64 [0,0,0]:=rfl;have e1:([]:List Value)++ints .u8 p++ints .i64 [0,0,0]=ints .u8 p++ints .i64 [0,0,0] ++ []:=by simp
 rw[e0,fill_splice (l1:=[]) (l0:=ints .u8 zl) (vs:=ints .u8 p) (off:=0) (size:=32) rfl rfl rfl (by rw[ints_len,h]) (by rw[ints_len,ints_len,h];rfl),e1,
  fill_splice (l1:=ints .u8 p) (l0:=ints .i64 [0,0,0]) (vs:=ints .i64 [a,e,s]) (off:=32) (size:=3) rfl rfl (by rw[ints_len,h]) rfl rfl]
 simp[Instr.fill,apC,ints]
theorem step_bs125{K:Act->World->Prop}{Q:Exit->Act->World->Prop}(hgd:o.guard=none)(X:Operand)(ho:o.op=.buildSlice 68 1 #[(0,X)])(x:List Int×Int×Int×Int)(hz:(apC x).length=35)(hx:a.eval X=.agg (apC x).toArray)(h:K (a.put o.dst (.slice (some ⟨w.heap.size,0,none⟩) 1 1)) (w.alloc (.cells (apC x).toArray 125))):if Region.wanted o (yielded ops a.tmps)=true then Oper.wp prog o a w K Q else E:=by
 have hw:Region.wanted o (yielded ops a.tmps)=true:=by simp[Region.wanted,hgd]
 rw[if_pos hw];obtain⟨ht,i,z0,hi,hz0,hsz,hby,hzs,hp⟩:=et68;refine wp_buildSlice 68 125 1 #[(0,X)] ho (apC x).toArray i z0 ht hi hz0 (by rw[hsz];decide) (by rw[hsz];decide) ?_ h;rw[hsz];simp only[List.map_toArray,List.map_cons,List.map_nil,hx];obtain⟨l0,hl0⟩:∃l0:List Value,((Array.range (1*35)).map (z0.cells[· % z0.cells.size]!))=l0.toArray:=⟨_,(Array.toArray_toList).symm⟩;rw[hl0];refine fill_one _ 35 l0 ?_ hz;have:=congrArg Array.size hl0;simpa using this.symm
end Go.Proofs.YtppjnahcnofokaaGreat.T
namespace Go.Proofs.YtppjnahcnofokaaGreat.T
open Go.RowKit Go.Proofs.YtppjnahcnofokaaGreatW.PrintLast
open Go.Proofs.YtppjnahcnofokaaGreat.B (BookAt Chg writeOf write_calls flush_calls crash_calls)
open Go.Proofs.Tryz
variable{k:IntKind}{a:Act}{b i n B base m fuel D B':Nat}{l ch t0:List Int}{w w' w1 w2:World}{t:TypeId}{P:Program}{cs xs vs l3:List Value}{A A':Option Addr}{o oi:Oper}{e s f st fl:Int}{ops:Array Oper}{rest l0:List Oper}{v:Value}{r:Option Nat}{rs rs2:List (Option Addr×Nat×Nat×List Int)}{E:Prop}{ad ai go:List Bool}{N:Act->Prop}{place:Nat->Option (Nat×Nat)}{bad:Bool}{es es':List (Int×List Int)}{T:List TypeId}
variable{d:WdD}
theorem WdAt.app{g:Nat}(h:WdAt w B g s d)(hk:Kp [125] B w w'){c:Nat}{xs:List (List Int×Int×Int×Int)}(hA:Aps w' B (.slice A xs.length c) xs.length xs): WdAt (w'.setCell ⟨g,19,none⟩ (.slice A xs.length c)) B g s (d.sA (.slice A xs.length c) xs)/\Kp TW B w (w'.setCell ⟨g,19,none⟩ (.slice A xs.length c)):=by
 have hc:=h.cel.kp hk dd;have hk2:Kp [74] B w' (w'.setCell ⟨g,19,none⟩ (.slice A xs.length c)):=Kp.of_grown hc (grownBy_set1 _ _ _ _) h.lo;refine⟨⟨h.lo,by rw[<-wd_set_A];exact hc.set 19 _,fun i hi=>((h.X i hi).kp hk dd dd).kp hk2 dd dd,h.K,(h.D.kp hk dd dd).kp hk2 dd dd,(h.O.kp hk dd dd).kp hk2 dd dd,⟨A,c,rfl,hA.kp hk2 dd⟩⟩,(hk.mono dd).trans (hk2.mono dd)⟩
theorem crash_n(s m:Nat)(keep:Int)(h:s<=m):∃n:Nat,(n:Int)=s+min (max keep 0) (m-s)/\n<=m:=by
 refine⟨(s+min (max keep 0) ((m:Int)-s)).toNat,?_,?_⟩
 · rw[Int.toNat_of_nonneg o_]
 omega
theorem votes_any(w:World)(B g:Nat)(d:WdD)(h:WdAt w B g 1 d)(x:AcP)(i:Nat)(hi:i<8)(hw:x.wh=i)(hx:AcOk w B x)(hm:d.xs.length<=1000):Calls prog 42 #[.pointer (some ⟨g,0,none⟩),.agg (acC x).toArray] w (StR B g 1 i d w):=by
 obtain⟨w1,hW⟩:=ex_ (w.alloc (.cells (acC x).toArray 33));have hb1:=nb_ hW;have HA1:Hid (Cel w1 w.heap.size 33 (acC x)):=by rw[hW];exact Cel.new _ rfl rfl
 have H1:=hd_ (h.below hb1);have HK1:Hid (Kp TW B w w1):=Kp.of_below hb1;have HX0:=hd_ hx;have HI:=hd_ hi;have HWh:=hd_ hw;have hii:(i:Int)<8:=by omega
 have HB0:Hid (B<=w.heap.size):=Nat.le_trans h.lo (Nat.le_of_lt h.lt);have hP:=h.X i hi;have HW:=hd_ hW;have hbb1:=hd_ hb1;clear hW h hx hw hi hb1;rcases hP with⟨e1,e2⟩|⟨b,p,gk,sk,e1,e2,hp,hgk⟩
 · (go_enter func42,ntmps42);go_wp2_with fail;refine pr_ 0 8 (bt 8 0) fun w1d hw1d=>?_;refine mG ?_;(have hd:w1.drew=w1d:=by rw[HW.out];exact hw1d);(have HA2:Hid (Cel w1d w.heap.size 33 (acC x)):=by rw[<-hd];exact HA1.out.drew);(have H2:Hid (WdAt w1d B g 1 d):=by rw[<-hd];exact H1.out.below (Below.refl _ _).drew);(have HK2:Hid (Kp TW B w w1d):=by rw[<-hd];exact HK1.out.bel (Below.refl _ _).drew);have hH:(fun w'=>w'.cell? ⟨w.heap.size,1,none⟩=some (.int .i64 i)/\w'.cell? ⟨g,2+i,none⟩=some (.pointer none)) w1d:=⟨(HA2.out.cell 1).trans (by show some (Value.int .i64 x.wh)=_;rw[HWh.out]),(H2.out.cel.cell (2+i)).trans ((wd_P HI.out).trans (by rw[e1]))⟩;clear hd hw1d HA1 H1 HK1 HW;refine wpAny_of_last (S:=fun w'=>w'.cell? ⟨w.heap.size,1,none⟩=some (.int .i64 i)/\w'.cell? ⟨g,2+i,none⟩=some (.pointer none)) (ds:=[7]) _ _ _ _ ?_;refine ts_ 0 7 1 (bt 8 127) hH ?_;refine mT2 ?_;refine tl_ 7 ?_;refine mF ?_;clear hH;go_wp2_with fail;exact bodyPost_ret (v:=.int .i64 13) (by simp[results,results42,asAddr,Act.put]) rfl (StR.same H2.out HK2.out)
 have HPy1:=hd_ (hp.below hbb1.out);have HGk:=hd_ hgk.1;have E2:=hd_ e2;clear hp hgk e2 hbb1;go_enter func42,ntmps42
 go_wp2_with fail;refine pr_ 0 8 (bt 8 0) fun w1d hw1d=>?_;refine mG ?_;have hd:w1.drew=w1d:=by rw[HW.out];exact hw1d
 have HA2:Hid (Cel w1d w.heap.size 33 (acC x)):=by rw[<-hd];exact HA1.out.drew
 have H2:Hid (WdAt w1d B g 1 d):=by rw[<-hd];exact H1.out.below (Below.refl _ _).drew
 have HK2:Hid (Kp TW B w w1d):=by rw[<-hd];exact HK1.out.bel (Below.refl _ _).drew
 have HPy2:Hid (PyAt w1d b p gk sk):=by rw[<-hd];exact HPy1.out.below (Below.refl _ _).drew
 have hH:(fun w'=>w'.cell? ⟨w.heap.size,1,none⟩=some (.int .i64 i)/\w'.cell? ⟨g,2+i,none⟩=some (.pointer (some ⟨b,0,none⟩))) w1d:=⟨(HA2.out.cell 1).trans (by show some (Value.int .i64 x.wh)=_;rw[HWh.out]),(H2.out.cel.cell (2+i)).trans ((wd_P HI.out).trans (by rw[e1]))⟩;clear hd hw1d HA1 H1 HK1 HW HPy1;refine wpAny_of_last (S:=fun w'=>w'.cell? ⟨w.heap.size,1,none⟩=some (.int .i64 i)/\w'.cell? ⟨g,2+i,none⟩=some (.pointer (some ⟨b,0,none⟩))) (ds:=[7]) _ _ _ _ ?_;refine ts_ 0 7 1 (bt 8 127) hH ?_;refine mT2 ?_;refine tl_ 7 ?_;refine mF ?_;clear hH;go_wp2_with fail;refine(view_p_any b p w1d HPy2.out.cel HPy2.out.ok).mono ?_;rintro _ w3 ⟨rfl,hb⟩;have HA3:=hd_ (HA2.out.below hb HA2.out.lt);have H3:=hd_ (H2.out.below hb);have HK3:Hid (Kp TW B w w3):=HK2.out.bel hb;have HPy3:=hd_ (HPy2.out.below hb);have HV3:Hid (Cel (w3.alloc (.cells zvw.toArray 45)) w3.heap.size 45 zvw):=Cel.new _ rfl rfl;have HVw:=hd_ (HPy2.out.ok.vw);clear hb HA2 H2 HK2 HPy2
 go_wp2_with (first
  | (change wpList _ _ _ _ _ (w3.alloc (.cells zvw.toArray 45))
     refine store_cel rfl 45 (.tmp 6) (.tmp 22) rr w3.heap.size 0 45 [] zvw [] (vw p.e p.t p.ad p.k p.ch) rr rr (by simpa using HV3.out) rfl (by rw[show zvw.length=73 from vw_len zvOk,vw_len HVw.out]) (vw_hi HVw.out) (all_oneCell_toArray (vw_all _ _ _ _ _)) ?_
     intro w4 hS hG
     have hbb:=below_new rfl hG
     have HV4:Hid (Cel w4 w3.heap.size 45 (vw p.e p.t p.ad p.k p.ch)):=hd_ (by simpa using hS)
     have HA4:=hd_ (HA3.out.below hbb HA3.out.lt)
     have H4:=hd_ (H3.out.below hbb)
     have HK4:Hid (Kp TW B w w4):=HK3.out.bel hbb
     have HPy4:=hd_ (HPy3.out.below hbb)
     clear hS hG hbb HA3 H3 HK3 HPy3 HV3))
 obtain⟨b6,hb6⟩:=ex_ (w3.heap.size);rw[<-hb6]at HV4 ⊢;clear hb6;refine pr_ 0 16 (bt 16 0) fun w1d hw1d=>?_;refine mG ?_;have HA:Hid (Cel w1d w.heap.size 33 (acC x)):=by rw[<-hw1d];exact HA4.out.drew
 have HV:Hid (Cel w1d b6 45 (vw p.e p.t p.ad p.k p.ch)):=by rw[<-hw1d];exact HV4.out.drew
 have H:Hid (WdAt w1d B g 1 d):=by rw[<-hw1d];exact H4.out.below (Below.refl _ _).drew
 have HPy:Hid (PyAt w1d b p gk sk):=by rw[<-hw1d];exact HPy4.out.below (Below.refl _ _).drew
 have HK:Hid (Kp TW B w w1d):=by rw[<-hw1d];exact HK4.out.bel (Below.refl _ _).drew
 clear hw1d HA4 HV4 H4 HPy4 HK4;refine wpAny_of_last (S:=fun w'=>w'.cell? ⟨w.heap.size,3,none⟩=some (.int .i64 x.fr)/\w'.cell? ⟨w.heap.size,4,none⟩=some (.slice x.A x.nA x.cA)/\Hid (Cel w' b6 45 (vw p.e p.t p.ad p.k p.ch))) (ds:=[14,15]) _ _ _ _ ?_;have hH:(fun w'=>w'.cell? ⟨w.heap.size,3,none⟩=some (.int .i64 x.fr)/\w'.cell? ⟨w.heap.size,4,none⟩=some (.slice x.A x.nA x.cA)/\Hid (Cel w' b6 45 (vw p.e p.t p.ad p.k p.ch))) w1d:=⟨(HA.out.cell 3).trans rfl,(HA.out.cell 4).trans rfl,HV⟩;refine ts_ 0 2 14 (bt 16 3) hH ?_;refine mD ?_;repeat (first|(refine tk_ 45 (.tmp 6) b6 0 (vw p.e p.t p.ad p.k p.ch) (fun _ h=>h.2.2.out.all) underlying45 rfl (vw_hi HVw.out) ?_)|(refine uA ?_)|(refine mB3 ?_))
 refine takes_nil ?_;refine ts_ 3 1 13 (bt 16 11) hH ?_;refine mD ?_;repeat (first|(refine tk_ 45 (.tmp 6) b6 0 (vw p.e p.t p.ad p.k p.ch) (fun _ h=>h.2.2.out.all) underlying45 rfl (vw_hi HVw.out) ?_)|(refine uA ?_)|(refine mB3 ?_))
 refine takes_nil ?_;refine ts_ 5 4 9 (bt 16 491) hH ?_;refine mD ?_;repeat (first|(refine tk_ 45 (.tmp 6) b6 0 (vw p.e p.t p.ad p.k p.ch) (fun _ h=>h.2.2.out.all) underlying45 rfl (vw_hi HVw.out) ?_)|(refine uA ?_)|(refine mB3 ?_))
 refine takes_nil ?_;clear hH;refine join_ (σ:=Int×Int×Int×Int×Nat) 2 (bt 16 16383) (fun s=>match s with|(va,vE,vS,z,b13)=>[(26,.int .i64 p.lf),(28,.pointer (some ⟨gk,0,none⟩)),(33,.tuple #[.agg #[.int .i64 va,.int .i64 vE,.int .i64 vS],.int .i64 z]),(23,.tuple #[.agg #[.int .i64 va,.int .i64 vE,.int .i64 vS],.int .i64 z]),(34,.agg #[.int .i64 va,.int .i64 vE,.int .i64 vS]),(35,.int .i64 z),(7,.pointer (some ⟨b13,0,none⟩))]) (fun s w'=>match s with|(va,vE,vS,z,b13)=>Hid (WdAt w' B g 1 d)/\Hid (Cel w' w.heap.size 33 (acC x))/\Hid (Cel w' b6 45 (vw p.e p.t p.ad p.k p.ch))/\Hid (PyAt w' b p gk sk)/\Hid (Kp TW B w w')/\Hid (z=0->0<=va/\va<8)/\Hid (Row w' b13 .i64 118 3)/\Hid (w.heap.size<b13)) ?_ (fun st0=>?_)
 · rintro⟨va,vE,vS,z,b13⟩ wc ⟨H,HA,HV,HPy,HK,HZ,HT,HTb⟩;refine mE ?_;have hH:=trivial;refine tl_ 14 ?_;refine mF ?_;clear hH;have htb:=HTb.out;by_cases hz:z=0;rotate_left
   · go_wp2_with (first
      | (refine store_blk rfl 118 (.tmp 7) (.tmp 34) rr b13 .i64 [va,vE,vS] rr rr HT.out rfl info118 ?_
         intro w6 hS hG
         have HT6:Hid (Blk w6 b13 .i64 118 [va,vE,vS]):=hS
         obtain⟨l0,hl0,hT0⟩:=HT.out
         have hkp:Kp [118] B wc w6:=Kp.of_grown hT0 hG (by have:=HB0.out;omega)
         have H6:=hd_ (H.out.kp hkp (by rintro _ (rfl|rfl|rfl|rfl|rfl|rfl|rfl|rfl)<;>decide))
         have HA6:=hd_ (HA.out.kp hkp dd)
         have k3:w6.cell? ⟨w.heap.size,3,none⟩=some (.int .i64 x.fr):=(HA6.out.cell 3).trans rfl
         have k4:w6.cell? ⟨w.heap.size,4,none⟩=some (.slice x.A x.nA x.cA):=(HA6.out.cell 4).trans rfl
         have HV6:=hd_ (HV.out.kp hkp dd)
         have HK6:Hid (Kp TW B w w6):=HK.out.fresh hG o_ HB0.out
         clear hS hG hkp hl0 hT0 H HA HV HK HT HPy))
     exact bodyPost_ret (v:=.int .i64 z) (by simp[results,results42,asAddr,Act.put]) rfl (StR.same H6.out HK6.out)
   subst hz;have HVa:=hd_ (HZ.out rfl)
   go_wp2_with (first
    | (refine store_blk rfl 118 (.tmp 7) (.tmp 34) rr b13 .i64 [va,vE,vS] rr rr HT.out rfl info118 ?_
       intro w6 hS hG
       have HT6:Hid (Blk w6 b13 .i64 118 [va,vE,vS]):=hS
       obtain⟨l0,hl0,hT0⟩:=HT.out
       have hkp:Kp [118] B wc w6:=Kp.of_grown hT0 hG (by have:=HB0.out;omega)
       have H6:=hd_ (H.out.kp hkp (by rintro _ (rfl|rfl|rfl|rfl|rfl|rfl|rfl|rfl)<;>decide))
       have HA6:=hd_ (HA.out.kp hkp dd)
       have k3:w6.cell? ⟨w.heap.size,3,none⟩=some (.int .i64 x.fr):=(HA6.out.cell 3).trans rfl
       have k4:w6.cell? ⟨w.heap.size,4,none⟩=some (.slice x.A x.nA x.cA):=(HA6.out.cell 4).trans rfl
       have HV6:=hd_ (HV.out.kp hkp dd)
       have HK6:Hid (Kp TW B w w6):=HK.out.fresh hG o_ HB0.out
       clear hS hG hkp hl0 hT0 H HA HV HK HT HPy)
    | (refine wpList_load_mid rfl 45 (.tmp 6) rr b6 0 rr (vw p.e p.t p.ad p.k p.ch) _ HV6.out.all underlying45 rfl (vw_hi HVw.out) ?_))
   refine(paper_any p.e p.k x.fr p.t p.ch p.ad x.A x.nA x.cA x.lA w6 HVw.out (HX0.out.kp HK6.out).ops HX0.out.nA).mono ?_;rintro _ w7 ⟨⟨lp,hlp,rfl⟩,hb⟩;have HLp:=hd_ hlp;have H7:=hd_ (H6.out.below hb);have HA7:=hd_ (HA6.out.below hb HA6.out.lt);have HV7:=hd_ (HV6.out.below hb HV6.out.lt);have HT7:=hd_ (HT6.out.below hb HT6.out.lt);have HK7:Hid (Kp TW B w w7):=HK6.out.bel hb;have HZ7:Hid (Row (w7.alloc (.cells (ints .u8 zl).toArray 43)) w7.heap.size .u8 43 32):=Row.new zl _ rfl rfl;clear hb hlp H6 HA6 HV6 HT6 HK6
   go_wp2_with (refine store_blk rfl 43 (.tmp 9) (.tmp 44) rr w7.heap.size .u8 lp rr rr HZ7.out HLp.out (by show _=_;rw[HLp.out];exact info43) ?_
                intro w8 hS hG
                have hbb:=below_new rfl hG
                have HP8:Hid (Blk w8 w7.heap.size .u8 43 lp):=hS
                have H8:=hd_ (H7.out.below hbb)
                have HA8:=hd_ (HA7.out.below hbb HA7.out.lt)
                have HV8:=hd_ (HV7.out.below hbb HV7.out.lt)
                have HT8:=hd_ (HT7.out.below hbb HT7.out.lt)
                have HK8:Hid (Kp TW B w w8):=HK7.out.bel hbb
                clear hS hG hbb H7 HA7 HV7 HT7 HK7 HZ7)
   obtain⟨b9,hb9⟩:=ex_ (w7.heap.size);rw[<-hb9]at HP8 ⊢;clear hb9;refine pr_ 0 8 (bt 8 0) fun w1d hw1d=>?_;refine mG ?_;(have HP9:Hid (Blk w1d b9 .u8 43 lp):=by rw[<-hw1d];exact HP8.out.drew);(have HA9:Hid (Cel w1d w.heap.size 33 (acC x)):=by rw[<-hw1d];exact HA8.out.drew);(have HV9:Hid (Cel w1d b6 45 (vw p.e p.t p.ad p.k p.ch)):=by rw[<-hw1d];exact HV8.out.drew);(have HT9:Hid (Blk w1d b13 .i64 118 [va,vE,vS]):=by rw[<-hw1d];exact HT8.out.drew);(have H9:Hid (WdAt w1d B g 1 d):=by rw[<-hw1d];exact H8.out.below (Below.refl _ _).drew);(have HK9:Hid (Kp TW B w w1d):=by rw[<-hw1d];exact HK8.out.bel (Below.refl _ _).drew);have hH:(fun w'=>w'.cell? ⟨w.heap.size,1,none⟩=some (.int .i64 i)/\w'.cell? ⟨g,10+i,none⟩=some (.pointer (some ⟨(d.D i).g,0,none⟩))) w1d:=⟨(HA9.out.cell 1).trans (by show some (Value.int .i64 x.wh)=_;rw[HWh.out]),(H9.out.cel.cell (10+i)).trans ((wd_K HI.out).trans (by rw[H9.out.K i HI.out]))⟩;clear hw1d HP8 HA8 HV8 HT8 H8 HK8;refine wpAny_of_last (S:=fun w'=>w'.cell? ⟨w.heap.size,1,none⟩=some (.int .i64 i)/\w'.cell? ⟨g,10+i,none⟩=some (.pointer (some ⟨(d.D i).g,0,none⟩))) (ds:=[7]) _ _ _ _ ?_;refine ts_ 0 7 1 (bt 8 127) hH ?_;refine mT2 ?_;refine tl_ 7 ?_;refine mF ?_;clear hH;have kv0:w1d.cell? ⟨b6,0,none⟩=some (.int .i64 p.e):=(HV9.out.cell 0).trans rfl;go_wp2_with (refine wpList_load_mid rfl 43 (.tmp 9) rr b9 0 rr (ints .u8 lp) _ HP9.out.range underlying43 rfl (hi43 HLp.out).out ?_);clear kv0;obtain⟨code,es',hwo⟩:∃code es',writeOf (d.D i).es p.e lp=(code,es'):=⟨_,_,rfl⟩;refine(write_calls B (d.D i).g (d.D i).v (d.D i).es (d.D i).st (d.D i).fl p.e lp w1d HLp.out (Nat.le_trans HB0.out HK9.out.size) (H9.out.D.at_ i HI.out).1 code es' hwo).mono ?_;rintro _ wa ⟨rfl,v',hba,hch,hrw⟩;(have hstl:(d.D i).st<=es'.length:=by obtain⟨t,ht⟩:=write_grows hwo;have:=(H9.out.D.at_ i HI.out).2;rw[ht,List.length_append];omega);have hkb:=Kp.of_chg (H9.out.D.at_ i HI.out).1 (.inl rfl) hch;have hturn:=H9.out.turn HI.out hba hstl _ (.inl rfl) hch hrw;obtain⟨d1,hd1⟩:=ex_ (d.tD i ⟨(d.D i).g,v',es',(d.D i).st,(d.D i).fl⟩);(have Ha:Hid (WdAt wa B g 1 d1):=by rw[hd1];exact hturn.1);(have HD1:Hid (d1.X=d.X/\d1.xs=d.xs/\d1.D i=⟨(d.D i).g,v',es',(d.D i).st,(d.D i).fl⟩):=by rw[hd1];refine⟨rfl,rfl,?_⟩;show(if i=i then _ else _)=_;rw[if_pos rfl]);have HKa:Hid (Kp TW B w wa):=HK9.out.trans (hkb.mono dd);have HPa:=hd_ (HP9.out.kp hkb dd);have HAa:=hd_ (HA9.out.kp hkb dd);have HTa:=hd_ (HT9.out.kp hkb dd);clear hba hch hrw hstl hkb hturn hd1 hwo H9 HK9 HP9 HA9 HT9 HV9;by_cases hco:code=0;rotate_left;(· go_wp2_with fail;exact bodyPost_ret (v:=.int .i64 code) (by simp[results,results42,asAddr,Act.put]) rfl (StR.via HKa.out HD1.out.1 (by rw[HD1.out.2.1];exact Nat.le_refl _) (StR.same Ha.out (Kp.refl _ _ _))));subst hco;have kn:wa.cell? ⟨w.heap.size,2,none⟩=some (.int .i64 x.n):=(HAa.out.cell 2).trans rfl;by_cases hn1:x.n=1;(· rw[hn1]at kn;go_wp2_with fail;refine pr_ 0 11 (bt 11 0) fun w1d hw1d=>?_;refine mG ?_;(have HAb:Hid (Cel w1d w.heap.size 33 (acC x)):=by rw[<-hw1d];exact HAa.out.drew);(have Hb:Hid (WdAt w1d B g 1 d1):=by rw[<-hw1d];exact Ha.out.below (Below.refl _ _).drew);(have HKb:Hid (Kp TW B w w1d):=by rw[<-hw1d];exact HKa.out.bel (Below.refl _ _).drew);have hH:(fun w'=>w'.cell? ⟨w.heap.size,1,none⟩=some (.int .i64 i)/\w'.cell? ⟨w.heap.size,5,none⟩=some (.int .i64 x.dr)) w1d:=⟨(HAb.out.cell 1).trans (by show some (Value.int .i64 x.wh)=_;rw[HWh.out]),(HAb.out.cell 5).trans rfl⟩;clear hw1d HAa Ha HKa HPa HTa kn;refine wpAny_of_last (S:=fun w'=>w'.cell? ⟨w.heap.size,1,none⟩=some (.int .i64 i)/\w'.cell? ⟨w.heap.size,5,none⟩=some (.int .i64 x.dr)) (ds:=[10]) _ _ _ _ ?_;refine ts_ 0 6 5 (bt 11 63) hH ?_;refine mT2 ?_;refine ts_ 7 2 3 (bt 11 447) hH ?_;refine mT2 ?_;refine one_ (i:=6) (N:=some 69) (bt 11 511) rfl rfl kk dd (fun K hK=>?_);refine goes_ func45 kk rfl #[.pointer (some ⟨(d.D i).g,0,none⟩),.int .i64 x.dr] rr rfl rfl mL ?_;obtain⟨hbk,hst⟩:=Hb.out.D.at_ i HI.out;obtain⟨n,hn,hnl⟩:=crash_n (d1.D i).st (d1.D i).es.length x.dr hst;(have hgi:(d1.D i).g=(d.D i).g:=by rw[HD1.out.2.2]);rw[<-hgi];refine(crash_calls B (d1.D i).g (d1.D i).v (d1.D i).es (d1.D i).st (d1.D i).fl x.dr _ hbk hst n hn).mono ?_;rintro _ wc ⟨g2,v2,rfl,hb2,hb⟩;refine⟨_,rfl,?_⟩;have HB2:=hd_ hb2;have Hc:=hd_ (Hb.out.below hb);have HKc:Hid (Kp TW B w wc):=HKb.out.bel hb;have HSz:Hid (B<=w1d.heap.size):=Nat.le_trans HB0.out HKb.out.size;have HNl:=hd_ hnl;have HAc:=hd_ (HAb.out.below hb HAb.out.lt);refine hK.out _ _ ⟨(HAc.out.cell 1).trans (by show some (Value.int .i64 x.wh)=_;rw[HWh.out]),(HAc.out.cell 5).trans rfl⟩ (fun hH=>?_);have HOld:Hid (∀k,k<8->(d1.D k).g<w1d.heap.size/\∀r,(d1.D k).v.ownBlock=some r->r<w1d.heap.size):=fun k hk=>⟨(Hb.out.D.at_ k hk).1.lt,fun r hr=>((Hb.out.D.at_ k hk).1.own.lt r hr).2⟩;clear hK K hb hb2 hn hnl hgi hbk hst Hb HKb HAb;refine mN ?_;refine ts_ 9 1 1 (bt 11 1023) hH ?_;refine mT2 ?_;refine tl_ 10 ?_;refine mF ?_;clear hH;have hD2:=Hc.out.D.swap HI.out (x:=⟨g2,v2,(d1.D i).es.take n,n,0⟩) (m:=w1d.heap.size) (bookAt_base HB2.out HSz.out) (by show n<=((d1.D i).es.take n).length;rw[List.length_take];have:=HNl.out;omega) HB2.out.lo (fun k hk=>(HB2.out.own.lt k hk).1) HOld.out;have kK:wc.cell? ⟨g,10+i,none⟩=some (d1.K i):=(Hc.out.cel.cell (10+i)).trans (wd_K HI.out);have fK:=Hc.out.frozen (10+i);have H9f:=hd_ (Hc.out.put_K HI.out hD2);have HKf:Hid (Kp TW B wc (wc.setCell ⟨g,10+i,none⟩ (.pointer (some ⟨g2,0,none⟩)))):=Hc.out.kTW _ _;clear hD2;go_wp2_with fail;exact bodyPost_ret (v:=.int .i64 0) (by simp[results,results42,asAddr,Act.put]) rfl (StR.via HKc.out HD1.out.1 (by rw[HD1.out.2.1];exact Nat.le_refl _) ⟨⟨0,rfl⟩,_,H9f.out,HKf.out,Rel.of_X rfl,Nat.le_succ _⟩));go_wp2_with fail;(have hgi:(d1.D i).g=(d.D i).g:=by rw[HD1.out.2.2]);rw[<-hgi];refine(flush_calls B (d1.D i).g (d1.D i).v (d1.D i).es (d1.D i).st (d1.D i).fl wa (Ha.out.D.at_ i HI.out).1).mono ?_;rintro _ we ⟨rfl,hbe,hce⟩;have hkb:=Kp.of_chg (Ha.out.D.at_ i HI.out).1 (.inr rfl) hce;have hturn:=Ha.out.turn HI.out hbe (Nat.le_refl _) none (.inr ⟨rfl,rfl⟩) hce (.inl rfl);obtain⟨d2,hd2⟩:=ex_ (d1.tD i ⟨(d1.D i).g,(d1.D i).v,(d1.D i).es,(d1.D i).es.length,wrap64 ((d1.D i).fl+1)⟩);(have He:Hid (WdAt we B g 1 d2):=by rw[hd2];exact hturn.1);(have HD2:Hid (d2.X=d.X/\d2.xs=d.xs):=by rw[hd2];exact⟨HD1.out.1,HD1.out.2.1⟩);have HKe:Hid (Kp TW B w we):=HKa.out.trans (hkb.mono dd);have HPe:=hd_ (HPa.out.kp hkb dd);have HTe:=hd_ (HTa.out.kp hkb dd);clear hbe hce hkb hturn hd2 hgi Ha HKa HPa HTa HAa kn HD1;obtain⟨AA,cA,eA,hAp⟩:=He.out.A;obtain⟨m,hmm⟩:=ex_ (d2.xs.length);(have hm2:m<=1000:=by rw[hmm,HD2.out.2];exact hm);have HMm:=hd_ hmm;(have HAp:Hid (Aps we B (.slice AA m cA) m d2.xs):=by rw[hmm,<- eA];exact hAp);(have EA:Hid (d2.A=.slice AA m cA):=by rw[hmm];exact eA);clear eA hAp hmm;go_wp2_with fail;refine pr_ 0 13 (bt 13 0) fun w1d hw1d=>?_;refine mG ?_;(have HPf:Hid (Blk w1d b9 .u8 43 lp):=by rw[<-hw1d];exact HPe.out.drew);(have HTf:Hid (Blk w1d b13 .i64 118 [va,vE,vS]):=by rw[<-hw1d];exact HTe.out.drew);(have Hf:Hid (WdAt w1d B g 1 d2):=by rw[<-hw1d];exact He.out.below (Below.refl _ _).drew);(have HKf:Hid (Kp TW B w w1d):=by rw[<-hw1d];exact HKe.out.bel (Below.refl _ _).drew);(have HApf:Hid (Aps w1d B (.slice AA m cA) m d2.xs):=by rw[<-hw1d];exact HAp.out.kp (Kp.of_below (T:=[]) (B:=0) (Below.refl _ _).drew) dd);have hH:(fun w'=>w'.cell? ⟨g,19,none⟩=some (.slice AA m cA)/\Hid (Blk w' b9 .u8 43 lp)/\Hid (Blk w' b13 .i64 118 [va,vE,vS])) w1d:=⟨(Hf.out.cel.cell 19).trans (wd_A.trans (by rw[EA.out])),HPf,HTf⟩;clear hw1d HPe HTe He HKe HAp;refine wpAny_of_last (S:=fun w'=>w'.cell? ⟨g,19,none⟩=some (.slice AA m cA)/\Hid (Blk w' b9 .u8 43 lp)/\Hid (Blk w' b13 .i64 118 [va,vE,vS])) (ds:=[12]) _ _ _ _ ?_;refine ts_ 0 7 6 (bt 13 127) hH ?_;refine mD ?_;(repeat (first|(refine tk_ 43 (.tmp 9) b9 0 (ints .u8 lp) (fun _ h=>h.2.1.out.range) underlying43 rfl (hi43 HLp.out).out ?_)|(refine tk_ 118 (.tmp 7) b13 0 (ints .i64 [va,vE,vS]) (fun _ h=>h.2.2.out.range) underlying118 rfl info118 ?_)|(refine uA ?_)|(refine mB3 ?_)));refine takes_nil ?_;refine one_ (i:=7) (N:=some 82) (bt 13 255) rfl rfl kk dd (fun K hK=>?_);refine step_build rfl 125 _ rfl #[(0,.agg (ints .u8 lp).toArray),(1,.agg #[.int .i64 va,.int .i64 vE,.int .i64 vS])] (by simp only[List.map_toArray,List.map_cons,List.map_nil];rfl) _ (run_build125 lp va vE vS HLp.out w1d) ?_;refine hK.out _ _ hH (fun hH=>?_);clear hK K;refine norm_ (a':=?_) ?_ ?_;rotate_left;(· show Act.put _ (some 82) _=_;simp only[Act.put,List.setIfInBounds_toArray,List.set_cons_zero,List.set_cons_succ];rfl);refine one_ (i:=8) (N:=some 83) (bt 13 511) rfl rfl kk dd (fun K hK=>?_);refine step_bs125 rfl (.tmp 82) rfl (lp,va,vE,vS) (apC_len HLp.out) rr ?_;obtain⟨wn,hwn⟩:=ex_ (w1d.alloc (.cells (apC (lp,va,vE,vS)).toArray 125));have hb:=nb_ hwn;(have HN:Hid (Rg wn 35 (some ⟨w1d.heap.size,0,none⟩) 1 1 (apC (lp,va,vE,vS))):=by rw[hwn];exact⟨apC_len HLp.out,Nat.le_refl _,fun _=>⟨_,_,rfl,by simp,(Cel.new (apC (lp,va,vE,vS)) rfl rfl).all⟩⟩);have Hg:=hd_ (Hf.out.below hb);have HKg:Hid (Kp TW B w wn):=HKf.out.bel hb;have HApg:=hd_ (HApf.out.kp (Kp.of_below (T:=[]) (B:=0) hb) dd);have HSz:Hid (B<=wn.heap.size):=Nat.le_trans HB0.out HKg.out.size;rw[<-hwn];refine hK.out _ _ ⟨(Hg.out.cel.cell 19).trans (wd_A.trans (by rw[EA.out])),(hd_ (HPf.out.below hb HPf.out.lt)),(hd_ (HTf.out.below hb HTf.out.lt))⟩ (fun hH=>?_);clear hK K hb hwn Hf HKf HApf;refine norm_ (a':=?_) ?_ ?_;rotate_left;(· show Act.put _ (some 83) _=_;simp only[Act.put,List.setIfInBounds_toArray,List.set_cons_zero,List.set_cons_succ];rfl);refine one_ (i:=9) (N:=some 84) (bt 13 1023) rfl rfl kk dd (fun K hK=>?_);refine step_append_rg rfl (.tmp 79) (.tmp 83) 68 rfl B 125 35 56 et68 (.slice AA m cA) m (d2.xs.flatMap apC) rr HApg.out.own (some ⟨w1d.heap.size,0,none⟩) 1 1 (apC (lp,va,vE,vS)) rr HN.out (apC_one _) o_ (by unfold maxLen;omega) HSz.out ?_;intro A7 c7 wh hown7 hgrow hb7 hat;have hk7:Kp [125] B wn wh:=Kp.of_row HApg.out.own hgrow (Nat.le_refl _);(have hap7:Aps wh B (.slice A7 (d2.xs ++ [(lp,va,vE,vS)]).length c7) (d2.xs ++ [(lp,va,vE,vS)]).length (d2.xs ++ [(lp,va,vE,vS)]):=by(have e:(d2.xs ++ [(lp,va,vE,vS)]).length=m+1:=by rw[List.length_append,<- HMm.out];rfl);rw[e];exact⟨e,by rw[List.flatMap_append];simpa using hown7,fun y hy=>by rcases List.mem_append.1 hy with h'|h';(· exact HApg.out.each y h');(· simp at h';subst h';exact⟨HLp.out,HVa.out⟩)⟩);have HFin:=hd_ (Hg.out.app hk7 hap7);have hcel7:=Hg.out.cel.kp hk7 dd;have HC7:=hd_ hcel7;(have hlen7:(d2.xs ++ [(lp,va,vE,vS)]).length=m+1:=by rw[List.length_append,<- HMm.out];rfl);have HLen:=hd_ hlen7;refine hK.out _ _ ⟨(hcel7.cell 19).trans (wd_A.trans (by rw[EA.out])),hd_ (hH.2.1.out.kp hk7 dd),hd_ (hH.2.2.out.kp hk7 dd)⟩ (fun hH=>?_);clear hK K hown7 hgrow hb7 hat hk7 hap7 hcel7 hlen7 HN HApg;refine norm_ (a':=?_) ?_ ?_;rotate_left;(· show Act.put _ (some 84) _=_;simp only[Act.put,List.setIfInBounds_toArray,List.set_cons_zero,List.set_cons_succ];rfl);refine ts_ 10 2 1 (bt 13 4095) hH ?_;refine mD ?_;(repeat (first|(refine tk_ 43 (.tmp 9) b9 0 (ints .u8 lp) (fun _ h=>h.2.1.out.range) underlying43 rfl (hi43 HLp.out).out ?_)|(refine tk_ 118 (.tmp 7) b13 0 (ints .i64 [va,vE,vS]) (fun _ h=>h.2.2.out.range) underlying118 rfl info118 ?_)|(refine uA ?_)|(refine mB3 ?_)));refine takes_nil ?_;refine tl_ 12 ?_;refine mF ?_;clear hH;have k19:wh.cell? ⟨g,19,none⟩=some (.slice AA m cA):=(HC7.out.cell 19).trans (wd_A.trans (by rw[EA.out]));have f19:=HC7.out.free 19;go_wp2_with fail;exact bodyPost_ret (v:=.int .i64 0) (by simp[results,results42,asAddr,Act.put]) rfl (StR.via HKg.out HD2.out.1 (by rw[HD2.out.2];exact Nat.le_refl _) (by have h7:=HFin.out;rw[HLen.out]at h7;exact⟨⟨0,rfl⟩,_,h7.1,h7.2,Rel.of_X rfl,by show(d2.xs ++ [(lp,va,vE,vS)]).length<=_;rw[List.length_append];exact Nat.le_refl _⟩))
 refine join_ (σ:=Int×Int×Int×Int) 3 (bt 16 8191) (fun s=>match s with|(va,vE,vS,z)=>[(26,.int .i64 p.lf),(28,.pointer (some ⟨gk,0,none⟩)),(33,.tuple #[.agg #[.int .i64 va,.int .i64 vE,.int .i64 vS],.int .i64 z]),(23,.tuple #[.agg #[.int .i64 va,.int .i64 vE,.int .i64 vS],.int .i64 z]),(34,.agg #[.int .i64 va,.int .i64 vE,.int .i64 vS]),(35,.int .i64 z)]) (fun s w'=>match s with|(va,vE,vS,z)=>Hid (WdAt w' B g 1 d)/\Hid (Cel w' w.heap.size 33 (acC x))/\Hid (Cel w' b6 45 (vw p.e p.t p.ad p.k p.ch))/\Hid (PyAt w' b p gk sk)/\Hid (Kp TW B w w')/\Hid (z=0->0<=va/\va<8)) ?_ (fun st1=>?_)
 · rintro⟨va,vE,vS,z⟩ wc ⟨H,HA,HV,HPy,HK,HZ⟩;refine mE ?_;have hH:=trivial;refine one_ (i:=13) (N:=some 7) (bt 16 16383) rfl rfl kk dd (fun K hK=>?_);obtain⟨wn,hwn⟩:=ex_ (wc.alloc (.cells (ints .i64 [0,0,0]).toArray 118));refine value_ rr rfl (v:=.pointer (some ⟨wc.heap.size,0,none⟩)) (w1:=wn) (vv hwn) ?_;have hbn:=nb_ hwn;have hlt1:=HA.out.lt;obtain⟨b13,hb13⟩:=ex_ (wc.heap.size);(have HT:Hid (Row wn b13 .i64 118 3):=by rw[hwn,hb13];exact Row.new [0,0,0] _ rfl rfl);(have HTb:Hid (w.heap.size<b13):=by rw[hb13];exact hlt1);rw[<-hb13];clear hwn hb13 hlt1;(have Hn:Hid (WdAt wn B g 1 d):=by first|exact H.out.below hbn|exact H.out.key hk0 hk1 hcg);(have HAn:Hid (Cel wn w.heap.size 33 (acC x)):=by first|exact HA.out.below hbn HA.out.lt|exact HA.out.kp hkp dd);(have HVn:Hid (Cel wn b6 45 (vw p.e p.t p.ad p.k p.ch)):=by first|exact HV.out.below hbn HV.out.lt|exact HV.out.kp hkp dd);(have HPyn:Hid (PyAt wn b p gk sk):=by first|exact HPy.out.below hbn|exact HPy.out.chgk hk1 hcg);(have HKn:Hid (Kp TW B w wn):=by first|exact HK.out.bel hbn|exact HK.out.trans (hkp.mono dd));have HZn:=hd_ (HZ.out);refine hK.out _ _ (⟨(HAn.out.cell 3).trans rfl,(HAn.out.cell 4).trans rfl,HVn⟩) (fun hH=>?_);refine mN ?_;exact mH (st0 (va,vE,vS,z,b13) wn ⟨Hn,HAn,HVn,HPyn,HKn,HZn,HT,HTb⟩)
 refine join_ (σ:=Nat) 6 (bt 16 8703) (fun s=>match s with|b13=>[(26,.int .i64 p.lf),(28,.pointer (some ⟨gk,0,none⟩)),(7,.pointer (some ⟨b13,0,none⟩))]) (fun s w'=>match s with|b13=>Hid (WdAt w' B g 1 d)/\Hid (Cel w' w.heap.size 33 (acC x))/\Hid (Cel w' b6 45 (vw p.e p.t p.ad p.k p.ch))/\Hid (PyAt w' b p gk sk)/\Hid (Kp TW B w w')/\Hid (Row w' b13 .i64 118 3)/\Hid (w.heap.size<b13)) ?_ (fun st2=>?_)
 · rintro b13 wc ⟨H,HA,HV,HPy,HK,HT,HTb⟩;refine mE ?_;have hH:=trivial;refine one_ (i:=9) (N:=some 33) (bt 16 9215) rfl rfl kk dd (fun K hK=>?_);refine goes_ func61 kk rfl #[.agg (vw p.e p.t p.ad p.k p.ch).toArray,.int .i64 p.lf,.pointer (some ⟨gk,0,none⟩),.int .i64 x.fr,.slice x.A x.nA x.cA] rr rfl rfl mL ?_;refine(approve_any p.e p.k x.fr p.lf p.t p.ch p.ad x.A x.nA x.cA x.lA gk sk _ HPy.out.ok.vw (HX0.out.kp HK.out).ops HX0.out.nA HPy.out.key).mono ?_;rintro _ wn ⟨⟨va,vE,vS,z,rfl,hz⟩,hk1,hcg⟩;refine⟨_,rfl,?_⟩;have hk0:=HPy.out.key;have hkp:Kp [161] B wc wn:=Kp.of_chgk hk0 hcg HGk.out;have HZ:Hid (z=0->0<=va/\va<8):=hz;have hbn:=trivial;(have Hn:Hid (WdAt wn B g 1 d):=by first|exact H.out.below hbn|exact H.out.key hk0 hk1 hcg);(have HAn:Hid (Cel wn w.heap.size 33 (acC x)):=by first|exact HA.out.below hbn HA.out.lt|exact HA.out.kp hkp dd);(have HVn:Hid (Cel wn b6 45 (vw p.e p.t p.ad p.k p.ch)):=by first|exact HV.out.below hbn HV.out.lt|exact HV.out.kp hkp dd);(have HPyn:Hid (PyAt wn b p gk sk):=by first|exact HPy.out.below hbn|exact HPy.out.chgk hk1 hcg);(have HKn:Hid (Kp TW B w wn):=by first|exact HK.out.bel hbn|exact HK.out.trans (hkp.mono dd));(have HTn:Hid (Row wn b13 .i64 118 3):=by first|exact HT.out.below hbn HT.out.lt|exact Row.kp HT.out hkp dd);have HTbn:=hd_ (HTb.out);refine hK.out _ _ (⟨(HAn.out.cell 3).trans rfl,(HAn.out.cell 4).trans rfl,HVn⟩) (fun hH=>?_);refine mN ?_;refine ts_ 10 2 3 (bt 16 12287) hH ?_;refine mD ?_;(repeat (first|(refine tk_ 45 (.tmp 6) b6 0 (vw p.e p.t p.ad p.k p.ch) (fun _ h=>h.2.2.out.all) underlying45 rfl (vw_hi HVw.out) ?_)|(refine uA ?_)|(refine mB3 ?_)));refine takes_nil ?_;refine ps_ 12 1 2 (bt 16 16383) ?_;refine mT1 ?_;exact mH (st0 (va,vE,vS,z,b13) wn ⟨Hn,HAn,HVn,HPyn,HKn,HZ,HTn,HTbn⟩)
 refine join_ (σ:=Unit) 7 (bt 16 511) (fun s=>match s with|()=>[(26,.int .i64 p.lf),(28,.pointer (some ⟨gk,0,none⟩))]) (fun s w'=>match s with|()=>Hid (WdAt w' B g 1 d)/\Hid (Cel w' w.heap.size 33 (acC x))/\Hid (Cel w' b6 45 (vw p.e p.t p.ad p.k p.ch))/\Hid (PyAt w' b p gk sk)/\Hid (Kp TW B w w')) ?_ (fun st3=>?_)
 · rintro _ wc ⟨H,HA,HV,HPy,HK⟩;refine mE ?_;have hH:=trivial;refine two_ (i:=9) (j:=13) (Ni:=some 33) (Nj:=some 7) (bt 16 1023) (bt 16 8703) rfl rfl rfl rfl kk dd dd (fun K hK=>?_) (fun K hK=>?_);(· refine goes_ func61 kk rfl #[.agg (vw p.e p.t p.ad p.k p.ch).toArray,.int .i64 p.lf,.pointer (some ⟨gk,0,none⟩),.int .i64 x.fr,.slice x.A x.nA x.cA] rr rfl rfl mL ?_;refine(approve_any p.e p.k x.fr p.lf p.t p.ch p.ad x.A x.nA x.cA x.lA gk sk _ HPy.out.ok.vw (HX0.out.kp HK.out).ops HX0.out.nA HPy.out.key).mono ?_;rintro _ wn ⟨⟨va,vE,vS,z,rfl,hz⟩,hk1,hcg⟩;refine⟨_,rfl,?_⟩;have hk0:=HPy.out.key;have hkp:Kp [161] B wc wn:=Kp.of_chgk hk0 hcg HGk.out;have HZ:Hid (z=0->0<=va/\va<8):=hz;have hbn:=trivial;(have Hn:Hid (WdAt wn B g 1 d):=by first|exact H.out.below hbn|exact H.out.key hk0 hk1 hcg);(have HAn:Hid (Cel wn w.heap.size 33 (acC x)):=by first|exact HA.out.below hbn HA.out.lt|exact HA.out.kp hkp dd);(have HVn:Hid (Cel wn b6 45 (vw p.e p.t p.ad p.k p.ch)):=by first|exact HV.out.below hbn HV.out.lt|exact HV.out.kp hkp dd);(have HPyn:Hid (PyAt wn b p gk sk):=by first|exact HPy.out.below hbn|exact HPy.out.chgk hk1 hcg);(have HKn:Hid (Kp TW B w wn):=by first|exact HK.out.bel hbn|exact HK.out.trans (hkp.mono dd));refine hK.out _ _ (⟨(HAn.out.cell 3).trans rfl,(HAn.out.cell 4).trans rfl,HVn⟩) (fun hH=>?_);refine mN ?_;refine ts_ 10 2 4 (bt 16 4095) hH ?_;refine mD ?_;(repeat (first|(refine tk_ 45 (.tmp 6) b6 0 (vw p.e p.t p.ad p.k p.ch) (fun _ h=>h.2.2.out.all) underlying45 rfl (vw_hi HVw.out) ?_)|(refine uA ?_)|(refine mB3 ?_)));refine takes_nil ?_;refine ps_ 12 1 3 (bt 16 8191) ?_;refine mT1 ?_;exact mH (st1 (va,vE,vS,z) wn ⟨Hn,HAn,HVn,HPyn,HKn,HZ⟩));obtain⟨wn,hwn⟩:=ex_ (wc.alloc (.cells (ints .i64 [0,0,0]).toArray 118));refine value_ rr rfl (v:=.pointer (some ⟨wc.heap.size,0,none⟩)) (w1:=wn) (vv hwn) ?_;have hbn:=nb_ hwn;have hlt1:=HA.out.lt;obtain⟨b13,hb13⟩:=ex_ (wc.heap.size);(have HT:Hid (Row wn b13 .i64 118 3):=by rw[hwn,hb13];exact Row.new [0,0,0] _ rfl rfl);(have HTb:Hid (w.heap.size<b13):=by rw[hb13];exact hlt1);rw[<-hb13];clear hwn hb13 hlt1;(have Hn:Hid (WdAt wn B g 1 d):=by first|exact H.out.below hbn|exact H.out.key hk0 hk1 hcg);(have HAn:Hid (Cel wn w.heap.size 33 (acC x)):=by first|exact HA.out.below hbn HA.out.lt|exact HA.out.kp hkp dd);(have HVn:Hid (Cel wn b6 45 (vw p.e p.t p.ad p.k p.ch)):=by first|exact HV.out.below hbn HV.out.lt|exact HV.out.kp hkp dd);(have HPyn:Hid (PyAt wn b p gk sk):=by first|exact HPy.out.below hbn|exact HPy.out.chgk hk1 hcg);(have HKn:Hid (Kp TW B w wn):=by first|exact HK.out.bel hbn|exact HK.out.trans (hkp.mono dd));refine hK.out _ _ (⟨(HAn.out.cell 3).trans rfl,(HAn.out.cell 4).trans rfl,HVn⟩) (fun hH=>?_);refine mN ?_;exact mH (st2 b13 wn ⟨Hn,HAn,HVn,HPyn,HKn,HT,HTb⟩)
 refine join_ (σ:=Nat) 7 (bt 16 8687) (fun s=>match s with|b13=>[(26,.int .i64 p.lf),(7,.pointer (some ⟨b13,0,none⟩))]) (fun s w'=>match s with|b13=>Hid (WdAt w' B g 1 d)/\Hid (Cel w' w.heap.size 33 (acC x))/\Hid (Cel w' b6 45 (vw p.e p.t p.ad p.k p.ch))/\Hid (PyAt w' b p gk sk)/\Hid (Kp TW B w w')/\Hid (Row w' b13 .i64 118 3)/\Hid (w.heap.size<b13)) ?_ (fun st4=>?_)
 · rintro b13 wc ⟨H,HA,HV,HPy,HK,HT,HTb⟩;refine mE ?_;have hH:=trivial;refine one_ (i:=4) (N:=some 28) (bt 16 8703) rfl rfl kk dd (fun K hK=>?_);refine goes_ func62 kk rfl #[.pointer (some ⟨b,0,none⟩)] rr rfl rfl mL ?_;refine(signer_p_any b p _ HPy.out.cel HPy.out.ok).mono ?_;rintro _ wn ⟨rfl,hwn⟩;rw[HPy.out.G];refine⟨_,rfl,?_⟩;(have hbn:Bl wc wn:=by rw[<-hwn];exact Below.refl _ _);clear hwn;(have Hn:Hid (WdAt wn B g 1 d):=by first|exact H.out.below hbn|exact H.out.key hk0 hk1 hcg);(have HAn:Hid (Cel wn w.heap.size 33 (acC x)):=by first|exact HA.out.below hbn HA.out.lt|exact HA.out.kp hkp dd);(have HVn:Hid (Cel wn b6 45 (vw p.e p.t p.ad p.k p.ch)):=by first|exact HV.out.below hbn HV.out.lt|exact HV.out.kp hkp dd);(have HPyn:Hid (PyAt wn b p gk sk):=by first|exact HPy.out.below hbn|exact HPy.out.chgk hk1 hcg);(have HKn:Hid (Kp TW B w wn):=by first|exact HK.out.bel hbn|exact HK.out.trans (hkp.mono dd));(have HTn:Hid (Row wn b13 .i64 118 3):=by first|exact HT.out.below hbn HT.out.lt|exact Row.kp HT.out hkp dd);have HTbn:=hd_ (HTb.out);refine hK.out _ _ (⟨(HAn.out.cell 3).trans rfl,(HAn.out.cell 4).trans rfl,HVn⟩) (fun hH=>?_);refine mN ?_;exact mH (st2 b13 wn ⟨Hn,HAn,HVn,HPyn,HKn,HTn,HTbn⟩)
 refine join_ (σ:=Unit) 8 (bt 16 495) (fun s=>match s with|()=>[(26,.int .i64 p.lf)]) (fun s w'=>match s with|()=>Hid (WdAt w' B g 1 d)/\Hid (Cel w' w.heap.size 33 (acC x))/\Hid (Cel w' b6 45 (vw p.e p.t p.ad p.k p.ch))/\Hid (PyAt w' b p gk sk)/\Hid (Kp TW B w w')) ?_ (fun st5=>?_)
 · rintro _ wc ⟨H,HA,HV,HPy,HK⟩;refine mE ?_;have hH:=trivial;refine two_ (i:=4) (j:=13) (Ni:=some 28) (Nj:=some 7) (bt 16 511) (bt 16 8687) rfl rfl rfl rfl kk dd dd (fun K hK=>?_) (fun K hK=>?_);(· refine goes_ func62 kk rfl #[.pointer (some ⟨b,0,none⟩)] rr rfl rfl mL ?_;refine(signer_p_any b p _ HPy.out.cel HPy.out.ok).mono ?_;rintro _ wn ⟨rfl,hwn⟩;rw[HPy.out.G];refine⟨_,rfl,?_⟩;(have hbn:Bl wc wn:=by rw[<-hwn];exact Below.refl _ _);clear hwn;(have Hn:Hid (WdAt wn B g 1 d):=by first|exact H.out.below hbn|exact H.out.key hk0 hk1 hcg);(have HAn:Hid (Cel wn w.heap.size 33 (acC x)):=by first|exact HA.out.below hbn HA.out.lt|exact HA.out.kp hkp dd);(have HVn:Hid (Cel wn b6 45 (vw p.e p.t p.ad p.k p.ch)):=by first|exact HV.out.below hbn HV.out.lt|exact HV.out.kp hkp dd);(have HPyn:Hid (PyAt wn b p gk sk):=by first|exact HPy.out.below hbn|exact HPy.out.chgk hk1 hcg);(have HKn:Hid (Kp TW B w wn):=by first|exact HK.out.bel hbn|exact HK.out.trans (hkp.mono dd));refine hK.out _ _ (⟨(HAn.out.cell 3).trans rfl,(HAn.out.cell 4).trans rfl,HVn⟩) (fun hH=>?_);refine mN ?_;exact mH (st3 () wn ⟨Hn,HAn,HVn,HPyn,HKn⟩));obtain⟨wn,hwn⟩:=ex_ (wc.alloc (.cells (ints .i64 [0,0,0]).toArray 118));refine value_ rr rfl (v:=.pointer (some ⟨wc.heap.size,0,none⟩)) (w1:=wn) (vv hwn) ?_;have hbn:=nb_ hwn;have hlt1:=HA.out.lt;obtain⟨b13,hb13⟩:=ex_ (wc.heap.size);(have HT:Hid (Row wn b13 .i64 118 3):=by rw[hwn,hb13];exact Row.new [0,0,0] _ rfl rfl);(have HTb:Hid (w.heap.size<b13):=by rw[hb13];exact hlt1);rw[<-hb13];clear hwn hb13 hlt1;(have Hn:Hid (WdAt wn B g 1 d):=by first|exact H.out.below hbn|exact H.out.key hk0 hk1 hcg);(have HAn:Hid (Cel wn w.heap.size 33 (acC x)):=by first|exact HA.out.below hbn HA.out.lt|exact HA.out.kp hkp dd);(have HVn:Hid (Cel wn b6 45 (vw p.e p.t p.ad p.k p.ch)):=by first|exact HV.out.below hbn HV.out.lt|exact HV.out.kp hkp dd);(have HPyn:Hid (PyAt wn b p gk sk):=by first|exact HPy.out.below hbn|exact HPy.out.chgk hk1 hcg);(have HKn:Hid (Kp TW B w wn):=by first|exact HK.out.bel hbn|exact HK.out.trans (hkp.mono dd));refine hK.out _ _ (⟨(HAn.out.cell 3).trans rfl,(HAn.out.cell 4).trans rfl,HVn⟩) (fun hH=>?_);refine mN ?_;exact mH (st4 b13 wn ⟨Hn,HAn,HVn,HPyn,HKn,HT,HTb⟩)
 refine join_ (σ:=Nat) 8 (bt 16 8683) (fun s=>match s with|b13=>[(7,.pointer (some ⟨b13,0,none⟩))]) (fun s w'=>match s with|b13=>Hid (WdAt w' B g 1 d)/\Hid (Cel w' w.heap.size 33 (acC x))/\Hid (Cel w' b6 45 (vw p.e p.t p.ad p.k p.ch))/\Hid (PyAt w' b p gk sk)/\Hid (Kp TW B w w')/\Hid (Row w' b13 .i64 118 3)/\Hid (w.heap.size<b13)) ?_ (fun st6=>?_)
 · rintro b13 wc ⟨H,HA,HV,HPy,HK,HT,HTb⟩;refine mE ?_;have hH:=trivial;refine one_ (i:=2) (N:=some 26) (bt 16 8687) rfl rfl kk dd (fun K hK=>?_);refine goes_ func15 kk rfl #[.pointer (some ⟨b,0,none⟩)] rr rfl rfl mL ?_;refine(leaf_p_any b p _ HPy.out.cel HPy.out.ok).mono ?_;rintro _ wn ⟨rfl,hwn⟩;refine⟨_,rfl,?_⟩;(have hbn:Bl wc wn:=by rw[<-hwn];exact Below.refl _ _);clear hwn;(have Hn:Hid (WdAt wn B g 1 d):=by first|exact H.out.below hbn|exact H.out.key hk0 hk1 hcg);(have HAn:Hid (Cel wn w.heap.size 33 (acC x)):=by first|exact HA.out.below hbn HA.out.lt|exact HA.out.kp hkp dd);(have HVn:Hid (Cel wn b6 45 (vw p.e p.t p.ad p.k p.ch)):=by first|exact HV.out.below hbn HV.out.lt|exact HV.out.kp hkp dd);(have HPyn:Hid (PyAt wn b p gk sk):=by first|exact HPy.out.below hbn|exact HPy.out.chgk hk1 hcg);(have HKn:Hid (Kp TW B w wn):=by first|exact HK.out.bel hbn|exact HK.out.trans (hkp.mono dd));(have HTn:Hid (Row wn b13 .i64 118 3):=by first|exact HT.out.below hbn HT.out.lt|exact Row.kp HT.out hkp dd);have HTbn:=hd_ (HTb.out);refine hK.out _ _ (⟨(HAn.out.cell 3).trans rfl,(HAn.out.cell 4).trans rfl,HVn⟩) (fun hH=>?_);refine mN ?_;exact mH (st4 b13 wn ⟨Hn,HAn,HVn,HPyn,HKn,HTn,HTbn⟩)
 have hH:=trivial;refine two_ (i:=2) (j:=13) (Ni:=some 26) (Nj:=some 7) (bt 16 495) (bt 16 8683) rfl rfl rfl rfl kk dd dd (fun K hK=>?_) (fun K hK=>?_)
 · refine goes_ func15 kk rfl #[.pointer (some ⟨b,0,none⟩)] rr rfl rfl mL ?_;refine(leaf_p_any b p _ HPy.out.cel HPy.out.ok).mono ?_;rintro _ wn ⟨rfl,hwn⟩;refine⟨_,rfl,?_⟩;(have hbn:Bl w1d wn:=by rw[<-hwn];exact Below.refl _ _);clear hwn;(have Hn:Hid (WdAt wn B g 1 d):=by first|exact H.out.below hbn|exact H.out.key hk0 hk1 hcg);(have HAn:Hid (Cel wn w.heap.size 33 (acC x)):=by first|exact HA.out.below hbn HA.out.lt|exact HA.out.kp hkp dd);(have HVn:Hid (Cel wn b6 45 (vw p.e p.t p.ad p.k p.ch)):=by first|exact HV.out.below hbn HV.out.lt|exact HV.out.kp hkp dd);(have HPyn:Hid (PyAt wn b p gk sk):=by first|exact HPy.out.below hbn|exact HPy.out.chgk hk1 hcg);(have HKn:Hid (Kp TW B w wn):=by first|exact HK.out.bel hbn|exact HK.out.trans (hkp.mono dd));refine hK.out _ _ (⟨(HAn.out.cell 3).trans rfl,(HAn.out.cell 4).trans rfl,HVn⟩) (fun hH=>?_);refine mN ?_;exact mH (st5 () wn ⟨Hn,HAn,HVn,HPyn,HKn⟩)
 obtain⟨wn,hwn⟩:=ex_ (w1d.alloc (.cells (ints .i64 [0,0,0]).toArray 118));refine value_ rr rfl (v:=.pointer (some ⟨w1d.heap.size,0,none⟩)) (w1:=wn) (vv hwn) ?_;have hbn:=nb_ hwn;have hlt1:=HA.out.lt;obtain⟨b13,hb13⟩:=ex_ (w1d.heap.size);have HT:Hid (Row wn b13 .i64 118 3):=by rw[hwn,hb13];exact Row.new [0,0,0] _ rfl rfl
 have HTb:Hid (w.heap.size<b13):=by rw[hb13];exact hlt1
 rw[<-hb13];clear hwn hb13 hlt1;have Hn:Hid (WdAt wn B g 1 d):=by first|exact H.out.below hbn|exact H.out.key hk0 hk1 hcg
 have HAn:Hid (Cel wn w.heap.size 33 (acC x)):=by first|exact HA.out.below hbn HA.out.lt|exact HA.out.kp hkp dd
 have HVn:Hid (Cel wn b6 45 (vw p.e p.t p.ad p.k p.ch)):=by first|exact HV.out.below hbn HV.out.lt|exact HV.out.kp hkp dd
 have HPyn:Hid (PyAt wn b p gk sk):=by first|exact HPy.out.below hbn|exact HPy.out.chgk hk1 hcg
 have HKn:Hid (Kp TW B w wn):=by first|exact HK.out.bel hbn|exact HK.out.trans (hkp.mono dd)
 refine hK.out _ _ (⟨(HAn.out.cell 3).trans rfl,(HAn.out.cell 4).trans rfl,HVn⟩) (fun hH=>?_);refine mN ?_;exact mH (st6 b13 wn ⟨Hn,HAn,HVn,HPyn,HKn,HT,HTb⟩)
end Go.Proofs.YtppjnahcnofokaaGreat.T
namespace Go.Proofs.YtppjnahcnofokaaGreat.T
open Go.RowKit Go.Proofs.YtppjnahcnofokaaGreatW.PrintLast
open Go.Proofs.Tryz
variable{k:IntKind}{a:Act}{b i n B base m fuel D B':Nat}{l ch t0:List Int}{w w' w1 w2:World}{t:TypeId}{P:Program}{cs xs vs l3:List Value}{A A':Option Addr}{o oi:Oper}{e s f st fl:Int}{ops:Array Oper}{rest l0:List Oper}{v:Value}{r:Option Nat}{rs rs2:List (Option Addr×Nat×Nat×List Int)}{E:Prop}{ad ai go:List Bool}{N:Act->Prop}{place:Nat->Option (Nat×Nat)}{bad:Bool}{es es':List (Int×List Int)}{T:List TypeId}
theorem PyV.key2{gk:Nat}{s0 s1:Int}{o:Option PyP}(h:PyV w B v o)(h0:KeyAt w gk s0)(h1:KeyAt w' gk s1)(hk:ChgK gk w w'):PyV w' B v o:=by
 rcases h with h|⟨b,x,g,s,e1,e2,h3,h4⟩
 · exact .inl h
 by_cases e:g=gk
 · subst e;exact .inr ⟨b,x,g,s1,e1,e2,⟨h3.cel.kp (Kp.of_chgk (B:=0) h0 hk (Nat.zero_le _)) dd,h3.ok,h3.G,h1⟩,h4⟩
 refine .inr ⟨b,x,g,s,e1,e2,⟨h3.cel.kp (Kp.of_chgk (B:=0) h0 hk (Nat.zero_le _)) dd,h3.ok,h3.G,?_⟩,h4⟩;obtain⟨a1,d,p,m,u,a2,a3⟩:=h3.key;exact⟨a1,d,p,m,u,(hk.block g (blk_lt a2) e).trans a2,a3⟩
variable{d:WdD}
theorem WdAt.key2{g gk:Nat}{s0 s1:Int}(h:WdAt w B g s d)(h0:KeyAt w gk s0)(h1:KeyAt w' gk s1)(hk:ChgK gk w w'):WdAt w' B g s d:=by
 have hkp:=Kp.of_chgk (B:=0) h0 hk (Nat.zero_le _);obtain⟨A,c,e,ha⟩:=h.A;exact⟨h.lo,h.cel.kp hkp dd,fun i hi=>(h.X i hi).key2 h0 h1 hk,h.K,h.D.kp hkp dd dd,h.O.kp hkp dd dd,⟨A,c,e,ha.kp hkp dd⟩⟩
def PyE(w:World)(b:Nat)(x:PyP)(g:Nat):Prop:=∃s,PyAt w b x g s
variable{x:PyP}
theorem PyE.below{g:Nat}(h:PyE w b x g)(hb:Bl w w'):PyE w' b x g:=by
 obtain⟨s,h⟩:=h;exact⟨s,h.below hb⟩
theorem PyE.chgk{g:Nat}{s1:Int}(h:PyE w b x g)(h1:KeyAt w' g s1)(hk:ChgK g w w'):PyE w' b x g:=by
 obtain⟨s,h⟩:=h;exact⟨s1,h.cel.kp (Kp.of_chgk (B:=0) h.key hk (Nat.zero_le _)) dd,h.ok,h.G,h1⟩
theorem WlL.below{c:Nat}(h:WlL w A n c)(hb:Bl w w'):WlL w' A n c:=
 ⟨h.1,fun j hj=>by
  obtain⟨b,o,z,e,hlt,hr,hz⟩:=h.2 j hj
  exact⟨b,o,z,e,Nat.lt_of_lt_of_le hlt hb.size,fun k v hv=>(hb.cell (p:=⟨b,o+j*108+k,none⟩) hlt).trans (hr k v hv),hz.below hb⟩⟩
theorem Pst.below(h:Pst w B v n rs)(hb:Bl w w'):Pst w' B v n rs:=h.kp (Kp.of_below (T:=[]) (B:=0) hb) dd dd
theorem Pst.app{c':Nat}(h:Pst w B v n rs)(h2:∀r ∈ rs2,w.ownsRow B 5 1 (sv r) r.2.1 (ints .u8 r.2.2.2)/\r.2.2.2.length=r.2.1/\r.2.1<=20000)(hl:rs2.length=m)(hown:w'.ownsRow B 31 1 (.slice A' (n+m) c') (n+m) (rs.map sv++rs2.map sv))(hk:Kp [31] B w w'):Pst w' B (.slice A' (n+m) c') (n+m) (rs++rs2):=
 ⟨by rw[List.length_append,h.len,hl],by rw[List.map_append];exact hown,fun r hr=>by
  rcases List.mem_append.1 hr with h'|h'
  · exact⟨own_kp (h.each r h').1 hk dd,(h.each r h').2⟩
  · exact⟨own_kp (h2 r h').1 hk dd,(h2 r h').2⟩⟩
theorem Pst.rg{c:Nat}(h:Pst w B (.slice A n c) n rs):Rg w 1 A n c (rs.map sv):=(own_rgI h.own).rg
theorem WdAt.posted{g:Nat}(h:WdAt w B g s d)(hk:Kp [31] B w w')(hO:PstO w' B v):WdAt (w'.setCell ⟨g,18,none⟩ v) B g s (d.sO v)/\Kp TW B w (w'.setCell ⟨g,18,none⟩ v):=by
 have hc:=h.cel.kp hk dd;have hk2:Kp [74] B w' (w'.setCell ⟨g,18,none⟩ v):=Kp.of_grown hc (grownBy_set1 _ _ _ _) h.lo;obtain⟨A,c,e,ha⟩:=h.A;refine⟨⟨h.lo,by rw[<-wd_set_O];exact hc.set 18 _,fun i hi=>((h.X i hi).kp hk dd dd).kp hk2 dd dd,h.K,(h.D.kp hk dd dd).kp hk2 dd dd,hO.kp hk2 dd dd,⟨A,c,e,(ha.kp hk dd).kp hk2 dd⟩⟩,(hk.mono dd).trans (hk2.mono dd)⟩
theorem wt130:∀t:TypeId,t=74\/t=82\/t=161\/t=98\/t=149\/t=31\/t=5\/t=125->t ∉ [130]:=by rintro _ (rfl|rfl|rfl|rfl|rfl|rfl|rfl|rfl)<;>decide
theorem own_row5{c:Nat}(h:OwnB w base (.slice A n c) n)(hB:B<=base)(hn:n<=20000):∃l,∀r ∈ [((A,n,c,l):Option Addr×Nat×Nat×List Int)],w.ownsRow B 5 1 (sv r) r.2.1 (ints .u8 r.2.2.2)/\r.2.2.2.length=r.2.1/\r.2.1<=20000:=by
 obtain⟨l,hl,ho⟩:=h;exact⟨l,fun r hr=>by simp at hr;subst hr;exact⟨own_mono ho hB,hl,hn⟩⟩
end Go.Proofs.YtppjnahcnofokaaGreat.T
