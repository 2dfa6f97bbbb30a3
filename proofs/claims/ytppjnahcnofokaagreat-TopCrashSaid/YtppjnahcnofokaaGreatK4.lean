import Derived.Test.YtppjnahcnofokaaGreatK0
import Derived.Test.YtppjnahcnofokaaGreatK3
import Derived.Test.YtppjnahcnofokaaGreatProg
set_option maxRecDepth 100000
set_option maxHeartbeats 32000000
set_option linter.unusedSimpArgs false
set_option linter.unusedVariables false
set_option linter.unnecessarySimpa false
namespace Go.Proofs.YtppjnahcnofokaaGreat.T
open Go.RowKit Go.Proofs.YtppjnahcnofokaaGreatW.PrintLast
open Go.Proofs.Tryz
variable{k:IntKind}{a:Act}{b i n B base m fuel D B':Nat}{l ch p t0 q:List Int}{w w' w1 w2:World}{t:TypeId}{P:Int->Int->Prop}{cs:Array Value}{A A':Option Addr}{o oi:Oper}{e s f st fl:Int}{xs:List (List Int×Int×Int×Int)}{ops:Array Oper}{rest l0:List Oper}{v:Value}{r:Option Nat}{rs rs2:List (Option Addr×Nat×Nat×List Int)}{E:Prop}{vs l3:List Value}{ad ai go:List Bool}{N:Act->Prop}{place:Nat->Option (Nat×Nat)}{bad:Bool}{es es':List (Int×List Int)}{T:List TypeId}{ps:List (List Int)}
variable{x:PyP}
end Go.Proofs.YtppjnahcnofokaaGreat.T
namespace Go.Proofs.YtppjnahcnofokaaGreat.T
open Go.RowKit Go.Proofs.YtppjnahcnofokaaGreatW.PrintLast
open Go.Proofs.Tryz
variable{k:IntKind}{a:Act}{b i n B base m fuel D B':Nat}{l ch p t0 q:List Int}{w w' w1 w2:World}{t:TypeId}{P:Int->Int->Prop}{cs:Array Value}{A A':Option Addr}{o oi:Oper}{e s f st fl:Int}{xs:List (List Int×Int×Int×Int)}{ops:Array Oper}{rest l0:List Oper}{v:Value}{r:Option Nat}{rs rs2:List (Option Addr×Nat×Nat×List Int)}{E:Prop}{vs l3:List Value}{ad ai go:List Bool}{N:Act->Prop}{place:Nat->Option (Nat×Nat)}{bad:Bool}{es es':List (Int×List Int)}{T:List TypeId}{ps:List (List Int)}
end Go.Proofs.YtppjnahcnofokaaGreat.T
namespace Go.Proofs.YtppjnahcnofokaaGreat.T
open Go.RowKit Go.Proofs.YtppjnahcnofokaaGreatW.PrintLast
open Go.Proofs.Tryz
variable{k:IntKind}{a:Act}{b i n B base m fuel D B':Nat}{l ch p t0 q:List Int}{w w' w1 w2:World}{t:TypeId}{P:Int->Int->Prop}{cs:Array Value}{A A':Option Addr}{o oi:Oper}{e s f st fl:Int}{xs:List (List Int×Int×Int×Int)}{ops:Array Oper}{rest l0:List Oper}{v:Value}{r:Option Nat}{rs rs2:List (Option Addr×Nat×Nat×List Int)}{E:Prop}{vs l3:List Value}{ad ai go:List Bool}{N:Act->Prop}{place:Nat->Option (Nat×Nat)}{bad:Bool}{es es':List (Int×List Int)}{T:List TypeId}{ps:List (List Int)}
section
variable {P:Program} {ops:Array Oper} {Q:Exit->Act->World->Prop} {md:Region.Mode} {S:World->Prop} {ds:List Nat}
theorem four_{j k:Nat}{Ni Nj Nk Nm:Option Tmp}{oj ok om:Oper}{l:Array Bool}(li lj lk lm:Array Bool)(hi:ops[i]? = some oi)(hj:ops[j]? = some oj)(hk:ops[k]? = some ok)(hm:ops[m]? = some om)(hNi:oi.dst=Ni)(hNj:oj.dst=Nj)(hNk:ok.dst=Nk)(hNm:om.dst=Nm)(hc:(Region.ready md ops l == [i,j,k,m]&&l.setIfInBounds i true==li&&l.setIfInBounds j true==lj&&l.setIfInBounds k true==lk&&l.setIfInBounds m true==lm)=true)(hdi:i ∉ ds)(hdj:j ∉ ds)(hdk:k ∉ ds)(hdm:m ∉ ds)(h1:∀K:Act->World->Prop,Shut (∀a' w',S w'->(S w'->wpAnyLast P md ops Q S ds fuel li a' w')->K a' w')->if Region.wanted oi (yielded ops a.tmps)=true then Oper.wp P oi a w K Q else K (a.put Ni undef) w)(h2:∀K:Act->World->Prop,Shut (∀a' w',S w'->(S w'->wpAnyLast P md ops Q S ds fuel lj a' w')->K a' w')->if Region.wanted oj (yielded ops a.tmps)=true then Oper.wp P oj a w K Q else K (a.put Nj undef) w)(h3:∀K:Act->World->Prop,Shut (∀a' w',S w'->(S w'->wpAnyLast P md ops Q S ds fuel lk a' w')->K a' w')->if Region.wanted ok (yielded ops a.tmps)=true then Oper.wp P ok a w K Q else K (a.put Nk undef) w)(h4:∀K:Act->World->Prop,Shut (∀a' w',S w'->(S w'->wpAnyLast P md ops Q S ds fuel lm a' w')->K a' w')->if Region.wanted om (yielded ops a.tmps)=true then Oper.wp P om a w K Q else K (a.put Nm undef) w): wpAnyLast P md ops Q S ds (fuel+1) l a w:=by
 subst hNi hNj hNk hNm;simp only[Bool.and_eq_true,beq_iff_eq]at hc;obtain⟨⟨⟨⟨h5,h6⟩,h7⟩,h8⟩,h9⟩:=hc;subst h6 h7 h8 h9;exact wpAnyLast_ready h5 s_ (AllReadyL.cons hi hdi (fun K hK=>h1 K hK) (AllReadyL.cons hj hdj (fun K hK=>h2 K hK) (AllReadyL.cons hk hdk (fun K hK=>h3 K hK) (AllReadyL.cons hm hdm (fun K hK=>h4 K hK) AllReadyL.nil))))
end
def BoX(w:World)(b:Nat):Prop:=∃l:List Bool,l.length=8/\Cel w b 41 (bools l)
theorem BoX.below(h:BoX w b)(hb:Bl w w'):BoX w' b:=by
 obtain⟨l,hl,h⟩:=h;exact⟨l,hl,h.below hb h.lt⟩
theorem BoX.lt(h:BoX w b):b<w.heap.size:=by
 obtain⟨l,hl,h⟩:=h;exact h.lt
theorem BoX.grown{row:Option Nat}(h:BoX w b)(hg:w.grownBy w' row)(hne:some b≠row):BoX w' b:=by
 obtain⟨l,hl,h⟩:=h;exact⟨l,hl,h.grown hg hne⟩
theorem BoX.ne{c:Nat}(h:BoX w b)(hc:Cel w c 45 vs):c≠b:=by
 rintro rfl;obtain⟨l,hl,h⟩:=h;rw[Cel,hc]at h;injection h with h
 injection h with _ h _
 exact absurd h dd
end Go.Proofs.YtppjnahcnofokaaGreat.T
namespace Go.Proofs.YtppjnahcnofokaaGreat.T
open Go Go.RowKit Go.Lib Go.Proofs
open Go.Proofs.Tryz
variable{k:IntKind}{a:Act}{b i n B base m fuel D B':Nat}{l ch p t0 q:List Int}{w w' w1 w2:World}{t:TypeId}{P:Int->Int->Prop}{cs:Array Value}{A A':Option Addr}{o oi:Oper}{e s f st fl:Int}{xs:List (List Int×Int×Int×Int)}{ops:Array Oper}{rest l0:List Oper}{v:Value}{r:Option Nat}{rs rs2:List (Option Addr×Nat×Nat×List Int)}{E:Prop}{vs l3:List Value}{ad ai go:List Bool}{N:Act->Prop}{place:Nat->Option (Nat×Nat)}{bad:Bool}{es es':List (Int×List Int)}{T:List TypeId}{ps:List (List Int)}
/-! Whether two arrays or structs of whole numbers and truths are alike: each is told, and one is like itself. -/
section
variable {P:Program}
end
/-! Of this program: hashes and views. -/
def k40:List (Option IntKind):=List.replicate 31 (some .i64)
theorem inf_of(h:(prog.info? t).isSome=true):∃i,prog.info? t=some i:=Option.isSome_iff_exists.1 h
theorem wpList_cmp{Q:Exit->Act->World->Prop}(hgd:o.guard=none)(op:BinOp)(t u:TypeId)(x y:Operand)(ho:o.op=.binOp op t x y u)(xs ys:Array Value)(v:Value)(hx:a.eval x=.agg xs)(hy:a.eval y=.agg ys)(hm:prog.eqGuardType prog.depth t=false)(hrun:(binOp op t (.agg xs) (.agg ys)).run prog w=.ok v w)(h:wpList prog ops Q rest (a.put o.dst v) w):wpList prog ops Q (o :: rest) a w:=by
 refine wpList_plain hgd fun K hK=>?_;unfold Oper.wp execOp;simp only[ho,hx,hy,Sem.run_bind,run_eqGuard_agg w op t x y xs ys hm,hrun,Result.andThen_ok];exact hK _ _ h
theorem gd43:prog.eqGuardType prog.depth 43=false:=by kernel_rfl
end Go.Proofs.YtppjnahcnofokaaGreat.T
namespace Go.Proofs.YtppjnahcnofokaaGreat.T
open Go.RowKit Go.Proofs.YtppjnahcnofokaaGreatW.PrintLast
open Go.Proofs.Tryz
variable{k:IntKind}{a:Act}{b i n B base m fuel D B':Nat}{l ch p t0 q:List Int}{w w' w1 w2:World}{t:TypeId}{P:Int->Int->Prop}{cs:Array Value}{A A':Option Addr}{o oi:Oper}{e s f st fl:Int}{xs:List (List Int×Int×Int×Int)}{ops:Array Oper}{rest l0:List Oper}{v:Value}{r:Option Nat}{rs rs2:List (Option Addr×Nat×Nat×List Int)}{E:Prop}{vs l3:List Value}{ad ai go:List Bool}{N:Act->Prop}{place:Nat->Option (Nat×Nat)}{bad:Bool}{es es':List (Int×List Int)}{T:List TypeId}{ps:List (List Int)}
theorem cm_trange{x:CmP}(h:Cel w b 130 (cmC x)):w.rangeAt b 9 (ints .u8 x.tag):=by
 have:=Cel.range (w:=w) (b:=b) (t:=130) (by have:=h;rwa [cm_tsplit]at this);exact this
end Go.Proofs.YtppjnahcnofokaaGreat.T
namespace Go.Proofs.YtppjnahcnofokaaGreat.T
open Go.RowKit Go.Proofs.YtppjnahcnofokaaGreatW.PrintLast
open Go.Proofs.Tryz
variable{k:IntKind}{a:Act}{b i n B base m fuel D B':Nat}{l ch p t0 q:List Int}{w w' w1 w2:World}{t:TypeId}{P:Int->Int->Prop}{cs:Array Value}{A A':Option Addr}{o oi:Oper}{e s f st fl:Int}{xs:List (List Int×Int×Int×Int)}{ops:Array Oper}{rest l0:List Oper}{v:Value}{r:Option Nat}{rs rs2:List (Option Addr×Nat×Nat×List Int)}{E:Prop}{vs l3:List Value}{ad ai go:List Bool}{N:Act->Prop}{place:Nat->Option (Nat×Nat)}{bad:Bool}{es es':List (Int×List Int)}{T:List TypeId}{ps:List (List Int)}
end Go.Proofs.YtppjnahcnofokaaGreat.T
namespace Go.Proofs.YtppjnahcnofokaaGreat.T
open Go.RowKit Go.Proofs.YtppjnahcnofokaaGreatW.PrintLast
open Go.Proofs.Tryz
variable{k:IntKind}{a:Act}{b i n B base m fuel D B':Nat}{l ch p t0 q:List Int}{w w' w1 w2:World}{t:TypeId}{P:Int->Int->Prop}{cs:Array Value}{A A':Option Addr}{o oi:Oper}{e s f st fl:Int}{xs:List (List Int×Int×Int×Int)}{ops:Array Oper}{rest l0:List Oper}{v:Value}{r:Option Nat}{rs rs2:List (Option Addr×Nat×Nat×List Int)}{E:Prop}{vs l3:List Value}{ad ai go:List Bool}{N:Act->Prop}{place:Nat->Option (Nat×Nat)}{bad:Bool}{es es':List (Int×List Int)}{T:List TypeId}{ps:List (List Int)}
theorem step_append_full{K:Act->World->Prop}{Q:Exit->Act->World->Prop}(hgd:o.guard=none)(s x:Operand)(ho:o.op=.call {callee:=.builtin .append,args:=#[s,x],argTypes:=#[31,31] })(A B:Addr)(n m c:Nat)(l1 l2:List Int)(hs:a.eval s=.slice (some A) n n)(hx:a.eval x=.slice (some B) m c)(hr:Rd w .u8 (some A) n n l1)(hr2:Rd w .u8 (some B) m c l2)(hn:0<n)(hm:0<m)(hb:n+m<=100000)(h:∀A' c' w',w'.ownsRow w.heap.size 5 1 (.slice A' (n+m) c') (n+m) (ints .u8 (l1++l2))->Bl w w'->K (a.put o.dst (.slice A' (n+m) c')) w'): if Region.wanted o (yielded ops a.tmps)=true then Oper.wp prog o a w K Q else E:=by
 have hw:Region.wanted o (yielded ops a.tmps)=true:=by simp[Region.wanted,hgd]
 rw[if_pos hw];obtain⟨ht,i,z,hi,hz,hsz,hby,hzs,hp⟩:=et31;have rd:∀{D:Addr} {k c:Nat} {l:List Int},Rd w .u8 (some D) k c l->0<k->∀j u,(ints .u8 l)[j]? = some u->w.cell? (D.add j)=some u:=by
  intro D k c l h h0 j u hu;obtain⟨b,o',e,_,hc⟩:=h.at_ (by have:=h.cap;omega);injection e with e
  subst e;rw[Addr.add_mid];exact hc j u hu
 obtain⟨v',w',hrun,h2,h3⟩:=run_append_arg_grows (P:=prog) w 31 o.type 5 i z 1 1 ht hi hz hsz hby hzs hp A n n (ints .u8 l1) (by rw[ints_len,hr.len,Nat.mul_one]) (rd hr hn) B m c (ints .u8 l2) (by rw[ints_len,hr2.len,Nat.mul_one]) (rd hr2 hm) o_ (by unfold maxLen;omega) o_;unfold Oper.wp execOp;simp only[ho,resolve,invoke,builtin,Sem.run_bind,Sem.run_pure,Result.andThen_ok,List.map_toArray,List.map_cons,List.map_nil,hs,hx,hrun];have hv:∃A' c',v'=.slice A' (n+m) c':=by
  rcases h2.2 with⟨rfl,h0⟩|⟨g,cap,_,rfl,_⟩
  · exact⟨none,0,by rw[h0]⟩
  exact⟨_,_,rfl⟩
 obtain⟨A',c',rfl⟩:=hv;exact h A' c' w' (by unfold ints at h2 ⊢;rw[List.map_append];exact h2) ((Below.refl _ w).grown h3 (Nat.le_refl _) (fun k hk=>by cases hk))
theorem zc137:Tryz.zeroCells137=(wlC zwl).toArray:=by kernel_rfl
theorem built137(parts:List (Nat×Value)):prog.built 137 parts=Instr.fill (#[(0,1),(1,1),(2,73),(75,1),(76,32)][·]?) (wlC zwl).toArray parts:=by kernel_rfl
theorem run_build137(x:WlP)(h:VwOk x.t x.ad x.ch)(h2:x.tag.length=32)(hX:∃A n c,x.X=.slice A n c)(w:World):(Instr.build 137 #[(0,.int .i64 x.lf),(1,.int .i64 x.fr),(2,.agg (vw x.e x.t x.ad x.k x.ch).toArray),(3,x.X),(4,.agg (ints .u8 x.tag).toArray)]).run prog w=.ok (.agg (wlC x).toArray) w:=by
 obtain⟨A,n,c,hX⟩:=hX;refine run_build w 137 _ _ ?_;rw[built137,hX];have e1:wlC zwl=[] ++ [.int .i64 0]++([.int .i64 0]++vw 0 z31 zb 0 z32++([.slice none 0 0]++ints .u8 zl)):=rfl;rw[e1,fill_splice (l1:=[]) (l0:=[.int .i64 0]) (vs:=[.int .i64 x.lf]) (off:=0) (size:=1) rfl rfl rfl rfl rfl];have e2:([]:List Value) ++ [.int .i64 x.lf]++([.int .i64 0]++vw 0 z31 zb 0 z32++([.slice none 0 0]++ints .u8 zl))=[.int .i64 x.lf] ++ [.int .i64 0]++(vw 0 z31 zb 0 z32++([.slice none 0 0]++ints .u8 zl)):=by simp
 rw[e2,fill_splice (l1:=[.int .i64 x.lf]) (l0:=[.int .i64 0]) (vs:=[.int .i64 x.fr]) (off:=1) (size:=1) rfl rfl rfl rfl rfl];have e3:[Value.int .i64 x.lf] ++ [.int .i64 x.fr]++(vw 0 z31 zb 0 z32++([.slice none 0 0]++ints .u8 zl))=[.int .i64 x.lf,.int .i64 x.fr]++vw 0 z31 zb 0 z32++([.slice none 0 0]++ints .u8 zl):=by simp
 rw[e3,fill_splice (l1:=[.int .i64 x.lf,.int .i64 x.fr]) (l0:=vw 0 z31 zb 0 z32) (vs:=(vw x.e x.t x.ad x.k x.ch)) (off:=2) (size:=73) rfl rfl rfl (vw_len h) (by rw[vw_len h,vw_len zvOk])];have e4:[Value.int .i64 x.lf,.int .i64 x.fr]++(vw x.e x.t x.ad x.k x.ch)++([.slice none 0 0]++ints .u8 zl)=([Value.int .i64 x.lf,.int .i64 x.fr]++(vw x.e x.t x.ad x.k x.ch)) ++ [.slice none 0 0]++ints .u8 zl:=by simp
 rw[e4,fill_splice (l1:=[Value.int .i64 x.lf,.int .i64 x.fr]++(vw x.e x.t x.ad x.k x.ch)) (l0:=[Value.slice none 0 0]) (vs:=[Value.slice A n c]) (off:=75) (size:=1) rfl rfl (by simp[vw_len h]) rfl rfl];have e5:([Value.int .i64 x.lf,.int .i64 x.fr]++(vw x.e x.t x.ad x.k x.ch)) ++ [.slice A n c]++ints .u8 zl=([Value.int .i64 x.lf,.int .i64 x.fr]++(vw x.e x.t x.ad x.k x.ch) ++ [.slice A n c])++ints .u8 zl ++ []:=by simp
 rw[e5,fill_splice (l1:=[Value.int .i64 x.lf,.int .i64 x.fr]++(vw x.e x.t x.ad x.k x.ch) ++ [Value.slice A n c]) (l0:=ints .u8 zl) (vs:=ints .u8 x.tag) (off:=76) (size:=32) rfl rfl (by simp[vw_len h]) (by rw[ints_len,h2]) (by rw[ints_len,ints_len,h2];rfl)];simp[Instr.fill,wlC,hX]
theorem step_build{K:Act->World->Prop}{Q:Exit->Act->World->Prop}(hgd:o.guard=none)(t:TypeId)(ps:Array (Nat×Operand))(ho:o.op=.build t ps)(parts:Array (Nat×Value))(hp:(ps.map fun(i,x)=>(i,a.eval x))=parts)(v:Value)(hrun:(Instr.build t parts).run prog w=.ok v w)(h:K (a.put o.dst v) w):if Region.wanted o (yielded ops a.tmps)=true then Oper.wp prog o a w K Q else E:=by
 have hw:Region.wanted o (yielded ops a.tmps)=true:=by simp[Region.wanted,hgd]
 rw[if_pos hw];unfold Oper.wp execOp;simp only[ho,hp,Sem.run_bind,hrun,Result.andThen_ok];exact h
end Go.Proofs.YtppjnahcnofokaaGreat.T
namespace Go.Proofs.YtppjnahcnofokaaGreat.T
open Go.RowKit Go.Proofs.YtppjnahcnofokaaGreatW.PrintLast
open Go.Proofs.Tryz
variable{k:IntKind}{a:Act}{b i n B base m fuel D B':Nat}{l ch p t0 q:List Int}{w w' w1 w2:World}{t:TypeId}{P:Int->Int->Prop}{cs:Array Value}{A A':Option Addr}{o oi:Oper}{e s f st fl:Int}{xs:List (List Int×Int×Int×Int)}{ops:Array Oper}{rest l0:List Oper}{v:Value}{r:Option Nat}{rs rs2:List (Option Addr×Nat×Nat×List Int)}{E:Prop}{vs l3:List Value}{ad ai go:List Bool}{N:Act->Prop}{place:Nat->Option (Nat×Nat)}{bad:Bool}{es es':List (Int×List Int)}{T:List TypeId}{ps:List (List Int)}
theorem et131:ET 131 137 108 376:=et_of (z:=.agg (wlC zwl).toArray) underlying131 kk kk dd
theorem own_gr2{e size c:Nat}{xs:List Value}(h:w.ownsRow base e size v n xs)(hg:Gr2 b c w w')(hb:b<base)(hc:c<base):w'.ownsRow base e size v n xs:=
 ⟨h.1,h.2.imp id (fun⟨g,cap,cur,e1,h1,h2,h3⟩=>⟨g,cap,cur,e1,h1,(hg.block g (Array.getElem?_eq_some_iff.1 h2).1 o_ o_).trans h2,h3⟩)⟩
variable{y:CmP}
theorem Rd.grown0{c:Nat}{row:Option Nat}(h:Rd w k A n c l)(hg:w.grownBy w' row)(hne:0<c->∀b o,A=some ⟨b,o,none⟩->some b≠row):Rd w' k A n c l:=by
 by_cases hc:0<c
 · exact h.grown hg (hne hc)
 exact⟨h.len,h.cap,fun h0=>absurd h0 hc⟩
structure WlS (w:World) (base:Nat) (v:Value) (n:Nat) (zs:List WlP):Prop where
 len:zs.length=n
 own:w.ownsRow base 137 108 v n (zs.flatMap wlC)
 ok:∀z ∈ zs,WlOk w z
 far:∀z ∈ zs,∀b o m c,z.X=.slice (some ⟨b,o,none⟩) m c->0<c->base<=b/\b<w.heap.size/\some b≠v.ownBlock
theorem WlS.nil(w:World)(base:Nat):WlS w base (.slice none 0 0) 0 []:=⟨rfl,World.ownsRow_nil _ _ _ _,(fun z h=>by cases h),(fun z h=>by cases h)⟩
variable{zs:List WlP}
theorem WlS.below(h:WlS w base v n zs)(hb:Bl w w'):WlS w' base v n zs:=
 ⟨h.len,own_below h.own hb,fun z hz=>(h.ok z hz).below hb,fun z hz b o m c e hc=>⟨(h.far z hz b o m c e hc).1,Nat.lt_of_lt_of_le (h.far z hz b o m c e hc).2.1 hb.size,(h.far z hz b o m c e hc).2.2⟩⟩
theorem WlOk.grown{z:WlP}{row:Option Nat}(h:WlOk w z)(hg:w.grownBy w' row)(hne:∀b o m c,z.X=.slice (some ⟨b,o,none⟩) m c->0<c->some b≠row):WlOk w' z:=by
 obtain⟨h1,h2,A,n,c,l,e,h3,h4⟩:=h;exact⟨h1,h2,A,n,c,l,e,h3.grown0 hg (fun hc b o ea=>hne b o n c (by rw[e,ea]) hc),h4⟩
theorem WlS.g{d:Nat}(h:WlS w base v n zs)(hg:w.grownBy w' (some d))(hd:d<base):WlS w' base v n zs:=
 ⟨h.len,own_g h.own hg hd,fun z hz=>(h.ok z hz).grown hg (fun b o m c e hc=>by have:=(h.far z hz b o m c e hc).1;simp;omega),fun z hz b o m c e hc=>⟨(h.far z hz b o m c e hc).1,Nat.lt_of_lt_of_le (h.far z hz b o m c e hc).2.1 hg.size,(h.far z hz b o m c e hc).2.2⟩⟩
theorem WlS.app{c':Nat}{z:WlP}(h:WlS w base v n zs)(hz:WlOk w z)(hfar:∀b o m c,z.X=.slice (some ⟨b,o,none⟩) m c->0<c->base<=b/\b<w.heap.size/\some b≠v.ownBlock)(hown:w'.ownsRow base 137 108 (.slice A' (n+1) c') (n+1) (zs.flatMap wlC++wlC z))(hg:w.grownBy w' v.ownBlock)(hat:(Value.slice A' (n+1) c').ownBlock=v.ownBlock\/(Value.slice A' (n+1) c').ownBlock=some w.heap.size):WlS w' base (.slice A' (n+1) c') (n+1) (zs ++ [z]):=by
 have hf:∀y ∈ zs ++ [z],∀b o m c,y.X=.slice (some ⟨b,o,none⟩) m c->0<c->base<=b/\b<w.heap.size/\some b≠v.ownBlock:=by
  intro y hy;rcases List.mem_append.1 hy with h'|h'
  · exact h.far y h'
  simp at h';subst h';exact hfar
 have ho:∀y ∈ zs ++ [z],WlOk w y:=by
  intro y hy;rcases List.mem_append.1 hy with h'|h'
  · exact h.ok y h'
  simp at h';subst h';exact hz
 refine⟨by simp[h.len],by simpa[List.flatMap_append] using hown,fun y hy=>(ho y hy).grown hg (fun b o m c e hc=>(hf y hy b o m c e hc).2.2),fun y hy b o m c e hc=>?_⟩;obtain⟨h1,h2,h3⟩:=hf y hy b o m c e hc;refine⟨h1,Nat.lt_of_lt_of_le h2 hg.size,?_⟩;rcases hat with e'|e'
 · rw[e'];exact h3
 rw[e'];simp;omega
def WlL(w:World)(A:Option Addr)(n c:Nat):Prop:=n<=c/\∀j,j<n->∃b o z,A=some ⟨b,o,none⟩/\b<w.heap.size/\w.rangeAt b (o+j*108) (wlC z)/\WlOk w z
theorem wl_chunk:∀(zs:List WlP) (_:∀z ∈ zs,(wlC z).length=108) (j:Nat) (hj:j<zs.length) (k:Nat) (v:Value),(wlC zs[j])[k]? = some v->(zs.flatMap wlC)[j*108+k]? = some v
 | [],_,j,hj,_,_,_=>by simp at hj
 | z :: zs,h,j,hj,k,v,hv=>by
  have hz:=h z s_;rw[List.flatMap_cons]
  cases j with
  | zero=>
   have hk:k<(wlC z).length:=(List.getElem?_eq_some_iff.1 hv).1;rw[Nat.zero_mul,Nat.zero_add,List.getElem?_append_left hk];exact hv
  | succ j=>
   rw[List.getElem?_append_right (by rw[hz];omega),hz,show(j+1)*108+k-108=j*108+k by omega];exact wl_chunk zs (fun y hy=>h y (by simp[hy])) j (by simpa using hj) k v (by simpa using hv)
theorem WlL.nil(w:World):WlL w none 0 0:=⟨Nat.le_refl _,fun j hj=>by omega⟩
variable{x:PyP}
end Go.Proofs.YtppjnahcnofokaaGreat.T
namespace Go.Proofs.YtppjnahcnofokaaGreat.T
open Go.RowKit Go.Proofs.YtppjnahcnofokaaGreatW.PrintLast
open Go.Proofs.Tryz
variable{k:IntKind}{a:Act}{b i n B base m fuel D B':Nat}{l ch p t0 q:List Int}{w w' w1 w2:World}{t:TypeId}{P:Int->Int->Prop}{cs:Array Value}{A A':Option Addr}{o oi:Oper}{e s f st fl:Int}{xs:List (List Int×Int×Int×Int)}{ops:Array Oper}{rest l0:List Oper}{v:Value}{r:Option Nat}{rs rs2:List (Option Addr×Nat×Nat×List Int)}{E:Prop}{vs l3:List Value}{ad ai go:List Bool}{N:Act->Prop}{place:Nat->Option (Nat×Nat)}{bad:Bool}{es es':List (Int×List Int)}{T:List TypeId}{ps:List (List Int)}
theorem KeyAt.apart{g:Nat}(h:KeyAt w g s)(h':Cel w b t vs)(hne:t≠161):b≠g:=by
 rintro rfl;obtain⟨_,d,p,m,u,h,_⟩:=h;rw[Cel,h]at h';injection h' with h'
 injection h' with _ h'
 exact hne h'.symm
theorem BxS.nil(w:World)(base:Nat):BxS w base (.slice none 0 0) 0 []:=⟨RowsO.nil _ _,fun r h=>(by cases h),fun r h=>(by cases h)⟩
variable{y:CmP}
section
variable {w w' w'':World} {b bv ba bx B:Nat} {x:PyP} {y:CmP} {x2:PyP} {V:List Value} {lA:List Bool} {p:List Int}
variable{y':CmP}
variable{x3:PyP}
theorem below_new{o:Obj}(h1:w1=w.alloc o)(hg:w1.grownBy w2 (some w.heap.size)):Bl w w2:=by
 subst h1;exact b0_.grown hg s_ (fun k hk=>by cases hk;omega)
end
theorem fill_one(cs:List Value)(n:Nat)(l0:List Value)(h0:l0.length=n)(hn:cs.length=n):Instr.fill (fun i=>some (i*n,n)) l0.toArray [(0,.agg cs.toArray)]=some cs.toArray:=by
 have e:l0.toArray=([]++l0 ++ []).toArray:=by simp
 rw[e,fill_splice (l1:=[]) (l0:=l0) (l3:=[]) (vs:=cs) (off:=0) (size:=n) s_ rfl rfl hn (by rw[h0,hn])];simp[Instr.fill]
theorem wl_bs{Q:Exit->Act->World->Prop}(hgd:o.guard=none)(X:Operand)(ho:o.op=.buildSlice 131 1 #[(0,X)])(z:WlP)(hz:(wlC z).length=108)(hx:a.eval X=.agg (wlC z).toArray)(h:wpList prog ops Q rest (a.put o.dst (.slice (some ⟨w.heap.size,0,none⟩) 1 1)) (w.alloc (.cells (wlC z).toArray 137))):wpList prog ops Q (o :: rest) a w:=by
 obtain⟨ht,i,z0,hi,hz0,hsz,hby,hzs,hp⟩:=et131;refine wpList_buildSlice hgd 131 137 1 #[(0,X)] ho (wlC z).toArray i z0 ht hi hz0 (by rw[hsz];decide) (by rw[hsz];decide) ?_ h;rw[hsz];simp only[List.map_toArray,List.map_cons,List.map_nil,hx];obtain⟨l0,hl0⟩:∃l0:List Value,((Array.range (1*108)).map (z0.cells[· % z0.cells.size]!))=l0.toArray:=⟨_,(Array.toArray_toList).symm⟩;rw[hl0];refine fill_one _ 108 l0 ?_ hz;have:=congrArg Array.size hl0;simpa using this.symm
end Go.Proofs.YtppjnahcnofokaaGreat.T
namespace Go.Proofs.YtppjnahcnofokaaGreat.T
open Go.RowKit Go.Proofs.YtppjnahcnofokaaGreatW.PrintLast
open Go.Proofs.Tryz
variable{k:IntKind}{a:Act}{b i n B base m fuel D B':Nat}{l ch p t0 q:List Int}{w w' w1 w2:World}{t:TypeId}{P:Int->Int->Prop}{cs:Array Value}{A A':Option Addr}{o oi:Oper}{e s f st fl:Int}{xs:List (List Int×Int×Int×Int)}{ops:Array Oper}{rest l0:List Oper}{v:Value}{r:Option Nat}{rs rs2:List (Option Addr×Nat×Nat×List Int)}{E:Prop}{vs l3:List Value}{ad ai go:List Bool}{N:Act->Prop}{place:Nat->Option (Nat×Nat)}{bad:Bool}{es es':List (Int×List Int)}{T:List TypeId}{ps:List (List Int)}
end Go.Proofs.YtppjnahcnofokaaGreat.T
namespace Go.Proofs.YtppjnahcnofokaaGreat.T
open Go.RowKit Go.Proofs.YtppjnahcnofokaaGreatW.PrintLast
open Go.Proofs.Tryz
variable{k:IntKind}{a:Act}{b i n B base m fuel D B':Nat}{l ch p t0 q:List Int}{w w' w1 w2:World}{t:TypeId}{P:Int->Int->Prop}{cs:Array Value}{A A':Option Addr}{o oi:Oper}{e s f st fl:Int}{xs:List (List Int×Int×Int×Int)}{ops:Array Oper}{rest l0:List Oper}{v:Value}{r:Option Nat}{rs rs2:List (Option Addr×Nat×Nat×List Int)}{E:Prop}{vs l3:List Value}{ad ai go:List Bool}{N:Act->Prop}{place:Nat->Option (Nat×Nat)}{bad:Bool}{es es':List (Int×List Int)}{T:List TypeId}{ps:List (List Int)}
def zpy:PyP:=⟨0,0,z31,z32,zb,0,.pointer none,zl,[false,false,false],z96,zl,zl⟩
theorem built82(parts:List (Nat×Value)):prog.built 82 parts=Instr.fill (#[(0,73),(73,1),(74,1),(75,32),(107,3),(110,96),(206,32),(238,32)][·]?) (pyC zpy).toArray parts:=by kernel_rfl
def npy(lf:Int)(G:Value)(ow:List Int):PyP:=⟨0,0,z31,z32,zb,lf,G,ow,[false,false,false],z96,zl,zl⟩
theorem npyOk{lf:Int}{a:Option Addr}{ow:List Int}(h1:0<=lf/\lf<8)(h2:ow.length=32):PyOk (npy lf (.pointer a) ow):=⟨zvOk,h2,rfl,rfl,rfl,rfl,h1,⟨a,rfl⟩⟩
theorem fill_G(lf:Int)(G:Value)(ow:List Int)(hG:∃a,G=.pointer a)(h:ow.length=32)(rest:List (Nat×Value)):Instr.fill (#[(0,73),(73,1),(74,1),(75,32),(107,3),(110,96),(206,32),(238,32)][·]?) (pyC (npy lf (.pointer none) zl)).toArray ((2,G) :: (3,.agg (ints .u8 ow).toArray) :: rest)=Instr.fill (#[(0,73),(73,1),(74,1),(75,32),(107,3),(110,96),(206,32),(238,32)][·]?) (pyC (npy lf G ow)).toArray rest:=by
 obtain⟨a,rfl⟩:=hG;have e0:pyC (npy lf (.pointer none) zl)=(zvw ++ [.int .i64 lf]) ++ [.pointer none]++(ints .u8 zl++(bools [false,false,false]++ints .u8 z96++ints .u8 zl++ints .u8 zl)):=by simp[pyC,npy,zvw]
 have e1:(zvw ++ [.int .i64 lf]) ++ [Value.pointer a]++(ints .u8 zl++(bools [false,false,false]++ints .u8 z96++ints .u8 zl++ints .u8 zl))=((zvw ++ [.int .i64 lf]) ++ [Value.pointer a])++ints .u8 zl++(bools [false,false,false]++ints .u8 z96++ints .u8 zl++ints .u8 zl):=by simp
 have e2:((zvw ++ [.int .i64 lf]) ++ [Value.pointer a])++ints .u8 ow++(bools [false,false,false]++ints .u8 z96++ints .u8 zl++ints .u8 zl)=pyC (npy lf (.pointer a) ow):=by simp[pyC,npy,zvw]
 rw[e0,fill_splice (l1:=zvw ++ [Value.int .i64 lf]) (l0:=[Value.pointer none]) (vs:=[Value.pointer a]) (off:=74) (size:=1) rfl rfl rfl rfl rfl,e1,
  fill_splice (l1:=(zvw ++ [Value.int .i64 lf]) ++ [Value.pointer a]) (l0:=ints .u8 zl) (vs:=ints .u8 ow) (off:=75) (size:=32) rfl rfl rfl (by rw[ints_len,h]) (by rw[ints_len,ints_len,h];rfl),e2]
theorem run_build82(a:Option Addr)(ow:List Int)(h:ow.length=32)(w:World):(Instr.build 82 #[(2,.pointer a),(3,.agg (ints .u8 ow).toArray)]).run prog w=.ok (.agg (pyC (npy 0 (.pointer a) ow)).toArray) w:=by
 refine run_build w 82 _ _ ?_;rw[built82];refine(fill_G 0 (.pointer a) ow ⟨a,rfl⟩ h []).trans ?_;rfl
end Go.Proofs.YtppjnahcnofokaaGreat.T
namespace Go.Proofs.YtppjnahcnofokaaGreat.T
open Go.RowKit Go.Proofs.YtppjnahcnofokaaGreatW.PrintLast
open Go.Proofs.Tryz
variable{k:IntKind}{a:Act}{b i n B base m fuel D B':Nat}{l ch p t0 q:List Int}{w w' w1 w2:World}{t:TypeId}{P:Int->Int->Prop}{cs:Array Value}{A A':Option Addr}{o oi:Oper}{e s f st fl:Int}{xs:List (List Int×Int×Int×Int)}{ops:Array Oper}{rest l0:List Oper}{v:Value}{r:Option Nat}{rs rs2:List (Option Addr×Nat×Nat×List Int)}{E:Prop}{vs l3:List Value}{ad ai go:List Bool}{N:Act->Prop}{place:Nat->Option (Nat×Nat)}{bad:Bool}{es es':List (Int×List Int)}{T:List TypeId}{ps:List (List Int)}
end Go.Proofs.YtppjnahcnofokaaGreat.T
namespace Go.Proofs.YtppjnahcnofokaaGreat.T
open Go.RowKit Go.Proofs.YtppjnahcnofokaaGreatW.PrintLast
open Go.Proofs.Tryz
variable{k:IntKind}{a:Act}{b i n B base m fuel D B':Nat}{l ch p t0 q:List Int}{w w' w1 w2:World}{t:TypeId}{P:Int->Int->Prop}{cs:Array Value}{A A':Option Addr}{o oi:Oper}{e s f st fl:Int}{xs:List (List Int×Int×Int×Int)}{ops:Array Oper}{rest l0:List Oper}{v:Value}{r:Option Nat}{rs rs2:List (Option Addr×Nat×Nat×List Int)}{E:Prop}{vs l3:List Value}{ad ai go:List Bool}{N:Act->Prop}{place:Nat->Option (Nat×Nat)}{bad:Bool}{es es':List (Int×List Int)}{T:List TypeId}{ps:List (List Int)}
end Go.Proofs.YtppjnahcnofokaaGreat.T
namespace Go.Proofs.YtppjnahcnofokaaGreat.T
open Go.RowKit Go.Proofs.YtppjnahcnofokaaGreatW.PrintLast
open Go.Proofs.Tryz
variable{k:IntKind}{a:Act}{b i n B base m fuel D B':Nat}{l ch p t0 q:List Int}{w w' w1 w2:World}{t:TypeId}{P:Int->Int->Prop}{cs:Array Value}{A A':Option Addr}{o oi:Oper}{e s f st fl:Int}{xs:List (List Int×Int×Int×Int)}{ops:Array Oper}{rest l0:List Oper}{v:Value}{r:Option Nat}{rs rs2:List (Option Addr×Nat×Nat×List Int)}{E:Prop}{vs l3:List Value}{ad ai go:List Bool}{N:Act->Prop}{place:Nat->Option (Nat×Nat)}{bad:Bool}{es es':List (Int×List Int)}{T:List TypeId}{ps:List (List Int)}
theorem arr43(a:Option Addr)(c:Nat)(w:World):(Instr.arrayAt 43 (.slice a 32 c)).run prog w=.ok (.pointer a) w:=by
 have h:prog.underlying 43=some (.array 32 5):=underlying43;simp[Instr.arrayAt,run_underlying h]
attribute [local go_sem] arr43
end Go.Proofs.YtppjnahcnofokaaGreat.T
namespace Go.Proofs.YtppjnahcnofokaaGreat.B
open Go.RowKit
open Go.Proofs.Tryz
variable{k:IntKind}{a:Act}{b i n B base m fuel D B':Nat}{l ch p t0 q:List Int}{w w' w1 w2:World}{t:TypeId}{P:Int->Int->Prop}{cs:Array Value}{A A':Option Addr}{o oi:Oper}{e s f st fl:Int}{xs:List (List Int×Int×Int×Int)}{ops:Array Oper}{rest l0:List Oper}{v:Value}{r:Option Nat}{rs rs2:List (Option Addr×Nat×Nat×List Int)}{E:Prop}{vs l3:List Value}{ad ai go:List Bool}{N:Act->Prop}{place:Nat->Option (Nat×Nat)}{bad:Bool}{es es':List (Int×List Int)}{T:List TypeId}{ps:List (List Int)}
theorem new_calls(w:World):Calls prog 20 #[] w fun e w'=>e=.returned (.pointer (some ⟨w.heap.size,0,none⟩))/\w'=w.alloc (.cells #[.slice none 0 0,.int .i64 0,.int .i64 0] 98):=by
 go_enter func20,ntmps20
 go_wp2;go_ret;exact⟨rfl,rfl⟩
theorem load_calls(b o:Nat)(x:Int)(w:World)(h0:w.cell? ⟨b,o,none⟩=some (.int .i64 x)): Calls prog 74 #[.pointer (some ⟨b,o,none⟩)] w fun e w'=>e=.returned (.int .i64 x)/\w=w':=by
 have hl:=run_call_load (P:=prog) func131 kk kk kk .i64 kk h0;go_enter func74,ntmps74
 go_wp2;go_ret;exact⟨rfl,rfl⟩
theorem store_calls(b o:Nat)(x:Int)(u:Value)(w:World)(h0:w.cell? ⟨b,o,none⟩=some u)(f0:w.frozen? ⟨b,o,none⟩=false): Calls prog 76 #[.pointer (some ⟨b,o,none⟩),.int .i64 x] w fun e w'=>e=.returned (.tuple #[])/\w.setCell ⟨b,o,none⟩ (.int .i64 x)=w':=by
 have hl:=run_call_store (P:=prog) func132 kk kk kk kk (k:=.i64) (y:=x) h0 f0;go_enter func76,ntmps76
 go_wp2;go_end0;exact⟨rfl,rfl⟩
theorem add_calls(b o:Nat)(x y:Int)(w:World)(h0:w.cell? ⟨b,o,none⟩=some (.int .i64 x))(f0:w.frozen? ⟨b,o,none⟩=false): Calls prog 21 #[.pointer (some ⟨b,o,none⟩),.int .i64 y] w fun e w'=>e=.returned (.int .i64 (wrap64 (x+y)))/\w.setCell ⟨b,o,none⟩ (.int .i64 (wrap64 (x+y)))=w':=by
 have hl:=run_call_add (P:=prog) func39 kk kk kk .i64 kk (y:=y) (s:=wrap64 (x+y)) h0 f0 (by simp[go_sem,wrap64,IntKind.wrap_i64]);go_enter func21,ntmps21
 go_wp2;go_ret;exact⟨rfl,rfl⟩
theorem eq_calls(cs:Array Value)(x y:Int)(b o:Nat)(w:World)(hb:w.cell? ⟨b,o,none⟩=some (.int .i64 y))(hlt:b<w.heap.size)(hsz:0<cs.size)(hcs:cs[0]=.int .i64 x): Calls prog 157 #[.agg cs,.pointer (some ⟨b,o,none⟩)] w fun e w'=>e=.returned (.bool (x==y))/\Bl w w':=by
 go_enter func157,ntmps157
 go_wp2;go_ret;exact⟨rfl,(Below.refl _ _).alloc (Nat.le_refl _) _⟩
/-! ### Papers, entries, rows of entries -/
def pc(p:List Int):List Value:=p.map (Value.int .u8)
def papA(p:List Int):Array Value:=(pc p).toArray
def ec(x:Int×List Int):List Value:=.int .i64 x.1 :: pc x.2
def enA(x:Int×List Int):Array Value:=(ec x).toArray
def rc(es:List (Int×List Int)):List Value:=es.flatMap ec
def Ok32(es:List (Int×List Int)):Prop:=∀x ∈ es,x.2.length=32
theorem ec_len{x:Int×List Int}(h:x.2.length=32):(ec x).length=33:=by simp[ec,pc,h]
theorem rc_len:∀{es:List (Int×List Int)},Ok32 es->(rc es).length=es.length*33
 | [],_=>rfl
 | x :: es,h=>by
  have h1:=h x (List.mem_cons_self ..);have h2:=rc_len (es:=es) (fun y hy=>h y (List.mem_cons_of_mem _ hy));simp only[rc,List.flatMap_cons,List.length_append,List.length_cons]at h2 ⊢;rw[h2,ec_len h1];omega
theorem rc_take:∀{es:List (Int×List Int)} (n:Nat),Ok32 es->rc (es.take n)=(rc es).take (n*33)
 | [],n,_=>by simp[rc]
 | x :: es,0,_=>by simp[rc]
 | x :: es,n+1,h=>by
  have h1:=ec_len (h x (List.mem_cons_self ..));have h2:=rc_take (es:=es) n (fun y hy=>h y (List.mem_cons_of_mem _ hy));simp only[rc,List.take_succ_cons,List.flatMap_cons]at h2 ⊢;rw[h2,List.take_append,h1,List.take_of_length_le (by omega:(ec x).length<=(n+1)*33),show(n+1)*33-33=n*33 by omega]
theorem rc_get:∀{es:List (Int×List Int)} {i:Nat} {x:Int×List Int},Ok32 es->es[i]? = some x->∀j v,(ec x)[j]? = some v->(rc es)[i*33+j]? = some v
 | [],i,x,_,h,_,_,_=>by simp at h
 | y :: es,0,x,hk,h,j,v,hv=>by
  simp only[List.getElem?_cons_zero,Option.some.injEq]at h;subst h;have h1:=ec_len (hk y (List.mem_cons_self ..));have hj:j<(ec y).length:=(List.getElem?_eq_some_iff.1 hv).1;simp only[rc,List.flatMap_cons];rw[Nat.zero_mul,Nat.zero_add,List.getElem?_append_left hj];exact hv
 | y :: es,i+1,x,hk,h,j,v,hv=>by
  simp only[List.getElem?_cons_succ]at h;have h1:=ec_len (hk y (List.mem_cons_self ..));have h2:=rc_get (fun z hz=>hk z (List.mem_cons_of_mem _ hz)) h j v hv;simp only[rc,List.flatMap_cons]at h2 ⊢;rw[List.getElem?_append_right o_,h1,show(i+1)*33+j-33=i*33+j by omega];exact h2
def Reads(w:World)(A:Option Addr)(es:List (Int×List Int)):Prop:=
 0<es.length->∃b o,A=some ⟨b,o,none⟩/\b<w.heap.size/\w.rangeAt b o (rc es)
theorem Reads.below(h:Reads w A es)(hb:Bl w w'):Reads w' A es:=fun hp=>by
 obtain⟨b,o,e,hlt,hr⟩:=h hp
 exact⟨b,o,e,Nat.lt_of_lt_of_le hlt hb.size,fun j v hv=>by rw[hb.cell hlt];exact hr j v hv⟩
theorem Reads.entry{o:Nat}{x:Int×List Int}(h:w.rangeAt b o (rc es))(hk:Ok32 es)(hi:es[i]? = some x):w.rangeAt b (o+i*33) (ec x):=fun j v hv=>by
 have:=h (i*33+j) v (rc_get hk hi j v hv)
 rw[show o+i*33+j=o+(i*33+j) by omega]
 exact this
def idx(es:List (Int×List Int))(e:Int):Int:=match es.findIdx? (fun x=>x.1==e) with|some i=>i|none=>-1
theorem info59:(prog.info? 149).map (·.size)=some 33:=by kernel_rfl
theorem info27:(prog.info? 43).map (·.size)=some 32:=by kernel_rfl
theorem find_calls(A:Option Addr)(n c:Nat)(es:List (Int×List Int))(e:Int)(cb co:Nat)(w:World)(hn:es.length=n)(hm:n<=9223372036854775807)(hk:Ok32 es)(hr:Reads w A es)(hc:w.cell? ⟨cb,co,none⟩=some (.int .i64 e))(hlt:cb<w.heap.size): Calls prog 156 #[.slice A n c,.func (.func 157) #[] #[.pointer (some ⟨cb,co,none⟩)]] w fun r w'=>r=.returned (.int .i64 (idx es e))/\Bl w w':=by
 go_enter func156,ntmps156
 go_wp2;go_loopw [8] (fun v wr=>∃k:Nat,k<=n/\v=.int .i64 k/\Hid (∀j,j<k->∀x,es[j]? = some x->(x.1==e)=false)/\Hid (Bl w wr)) (fun v _=>n-(intOf v).toNat)
 case atStart=>exact⟨0,Nat.zero_le _,rfl,fun j h=>by omega,Below.refl _ _⟩
 case round=>
  obtain⟨k,hkn,rfl,hno,hb⟩:=hrel;by_cases hlt2:k<n
  · obtain⟨b,o,rfl,hbl,hrg⟩:=hr o_;have hx:es[k]? = some es[k]:=List.getElem?_eq_getElem o_;obtain⟨x,hxe⟩:∃x,es[k]=x:=⟨_,rfl⟩;rw[hxe]at hx;have HX:=hd_ hx;have hrange:wr.rangeAt b (o+k*33) (ec x):=Reads.entry (fun j v hv=>by rw[hb.out.cell hbl];exact hrg j v hv) hk hx;have hsz:(ec x).length=33:=ec_len (hk x (by rw[<-hxe];exact List.getElem_mem _));(have hc':wr.cell? ⟨cb,co,none⟩=some (.int .i64 e):=by rw[hb.out.cell hlt];exact hc);have hlt':cb<wr.heap.size:=Nat.lt_of_lt_of_le hlt hb.out.size;have h0:Hid (∀h:0<(ec x).toArray.size,(ec x).toArray[0]=.int .i64 x.1):=fun _=>rfl;(have hsz0:Hid (0<(ec x).toArray.size):=by show 0<_;simp[hsz]);have HR:=hd_ hrange;have HS:=hd_ hsz;clear hx hxe hrange hsz hr hrg hn hk
    cases hq:x.1==e with
    | true=>
     have HQ:=hd_ hq;clear hq;go_wp2_with (first|((refine wpList_load_mid rfl 149 (.tmp 14) rr b (o+k*33) rr (ec x) _ HR.out underlying149 rfl ?hi ?_);(case hi=>(rw[HS.out];exact info59)))|(go_at_call 157;refine(eq_calls _ x.1 e cb co _ hc' hlt' hsz0 (h0 hsz0)).mono ?_;rintro r w2 ⟨rfl,hb2⟩;rw[HQ.out];have HB2:=hd_ hb2;clear hb2));go_ret;refine⟨?_,hb.out.trans (HB2.out.mono hb.out.size)⟩;(have:idx es e=(k:Int):=by unfold idx;(have:es.findIdx? (fun x=>x.1==e)=some k:=by rw[List.findIdx?_eq_some_iff_getElem];have hkl:k<es.length:=(List.getElem?_eq_some_iff.1 HX.out).1;refine⟨hkl,?_,fun j hj=>?_⟩;(· rw[(List.getElem?_eq_some_iff.1 HX.out).2];exact HQ.out);have:=hno j hj es[j] (List.getElem?_eq_getElem o_);simpa using this);rw[this]);rw[this];rfl
    | false=>
     have HQ:=hd_ hq;clear hq;go_wp2_with (first|((refine wpList_load_mid rfl 149 (.tmp 14) rr b (o+k*33) rr (ec x) _ HR.out underlying149 rfl ?hi ?_);(case hi=>(rw[HS.out];exact info59)))|(go_at_call 157;refine(eq_calls _ x.1 e cb co _ hc' hlt' hsz0 (h0 hsz0)).mono ?_;rintro r w2 ⟨rfl,hb2⟩;rw[HQ.out];have HB2:=hd_ hb2;clear hb2));go_roundw;case rel=>
      refine⟨k+1,by omega,by go_num,?_,hb.out.trans (HB2.out.mono hb.out.size)⟩;intro j hj y hy;by_cases hjk:j=k;(· subst hjk;have:=HX.out;rw[this]at hy;simp only[Option.some.injEq]at hy;rw[<-hy];exact HQ.out);exact hno j o_ y hy
     case measure=>simp[intOf];omega
  have hke:k=n:=by omega
  subst hke;have hb':=hb.out;have:idx es e = -1:=by unfold idx;(have:es.findIdx? (fun x=>x.1==e)=none:=by rw[List.findIdx?_eq_none_iff];intro x hx;obtain⟨j,hj,rfl⟩:=List.getElem_of_mem hx;exact hno j o_ _ (List.getElem?_eq_getElem hj));rw[this]
  have HI:=hd_ this;clear this hn hr;go_wp2;go_ret;exact⟨by rw[HI.out];rfl,hb'⟩
end Go.Proofs.YtppjnahcnofokaaGreat.B
namespace Go.Proofs.YtppjnahcnofokaaGreat.B
open Go.RowKit
open Go.Proofs.Tryz
variable{k:IntKind}{a:Act}{b i n B base m fuel D B':Nat}{l ch p t0 q:List Int}{w w' w1 w2:World}{t:TypeId}{P:Int->Int->Prop}{cs:Array Value}{A A':Option Addr}{o oi:Oper}{e s f st fl:Int}{xs:List (List Int×Int×Int×Int)}{ops:Array Oper}{rest l0:List Oper}{v:Value}{r:Option Nat}{rs rs2:List (Option Addr×Nat×Nat×List Int)}{E:Prop}{vs l3:List Value}{ad ai go:List Bool}{N:Act->Prop}{place:Nat->Option (Nat×Nat)}{bad:Bool}{es es':List (Int×List Int)}{T:List TypeId}{ps:List (List Int)}
def zeros:List Int:=List.replicate 32 0
def holdsW(w:World)(e:Int):World:=(w.alloc (.cells #[.int .i64 e] 3)).alloc (.cells (papA zeros) 43)
theorem holdsW_size(w:World)(e:Int):(holdsW w e).heap.size=w.heap.size+2:=by simp[holdsW]
theorem holdsW_below(w:World)(e:Int):Bl w (holdsW w e):=((Below.refl _ _).alloc (Nat.le_refl _) _).alloc s_ _
theorem holdsW_res(w:World)(e:Int):(holdsW w e).heap[w.heap.size+1]? = some (.cells (papA zeros) 43):=by
 show((w.heap.push _).push _)[w.heap.size+1]? = _;rw[Array.getElem?_push,if_pos s_]
theorem holdsW_box(w:World)(e:Int):(holdsW w e).cell? ⟨w.heap.size,0,none⟩=some (.int .i64 e):=by
 have:(holdsW w e).heap[w.heap.size]? = some (.cells #[.int .i64 e] 3):=by show((w.heap.push _).push _)[w.heap.size]? = _;rw[Array.getElem?_push,if_neg s_,Array.getElem?_push,if_pos rfl]
 rw[cell_of_row _ _ _ _ _ _ this];rfl
theorem papA_one(p:List Int):∀v ∈ pc p,v.oneCell'=true:=by
 intro v hv;simp only[pc,List.mem_map]at hv;obtain⟨n,_,rfl⟩:=hv;rfl
theorem papA_all(p:List Int):(papA p).all (·.oneCell')=true:=all_oneCell_toArray (papA_one p)
theorem papA_size(h:p.length=32):(papA p).size=32:=by simp[papA,pc,h]
theorem there_of_block(h:w.heap[b]? = some (.cells cs t (0,0))):w.there b 0 cs.size:=fun j hj=>by
 rw[Nat.zero_add,cell_of_row _ _ _ _ _ _ h]
 refine⟨?_,by simp[World.frozen?,h]⟩
 rw[Array.getElem?_eq_getElem hj]
 rfl
theorem below_setCells{a:World}(h:Below B a w)(hB:B<=b):∀(o:Nat) (vs:List Value),Below B a (w.setCells b o vs):=by
 intro o vs
 induction vs generalizing o w with
 | nil=>exact h
 | cons v vs ih=>exact ih (h.setCell hB v) (o+1)
def look(es:List (Int×List Int))(e:Int):List Int×Bool:=match es.find? (fun x=>x.1==e) with|some x=>(x.2,true)|none=>(zeros,false)
theorem look_none(h:es.findIdx? (fun x=>x.1==e)=none):look es e=(zeros,false):=by
 unfold look;rw[List.findIdx?_eq_none_iff]at h;rw[List.find?_eq_none.2 (fun x hx=>by simp[h x hx])]
theorem look_some(h:es.findIdx? (fun x=>x.1==e)=some i):∃x,es[i]? = some x/\look es e=(x.2,true):=by
 rw[List.findIdx?_eq_some_iff_getElem]at h;obtain⟨hi,h1,h2⟩:=h;refine⟨es[i],List.getElem?_eq_getElem hi,?_⟩;unfold look;have:es.find? (fun x=>x.1==e)=some es[i]:=by rw[List.find?_eq_some_iff_getElem];exact⟨h1,i,hi,rfl,fun j hj=>by simpa using h2 j hj⟩
 rw[this]
theorem holds_none(A:Option Addr)(c g:Nat)(es:List (Int×List Int))(e:Int)(w:World)(hg:g<w.heap.size)(h0:w.cell? ⟨g,0,none⟩=some (.slice A es.length c))(hm:es.length<=100)(hk:Ok32 es)(hr:Reads w A es)(hi:es.findIdx? (fun x=>x.1==e)=none): Calls prog 99 #[.pointer (some ⟨g,0,none⟩),.int .i64 e] w fun r w'=>r=.returned (.tuple #[.agg (papA zeros),.bool false])/\Bl w w':=by
 have HI:Hid (idx es e = -1):=by unfold idx;rw[hi];rfl
 clear hi;go_enter func99,ntmps99
 go_wp2_with fail;have hf:=find_calls A es.length c es e w.heap.size 0 (holdsW w e) rfl o_ hk (hr.below (holdsW_below w e)) (holdsW_box w e) (by rw[holdsW_size];omega);refine hf.mono ?_;clear hf hr h0;rintro r w2 ⟨rfl,hb⟩;rw[HI.out];have HB:Hid (Bl w w2):=(holdsW_below w e).trans (hb.mono (holdsW_below w e).size);have hres:w2.heap[w.heap.size+1]? = some (.cells (papA zeros) 43):=(hb.block _ (by rw[holdsW_size];omega)).trans (holdsW_res w e);have hth:=there_of_block hres;have HT:=hd_ hth;clear hb hres hth HI;go_wp2_with ((refine wpList_store_mid rfl 43 (.tmp 4) (.tmp 18) rr (w.heap.size+1) 0 (papA zeros) rr rr HT.out info27 (papA_all _) ?_));have hst:=HT.out
 have hload:(loadVar 43 ⟨w.heap.size+1,0,none⟩).run prog (w2.setCells (w.heap.size+1) 0 (papA zeros).toList)=.ok (.agg (papA zeros)) (w2.setCells (w.heap.size+1) 0 (papA zeros).toList):=
  run_loadVar_mid _ _ 0 43 (pc zeros) _ (World.rangeAt_setCells_same w2 _ 0 (pc zeros) hst) underlying43 rfl info27
 refine bodyPost_ret (v:=.tuple #[.agg (papA zeros),.bool false]) (by simp[results,results99,asAddr,hload]) rfl ⟨rfl,?_⟩;exact below_setCells HB.out o_ _ _
theorem holds_some(A:Option Addr)(c g:Nat)(es:List (Int×List Int))(e:Int)(w:World)(hg:g<w.heap.size)(h0:w.cell? ⟨g,0,none⟩=some (.slice A es.length c))(hm:es.length<=100)(hk:Ok32 es)(hr:Reads w A es)(i:Nat)(hi:es.findIdx? (fun x=>x.1==e)=some i)(x:Int×List Int)(hx:es[i]? = some x): Calls prog 99 #[.pointer (some ⟨g,0,none⟩),.int .i64 e] w fun r w'=>r=.returned (.tuple #[.agg (papA x.2),.bool true])/\Bl w w':=by
 have HI:Hid (idx es e=i):=by unfold idx;rw[hi];rfl
 have hil:i<es.length:=(List.getElem?_eq_some_iff.1 hx).1;have hx32:x.2.length=32:=hk x (List.mem_of_getElem? hx);obtain⟨b,o,rfl,hbl,hrg⟩:=hr o_;have HX:=hd_ hx;clear hi hx;go_enter func99,ntmps99
 go_wp2_with fail;have hf:=find_calls (some ⟨b,o,none⟩) es.length c es e w.heap.size 0 (holdsW w e) rfl o_ hk (hr.below (holdsW_below w e)) (holdsW_box w e) (by rw[holdsW_size];omega);refine hf.mono ?_;clear hf hr;rintro r w2 ⟨rfl,hb⟩;rw[HI.out];have HB:Hid (Bl w w2):=(holdsW_below w e).trans (hb.mono (holdsW_below w e).size);have hres:w2.heap[w.heap.size+1]? = some (.cells (papA zeros) 43):=(hb.block _ (by rw[holdsW_size];omega)).trans (holdsW_res w e);have HT:Hid (w2.there (w.heap.size+1) 0 (papA x.2).size):=by have:=there_of_block hres;rw[papA_size (by simp[zeros])]at this;rw[papA_size hx32];exact this
 have HR:Hid (w2.rangeAt b (o+i*33+1) (pc x.2)):=fun j v hv=>by have h1:=Reads.entry (w:=w2) (fun j v hv=>by rw[HB.out.cell hbl];exact hrg j v hv) hk HX.out (j+1) v (by simpa[ec] using hv);rw[show o+i*33+1+j=o+i*33+(j+1) by omega];exact h1
 have HL:Hid ((pc x.2).length=32):=by show _=_;simp[pc,hx32]
 have HS:Hid ((papA x.2).size=32):=papA_size hx32;have h0':w2.cell? ⟨g,0,none⟩=some (.slice (some ⟨b,o,none⟩) es.length c):=by rw[HB.out.cell hg];exact h0
 clear hb hres HI hrg HX hk hx32 h0;go_wp2_with (first|((refine wpList_load_mid rfl 43 (.tmp 25) rr b (o+i*33+1) rr (pc x.2) _ HR.out underlying43 rfl ?hi ?_);(case hi=>(rw[HL.out];exact info27)))|((refine wpList_store_mid rfl 43 (.tmp 4) (.tmp 26) rr (w.heap.size+1) 0 (papA x.2) rr rr HT.out ?hi (papA_all _) ?_);(case hi=>(rw[HS.out];exact info27))));have hst:=HT.out
 have hload:(loadVar 43 ⟨w.heap.size+1,0,none⟩).run prog (w2.setCells (w.heap.size+1) 0 (papA x.2).toList)=.ok (.agg (papA x.2)) (w2.setCells (w.heap.size+1) 0 (papA x.2).toList):=
  run_loadVar_mid _ _ 0 43 (pc x.2) _ (World.rangeAt_setCells_same w2 _ 0 (pc x.2) hst) underlying43 rfl (by rw[HL.out];exact info27)
 refine bodyPost_ret (v:=.tuple #[.agg (papA x.2),.bool true]) (by simp[results,results99,asAddr,hload]) rfl ⟨rfl,?_⟩;exact below_setCells HB.out o_ _ _
theorem holds_calls(A:Option Addr)(c g:Nat)(es:List (Int×List Int))(e:Int)(w:World)(hg:g<w.heap.size)(h0:w.cell? ⟨g,0,none⟩=some (.slice A es.length c))(hm:es.length<=100)(hk:Ok32 es)(hr:Reads w A es): Calls prog 99 #[.pointer (some ⟨g,0,none⟩),.int .i64 e] w fun r w'=>r=.returned (.tuple #[.agg (papA (look es e).1),.bool (look es e).2])/\Bl w w':=by
 cases hi:es.findIdx? (fun x=>x.1==e) with
 | none=>
  rw[look_none hi];exact holds_none A c g es e w hg h0 hm hk hr hi
 | some i=>
  obtain⟨x,hx,hl⟩:=look_some hi;rw[hl];exact holds_some A c g es e w hg h0 hm hk hr i hi x hx
end Go.Proofs.YtppjnahcnofokaaGreat.B
namespace Go.Proofs.YtppjnahcnofokaaGreat.B
open Go.RowKit
open Go.Proofs.Tryz
variable{k:IntKind}{a:Act}{b i n B base m fuel D B':Nat}{l ch p t0 q:List Int}{w w' w1 w2:World}{t:TypeId}{P:Int->Int->Prop}{cs:Array Value}{A A':Option Addr}{o oi:Oper}{e s f st fl:Int}{xs:List (List Int×Int×Int×Int)}{ops:Array Oper}{rest l0:List Oper}{v:Value}{r:Option Nat}{rs rs2:List (Option Addr×Nat×Nat×List Int)}{E:Prop}{vs l3:List Value}{ad ai go:List Bool}{N:Act->Prop}{place:Nat->Option (Nat×Nat)}{bad:Bool}{es es':List (Int×List Int)}{T:List TypeId}{ps:List (List Int)}
theorem info59z:(prog.info? 149).map (fun i=>(i.zero,i.size,i.bytes))=some (some (.agg (enA (0,zeros))),33,40):=by kernel_rfl
theorem rc_one(es:List (Int×List Int)):∀v ∈ rc es,v.oneCell'=true:=by
 intro v hv;simp only[rc,List.mem_flatMap,ec,List.mem_cons]at hv;obtain⟨x,_,rfl|h⟩:=hv
 · rfl
 exact papA_one _ v h
def Own(w:World)(base:Nat)(v:Value)(es:List (Int×List Int)):Prop:=w.ownsRow base 149 33 v es.length (rc es)
theorem Own.reads(h:Own w base v es):∃A c,v=.slice A es.length c/\es.length<=c/\Reads w A es:=by
 unfold Own at h;rcases h.2 with⟨rfl,h0⟩|⟨g,cap,cur,rfl,hb,hg,hn,hm,hs,ht⟩
 · exact⟨none,0,by rw[h0],by omega,fun h=>by omega⟩
 refine⟨_,cap,rfl,hn,fun _=>⟨g,0,rfl,(Array.getElem?_eq_some_iff.1 hg).1,fun j v hv=>?_⟩⟩;have hj:j<(rc es).length:=(List.getElem?_eq_some_iff.1 hv).1;rw[h.1]at hj;rw[Nat.zero_add,h.cellAt j hj];exact hv
theorem info_parts59:∃i,prog.info? 149=some i/\i.zero=some (.agg (enA (0,zeros)))/\i.size=33/\i.bytes=40:=by
 obtain⟨i,hi,h0,h1,h2⟩:=info_parts info59z;exact⟨i,hi,h0,h1,h2⟩
theorem zero_size:(Value.agg (enA (0,zeros))).cells.size=33:=by simp[Value.cells,enA,ec,pc,zeros]
theorem clone_calls(A:Option Addr)(n c:Nat)(es:List (Int×List Int))(w:World)(hn:es.length=n)(hm:n<=100)(hk:Ok32 es)(hr:Reads w A es): Calls prog 75 #[.slice A n c] w fun r w'=>∃v,r=.returned v/\Own w' w.heap.size v es/\Bl w w':=by
 have hq:=fun(w:World)=>Lib.run_eql_slice_nil (P:=prog) (w:=w) 96 149 A n c 0 0 underlying96
 cases A with
 | none=>
  have he:es=[]:=by(rcases Nat.eq_zero_or_pos es.length with h|h);(· exact List.eq_nil_of_length_eq_zero h);obtain⟨b,o,e,_⟩:=hr h;exact absurd e s_
  subst he;clear hr hk hm;go_enter func75,ntmps75
  go_wp2;go_ret;exact⟨_,rfl,World.ownsRow_nil _ _ _ _,Below.refl _ _⟩
 | some ad=>
  obtain⟨i0,hi,hz0,hz1,hz2⟩:=info_parts59;have hown:(w.alloc (.cells #[] 149)).ownsRow w.heap.size 149 33 (.slice (some ⟨w.heap.size,0,none⟩) 0 0) 0 []:=World.ownsRow_lit w #[] 0 (Nat.le_refl _) (by unfold maxLen;omega) rfl;have hnews:∀j u,(rc es)[j]? = some u->(w.alloc (.cells #[] 149)).cell? (ad.add j)=some u:=fun j u hu=>by(rcases Nat.eq_zero_or_pos es.length with h|h);(· have:es=[]:=List.eq_nil_of_length_eq_zero h;subst this;simp[rc]at hu);obtain⟨b,o,e,hlt,hrg⟩:=hr h;(injection e with e);subst e;rw[Addr.add_mid,World.cell?_alloc_past _ _ _ hlt];exact hrg j u hu
  have HO:=hd_ hown;have HN:=hd_ hnews;have HL:Hid ((rc es).length=n*33):=by show _=_;rw[rc_len hk,hn]
  clear hown hnews hr hk;go_enter func75,ntmps75
  go_wp2_with (at_builtin;refine wpList_append_own_at _ rfl (.tmp 5) (.tmp 6) 96 rfl w.heap.size 149 i0 (.agg (enA (0,zeros))) 33 40 underlying96 hi hz0 hz1 hz2 zero_size o_ (.slice (some ⟨w.heap.size,0,none⟩) 0 0) 0 [] rfl HO.out ad n c (rc es) rfl HL.out HN.out (rc_one es) (by unfold maxLen;omega) o_ s_ ?_;intro v' w1 hown1 hgrow hnil hat);go_ret;refine⟨_,rfl,?_,?_⟩
  · unfold Own;rw[hn];simpa using hown1
  exact((Below.refl _ _).alloc (Nat.le_refl _) _).grown hgrow s_ (fun k h=>by simp[Value.ownBlock]at h;omega)
end Go.Proofs.YtppjnahcnofokaaGreat.B
namespace Go.Proofs.YtppjnahcnofokaaGreat.B
open Go.RowKit
open Go.Proofs.Tryz
variable{k:IntKind}{a:Act}{b i n B base m fuel D B':Nat}{l ch p t0 q:List Int}{w w' w1 w2:World}{t:TypeId}{P:Int->Int->Prop}{cs:Array Value}{A A':Option Addr}{o oi:Oper}{e s f st fl:Int}{xs:List (List Int×Int×Int×Int)}{ops:Array Oper}{rest l0:List Oper}{v:Value}{r:Option Nat}{rs rs2:List (Option Addr×Nat×Nat×List Int)}{E:Prop}{vs l3:List Value}{ad ai go:List Bool}{N:Act->Prop}{place:Nat->Option (Nat×Nat)}{bad:Bool}{es es':List (Int×List Int)}{T:List TypeId}{ps:List (List Int)}
theorem info5:(prog.info? 5).map (fun i=>(i.zero,i.size,i.bytes))=some (some (.int .u8 0),1,1):=by kernel_rfl
theorem papA_get(p:List Int)(j:Nat)(x:Int)(h:p[j]? = some x):(papA p)[j]? = some (.int .u8 x):=by
 simp[papA,pc,h]
theorem run_part5(w:World)(xs:Array Value)(j:Nat)(v:Value)(h:xs[j]? = some v):(part 5 xs j).run prog w=.ok v w:=
 run_part_plain w kk h
theorem run_items(d:Nat)(p q:List Int)(w:World):∀is:List Nat,(∀j ∈ is,j<p.length/\j<q.length)->(Op.eqItems (d+1) 5 1 (papA p) (papA q) is).run prog w=.ok (is.all fun j=>p[j]? == q[j]?) w
 | [],_=>by simp[Op.eqItems]
 | j :: is,h=>by
  obtain⟨hp,hq⟩:=h j (List.mem_cons_self ..);have h1:p[j]? = some p[j]:=List.getElem?_eq_getElem hp;have h2:q[j]? = some q[j]:=List.getElem?_eq_getElem hq;have ih:=run_items d p q w is (fun k hk=>h k (List.mem_cons_of_mem _ hk));have e1:=run_part5 w (papA p) j _ (papA_get p j _ h1);have e2:=run_part5 w (papA q) j _ (papA_get q j _ h2);have e3:=run_equalIn_int (P:=prog) w d 5 .u8 .u8 p[j] q[j] underlying5;simp only[Op.eqItems,Nat.mul_one,Sem.run_bind,e1,e2,e3,Result.andThen_ok,List.all_cons,h1,h2]
  cases hpq:(p[j]==q[j]) with
  | true=>simp[ih,hpq]
  | false=>simp[hpq]
theorem run_eq_hash(p q:List Int)(hp:p.length=32)(hq:q.length=32)(w:World):(binOp .eql 43 (.agg (papA p)) (.agg (papA q))).run prog w=.ok (.bool (p==q)) w:=by
 obtain⟨i,hi,_,_,_⟩:=info_parts info5;have hc:prog.cellsOf 5=1:=by kernel_rfl
 have h:=run_equalIn_array (P:=prog) w 9999 (papA p) (papA q) underlying43 hi;rw[hc,run_items 9998 p q w (List.range 32) (fun j hj=>by simp at hj;omega)]at h;have hall:((List.range 32).all fun j=>p[j]? == q[j]?)=(p==q):=by
  rw[Bool.eq_iff_iff,List.all_eq_true,beq_iff_eq];constructor
  · intro ha;apply List.ext_getElem? ;intro j;by_cases hj:j<32;(· simpa using ha j (by simpa using hj));rw[List.getElem?_eq_none o_,List.getElem?_eq_none o_]
  rintro rfl j _;simp
 rw[hall]at h;simp only[binOp];simp[Op.equal,Op.maxDepth,h]
end Go.Proofs.YtppjnahcnofokaaGreat.B
namespace Go.Proofs.YtppjnahcnofokaaGreat.B
open Go.RowKit
open Go.Proofs.Tryz
variable{k:IntKind}{a:Act}{b i n B base m fuel D B':Nat}{l ch p t0 q:List Int}{w w' w1 w2:World}{t:TypeId}{P:Int->Int->Prop}{cs:Array Value}{A A':Option Addr}{o oi:Oper}{e s f st fl:Int}{xs:List (List Int×Int×Int×Int)}{ops:Array Oper}{rest l0:List Oper}{v:Value}{r:Option Nat}{rs rs2:List (Option Addr×Nat×Nat×List Int)}{E:Prop}{vs l3:List Value}{ad ai go:List Bool}{N:Act->Prop}{place:Nat->Option (Nat×Nat)}{bad:Bool}{es es':List (Int×List Int)}{T:List TypeId}{ps:List (List Int)}
structure BookAt (w:World) (base g:Nat) (v:Value) (es:List (Int×List Int)) (st fl:Int):Prop where
 lo:base<=g
 blk:w.heap[g]? = some (.cells #[v,.int .i64 st,.int .i64 fl] 98 (0,0))
 own:Own w base v es
 ok:Ok32 es
 len:es.length<=100
structure Chg (w w':World) (g:Nat) (r:Option Nat):Prop where
 os:w'.os=w.os
 tape:w'.tape=w.tape
 output:w'.output=w.output
 size:w.heap.size<=w'.heap.size
 block:∀k,k<w.heap.size->k≠g->some k≠r->w'.heap[k]? = w.heap[k]?
theorem Chg.of_below(h:Bl w w')(g:Nat)(r:Option Nat):Chg w w' g r:=⟨h.os,h.tape,h.output,h.size,fun k hk _ _=>h.block k hk⟩
theorem BookAt.lt{g:Nat}(h:BookAt w base g v es st fl):g<w.heap.size:=(Array.getElem?_eq_some_iff.1 h.blk).1
theorem BookAt.cell{g:Nat}(h:BookAt w base g v es st fl)(i:Nat):w.cell? ⟨g,i,none⟩ = #[v,.int .i64 st,.int .i64 fl][i]?:=cell_of_row _ _ _ _ _ _ h.blk
theorem BookAt.free{g:Nat}(h:BookAt w base g v es st fl)(i:Nat):w.frozen? ⟨g,i,none⟩=false:=by simp[World.frozen?,h.blk]
theorem BookAt.below{g:Nat}(h:BookAt w base g v es st fl)(hb:Bl w w'):BookAt w' base g v es st fl:=
 ⟨h.lo,(hb.block g h.lt).trans h.blk,h.own.kept (row:=none) ⟨hb.os,hb.tape,hb.output,hb.size,fun k hk _=>hb.block k hk⟩ (by cases hv:v.ownBlock<;>simp),h.ok,h.len⟩
theorem BookAt.apart{g:Nat}(h:BookAt w base g v es st fl):v.ownBlock≠some g:=by
 intro e;rcases h.own.2 with⟨rfl,_⟩|⟨g',cap,cur,rfl,_,hg,_⟩
 · simp[Value.ownBlock]at e
 simp only[Value.ownBlock,Option.some.injEq]at e;subst e;rw[h.blk]at hg;simp at hg
theorem BookAt.far{g:Nat}(h:BookAt w base g v es st fl){g':Nat}(hc:Chg w w' g' r)(h1:g≠g')(h2:some g≠r)(h3:v.ownBlock≠some g')(h4:v.ownBlock=none\/v.ownBlock≠r):BookAt w' base g v es st fl:=by
 refine⟨h.lo,(hc.block g h.lt h1 h2).trans h.blk,?_,h.ok,h.len⟩;refine⟨h.own.1,?_⟩;rcases h.own.2 with h0|⟨k,cap,cur,rfl,hk,hg,r1,r2,r3,r4⟩
 · exact Or.inl h0
 refine Or.inr ⟨k,cap,cur,rfl,hk,(hc.block k (Array.getElem?_eq_some_iff.1 hg).1 (fun e=>h3 (by rw[<-e];rfl)) ?_).trans hg,r1,r2,r3,r4⟩;rcases h4 with h4|h4
 · simp[Value.ownBlock]at h4
 exact h4
def writeOf(es:List (Int×List Int))(e:Int)(p:List Int):Int×List (Int×List Int):=
 if e<0\/1099511627776<e then (1,es) else
 if (look es e).2=true then (if (look es e).1=p then (0,es) else (9,es)) else
 if 100<=es.length then (12,es) else (0,es ++ [(e,p)])
theorem write_out(g:Nat)(e:Int)(p:List Int)(w:World)(he:e<0\/1099511627776<e): Calls prog 64 #[.pointer (some ⟨g,0,none⟩),.int .i64 e,.agg (papA p)] w fun r w'=>r=.returned (.int .i64 1)/\Bl w w':=by
 by_cases h1:e<0
 · clear he;(go_enter func64,ntmps64);go_wp2;go_ret;exact⟨rfl,(Below.refl _ _).alloc (Nat.le_refl _) _⟩
 have h2:1099511627776<e:=by omega
 clear he;go_enter func64,ntmps64
 go_wp2;go_ret;exact⟨rfl,(Below.refl _ _).alloc (Nat.le_refl _) _⟩
theorem look_len(hk:Ok32 es)(e:Int):(look es e).1.length=32:=by
 unfold look;split
 · rename_i x h;exact hk x (List.mem_of_find?_eq_some h)
 simp[zeros]
section
variable {P:Program} {ops:Array Oper} {rest:List Oper} {o:Oper} {a:Act} {Q:Exit->Act->World->Prop} {W:World}
theorem unguard(hw:Region.wanted o (yielded ops a.tmps)=true)(h:wpList P ops Q ({o with guard:=none } :: rest) a W):wpList P ops Q (o :: rest) a W:=by
 have h1:Region.wanted { o with guard:=none } (yielded ops a.tmps)=true:=rfl;unfold wpList at h ⊢;rw[if_pos h1]at h;rw[if_pos hw];exact h
end
def heldW(w:World)(h:List Int):World:=(w.alloc (.cells (papA zeros) 43)).setCells w.heap.size 0 (papA h).toList
theorem alloc_there(w:World)(h:List Int)(hh:h.length=32):(w.alloc (.cells (papA zeros) 43)).there w.heap.size 0 (papA h).size:=by
 have:=there_of_block (heap_alloc_new w (.cells (papA zeros) 43));rw[papA_size (by simp[zeros])]at this;rw[papA_size hh];exact this
theorem heldW_below(w:World)(h:List Int):Bl w (heldW w h):=below_setCells ((Below.refl _ _).alloc (Nat.le_refl _) _) (Nat.le_refl _) _ _
theorem heldW_reads(w:World)(h:List Int)(hh:h.length=32):(heldW w h).rangeAt w.heap.size 0 (pc h):=World.rangeAt_setCells_same _ _ 0 (pc h) (alloc_there w h hh)
theorem range_of_block{cs:List Value}{fr:Nat×Nat}(h:w.heap[b]? = some (.cells cs.toArray t fr)):w.rangeAt b 0 cs:=fun j v hv=>by
 rw[Nat.zero_add,cell_of_row _ _ _ _ _ _ h]
 simpa using hv
theorem write_found(base g:Nat)(v:Value)(es:List (Int×List Int))(st fl e:Int)(p:List Int)(w:World)(hp:p.length=32)(hB:BookAt w base g v es st fl)(h1:0<=e)(h2:e<=1099511627776)(hl:(look es e).2=true)(q:Bool)(hq:((look es e).1==p)=q): Calls prog 64 #[.pointer (some ⟨g,0,none⟩),.int .i64 e,.agg (papA p)] w fun r w'=>r=.returned (.int .i64 (if q=true then 0 else 9))/\Bl w w':=by
 obtain⟨A,c,rfl,_,hr⟩:=hB.own.reads;have hb1:Bl w (w.alloc (.cells (papA p) 43)):=(Below.refl _ _).alloc (Nat.le_refl _) _;have hB1:=hB.below hb1;have hh:=holds_calls A c g es e (w.alloc (.cells (papA p) 43)) hB1.lt (by rw[hB1.cell];rfl) hB.len hB.ok (hr.below hb1);rw[hl]at hh;have h32:=look_len hB.ok e;generalize (look es e).1=h at *;have HQ:=hd_ hq;have HH:=hd_ hh;have heq:∀w:World,(binOp .eql 43 (.agg (pc h).toArray) (.agg (pc p).toArray)).run prog w=.ok (.bool q) w:=fun w=>by rw[<-hq];exact run_eq_hash h p h32 hp w
 have HL:Hid ((prog.info? 43).map (·.size)=some (papA h).size):=by show _=_;rw[papA_size h32];exact info27
 have HLh:Hid ((prog.info? 43).map (·.size)=some (pc h).length):=by show _=_;rw[pc,List.length_map,h32];exact info27
 have HLp:Hid ((prog.info? 43).map (·.size)=some (pc p).length):=by show _=_;rw[pc,List.length_map,hp];exact info27
 have HT:Hid (∀w:World,(w.alloc (.cells (papA zeros) 43)).there w.heap.size 0 (papA h).size):=fun w=>alloc_there w h h32;have HR1:Hid (∀w:World,(heldW w h).rangeAt w.heap.size 0 (pc h)):=fun w=>heldW_reads w h h32;clear hB hr hB1 hh hl hp hq hb1 h32;go_enter func64,ntmps64
 go_wp2_with fail;refine HH.out.mono ?_;clear HH;rintro r w2 ⟨rfl,hb⟩;have HB:Hid (Bl w w2):=((Below.refl _ _).alloc (Nat.le_refl _) _).trans (hb.mono s_);have hres:w2.heap[w.heap.size]? = some (.cells (papA p) 43):=(hb.block _ s_).trans (heap_alloc_new _ _);have hlt:w.heap.size<w2.heap.size:=(Array.getElem?_eq_some_iff.1 hres).1;have HR2:Hid ((heldW w2 h).rangeAt w.heap.size 0 (pc p)):=range_of_block (((heldW_below w2 h).block _ hlt).trans hres);clear hb hres hlt
 cases q with
 | true=>
  go_wp2_with (first|(refine wpList_store_mid rfl 43 (.tmp 7) (.tmp 23) rr w2.heap.size 0 (papA h) rr rr (HT.out w2) HL.out (papA_all _) ?_)|((refine unguard rr ?_);(refine wpList_load_mid rfl 43 (.tmp 7) rr w2.heap.size 0 rr (pc h) _ (HR1.out w2) underlying43 rfl HLh.out ?_))|((refine unguard rr ?_);(refine wpList_load_mid rfl 43 (.tmp 5) rr w.heap.size 0 rr (pc p) _ HR2.out underlying43 rfl HLp.out ?_)));go_ret;exact⟨rfl,HB.out.trans ((heldW_below _ _).mono HB.out.size)⟩
 | false=>
  go_wp2_with (first|(refine wpList_store_mid rfl 43 (.tmp 7) (.tmp 23) rr w2.heap.size 0 (papA h) rr rr (HT.out w2) HL.out (papA_all _) ?_)|((refine unguard rr ?_);(refine wpList_load_mid rfl 43 (.tmp 7) rr w2.heap.size 0 rr (pc h) _ (HR1.out w2) underlying43 rfl HLh.out ?_))|((refine unguard rr ?_);(refine wpList_load_mid rfl 43 (.tmp 5) rr w.heap.size 0 rr (pc p) _ HR2.out underlying43 rfl HLp.out ?_)));go_ret;exact⟨rfl,HB.out.trans ((heldW_below _ _).mono HB.out.size)⟩
theorem write_full(base g:Nat)(v:Value)(es:List (Int×List Int))(st fl e:Int)(p:List Int)(w:World)(hB:BookAt w base g v es st fl)(h1:0<=e)(h2:e<=1099511627776)(hl:(look es e).2=false)(h100:100<=es.length): Calls prog 64 #[.pointer (some ⟨g,0,none⟩),.int .i64 e,.agg (papA p)] w fun r w'=>r=.returned (.int .i64 12)/\Bl w w':=by
 obtain⟨A,c,rfl,_,hr⟩:=hB.own.reads;have hb1:Bl w (w.alloc (.cells (papA p) 43)):=(Below.refl _ _).alloc (Nat.le_refl _) _;have hB1:=hB.below hb1;have hh:=holds_calls A c g es e (w.alloc (.cells (papA p) 43)) hB1.lt (by rw[hB1.cell];rfl) hB.len hB.ok (hr.below hb1);rw[hl]at hh;have h32:=look_len hB.ok e;generalize (look es e).1=hs at *;have HH:=hd_ hh;have HL:Hid ((prog.info? 43).map (·.size)=some (papA hs).size):=by show _=_;rw[papA_size h32];exact info27
 have HT:Hid (∀w:World,(w.alloc (.cells (papA zeros) 43)).there w.heap.size 0 (papA hs).size):=fun w=>alloc_there w hs h32;have HBk:=hd_ hB;clear hB hr hB1 hh hl hb1 h32;go_enter func64,ntmps64
 go_wp2_with fail;refine HH.out.mono ?_;clear HH;rintro r w2 ⟨rfl,hb⟩;have HB:Hid (Bl w w2):=((Below.refl _ _).alloc (Nat.le_refl _) _).trans (hb.mono s_);have hcell:(heldW w2 hs).cell? ⟨g,0,none⟩=some (.slice A es.length c):=by rw[(HB.out.trans ((heldW_below w2 hs).mono HB.out.size)).cell HBk.out.lt,HBk.out.cell];rfl
 obtain⟨w3,hw3⟩:=ex_ (heldW w2 hs);rw[<-hw3]at hcell;have HW:=hd_ hw3;clear hb hw3;go_wp2_with (first|((refine wpList_store_mid rfl 43 (.tmp 7) (.tmp 23) rr w2.heap.size 0 (papA hs) rr rr (HT.out w2) HL.out (papA_all _) ?_);change wpList _ _ _ _ _ (heldW w2 hs);rw[<-HW.out]));go_ret;exact⟨rfl,by rw[HW.out];exact HB.out.trans ((heldW_below _ _).mono HB.out.size)⟩
end Go.Proofs.YtppjnahcnofokaaGreat.B
namespace Go.Proofs.YtppjnahcnofokaaGreat.B
open Go.RowKit
open Go.Proofs.Tryz
variable{k:IntKind}{a:Act}{b i n B base m fuel D B':Nat}{l ch p t0 q:List Int}{w w' w1 w2:World}{t:TypeId}{P:Int->Int->Prop}{cs:Array Value}{A A':Option Addr}{o oi:Oper}{e s f st fl:Int}{xs:List (List Int×Int×Int×Int)}{ops:Array Oper}{rest l0:List Oper}{v:Value}{r:Option Nat}{rs rs2:List (Option Addr×Nat×Nat×List Int)}{E:Prop}{vs l3:List Value}{ad ai go:List Bool}{N:Act->Prop}{place:Nat->Option (Nat×Nat)}{bad:Bool}{es es':List (Int×List Int)}{T:List TypeId}{ps:List (List Int)}
theorem list32(p:List Int)(h:p.length=32):∃a0 a1 a2 a3 a4 a5 a6 a7 a8 a9 a10 a11 a12 a13 a14 a15 a16 a17 a18 a19 a20 a21 a22 a23 a24 a25 a26 a27 a28 a29 a30 a31:Int,p=[a0,a1,a2,a3,a4,a5,a6,a7,a8,a9,a10,a11,a12,a13,a14,a15,a16,a17,a18,a19,a20,a21,a22,a23,a24,a25,a26,a27,a28,a29,a30,a31]:=by
 match p,h with
 | [a0,a1,a2,a3,a4,a5,a6,a7,a8,a9,a10,a11,a12,a13,a14,a15,a16,a17,a18,a19,a20,a21,a22,a23,a24,a25,a26,a27,a28,a29,a30,a31],_=>exact⟨_,_,_,_,_,_,_,_,_,_,_,_,_,_,_,_,_,_,_,_,_,_,_,_,_,_,_,_,_,_,_,_,rfl⟩
theorem built59_at(e:Int)(a0 a1 a2 a3 a4 a5 a6 a7 a8 a9 a10 a11 a12 a13 a14 a15 a16 a17 a18 a19 a20 a21 a22 a23 a24 a25 a26 a27 a28 a29 a30 a31:Int):prog.built 149 [(0,.int .i64 e),(1,.agg (papA [a0,a1,a2,a3,a4,a5,a6,a7,a8,a9,a10,a11,a12,a13,a14,a15,a16,a17,a18,a19,a20,a21,a22,a23,a24,a25,a26,a27,a28,a29,a30,a31]))]=some (enA (e,[a0,a1,a2,a3,a4,a5,a6,a7,a8,a9,a10,a11,a12,a13,a14,a15,a16,a17,a18,a19,a20,a21,a22,a23,a24,a25,a26,a27,a28,a29,a30,a31])):=by kernel_rfl
theorem run_build59(e:Int)(p:List Int)(hp:p.length=32)(w:World):(Instr.build 149 #[(0,.int .i64 e),(1,.agg (papA p))]).run prog w=.ok (.agg (enA (e,p))) w:=by
 obtain⟨a0,a1,a2,a3,a4,a5,a6,a7,a8,a9,a10,a11,a12,a13,a14,a15,a16,a17,a18,a19,a20,a21,a22,a23,a24,a25,a26,a27,a28,a29,a30,a31,rfl⟩:=list32 p hp;exact run_build w 149 _ _ (built59_at e _ _ _ _ _ _ _ _ _ _ _ _ _ _ _ _ _ _ _ _ _ _ _ _ _ _ _ _ _ _ _ _)
theorem fill59_at(e:Int)(a0 a1 a2 a3 a4 a5 a6 a7 a8 a9 a10 a11 a12 a13 a14 a15 a16 a17 a18 a19 a20 a21 a22 a23 a24 a25 a26 a27 a28 a29 a30 a31:Int):Instr.fill (fun i=>some (i*33,33)) ((Array.range (1*33)).map ((Value.agg (enA (0,zeros))).cells[· % (Value.agg (enA (0,zeros))).cells.size]!)) [(0,.agg (enA (e,[a0,a1,a2,a3,a4,a5,a6,a7,a8,a9,a10,a11,a12,a13,a14,a15,a16,a17,a18,a19,a20,a21,a22,a23,a24,a25,a26,a27,a28,a29,a30,a31])))]=some (enA (e,[a0,a1,a2,a3,a4,a5,a6,a7,a8,a9,a10,a11,a12,a13,a14,a15,a16,a17,a18,a19,a20,a21,a22,a23,a24,a25,a26,a27,a28,a29,a30,a31])):=by kernel_rfl
theorem run_bs59(x:Int×List Int)(hp:x.2.length=32)(w:World):(Instr.buildSlice 96 1 #[(0,.agg (enA x))]).run prog w=.ok (.slice (some ⟨w.heap.size,0,none⟩) 1 1) (w.alloc (.cells (enA x) 149)):=by
 obtain⟨e,p⟩:=x;obtain⟨a0,a1,a2,a3,a4,a5,a6,a7,a8,a9,a10,a11,a12,a13,a14,a15,a16,a17,a18,a19,a20,a21,a22,a23,a24,a25,a26,a27,a28,a29,a30,a31,rfl⟩:=list32 p hp;obtain⟨i,hi,hz,hs,_⟩:=info_parts59;refine run_buildSlice w 96 149 1 _ _ i (.agg (enA (0,zeros))) underlying96 hi hz (by rw[hs];decide) (by rw[hs];decide) ?_;rw[hs];exact fill59_at e _ _ _ _ _ _ _ _ _ _ _ _ _ _ _ _ _ _ _ _ _ _ _ _ _ _ _ _ _ _ _ _
def mkP(f:Fin 32->Int):List Int:=List.ofFn f
theorem mkP_len(f:Fin 32->Int):(mkP f).length=32:=by simp only[mkP,List.length_ofFn]
theorem mkP_of(p:List Int)(h:p.length=32):∃f,p=mkP f:=⟨fun i=>p[i.1]'o_,by
 apply List.ext_getElem
 · rw[mkP_len,h]
 · intro i h1 h2
   simp only[mkP,List.getElem_ofFn]⟩
theorem run_build59'(e:Int)(f:Fin 32->Int)(w:World):(Instr.build 149 #[(0,.int .i64 e),(1,.agg (pc (mkP f)).toArray)]).run prog w=.ok (.agg (enA (e,mkP f))) w:=run_build59 e _ (mkP_len f) w
theorem run_bs59'(e:Int)(f:Fin 32->Int)(w:World):(Instr.buildSlice 96 1 #[(0,.agg (enA (e,mkP f)))]).run prog w=.ok (.slice (some ⟨w.heap.size,0,none⟩) 1 1) (w.alloc (.cells (enA (e,mkP f)) 149)):=run_bs59 (e,mkP f) (mkP_len f) w
end Go.Proofs.YtppjnahcnofokaaGreat.B
namespace Go.Proofs.YtppjnahcnofokaaGreat.B
open Go.RowKit Go.Proofs.YtppjnahcnofokaaGreatW.PrintWords Go.Proofs.YtppjnahcnofokaaGreatW.PrintLast
open Go.Proofs.Tryz
variable{k:IntKind}{a:Act}{b i n B base m fuel D B':Nat}{l ch p t0 q:List Int}{w w' w1 w2:World}{t:TypeId}{P:Int->Int->Prop}{cs:Array Value}{A A':Option Addr}{o oi:Oper}{e s f st fl:Int}{xs:List (List Int×Int×Int×Int)}{ops:Array Oper}{rest l0:List Oper}{v:Value}{r:Option Nat}{rs rs2:List (Option Addr×Nat×Nat×List Int)}{E:Prop}{vs l3:List Value}{ad ai go:List Bool}{N:Act->Prop}{place:Nat->Option (Nat×Nat)}{bad:Bool}{es es':List (Int×List Int)}{T:List TypeId}{ps:List (List Int)}
attribute [local go_sem ↓] run_build59' run_bs59' Go.wp_at_zero Go.wp_at_succ
def write.T10:Bool×List (List Nat×List Nat):=(true,[([],[]),([],[]),([1],[1]),([2],[2]),([3],[3]),([],[]),([],[]),([5,6],[5,6]),([7],[7]),([4,8],[4,8]),([0,0,1,2,3,4,5,6,7,8,9],[0]),([10,0,1,2,3,4,5,6,7,8,9],[10]),([11,9,9,0,1,2,3,4,5,6,7,8,9],[9,11])])
def write.B10:List Nat:=[0,0,2,6,14,0,0,96,224,510,1023,2047,4095]
theorem write.tab10:rtab .any (opsOf Tryz.f64 10)=write.T10:=by kernel_rfl
theorem write.bits10:waitsOk write.T10.2 write.B10=true:=by kernel_rfl
theorem yields_build59(hgd:oi.guard=none)(e:Int)(f:Fin 32->Int)(x y:Operand)(ho:oi.op=.build 149 #[(0,x),(1,y)])(hx:a.eval x=.int .i64 e)(hy:a.eval y=.agg (pc (mkP f)).toArray): Yields prog ops oi (.agg (enA (e,mkP f))) a:=by
 have hw:Region.wanted oi (yielded ops a.tmps)=true:=by simp[Region.wanted,hgd]
 refine .inl ⟨hw,fun w=>?_⟩;unfold execOp;have hm:(#[(0,x),(1,y)]:Array (Nat×Operand)).map (fun y=>(y.1,a.eval y.2)) = #[(0,.int .i64 e),(1,.agg (pc (mkP f)).toArray)]:=by simp[hx,hy]
 have hr:=run_build59' e f w;rw[<-hm]at hr;simp only[ho,Sem.run_bind,hr,Result.andThen_ok];rfl
theorem step_bs59{K:Act->World->Prop}{Q:Exit->Act->World->Prop}(hgd:oi.guard=none)(e:Int)(f:Fin 32->Int)(x:Operand)(ho:oi.op=.buildSlice 96 1 #[(0,x)])(hx:a.eval x=.agg (enA (e,mkP f)))(h:K (a.put oi.dst (.slice (some ⟨w.heap.size,0,none⟩) 1 1)) (w.alloc (.cells (enA (e,mkP f)) 149))):if Region.wanted oi (yielded ops a.tmps)=true then Oper.wp prog oi a w K Q else E:=by
 have hw:Region.wanted oi (yielded ops a.tmps)=true:=by simp[Region.wanted,hgd]
 rw[if_pos hw];unfold Oper.wp execOp;have hm:(#[(0,x)]:Array (Nat×Operand)).map (fun y=>(y.1,a.eval y.2)) = #[(0,.agg (enA (e,mkP f)))]:=by simp[hx]
 have hr:=run_bs59' e f w;rw[<-hm]at hr;simp only[ho,Sem.run_bind,hr,Result.andThen_ok];exact h
theorem book_set{g:Nat}{x y z:Value}(h:w.heap[g]? = some (.cells #[x,y,z] 98 (0,0))):(w.setCell ⟨g,0,none⟩ v).heap[g]? = some (.cells #[v,y,z] 98 (0,0)):=by
 have hlt:=lt_of_block h;have h':w.heap[g]=.cells #[x,y,z] 98 (0,0):=by simpa[Array.getElem?_eq_getElem hlt] using h
 show(w.heap.modify g _)[g]? = _;rw[Array.getElem?_eq_getElem (by simpa using hlt),Array.getElem_modify_self,h'];rfl
theorem write_end{w3 w4 w5:World}{o:Obj}{g gg cap:Nat}{x:Int×List Int}(hB:BookAt w base g v es st fl)(hb:Bl w w3)(h4:w3.drew.alloc o=w4)(hgr:w4.grownBy w5 v.ownBlock)(hown:w5.ownsRow base 149 33 (.slice (some ⟨gg,0,none⟩) (es.length+1) cap) (es.length+1) (rc es++ec x))(hat:v.ownBlock=some gg\/gg=w4.heap.size)(hx:x.2.length=32)(hl:es.length<100): ∃v',BookAt (w5.setCell ⟨g,0,none⟩ (.slice (some ⟨gg,0,none⟩) (es.length+1) cap)) base g v' (es ++ [x]) st fl/\Chg w (w5.setCell ⟨g,0,none⟩ (.slice (some ⟨gg,0,none⟩) (es.length+1) cap)) g v.ownBlock/\(v'.ownBlock=v.ownBlock\/∃k,v'.ownBlock=some k/\w.heap.size<=k):=by
 have b4:Bl w w4:=by rw[<-h4];exact(Below.drew hb).alloc hb.size _
 have hne:=hB.apart;have hg5:w5.heap[g]? = some (.cells #[v,.int .i64 st,.int .i64 fl] 98 (0,0)):=(hgr.block g (Nat.lt_of_lt_of_le hB.lt b4.size) hne.symm).trans ((b4.block g hB.lt).trans hB.blk);have hgg:gg≠g:=by
  rintro rfl;rcases hat with h|h
  · exact hne h
  have:=Nat.lt_of_lt_of_le hB.lt b4.size;omega
 refine⟨_,⟨hB.lo,book_set hg5,?_,?_,?_⟩,⟨?_,?_,?_,?_,?_⟩,?_⟩
 · unfold Own;(have e1:(es ++ [x]).length=es.length+1:=by simp);(have e2:rc (es ++ [x])=rc es++ec x:=by simp[rc]);rw[e1,e2];exact ownsRow_setCell_other hown (by intro e;exact hgg (by simpa[Value.ownBlock] using e)) _
 · intro y hy;(rcases List.mem_append.1 hy with h|h);(· exact hB.ok y h);rw[List.mem_singleton.1 h];exact hx
 · simp;omega
 · exact hgr.os.trans b4.os
 · exact hgr.tape.trans b4.tape
 · exact hgr.output.trans b4.output
 · exact Nat.le_trans (Nat.le_trans b4.size hgr.size) (by simp[World.setCell])
 · intro k hk h1 h2;rw[Below.heap_setCell _ _ _ _ h1,hgr.block k (Nat.lt_of_lt_of_le hk b4.size) h2,b4.block k hk]
 rcases hat with h|h
 · exact .inl h.symm
 exact .inr ⟨gg,rfl,by rw[h];exact b4.size⟩
theorem keepAlloc{g N:Nat}{cs:List Value}(h1:w.cell? ⟨g,0,none⟩=some v)(h2:w.frozen? ⟨g,0,none⟩=false)(h3:w.rangeAt N 0 cs)(hg:g<w.heap.size)(hN:N<w.heap.size)(o:Obj): (w.alloc o).cell? ⟨g,0,none⟩=some v/\(w.alloc o).frozen? ⟨g,0,none⟩=false/\(w.alloc o).rangeAt N 0 cs:=
 ⟨by rw[World.cell?_alloc_past _ _ _ hg];exact h1,by rw[World.frozen?_alloc_past _ _ _ hg];exact h2,fun j u hu=>by rw[World.cell?_alloc_past _ _ _ hN];exact h3 j u hu⟩
theorem keepGrown{g N:Nat}{cs:List Value}(h1:w.cell? ⟨g,0,none⟩=some v)(h2:w.frozen? ⟨g,0,none⟩=false)(h3:w.rangeAt N 0 cs)(hg:g<w.heap.size)(hN:N<w.heap.size)(hgr:w.grownBy w1 r)(r1:r≠some g)(r2:r≠some N): w1.cell? ⟨g,0,none⟩=some v/\w1.frozen? ⟨g,0,none⟩=false/\w1.rangeAt N 0 cs:=
 ⟨by rw[hgr.cell_far _ hg r1.symm];exact h1,by rw[hgr.frozen_far _ hg r1.symm];exact h2,fun j u hu=>by rw[hgr.cell_far _ hN r2.symm];exact h3 j u hu⟩
theorem write_new(base g:Nat)(v:Value)(es:List (Int×List Int))(st fl e:Int)(p:List Int)(w:World)(hp:p.length=32)(hbase:base<=w.heap.size)(hB:BookAt w base g v es st fl)(h1:0<=e)(h2:e<=1099511627776)(hl:(look es e).2=false)(h100:es.length<100): Calls prog 64 #[.pointer (some ⟨g,0,none⟩),.int .i64 e,.agg (papA p)] w fun r w'=>r=.returned (.int .i64 0)/\∃v',BookAt w' base g v' (es ++ [(e,p)]) st fl/\Chg w w' g v.ownBlock/\(v'.ownBlock=v.ownBlock\/∃k,v'.ownBlock=some k/\w.heap.size<=k):=by
 obtain⟨f,rfl⟩:=mkP_of p hp;obtain⟨A,c,rfl,_,hr⟩:=hB.own.reads;have hb1:Bl w (w.alloc (.cells (papA (mkP f)) 43)):=(Below.refl _ _).alloc (Nat.le_refl _) _;have hB1:=hB.below hb1;have hh:=holds_calls A c g es e (w.alloc (.cells (papA (mkP f)) 43)) hB1.lt (by rw[hB1.cell];rfl) hB.len hB.ok (hr.below hb1);rw[hl]at hh;have h32:=look_len hB.ok e;generalize (look es e).1=hs at *;have HH:=hd_ hh;have HL:Hid ((prog.info? 43).map (·.size)=some (papA hs).size):=by show _=_;rw[papA_size h32];exact info27
 have HT:Hid (∀w:World,(w.alloc (.cells (papA zeros) 43)).there w.heap.size 0 (papA hs).size):=fun w=>alloc_there w hs h32;have HBk:=hd_ hB;have HLp:Hid ((prog.info? 43).map (·.size)=some (pc (mkP f)).length):=by show _=_;rw[pc,List.length_map,hp];exact info27
 have HP:=hd_ hp;clear hB hr hB1 hh hl hb1 h32 hp;go_enter func64,ntmps64
 go_wp2_with fail;refine HH.out.mono ?_;clear HH;rintro r w2 ⟨rfl,hb⟩;have HB:Hid (Bl w w2):=((Below.refl _ _).alloc (Nat.le_refl _) _).trans (hb.mono s_);obtain⟨w3,hw3⟩:=ex_ (heldW w2 hs);have HB3:Hid (Bl w w3):=by rw[hw3];exact HB.out.trans ((heldW_below w2 hs).mono HB.out.size)
 have HBk3:=hd_ (HBk.out.below HB3.out);have hcell:w3.cell? ⟨g,0,none⟩=some (.slice A es.length c):=by rw[HBk3.out.cell];rfl
 have hfree:w3.frozen? ⟨g,0,none⟩=false:=HBk3.out.free 0;have hgl:g<w3.heap.size:=HBk3.out.lt;have hres:w2.heap[w.heap.size]? = some (.cells (papA (mkP f)) 43):=(hb.block _ s_).trans (heap_alloc_new _ _);have hlt2:w.heap.size<w2.heap.size:=(Array.getElem?_eq_some_iff.1 hres).1;have hlt:w.heap.size<w3.heap.size:=Nat.lt_of_lt_of_le hlt2 (by rw[hw3];exact(heldW_below w2 hs).size);have hrp:w3.rangeAt w.heap.size 0 (pc (mkP f)):=by rw[hw3];exact range_of_block (((heldW_below w2 hs).block _ hlt2).trans hres)
 have HW:=hd_ hw3;clear hb hw3 hres hlt2;have hu:=underlying43;have HRP:=hd_ hrp;clear hrp;go_wp2_with (first|((refine wpList_store_mid rfl 43 (.tmp 7) (.tmp 23) rr w2.heap.size 0 (papA hs) rr rr (HT.out w2) HL.out (papA_all _) ?_);change wpList _ _ _ _ _ (heldW w2 hs);rw[<-HW.out]));have hrp:=HRP.out;have hi27:=HLp.out;have hl27:(pc (mkP f)).length=32:=by simp[pc,HP.out]
 have h1c:∀v ∈ pc (mkP f),v.oneCell'=true:=papA_one (mkP f);have HOwn:Hid (w3.ownsRow base 149 33 (.slice A es.length c) es.length (rc es)):=HBk3.out.own;have HNg:Hid ((Value.slice A es.length c).ownBlock≠some g):=HBk3.out.apart;have HNn:Hid ((Value.slice A es.length c).ownBlock≠some w.heap.size):=by intro e;obtain⟨q1,q2⟩:=HBk.out.own.lt w.heap.size e;omega
 obtain⟨i0,hi,hz0,hz1,hz2⟩:=info_parts59;have HI0:=hd_ hi;have HZ0:=hd_ hz0;have HZ1:=hd_ hz1;have HZ2:=hd_ hz2;have HM:Hid (es.length<100):=h100;have HBase:Hid (base<=w3.heap.size):=Nat.le_trans hbase HB3.out.size;clear hi hz0 hz1 hz2 h100 hbase HLp HRP HT HL HB h1 h2;refine start_ (n:=13) (S:=fun w'=>w'.cell? ⟨g,0,none⟩=some (.slice A es.length c)/\w'.rangeAt w.heap.size 0 (pc (mkP f))) (ds:=[12]) (bt 13 0) kk rfl rfl ?hS0 (fun hH=>?_);rotate_left;refine with_tabW write.tab10 write.bits10 (fun HT_ HW_=>?_);generalize hw3d:w3.drew=w3d at hH ⊢;have HW3:=hd_ hw3d;have hH0:=hH;clear hw3d;refine pure_ (i:=0) (N:=some 41) (v:=?_) (a':=?_) (bt 13 1) rfl rfl (any_of HT_.out kk) (fun _ _ _ h=>h) (Or.inl ⟨by rfl,?_⟩) ?_ ?_;rotate_left
 · intro w';go_simp;with_reducible rfl
 rotate_left
 · simp only[Act.put,List.setIfInBounds_toArray,List.set_cons_zero,List.set_cons_succ];rfl
 refine pure_ (i:=1) (N:=some 42) (v:=?_) (a':=?_) (bt 13 3) rfl rfl (any_of HT_.out kk) (fun _ _ _ h=>h) (Or.inl ⟨by rfl,?_⟩) ?_ ?_;rotate_left
 · intro w';go_simp;with_reducible rfl
 rotate_left
 · simp only[Act.put,List.setIfInBounds_toArray,List.set_cons_zero,List.set_cons_succ];rfl
 refine pure_ (i:=2) (N:=some 43) (v:=?_) (a':=?_) (bt 13 7) rfl rfl (any_of HT_.out kk) (fun _ _ _ h=>h) (Or.inl ⟨by rfl,?_⟩) ?_ ?_;rotate_left
 · intro w';go_simp;with_reducible rfl
 rotate_left
 · simp only[Act.put,List.setIfInBounds_toArray,List.set_cons_zero,List.set_cons_succ];rfl
 refine pure_ (i:=3) (N:=some 44) (v:=?_) (a':=?_) (bt 13 15) rfl rfl (any_of HT_.out kk) (fun _ _ _ h=>h) (Or.inl ⟨by rfl,?_⟩) ?_ ?_;rotate_left
 · intro w';go_simp;with_reducible rfl
 rotate_left
 · simp only[Act.put,List.setIfInBounds_toArray,List.set_cons_zero,List.set_cons_succ];rfl
 refine take_ (i:=4) (N:=some 45) (v:=?_) (a':=?_) (bt 13 31) rfl rfl (take_ofW HT_.out HW_.out kk) (fun _ _ _ h=>h) (Or.inl ⟨by rfl,?_⟩) hH ?_ ?_;rotate_left
 · rintro w' ⟨s0,s1⟩;go_simp;with_reducible rfl
 rotate_left
 · simp only[Act.put,List.setIfInBounds_toArray,List.set_cons_zero,List.set_cons_succ];rfl
 refine pure_ (i:=5) (N:=some 46) (v:=?_) (a':=?_) (bt 13 63) rfl rfl (any_of HT_.out kk) (fun _ _ _ h=>h) (Or.inl ⟨by rfl,?_⟩) ?_ ?_;rotate_left
 · intro w';go_simp;with_reducible rfl
 rotate_left
 · simp only[Act.put,List.setIfInBounds_toArray,List.set_cons_zero,List.set_cons_succ];rfl
 refine take_ (i:=6) (N:=some 47) (v:=.agg (pc (mkP f)).toArray) (a':=?_) (bt 13 127) rfl rfl (take_ofW HT_.out HW_.out kk) (fun _ _ _ h=>h) (yieldsIf_load_mid rr 43 (.tmp 5) rr w.heap.size 0 rr (pc (mkP f)) _ (fun _ h=>h.2) underlying43 rfl (by rw[hl27];exact info27)) hH ?_ ?_;rotate_left
 · simp only[Act.put,List.setIfInBounds_toArray,List.set_cons_zero,List.set_cons_succ];rfl
 refine pure_ (i:=7) (N:=some 48) (v:=.agg (enA (e,mkP f))) (a':=?_) (bt 13 255) rfl rfl (any_of HT_.out kk) (fun _ _ _ h=>h) (yields_build59 rfl e f (.tmp 46) (.tmp 47) rr rr rr) ?_ ?_;rotate_left
 · simp only[Act.put,List.setIfInBounds_toArray,List.set_cons_zero,List.set_cons_succ];rfl
 refine one_ (i:=8) (N:=some 49) (bt 13 511) rfl rfl (one_of HT_.out kk) dd (fun K hK=>?_);refine step_bs59 rfl e f (.tmp 48) rr rr ?_;obtain⟨c1,c2,c3⟩:=keepAlloc (o:=.cells (enA (e,mkP f)) 149) hH.1 (by rw[<-HW3.out];exact hfree:w3d.frozen? ⟨g,0,none⟩=false) hH.2 (by rw[<-HW3.out];exact hgl) (by rw[<-HW3.out];exact hlt);refine hK.out _ _ ⟨c1,c3⟩ (fun hH=>?_);clear hK K;generalize hw4:w3d.alloc (.cells (enA (e,mkP f)) 149)=w4 at hH c2 ⊢;have HW4:=hd_ hw4;clear hw4 c1 c3;refine norm_ (a':=?_) ?_ ?_;rotate_left
 · show Act.put _ (some 49) _=_;simp only[Act.put,List.setIfInBounds_toArray,List.set_cons_zero,List.set_cons_succ];rfl
 refine one_ (i:=9) (N:=some 50) (bt 13 1023) rfl rfl (one_of HT_.out kk) dd (fun K hK=>?_);have hO4:w4.ownsRow base 149 33 (.slice A es.length c) es.length (rc es):=by rw[<-HW4.out,<- HW3.out];exact(HOwn.out.drew).kept (row:=none) (World.grownBy_alloc _ _ none) (by cases hv:Value.ownBlock (.slice A es.length c)<;>simp)
 have hg4:g<w4.heap.size:=by rw[<-HW4.out,<- HW3.out];exact Nat.lt_of_lt_of_le hgl (by simp[World.alloc])
 have hN4:w.heap.size<w4.heap.size:=by rw[<-HW4.out,<- HW3.out];exact Nat.lt_of_lt_of_le hlt (by simp[World.alloc])
 have hb4:base<=w4.heap.size:=by rw[<-HW4.out,<- HW3.out];exact Nat.le_trans HBase.out (by simp[World.alloc])
 have hnews:∀j u,(ec (e,mkP f))[j]? = some u->w4.cell? ((⟨w3d.heap.size,0,none⟩:Addr).add j)=some u:=by rw[<-HW4.out];exact fun j u h=>World.news_of_block (cs:=enA (e,mkP f)) (heap_alloc_new _ _) j u (by simpa[enA] using h)
 have hlen:(ec (e,mkP f)).length=1*33:=by simp[ec,pc,HP.out]
 have hone:∀u ∈ ec (e,mkP f),u.oneCell'=true:=by intro u hu;rcases List.mem_cons.1 hu with rfl|hu;rfl;exact papA_one _ u hu
 have H100:=HM.out;refine step_append_lies _ rfl _ _ _ rr base 149 i0 _ 33 40 underlying96 HI0.out HZ0.out HZ1.out HZ2.out zero_size dd (.slice A es.length c) es.length (rc es) rr hO4 ⟨w3d.heap.size,0,none⟩ 1 1 (ec (e,mkP f)) rr hlen hnews hone dd (by unfold maxLen;omega) o_ hb4 w4.heap.size rfl ?_;intro gg cap w5 hown1 hgrow hat hlt5;clear hnews hlen hone;obtain⟨c1,c4,c3⟩:=keepGrown hH.1 c2 hH.2 hg4 hN4 hgrow HNg.out HNn.out;have HE:Hid (w5.ownsRow base 149 33 (.slice (some ⟨gg,0,none⟩) (es.length+1) cap) (es.length+1) (rc es++ec (e,mkP f))/\w4.grownBy w5 (Value.slice A es.length c).ownBlock/\((Value.slice A es.length c).ownBlock=some gg\/gg=w4.heap.size)/\g<w4.heap.size/\w.heap.size<w4.heap.size):=⟨hown1,hgrow,hat,hg4,hN4⟩;refine hK.out _ _ ⟨c1,c3⟩ (fun hH=>?_);clear hK K hO4 hb4 hown1 hgrow hat hlt5 c1 c3 hg4 hN4 H100;refine norm_ (a':=?_) ?_ ?_;rotate_left
 · show Act.put _ (some 50) _=_;simp only[Act.put,List.setIfInBounds_toArray,List.set_cons_zero,List.set_cons_succ];rfl
 refine pure_ (i:=10) (N:=some 51) (v:=?_) (a':=?_) (bt 13 2047) rfl rfl (any_of HT_.out kk) (fun _ _ _ h=>h) (Or.inl ⟨by rfl,?_⟩) ?_ ?_;rotate_left
 · intro w';go_simp;with_reducible rfl
 rotate_left
 · simp only[Act.put,List.setIfInBounds_toArray,List.set_cons_zero,List.set_cons_succ];rfl
 refine pure_ (i:=11) (N:=some 52) (v:=?_) (a':=?_) (bt 13 4095) rfl rfl (any_of HT_.out kk) (fun _ _ _ h=>h) (Or.inl ⟨by rfl,?_⟩) ?_ ?_;rotate_left
 · intro w';go_simp;with_reducible rfl
 rotate_left
 · simp only[Act.put,List.setIfInBounds_toArray,List.set_cons_zero,List.set_cons_succ];rfl
 refine last_ (i:=12) (N:=none) (bt 13 8191) rfl rfl (one_of HT_.out kk) dd (fun K hK=>?_);have c1:=hH.1;refine skip_ (w1:=w5.setCell ⟨g,0,none⟩ (.slice (some ⟨gg,0,none⟩) (es.length+1) cap)) rr rfl ?_ ?_
 · go_simp
 refine hK.out _ _ ?_;refine done_ (done_of HT_.out kk) ?_;generalize hw6:w5.setCell ⟨g,0,none⟩ (.slice (some ⟨gg,0,none⟩) (es.length+1) cap)=w6;have HW6:=hd_ hw6;clear hw6 c1 hK K;try go_wp2
 go_ret;refine⟨rfl,?_⟩;rw[<-HW6.out];obtain⟨q1,q2,q3,q4,q5⟩:=HE.out;exact write_end HBk.out HB3.out (by rw[HW3.out];exact HW4.out) q2 q1 q3 HP.out HM.out;case hS0=>exact⟨hcell,hrp⟩
end Go.Proofs.YtppjnahcnofokaaGreat.B
namespace Go.Proofs.YtppjnahcnofokaaGreat.B
open Go.RowKit
open Go.Proofs.Tryz
variable{k:IntKind}{a:Act}{b i n B base m fuel D B':Nat}{l ch p t0 q:List Int}{w w' w1 w2:World}{t:TypeId}{P:Int->Int->Prop}{cs:Array Value}{A A':Option Addr}{o oi:Oper}{e s f st fl:Int}{xs:List (List Int×Int×Int×Int)}{ops:Array Oper}{rest l0:List Oper}{v:Value}{r:Option Nat}{rs rs2:List (Option Addr×Nat×Nat×List Int)}{E:Prop}{vs l3:List Value}{ad ai go:List Bool}{N:Act->Prop}{place:Nat->Option (Nat×Nat)}{bad:Bool}{es es':List (Int×List Int)}{T:List TypeId}{ps:List (List Int)}
theorem write_calls(base g:Nat)(v:Value)(es:List (Int×List Int))(st fl e:Int)(p:List Int)(w:World)(hp:p.length=32)(hbase:base<=w.heap.size)(hB:BookAt w base g v es st fl)(code:Int)(es':List (Int×List Int))(hw:writeOf es e p=(code,es')): Calls prog 64 #[.pointer (some ⟨g,0,none⟩),.int .i64 e,.agg (papA p)] w fun r w'=>r=.returned (.int .i64 code)/\∃v',BookAt w' base g v' es' st fl/\Chg w w' g v.ownBlock/\(v'.ownBlock=v.ownBlock\/∃k,v'.ownBlock=some k/\w.heap.size<=k):=by
 unfold writeOf at hw;by_cases h1:e<0\/1099511627776<e
 · rw[if_pos h1]at hw;obtain⟨rfl,rfl⟩:=Prod.mk.inj hw;refine(write_out g e p w h1).mono ?_;rintro r w' ⟨rfl,hb⟩;exact⟨rfl,v,hB.below hb,Chg.of_below hb _ _,.inl rfl⟩
 rw[if_neg h1]at hw;have h2:0<=e:=by omega
 have h3:e<=1099511627776:=by omega
 by_cases hl:(look es e).2=true
 · rw[if_pos hl]at hw;refine(write_found base g v es st fl e p w hp hB h2 h3 hl _ rfl).mono ?_;rintro r w' ⟨rfl,hb⟩;by_cases hq:(look es e).1=p;(· rw[if_pos hq]at hw;obtain⟨rfl,rfl⟩:=Prod.mk.inj hw;exact⟨by rw[beq_iff_eq.2 hq];rfl,v,hB.below hb,Chg.of_below hb _ _,.inl rfl⟩);rw[if_neg hq]at hw;obtain⟨rfl,rfl⟩:=Prod.mk.inj hw;exact⟨by rw[beq_eq_false_iff_ne.2 hq];rfl,v,hB.below hb,Chg.of_below hb _ _,.inl rfl⟩
 rw[if_neg hl]at hw;have hl':(look es e).2=false:=by simpa using hl
 by_cases h100:100<=es.length
 · rw[if_pos h100]at hw;obtain⟨rfl,rfl⟩:=Prod.mk.inj hw;refine(write_full base g v es st fl e p w hB h2 h3 hl' h100).mono ?_;rintro r w' ⟨rfl,hb⟩;exact⟨rfl,v,hB.below hb,Chg.of_below hb _ _,.inl rfl⟩
 rw[if_neg h100]at hw;obtain⟨rfl,rfl⟩:=Prod.mk.inj hw;exact write_new base g v es st fl e p w hp hbase hB h2 h3 hl' o_
theorem new_book(w:World):BookAt (w.alloc (.cells #[.slice none 0 0,.int .i64 0,.int .i64 0] 98)) w.heap.size w.heap.size (.slice none 0 0) [] 0 0:=
 ⟨Nat.le_refl _,heap_alloc_new _ _,World.ownsRow_nil _ _ _ _,(fun _ h=>by cases h),by simp⟩
end Go.Proofs.YtppjnahcnofokaaGreat.B
namespace Go.Proofs.YtppjnahcnofokaaGreat.B
open Go.RowKit Go.Proofs.YtppjnahcnofokaaGreatW.PrintWords Go.Proofs.YtppjnahcnofokaaGreatW.PrintLast
open Go.Proofs.Tryz
variable{k:IntKind}{a:Act}{b i n B base m fuel D B':Nat}{l ch p t0 q:List Int}{w w' w1 w2:World}{t:TypeId}{P:Int->Int->Prop}{cs:Array Value}{A A':Option Addr}{o oi:Oper}{e s f st fl:Int}{xs:List (List Int×Int×Int×Int)}{ops:Array Oper}{rest l0:List Oper}{v:Value}{r:Option Nat}{rs rs2:List (Option Addr×Nat×Nat×List Int)}{E:Prop}{vs l3:List Value}{ad ai go:List Bool}{N:Act->Prop}{place:Nat->Option (Nat×Nat)}{bad:Bool}{es es':List (Int×List Int)}{T:List TypeId}{ps:List (List Int)}
def flush.T1:Bool×List (List Nat×List Nat):=(true,[([],[]),([0],[0]),([1],[1]),([],[]),([3],[3]),([4],[4]),([5],[5]),([6],[6]),([2,7],[2,7])])
def flush.B1:List Nat:=[0,1,3,0,8,24,56,120,255]
theorem flush.tab1:rtab .any (opsOf Tryz.f65 1)=flush.T1:=by kernel_rfl
theorem flush.bits1:waitsOk flush.T1.2 flush.B1=true:=by kernel_rfl
theorem book_set1{g:Nat}{x y z:Value}(h:w.heap[g]? = some (.cells #[x,y,z] 98 (0,0))):(w.setCell ⟨g,1,none⟩ v).heap[g]? = some (.cells #[x,v,z] 98 (0,0)):=by
 have hlt:=lt_of_block h;have h':w.heap[g]=.cells #[x,y,z] 98 (0,0):=by simpa[Array.getElem?_eq_getElem hlt] using h
 show(w.heap.modify g _)[g]? = _;rw[Array.getElem?_eq_getElem (by simpa using hlt),Array.getElem_modify_self,h'];rfl
theorem book_set2{g:Nat}{x y z:Value}(h:w.heap[g]? = some (.cells #[x,y,z] 98 (0,0))):(w.setCell ⟨g,2,none⟩ v).heap[g]? = some (.cells #[x,y,v] 98 (0,0)):=by
 have hlt:=lt_of_block h;have h':w.heap[g]=.cells #[x,y,z] 98 (0,0):=by simpa[Array.getElem?_eq_getElem hlt] using h
 show(w.heap.modify g _)[g]? = _;rw[Array.getElem?_eq_getElem (by simpa using hlt),Array.getElem_modify_self,h'];rfl
theorem BookAt.setStays{g:Nat}(h:BookAt w base g v es st fl)(x:Int):BookAt (w.setCell ⟨g,1,none⟩ (.int .i64 x)) base g v es x fl:=
 ⟨h.lo,book_set1 h.blk,ownsRow_setCell_other h.own h.apart _,h.ok,h.len⟩
theorem BookAt.setFlushes{g:Nat}(h:BookAt w base g v es st fl)(x:Int):BookAt (w.setCell ⟨g,2,none⟩ (.int .i64 x)) base g v es st x:=
 ⟨h.lo,book_set2 h.blk,ownsRow_setCell_other h.own h.apart _,h.ok,h.len⟩
theorem Chg.set{g:Nat}(h:Chg w w' g r)(o:Nat)(x:Value):Chg w (w'.setCell ⟨g,o,none⟩ x) g r:=
 ⟨h.os,h.tape,h.output,Nat.le_trans h.size (by simp[World.setCell]),fun k hk h1 h2=>(Below.heap_setCell _ _ _ _ h1).trans (h.block k hk h1 h2)⟩
theorem flush_calls(base g:Nat)(v:Value)(es:List (Int×List Int))(st fl:Int)(w:World)(hB:BookAt w base g v es st fl): Calls prog 65 #[.pointer (some ⟨g,0,none⟩)] w fun r w'=>r=.returned (.tuple #[])/\BookAt w' base g v es es.length (wrap64 (fl+1))/\Chg w w' g none:=by
 obtain⟨A,c,rfl,_,hr⟩:=hB.own.reads;have hcell:w.cell? ⟨g,0,none⟩=some (.slice A es.length c):=by rw[hB.cell];rfl
 have HB:=hd_ hB;clear hB hr;go_enter func65,ntmps65
 go_wp2_with fail;refine start_ (n:=9) (S:=fun w'=>w'.cell? ⟨g,0,none⟩=some (.slice A es.length c)) (ds:=[8]) (bt 9 0) kk rfl rfl ?hS0 (fun hH=>?_);rotate_left;refine with_tabW flush.tab1 flush.bits1 (fun HT_ HW_=>?_);generalize hw3d:w.drew=w3d at hH ⊢;have HW3:=hd_ hw3d;clear hw3d;refine pure_ (i:=0) (N:=some 4) (v:=?_) (a':=?_) (bt 9 1) rfl rfl (any_of HT_.out kk) (fun _ _ _ h=>h) (Or.inl ⟨by rfl,?_⟩) ?_ ?_;rotate_left
 · intro w';go_simp;with_reducible rfl
 rotate_left
 · simp only[Act.put,List.setIfInBounds_toArray,List.set_cons_zero,List.set_cons_succ];rfl
 refine pure_ (i:=1) (N:=some 5) (v:=?_) (a':=?_) (bt 9 3) rfl rfl (any_of HT_.out kk) (fun _ _ _ h=>h) (Or.inl ⟨by rfl,?_⟩) ?_ ?_;rotate_left
 · intro w';go_simp;with_reducible rfl
 rotate_left
 · simp only[Act.put,List.setIfInBounds_toArray,List.set_cons_zero,List.set_cons_succ];rfl
 refine pure_ (i:=2) (N:=some 6) (v:=?_) (a':=?_) (bt 9 7) rfl rfl (any_of HT_.out kk) (fun _ _ _ h=>h) (Or.inl ⟨by rfl,?_⟩) ?_ ?_;rotate_left
 · intro w';go_simp;with_reducible rfl
 rotate_left
 · simp only[Act.put,List.setIfInBounds_toArray,List.set_cons_zero,List.set_cons_succ];rfl
 refine pure_ (i:=3) (N:=some 7) (v:=?_) (a':=?_) (bt 9 15) rfl rfl (any_of HT_.out kk) (fun _ _ _ h=>h) (Or.inl ⟨by rfl,?_⟩) ?_ ?_;rotate_left
 · intro w';go_simp;with_reducible rfl
 rotate_left
 · simp only[Act.put,List.setIfInBounds_toArray,List.set_cons_zero,List.set_cons_succ];rfl
 refine pure_ (i:=4) (N:=some 8) (v:=?_) (a':=?_) (bt 9 31) rfl rfl (any_of HT_.out kk) (fun _ _ _ h=>h) (Or.inl ⟨by rfl,?_⟩) ?_ ?_;rotate_left
 · intro w';go_simp;with_reducible rfl
 rotate_left
 · simp only[Act.put,List.setIfInBounds_toArray,List.set_cons_zero,List.set_cons_succ];rfl
 refine pure_ (i:=5) (N:=some 9) (v:=?_) (a':=?_) (bt 9 63) rfl rfl (any_of HT_.out kk) (fun _ _ _ h=>h) (Or.inl ⟨by rfl,?_⟩) ?_ ?_;rotate_left
 · intro w';go_simp;with_reducible rfl
 rotate_left
 · simp only[Act.put,List.setIfInBounds_toArray,List.set_cons_zero,List.set_cons_succ];rfl
 refine take_ (i:=6) (N:=some 10) (v:=?_) (a':=?_) (bt 9 127) rfl rfl (take_ofW HT_.out HW_.out kk) (fun _ _ _ h=>h) (Or.inl ⟨by rfl,?_⟩) hH ?_ ?_;rotate_left
 · intro w' s0;go_simp;with_reducible rfl
 rotate_left
 · simp only[Act.put,List.setIfInBounds_toArray,List.set_cons_zero,List.set_cons_succ];rfl
 refine pure_ (i:=7) (N:=some 11) (v:=?_) (a':=?_) (bt 9 255) rfl rfl (any_of HT_.out kk) (fun _ _ _ h=>h) (Or.inl ⟨by rfl,?_⟩) ?_ ?_;rotate_left
 · intro w';go_simp;with_reducible rfl
 rotate_left
 · simp only[Act.put,List.setIfInBounds_toArray,List.set_cons_zero,List.set_cons_succ];rfl
 refine last_ (i:=8) (N:=some 12) (bt 9 511) rfl rfl (one_of HT_.out kk) dd (fun K hK=>?_);have HB3:Hid (BookAt w3d base g (.slice A es.length c) es st fl):=by rw[<-HW3.out];exact HB.out.below (Below.refl _ _).drew
 refine goes_ func76 kk rfl #[.pointer (some ⟨g,1,none⟩),.int .i64 es.length] rr rfl rfl mL ?_;refine(store_calls g 1 es.length (.int .i64 st) w3d (by rw[HB3.out.cell];rfl) (HB3.out.free 1)).mono ?_;rintro r w4 ⟨rfl,hw4⟩;refine⟨_,rfl,?_⟩;refine hK.out _ _ ?_;clear hK K;refine mN ?_;refine done_ (done_of HT_.out kk) ?_;have HB4:Hid (BookAt w4 base g (.slice A es.length c) es es.length fl):=by rw[<-hw4];exact HB3.out.setStays _
 have HC4:Hid (Chg w w4 g none):=by rw[<-hw4,<- HW3.out];exact(Chg.of_below (Below.refl _ _).drew _ _).set _ _
 clear hw4;have hc4:w4.cell? ⟨g,2,none⟩=some (.int .i64 fl):=by rw[HB4.out.cell];rfl
 go_wp2_with (go_at_call 21;refine(add_calls g 2 fl 1 w4 hc4 (HB4.out.free 2)).mono ?_;rintro r w5 ⟨rfl,hw5⟩);go_end0;refine⟨rfl,?_,?_⟩
 · rw[<-hw5];exact HB4.out.setFlushes _
 · rw[<-hw5];exact HC4.out.set _ _
 case hS0=>exact hcell
end Go.Proofs.YtppjnahcnofokaaGreat.B
namespace Go.Proofs.YtppjnahcnofokaaGreat.B
open Go.RowKit
open Go.Proofs.Tryz
variable{k:IntKind}{a:Act}{b i n B base m fuel D B':Nat}{l ch p t0 q:List Int}{w w' w1 w2:World}{t:TypeId}{P:Int->Int->Prop}{cs:Array Value}{A A':Option Addr}{o oi:Oper}{e s f st fl:Int}{xs:List (List Int×Int×Int×Int)}{ops:Array Oper}{rest l0:List Oper}{v:Value}{r:Option Nat}{rs rs2:List (Option Addr×Nat×Nat×List Int)}{E:Prop}{vs l3:List Value}{ad ai go:List Bool}{N:Act->Prop}{place:Nat->Option (Nat×Nat)}{bad:Bool}{es es':List (Int×List Int)}{T:List TypeId}{ps:List (List Int)}
theorem Reads.take(h:Reads w A es)(hk:Ok32 es)(n:Nat):Reads w A (es.take n):=fun hp=>by
 obtain⟨b,o,e,h1,h2⟩:=h (by rw[List.length_take]at hp;omega)
 refine⟨b,o,e,h1,fun j v hv=>h2 j v ?_⟩
 rw[rc_take n hk]at hv
 rw[List.getElem?_take]at hv
 split at hv
 · exact hv
 · cases hv
theorem Ok32.take(h:Ok32 es)(n:Nat):Ok32 (es.take n):=fun x hx=>h x (List.mem_of_mem_take hx)
theorem own_slice(h:Own w base v es)(hn:es.length=n):∃A c,v=.slice A n c:=by
 obtain⟨A,c,h1,_⟩:=h.reads;exact⟨A,c,by rw[h1,hn]⟩
theorem clone_at{c:Nat}{R:Ending->World->Prop}(h:m=n)(H:Calls prog 75 #[.slice A n c] w R):Calls prog 75 #[.slice A m c] w R:=h ▸ H
theorem store_at{x:Int}{p:Value}{R:Ending->World->Prop}(h:x=n)(H:Calls prog 76 #[p,.int .i64 n] w R):Calls prog 76 #[p,.int .i64 x] w R:=h ▸ H
theorem crash_book(ho:Own w2 w.heap.size v (es.take n))(hb:Bl w w2)(hk:Ok32 es)(hl:es.length<=100): BookAt (w2.alloc (.cells #[v,.int .i64 0,.int .i64 0] 98)) w.heap.size w2.heap.size v (es.take n) 0 0:=
 ⟨hb.size,heap_alloc_new _ _,World.ownsRow.kept (row:=none) ho (World.grownBy_alloc _ _ none) (by cases hv:v.ownBlock<;>simp),hk.take n,by rw[List.length_take];omega⟩
theorem crash_calls(base g:Nat)(v:Value)(es:List (Int×List Int))(s:Nat)(fl keep:Int)(w:World)(hB:BookAt w base g v es s fl)(hs:s<=es.length)(n:Nat)(hn:(n:Int)=s+min (max keep 0) (es.length-s)): Calls prog 45 #[.pointer (some ⟨g,0,none⟩),.int .i64 keep] w fun r w'=>∃g' v',r=.returned (.pointer (some ⟨g',0,none⟩))/\BookAt w' w.heap.size g' v' (es.take n) n 0/\Bl w w':=by
 obtain⟨A,c,rfl,hlc,hr⟩:=hB.own.reads;have hcell:w.cell? ⟨g,0,none⟩=some (.slice A es.length c):=by rw[hB.cell];rfl
 have hst:w.cell? ⟨g,1,none⟩=some (.int .i64 s):=by rw[hB.cell];rfl
 have hle:n<=es.length:=by omega
 have h100:=hB.len;have hcl:=clone_calls A n c (es.take n) w (by rw[List.length_take];omega) o_ (hB.ok.take n) (hr.take hB.ok n);have HCL:=hd_ hcl;have HB:=hd_ hB;clear hB hr hcl;have Hn:=hd_ hn;clear hn;go_enter func45,ntmps45
 go_wp2_with (first
  | (go_at_call 74;refine(load_calls g 1 _ _ hst).mono ?_;rintro r w2 ⟨rfl,rfl⟩)
  | (go_at_call 75;refine clone_at (n:=n) (by have:=Hn.out;omega) (HCL.out.mono ?_);rintro r w2 ⟨v2,rfl,hown,hb2⟩;obtain⟨A2,c2,rfl⟩:=own_slice hown (n:=n) (by rw[List.length_take];omega);have HO:=hd_ hown;have Hb2:=hd_ hb2;clear hown hb2)
  | (go_at_call 76;refine store_at (n:=n) (by have:=Hn.out;omega) ((store_calls _ 1 n (.int .i64 0) _ (by rw[(crash_book HO.out Hb2.out HB.out.ok HB.out.len).cell];rfl) ((crash_book HO.out Hb2.out HB.out.ok HB.out.len).free 1)).mono ?_);rintro r w3 ⟨rfl,hw3⟩))
 all_goals
  go_ret
  refine⟨w2.heap.size,rfl,⟨.slice A2 n c2,?_⟩,?_⟩
  · rw[<-hw3];exact(crash_book HO.out Hb2.out HB.out.ok HB.out.len).setStays _
  · rw[<-hw3];exact(Hb2.out.alloc Hb2.out.size _).setCell Hb2.out.size _
end Go.Proofs.YtppjnahcnofokaaGreat.B
namespace Go.Proofs.YtppjnahcnofokaaGreat.T
open Go.RowKit Go.Proofs.YtppjnahcnofokaaGreatW.PrintLast
open Go.Proofs.YtppjnahcnofokaaGreat.B (BookAt Chg)
open Go.Proofs.Tryz
variable{k:IntKind}{a:Act}{b i n B base m fuel D B':Nat}{l ch p t0 q:List Int}{w w' w1 w2:World}{t:TypeId}{P:Int->Int->Prop}{cs:Array Value}{A A':Option Addr}{o oi:Oper}{e s f st fl:Int}{xs:List (List Int×Int×Int×Int)}{ops:Array Oper}{rest l0:List Oper}{v:Value}{r:Option Nat}{rs rs2:List (Option Addr×Nat×Nat×List Int)}{E:Prop}{vs l3:List Value}{ad ai go:List Bool}{N:Act->Prop}{place:Nat->Option (Nat×Nat)}{bad:Bool}{es es':List (Int×List Int)}{T:List TypeId}{ps:List (List Int)}
structure Kp (T:List TypeId) (B:Nat) (w w':World):Prop where
 os:w'.os=w.os
 tape:w'.tape=w.tape
 output:w'.output=w.output
 size:w.heap.size<=w'.heap.size
 low:∀k,k<B->k<w.heap.size->w'.heap[k]? = w.heap[k]?
 blk:∀(k:Nat) (cs:Array Value) (t:TypeId) (fr:Nat×Nat),w.heap[k]? = some (Obj.cells cs t fr)->t ∉ T->w'.heap[k]? = w.heap[k]?
theorem Kp.refl(T:List TypeId)(B:Nat)(w:World):Kp T B w w:=⟨rfl,rfl,rfl,Nat.le_refl _,fun _ _ _=>rfl,fun _ _ _ _ _ _=>rfl⟩
theorem Kp.trans(h:Kp T B w w1)(k:Kp T B w1 w2):Kp T B w w2:=
 ⟨k.os.trans h.os,k.tape.trans h.tape,k.output.trans h.output,Nat.le_trans h.size k.size,fun i hi hs=>(k.low i hi (Nat.lt_of_lt_of_le hs h.size)).trans (h.low i hi hs),
  fun i cs t fr hi ht=>(k.blk i cs t fr ((h.blk i cs t fr hi ht).trans hi) ht).trans (h.blk i cs t fr hi ht)⟩
theorem Kp.mono{T':List TypeId}(h:Kp T B w w1)(hT:∀t,t ∈ T->t ∈ T'):Kp T' B w w1:=
 ⟨h.os,h.tape,h.output,h.size,h.low,fun i cs t fr hi ht=>h.blk i cs t fr hi (fun h'=>ht (hT t h'))⟩
theorem blk_lt{k:Nat}{o:Obj}(h:w.heap[k]? = some o):k<w.heap.size:=(Array.getElem?_eq_some_iff.1 h).1
theorem Kp.of_below(h:Bl w w1):Kp T B w w1:=
 ⟨h.os,h.tape,h.output,h.size,fun k _ hs=>h.block k hs,fun i _ _ _ hi _=>h.block i (blk_lt hi)⟩
theorem Kp.of_chgk{g:Nat}(hk:KeyAt w g s)(h:ChgK g w w1)(hB:B<=g):Kp [161] B w w1:=
 ⟨h.os,h.tape,h.output,h.size,fun k hk hs=>h.block k hs o_,fun i cs t fr hi ht=>h.block i (blk_lt hi) (fun e=>by
  subst e
  obtain⟨_,d,p,m,u,h',_⟩:=hk
  rw[h']at hi
  injection hi with hi
  injection hi with _ hi
  exact ht (by simp[hi]))⟩
theorem Kp.of_grown{c:Nat}{t0:TypeId}{cs0:Array Value}{fr0:Nat×Nat}(hc:w.heap[c]? = some (Obj.cells cs0 t0 fr0))(h:w.grownBy w1 (some c))(hB:B<=c):Kp [t0] B w w1:=
 ⟨h.os,h.tape,h.output,h.size,fun k hk hs=>h.block k hs s1_,fun i cs t fr hi ht=>h.block i (blk_lt hi) (fun e=>by
  injection e with e
  subst e
  rw[hc]at hi
  injection hi with hi
  injection hi with _ hi
  exact ht (by simp[hi]))⟩
theorem own_block{e size:Nat}{xs:List Value}(h:w.ownsRow base e size v n xs){k:Nat}(hk:v.ownBlock=some k):base<=k/\∃(cs:Array Value) (fr:Nat×Nat),w.heap[k]? = some (Obj.cells cs e fr):=by
 rcases h.2 with⟨rfl,_⟩|⟨g,cap,cur,rfl,hb,hg,_⟩
 · simp[Value.ownBlock]at hk
 simp only[Value.ownBlock,Option.some.injEq]at hk;subst hk;exact⟨hb,_,_,hg⟩
theorem Kp.of_row{e size:Nat}{xs:List Value}(ho:w.ownsRow base e size v n xs)(h:w.grownBy w1 v.ownBlock)(hB:B<=base):Kp [e] B w w1:=by
 cases hv:v.ownBlock with
 | none=>
  rw[hv]at h;exact Kp.of_below ⟨h.os,h.tape,h.output,h.size,fun k hk=>h.block k hk s_⟩
 | some k=>
  rw[hv]at h;obtain⟨h1,cs,fr,h2⟩:=own_block ho hv;exact Kp.of_grown h2 h o_
theorem own_kp{e size:Nat}{xs:List Value}(h:w.ownsRow base e size v n xs)(hk:Kp T B w w')(ht:e ∉ T):w'.ownsRow base e size v n xs:=by
 refine⟨h.1,?_⟩;rcases h.2 with h0|⟨g,cap,cur,rfl,hb,hg,r⟩
 · exact .inl h0
 exact .inr ⟨g,cap,cur,rfl,hb,(hk.blk g _ _ _ hg ht).trans hg,r⟩
theorem Cel.kp(h:Cel w b t vs)(hk:Kp T B w w')(ht:t ∉ T):Cel w' b t vs:=(hk.blk b _ _ _ h ht).trans h
theorem KeyAt.kp{g:Nat}(h:KeyAt w g s)(hk:Kp T B w w')(ht:161 ∉ T):KeyAt w' g s:=by
 obtain⟨h1,d,p,m,u,h2,h3⟩:=h;exact⟨h1,d,p,m,u,(hk.blk g _ _ _ h2 ht).trans h2,h3⟩
variable{x:PyP}
theorem PyAt.kp{g:Nat}(h:PyAt w b x g s)(hk:Kp T B w w')(h1:82 ∉ T)(h2:161 ∉ T):PyAt w' b x g s:=⟨h.cel.kp hk h1,h.ok,h.G,h.key.kp hk h2⟩
theorem bookAt_kp{g:Nat}(h:BookAt w base g v es st fl)(hk:Kp T B w w')(h1:98 ∉ T)(h2:149 ∉ T):BookAt w' base g v es st fl:=
 ⟨h.lo,(hk.blk g _ _ _ h.blk h1).trans h.blk,own_kp h.own hk h2,h.ok,h.len⟩
theorem KeyAt.same{g:Nat}{s':Int}(h:KeyAt w g s)(h':KeyAt w g s'):s=s':=by
 obtain⟨_,d,p,m,u,h1,_⟩:=h;obtain⟨_,d',p',m',u',h2,_⟩:=h';rw[h1]at h2;simp[KeyC]at h2;exact h2.1
def PyV(w:World)(B:Nat)(v:Value)(o:Option PyP):Prop:=(v=.pointer none/\o=none)\/∃b x g s,v=.pointer (some ⟨b,0,none⟩)/\o=some x/\PyAt w b x g s/\B<=g
theorem PyV.kp{o:Option PyP}(h:PyV w B v o)(hk:Kp T B' w w')(h1:82 ∉ T)(h2:161 ∉ T):PyV w' B v o:=by
 rcases h with h|⟨b,x,g,s,e1,e2,h3,h4⟩
 · exact .inl h
 exact .inr ⟨b,x,g,s,e1,e2,h3.kp hk h1 h2,h4⟩
theorem PyV.key{gk:Nat}{sk:Int}{o:Option PyP}(h:PyV w B v o)(h0:KeyAt w gk sk)(h1:KeyAt w' gk sk)(hk:ChgK gk w w'):PyV w' B v o:=by
 rcases h with h|⟨b,x,g,s,e1,e2,h3,h4⟩
 · exact .inl h
 refine .inr ⟨b,x,g,s,e1,e2,⟨h3.cel.kp (Kp.of_chgk (B:=0) h0 hk (Nat.zero_le _)) dd,h3.ok,h3.G,?_⟩,h4⟩;by_cases e:g=gk
 · subst e;rw[h3.key.same h0];exact h1
 obtain⟨a1,d,p,m,u,a2,a3⟩:=h3.key;exact⟨a1,d,p,m,u,(hk.block g (blk_lt a2) e).trans a2,a3⟩
structure BkD where
 g:Nat
 v:Value
 es:List (Int×List Int)
 st:Nat
 fl:Int
structure Bks (w:World) (B:Nat) (D:Nat->BkD):Prop where
 at_:∀i,i<8->BookAt w B (D i).g (D i).v (D i).es (D i).st (D i).fl/\(D i).st<=(D i).es.length
 ne:∀i j,i<8->j<8->i≠j->(D i).g≠(D j).g/\((D i).v.ownBlock=none\/(D i).v.ownBlock≠(D j).v.ownBlock)
theorem Bks.kp{D:Nat->BkD}(h:Bks w B D)(hk:Kp T B' w w')(h1:98 ∉ T)(h2:149 ∉ T):Bks w' B D:=
 ⟨fun i hi=>⟨bookAt_kp (h.at_ i hi).1 hk h1 h2,(h.at_ i hi).2⟩,h.ne⟩
structure Pst (w:World) (B:Nat) (v:Value) (n:Nat) (rs:List (Option Addr×Nat×Nat×List Int)):Prop where
 len:rs.length=n
 own:w.ownsRow B 31 1 v n (rs.map sv)
 each:∀r ∈ rs,w.ownsRow B 5 1 (sv r) r.2.1 (ints .u8 r.2.2.2)/\r.2.2.2.length=r.2.1/\r.2.1<=20000
theorem Pst.kp(h:Pst w B v n rs)(hk:Kp T B' w w')(h1:31 ∉ T)(h2:5 ∉ T):Pst w' B v n rs:=
 ⟨h.len,own_kp h.own hk h1,fun r hr=>⟨own_kp (h.each r hr).1 hk h2,(h.each r hr).2⟩⟩
def PstO(w:World)(B:Nat)(v:Value):Prop:=∃A n c rs,v=.slice A n c/\Pst w B v n rs/\n<=60
theorem PstO.kp(h:PstO w B v)(hk:Kp T B' w w')(h1:31 ∉ T)(h2:5 ∉ T):PstO w' B v:=by
 obtain⟨A,n,c,rs,e,h3,h4⟩:=h;exact⟨A,n,c,rs,e,h3.kp hk h1 h2,h4⟩
def apC(x:List Int×Int×Int×Int):List Value:=ints .u8 x.1 ++ [.int .i64 x.2.1,.int .i64 x.2.2.1,.int .i64 x.2.2.2]
theorem apC_len{x:List Int×Int×Int×Int}(h:x.1.length=32):(apC x).length=35:=by simp[apC,ints_len,h]
structure Aps (w:World) (B:Nat) (v:Value) (n:Nat) (xs:List (List Int×Int×Int×Int)):Prop where
 len:xs.length=n
 own:w.ownsRow B 125 35 v n (xs.flatMap apC)
 each:∀x ∈ xs,x.1.length=32/\0<=x.2.1/\x.2.1<8
theorem Aps.kp(h:Aps w B v n xs)(hk:Kp T B' w w')(h1:125 ∉ T):Aps w' B v n xs:=
 ⟨h.len,own_kp h.own hk h1,h.each⟩
structure WdD where
 X:Nat->Option PyP
 P:Nat->Value
 D:Nat->BkD
 K:Nat->Value
 O:Value
 A:Value
 xs:List (List Int×Int×Int×Int)
 n:Int
def wdC(s:Int)(d:WdD):List Value:=[.int .i32 s,.int .u32 0]++((List.range 8).map d.P++((List.range 8).map d.K ++ [d.O,d.A,.int .i64 d.n]))
structure WdAt (w:World) (B g:Nat) (s:Int) (d:WdD):Prop where
 lo:B<=g
 cel:Cel w g 74 (wdC s d)
 X:∀i,i<8->PyV w B (d.P i) (d.X i)
 K:∀i,i<8->d.K i=.pointer (some ⟨(d.D i).g,0,none⟩)
 D:Bks w B d.D
 O:PstO w B d.O
 A:∃A c,d.A=.slice A d.xs.length c/\Aps w B d.A d.xs.length d.xs
variable{d:WdD}
theorem WdAt.lt{g:Nat}(h:WdAt w B g s d):g<w.heap.size:=h.cel.lt
theorem WdAt.kp{g:Nat}(h:WdAt w B g s d)(hk:Kp T B' w w')(ht:∀t,t=74\/t=82\/t=161\/t=98\/t=149\/t=31\/t=5\/t=125->t ∉ T):WdAt w' B g s d:=by
 obtain⟨A,c,e,ha⟩:=h.A;exact⟨h.lo,h.cel.kp hk (ht _ s_),fun i hi=>(h.X i hi).kp hk (ht _ s_) (ht _ s_),h.K,h.D.kp hk (ht _ s_) (ht _ s_),h.O.kp hk (ht _ s_) (ht _ s_),⟨A,c,e,ha.kp hk (ht _ s_)⟩⟩
theorem WdAt.below{g:Nat}(h:WdAt w B g s d)(hb:Bl w w'):WdAt w' B g s d:=h.kp (Kp.of_below (T:=[]) (B:=0) hb) (fun _ _ h=>by cases h)
theorem WdAt.key{g gk:Nat}{sk:Int}(h:WdAt w B g s d)(h0:KeyAt w gk sk)(h1:KeyAt w' gk sk)(hk:ChgK gk w w'):WdAt w' B g s d:=by
 have hkp:=Kp.of_chgk (B:=0) h0 hk (Nat.zero_le _);obtain⟨A,c,e,ha⟩:=h.A;exact⟨h.lo,h.cel.kp hkp dd,fun i hi=>(h.X i hi).key h0 h1 hk,h.K,h.D.kp hkp dd dd,h.O.kp hkp dd dd,⟨A,c,e,ha.kp hkp dd⟩⟩
theorem map_upd{f:Nat->Value}(hi:i<8):((List.range 8).map f).set i v=(List.range 8).map (fun k=>if k=i then v else f k):=by
 apply List.ext_getElem?;intro k;simp only[List.getElem?_set,List.getElem?_map,List.length_map,List.length_range];by_cases e:i=k
 · subst e;simp[hi,List.getElem?_range hi]
 by_cases hk:k<8
 · simp[e,List.getElem?_range hk,show ¬k=i from fun h=>e h.symm]
 simp[e,show(List.range 8)[k]? = none by simp;omega]
theorem wd_P(hi:i<8):(wdC s d)[2+i]? = some (d.P i):=by
 unfold wdC;rw[List.getElem?_append_right s_,List.getElem?_append_left s1_];simp[List.getElem?_range hi]
theorem wd_K(hi:i<8):(wdC s d)[10+i]? = some (d.K i):=by
 unfold wdC;rw[List.getElem?_append_right s1_,List.getElem?_append_right s1_,List.getElem?_append_left s1_];rw[show 10+i-([Value.int .i32 s,.int .u32 0]:List Value).length-((List.range 8).map d.P).length=i by simp;omega];simp[List.getElem?_range hi]
theorem wd_O:(wdC s d)[18]? = some d.O:=rfl
theorem wd_A:(wdC s d)[19]? = some d.A:=rfl
theorem wd_n:(wdC s d)[20]? = some (.int .i64 d.n):=rfl
theorem wd_s:(wdC s d)[0]? = some (.int .i32 s):=rfl
theorem wd_set_s{s':Int}:(wdC s d).set 0 (.int .i32 s')=wdC s' d:=rfl
def WdD.sn(d:WdD)(x:Int):WdD:=⟨d.X,d.P,d.D,d.K,d.O,d.A,d.xs,x⟩
def WdD.sO(d:WdD)(x:Value):WdD:=⟨d.X,d.P,d.D,d.K,x,d.A,d.xs,d.n⟩
def WdD.sA(d:WdD)(x:Value)(xs:List (List Int×Int×Int×Int)):WdD:=⟨d.X,d.P,d.D,d.K,d.O,x,xs,d.n⟩
def WdD.sX(d:WdD)(i:Nat)(v:Value)(o:Option PyP):WdD:=⟨fun k=>if k=i then o else d.X k,fun k=>if k=i then v else d.P k,d.D,d.K,d.O,d.A,d.xs,d.n⟩
def WdD.sD(d:WdD)(i:Nat)(x:BkD):WdD:=⟨d.X,d.P,fun k=>if k=i then x else d.D k,fun k=>if k=i then .pointer (some ⟨x.g,0,none⟩) else d.K k,d.O,d.A,d.xs,d.n⟩
theorem wd_set_n{x:Int}:(wdC s d).set 20 (.int .i64 x)=wdC s (d.sn x):=rfl
theorem wd_set_O{x:Value}:(wdC s d).set 18 x=wdC s (d.sO x):=rfl
theorem wd_set_A{x:Value}:(wdC s d).set 19 x=wdC s (d.sA x xs):=rfl
theorem wd_set_P{o:Option PyP}(hi:i<8):(wdC s d).set (2+i) v=wdC s (d.sX i v o):=by
 unfold wdC WdD.sX;rw[List.set_append_right _ _ s_,List.set_append_left _ _ s1_,show 2+i-([Value.int .i32 s,.int .u32 0]:List Value).length=i by simp,map_upd hi]
theorem wd_set_K{x:BkD}(hi:i<8):(wdC s d).set (10+i) (.pointer (some ⟨x.g,0,none⟩))=wdC s (d.sD i x):=by
 unfold wdC WdD.sD;rw[List.set_append_right _ _ s1_,List.set_append_right _ _ s1_,List.set_append_left _ _ s1_,show 10+i-([Value.int .i32 s,.int .u32 0]:List Value).length-((List.range 8).map d.P).length=i by simp;omega,map_upd hi]
section
variable {w w':World} {B g:Nat} {s:Int} {d:WdD}
theorem WdAt.gkp(h:WdAt w B g s d)(i:Nat)(v:Value):Kp [74] B w (w.setCell ⟨g,i,none⟩ v):=Kp.of_grown h.cel (grownBy_set1 _ _ _ _) h.lo
theorem WdAt.put(h:WdAt w B g s d){s':Int}{d':WdD}(hc:(wdC s d).set i v=wdC s' d')(hX:∀i,i<8->PyV w B (d'.P i) (d'.X i))(hK:∀i,i<8->d'.K i=.pointer (some ⟨(d'.D i).g,0,none⟩))(hD:Bks w B d'.D)(hO:PstO w B d'.O)(hA:∃A c,d'.A=.slice A d'.xs.length c/\Aps w B d'.A d'.xs.length d'.xs): WdAt (w.setCell ⟨g,i,none⟩ v) B g s' d':=by
 have hk:=h.gkp i v;obtain⟨A,c,e,ha⟩:=hA;exact⟨h.lo,by rw[<-hc];exact h.cel.set i v,fun i hi=>(hX i hi).kp hk dd dd,hK,hD.kp hk dd dd,hO.kp hk dd dd,⟨A,c,e,ha.kp hk dd⟩⟩
theorem WdAt.put_s(h:WdAt w B g s d)(s':Int):WdAt (w.setCell ⟨g,0,none⟩ (.int .i32 s')) B g s' d:=h.put wd_set_s h.X h.K h.D h.O h.A
theorem WdAt.put_n(h:WdAt w B g s d)(x:Int):WdAt (w.setCell ⟨g,20,none⟩ (.int .i64 x)) B g s (d.sn x):=h.put wd_set_n h.X h.K h.D h.O h.A
theorem WdAt.put_X(h:WdAt w B g s d)(hi:i<8){o:Option PyP}(hv:PyV w B v o):WdAt (w.setCell ⟨g,2+i,none⟩ v) B g s (d.sX i v o):=by
 refine h.put (wd_set_P hi) (fun k hk=>?_) h.K h.D h.O h.A;show PyV w B (if k=i then v else d.P k) (if k=i then o else d.X k);by_cases e:k=i
 · rw[if_pos e,if_pos e];exact hv
 rw[if_neg e,if_neg e];exact h.X k hk
theorem WdAt.put_K(h:WdAt w B g s d)(hi:i<8){x:BkD}(hD:Bks w B (fun k=>if k=i then x else d.D k)):WdAt (w.setCell ⟨g,10+i,none⟩ (.pointer (some ⟨x.g,0,none⟩))) B g s (d.sD i x):=by
 refine h.put (wd_set_K hi) h.X (fun k hk=>?_) hD h.O h.A;show(if k=i then Value.pointer (some ⟨x.g,0,none⟩) else d.K k)=.pointer (some ⟨((if k=i then x else d.D k):BkD).g,0,none⟩);by_cases e:k=i
 · rw[if_pos e,if_pos e]
 rw[if_neg e,if_neg e];exact h.K k hk
theorem Bks.turn{D:Nat->BkD}(h:Bks w B D)(hi:i<8){x:BkD}(hx:BookAt w' B x.g x.v x.es x.st x.fl)(hs:x.st<=x.es.length)(hg:x.g=(D i).g)(hc:Chg w w' (D i).g (D i).v.ownBlock)(hr:x.v.ownBlock=(D i).v.ownBlock\/x.v.ownBlock=none\/∃k,x.v.ownBlock=some k/\w.heap.size<=k):Bks w' B (fun k=>if k=i then x else D k):=by
 have hold:∀k,k<8->∀r,(D k).v.ownBlock=some r->r<w.heap.size:=fun k hk r e=>((h.at_ k hk).1.own.lt r e).2;refine⟨fun k hk=>?_,fun k j hk hj hne=>?_⟩
 · show BookAt w' B (if k=i then x else D k).g (if k=i then x else D k).v (if k=i then x else D k).es (if k=i then x else D k).st (if k=i then x else D k).fl/\(if k=i then x else D k).st<=(if k=i then x else D k).es.length;by_cases e:k=i;(· rw[if_pos e];exact⟨hx,hs⟩);rw[if_neg e];obtain⟨h1,h2⟩:=h.ne k i hk hi e;refine⟨(h.at_ k hk).1.far hc h1 (fun e'=>?_) (fun e'=>?_) ?_,(h.at_ k hk).2⟩;(· obtain⟨_,cs,fr,hb⟩:=own_block (h.at_ i hi).1.own e'.symm;rw[(h.at_ k hk).1.blk]at hb;(injection hb with hb);(injection hb with _ hb);exact absurd hb dd);(· obtain⟨_,cs,fr,hb⟩:=own_block (h.at_ k hk).1.own e';rw[(h.at_ i hi).1.blk]at hb;(injection hb with hb);(injection hb with _ hb);exact absurd hb dd);exact h2
 show(if k=i then x else D k).g≠(if j=i then x else D j).g/\((if k=i then x else D k).v.ownBlock=none\/(if k=i then x else D k).v.ownBlock≠(if j=i then x else D j).v.ownBlock);by_cases e:k=i
 · have e2:¬j=i:=fun e'=>hne (e.trans e'.symm);rw[if_pos e,if_neg e2,hg];obtain⟨h1,h2⟩:=h.ne i j hi hj (fun e'=>e2 e'.symm);refine⟨h1,?_⟩;(rcases hr with hr|hr|⟨r,hr,hlt⟩);(· rw[hr];exact h2);(· exact .inl hr);refine .inr (fun e'=>?_);have:=hold j hj r (e'.symm.trans hr);omega
 rw[if_neg e];by_cases e2:j=i
 · rw[if_pos e2,hg];obtain⟨h1,h2⟩:=h.ne k i hk hi e;refine⟨h1,?_⟩;(rcases hr with hr|hr|⟨r,hr,hlt⟩);(· rw[hr];exact h2)
   · rw[hr]
     cases hv:(D k).v.ownBlock with
     | none=>exact .inl rfl
     | some r=>exact .inr s_
   refine .inr (fun e'=>?_);have:=hold k hk r (e'.trans hr);omega
 rw[if_neg e2];exact h.ne k j hk hj hne
theorem Bks.swap{D:Nat->BkD}(h:Bks w' B D)(hi:i<8){x:BkD}(hx:BookAt w' B x.g x.v x.es x.st x.fl)(hs:x.st<=x.es.length)(hg:m<=x.g)(hr:∀k,x.v.ownBlock=some k->m<=k)(hold:∀k,k<8->(D k).g<m/\∀r,(D k).v.ownBlock=some r->r<m):Bks w' B (fun k=>if k=i then x else D k):=by
 refine⟨fun k hk=>?_,fun k j hk hj hne=>?_⟩
 · show BookAt w' B (if k=i then x else D k).g (if k=i then x else D k).v (if k=i then x else D k).es (if k=i then x else D k).st (if k=i then x else D k).fl/\(if k=i then x else D k).st<=(if k=i then x else D k).es.length;by_cases e:k=i;(· rw[if_pos e];exact⟨hx,hs⟩);rw[if_neg e];exact h.at_ k hk
 show(if k=i then x else D k).g≠(if j=i then x else D j).g/\((if k=i then x else D k).v.ownBlock=none\/(if k=i then x else D k).v.ownBlock≠(if j=i then x else D j).v.ownBlock);by_cases e:k=i
 · have e2:¬j=i:=fun e'=>hne (e.trans e'.symm);rw[if_pos e,if_neg e2];obtain⟨h1,h2⟩:=hold j hj;refine⟨by omega,?_⟩
   cases hv:x.v.ownBlock with
   | none=>exact .inl rfl
   | some r=>exact .inr (fun e'=>by have:=hr r hv;have:=h2 r e'.symm;omega)
 rw[if_neg e];by_cases e2:j=i
 · rw[if_pos e2];obtain⟨h1,h2⟩:=hold k hk;refine⟨by omega,?_⟩
   cases hv:(D k).v.ownBlock with
   | none=>exact .inl rfl
   | some r=>exact .inr (fun e'=>by have:=hr r e'.symm;have:=h2 r hv;omega)
 rw[if_neg e2];exact h.ne k j hk hj hne
end
def TW:List TypeId:=[74,98,149,31,125,161]
end Go.Proofs.YtppjnahcnofokaaGreat.T
namespace Go.Proofs.YtppjnahcnofokaaGreat.T
open Go.RowKit Go.Proofs.YtppjnahcnofokaaGreatW.PrintLast
open Go.Proofs.YtppjnahcnofokaaGreat.B (BookAt Chg)
open Go.Proofs.Tryz
variable{k:IntKind}{a:Act}{b i n B base m fuel D B':Nat}{l ch p t0 q:List Int}{w w' w1 w2:World}{t:TypeId}{P:Int->Int->Prop}{cs:Array Value}{A A':Option Addr}{o oi:Oper}{e s f st fl:Int}{xs:List (List Int×Int×Int×Int)}{ops:Array Oper}{rest l0:List Oper}{v:Value}{r:Option Nat}{rs rs2:List (Option Addr×Nat×Nat×List Int)}{E:Prop}{vs l3:List Value}{ad ai go:List Bool}{N:Act->Prop}{place:Nat->Option (Nat×Nat)}{bad:Bool}{es es':List (Int×List Int)}{T:List TypeId}{ps:List (List Int)}
variable{d:WdD}
theorem WdAt.frozen{g:Nat}(h:WdAt w B g s d)(i:Nat):w.frozen? ⟨g,i,none⟩=false:=h.cel.free i
theorem WdAt.kTW{g:Nat}(h:WdAt w B g s d)(i:Nat)(v:Value):Kp TW B w (w.setCell ⟨g,i,none⟩ v):=(h.gkp i v).mono dd
def PtR(w:World)(o:Option PyP)(r:Ending)(w':World):Prop:=(o=none/\r=.returned (.pointer none))\/∃b x,o=some x/\r=.returned (.pointer (some ⟨b,0,none⟩))/\w.heap.size<=b/\Cel w' b 82 (pyC x)/\PyOk x
theorem party_any(w:World)(B g:Nat)(d:WdD)(h:WdAt w B g 0 d)(i:Nat)(hi:i<8):Calls prog 12 #[.pointer (some ⟨g,0,none⟩),.int .i64 i] w fun r w'=>PtR w (d.X i) r w'/\WdAt w' B g 0 d/\Kp TW B w w':=by
 have hii:(i:Int)<8:=by omega
 have HI:Hid (i<8):=hi;obtain⟨W1,hW1⟩:=ex_ (w.setCell ⟨g,0,none⟩ (.int .i32 1));have H1:Hid (WdAt W1 B g 1 d):=by rw[hW1];exact h.put_s 1
 have HK1:Hid (Kp TW B w W1):=by rw[hW1];exact h.kTW 0 _
 have HS1:Hid (W1.heap.size=w.heap.size):=by rw[hW1];show _=_;simp
 have HL:=hd_ (lock_free ⟨g,0,none⟩ w ((h.cel.cell 0).trans wd_s) (h.frozen 0));have HW1:=hd_ hW1;clear hW1 h;go_enter_defers func12,ntmps12
 go_wp2_with fail;refine(isPlace_any i w).mono ?_;rintro _ _ ⟨rfl,rfl⟩;have hd:decide ((0:Int)<=(i:Int)/\(i:Int)<8)=true:=by simp;omega
 rw[hd];go_wp2_with fail;refine HL.out.mono ?_;rintro _ w' ⟨rfl,hw'⟩;rw[<-HW1.out]at hw';subst hw';have HP:Hid (PyV w' B (d.P i) (d.X i)):=H1.out.X i hi;have kP:w'.cell? ⟨g,2+i,none⟩=some (d.P i):=(H1.out.cel.cell (2+i)).trans (wd_P hi);rcases HP.out with⟨e1,e2⟩|⟨b,x,gk,sk,e1,e2,hp,-⟩
 · rw[e1]at kP;go_wp2_with fail;refine(copy_nil w').mono ?_;rintro _ _ ⟨rfl,rfl⟩;go_wp2_with fail;refine leaves_cons (f:=23) (args:=#[.pointer (some ⟨g,0,none⟩)]) (by simp[settle]) (by simp[go_sem]) ?_;refine(unlock_deferred ⟨g,0,none⟩ _ _ ((H1.out.cel.cell 0).trans wd_s) (H1.out.frozen 0)).mono ?_;rintro e u' w5 ⟨rfl,rfl,hw5⟩;(have h5:WdAt w5 B g 0 d:=by rw[hw5];exact H1.out.put_s 0);have k5:Kp TW B w w5:=HK1.out.trans (by rw[hw5];exact H1.out.kTW 0 _);clear hw5;simp[Leaves,settle,results,results12];exact⟨.inl ⟨e2,rfl⟩,h5,k5⟩
 rw[e1]at kP;have HPy:=hd_ hp;clear hp;go_wp2_with fail;refine(copy_any b x w' HPy.out.cel HPy.out.ok).mono ?_;rintro _ w2 ⟨rfl,hc,hb⟩;have HC2:=hd_ hc;have H2:=hd_ (H1.out.below hb);have HK2:Hid (Kp TW B w w2):=HK1.out.trans (Kp.of_below hb);clear hb hc;go_wp2_with fail;refine leaves_cons (f:=23) (args:=#[.pointer (some ⟨g,0,none⟩)]) (by simp[settle]) (by simp[go_sem]) ?_;refine(unlock_deferred ⟨g,0,none⟩ _ _ ((H2.out.cel.cell 0).trans wd_s) (H2.out.frozen 0)).mono ?_;rintro e u' w5 ⟨rfl,rfl,hw5⟩;have h5:WdAt w5 B g 0 d:=by rw[hw5];exact H2.out.put_s 0
 have k5:Kp TW B w w5:=HK2.out.trans (by rw[hw5];exact H2.out.kTW 0 _);have c5:Cel w5 w'.heap.size 82 (pyC x):=by rw[hw5];exact HC2.out.kp (H2.out.gkp 0 _) dd
 clear hw5;simp[Leaves,settle,results,results12];exact⟨.inr ⟨w'.heap.size,x,e2,rfl,by have:=HS1.out;omega,c5,HPy.out.ok⟩,h5,k5⟩
end Go.Proofs.YtppjnahcnofokaaGreat.T
