/-
  clear of a row, of a part of one; differences of words. No program in sight.
-/
import Derived.Test.YtgdjkkapgghdbaaGreatDoorAvQ
import Derived.Laws.Externs
import Derived.Lib.Overlaps
import Derived.Lib.AppendZerosOnto
import Derived.Laws.CopyRow
import Derived.Deep.OwnRows
import Derived.Scope
namespace Go.Proofs.YtgdjkkapgghdbaaGreatDoor
set_option linter.unusedSimpArgs false
set_option linter.unusedVariables false
section
open Go.RowKit
def Ext(P:Program)(f:FuncId)(args:List Value)(res:AV):Prop:=
 ∀w:World,∃r,(callFunc f args.toArray).run P w = .ok (.value r) w∧∀(S:Nat→Prop) (ι : Nat→Nat×Nat×Nat) (w':World),RV S ι w' r res
def AV.ones:List AV→Option (List Value)
 |[]=>some []
 |.c (.v x)::l=>(AV.ones l).map (x :: ·)
 |_=>none
theorem ones_eq:∀{l:List AV} {vs:List Value},AV.ones l=some vs→l=vs.map fun v=>.c (.v v)
 |[],vs,h=>by cases h;rfl
 |.c (.v x)::l,vs,h=>by
  simp only[AV.ones,Option.map_eq_some_iff] at h
  obtain⟨ws,h',rfl⟩:=h
  rw[ones_eq h'];rfl
 |.c (.sl _ _ _ _)::_,_,h=>by cases h
 |.any::_,_,h=>by cases h
 |.agg _::_,_,h=>by cases h
 |.tup _::_,_,h=>by cases h
 |.ptr _ _::_,_,h=>by cases h
 |.row _ _ _ _::_,_,h=>by cases h
 |.cut _ _ _ _ _ _ _::_,_,h=>by cases h
 |.ep _::_,_,h=>by cases h
 |.fn _ _::_,_,h=>by cases h
 |.fnb _ _::_,_,h=>by cases h
 |.amp _ _ _::_,_,h=>by cases h
section
variable {P:Program} {o:Oper} {σ : St} {K:St→Prop} {f:FuncId} {vs:List Value} {res:AV} {fo:Operand} {cas:Array Operand} {ts:Array TypeId}
theorem opA_ext(hF:Ext P f vs res)(ho:o.op = .call {callee:=.value fo,args:=cas,argTypes:=ts})(hfo:Q0i fo=true)(has:cas.toList.all Q0i=true)(hf:σ.ev fo = .fn f [])
 (hargs:AV.ones (cas.toList.map σ.ev)=some vs) (hK:K (σ.put o.dst res)):OpA P o σ K:=
 Q1h _ hK fun E ι a w h=>by
  have hfv:=h.ev fo hfo
  rw[hf] at hfv
  generalize hfe:a.eval fo=fv at hfv
  cases hfv with
  |fn _ us _ hul hus=>
   obtain rfl:=List.eq_nil_of_length_eq_zero hul
   obtain⟨r,hr,hv⟩:=hF w
   refine⟨r,?_,hv _ _ _⟩
   have hev:cas.toList.map a.eval=vs:=by
    have h1:=ones_eq hargs
    refine List.ext_getElem? fun j=>?_
    have h2:(cas.toList.map σ.ev)[j]? = (vs.map fun v=>AV.c (.v v))[j]?:=by rw[h1]
    rw[List.getElem?_map,List.getElem?_map] at h2
    rw[List.getElem?_map]
    cases hx:cas.toList[j]? with
    |none=>
     rw[hx] at h2
     cases hv':vs[j]? with
     |none=>rfl
     |some v=>rw[hv'] at h2;cases h2
    |some x=>
     rw[hx] at h2
     cases hv':vs[j]? with
     |none=>rw[hv'] at h2;cases h2
     |some v=>
      rw[hv'] at h2
      simp only[Option.map_some,Option.some.injEq] at h2
      have h3:=h.ev x (List.all_eq_true.1 has x (List.mem_of_getElem? hx))
      rw[h2] at h3
      simp only[Option.map_some,Option.some.injEq]
      exact h3.v_inv.1
   have h1:cas.map a.eval=vs.toArray:=by rw[←hev,←Array.toList_map]
   simp only[execOp,ho,resolve,hfe,Deferred.ofValue,h1,Sem.run_bind,Sem.run_pure,Result.andThen_ok,invoke,Array.empty_append,List.append_toArray,List.nil_append,List.append_nil,hr]
theorem X2z(hF:Ext P f vs res)(ho:o.op = .call {callee:=.value fo,args:=cas,argTypes:=ts})(hfo:Q0i fo=true)(has:cas.toList.all Q0i=true)(hf:σ.ev fo = .fn f [])
 (hargs:AV.ones (cas.toList.map σ.ev)=some vs):OpF P o σ.ev (hget σ.H) res [] []:=
 fun τ hA hQ=>by
  have hA':∀x∈fo::cas.toList,τ.ev x = σ.ev x:=fun x hx=>hA x (by rw[ho];simpa [Op.operands,Call.operands] using hx)
  have hmap:cas.toList.map τ.ev=cas.toList.map σ.ev:=List.map_congr_left fun x hx=>hA' x (by simp[hx])
  refine opA_ext hF ho hfo has (by rw[hA' fo (by simp)];exact hf) (by rw[hmap];exact hargs) ?_
  cases o.dst<;>rfl
end
theorem ext_of {P:Program} {f:FuncId} {fn:Func} {e:Array Value→Sem Value} {vs:List Value} {r:Value} {res:AV} (hf:P.funcs[f]? = some fn) (hname:(fn.name == "runtime.NumGoroutine")=false)
 (hb:fn.body.isNone=true) (hn:Extern.findNext fn=none) (he:Extern.find fn=some e) (hr:∀w,(e vs.toArray).run P w = .ok r w) (hv:∀(S:Nat→Prop) (ι : Nat→Nat×Nat×Nat) (w':World),RV S ι w' r res):Ext P f vs res:=
 fun w=>⟨r,by rw[run_callFunc_extern hf hname hb hn he,hr w];rfl,hv⟩
open Go.RowKit Go.Lib
theorem X2r{P:Program}(w:World)(dT sT ty elem:TypeId)(g o dLen dCap:Nat)(a:Addr)(sLen sCap sz:Nat)(cur:Array Value)(t:TypeId)(cs:List Value)
 (hu:P.underlying dT=some (.slice elem)) (hs:(P.info? elem).map (·.size)=some sz)
 (hg:w.heap[g]? = some (.cells cur t (0,0))) (hn:cs.length=Nat.min sLen dLen*sz)
 (hsrc:∀j v,cs[j]? = some v→w.cell? (a.add j)=some v) (hfit:o+cs.length≤cur.size) (h1:∀v∈cs,v.oneCell'=true) :
 (Builtin.copy_ #[dT,sT] ty #[.slice (some ⟨g,o,none⟩) dLen dCap,.slice (some a) sLen sCap]).run P w =
   .ok (goInt (Nat.min sLen dLen)) (w.setRow g (cur.toList.take o++cs++cur.toList.drop (o+cs.length)).toArray):=by
 have hl:=run_loadCells_list (P:=P) w a cs hsrc
 have hst:=run_storeCells_at P g o t cs 0 cur w hg (by simpa using hfit) h1
 cases hq:P.info? elem with
 |none=>simp[hq] at hs
 |some i=>
  have hi:i.size=sz:=by simpa [hq] using hs
  simp[Builtin.copy_,run_underlying hu,Builtin.lenOf,Builtin.firstCells,sizeOf,typeInfo,hq,hi,←hn,hl,hst]
theorem X1d{P:Program}(w:World)(dT sT ty elem:TypeId)(d:Option Addr)(dLen dCap sLen sCap:Nat)(hu:P.underlying dT=some (.slice elem))(sz:Nat)(hs:(P.info? elem).map (·.size)=some sz)(a:Option Addr)(hn:Nat.min sLen dLen=0) :
 (Builtin.copy_ #[dT,sT] ty #[.slice d dLen dCap,.slice a sLen sCap]).run P w = .ok (goInt 0) w:=by
 cases hq:P.info? elem with
 |none=>simp[hq] at hs
 |some i=>cases a<;>cases d<;>simp[Builtin.copy_,run_underlying hu,Builtin.lenOf,Builtin.firstCells,sizeOf,typeInfo,hq,hn,storeCells,loadCells,loadCellsFrom]
section
variable {P:Program} {w:World}
end
theorem RV.row_cut{S:Nat→Prop}{ι : Nat→Nat×Nat×Nat}{w:World}{v:Value}{r e sz n:Nat}(h:RV S ι w v (.row r e sz n)):∃c,n≤c∧c≤maxLen∧RV S ι w v (.cut r e sz 0 n c true):=by
 cases h with
 |row _ _ _ _ c h1 h2 h3 h4 h0=>
  refine⟨c,h1,h2,?_⟩
  have:=RV.cut (S:=S) (ι:=ι) (w:=w) r e sz 0 n c true h1 h2 (by rw[Nat.zero_add];omega) (fun _=>by rw[Nat.zero_add];exact h3) h4 h0
  rwa [Nat.zero_mul] at this
 |rnil A _ _ _ h=>exact⟨0,Nat.le_refl _,Nat.zero_le _,.cnil A r e sz 0 true fun _ _=>h⟩
theorem AV.le_cut(r e sz n m:Nat):(AV.cut r e sz 0 n m true).le (.row r e sz n):=fun S ι w v h=>by
 cases h with
 |cut _ _ _ _ _ _ _ h1 h2 h3 hx h4 h0=>
  have hx':=hx rfl
  rw[Nat.zero_add] at hx'
  have:=RV.row (S:=S) (ι:=ι) (w:=w) r e sz n m h1 h2 hx' h4 h0
  rwa [Nat.zero_mul]
 |cnil A _ _ _ _ _ h=>exact .rnil A r e sz (h rfl rfl)
def AV.part:AV→Option (Nat×Nat×Nat×Nat×Nat)
 |.row r e sz n=>some (r,e,sz,0,n)
 |.cut r e sz lo n _ _=>some (r,e,sz,lo,n)
 |_=>none
theorem RV.part{S:Nat→Prop}{ι : Nat→Nat×Nat×Nat}{w:World}{v:Value}{x:AV}{r e sz lo n:Nat}(h:RV S ι w v x)(hp:x.part=some (r,e,sz,lo,n)) :
 ∃A c,v = .slice A n c∧n≤c∧c≤maxLen∧(0<n→A=some ⟨(ι r).1,lo*sz,none⟩∧(lo+n)*sz≤(ι r).2.1∧(ι r).2.1≠0):=by
 cases h with
 |row _ _ _ _ c h1 h2 h3 h4 h0=>
  cases hp
  refine⟨_,c,rfl,h1,h2,fun _=>⟨by rw[Nat.zero_mul],?_,h0⟩⟩
  rw[Nat.zero_add,←h3];exact Nat.mul_le_mul_right _ h1
 |rnil A=>cases hp;exact⟨A,0,rfl,Nat.le_refl _,Nat.zero_le _,fun h=>absurd h (by omega)⟩
 |cut _ _ _ _ _ c _ h1 h2 h3 hx h4 h0=>
  cases hp
  exact⟨_,c,rfl,h1,h2,fun _=>⟨rfl,Nat.le_trans (Nat.mul_le_mul_right _ (by omega)) h3,h0⟩⟩
 |cnil A=>cases hp;exact⟨A,0,rfl,Nat.le_refl _,Nat.zero_le _,fun h=>absurd h (by omega)⟩
 |_=>cases hp
def St.src2(σ : St)(sz:Nat):AV→Option (Nat×List AV)
 |.row r _ _ n=>(hget σ.H r).map fun cs=>(n,cs.take (n*sz))
 |.cut r _ _ lo n _ _=>(hget σ.H r).map fun cs=>(n,(cs.drop (lo*sz)).take (n*sz))
 |.c (.sl _ _ n cs)=>some (n,cs.map .c)
 |.c (.v (.slice none 0 0))=>some (0,[])
 |_=>none
def szOf:AV→Nat→Bool
 |.row _ _ s _,sz=>s==sz
 |.cut _ _ s _ _ _ _,sz=>s==sz
 |.c (.sl _ s _ _),sz=>s==sz
 |_,_=>true
section
variable {E:Env} {ι : Nat→Nat×Nat×Nat} {σ : St} {a:Act} {w:World}
theorem Conc.src2(h:Conc E ι σ a w){v:Value}{x:AV}{n sz:Nat}{ds:List AV}(hv:RV (Sx E ι σ.H) ι w v x)(hs:σ.src2 sz x=some (n,ds))(hso:szOf x sz=true)(hl:ds.length=n*sz)(h0:0<sz) :
 ∃A c us,v = .slice A n c∧Sl w w.heap.size sz A n c us∧RVs (Sx E ι σ.H) ι w us ds:=by
 have empty:∀{A:Option Addr} {c:Nat},n=0→0≤c→c≤maxLen→(A=none→c=0)→Sl w w.heap.size sz A n c []∧RVs (Sx E ι σ.H) ι w [] ds:=fun {A c} e h1 h2 h3=>by
  subst e
  exact⟨⟨h1,h2,h3,by simp,fun h=>absurd h (by omega)⟩,by rw[Nat.zero_mul] at hl;exact hl.symm,fun j u x hu=>by cases hu⟩
 by_cases hp:∃r e sz' lo,x.part=some (r,e,sz',lo,n)
 · obtain⟨r,e,sz',lo,hp⟩:=hp
   obtain⟨A,c,rfl,h1,h2,h3⟩:=hv.part hp
   have hn:A=none→c=0:=by
    cases hv with
    |row=>intro h;cases h
    |rnil=>intro;rfl
    |cut=>intro h;cases h
    |cnil=>intro;rfl
    |c=>cases hp
    |_=>cases hp
   rcases Nat.eq_zero_or_pos n with hn0|hn0
   · obtain⟨g1,g2⟩:=empty (A:=A) (c:=c) hn0 (Nat.zero_le _) h2 hn
     exact⟨A,c,[],rfl,g1,g2⟩
   · obtain⟨rfl,h4,h5⟩:=h3 hn0
     have key:∃cs,hget σ.H r=some cs∧sz'=sz∧ds=(cs.drop (lo*sz)).take (n*sz):=by
      cases x with
      |row r' e' s' n'=>
       simp only[AV.part,Option.some.injEq,Prod.mk.injEq] at hp
       obtain⟨rfl,rfl,rfl,rfl,rfl⟩:=hp
       simp only[St.src2,Option.map_eq_some_iff,Prod.mk.injEq] at hs
       obtain⟨cs,hr,_,rfl⟩:=hs
       exact⟨cs,hr,by simpa [szOf] using hso,by rw[Nat.zero_mul,List.drop_zero]⟩
      |cut r' e' s' lo' n' c' ex=>
       simp only[AV.part,Option.some.injEq,Prod.mk.injEq] at hp
       obtain⟨rfl,rfl,rfl,rfl,rfl⟩:=hp
       simp only[St.src2,Option.map_eq_some_iff,Prod.mk.injEq] at hs
       obtain⟨cs,hr,_,rfl⟩:=hs
       exact⟨cs,hr,by simpa [szOf] using hso,rfl⟩
      |_=>cases hp
     obtain⟨cs,hr,rfl,rfl⟩:=key
     rcases h.heap.blk r cs hr with⟨hz,_⟩|⟨cur,hh,hsz,hlc,hc,hone1⟩
     · exact absurd hz h5
     · have e1:(lo+n)*sz'=lo*sz'+n*sz':=Nat.add_mul _ _ _
       refine⟨_,c,(cur.toList.drop (lo*sz')).take (n*sz'),rfl,⟨h1,h2,hn,by simp;omega,fun _=>⟨(ι r).1,lo*sz',rfl,(Array.getElem?_eq_some_iff.1 hh).1,fun j u hu=>?_⟩⟩,⟨by rw[hl];simp;omega,fun j u x hu hx=>?_⟩⟩
       · rw[List.getElem?_take] at hu
         split at hu
         · rw[List.getElem?_drop] at hu
           simp only[World.cell?,hh]
           simpa using hu
         · cases hu
       · rw[List.getElem?_take] at hu hx
         split at hu
         · rename_i hj
           rw[if_pos hj] at hx
           rw[List.getElem?_drop] at hu hx
           exact hc _ u x (by simpa using hu) hx
         · cases hu
 · have hs':σ.src x=some (n,ds):=by
    cases x with
    |row r e s n'=>
     simp only[St.src2,Option.map_eq_some_iff,Prod.mk.injEq] at hs
     obtain⟨cs,hr,rfl,_⟩:=hs
     exact absurd ⟨r,e,s,0,rfl⟩ hp
    |cut r e s lo n' c ex=>
     simp only[St.src2,Option.map_eq_some_iff,Prod.mk.injEq] at hs
     obtain⟨cs,hr,rfl,_⟩:=hs
     exact absurd ⟨r,e,s,lo,rfl⟩ hp
    |c p=>
     cases p with
     |sl=>exact hs
     |mp=>simp[St.src2] at hs
     |v z=>
      unfold St.src2 at hs
      split at hs
      · rename_i heq;cases heq
      · rename_i heq;cases heq
      · rename_i heq;cases heq
      · rename_i heq;cases heq;exact hs
      · cases hs
    |_=>cases hs
   exact h.src hv hs' hl h0
theorem spl_get{R:Value→AV→Prop}{cur us:List Value}{cs ys:List AV}{o:Nat}(hc:∀(j:Nat) (u:Value) (x:AV),cur[j]? = some u→cs[j]? = some x→R u x)(hy:us.length=ys.length)(hv:∀(j:Nat) (u:Value) (x:AV),us[j]? = some u→ys[j]? = some x→R u x)
 (h1:o+us.length≤cur.length) (h2:o≤cs.length):∀(j:Nat) (u:Value) (x:AV),(cur.take o++us++cur.drop (o+us.length))[j]? = some u→(spl cs o ys)[j]? = some x→R u x:=fun j u x hu hx=>by
 unfold spl at hx
 simp only[List.getElem?_append,List.length_take,List.getElem?_take,List.getElem?_drop,List.length_append] at hu hx
 have e1:min o cur.length=o:=by omega
 have e2:min o cs.length=o:=by omega
 rw[e1] at hu
 rw[e2] at hx
 by_cases hj1:j<o+ys.length
 · rw[if_pos (by omega)] at hu
   rw[if_pos (by omega)] at hx
   by_cases hj2:j<o
   · rw[if_pos hj2,if_pos hj2] at hu hx
     exact hc j u x hu hx
   · rw[if_neg hj2] at hu hx
     exact hv _ u x hu hx
 · rw[if_neg (by omega)] at hu
   rw[if_neg (by omega)] at hx
   have e3:o+us.length+(j-(o+us.length))=j:=by omega
   have e4:o+ys.length+(j-(o+ys.length))=j:=by omega
   rw[e3] at hu
   rw[e4] at hx
   exact hc j u x hu hx
theorem Z1c{cs ys:List AV}{o:Nat}(h:o+ys.length≤cs.length):(spl cs o ys).length=cs.length:=by
 unfold spl;simp;omega
theorem spl_nil(cs:List AV)(o:Nat):spl cs o []=cs:=by simp[spl]
theorem Conc.lay(h:Conc E ι σ a w){r o:Nat}{cs ys:List AV}{us:List Value}(hr:hget σ.H r=some cs){cur:Array Value}(hh:w.heap[(ι r).1]? = some (.cells cur (ι r).2.2 (0,0)))(hz:(ι r).2.1≠0)(hsz:cur.size=(ι r).2.1)(hl:cs.length≤cur.size)
 (hcur:∀(j:Nat) (u:Value) (x:AV),cur[j]? = some u→cs[j]? = some x→RV (Sx E ι σ.H) ι w u x∧u.oneCell'=true) (hone1:∀u∈cur.toList,u.oneCell'=true) (hv:RVs (Sx E ι σ.H) ι w us ys) (hfit:o+ys.length≤cs.length) :
 Conc E ι ⟨σ.T,hput σ.H r (spl cs o ys)⟩ a (w.setRow (ι r).1 (cur.toList.take o++us++cur.toList.drop (o+us.length)).toArray):=by
 have hul:=hv.1
 refine h.set hr hh hz (by simp;omega) (by rw[Z1c hfit];simp;omega) (fun j u x hu hx=>?_) fun u hu=>?_
 rotate_left
 · simp only[List.append_assoc,List.mem_append] at hu
   rcases hu with hu|hu|hu
   · exact hone1 u (List.mem_of_mem_take hu)
   · exact hv.ones u hu
   · exact hone1 u (List.mem_of_mem_drop hu)
 simp only[List.getElem?_toArray] at hu
 exact spl_get (R:=fun u x=>RV (Sx E ι σ.H) ι w u x∧u.oneCell'=true) (fun j u x hu hx=>hcur j u x (by simpa using hu) hx) hul hv.2 (by simp;omega) (by omega) j u x hu hx
theorem Conc.same(h:Conc E ι σ a w){r:Nat}{cs:List AV}(hr:hget σ.H r=some cs):Conc E ι ⟨σ.T,hput σ.H r cs⟩ a w:=
 h.le ⟨rfl,fun i=>AV.le_refl _,fun q es hq=>by
  have hq':hget (hput σ.H r cs) q=some es:=hq
  rw[Q2n] at hq'
  split at hq'
  · rename_i e;subst e;cases hq';exact hr
  · exact hq'⟩
end
theorem take_rvs{S:Nat→Prop}{ι : Nat→Nat×Nat×Nat}{w:World}{us:List Value}{cs:List AV}(h:RVs S ι w us cs)(k:Nat):RVs S ι w (us.take k) (cs.take k):=
 ⟨by simp[h.1],fun j u x hu hx=>by
   rw[List.getElem?_take] at hu hx
   split at hu
   · rename_i hj;rw[if_pos hj] at hx;exact h.2 j u x hu hx
   · cases hu⟩
section
variable {P:Program} {o:Oper} {σ : St} {K:St→Prop}
theorem Q5w{t e sz by_:Nat}(h:slcT P t=some (e,sz,by_)):P.underlying t=some (.slice e)∧∃i,P.info? e=some i∧i.size=sz∧i.bytes=by_:=by
 unfold slcT at h
 split at h
 · rename_i e' hu
   split at h
   · rename_i i hi
     simp only[Option.some.injEq,Prod.mk.injEq] at h
     obtain⟨rfl,rfl,rfl⟩:=h
     exact⟨hu,i,hi,rfl,rfl⟩
   · cases h
 · cases h
theorem opA_copy{t t' sz r e lo n m:Nat}{x y:Operand}{cs ds:List AV}(ho:o.op = .call {callee:=.builtin .copy,args:=#[x,y],argTypes:=#[t,t']})(hx:Q0i x=true)(hy:Q0i y=true)(hs:(slcT P t).map (fun p=>p.2.1)=some sz)(h0:0<sz)
 (hp:(σ.ev x).part=some (r,e,sz,lo,n)) (hr:hget σ.H r=some cs) (hsrc:σ.src2 sz (σ.ev y)=some (m,ds)) (hso:szOf (σ.ev y) sz=true) (hl:ds.length=m*sz) (hfit:(lo+n)*sz≤cs.length)
 (hK:K ((St.mk σ.T (hput σ.H r (spl cs (lo*sz) (ds.take (min m n*sz))))).put o.dst (.c (.v (.int .i64 (min m n:Nat)))))):OpA P o σ K:=by
 intro E ι a w hc K' Q hK'
 obtain⟨e0,by_,hs⟩:=Q5x hs
 obtain⟨A,c,hxv,g1,g2,g3⟩:=(hc.ev x hx).part hp
 obtain⟨B,c',us,hyv,hsl,hus⟩:=hc.src2 (hc.ev y hy) hsrc hso hl h0
 obtain⟨hu,i,hi,his,_⟩:=Q5w hs
 have hsz:(P.info? e0).map (·.size)=some sz:=by rw[hi];simp[his]
 have fin:∀{w':World},(Builtin.copy_ #[t,t'] o.type #[.slice A n c,.slice B m c']).run P w = .ok (goInt (Nat.min m n)) w'→Conc E ι ⟨σ.T,hput σ.H r (spl cs (lo*sz) (ds.take (min m n*sz)))⟩ a w'→o.wp P a w K' Q:=fun {w'} hrun hcn=>by
  unfold Oper.wp execOp
  simp only[ho,resolve,invoke,builtin,Sem.run_bind,Sem.run_pure,Result.andThen_ok,List.map_toArray,List.map_cons,List.map_nil,hxv,hyv,hrun]
  exact hK' _ _ _ _ hK (hcn.put o.dst (Q1z _ rfl))
 rcases Nat.eq_zero_or_pos (min m n) with hz|hz
 · have hrun0:=X1d (P:=P) w t t' o.type e0 A n c m c' hu sz hsz B hz
   refine fin (w':=w) (by rw[show Nat.min m n=0 from hz];exact hrun0) ?_
   rw[hz,Nat.zero_mul,List.take_zero,spl_nil]
   exact hc.same hr
 · obtain⟨rfl,g4,g5⟩:=g3 (by omega)
   obtain⟨b,off,rfl,_,hcell⟩:=hsl.cells (by omega)
   rcases hc.heap.blk r cs hr with⟨hz0,_⟩|⟨cur,hh,hcz,hlc,hcur,hone1⟩
   · exact absurd hz0 g5
   · have hul:us.length=m*sz:=hsl.len_
     have hmm:min m n*sz≤m*sz:=Nat.mul_le_mul_right _ (by omega)
     have hmn:min m n*sz≤n*sz:=Nat.mul_le_mul_right _ (by omega)
     have e1:(lo+n)*sz=lo*sz+n*sz:=Nat.add_mul _ _ _
     have htl:(us.take (min m n*sz)).length=min m n*sz:=by rw[List.length_take];omega
     have hus':=take_rvs hus (min m n*sz)
     have hrun:=X2r (P:=P) w t t' o.type e0 (ι r).1 (lo*sz) n c ⟨b,off,none⟩ m c' sz cur (ι r).2.2 (us.take (min m n*sz)) hu hsz hh htl (fun j v hv=>by
      rw[Q1u]
      rw[List.getElem?_take] at hv
      split at hv
      · exact hcell j v hv
      · cases hv) (by rw[htl];omega) (RVs.one hus')
     exact fin hrun (hc.lay hr hh g5 hcz hlc hcur hone1 hus' (by rw[←hus'.1,htl];omega))
end
open Go.RowKit Go.Lib
section
variable {P:Program} {o:Oper} {σ : St} {K:St→Prop}
theorem X1r{ev:Operand→AV}{ea:Operand→Value}{lo hi mx:Option Operand}{n c:Nat}{l h m:Int}{w:World}
 (bv:∀(op:Option Operand) (dflt:Nat) (q:Int),(op=lo∨op=hi∨op=mx)→bnd ev dflt op=some q→(op=none∧q=dflt)∨∃x k,op=some x∧ea x = .int k q)
 (hl:bnd ev 0 lo=some l) (hh:bnd ev n hi=some h) (hm:bnd ev c mx=some m) (hmi:mx.isSome=true→hi.isSome=true) (hb:0≤l∧l≤h∧h≤m∧m≤c) :
 (Instr.sliceBounds true n c (lo.map ea) (hi.map ea) (mx.map ea)).run P w = .ok (l.toNat,h.toNat,m.toNat) w:=by
 obtain⟨b1,b2,b3,b4⟩:=hb
 rcases bv mx c m (.inr (.inr rfl)) hm with⟨rfl,rfl⟩|⟨xm,km,rfl,em⟩
 · rcases bv hi n h (.inr (.inl rfl)) hh with⟨rfl,rfl⟩|⟨xh,kh,rfl,eh⟩
   · rcases bv lo 0 l (.inl rfl) hl with⟨rfl,rfl⟩|⟨xl,kl,rfl,el⟩
     · simp[Instr.sliceBounds]
     · simp[Instr.sliceBounds,el,Q1g (P:=P) (m:=l) (y:=n) ⟨b1,by omega⟩]
   · have hbh:=fun code=>Q1g (P:=P) (k:=kh) (m:=h) (y:=c) (code:=code) ⟨by omega,by omega⟩ w
     rcases bv lo 0 l (.inl rfl) hl with⟨rfl,rfl⟩|⟨xl,kl,rfl,el⟩
     · simp[Instr.sliceBounds,eh,hbh]
     · simp[Instr.sliceBounds,eh,el,hbh,Q1g (P:=P) (m:=l) (y:=h.toNat) ⟨b1,by omega⟩]
 · have hbm:=fun code=>Q1g (P:=P) (k:=km) (m:=m) (y:=c) (code:=code) ⟨by omega,by omega⟩ w
   rcases bv hi n h (.inr (.inl rfl)) hh with⟨rfl,rfl⟩|⟨xh,kh,rfl,eh⟩
   · have:=hmi rfl;cases this
   · have hbh:=fun code=>Q1g (P:=P) (k:=kh) (m:=h) (y:=m.toNat) (code:=code) ⟨by omega,by omega⟩ w
     rcases bv lo 0 l (.inl rfl) hl with⟨rfl,rfl⟩|⟨xl,kl,rfl,el⟩
     · simp[Instr.sliceBounds,em,eh,hbm,hbh]
     · simp[Instr.sliceBounds,em,eh,el,hbm,hbh,Q1g (P:=P) (m:=l) (y:=h.toNat) ⟨b1,by omega⟩]
theorem Conc.bv{E:Env}{ι : Nat→Nat×Nat×Nat}{a:Act}{w:World}(hc:Conc E ι σ a w){lo hi mx:Option Operand}(hlo:lo.toList.all Q0i=true)(hhi:hi.toList.all Q0i=true)(hmx:mx.toList.all Q0i=true) :
 ∀(op:Option Operand) (dflt:Nat) (q:Int),(op=lo∨op=hi∨op=mx)→bnd σ.ev dflt op=some q→(op=none∧q=dflt)∨∃x k,op=some x∧a.eval x = .int k q:=fun op dflt q hop hq=>by
 have hok:op.toList.all Q0i=true:=by rcases hop with rfl|rfl|rfl<;>assumption
 cases op with
 |none=>simp[bnd] at hq;exact .inl ⟨rfl,hq.symm⟩
 |some x=>
  unfold bnd at hq
  simp only at hq
  split at hq
  · rename_i k m' hev
    cases hq
    have:=hc.ev x (by simpa using hok)
    rw[hev] at this
    exact .inr ⟨x,k,rfl,this.v_inv.1⟩
  · cases hq
theorem Q4g{t e sz r lo0 n c:Nat}{ex:Bool}{x:Operand}{lo hi mx:Option Operand}{l h m:Int}(ho:o.op = .slice t x lo hi mx)(hx:Q0i x=true)(hlo:lo.toList.all Q0i=true)(hhi:hi.toList.all Q0i=true)(hmx:mx.toList.all Q0i=true)(hs:(slcT P t).map (fun p=>p.2.1)=some sz)
 (h1:σ.ev x = .cut r e sz lo0 n c ex) (hl:bnd σ.ev 0 lo=some l) (hh:bnd σ.ev n hi=some h) (hm:bnd σ.ev c mx=some m) (hmi:mx.isSome=true→hi.isSome=true) (hb:0≤l∧l≤h∧h≤m∧m≤c)
 (hK:K (σ.put o.dst (.cut r e sz (lo0+l.toNat) (h.toNat-l.toNat) (m.toNat-l.toNat) (ex && !mx.isSome)))):OpA P o σ K:=
 Q1h _ hK fun E ι a w hc=>by
  have hxv:=hc.ev x hx
  rw[h1] at hxv
  generalize he:a.eval x=v at hxv
  obtain⟨e0,by_,hs⟩:=Q5x hs
  obtain⟨hu,i,hi',hsz,_⟩:=Q5w hs
  have hsize:(sizeOf e0).run P w = .ok sz w:=Q3b (by simp[szT,hi',hsz]) w
  have hrunb:=X1r (P:=P) (w:=w) (hc.bv hlo hhi hmx) hl hh hm hmi hb
  obtain⟨b1,b2,b3,b4⟩:=hb
  have run:∀{A:Option Addr},v = .slice A n c→(execOp a.eval o).run P w = .ok (.value (.slice (if m.toNat=l.toNat then A else A.map (·.add (l.toNat*sz))) (h.toNat-l.toNat) (m.toNat-l.toNat))) w:=fun {A} hv=>by
   subst hv
   simp only[execOp,ho,he,Instr.sliceAt,Sem.run_bind,run_underlying hu,Result.andThen_ok,Instr.slice,hrunb,hsize,Sem.run_pure]
  have mxn:mx=none→m=c:=fun e=>by subst e;simp[bnd] at hm;exact hm.symm
  cases hxv with
  |cut _ _ _ _ _ _ _ g1 g2 g3 gx g4 g0=>
   refine⟨_,run rfl,?_⟩
   by_cases hml:m.toNat=l.toNat
   · rw[if_pos hml]
     have e1:h.toNat-l.toNat=0:=by omega
     have e2:m.toNat-l.toNat=0:=by omega
     rw[e1,e2]
     refine .cnil _ r e sz _ _ fun hex h0=>?_
     simp only[Bool.and_eq_true,Bool.not_eq_true',Option.isSome_eq_false_iff,Option.isNone_iff_eq_none] at hex
     have:=mxn hex.2
     have hq:=gx hex.1
     rw[show lo0+c=0 by omega,Nat.zero_mul] at hq
     exact hq.symm
   · rw[if_neg hml]
     have e1:(lo0+l.toNat)*sz=lo0*sz+l.toNat*sz:=Nat.add_mul _ _ _
     have:=RV.cut (S:=Sx E ι σ.H) (ι:=ι) (w:=w) r e sz (lo0+l.toNat) (h.toNat-l.toNat) (m.toNat-l.toNat) (ex && !mx.isSome) (by omega) (by omega)
      (Nat.le_trans (Nat.mul_le_mul_right _ (by omega)) g3) (fun hex=>by
        simp only[Bool.and_eq_true,Bool.not_eq_true',Option.isSome_eq_false_iff,Option.isNone_iff_eq_none] at hex
        have:=mxn hex.2
        rw[show lo0+l.toNat+(m.toNat-l.toNat)=lo0+c by omega];exact gx hex.1) g4 g0
     rw[e1] at this
     simpa [Q1u] using this
  |cnil A _ _ _ _ _ g=>
   refine⟨_,run rfl,?_⟩
   have e0:l.toNat=0:=by omega
   have e1:h.toNat=0:=by omega
   have e2:m.toNat=0:=by omega
   rw[e0,e1,e2]
   simp only[Nat.sub_self,if_true,Nat.add_zero]
   exact .cnil _ r e sz _ _ fun hex h0=>g (by simpa using (Bool.and_eq_true _ _▸hex:_∧_).1) h0
theorem Q4f{t e sz r n:Nat}{x:Operand}{lo hi mx:Option Operand}{l h m:Int}(ho:o.op = .slice t x lo hi mx)(hx:Q0i x=true)(hlo:lo.toList.all Q0i=true)(hhi:hi.toList.all Q0i=true)(hmx:mx.toList.all Q0i=true)(hs:(slcT P t).map (fun p=>p.2.1)=some sz)
 (h1:σ.ev x = .row r e sz n) (hl:bnd σ.ev 0 lo=some l) (hh:bnd σ.ev n hi=some h) (hm:bnd σ.ev n mx=some m) (hmi:mx.isSome=true→hi.isSome=true) (hb:0≤l∧l≤h∧h≤m∧m≤n)
 (hK:∀q:Nat,h.toNat-l.toNat≤q→(mx.isSome=true→q=m.toNat-l.toNat)→K (σ.put o.dst (.cut r e sz l.toNat (h.toNat-l.toNat) q (!mx.isSome)))):OpA P o σ K:=by
 intro E ι a w hc K' Q hK'
 obtain⟨c,hc1,hc2,hcv⟩:=(show RV (Sx E ι σ.H) ι w (a.eval x) (.row r e sz n) by rw[←h1];exact hc.ev x hx).row_cut
 obtain⟨b1,b2,b3,b4⟩:=hb
 obtain⟨e0,by_,hs⟩:=Q5x hs
 obtain⟨hu,i,hi',hsz,_⟩:=Q5w hs
 have hsize:(sizeOf e0).run P w = .ok sz w:=Q3b (by simp[szT,hi',hsz]) w
 obtain⟨m',hm',hmm,hmn⟩:∃m':Int,bnd σ.ev c mx=some m'∧(h≤m'∧m'≤c)∧(mx.isSome=true→m'=m):=by
  cases mx with
  |none=>exact⟨c,rfl,⟨by omega,by omega⟩,fun h=>by cases h⟩
  |some y=>exact⟨m,hm,⟨b3,by omega⟩,fun _=>rfl⟩
 have mxn:mx=none→m'=c:=fun e=>by subst e;simp[bnd] at hm';exact hm'.symm
 have hrunb:=X1r (P:=P) (w:=w) (hc.bv hlo hhi hmx) hl hh hm' hmi ⟨b1,b2,hmm.1,hmm.2⟩
 generalize he:a.eval x=v at hcv
 have run:∀{A:Option Addr},v = .slice A n c→(execOp a.eval o).run P w = .ok (.value (.slice (if m'.toNat=l.toNat then A else A.map (·.add (l.toNat*sz))) (h.toNat-l.toNat) (m'.toNat-l.toNat))) w:=fun {A} hv=>by
  subst hv
  simp only[execOp,ho,he,Instr.sliceAt,Sem.run_bind,run_underlying hu,Result.andThen_ok,Instr.slice,hrunb,hsize,Sem.run_pure]
 have fin:∀{u:Value},(execOp a.eval o).run P w = .ok (.value u) w→RV (Sx E ι σ.H) ι w u (.cut r e sz l.toNat (h.toNat-l.toNat) (m'.toNat-l.toNat) (!mx.isSome))→o.wp P a w K' Q:=fun {u} hr hv=>by
  unfold Oper.wp
  rw[hr]
  exact hK' ι _ _ _ (hK (m'.toNat-l.toNat) (by omega) (fun h=>by rw[hmn h])) (hc.put o.dst hv)
 cases hcv with
 |cut _ _ _ _ _ _ _ g1 g2 g3 gx g4 g0=>
  have gx':=gx rfl
  refine fin (run rfl) ?_
  rw[Nat.zero_add] at g3 gx'
  by_cases hml:m'.toNat=l.toNat
  · rw[if_pos hml]
    have e1:h.toNat-l.toNat=0:=by omega
    have e2:m'.toNat-l.toNat=0:=by omega
    rw[e1,e2]
    refine .cnil _ r e sz _ _ fun hex h0=>?_
    simp only[Bool.not_eq_true',Option.isSome_eq_false_iff,Option.isNone_iff_eq_none] at hex
    have:=mxn hex
    rw[←gx',show c=0 by omega,Nat.zero_mul]
  · rw[if_neg hml]
    have:=RV.cut (S:=Sx E ι σ.H) (ι:=ι) (w:=w) r e sz l.toNat (h.toNat-l.toNat) (m'.toNat-l.toNat) (!mx.isSome) (by omega) (by omega)
     (Nat.le_trans (Nat.mul_le_mul_right _ (by omega)) g3) (fun hex=>by
       simp only[Bool.not_eq_true',Option.isSome_eq_false_iff,Option.isNone_iff_eq_none] at hex
       have:=mxn hex
       rw[show l.toNat+(m'.toNat-l.toNat)=c by omega];exact gx') g4 g0
    simpa [Q1u] using this
 |cnil A _ _ _ _ _ g=>
  refine fin (run rfl) ?_
  have e0:l.toNat=0:=by omega
  have e1:h.toNat=0:=by omega
  have e2:m'.toNat=0:=by omega
  rw[e0,e1,e2]
  simp only[Nat.sub_self,if_true]
  exact .cnil _ r e sz _ _ fun hex h0=>g rfl rfl
theorem Q2s{t r e sz lo n c:Nat}{ex:Bool}{x i:Operand}{k:IntKind}{m:Int}(ho:o.op = .indexAddr t x i)(hx:Q0i x=true)(hi0:Q0i i=true)(h1:σ.ev x = .cut r e sz lo n c ex)(hi:σ.ev i = .c (.v (.int k m)))(hs:(slcT P t).map (fun p=>p.2.1)=some sz)
 (hb:0≤m∧m<n) (hK:K (σ.put o.dst (.ptr r ((lo+m.toNat)*sz)))):OpA P o σ K:=
 Q1h _ hK fun E ι a w h=>by
  have hxv:=h.ev x hx
  have hiv:=h.ev i hi0
  rw[h1] at hxv
  rw[hi] at hiv
  obtain⟨e2,_⟩:=hiv.v_inv
  generalize he:a.eval x=v at hxv
  obtain⟨e0,by_,hs⟩:=Q5x hs
  obtain⟨hu,ie,hie,hsz,_⟩:=Q5w hs
  have hsize:(sizeOf e0).run P w = .ok sz w:=Q3b (by simp[szT,hie,hsz]) w
  cases hxv with
  |cut _ _ _ _ _ _ _ g1 g2 g3 gx g4 g0=>
   refine⟨.pointer (some ⟨(ι r).1,(lo+m.toNat)*sz,none⟩),?_,.ptr _ _⟩
   have e3:(lo+m.toNat)*sz=lo*sz+m.toNat*sz:=Nat.add_mul _ _ _
   simp[execOp,ho,he,e2,Instr.indexAt,run_underlying hu,Q3h,hsize,hb,Q1u,e3]
  |cnil=>omega
end
end
section
open Go.RowKit Go.Lib
section
variable {P:Program} {o:Oper} {σ : St} {K:St→Prop}
theorem OpA.nilrow_after(i d e sz:Nat)(h:OpA P o σ fun σ1=>σ1.T.getD i .any = .c (.v (.slice none 0 0))∧i < σ1.T.length∧σ1.free d=true∧d<1000∧K ⟨σ1.T.set i (.row d e sz 0),hput σ1.H d []⟩):OpA P o σ K:=
 fun E ι a w hc K' Q hK'=>h E ι a w hc K' Q fun ι' σ' a' w' ⟨h1,h0,hf,hd,h2⟩ hc'=>by
  have hv:=hc'.tmp i
  rw[h1] at hv
  obtain⟨hv,_⟩:=hv.v_inv
  have hg:=hc'.grow (w':=w') hf hd (World.grownBy.refl w' none) none (fun b hb=>by cases hb) (0,0,e) (cs:=[]) (fun h=>absurd rfl h) rfl (.inl ⟨rfl,rfl⟩)
  refine hK' _ _ a' w' h2 ⟨hg.defers,by simpa using hg.size,fun j=>?_,hg.heap,hg.keep⟩
  by_cases hj:j=i
  · subst hj
    have:(σ'.T.set j (.row d e sz 0)).getD j .any = .row d e sz 0:=by simp[List.getD,List.getElem?_set,h0]
    show RV _ _ w' _ ((σ'.T.set j (.row d e sz 0)).getD j .any)
    rw[this,hv];exact .rnil none d e sz (by rw[Q1l])
  · have:(σ'.T.set i (.row d e sz 0)).getD j .any = σ'.T.getD j .any:=by simp[List.getD,List.getElem?_set,Ne.symm hj]
    show RV _ _ w' _ ((σ'.T.set i (.row d e sz 0)).getD j .any)
    rw[this];exact hg.tmp j
theorem X0v{ev ev':Operand→AV}{dflt:Nat}{op:Option Operand}(h:∀x∈op.toList,ev' x=ev x):bnd ev' dflt op=bnd ev dflt op:=by
 cases op with
 |none=>rfl
 |some x=>unfold bnd;simp only;rw[h x (by simp)]
theorem X2y{t e sz r lo0 n c:Nat}{ex:Bool}{x:Operand}{lo hi mx:Option Operand}{l h m:Int}(ho:o.op = .slice t x lo hi mx)(hx:Q0i x=true)(hlo:lo.toList.all Q0i=true)(hhi:hi.toList.all Q0i=true)(hmx:mx.toList.all Q0i=true)(hs:(slcT P t).map (fun p=>p.2.1)=some sz)
 (h1:σ.ev x = .cut r e sz lo0 n c ex) (hl:bnd σ.ev 0 lo=some l) (hh:bnd σ.ev n hi=some h) (hm:bnd σ.ev c mx=some m) (hmi:mx.isSome=true→hi.isSome=true) (hb:0≤l∧l≤h∧h≤m∧m≤c) :
 OpF P o σ.ev (hget σ.H) (.cut r e sz (lo0+l.toNat) (h.toNat-l.toNat) (m.toNat-l.toNat) (ex && !mx.isSome)) [] []:=
 fun τ hA hQ=>by
  have hA':∀z,z=x∨z∈lo.toList∨z∈hi.toList∨z∈mx.toList→τ.ev z = σ.ev z:=fun z hz=>hA z (by
   rw[ho]
   cases lo<;>cases hi<;>cases mx<;>simp[Op.operands] at hz ⊢<;> exact hz)
  refine Q4g ho hx hlo hhi hmx hs (by rw[hA' x (.inl rfl)];exact h1) (by rw[X0v fun z hz=>hA' z (.inr (.inl hz))];exact hl) (by rw[X0v fun z hz=>hA' z (.inr (.inr (.inl hz)))];exact hh) (by rw[X0v fun z hz=>hA' z (.inr (.inr (.inr hz)))];exact hm) hmi hb ?_
  cases o.dst<;>rfl
end
@[simp] theorem refsL_any (d k:Nat):AV.refsL d (List.replicate k AV.any)=false:=by
  induction k with
  |zero=>rfl
  |succ k ih=>simp[List.replicate_succ,AV.refsL,AV.refs,ih]
theorem X5j{d:Nat}{l m:List AV}(h:AV.refsL d l=false)(hs:∀x∈m,x∈l):AV.refsL d m=false:=by
 induction m with
 |nil=>rfl
 |cons x m ih=>
  unfold AV.refsL
  rw[ih fun y hy=>hs y (by simp[hy]),Bool.or_false]
  obtain⟨j,hj⟩:=List.mem_iff_getElem?.1 (hs x (by simp))
  exact Q3g h j x hj
@[simp] theorem refsL_take {d k:Nat} {l:List AV} (h:AV.refsL d l=false):AV.refsL d (l.take k)=false:=X5j h fun x hx=>List.mem_of_mem_take hx
@[simp] theorem refsL_drop {d k:Nat} {l:List AV} (h:AV.refsL d l=false):AV.refsL d (l.drop k)=false:=X5j h fun x hx=>List.mem_of_mem_drop hx
theorem Blk.more{S:Nat→Prop}{ι : Nat→Nat×Nat×Nat}{w:World}{r:Nat}{cs:List AV}(h:Blk S ι w r cs)(k:Nat)(hk:cs.length+k≤(ι r).2.1):Blk S ι w r (cs++List.replicate k .any):=by
 rcases h with⟨h0,rfl⟩|⟨cur,hh,hs,hl,hc,hone1⟩
 · obtain rfl:k=0:=by omega
   exact .inl ⟨h0,rfl⟩
 · refine .inr ⟨cur,hh,hs,by simp;omega,fun j u x hu hx=>?_,hone1⟩
   rw[List.getElem?_append] at hx
   split at hx
   · exact hc j u x hu hx
   · rw[List.getElem?_replicate] at hx
     split at hx
     · cases hx;exact⟨.any _,hone1 u (by simpa using List.mem_of_getElem? (l:=cur.toList) (by simpa using hu))⟩
     · cases hx
theorem Fn.frz{P:Program}{f:FuncId}{args:List AV}{H0:List (Nat×List AV)}{d e sz n:Nat}{pcs:List PV}(h:Fn P f args H0 (.row d e sz n) [(d,pcs.map .c)])(hl:pcs.length=n*sz):Fn P f args H0 (.c (.sl false sz n pcs)) []:=by
 intro E vs hD hS hH hlen hargs
 refine(h E vs hD hS hH hlen hargs).mono fun e w'=>?_
 rintro ⟨v,ι',rfl,hres,hcH,hk⟩
 have hg:hget [(d,pcs.map AV.c)] d=some (pcs.map AV.c):=by simp[Q2h]
 have hS1:∀b,Sx E ι' [(d,pcs.map .c)] b→b<w'.heap.size→Sx E ι' [] b:=fun b hb _=>⟨hb.1,fun r cs hr=>by cases hr⟩
 have hM:(ι' d).2.1≠0→Sx E ι' [] (ι' d).1:=fun hz=>⟨.inr (by
  by_cases hm:d∈E.D
  · have m1:=(hk.mine d _ hg).1 hm
    rw[m1] at hz ⊢;exact .inr ⟨d,hm,hz,rfl⟩
  · exact(hk.mine d _ hg).2 hm hz),fun r cs hr=>by cases hr⟩
 have hres2:=hres.frz hS1 (hcH.blk d _ hg) hM
 simp only[AV.frz,if_true,if_pos hl.symm] at hres2
 exact⟨v,ι',rfl,hres2,⟨fun r cs hr=>(by cases hr),fun r q cs ds hr=>(by cases hr)⟩,⟨hk.os,hk.tape,hk.output,hk.size,hk.block,fun r cs hr=>(by cases hr)⟩⟩
theorem Blk.pre{S:Nat→Prop}{ι : Nat→Nat×Nat×Nat}{w:World}{r:Nat}{cs ds:List AV}(h:Blk S ι w r (cs++ds)):Blk S ι w r cs:=by
 rcases h with⟨h0,he⟩|⟨cur,hh,hs,hl,hc,hone1⟩
 · exact .inl ⟨h0,(List.append_eq_nil_iff.1 he).1⟩
 · exact .inr ⟨cur,hh,hs,by simp at hl;omega,fun j u x hu hx=>hc j u x hu (by rw[List.getElem?_append_left (List.getElem?_eq_some_iff.1 hx).1];exact hx),hone1⟩
theorem Fn.weaken{P:Program}{f:FuncId}{args:List AV}{H0 H1 H2:List (Nat×List AV)}{res res':AV}(h:Fn P f args H0 res H1)(hle:res.le res')(hH:∀r cs,hget H2 r=some cs→∃ds,hget H1 r=some (cs++ds)):Fn P f args H0 res' H2:=by
 intro E vs hD hS hH' hlen hargs
 refine(h E vs hD hS hH' hlen hargs).mono fun e w'=>?_
 rintro ⟨v,ι',rfl,hres,hcH,hk⟩
 have hSx:∀b,Sx E ι' H1 b→b<w'.heap.size→Sx E ι' H2 b∧w'.heap[b]? = w'.heap[b]?:=fun b ⟨h1,h2⟩ _=>⟨⟨h1,fun r cs hr=>by obtain⟨ds,h⟩:=hH r cs hr;exact h2 r _ h⟩,rfl⟩
 refine⟨v,ι',rfl,hle _ _ _ _ (hres.mono hSx fun _ _=>rfl),⟨fun r cs hr=>?_,fun r q cs ds hr hq=>?_⟩,⟨hk.os,hk.tape,hk.output,hk.size,hk.block,fun r cs hr=>?_⟩⟩
 · obtain⟨ds,hr1⟩:=hH r cs hr
   rcases(hcH.blk r _ hr1).pre with h0|⟨cur,hh,hs,hl,hc,hone1⟩
   · exact .inl h0
   · exact .inr ⟨cur,hh,hs,hl,fun j u x hu hx=>⟨(hc j u x hu hx).1.mono hSx fun _ _=>rfl,(hc j u x hu hx).2⟩,hone1⟩
 · obtain⟨ds',hr1⟩:=hH r cs hr
   obtain⟨es',hq1⟩:=hH q ds hq
   exact hcH.inj r q _ _ hr1 hq1
 · obtain⟨ds,hr1⟩:=hH r cs hr
   exact hk.mine r _ hr1
theorem leHp{H1:List (Nat×List AV)}{r:Nat}{cs ds:List AV}(h:hget H1 r=some (cs++ds)):∀q es,hget [(r,cs)] q=some es→∃ds,hget H1 q=some (es++ds):=fun q es hq=>by
 rw[Q2h] at hq
 split at hq
 · rename_i e;subst e;cases hq;exact⟨ds,h⟩
 · cases hq
@[simp] theorem X2u (ρ : Nat→Nat) (l r:List AV):AV.renL ρ (l++r)=AV.renL ρ l++AV.renL ρ r:=by
  induction l with
  |nil=>rfl
  |cons x l ih=>simp[AV.renL,ih]
open Go.RowKit Go.Lib
def St.to(σ τ : St):Prop:=∀(E:Env) (ι : Nat→Nat×Nat×Nat) (a:Act) (w:World),Conc E ι σ a w→∃ι',Conc E ι' τ a w
theorem St.to.of_le{σ τ : St}(h:σ.le τ):σ.to τ:=fun E ι a w hc=>⟨ι,hc.le h⟩
theorem St.to.trans{σ τ ρ : St}(h:σ.to τ)(k:τ.to ρ):σ.to ρ:=fun E ι a w hc=>by
 obtain⟨ι',hc'⟩:=h E ι a w hc
 exact k E ι' a w hc'
theorem St.to.frz{σ : St}(r:Nat){pcs:List PV}(hr:hget σ.H r=some (pcs.map .c)):σ.to (σ.frz r pcs):=fun E ι a w hc=>⟨ι,hc.frz hr⟩
theorem St.to.nilrow{σ : St}(i d e sz:Nat)(h1:σ.T.getD i .any = .c (.v (.slice none 0 0)))(h0:i < σ.T.length)(hf:σ.free d=true)(hd:d<1000):σ.to ⟨σ.T.set i (.row d e sz 0),hput σ.H d []⟩:=fun E ι a w hc'=>by
 have hv:=hc'.tmp i
 rw[h1] at hv
 obtain⟨hv,_⟩:=hv.v_inv
 have hg:=hc'.grow (w':=w) hf hd (World.grownBy.refl w none) none (fun b hb=>by cases hb) (0,0,e) (cs:=[]) (fun h=>absurd rfl h) rfl (.inl ⟨rfl,rfl⟩)
 refine⟨_,hg.defers,by simpa using hg.size,fun j=>?_,hg.heap,hg.keep⟩
 by_cases hj:j=i
 · subst hj
   have:(σ.T.set j (.row d e sz 0)).getD j .any = .row d e sz 0:=by simp[List.getD,List.getElem?_set,h0]
   show RV _ _ w _ ((σ.T.set j (.row d e sz 0)).getD j .any)
   rw[this,hv];exact .rnil none d e sz (by rw[Q1l])
 · have:(σ.T.set i (.row d e sz 0)).getD j .any = σ.T.getD j .any:=by simp[List.getD,List.getElem?_set,Ne.symm hj]
   show RV _ _ w _ ((σ.T.set i (.row d e sz 0)).getD j .any)
   rw[this];exact hg.tmp j
theorem X3n{N:List Nat}{l:List AV}(h:AV.inNL N l=true)(i:Nat):AV.inN N (l.getD i .any)=true:=by
 rw[List.getD_eq_getElem?_getD]
 cases hi:l[i]? with
 |none=>rfl
 |some x=>exact Q4h h i x hi
theorem X2c{ρ κ : Nat→Nat}{N:List Nat}(hk:∀r∈N,κ (ρ r)=r):∀{H:List (Nat×List AV)} {q:Nat} {ds:List AV},(∀r∈H.map (·.1),r∈N)→hget (renH ρ H) q=some ds→∃r cs,r∈N∧q = ρ r∧κ q=r∧hget H r=some cs∧ds=AV.renL ρ cs
 |(k,cs)::H,q,ds,hN,h=>by
  unfold renH at h
  rw[Q2h] at h
  split at h
  · rename_i e
    subst e;cases h
    have hm:=hN k (by simp)
    exact⟨k,cs,hm,rfl,hk k hm,by rw[Q2h,if_pos rfl],rfl⟩
  · rename_i hne
    obtain⟨r,cs',hm,rfl,h2,h3,h4⟩:=X2c hk (H:=H) (fun r hr=>hN r (by simp only[List.map_cons,List.mem_cons];exact .inr hr)) h
    exact⟨r,cs',hm,rfl,h2,by rw[Q2h,if_neg (fun e=>hne (by rw[e]))];exact h3,h4⟩
theorem St.to.rn{σ : St}(ρ κ : Nat→Nat)(N:List Nat)(hT:AV.inNL N σ.T=true)(hHk:∀r∈σ.H.map (·.1),r∈N)(hH:inH N σ.H=true)(hk:∀r∈N,κ (ρ r)=r)(hD:∀r∈N,ρ r=r∨ρ r<1000):σ.to ⟨AV.renL ρ σ.T,renH ρ σ.H⟩:=fun E ι a w hc=>by
 have hN:∀r∈N,(fun q=>ι (κ q)) (ρ r) = ι r:=fun r hr=>by simp only;rw[hk r hr]
 have back:∀q ds,hget (renH ρ σ.H) q=some ds→∃r cs,r∈N∧q = ρ r∧κ q=r∧hget σ.H r=some cs∧ds=AV.renL ρ cs:=fun q ds hq=>X2c hk hHk hq
 have hS:∀b,Sx E ι σ.H b→b<w.heap.size→Sx E (fun q=>ι (κ q)) (renH ρ σ.H) b∧w.heap[b]? = w.heap[b]?:=fun b ⟨h1,h2⟩ _=>⟨⟨h1,fun q ds hq hz=>by
  obtain⟨r,cs,_,_,hkq,hr,_⟩:=back q ds hq
  simp only[hkq] at hz ⊢
  exact h2 r cs hr hz⟩,rfl⟩
 have hR:∀{v:Value} {x:AV},RV (Sx E ι σ.H) ι w v x→AV.inN N x=true→RV (Sx E (fun q=>ι (κ q)) (renH ρ σ.H)) (fun q=>ι (κ q)) w v (AV.ren ρ x):=fun hv hx=>RV.reren (ι:=fun q=>ι (κ q)) (κ:=ι) (ρ:=ρ) hN (hv.mono hS fun _ _=>rfl) hx
 refine⟨fun q=>ι (κ q),hc.defers.mono hS,by rw[Q1q];exact hc.size,fun i=>?_,⟨fun q ds hq=>?_,fun q q' ds es hq hq' hne hz1 hz2=>?_⟩,⟨hc.keep.os,hc.keep.tape,hc.keep.output,hc.keep.size,hc.keep.block,fun q ds hq=>?_⟩⟩
 · have:(AV.renL ρ σ.T).getD i .any=AV.ren ρ (σ.T.getD i .any):=by
    rw[List.getD_eq_getElem?_getD,List.getD_eq_getElem?_getD,Q2u]
    cases σ.T[i]? <;> rfl
   show RV _ _ w _ ((AV.renL ρ σ.T).getD i .any)
   rw[this]
   exact hR (hc.tmp i) (X3n hT i)
 · obtain⟨r,cs,hm,rfl,hkq,hr,rfl⟩:=back q ds hq
   rcases hc.heap.blk r cs hr with⟨h0,rfl⟩|⟨cur,hh,hs,hl,hcc,hone1⟩
   · exact .inl ⟨by simp only[hkq];exact h0,rfl⟩
   · refine .inr ⟨cur,by simp only[hkq];exact hh,by simp only[hkq];exact hs,by rw[Q1q];exact hl,fun j u y hu hy=>?_,hone1⟩
     rw[Q2u,Option.map_eq_some_iff] at hy
     obtain⟨x,hx,rfl⟩:=hy
     exact⟨hR (hcc j u x hu hx).1 (Q4h (X8b hH r cs hr) j x hx),(hcc j u x hu hx).2⟩
 · obtain⟨r,cs,_,rfl,hkq,hr,_⟩:=back q ds hq
   obtain⟨r',cs',_,rfl,hkq',hr',_⟩:=back q' es hq'
   simp only[hkq] at hz1 ⊢
   simp only[hkq'] at hz2 ⊢
   exact hc.heap.inj r r' cs cs' hr hr' (fun e=>hne (by rw[e])) hz1 hz2
 · obtain⟨r,cs,hm,rfl,hkq,hr,_⟩:=back q ds hq
   obtain⟨m1,m2⟩:=hc.keep.mine r cs hr
   simp only[hkq]
   rcases hD r hm with e|e2
   · rw[e];exact⟨m1,m2⟩
   · refine⟨fun h=>by have:=E.hD _ h;omega,fun _ hz=>?_⟩
     by_cases hr2:r∈E.D
     · have m:=m1 hr2
       rw[m] at hz ⊢;exact .inr ⟨r,hr2,hz,rfl⟩
     · exact m2 hr2 hz
theorem Fn.frzG{P:Program}{f:FuncId}{args:List AV}{H0:List (Nat×List AV)}{res:AV}{d:Nat}{pcs:List PV}(h:Fn P f args H0 res [(d,pcs.map .c)]):Fn P f args H0 (AV.frz d pcs res) []:=by
 intro E vs hD hS hH hlen hargs
 refine(h E vs hD hS hH hlen hargs).mono fun e w'=>?_
 rintro ⟨v,ι',rfl,hres,hcH,hk⟩
 have hg:hget [(d,pcs.map AV.c)] d=some (pcs.map AV.c):=by simp[Q2h]
 have hS1:∀b,Sx E ι' [(d,pcs.map .c)] b→b<w'.heap.size→Sx E ι' [] b:=fun b hb _=>⟨hb.1,fun r cs hr=>by cases hr⟩
 have hM:(ι' d).2.1≠0→Sx E ι' [] (ι' d).1:=fun hz=>⟨.inr (by
  by_cases hm:d∈E.D
  · have m1:=(hk.mine d _ hg).1 hm
    rw[m1] at hz ⊢;exact .inr ⟨d,hm,hz,rfl⟩
  · exact(hk.mine d _ hg).2 hm hz),fun r cs hr=>by cases hr⟩
 exact⟨v,ι',rfl,hres.frz hS1 (hcH.blk d _ hg) hM,⟨fun r cs hr=>(by cases hr),fun r q cs ds hr=>(by cases hr)⟩,⟨hk.os,hk.tape,hk.output,hk.size,hk.block,fun r cs hr=>(by cases hr)⟩⟩
section
variable {P:Program}
theorem AW.to{c:Code}{σ τ : St}{Φ : Exit→St→Prop}(h:σ.to τ)(k:AW P c τ Φ):AW P c σ Φ:=fun E ι a w hc=>by
 obtain⟨ι',hc'⟩:=h E ι a w hc
 exact k E ι' a w hc'
theorem OpA.to{o:Oper}{σ τ : St}{K:St→Prop}(h:σ.to τ)(k:OpA P o τ K):OpA P o σ K:=fun E ι a w hc=>by
 obtain⟨ι',hc'⟩:=h E ι a w hc
 exact k E ι' a w hc'
theorem OpA.then{o:Oper}{σ : St}{K:St→Prop}(h:OpA P o σ fun σ1=>∃τ,σ1.to τ∧K τ):OpA P o σ K:=
 fun E ι a w hc K' Q hK'=>h E ι a w hc K' Q fun ι' σ' a' w' ⟨τ,ht,hk⟩ hc'=>by
  obtain⟨ι'',hc''⟩:=ht E ι' a' w' hc'
  exact hK' ι'' τ a' w' hk hc''
theorem Z0c{ops:Array Oper}{rest:List Oper}{o:Oper}{σ τ : St}{K:St→Prop}(hg:o.guard=none)(ht:σ.to τ)(h:evL P ops (o::rest) τ K):evL P ops (o::rest) σ K:=by
 unfold evL at h ⊢
 rw[hg] at h ⊢
 exact OpA.to ht h
theorem AW.loopT{c:Code}{σ : St}{Φ : Exit→St→Prop}{α : Type}(I:α→St)(μ : α→Nat)(x0:α)(h0:σ.to (I x0))
 (round:∀x,evC P c (I x) fun ex σ'=>match ex with | .normal=>∃y,μ y < μ x∧σ'.to (I y)|ex=>Φ ex σ'):AW P (.loop c) σ Φ:=by
 intro E ι a w hc b k cs
 have key:∀n x ι a w,μ x=n→Conc E ι (I x) a w→∃e a' w',(∃ι' σ',Conc E ι' σ' a' w'∧Φ e σ')∧Arrives P (lone (b.at a (.code c :: .inLoop c::k)) cs w) b k cs e a' w':=by
  intro n
  induction n using Nat.strongRecOn with
  |_ n ih=>
   intro x ι a w hn hI
   obtain⟨e,a₁,w₁,⟨ι₁,σ₁,hc₁,hq⟩,harr⟩:=Q3a c (I x) _ (round x) E ι a w hI b (.inLoop c::k) cs
   cases e with
   |normal=>
    obtain⟨y,hlt,hle⟩:=hq
    obtain⟨ι2,hc2⟩:=hle E ι₁ a₁ w₁ hc₁
    obtain⟨e₂,a₂,w₂,hq₂,harr₂⟩:=ih (μ y) (hn▸hlt) y ι2 a₁ w₁ rfl hc2
    exact⟨e₂,a₂,w₂,hq₂,.of_steps (Steps.trans harr (.one step_inLoop)) harr₂⟩
   |exit id=>exact⟨_,a₁,w₁,⟨ι₁,σ₁,hc₁,hq⟩,.pass (x:=.inLoop c) rfl (fun _ _=>.inl (by simp)) harr⟩
   |goto l=>exact⟨_,a₁,w₁,⟨ι₁,σ₁,hc₁,hq⟩,.pass (x:=.inLoop c) rfl (fun _ _=>.inl (by simp)) harr⟩
   |ret=>exact⟨_,a₁,w₁,⟨ι₁,σ₁,hc₁,hq⟩,.pass (x:=.inLoop c) rfl (fun _ _=>.inl (by simp)) harr⟩
   |panic ch=>exact⟨_,a₁,w₁,⟨ι₁,σ₁,hc₁,hq⟩,.pass (x:=.inLoop c) rfl (fun _ _=>.inl (by simp)) harr⟩
   |outgrown=>exact⟨_,a₁,w₁,⟨ι₁,σ₁,hc₁,hq⟩,.pass (x:=.inLoop c) rfl (fun _ _=>.inl (by simp)) harr⟩
 obtain⟨ι0,hc0⟩:=h0 E ι a w hc
 obtain⟨e,a',w',hq,harr⟩:=key _ x0 ι0 a w rfl hc0
 exact⟨e,a',w',hq,.of_steps (.one step_loop) harr⟩
theorem X6n{c:Code}{σ : St}{Φ : Exit→St→Prop}{α : Type}(I:α→St)(μ : α→Nat)(x0:α)(h0:σ.to (I x0))
 (round:∀x,∀J:Exit→St→Prop,(∀σ' y,μ y < μ x→σ'.to (I y)→J .normal σ')→(∀ex σ',ex≠.normal→Φ ex σ'→J ex σ')→evC P c (I x) J):evC P (.loop c) σ Φ:=by
 unfold evC
 refine AW.loopT I μ x0 h0 fun x=>round x _ (fun σ' y hlt hle=>⟨y,hlt,hle⟩) fun ex σ' hne h=>?_
 cases ex<;>first|exact absurd rfl hne|exact h
theorem Q3u{c:Code}{σ : St}{Φ : Exit→St→Prop}(n:Nat)(I:Nat→St)(h0:σ.to (I 0))
 (round:∀i,i≤n→∀J:Exit→St→Prop,(∀σ',i+1≤n→σ'.to (I (i+1))→J .normal σ')→(∀ex σ',ex≠.normal→Φ ex σ'→J ex σ')→evC P c (I i) J):evC P (.loop c) σ Φ:=
 X6n (α:={i:Nat // i≤n}) (fun x=>I x.1) (fun x=>n-x.1) ⟨0,Nat.zero_le _⟩ h0 fun x J h1 h2=>
  round x.1 x.2 J (fun σ' hlt hle=>h1 σ' ⟨x.1+1,hlt⟩ (by have:=x.2;simp only;omega) hle) h2
end
theorem Conc.alloc{E:Env}{ι : Nat→Nat×Nat×Nat}{σ : St}{a:Act}{w:World}(h:Conc E ι σ a w)(o:Obj):Conc E ι σ a (w.alloc o):=by
 have hb:∀b,b<w.heap.size→(w.alloc o).heap[b]? = w.heap[b]?:=fun b hb=>Below.heap_alloc _ _ _ hb
 have hS:∀b,Sx E ι σ.H b→b<w.heap.size→Sx E ι σ.H b∧(w.alloc o).heap[b]? = w.heap[b]?:=fun b h1 h2=>⟨h1,hb b h2⟩
 have hR:∀{v:Value} {x:AV},RV (Sx E ι σ.H) ι w v x→RV (Sx E ι σ.H) ι (w.alloc o) v x:=fun hv=>hv.mono hS fun _ _=>rfl
 have hsz:(w.alloc o).heap.size=w.heap.size+1:=World.size_alloc ..
 refine⟨h.defers.mono hS,h.size,fun i=>hR (h.tmp i),⟨fun r cs hr=>?_,h.heap.inj⟩,⟨h.keep.os,h.keep.tape,h.keep.output,by have:=h.keep.size;omega,fun b hb' hbD=>?_,h.keep.mine⟩⟩
 · rcases h.heap.blk r cs hr with h0|⟨cur,hh,hs,hlen,hc,hone1⟩
   · exact .inl h0
   · exact .inr ⟨cur,(hb _ (Array.getElem?_eq_some_iff.1 hh).1).trans hh,hs,hlen,fun j u x hu hx=>⟨hR (hc j u x hu hx).1,(hc j u x hu hx).2⟩,hone1⟩
 · have:=h.keep.size
   rw[hb b (by omega)];exact h.keep.block b hb' hbD
theorem Fn.to{P:Program}{f:FuncId}{args:List AV}{H0 H1 H2:List (Nat×List AV)}{res res':AV}(h:Fn P f args H0 res H1)(k:St.to ⟨[res],H1⟩ ⟨[res'],H2⟩):Fn P f args H0 res' H2:=by
 intro E vs hD hS hH hlen hargs
 refine(h E vs hD hS hH hlen hargs).mono fun e w'=>?_
 rintro ⟨v,ι',rfl,hres,hcH,hk⟩
 have hc:Conc E ι' ⟨[res],H1⟩ {tmps:=#[v],defers:=[]} w':=by
  refine⟨Marks.nil,rfl,fun i=>?_,hcH,hk⟩
  cases i with
  |zero=>exact hres
  |succ i=>exact .any _
 obtain⟨ι'',hc'⟩:=k E ι' _ w' hc
 exact⟨v,ι'',rfl,hc'.tmp 0,hc'.heap,hc'.keep⟩
theorem Fn.frzN{P:Program}{f:FuncId}{args:List AV}{H0 H1:List (Nat×List AV)}{res:AV}{d:Nat}{pcs:List PV}(h:Fn P f args H0 res H1)(hd:hget H1 d=some (pcs.map .c)):Fn P f args H0 (AV.frz d pcs res) (frzH d pcs H1):=
 h.to (St.to.frz (σ:=⟨[res],H1⟩) d hd)
theorem AV.le_agg{a b:List AV}(h:leL a b):(AV.agg a).le (.agg b):=fun S ι w v hv=>by
 obtain⟨g1,g2⟩:=leL_get h
 cases hv with
 |agg us _ hl h1 hg=>
  refine .agg us _ (by rw[hl,g1]) h1 fun j u y hu hy=>?_
  have hj:=(List.getElem?_eq_some_iff.1 hy).1
  rw[←g1] at hj
  exact g2 j _ y (List.getElem?_eq_getElem hj) hy S ι w u (hg j u _ hu (List.getElem?_eq_getElem hj))
def Ef.sim(e e':Ef):Prop:=e.rd=e'.rd∧e.wn=e'.wn∧e.nw=e'.nw∧∀d,e.names d=e'.names d
theorem Ef.sim_refl(e:Ef):e.sim e:=⟨rfl,rfl,rfl,fun _=>rfl⟩
theorem Ef.sim_row{v:AV}{rd nw:List Nat}{k:Nat}{X:List AV}(h:∀d,AV.refsL d X=false):Ef.sim ⟨v,rd,[(k,X)],nw⟩ ⟨v,rd,[(k,[])],nw⟩:=⟨rfl,rfl,rfl,fun d=>by unfold Ef.names;simp[h,AV.refsL]⟩
inductive Sims:List Ef→List Ef→Prop
 |nil:Sims [] []
 |cons {e e':Ef} {es es':List Ef}:e.sim e'→Sims es es'→Sims (e::es) (e'::es')
theorem Sims.snoc{es es':List Ef}{e e':Ef}(h:Sims es es')(hs:e.sim e'):Sims (es++[e]) (es'++[e']):=by
 induction h with
 |nil=>exact .cons hs .nil
 |cons h _ ih=>exact .cons h ih
theorem Sims.rev{es es':List Ef}(h:Sims es es'):Sims es.reverse es'.reverse:=by
 induction h with
 |nil=>exact .nil
 |cons h _ ih=>rw[List.reverse_cons,List.reverse_cons];exact ih.snoc h
theorem Sims.opt{es es':List Ef}(h:Sims es es'):∀i:Nat,(es[i]? = none∧es'[i]? = none)∨∃e e':Ef,es[i]? = some e∧es'[i]? = some e'∧Ef.sim e e':=by
 induction h with
 |nil=>exact fun i=>.inl ⟨by simp,by simp⟩
 |cons h _ ih=>
  intro i
  cases i with
  |zero=>exact .inr ⟨_,_,rfl,rfl,h⟩
  |succ i=>simpa using ih i
theorem Q2e{l:List Oper}{es es':List Ef}(h:Sims es es')(k:Q6p l es'.reverse=true):Q6p l es.reverse=true:=by
 have ho:=h.rev.opt
 generalize es.reverse=a at ho ⊢
 generalize es'.reverse=b at ho k
 have e1:X3s l a=X3s l b:=by
  unfold X3s
  congr 1
  funext i
  rcases ho i with⟨h1,h2⟩|⟨e,e',h1,h2,hs⟩
  · rw[h1,h2]
  · rw[h1,h2]
    simp only
    rw[hs.2.2.1]
    congr 1
    funext d
    congr 2
    funext j
    congr 1
    rcases ho j with⟨g1,g2⟩|⟨f,f',g1,g2,gs⟩
    · rw[g1,g2]
    · rw[g1,g2]
      simp only
      rw[gs.2.2.2]
 unfold Q6p at k ⊢
 rw[e1]
 rw[←k]
 congr 2
 funext i
 congr 1
 funext j
 congr 1
 rcases ho i with⟨h1,h2⟩|⟨e,e',h1,h2,hs⟩
 · rw[h1,h2]
   cases l[i]? <;> cases l[j]? <;> rfl
 · rcases ho j with⟨g1,g2⟩|⟨f,f',g1,g2,gs⟩
   · rw[h1,h2,g1,g2]
     cases l[i]? <;> cases l[j]? <;> rfl
   · rw[h1,h2,g1,g2]
     cases l[i]? <;> cases l[j]? <;> simp only
     unfold X1a
     rw[hs.1,hs.2.1,gs.1,gs.2.1]
theorem X6o{P:Program}{σ : St}{Φ : Exit→St→Prop}{l:Nat}(h:Φ .normal σ):evC P (.label l) σ Φ:=by
 unfold evC
 exact fun E ι a w hc=>wp_label ⟨ι,σ,hc,h⟩
theorem Fn.law{P:Program}{f:FuncId}{args:List AV}{b:Bool}(hF:Fn P f args [] (.c (.v (.bool b))) []){vs:List Value}{w:World}(hlen:vs.length=args.length)(hargs:∀(j:Nat) (v:Value) (x:AV),vs[j]? = some v→args[j]? = some x→RV (fun _=>True) (fun _=>(0,0,0)) w v x)(hG:GlobOK w (fun _=>True) (fun _=>(0,0,0)) []:=by fail) :
 Calls P f vs.toArray w (RetT w b):=by
 refine(hF {w:=w,S:=fun _=>True,ι:=fun _=>(0,0,0),D:=[],hD:=fun r hr=>(by cases hr),hG:=hG} vs rfl (fun r cs b hr=>(by cases hr)) ⟨fun r cs hr=>(by cases hr),fun r q cs ds hr=>(by cases hr)⟩ hlen hargs).mono fun e w'=>?_
 rintro ⟨v,ι',rfl,hres,_,hk⟩
 obtain⟨rfl,_⟩:=hres.v_inv
 exact⟨rfl,hk.os,hk.tape,hk.output,hk.size,fun k hk'=>hk.block k hk' fun r hr=>by cases hr⟩
end
section
open Go.RowKit Go.Lib
def Q4s(zl:List Value)(n:Nat):List AV:=(List.replicate n (zl.map fun v=>AV.c (.v v))).flatten
theorem X2m(zl:List Value)(n:Nat)(hz:0<zl.length):(Builtin.zeroCells zl.toArray n).toList=(List.replicate n zl).flatten:=by
 have h1:∀n,((List.replicate n zl).flatten).length=n*zl.length:=fun n=>by simp
 apply List.ext_getElem?
 intro i
 have h2:∀n i,i<n*zl.length→((List.replicate n zl).flatten)[i]? = zl[i%zl.length]?:=by
  intro n
  induction n with
  |zero=>intro i hi;omega
  |succ n ih=>
   intro i hi
   rw[List.replicate_succ,List.flatten_cons,List.getElem?_append]
   split
   · rename_i h;rw[Nat.mod_eq_of_lt h]
   · rename_i h
     have e1:(n+1)*zl.length=n*zl.length+zl.length:=Nat.succ_mul n zl.length
     rw[ih (i-zl.length) (by omega)]
     congr 1
     rw[Nat.mod_eq_sub_mod (a:=i) (by omega)]
 unfold Builtin.zeroCells
 by_cases hi:i<n*zl.length
 · rw[h2 n i hi]
   have hm:i%zl.length<zl.length:=Nat.mod_lt _ hz
   simp[hi,hm]
 · rw[List.getElem?_eq_none (by simp;omega),List.getElem?_eq_none (by rw[h1];omega)]
section
variable {P:Program} {o:Oper} {σ : St} {K:St→Prop}
theorem Q7q{t sz r e lo n:Nat}{x:Operand}{cs:List AV}{zl:List Value}(ho:o.op = .call {callee:=.builtin .clear,args:=#[x],argTypes:=#[t]})(hx:Q0i x=true)(hs:(slcT P t).map (fun p=>p.2.1)=some sz)(h0:0<sz)
 (hz:(slcT P t).bind (fun p=>Q2k P p.1)=some zl) (hzl:zl.length=sz) (hone:zl.all (fun v=>v.oneCell')=true)
 (hp:(σ.ev x).part=some (r,e,sz,lo,n)) (hr:hget σ.H r=some cs) (hfit:(lo+n)*sz≤cs.length)
 (hK:K ((St.mk σ.T (hput σ.H r (spl cs (lo*sz) (Q4s zl n)))).put o.dst .any)):OpA P o σ K:=by
 intro E ι a w hc K' Q hK'
 obtain⟨e0,by_,hs⟩:=Q5x hs
 obtain⟨A,c,hxv,g1,g2,g3⟩:=(hc.ev x hx).part hp
 obtain⟨hu,i,hi,his,_⟩:=Q5w hs
 rw[hs] at hz
 simp only[Option.bind_some] at hz
 have fin:∀{v:Value} {w':World},(Builtin.clear_ #[t] o.type #[.slice A n c]).run P w = .ok v w'→Conc E ι ⟨σ.T,hput σ.H r (spl cs (lo*sz) (Q4s zl n))⟩ a w'→o.wp P a w K' Q:=fun {v w'} hrun hcn=>by
  unfold Oper.wp execOp
  simp only[ho,resolve,invoke,builtin,Sem.run_bind,Sem.run_pure,Result.andThen_ok,List.map_toArray,List.map_cons,List.map_nil,hxv,hrun]
  exact hK' _ _ _ _ hK (hcn.put o.dst (.any _))
 cases n with
 |zero=>
  have hrun:(Builtin.clear_ #[t] o.type #[.slice A 0 c]).run P w = .ok (.tuple #[]) w:=by
   cases A<;>simp[Builtin.clear_,run_underlying hu,Sem.run_bind,Result.andThen]
  refine fin hrun ?_
  simp only[Q4s,List.replicate_zero,List.flatten_nil,spl_nil]
  exact hc.same hr
 |succ k=>
  obtain⟨rfl,g4,g5⟩:=g3 (by omega)
  obtain⟨zv,hzr,hzc⟩:=X5b hz w
  rcases hc.heap.blk r cs hr with⟨hz0,_⟩|⟨cur,hh,hcz,hlc,hcur,hone1⟩
  · exact absurd hz0 g5
  · have hzl':(Builtin.zeroCells zv.cells (k+1)).toList=(List.replicate (k+1) zl).flatten:=by
     have:zv.cells=zl.toArray:=by rw[←hzc]
     rw[this];exact X2m zl (k+1) (by omega)
    have hlen:((List.replicate (k+1) zl).flatten).length=(k+1)*sz:=by simp[hzl]
    have e1:(lo+(k+1))*sz=lo*sz+(k+1)*sz:=Nat.add_mul _ _ _
    have h1:∀v∈(List.replicate (k+1) zl).flatten,v.oneCell'=true:=fun v hv=>by
     obtain⟨l,hl,hv⟩:=List.mem_flatten.1 hv
     rw[(List.mem_replicate.1 hl).2] at hv
     exact List.all_eq_true.1 hone v hv
    have hst:=run_storeCells_at (P:=P) (ι r).1 (lo*sz) (ι r).2.2 ((List.replicate (k+1) zl).flatten) 0 cur w hh (by rw[hlen];omega) h1
    have hrun:(Builtin.clear_ #[t] o.type #[.slice (some ⟨(ι r).1,lo*sz,none⟩) (k+1) c]).run P w = .ok (.tuple #[]) (w.setRow (ι r).1 (cur.toList.take (lo*sz)++(List.replicate (k+1) zl).flatten++cur.toList.drop (lo*sz+((List.replicate (k+1) zl).flatten).length)).toArray):=by
     simp only[Builtin.clear_,Sem.run_bind,run_underlying hu,Result.andThen_ok,hzr,hzl',hst,Sem.run_pure,List.getElem?_toArray,List.getElem?_cons_zero,Nat.add_zero]
    refine fin hrun (hc.lay hr hh g5 hcz hlc hcur hone1 ?_ ?_)
    · unfold Q4s
      refine⟨by simp,fun j u y hu hy=>?_⟩
      have e2:(List.replicate (k+1) (zl.map fun v=>AV.c (.v v))).flatten=((List.replicate (k+1) zl).flatten).map fun v=>AV.c (.v v):=by
       rw[List.map_flatten,List.map_replicate]
      rw[e2,List.getElem?_map,hu] at hy
      cases hy
      have ho:=h1 u (List.mem_of_getElem? hu)
      exact⟨.c _ _ (.v _ ho),ho⟩
    · unfold Q4s
      simp[hzl];omega
end
section
variable {P:Program} {o:Oper} {σ : St} {K:St→Prop}
theorem Q2l{t:TypeId}{len e sz by_:Nat}{parts:Array (Nat×Operand)}{z:List Value}{ds:List AV}{pcs:List PV}(ho:o.op = .buildSlice t len parts)(hk:parts.toList.all (fun p=>Q0i p.2)=true)(hs:slcZ P t=some (e,sz,by_))(hz:Q2k P e=some z)(h1:z.all (·.oneCell')=true)
 (hsmall:len*sz≤16777216) (hsz:0<sz) (hl0:0<len) (hf:Q7y (Q4n sz 0 len) (List.replicate (len*sz) .any) (parts.toList.map fun x=>(x.1,σ.ev x.2))=some ds) (hlen:ds.length=len*sz) (hpc:unC ds=some pcs)
 (hK:K (σ.put o.dst (.c (.sl true sz len pcs)))):OpA P o σ K:=by
 intro E ι a w h K' Q hK'
 have hpc:=X8s hpc
 rw[Q8j] at hf
 simp only[Nat.zero_add] at hf
 obtain⟨hu,i,zv,hi,hiz,hsize,hbytes,hzs⟩:=Q4m hs
 have hzl:zv.cells.toList=z:=by simp[Q2k,hi,hiz] at hz;exact hz
 have hz1:∀k,k<zv.cells.size→(zv.cells[k]!).oneCell'=true:=fun k hk=>by
  have hmem:zv.cells[k]!∈z:=by rw[←hzl];simp[hk]
  exact List.all_eq_true.1 h1 _ hmem
 have h0:len*sz≠0:=by
  have:=Nat.mul_pos hl0 hsz
  omega
 have hrow:∃us:List Value,((Array.range (len*i.size)).map (zv.cells[· % zv.cells.size]!))=us.toArray∧RVs (Sx E ι σ.H) ι w us (List.replicate (len*sz) .any):=by
  refine⟨((Array.range (len*i.size)).map (zv.cells[· % zv.cells.size]!)).toList,by apply Array.ext';simp,by simp[hsize],fun j u x hu hx=>?_⟩
  rw[List.getElem?_replicate] at hx
  split at hx
  · cases hx
    refine⟨.any _,?_⟩
    simp only[Array.getElem?_toList,Array.getElem?_map,Option.map_eq_some_iff] at hu
    obtain⟨k,_,rfl⟩:=hu
    exact hz1 _ (Nat.mod_lt _ (by omega))
  · cases hx
 obtain⟨us,hus,hrv⟩:=hrow
 obtain⟨us',hrun,hrv'⟩:=Q7x (S:=Sx E ι σ.H) (ι:=ι) (w:=w) (pl:=(List.range len).map fun k=>(k*sz,sz)) (place:=fun k=>some (k*i.size,i.size)) (fun k p hp=>by
  simp only[List.getElem?_map,Option.map_eq_some_iff] at hp
  obtain⟨m,hm,rfl⟩:=hp
  obtain⟨_,e⟩:=List.getElem?_eq_some_iff.1 hm
  simp at e
  rw[e,hsize]) _ (parts.toList.map fun x=>(x.1,a.eval x.2)) us _ ds hrv (by simp) (X2w h hk) hf
 have hlu:us'.length=len*sz:=by rw[hrv'.1,hlen]
 have hpt:(parts.map fun x=>(x.1,a.eval x.2)).toList=parts.toList.map fun x=>(x.1,a.eval x.2):=by simp
 have hb:=run_buildSlice (P:=P) w t e len (parts.map fun x=>(x.1,a.eval x.2)) us'.toArray i zv hu hi hiz (by rw[hsize];omega) (by rw[hsize];exact h0) (by rw[hus,hpt];exact hrun)
 have hex:(execOp a.eval o).run P w = .ok (.value (.slice (some ⟨w.heap.size,0,none⟩) len len)) (w.alloc (.cells us'.toArray e)):=by
  simp only[execOp,ho,Sem.run_bind,hb,Result.andThen_ok,Sem.run_pure]
 have hcn:=h.alloc (.cells us'.toArray e)
 have hS:∀b,Sx E ι σ.H b→b<w.heap.size→Sx E ι σ.H b∧(w.alloc (.cells us'.toArray e)).heap[b]? = w.heap[b]?:=fun b h1 h2=>⟨h1,Below.heap_alloc _ _ _ h2⟩
 have hml:len≤maxLen:=by
  have:len*1≤len*sz:=Nat.mul_le_mul_left _ hsz
  unfold maxLen;omega
 have hpl:pcs.length=len*sz:=by rw[←hlen,hpc,List.length_map]
 unfold Oper.wp
 rw[hex]
 refine hK' ι _ _ _ hK (hcn.put o.dst (.c _ _ (.sl true sz _ len len us' pcs (Nat.le_refl _) hml (fun h=>by cases h) (fun _=>rfl) (by rw[hlu,hpl]) hpl (fun _=>?_) fun j u x hu hx=>?_)))
 · refine⟨w.heap.size,0,rfl,⟨.inr (.inl h.keep.size),fun r cs hr hz' e'=>?_⟩,fun j u hu=>?_⟩
   · have:=(h.heap.blk r cs hr).lt hz'
     omega
   · have:(w.alloc (.cells us'.toArray e)).heap[w.heap.size]? = some (.cells us'.toArray e):=World.alloc_heap_new w _
     simp only[World.cell?,this,Nat.zero_add]
     simpa using hu
 · have h2:=(hrv'.2 j u (.c x) hu (by rw[hpc,List.getElem?_map,hx];rfl)).1
   cases h2 with
   |c _ _ hp=>exact hp.mono hS
theorem Q3n{t:TypeId}{len e sz by_:Nat}{parts:Array (Nat×Operand)}{z:List Value}{ds:List AV}{pcs:List PV}(ho:o.op = .buildSlice t len parts)(hk:parts.toList.all (fun p=>Q0i p.2)=true)(hs:slcZ P t=some (e,sz,by_))(hz:Q2k P e=some z)(h1:z.all (·.oneCell')=true)
 (hsmall:len*sz≤16777216) (hsz:0<sz) (hl0:0<len) (hf:Q7y (Q4n sz 0 len) (List.replicate (len*sz) .any) (parts.toList.map fun x=>(x.1,σ.ev x.2))=some ds) (hlen:ds.length=len*sz) (hpc:unC ds=some pcs) :
 OpF P o σ.ev (hget σ.H) (.c (.sl true sz len pcs)) [] []:=
 fun τ hA hQ=>by
  have hmap:(parts.toList.map fun x=>(x.1,τ.ev x.2))=parts.toList.map fun x=>(x.1,σ.ev x.2):=List.map_congr_left fun x hx=>by
   rw[hA x.2 (by rw[ho];simp only[Op.operands,Array.toList_map];exact List.mem_map.2 ⟨x,hx,rfl⟩)]
  refine Q2l ho hk hs hz h1 hsmall hsz hl0 (by rw[hmap];exact hf) hlen hpc ?_
  cases o.dst<;>rfl
theorem Q5s{d:Nat}{s x:Operand}{t e sz by_ n m:Nat}{ps:List PV}{ds:List AV}(ho:o.op = .call {callee:=.builtin .append,args:=#[s,x],argTypes:=#[t,t]})(hs0:Q0i s=true)(hx0:Q0i x=true)(hz:slcZ P t=some (e,sz,by_))(h0:0<sz)(hb0:0<by_)
 (h1:σ.ev s = .c (.sl true sz n ps)) (hx:σ.src (σ.ev x)=some (m,ds)) (hm:0<m) (hdl:ds.length=m*sz) (hby:(n+m)*by_≤140737488355328)
 (hd:o.dst=some d) (hf:σ.free d=true) (hd2:d<1000) (hds:AV.refsL d ds=false)
 (hK:K ((St.mk σ.T (hput σ.H d (ps.map .c++ds))).put o.dst (.row d e sz (n+m)))):OpA P o σ K:=by
 intro E ι a w hc K' Q hK'
 obtain⟨hu,i,z,hi,hiz,hsize,hbytes,hzs,hz1⟩:=Q4m hz
 obtain⟨A,c,vs,hxv,hsl,hvs⟩:=hc.src (hc.ev x hx0) hx hdl h0
 have hrefs:AV.refsL d (ps.map .c++ds)=false:=by simp[hds]
 have hsv:=hc.ev s hs0
 rw[h1] at hsv
 generalize he:a.eval s=v at hsv
 cases hsv with
 |c _ _ hp=>
  cases hp with
  |sl _ _ A0 _ c0 us _ g1 g2 g3 gx gl gn g4 g5=>
   obtain rfl:=gx rfl
   have husr:RVs (Sx E ι σ.H) ι w us (ps.map .c):=⟨by simp[gl],fun j u y hu hy=>by
    rw[List.getElem?_map,Option.map_eq_some_iff] at hy
    obtain⟨p,hp,rfl⟩:=hy
    exact⟨.c _ _ (g5 j u p hu hp),(g5 j u p hu hp).one⟩⟩
   obtain⟨b,off,rfl,_,hcell⟩:=hsl.cells hm
   cases A0 with
   |none=>
    have hn0:c0=0:=g3 rfl
    subst hn0
    have hp0:ps=[]:=List.eq_nil_of_length_eq_zero (by simpa using gn)
    subst hp0
    have hu0:us=[]:=List.eq_nil_of_length_eq_zero (by simpa using gl)
    subst hu0
    obtain⟨A',c',w',hrun,how',hg,hblk⟩:=run_app (P:=P) w 0 t o.type e i z sz by_ hu hi hiz hsize hbytes hzs h0 none 0 0 [] Ow.nil w.heap.size (some ⟨b,off,none⟩) m c vs hsl hvs.one hby hb0 (Nat.zero_le _)
    obtain⟨p,hconc,hrv⟩:=hc.appended hf hd2 none (cs:=[]++ds) h0 how' hg (fun g hg'=>by
     rcases hblk with hb|hb
     · exact .inl (hb.symm.trans hg')
     · rw[hb] at hg';exact .inr (by injection hg' with hg';omega)) (fun b hb=>by cases hb) (by simpa using hds) (by simpa using hvs) (Q9u w 0 t o.type e i z sz by_ hu hi hiz hsize hbytes hzs h0 none 0 0 [] Ow.nil w.heap.size (some ⟨b,off,none⟩) m c vs hsl hvs.ones hby hb0 hz1 (fun g hg=>by cases hg) hrun)
    unfold Oper.wp execOp
    simp only[ho,resolve,invoke,builtin,Sem.run_bind,Sem.run_pure,Result.andThen_ok,List.map_toArray,List.map_cons,List.map_nil,he,hxv,hrun]
    exact hK' _ _ _ _ hK (hconc.put o.dst (hrv _ _))
   |some b0=>
    have hsu:Sl w w.heap.size sz (some b0) c0 c0 us:=by
     refine⟨Nat.le_refl _,g2,(fun h=>by cases h),by rw[gl,gn],fun hn=>?_⟩
     have hne:us≠[]:=fun e=>by
      rw[e] at gl
      have:=Nat.mul_pos hn h0
      simp at gl;omega
     obtain⟨b1,o1,hA,hS,hcl⟩:=g4 hne
     obtain⟨u0,rest,hu0⟩:=List.exists_cons_of_ne_nil hne
     exact⟨b1,o1,hA,block_lt_of_cell (hcl 0 u0 (by rw[hu0];rfl)),fun j u hu=>hcl j u hu⟩
    have holds:∀j u,us[j]? = some u→w.cell? (b0.add j)=some u:=fun j u hu=>by
     have hne:us≠[]:=fun e=>by rw[e] at hu;cases hu
     obtain⟨b1,o1,hA,hS,hcl⟩:=g4 hne
     cases hA
     rw[Q1u]
     exact hcl j u hu
    have hallg:∀{v':Value} {w':World},(Builtin.append_ #[t,t] o.type #[.slice (some b0) c0 c0,.slice (some ⟨b,off,none⟩) m c]).run P w = .ok v' w'→∀g,v'.ownBlock=some g→X1b w' g:=fun hrun=>Q5y w t o.type e i z sz by_ hu hi hiz hsize hbytes hzs h0 (some b0) c0 c0 us (Q4z hsu) w.heap.size (some ⟨b,off,none⟩) m c vs hsl hvs.ones (by omega) hby hb0 hz1 husr.ones hrun
    obtain⟨v',w',hrun,how',hg⟩:=run_append_arg_grows (P:=P) w t o.type e i z sz by_ hu hi hiz hsize hbytes hzs h0 b0 c0 c0 us (by rw[gl,gn]) holds ⟨b,off,none⟩ m c vs hsl.len_ (fun j u hu=>by rw[Q1u];exact hcell j u hu) (by omega)
     (by have:(c0+m)*1≤(c0+m)*by_:=Nat.mul_le_mul_left _ hb0;unfold maxLen;omega) hby
    obtain⟨A',c',rfl⟩:∃A' c',v' = .slice A' (c0+m) c':=by
     rcases how' with⟨_,⟨rfl,h0⟩|⟨g,cap,cur,rfl,_⟩⟩
     · omega
     · exact⟨_,_,rfl⟩
    have hown':Ow w' w.heap.size e sz A' (c0+m) c' (us++vs):=how'
    obtain⟨p,hconc,hrv⟩:=hc.appended hf hd2 none (cs:=ps.map .c++ds) h0 (hown'.mono (Nat.zero_le _)) hg (fun g hg'=>by
     rcases hown'.form with⟨rfl,_⟩|⟨g2,_,rfl,hb2,_⟩
     · cases hg'
     · simp only[Value.ownBlock,Option.some.injEq] at hg'
       exact .inr (by omega)) (fun b hb=>by cases hb) hrefs (husr.app hvs) (hallg hrun)
    unfold Oper.wp execOp
    simp only[ho,resolve,invoke,builtin,Sem.run_bind,Sem.run_pure,Result.andThen_ok,List.map_toArray,List.map_cons,List.map_nil,he,hxv,hrun]
    exact hK' _ _ _ _ hK (hconc.put o.dst (hrv _ _))
end
def Q8f:Array Value→Sem Value:=fun args=>do
 let (x,y,b) ←Extern.MathBitsCarry.three "Sub64" args
 pure (Extern.MathBitsCarry.pair ((x+Extern.MathBitsCarry.m64-y-b)%Extern.MathBitsCarry.m64) (if x<y+b then 1 else 0))
def sbI(x y c:Int):Int:=(x+18446744073709551616-y-c)%18446744073709551616
def bwI(x y c:Int):Int:=if x<y+c then 1 else 0
theorem run_sub64{P:Program}(x y c:Int)(hx:0≤x)(hy:0≤y)(hy1:y≤18446744073709551615)(hc0:0≤c)(hc:c≤1)(w:World) :
 (Q8f #[.int .u64 x,.int .u64 y,.int .u64 c]).run P w = .ok (.tuple #[.int .u64 (sbI x y c),.int .u64 (bwI x y c)]) w:=by
 have key:∀k:Nat,k≤1→(Q8f #[.int .u64 x,.int .u64 y,.int .u64 (k:Int)]).run P w =
  .ok (Extern.MathBitsCarry.pair ((x.toNat+Extern.MathBitsCarry.m64-y.toNat-k)%Extern.MathBitsCarry.m64) (if x.toNat<y.toNat+k then 1 else 0)) w:=by
  intro k hk
  have:k=0∨k=1:=by omega
  rcases this with rfl|rfl<;>rfl
 obtain⟨k,rfl⟩:=Int.eq_ofNat_of_zero_le hc0
 rw[key k (by omega)]
 obtain⟨X,rfl⟩:=Int.eq_ofNat_of_zero_le hx
 obtain⟨Y,rfl⟩:=Int.eq_ofNat_of_zero_le hy
 have e1:((((X+18446744073709551616-Y-k)%18446744073709551616:Nat)):Int)=sbI X Y k:=by unfold sbI;omega
 have e2:((if X<Y+k then 1 else 0:Nat):Int)=bwI X Y k:=by unfold bwI;split<;>split<;>omega
 simp only[Extern.MathBitsCarry.pair,Extern.MathBitsCarry.m64,Int.toNat_natCast,Int.ofNat_eq_natCast]
 rw[←e1,←e2]
theorem sub64_ext {P:Program} {f:FuncId} {fn:Func} (hf:P.funcs[f]? = some fn) (hname:(fn.name == "runtime.NumGoroutine")=false)
 (hb:fn.body.isNone=true) (hn:Extern.findNext fn=none) (he:Extern.find fn=some Q8f) (x y c:Int) (hx:0≤x) (hy:0≤y) (hy1:y≤18446744073709551615) (hc0:0≤c) (hc:c≤1) :
 Ext P f [.int .u64 x,.int .u64 y,.int .u64 c] (.tup [.c (.v (.int .u64 (sbI x y c))),.c (.v (.int .u64 (bwI x y c)))]):=
 ext_of hf hname hb hn he (fun w=>run_sub64 x y c hx hy hy1 hc0 hc w) fun S ι w'=>.tup [_,_] [_,_] rfl fun j u x hu hx=>by
  rcases j with _|_|j
  · cases hu;cases hx;exact .c _ _ (.v _ rfl)
  · cases hu;cases hx;exact .c _ _ (.v _ rfl)
  · cases hu
open Go.RowKit Go.Lib
section
variable {P:Program} {o:Oper} {σ : St} {K:St→Prop}
theorem Q2r{t r e sz lo n c:Nat}{ex:Bool}{x i:Operand}{k:IntKind}{m:Int}(ho:o.op = .indexAddr t x i)(hx:Q0i x=true)(hi0:Q0i i=true)(h1:σ.ev x = .cut r e sz lo n c ex)(hi:σ.ev i = .c (.v (.int k m)))(hs:(slcT P t).map (fun p=>p.2.1)=some sz)
 (hb:0≤m∧m<n):OpF P o σ.ev (hget σ.H) (.ptr r ((lo+m.toNat)*sz)) [] []:=
 fun τ hA hQ=>by
  refine Q2s ho hx hi0 (by rw[hA x (by rw[ho];simp[Op.operands])];exact h1) (by rw[hA i (by rw[ho];simp[Op.operands])];exact hi) hs hb ?_
  cases o.dst<;>rfl
end
open Go.RowKit Go.Lib
mutual
theorem X9y{d:Nat}{pcs:List PV}:∀{x:AV},AV.refs d x=false→AV.frz d pcs x=x
 |.any,_=>rfl
 |.c _,_=>rfl
 |.agg cs,h=>by unfold AV.frz;rw[Q3s (by unfold AV.refs at h;exact h)]
 |.tup cs,h=>by unfold AV.frz;rw[Q3s (by unfold AV.refs at h;exact h)]
 |.ptr r o,h=>by unfold AV.refs at h;unfold AV.frz;rw[if_neg (by simpa using h)]
 |.row r e sz n,h=>by unfold AV.refs at h;unfold AV.frz;rw[if_neg (by simpa using h)]
 |.cut r e sz lo n c ex,h=>by unfold AV.refs at h;unfold AV.frz;rw[if_neg (by simpa using h)]
 |.ep cs,_=>rfl
 |.fn f cs,h=>by unfold AV.frz;rw[Q3s (by unfold AV.refs at h;exact h)]
 |.fnb f cs,h=>by unfold AV.frz;rw[Q3s (by unfold AV.refs at h;exact h)]
 |.amp b ks cs,h=>by unfold AV.frz;rw[Q3s (by unfold AV.refs at h;exact h)]
theorem Q3s{d:Nat}{pcs:List PV}:∀{l:List AV},AV.refsL d l=false→AV.frzL d pcs l=l
 |[],_=>rfl
 |x::l,h=>by
  unfold AV.refsL at h
  rw[Bool.or_eq_false_iff] at h
  unfold AV.frzL
  rw[X9y h.1,Q3s h.2]
end
theorem Z0b{d:Nat}{pcs:List PV}{cs:List AV}:∀{H:List (Nat×List AV)},Q1w d H=true→frzH d pcs (hput H d cs)=H
 |[],_=>by simp[hput,frzH]
 |(k,ds)::H,h=>by
  unfold Q1w at h
  simp only[Bool.and_eq_true,bne_iff_ne,ne_eq,Bool.not_eq_true'] at h
  unfold hput
  rw[if_neg h.1.1]
  unfold frzH
  rw[if_neg h.1.1,Q3s h.1.2,Z0b h.2]
theorem X9z{d:Nat}{pcs:List PV}{x:AV}:∀{l:List AV} (i:Nat),AV.refsL d l=false→AV.frzL d pcs (l.set i x)=l.set i (AV.frz d pcs x)
 |[],i,_=>rfl
 |y::l,0,h=>by
  unfold AV.refsL at h
  rw[Bool.or_eq_false_iff] at h
  rw[List.set_cons_zero,List.set_cons_zero]
  unfold AV.frzL
  rw[Q3s h.2]
 |y::l,i+1,h=>by
  unfold AV.refsL at h
  rw[Bool.or_eq_false_iff] at h
  rw[List.set_cons_succ,List.set_cons_succ]
  conv=>lhs;unfold AV.frzL
  rw[X9y h.1,X9z i h.2]
section
variable {P:Program} {o:Oper} {σ : St} {K:St→Prop}
theorem X0d{d:Nat}{s x:Operand}{t e sz by_ n m:Nat}{ex:Bool}{ps qs:List PV}(ho:o.op = .call {callee:=.builtin .append,args:=#[s,x],argTypes:=#[t,t]})(hs0:Q0i s=true)(hx0:Q0i x=true)(hz:slcZ P t=some (e,sz,by_))(h0:0<sz)(hb0:0<by_)
 (h1:σ.ev s = .c (.sl true sz n ps)) (h2:σ.ev x = .c (.sl ex sz m qs)) (hql:qs.length=m*sz) (hpl:ps.length=n*sz) (hby:(n+m)*by_≤140737488355328) (hd:o.dst=some d) (hf:σ.free d=true) (hd2:d<1000)
 (hK:K (σ.put o.dst (.c (.sl false sz (n+m) (ps++qs))))):OpA P o σ K:=by
 rcases Nat.eq_zero_or_pos m with rfl|hm
 · obtain rfl:qs=[]:=List.eq_nil_of_length_eq_zero (by simpa using hql)
   rw[List.append_nil,Nat.add_zero] at hK
   refine Q1h _ hK fun E ι a w h=>?_
   obtain⟨hu,i,z,hi,hiz,hsize,hbytes,hzs,hz1⟩:=Q4m hz
   have hsv:=h.ev s hs0
   have hxv:=h.ev x hx0
   rw[h1] at hsv
   rw[h2] at hxv
   generalize he:a.eval s=v at hsv
   generalize hex:a.eval x=y at hxv
   cases hsv with
   |c _ _ hp=>
    cases hp with
    |sl _ _ A0 _ c0 us _ g1 g2 g3 gx gl gn g4 g5=>
     cases hxv with
     |c _ _ hq=>
      cases hq with
      |sl _ _ B _ c1 ws _ k1 k2 k3 kx kl kn k4 k5=>
       have hsrc:Src P i.size t (.slice B 0 c1) 0 [] w:=by
        cases B with
        |none=>
         obtain rfl:=k3 rfl
         exact Src.ofNil w hu 0
        |some a0=>exact Src.ofSlice w hu a0 0 c1 [] (by simp) (fun j u hu=>by cases hu) (fun u hu=>by cases hu)
       refine⟨_,?_,.c _ _ (.sl false sz A0 n c0 us ps g1 g2 g3 (fun e=>by cases e) gl gn g4 g5)⟩
       have hrun:=run_append_nothing w t t o.type e i hu hi A0 n c0 g1 _ hsrc
       unfold execOp
       simp only[ho,resolve,invoke,builtin,Sem.run_bind,Sem.run_pure,Result.andThen_ok,List.map_toArray,List.map_cons,List.map_nil,he,hex,hrun]
 · intro E ι a w h K' Q hK'
   have hsrc:σ.src (σ.ev x)=some (m,qs.map .c):=by rw[h2];simp[St.src]
   have hfr:=hf
   unfold St.free at hfr
   simp only[Bool.and_eq_true,Bool.not_eq_true'] at hfr
   refine Q5s (K:=fun ρ=>ρ = (St.mk σ.T (hput σ.H d (ps.map .c++qs.map .c))).put o.dst (.row d e sz (n+m))) ho hs0 hx0 hz h0 hb0 h1 hsrc hm (by rw[List.length_map];exact hql) hby hd hf hd2 (by simp) rfl E ι a w h K' Q fun ι' σ' a' w' hσ hc=>?_
   subst hσ
   rw[←List.map_append] at hc
   have hc2:=hc.frz (r:=d) (pcs:=ps++qs) (by rw[hd];show hget (hput σ.H d _) d=_;rw[Q2n,if_pos rfl])
   refine hK' ι' _ a' w' hK ?_
   have e1:St.frz ((St.mk σ.T (hput σ.H d ((ps++qs).map .c))).put o.dst (.row d e sz (n+m))) d (ps++qs) = σ.put o.dst (.c (.sl false sz (n+m) (ps++qs))):=by
    rw[hd]
    show St.mk (AV.frzL d (ps++qs) (σ.T.set d (.row d e sz (n+m)))) (frzH d (ps++qs) (hput σ.H d _))=St.mk (σ.T.set d _) σ.H
    rw[X9z d hfr.1,Z0b hfr.2]
    congr 2
    unfold AV.frz
    rw[if_pos rfl,if_pos (by rw[List.length_append,hpl,hql,Nat.add_mul])]
   rw[←e1]
   exact hc2
theorem Q9z{d:Nat}{s x:Operand}{t e sz by_ n m:Nat}{ex:Bool}{ps qs:List PV}(ho:o.op = .call {callee:=.builtin .append,args:=#[s,x],argTypes:=#[t,t]})(hs0:Q0i s=true)(hx0:Q0i x=true)(hz:slcZ P t=some (e,sz,by_))(h0:0<sz)(hb0:0<by_)
 (h1:σ.ev s = .c (.sl true sz n ps)) (h2:σ.ev x = .c (.sl ex sz m qs)) (hql:qs.length=m*sz) (hpl:ps.length=n*sz) (hby:(n+m)*by_≤140737488355328) (hd:o.dst=some d) (hd2:d<1000) :
 OpN P o σ.ev (hget σ.H) ⟨.c (.sl false sz (n+m) (ps++qs)),[],[],[d]⟩:=fun τ hA _ hN=>by
 have hA':∀z,z=s∨z=x→τ.ev z = σ.ev z:=fun z hz=>hA z (by rw[ho];rcases hz with rfl|rfl<;>simp[Op.operands,Call.operands])
 refine X0d ho hs0 hx0 hz h0 hb0 (by rw[hA' s (.inl rfl)];exact h1) (by rw[hA' x (.inr rfl)];exact h2) hql hpl hby hd (hN d (by simp)) hd2 ?_
 cases o.dst<;>rfl
theorem Q4q{l0 rest:List Oper}{acc:List Ef}{d:Nat}{s x:Operand}{t e sz by_ n m:Nat}{ex:Bool}{ps qs:List PV}(hg:o.guard=none)(ho:o.op = .call {callee:=.builtin .append,args:=#[s,x],argTypes:=#[t,t]})(hs0:Q0i s=true)(hx0:Q0i x=true)(hz:slcZ P t=some (e,sz,by_))(h0:0<sz)(hb0:0<by_)
 (h1:σ.ev s = .c (.sl true sz n ps)) (h2:σ.ev x = .c (.sl ex sz m qs)) (hql:qs.length=m*sz) (hpl:ps.length=n*sz) (hby:(n+m)*by_≤140737488355328) (hd:o.dst=some d) (hd2:d<1000)
 (h:evD P l0 rest (σ.eff o.dst (.c (.sl false sz (n+m) (ps++qs))) []) (⟨.c (.sl false sz (n+m) (ps++qs)),[],[],[d]⟩::acc) K):evD P l0 (o::rest) σ acc K:=
 ⟨_,.inl ⟨hg,Q9z ho hs0 hx0 hz h0 hb0 h1 h2 hql hpl hby hd hd2⟩,h⟩
end
end
end Go.Proofs.YtgdjkkapgghdbaaGreatDoor
