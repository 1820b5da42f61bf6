/-
  A call over abstract states. No program in sight.
-/
import Derived.Test.YtbmcdemnnbndeaaGreatDoorAvF
namespace Go.Proofs.YtbmcdemnnbndeaaGreatDoor
set_option linter.unusedSimpArgs false
set_option linter.unusedVariables false
section
open Go.RowKit
def Q8i(pl:List (Nat×Nat))(cs:List AV):List (Nat×AV)→Option (List AV)
 |[]=>some cs
 |(i,x)::rest=>match pl[i]?,x.cells with
  |some (off,size),some ys=>if ys.length=size∧off+size≤cs.length then Q8i pl (spl cs off ys) rest else none
  |_,_=>none
def plT(P:Program)(t:TypeId):Option (List (Nat×Nat)):=
 match P.underlying t with
 |some (.struct fs)=>fs.toList.mapM (fun f=>(P.info? f.type).map fun i=>(f.offset,i.size))
 |some (.array n e)=>(P.info? e).map fun i=>(List.range n).map fun k=>(k*i.size,i.size)
 |_=>none
theorem Q8h{S:Nat→Prop}{ι : Nat→Nat×Nat×Nat}{w:World}{pl:List (Nat×Nat)}{place:Nat→Option (Nat×Nat)}(hp:∀i p,pl[i]? = some p→place i=some p):∀(parts:List (Nat×AV)) (vs:List (Nat×Value)) (us:List Value) (cs ds:List AV),
 RVs S ι w us cs→vs.length=parts.length→(∀(j:Nat) (p:Nat×Value) (q:Nat×AV),vs[j]? = some p→parts[j]? = some q→p.1=q.1∧RV S ι w p.2 q.2)→Q8i pl cs parts=some ds→∃us':List Value,Instr.fill place us.toArray vs=some us'.toArray∧RVs S ι w us' ds
 |[],vs,us,cs,ds,hu,hl,_,h=>by
  obtain rfl:=List.eq_nil_of_length_eq_zero hl
  cases h
  exact⟨us,rfl,hu⟩
 |(i,x)::parts,[],us,cs,ds,hu,hl,_,h=>by simp at hl
 |(i,x)::parts,(i',v)::vs,us,cs,ds,hu,hl,hv,h=>by
  obtain⟨rfl,hvx⟩:=hv 0 _ _ rfl rfl
  simp only at hvx
  unfold Q8i at h
  split at h
  · rename_i off size ys hpl hys
    split at h
    · rename_i hcond
      obtain⟨hsz,hle⟩:=hcond
      have hc:=hvx.cells hys
      have hvs:v.cells.size=size:=by rw[←hsz,←hc.1];simp
      obtain⟨g1,g2⟩:=Great.foldl_set off v.cells.toList 0 us.toArray
      have hul:=hu.1
      obtain⟨us',h1,h2⟩:=Q8h hp parts vs ((v.cells.toList.zipIdx 0).foldl (fun cs (x:Value×Nat)=>cs.setIfInBounds (off+x.2) x.1) us.toArray).toList (spl cs off ys) ds
       ⟨by simp only[Array.length_toList,g1,spl,List.size_toArray,List.length_append,List.length_take,List.length_drop];omega,fun j u x' hj hx'=>by
         simp only[Array.getElem?_toList] at hj
         rw[g2 j] at hj
         have hyl:v.cells.toList.length=ys.length:=hc.1
         simp only[Nat.add_zero,List.size_toArray] at hj
         unfold spl at hx'
         simp only[List.getElem?_append,List.length_take,List.getElem?_take,List.getElem?_drop,List.length_append] at hx'
         have e2:min off cs.length=off:=by omega
         rw[e2] at hx'
         by_cases hj1:j<off
         · rw[if_neg (by omega)] at hj
           rw[if_pos (by omega),if_pos hj1,if_pos hj1] at hx'
           exact hu.2 j u x' (by simpa using hj) hx'
         · by_cases hj2:j<off+ys.length
           · rw[if_pos (by omega)] at hj
             rw[if_pos (by omega),if_neg hj1] at hx'
             exact hc.2 _ u x' hj hx'
           · rw[if_neg (by omega)] at hj
             rw[if_neg (by omega)] at hx'
             have e4:off+ys.length+(j-(off+ys.length))=j:=by omega
             rw[e4] at hx'
             exact hu.2 j u x' (by simpa using hj) hx'⟩
       (by simpa using hl) (fun j p q hj hq=>hv (j+1) p q (by simpa using hj) (by simpa using hq)) h
      refine⟨us',?_,h2⟩
      unfold Instr.fill
      rw[hp i' _ hpl]
      simp only
      rw[if_neg (by simp[hvs];omega)]
      rw[←h1]
      congr 1
      rw[←Array.foldl_toList,Array.toList_zipIdx]
    · cases h
  · cases h
theorem built_of{P:Program}{t:TypeId}{pl:List (Nat×Nat)}{z:List Value}(hp:plT P t=some pl)(hz:Q2b P t=some z):∃place:Nat→Option (Nat×Nat),(∀i p,pl[i]? = some p→place i=some p)∧∀parts,P.built t parts=Instr.fill place z.toArray parts:=by
 unfold Q2b at hz
 unfold plT at hp
 cases hi:P.info? t with
 |none=>simp[hi] at hz
 |some it=>
  cases hzz:it.zero with
  |none=>simp[hi,hzz] at hz
  |some zv=>
   have hzc:zv.cells=z.toArray:=by simp[hi,hzz] at hz;rw[←hz]
   split at hp
   · rename_i fs hu
     refine⟨fun i=>pl.toArray[i]?,fun i p h=>by simpa using h,fun parts=>?_⟩
     unfold Program.built
     rw[hi,hu]
     simp only[hzz,hp,hzc]
   · rename_i n e hu
     cases he:P.info? e with
     |none=>simp[he] at hp
     |some ie=>
      simp[he] at hp
      refine⟨fun i=>some (i*ie.size,ie.size),fun i p h=>?_,fun parts=>?_⟩
      · rw[←hp] at h
        simp only[List.getElem?_map,Option.map_eq_some_iff] at h
        obtain⟨k,hk,rfl⟩:=h
        have:=List.getElem?_eq_some_iff.1 hk
        obtain⟨_,e⟩:=this
        simp at e
        rw[e]
      · unfold Program.built
        rw[hi,hu]
        simp only[hzz,he,hzc]
   · cases hp
section
variable {P:Program} {o:Oper} {σ : St} {K:St→Prop}
theorem X2y{E:Env}{ι : Nat→Nat×Nat×Nat}{a:Act}{w:World}(h:Conc E ι σ a w){parts:Array (Nat×Operand)}(hk:parts.toList.all (fun p=>Q0k p.2)=true) :
 ∀(j:Nat) (p:Nat×Value) (q:Nat×AV),(parts.toList.map fun x=>(x.1,a.eval x.2))[j]? = some p→(parts.toList.map fun x=>(x.1,σ.ev x.2))[j]? = some q→p.1=q.1∧RV (Sx E ι σ.H) ι w p.2 q.2:=fun j p q hp hq=>by
 simp only[List.getElem?_map,Option.map_eq_some_iff] at hp hq
 obtain⟨x,hx,rfl⟩:=hp
 obtain⟨y,hy,rfl⟩:=hq
 rw[hx] at hy;cases hy
 exact⟨rfl,h.ev x.2 (List.all_eq_true.1 hk x (List.mem_of_getElem? hx))⟩
theorem opA_build{t:TypeId}{parts:Array (Nat×Operand)}{pl:List (Nat×Nat)}{z:List Value}{ds:List AV}(ho:o.op = .build t parts)(hk:parts.toList.all (fun p=>Q0k p.2)=true)(hp:plT P t=some pl)(hz:Q2b P t=some z)(h1:z.all (·.oneCell')=true)
 (hf:Q8i pl (z.map fun x=>.c (.v x)) (parts.toList.map fun x=>(x.1,σ.ev x.2))=some ds) (hK:K (σ.put o.dst (.agg ds))):OpA P o σ K:=
 Q1h _ hK fun E ι a w h=>by
  obtain⟨place,hpl,hb⟩:=built_of hp hz
  obtain⟨us',hrun,hrv⟩:=Q8h (S:=Sx E ι σ.H) (ι:=ι) (w:=w) hpl _ (parts.toList.map fun x=>(x.1,a.eval x.2)) z _ ds (X3y (t:=t) h1) (by simp) (X2y h hk) hf
  refine⟨.agg us'.toArray,?_,hrv.agg⟩
  have hpt:(parts.map fun x=>(x.1,a.eval x.2)).toList=parts.toList.map fun x=>(x.1,a.eval x.2):=by simp
  have:=run_build (P:=P) w t (parts.map fun x=>(x.1,a.eval x.2)) us'.toArray (by rw[hpt,hb];exact hrun)
  simp only[execOp,ho,Sem.run_bind,this,Result.andThen_ok,Sem.run_pure]
theorem X1r{d:Nat}{t:TypeId}{len e sz by_:Nat}{parts:Array (Nat×Operand)}{z:List Value}{ds:List AV}(ho:o.op = .buildSlice t len parts)(hk:parts.toList.all (fun p=>Q0k p.2)=true)(hs:slcZ P t=some (e,sz,by_))(hz:Q2b P e=some z)(h1:z.all (·.oneCell')=true)
 (hsmall:len*sz≤16777216) (hsz:0<sz) (hd:o.dst=some d) (hfr:σ.free d=true) (hd2:d<1000) (hf:Q8i ((List.range len).map fun k=>(k*sz,sz)) (List.replicate (len*sz) .any) (parts.toList.map fun x=>(x.1,σ.ev x.2))=some ds) (hlen:ds.length=len*sz) (hcs:AV.refsL d ds=false)
 (hK:K ((St.mk σ.T (hput σ.H d ds)).put o.dst (.row d e sz len))):OpA P o σ K:=
 X6g (.row d e sz len) hd hfr hd2 hcs hK fun E ι a w h=>by
  obtain⟨hu,i,zv,hi,hiz,hsize,hbytes,hzs⟩:=Q6e hs
  have hzl:zv.cells.toList=z:=by simp[Q2b,hi,hiz] at hz;exact hz
  have hz1:∀k,k<zv.cells.size→(zv.cells[k]!).oneCell'=true:=fun k hk=>by
   have hmem:zv.cells[k]!∈z:=by rw[←hzl];simp[hk]
   exact List.all_eq_true.1 h1 _ hmem
  by_cases h0:len*sz=0
  · have hlen0:len=0:=by
     rcases Nat.mul_eq_zero.1 h0 with h|h
     · exact h
     · omega
    subst hlen0
    have hds:ds=[]:=List.eq_nil_of_length_eq_zero (by simpa using hlen)
    subst hds
    have hparts:parts = #[]:=by
     cases hpl:parts.toList with
     |nil=>exact Array.toList_eq_nil_iff.1 hpl
     |cons x r=>rw[hpl] at hf;simp[Q8i] at hf
    subst hparts
    refine⟨.slice (some ⟨w.heap.size,0,none⟩) 0 0,#[],e,?_,Nat.le_refl _,fun j u x hu=>by simp at hu,fun u hu=>by simp at hu,fun S ι' w' hι=>.rnil _ d e sz (by rw[hι];rfl)⟩
    simp[execOp,ho,Instr.buildSlice,run_underlying hu,sizeOf,typeInfo,hi,hsize,newRow,Instr.fill]
    have:∀f:Nat→Value,Array.map f (Array.range 0) = #[]:=fun f=>by apply Array.ext';simp
    rw[this]
  · have hrow:∃us:List Value,((Array.range (len*i.size)).map (zv.cells[· % zv.cells.size]!))=us.toArray∧RVs (Sx E ι σ.H) ι w us (List.replicate (len*sz) .any):=by
     refine⟨((Array.range (len*i.size)).map (zv.cells[· % zv.cells.size]!)).toList,by apply Array.ext';simp,by simp[hsize],fun j u x hu hx=>?_⟩
     rw[List.getElem?_replicate] at hx
     split at hx
     · cases hx
       refine⟨.any _,?_⟩
       simp only[Array.getElem?_toList,Array.getElem?_map,Option.map_eq_some_iff] at hu
       obtain⟨k,_,rfl⟩:=hu
       exact hz1 _ (Nat.mod_lt _ (by omega))
     · cases hx
    obtain⟨us,hus,hrv⟩:=hrow
    obtain⟨us',hrun,hrv'⟩:=Q8h (S:=Sx E ι σ.H) (ι:=ι) (w:=w) (pl:=(List.range len).map fun k=>(k*sz,sz)) (place:=fun k=>some (k*i.size,i.size)) (fun k p hp=>by
     simp only[List.getElem?_map,Option.map_eq_some_iff] at hp
     obtain⟨m,hm,rfl⟩:=hp
     obtain⟨_,e⟩:=List.getElem?_eq_some_iff.1 hm
     simp at e
     rw[e,hsize]) _ (parts.toList.map fun x=>(x.1,a.eval x.2)) us _ ds hrv (by simp) (X2y h hk) hf
    have hlu:us'.length=len*sz:=by rw[hrv'.1,hlen]
    refine⟨.slice (some ⟨w.heap.size,0,none⟩) len len,us'.toArray,e,?_,by simp[hrv'.1],fun j u x hu hx=>hrv'.2 j u x (by simpa using hu) hx,fun u hu=>hrv'.ones u (by simpa using hu),fun S ι' w' hι=>?_⟩
    · have hpt:(parts.map fun x=>(x.1,a.eval x.2)).toList=parts.toList.map fun x=>(x.1,a.eval x.2):=by simp
      have:=run_buildSlice (P:=P) w t e len (parts.map fun x=>(x.1,a.eval x.2)) us'.toArray i zv hu hi hiz (by rw[hsize];omega) (by rw[hsize];exact h0) (by rw[hus,hpt];exact hrun)
      simp only[execOp,ho,Sem.run_bind,this,Result.andThen_ok,Sem.run_pure]
    · have hml:len≤maxLen:=by
       have:len*1≤len*sz:=Nat.mul_le_mul_left _ hsz
       unfold maxLen;omega
      have:=RV.row (S:=S) (ι:=ι') (w:=w') d e sz len len (Nat.le_refl _) hml (by rw[hι];simp[hlu]) (by rw[hι]) (by rw[hι];simp[hlu];omega)
      rwa [hι] at this
def Q4r(sz:Nat):Nat→Nat→List (Nat×Nat)
 |_,0=>[]
 |off,n+1=>(off,sz)::Q4r sz (off+sz) n
theorem Q8s(sz:Nat):∀(n off:Nat),Q4r sz off n=(List.range n).map fun k=>(off+k*sz,sz)
 |0,off=>rfl
 |n+1,off=>by
  rw[Q4r,Q8s sz n (off+sz),List.range_succ_eq_map,List.map_cons,List.map_map]
  congr 1
  · simp
  · apply List.map_congr_left
    intro k _
    simp only[Function.comp,Nat.succ_eq_add_one,Nat.add_mul,Nat.one_mul,Prod.mk.injEq,and_true]
    omega
def lenA:AV→Option Nat
 |.row _ _ _ n=>some n
 |.cut _ _ _ _ n _ _=>some n
 |.c (.sl _ _ n _)=>some n
 |.c (.v (.slice none 0 0))=>some 0
 |_=>none
theorem opA_len{t:TypeId}{x:Operand}{n:Nat}(ho:o.op = .call {callee:=.builtin .len,args:=#[x],argTypes:=#[t]})(hx:Q0k x=true)(hs:(slcT P t).isSome=true)(hn:lenA (σ.ev x)=some n)(hK:K (σ.put o.dst (.c (.v (.int .i64 n))))):OpA P o σ K:=
 Q1h _ hK fun E ι a w h=>by
  have hxv:=h.ev x hx
  generalize he:a.eval x=v at hxv
  generalize hes:σ.ev x=y at hxv hn
  have hv:∃A c,v = .slice A n c:=by
   cases hxv with
   |row r e sz n' c=>simp[lenA] at hn;subst hn;exact⟨_,_,rfl⟩
   |rnil A r e sz=>simp[lenA] at hn;subst hn;exact⟨_,_,rfl⟩
   |cut r e sz lo n' c=>simp[lenA] at hn;subst hn;exact⟨_,_,rfl⟩
   |cnil A r e sz=>simp[lenA] at hn;subst hn;exact⟨_,_,rfl⟩
   |c v p hp=>
    cases hp with
    |v _ _=>
     unfold lenA at hn
     split at hn
     · rename_i heq;cases heq
     · rename_i heq;cases heq
     · rename_i heq;cases heq
     · rename_i heq;cases heq;cases hn;exact⟨_,_,rfl⟩
     · cases hn
    |sl ex sz A n' c us cs=>simp[lenA] at hn;subst hn;exact⟨_,_,rfl⟩
    |mp=>simp[lenA] at hn
   |_=>simp[lenA] at hn
  obtain⟨A,c,rfl⟩:=hv
  obtain⟨p,hp⟩:=Option.isSome_iff_exists.1 hs
  have hu:∃e,P.underlying t=some (.slice e):=by
   unfold slcT at hp
   split at hp
   · rename_i e hu;exact⟨e,hu⟩
   · cases hp
  obtain⟨e,hu⟩:=hu
  refine⟨.int .i64 n,?_,Q1z _ rfl⟩
  simp[execOp,ho,resolve,invoke,builtin,he,Builtin.len_,run_underlying hu,goInt]
def bnd(ev:Operand→AV)(dflt:Nat):Option Operand→Option Int
 |none=>some dflt
 |some x=>match ev x with
  |.c (.v (.int _ m))=>some m
  |_=>none
theorem Q1j{k:IntKind}{m:Int}{y:Nat}{code:BoundsCode}(h:0≤m∧m≤y)(w:World):(Instr.sliceBound (.int k m) y code).run P w = .ok m.toNat w:=by
 simp[Instr.sliceBound,Q3t,h]
def X1w(mx:Option Operand)(m h:Int):Bool:=mx.isSome&&decide (m=h)
theorem opA_slice{t e sz by_ n:Nat}{ex:Bool}{cs:List PV}{x:Operand}{lo hi mx:Option Operand}{l h m:Int}(ho:o.op = .slice t x lo hi mx)(hx:Q0k x=true)(hlo:lo.toList.all Q0k=true)(hhi:hi.toList.all Q0k=true)(hmx:mx.toList.all Q0k=true)(hs:slcT P t=some (e,sz,by_))
 (h1:(σ.ev x).le (.c (.sl ex sz n cs))) (hl:bnd σ.ev 0 lo=some l) (hh:bnd σ.ev n hi=some h) (hm:bnd σ.ev n mx=some m) (hmi:mx.isSome=true→hi.isSome=true) (hb:0≤l∧l≤h∧h≤n∧(mx.isSome=true→h≤m∧m≤n))
 (hK:K (σ.put o.dst (.c (.sl (X1w mx m h) sz (h.toNat-l.toNat) ((cs.drop (l.toNat*sz)).take ((h.toNat-l.toNat)*sz)))))):OpA P o σ K:=
 Q1h _ hK fun E ι a w hc=>by
  have hxv:=h1 _ _ _ _ (hc.ev x hx)
  generalize he:a.eval x=v at hxv
  cases hxv with
  |c _ _ hp=>
   cases hp with
   |sl _ _ A _ c us _ g1 g2 g3 g4 hul hcl g5 g6=>
    have hinfo:∃i,P.underlying t=some (.slice e)∧P.info? e=some i∧i.size=sz:=by
     unfold slcT at hs
     split at hs
     · rename_i e' hu
       split at hs
       · rename_i i hi
         simp only[Option.some.injEq,Prod.mk.injEq] at hs
         obtain⟨rfl,rfl,rfl⟩:=hs
         exact⟨i,hu,hi,rfl⟩
       · cases hs
     · cases hs
    obtain⟨i,hu,hi',hsz⟩:=hinfo
    have hsize:(sizeOf e).run P w = .ok sz w:=Q3a (by simp[szT,hi',hsz]) w
    have bv:∀{op:Option Operand} {dflt:Nat} {q:Int} (hok:op.toList.all Q0k=true) (hq:bnd σ.ev dflt op=some q),(op=none∧q=dflt)∨∃x k,op=some x∧a.eval x = .int k q:=fun {op dflt q} hok hq=>by
     cases op with
     |none=>simp[bnd] at hq;exact .inl ⟨rfl,hq.symm⟩
     |some x=>
      unfold bnd at hq
      simp only at hq
      split at hq
      · rename_i k m' hev
        cases hq
        have:=hc.ev x (by simpa using hok)
        rw[hev] at this
        exact .inr ⟨x,k,rfl,this.v_inv.1⟩
      · cases hq
    obtain⟨b1,b2,b3,b4⟩:=hb
    have hbounds:∃M,(Instr.sliceBounds true n c (lo.map a.eval) (hi.map a.eval) (mx.map a.eval)).run P w = .ok (l.toNat,h.toNat,M) w∧h.toNat≤M∧M≤c∧(mx.isSome=true→M=m.toNat)∧(mx.isSome=false→M=c):=by
     rcases bv hmx hm with⟨rfl,rfl⟩|⟨xm,km,rfl,em⟩
     · refine⟨c,?_,by omega,Nat.le_refl _,(fun h=>by cases h),fun _=>rfl⟩
       rcases bv hhi hh with⟨rfl,rfl⟩|⟨xh,kh,rfl,eh⟩
       · rcases bv hlo hl with⟨rfl,rfl⟩|⟨xl,kl,rfl,el⟩
         · simp[Instr.sliceBounds]
         · simp[Instr.sliceBounds,el,Q1j (P:=P) (m:=l) (y:=n) ⟨b1,by omega⟩]
       · have hbh:=fun code=>Q1j (P:=P) (k:=kh) (m:=h) (y:=c) (code:=code) ⟨by omega,by omega⟩ w
         rcases bv hlo hl with⟨rfl,rfl⟩|⟨xl,kl,rfl,el⟩
         · simp[Instr.sliceBounds,eh,hbh]
         · simp[Instr.sliceBounds,eh,el,hbh,Q1j (P:=P) (m:=l) (y:=h.toNat) ⟨b1,by omega⟩]
     · obtain⟨c1,c2⟩:=b4 rfl
       refine⟨m.toNat,?_,by omega,by omega,fun _=>rfl,fun h=>by cases h⟩
       have hbm:=fun code=>Q1j (P:=P) (k:=km) (m:=m) (y:=c) (code:=code) ⟨by omega,by omega⟩ w
       rcases bv hhi hh with⟨rfl,rfl⟩|⟨xh,kh,rfl,eh⟩
       · have:=hmi rfl;cases this
       · have hbh:=fun code=>Q1j (P:=P) (k:=kh) (m:=h) (y:=m.toNat) (code:=code) ⟨by omega,by omega⟩ w
         rcases bv hlo hl with⟨rfl,rfl⟩|⟨xl,kl,rfl,el⟩
         · simp[Instr.sliceBounds,em,eh,hbm,hbh]
         · simp[Instr.sliceBounds,em,eh,el,hbm,hbh,Q1j (P:=P) (m:=l) (y:=h.toNat) ⟨b1,by omega⟩]
    obtain⟨M,hrunb,hM1,hM2,hM3,hM4⟩:=hbounds
    have hrun:(execOp a.eval o).run P w = .ok (.value (.slice (if M=l.toNat then A else A.map (·.add (l.toNat*sz))) (h.toNat-l.toNat) (M-l.toNat))) w:=by
     simp only[execOp,ho,he,Instr.sliceAt,Sem.run_bind,run_underlying hu,Result.andThen_ok,Instr.slice,hrunb,hsize,Sem.run_pure]
    refine⟨_,hrun,.c _ _ (.sl _ sz _ _ _ ((us.drop (l.toNat*sz)).take ((h.toNat-l.toNat)*sz)) _ (by omega) (by omega) (fun hA=>?_) (fun hex=>?_) (by simp[hul]) ?_ (fun hne=>?_) fun j u y hu' hy=>?_)⟩
    · by_cases hMl:M=l.toNat
      · omega
      · rw[if_neg hMl] at hA
        cases A with
        |none=>have:=g3 rfl;omega
        |some ad=>cases hA
    · cases mx with
      |none=>simp[X1w] at hex
      |some xm=>
       simp[X1w] at hex
       have:=hM3 rfl
       omega
    · have:(h.toNat-l.toNat)*sz≤cs.length-l.toNat*sz:=by
       rw[hcl,←Nat.sub_mul];exact Nat.mul_le_mul_right _ (by omega)
      rw[List.length_take,List.length_drop];omega
    · have hne':us≠[]:=by intro e;subst e;simp at hne
      obtain⟨b,off,rfl,hS,hcell⟩:=g5 hne'
      have hhl:¬h.toNat-l.toNat=0:=by intro e;rw[e] at hne;simp at hne
      rw[if_neg (by omega)]
      refine⟨b,off+l.toNat*sz,by simp[Q1q],hS,fun j u hu'=>?_⟩
      rw[List.getElem?_take] at hu'
      split at hu'
      · rw[List.getElem?_drop] at hu';rw[Nat.add_assoc];exact hcell _ u hu'
      · cases hu'
    · rw[List.getElem?_take] at hu' hy
      split at hu'
      · rename_i hj
        rw[if_pos hj] at hy
        rw[List.getElem?_drop] at hu' hy;exact g6 _ u y hu' hy
      · cases hu'
theorem opA_min2{ts:Array TypeId}{x y:Operand}{k k':IntKind}{m n:Int}(ho:o.op = .call {callee:=.builtin .min,args:=#[x,y],argTypes:=ts})(hx:Q0k x=true)(hy:Q0k y=true)(h1:σ.ev x = .c (.v (.int k m)))(h2:σ.ev y = .c (.v (.int k' n)))(hK:K (σ.put o.dst (.c (.v (.int k (if n<m then n else m)))))):OpA P o σ K:=
 Q1h _ hK fun E ι a w h=>by
  have hxv:=h.ev x hx
  rw[h1] at hxv
  have hyv:=h.ev y hy
  rw[h2] at hyv
  obtain⟨e1,_⟩:=hxv.v_inv
  obtain⟨e2,_⟩:=hyv.v_inv
  refine⟨.int k (if n<m then n else m),?_,Q1z _ rfl⟩
  simp[execOp,ho,resolve,invoke,builtin,e1,e2,Builtin.min_,Builtin.min2]
end
def X8l(e sz:Nat):AV→Bool
 |.row r e' sz' _=>e'==e&&sz'==sz
 |_=>true
def undT(P:Program)(t:TypeId):Bool:=(P.underlying t).isSome
def evO(P:Program)(o:Oper)(σ : St)(K:St→Prop):Prop:=
 match o.op with
 |.move x=>Q0k x=true∧K (σ.put o.dst (σ.ev x))
 |.assign x=>Q0k x=true∧K (σ.put o.dst (σ.ev x))
 |.pick c x y=>Q0k c=true∧Q0k x=true∧Q0k y=true∧match σ.ev c with
  |.c (.v (.bool t))=>K (σ.put o.dst (Q6k t (σ.ev x) (σ.ev y)))
  |_=>False
 |.binOp op t x y _=>Q0k x=true∧Q0k y=true∧match σ.ev x,σ.ev y with
  |.c (.v (.bool u)),.c (.v (.bool v))=>(op = .eql∨op = .neq)∧Q2z P t=true∧K (σ.put o.dst (.c (.v (.bool (if op = .eql then u==v else u != v)))))
  |.c (.v u),.c (.v v)=>match bop op u v with
   |some r=>K (σ.put o.dst (.c (.v r)))
   |none=>OpA P o σ K
  |.agg cs,.agg ds=>match eqAV cs ds with
   |some r=>(op = .eql∨op = .neq)∧eqTy P 6 t=true∧aggT P t=some true∧szT P t=some cs.length∧cs.length=ds.length∧P.eqGuardType P.depth t=false∧K (σ.put o.dst (.c (.v (.bool (if op = .eql then r else !r)))))
   |none=>False
  |_,_=>OpA P o σ K
 |.unOp op t x=>Q0k x=true∧match op,σ.ev x with
  |.not,.c (.v (.bool b))=>K (σ.put o.dst (.c (.v (.bool (!b)))))
  |.neg,.c (.v (.int k n))=>K (σ.put o.dst (.c (.v (.int k (k.wrap (0-n))))))
  |.xor,.c (.v (.int k n))=>K (σ.put o.dst (.c (.v (.int k (k.wrap (BitVec.ofInt k.bits (if k.signed then -1 else k.max) ^^^ BitVec.ofInt k.bits n).toNat)))))
  |_,_=>False
 |.convert s d x=>Q0k x=true∧undT P s=true∧match intT P d,σ.ev x with
  |some k',.c (.v (.int k n))=>K (σ.put o.dst (.c (.v (.int k' (k'.wrap n)))))
  |_,_=>False
 |.extract x k=>Q0k x=true∧match σ.ev x with
  |.tup xs=>match xs[k]? with
   |some y=>K (σ.put o.dst y)
   |none=>False
  |_=>False
 |.nilCheck x=>Q0k x=true∧match σ.ev x with
  |.ptr r off=>K (σ.put o.dst (.ptr r off))
  |.fn f cs=>K (σ.put o.dst (.fn f cs))
  |.ep cs=>K (σ.put o.dst (.ep cs))
  |_=>False
 |.makeFunc (.func f) first caps=>first = #[]∧caps.toList.all Q0k=true∧K (σ.put o.dst (.fn f (caps.toList.map σ.ev)))
 |.load t x=>Q0k x=true∧match σ.ev x,szT P t,aggT P t with
  |.ptr r off,some s,some true=>match hget σ.H r with
   |some cs=>off+s≤cs.length∧0<s∧K (σ.put o.dst (.agg ((cs.drop off).take s)))
   |none=>False
  |.ptr r off,some s,some false=>match hget σ.H r with
   |some cs=>match cs[off]? with
    |some y=>K (σ.put o.dst y)
    |none=>False
   |none=>False
  |.ep cs,some s,some true=>s≤cs.length∧K (σ.put o.dst (.agg ((cs.take s).map .c)))
  |.ep cs,some s,some false=>match cs[0]? with
   |some y=>K (σ.put o.dst (.c y))
   |none=>False
  |_,_,_=>False
 |.fieldAddr t x k=>Q0k x=true∧match σ.ev x,fldT P t k with
  |.ptr r off,some (ofs,s,_)=>s≠0∧K (σ.put o.dst (.ptr r (off+ofs)))
  |.ep cs,some (ofs,s,_)=>s≠0∧ofs<cs.length∧K (σ.put o.dst (.ep (cs.drop ofs)))
  |_,_=>False
 |.field t x k=>Q0k x=true∧match σ.ev x,fldT P t k with
  |.agg cs,some (ofs,s,true)=>K (σ.put o.dst (.agg ((cs.drop ofs).take s)))
  |.agg cs,some (ofs,s,false)=>match cs[ofs]? with
   |some y=>K (σ.put o.dst y)
   |none=>False
  |_,_=>False
 |.alloc t=>match o.dst,Q2b P t with
  |some d,some z=>σ.free d=true∧d<1000∧z.all (·.oneCell')=true∧K ((St.mk σ.T (hput σ.H d (z.map fun x=>.c (.v x)))).put (some d) (.ptr d 0))
  |_,_=>False
 |.box t x=>Q0k x=true∧match o.dst,(σ.ev x).cells with
  |some d,some ys=>σ.free d=true∧d<1000∧AV.refsL d ys=false∧K ((St.mk σ.T (hput σ.H d ys)).put (some d) (.ptr d 0))
  |_,_=>False
 |.store t p x=>Q0k p=true∧Q0k x=true∧o.dst=none∧match σ.ev p,(σ.ev x).cells with
  |.ptr r off,some ys=>match hget σ.H r with
   |some cs=>szT P t=some ys.length∧off+ys.length≤cs.length∧0<ys.length∧K ⟨σ.T,hput σ.H r (spl cs off ys)⟩
   |none=>False
  |_,_=>False
 |.indexAddr t x i=>Q0k x=true∧Q0k i=true∧match σ.ev x,σ.ev i with
  |.row r _ sz n,.c (.v (.int _ m))=>(slcT P t).map (fun p=>p.2.1)=some sz∧0≤m∧m<n∧K (σ.put o.dst (.ptr r (m.toNat*sz)))
  |.c (.sl _ sz n cs),.c (.v (.int _ m))=>(slcT P t).map (fun p=>p.2.1)=some sz∧0<sz∧0≤m∧m<n∧K (σ.put o.dst (.ep ((cs.drop (m.toNat*sz)).take sz)))
  |.ptr r off,.c (.v (.int _ m))=>match arrT P t with
   |some (n,sz,_)=>0≤m∧m<n∧K (σ.put o.dst (.ptr r (off+m.toNat*sz)))
   |none=>False
  |_,_=>OpA P o σ K
 |.index t x i=>Q0k x=true∧Q0k i=true∧match σ.ev x,σ.ev i,arrT P t with
  |.agg cs,.c (.v (.int _ m)),some (n,sz,true)=>0≤m∧m<n∧K (σ.put o.dst (.agg ((cs.drop (m.toNat*sz)).take sz)))
  |.agg cs,.c (.v (.int _ m)),some (n,sz,false)=>0≤m∧m<n∧match cs[m.toNat*sz]? with
   |some y=>K (σ.put o.dst y)
   |none=>False
  |_,_,_=>False
 |.build t parts=>parts.toList.all (fun p=>Q0k p.2)=true∧match plT P t,Q2b P t with
  |some pl,some z=>z.all (·.oneCell')=true∧match Q8i pl (z.map fun x=>.c (.v x)) (parts.toList.map fun x=>(x.1,σ.ev x.2)) with
   |some ds=>K (σ.put o.dst (.agg ds))
   |none=>False
  |_,_=>False
 |.buildSlice t len parts=>parts.toList.all (fun p=>Q0k p.2)=true∧match o.dst,slcZ P t with
  |some d,some (e,sz,_)=>match Q2b P e,Q8i (Q4r sz 0 len) (List.replicate (len*sz) .any) (parts.toList.map fun x=>(x.1,σ.ev x.2)) with
   |some z,some ds=>z.all (·.oneCell')=true∧len*sz≤16777216∧0<sz∧σ.free d=true∧d<1000∧ds.length=len*sz∧AV.refsL d ds=false∧K ((St.mk σ.T (hput σ.H d ds)).put (some d) (.row d e sz len))
   |_,_=>False
  |_,_=>False
 |.slice t x lo hi mx=>Q0k x=true∧lo.toList.all Q0k=true∧hi.toList.all Q0k=true∧mx.toList.all Q0k=true∧(!mx.isSome||hi.isSome)=true∧match σ.ev x with
  |.c (.sl _ sz n cs)=>match bnd σ.ev 0 lo,bnd σ.ev n hi,bnd σ.ev n mx with
   |some l,some h,some m=>(slcT P t).map (fun p=>p.2.1)=some sz∧0≤l∧l≤h∧h≤n∧(mx.isSome=true→h≤m∧m≤n) ∧
    K (σ.put o.dst (.c (.sl (X1w mx m h) sz (h.toNat-l.toNat) ((cs.drop (l.toNat*sz)).take ((h.toNat-l.toNat)*sz)))))
   |_,_,_=>False
  |_=>OpA P o σ K
 |.call c=>match c.callee,c.args.toList,c.argTypes.toList with
  |.builtin .len,[x],[t]=>Q0k x=true∧(slcT P t).isSome=true∧match lenA (σ.ev x) with
   |some n=>K (σ.put o.dst (.c (.v (.int .i64 n))))
   |none=>False
  |.builtin .min,[x,y],_=>Q0k x=true∧Q0k y=true∧match σ.ev x,σ.ev y with
   |.c (.v (.int k m)),.c (.v (.int _ n))=>K (σ.put o.dst (.c (.v (.int k (if n<m then n else m)))))
   |_,_=>False
  |.builtin .append,[x,y],[t,t']=>match slcZ P t,σ.dst (σ.ev x),σ.src (σ.ev y),o.dst with
   |some (e,sz,by_),some (rr,n,cs),some (m,ds),some d=>t=t'∧Q0k x=true∧Q0k y=true∧0<sz∧0<by_∧X8l e sz (σ.ev x)=true∧cs.length=n*sz∧ds.length=m*sz∧(n+m)*by_≤140737488355328∧σ.free d=true∧d<1000∧AV.refsL d cs=false∧AV.refsL d ds=false ∧
    K ((St.mk σ.T (hput (X1t σ.H rr) d (cs++ds))).put (some d) (.row d e sz (n+m)))
   |_,_,_,_=>OpA P o σ K
  |_,_,_=>OpA P o σ K
 |_=>OpA P o σ K
theorem Q7f{P:Program}{t sz:Nat}(h:(slcT P t).map (fun p=>p.2.1)=some sz):∃e by_,slcT P t=some (e,sz,by_):=by
 cases hs:slcT P t with
 |none=>rw[hs] at h;cases h
 |some p=>obtain⟨e,s,b⟩:=p;rw[hs] at h;simp at h;subst h;exact⟨e,b,rfl⟩
theorem Q3d{P:Program}{o:Oper}{σ : St}{K:St→Prop}(h:evO P o σ K):OpA P o σ K:=by
 unfold evO at h
 split at h
 · rename_i x ho;exact X7n (.inl ho) h.1 h.2
 · rename_i x ho;exact X7n (.inr ho) h.1 h.2
 · rename_i c x y ho
   obtain⟨h1,h2,h3,h⟩:=h
   split at h
   · rename_i t ht;exact opA_pick ho h2 h3 h1 ht h
   · exact h.elim
 · rename_i op t x y t' ho
   obtain⟨h1,h2,h⟩:=h
   split at h
   · rename_i u v e1 e2;exact opA_eqb h.1 ho h.2.1 h1 h2 e1 e2 h.2.2
   · rename_i u v _ e1 e2
     split at h
     · rename_i r hr;exact opA_bin ho h1 h2 e1 e2 hr h
     · exact h
   · rename_i cs ds e1 e2
     split at h
     · rename_i r hr
       obtain⟨g1,g2,g3,g4,g5,g6,g7⟩:=h
       exact opA_eqs 6 g1 ho g2 g3 g4 g5 (by omega) g6 h1 h2 e1 e2 hr g7
     · exact h.elim
   · exact h
 · rename_i op t x ho
   obtain⟨h1,h⟩:=h
   split at h
   · rename_i b e;exact opA_not ho h1 e h
   · rename_i k n e;exact opA_neg ho h1 e h
   · rename_i k n e;exact opA_xor ho h1 e h
   · exact h.elim
 · rename_i s d x ho
   obtain⟨h1,h2,h⟩:=h
   split at h
   · rename_i k' k n e1 e2;exact opA_conv ho e1 h2 h1 e2 h
   · exact h.elim
 · rename_i x k ho
   obtain⟨h1,h⟩:=h
   split at h
   · rename_i xs e
     split at h
     · rename_i y hy;exact X6h ho h1 e hy h
     · exact h.elim
   · exact h.elim
 · rename_i x ho
   obtain⟨h1,h⟩:=h
   split at h
   · rename_i r off e;exact X4r ho h1 e h
   · rename_i f cs e;exact X0o ho h1 e h
   · rename_i cs e;exact X0p ho h1 e h
   · exact h.elim
 · rename_i f first caps ho
   obtain⟨rfl,h1,h⟩:=h
   exact X4s ho h1 h
 · rename_i t x ho
   obtain⟨h1,h⟩:=h
   split at h
   · rename_i r off s e1 e2 e3
     split at h
     · rename_i cs hr;exact Q9f ho h1 e1 hr e2 e3 (y:=.agg ((cs.drop off).take s)) (by rw[if_pos rfl];exact⟨h.1,h.2.1,rfl⟩) h.2.2
     · exact h.elim
   · rename_i r off s e1 e2 e3
     split at h
     · rename_i cs hr
       split at h
       · rename_i y hy;exact Q9f ho h1 e1 hr e2 e3 (y:=y) (by simpa using hy) h
       · exact h.elim
     · exact h.elim
   · rename_i cs s e1 e2 e3
     exact X0q ho h1 e1 e2 e3 (y:=.agg ((cs.take s).map .c)) (by rw[if_pos rfl];exact⟨h.1,rfl⟩) h.2
   · rename_i cs s e1 e2 e3
     split at h
     · rename_i y hy;exact X0q ho h1 e1 e2 e3 (y:=.c y) (by simp[hy]) h
     · exact h.elim
   · exact h.elim
 · rename_i t x k ho
   obtain⟨h1,h⟩:=h
   split at h
   · rename_i r off ofs s g e1 e2;exact X3b ho h1 e1 e2 h.1 h.2
   · rename_i cs ofs s g e1 e2;exact X4v ho h1 e1 e2 h.1 h.2.1 h.2.2
   · exact h.elim
 · rename_i t x k ho
   obtain⟨h1,h⟩:=h
   split at h
   · rename_i cs ofs s e1 e2;exact Q7w ho h1 e1 e2 (y:=.agg ((cs.drop ofs).take s)) (by simp) h
   · rename_i cs ofs s e1 e2
     split at h
     · rename_i y hy;exact Q7w ho h1 e1 e2 (y:=y) (by simpa using hy) h
     · exact h.elim
   · exact h.elim
 · rename_i t ho
   split at h
   · rename_i d z e1 e2;exact opA_alloc ho e1 h.1 h.2.1 e2 h.2.2.1 (by rw[e1];exact h.2.2.2)
   · exact h.elim
 · rename_i t x ho
   obtain⟨h1,h⟩:=h
   split at h
   · rename_i d ys e1 e2;exact opA_box ho h1 e1 h.1 h.2.1 e2 h.2.2.1 (by rw[e1];exact h.2.2.2)
   · exact h.elim
 · rename_i t p x ho
   obtain⟨h1,h2,h3,h⟩:=h
   split at h
   · rename_i r off ys e1 e2
     split at h
     · rename_i cs hr;exact opA_store ho h1 h2 e1 hr e2 h.1 h.2.1 h.2.2.1 h3 h.2.2.2
     · exact h.elim
   · exact h.elim
 · rename_i t x i ho
   obtain⟨h1,h2,h⟩:=h
   split at h
   · rename_i r e sz n k m e1 e2
     obtain⟨hs,g1,g2,g3⟩:=h
     obtain⟨_,_,hs⟩:=Q7f hs
     exact X2z ho h1 h2 e1 e2 hs ⟨g1,g2⟩ g3
   · rename_i ex sz n cs k m e1 e2
     obtain⟨hs,g0,g1,g2,g3⟩:=h
     obtain⟨_,_,hs⟩:=Q7f hs
     exact X4t ho h1 h2 e1 e2 hs g0 ⟨g1,g2⟩ g3
   · rename_i r off k m e1 e2
     split at h
     · rename_i n sz g hs;exact X3a ho h1 h2 e1 e2 hs ⟨h.1,h.2.1⟩ h.2.2
     · exact h.elim
   · exact h
 · rename_i t x i ho
   obtain⟨h1,h2,h⟩:=h
   split at h
   · rename_i cs k m n sz e1 e2 e3;exact Q7v ho h1 h2 e1 e2 e3 ⟨h.1,h.2.1⟩ (y:=.agg ((cs.drop (m.toNat*sz)).take sz)) (by simp) h.2.2
   · rename_i cs k m n sz e1 e2 e3
     obtain⟨g1,g2,h⟩:=h
     split at h
     · rename_i y hy;exact Q7v ho h1 h2 e1 e2 e3 ⟨g1,g2⟩ (y:=y) (by simpa using hy) h
     · exact h.elim
   · exact h.elim
 · rename_i t parts ho
   obtain⟨h0,h⟩:=h
   split at h
   · rename_i pl z e1 e2
     obtain⟨h1,h⟩:=h
     split at h
     · rename_i ds hf;exact opA_build ho h0 e1 e2 h1 hf h
     · exact h.elim
   · exact h.elim
 · rename_i t len parts ho
   obtain⟨h0,h⟩:=h
   split at h
   · rename_i d e sz by_ e1 e2
     split at h
     · rename_i z ds e3 e4
       obtain⟨g1,g2,g3,g4,g5,g6,g7,g8⟩:=h
       have hp:Q4r sz 0 len=(List.range len).map fun k=>(k*sz,sz):=by rw[Q8s];simp
       rw[hp] at e4
       exact X1r ho h0 e2 e3 g1 g2 g3 e1 g4 g5 e4 g6 g7 (by rw[e1];exact g8)
     · exact h.elim
   · exact h.elim
 · rename_i t x lo hi mx ho
   obtain⟨h0,h1,h2,h3,h4,h⟩:=h
   split at h
   · rename_i ex sz n cs e1
     split at h
     · rename_i l hh m e2 e3 e4
       obtain⟨g0,g1,g2,g3,g4,g5⟩:=h
       obtain⟨_,_,hs⟩:=Q7f g0
       exact opA_slice ho h0 h1 h2 h3 hs (AV.le_of e1) e2 e3 e4 (fun hm=>by rw[hm] at h4;simpa using h4) ⟨g1,g2,g3,g4⟩ g5
     · exact h.elim
   · exact h
 · rename_i c ho
   have one:∀{α : Type} {xs:Array α} {l:List α},xs.toList=l→xs=l.toArray:=fun h=>by rw[←h]
   split at h
   · rename_i x t e1 e2 e3
     obtain⟨h1,h2,h⟩:=h
     split at h
     · rename_i n e4
       exact opA_len (by rw[ho];obtain⟨ca,ar,at'⟩:=c;simp only at e1 e2 e3;rw[e1,one e2,one e3]) h1 h2 e4 h
     · exact h.elim
   · rename_i x y e1 e2
     obtain⟨h1,h2,h⟩:=h
     split at h
     · rename_i k m k' n e4 e5
       exact opA_min2 (ts:=c.argTypes) (by rw[ho];obtain⟨ca,ar,at'⟩:=c;simp only at e1 e2;rw[e1,one e2]) h1 h2 e4 e5 h
     · exact h.elim
   · rename_i x y t t' e1 e2 e3
     split at h
     · rename_i e sz by_ rr n cs m ds d e4 e5 e6 e7
       obtain⟨rfl,h1,h2,h⟩:=h
       obtain⟨g1,g2,g3,g4,g5,g6,g7,g8,g9,g10,g11⟩:=h
       refine X8p (by rw[ho];obtain⟨ca,ar,at'⟩:=c;simp only at e1 e2 e3;rw[e1,one e2,one e3]) h1 h2 e4 g1 g2 (fun r e' sz' n' hr=>?_) e5 e6 g4 g5 g6 e7 g7 g8 g9 g10 (by rw[e7];exact g11)
       rw[hr] at g3
       simp only[X8l,Bool.and_eq_true,beq_iff_eq] at g3
       exact⟨g3.1,g3.2⟩
     · exact h
   · exact h
 · exact h
def evL(P:Program)(ops:Array Oper):List Oper→St→(St→Prop)→Prop
 |[],σ,K=>K σ
 |o::rest,σ,K=>match o.guard with
  |none=>OpA P o σ fun σ'=>evL P ops rest σ' K
  |some (j,want)=>match (ops[j]?).bind (·.dst) with
   |some d=>match σ.T.getD d .any with
    |.c (.v (.bool b))=>(b=want→OpA P o (σ.put (some d) (.c (.v (.bool want)))) fun σ'=>evL P ops rest σ' K)∧(b = !want→evL P ops rest ((σ.put (some d) (.c (.v (.bool !want)))).put o.dst (.tup [])) K)
    |.tup []=>evL P ops rest (σ.put o.dst (.tup [])) K
    |_=>False
   |none=>False
def AW(P:Program)(c:Code)(σ : St)(Φ : Exit→St→Prop):Prop:=
 ∀(E:Env) (ι : Nat→Nat×Nat×Nat) (a:Act) (w:World),Conc E ι σ a w→c.wp P (fun ex a' w'=>∃ι' σ',Conc E ι' σ' a' w'∧Φ ex σ') a w
theorem Q6y{σ : St}{d:Nat}{x:AV}(h:σ.T.getD d .any=x)(hx:x≠.any):σ.put (some d) x = σ:=by
 show St.mk (σ.T.set d x) σ.H = σ
 have:σ.T.set d x = σ.T:=by
  apply List.ext_getElem?
  intro i
  rw[List.getElem?_set]
  split
  · rename_i e;subst e
    rw[List.getD_eq_getElem?_getD] at h
    split
    · rename_i hlt
      rw[List.getElem?_eq_getElem hlt] at h ⊢
      simp at h;rw[h]
    · rename_i hge
      rw[List.getElem?_eq_none (by omega)] at h
      exact absurd h.symm hx
  · rfl
 rw[this]
theorem RV.undef{S:Nat→Prop}{ι : Nat→Nat×Nat×Nat}{w:World}:RV S ι w undef (.tup []):=
 .tup [] [] rfl fun j u x hu=>by cases hu
theorem RV.undef_inv{S:Nat→Prop}{ι : Nat→Nat×Nat×Nat}{w:World}{v:Value}(h:RV S ι w v (.tup [])):v=Go.undef:=by
 cases h with
 |tup us cs hl h=>cases us<;>first|rfl|cases hl
theorem Q6q{P:Program}{ops:Array Oper}{Φ : Exit→St→Prop}:∀(l:List Oper) (σ : St),evL P ops l σ (Φ .normal)→∀(E:Env) (ι : Nat→Nat×Nat×Nat) (a:Act) (w:World),Conc E ι σ a w →
 wpList P ops (fun ex a' w'=>∃ι' σ',Conc E ι' σ' a' w'∧Φ ex σ') l a w
 |[],σ,h,E,ι,a,w,hc=>⟨ι,σ,hc,h⟩
 |o::rest,σ,h,E,ι,a,w,hc=>by
  unfold evL at h
  split at h
  · rename_i hg
    refine wpList_plain hg fun K hK=>?_
    exact h E ι a w hc K _ fun ι' σ' a' w' hk hc'=>hK _ _ (Q6q rest σ' hk E ι' a' w' hc')
  · rename_i j want hg
    split at h
    · rename_i d hd
      split at h
      · rename_i b hb
        have hv:=hc.tmp d
        rw[hb] at hv
        obtain⟨e,_⟩:=hv.v_inv
        have hlt:d<a.tmps.size:=by
         rw[hc.size]
         rcases Nat.lt_or_ge d σ.T.length with h|h
         · exact h
         · rw[List.getD_eq_getElem?_getD,List.getElem?_eq_none h] at hb;cases hb
        have hy:yielded ops a.tmps j=some b:=by
         unfold yielded
         rw[hd]
         simp only[Option.bind_some]
         have:a.tmps[d]? = some (.bool b):=by
          rw[Array.getElem?_eq_getElem hlt]
          simp only[Array.getD,hlt,dif_pos] at e
          simpa using e
         rw[this]
        refine wpList_step fun K hK=>?_
        have hw:Region.wanted o (yielded ops a.tmps)=(some b==some want):=by
         unfold Region.wanted
         rw[hg]
         simp only[hy]
        rw[hw]
        by_cases hbw:b=want
        · subst hbw
          simp only[beq_self_eq_true,if_true]
          have h1:=h.1 rfl
          rw[Q6y hb (by simp)] at h1
          exact h1 E ι a w hc K _ fun ι' σ' a' w' hk hc'=>hK _ _ (Q6q rest σ' hk E ι' a' w' hc')
        · have hbw':b = !want:=by cases b<;>cases want<;>simp_all
          have:(some b==some want)=false:=by simp[hbw]
          simp only[this,Bool.false_eq_true,if_false]
          have h2:=h.2 hbw'
          rw[Q6y (by rw[hb,hbw']) (by simp)] at h2
          exact hK _ _ (Q6q rest _ h2 E ι _ w (hc.put o.dst .undef))
      · rename_i hb
        have hv:=hc.tmp d
        rw[hb] at hv
        have e:=hv.undef_inv
        have hy:yielded ops a.tmps j=none:=by
         unfold yielded
         rw[hd]
         simp only[Option.bind_some]
         simp only[Array.getD_eq_getD_getElem?] at e
         cases hh:a.tmps[d]? with
         |none=>rfl
         |some u=>rw[hh] at e;simp only[Option.getD_some] at e;rw[e];rfl
        refine wpList_step fun K hK=>?_
        have hw:Region.wanted o (yielded ops a.tmps)=false:=by
         unfold Region.wanted
         rw[hg]
         simp only[hy]
         rfl
        rw[hw]
        simp only[Bool.false_eq_true,if_false]
        exact hK _ _ (Q6q rest _ h E ι _ w (hc.put o.dst .undef))
      · exact h.elim
    · exact h.elim
def evC(P:Program):Code→St→(Exit→St→Prop)→Prop
 |.skip,σ,Φ=>Φ .normal σ
 |.region _ ops false,σ,Φ=>evL P ops ops.toList σ (Φ .normal)
 |.seq a b,σ,Φ=>evC P a σ fun ex σ'=>match ex with
  |.normal=>evC P b σ' Φ
  |ex=>Φ ex σ'
 |.cond c x y,σ,Φ=>Q0k c=true∧match σ.ev c with
  |.c (.v (.bool t))=>(t=true→evC P x σ Φ)∧(t=false→evC P y σ Φ)
  |_=>False
 |.block id c,σ,Φ=>evC P c σ fun ex σ'=>match ex with
  |.exit j=>if j=id then Φ .normal σ' else Φ (.exit j) σ'
  |ex=>Φ ex σ'
 |.exit id,σ,Φ=>Φ (.exit id) σ
 |.ret,σ,Φ=>Φ .ret σ
 |c,σ,Φ=>AW P c σ Φ
theorem Q3e{P:Program}:∀(c:Code) (σ : St) (Φ : Exit→St→Prop),evC P c σ Φ→AW P c σ Φ
 |.skip,σ,Φ,h=>fun E ι a w hc=>wp_skip ⟨ι,σ,hc,h⟩
 |.region id ops false,σ,Φ,h=>fun E ι a w hc=>wp_region_list (Q6q _ σ h E ι a w hc)
 |.region id ops true,σ,Φ,h=>h
 |.seq x y,σ,Φ,h=>fun E ι a w hc=>by
  refine wp_seq (wp_mono (Q3e x σ _ h E ι a w hc) fun ex a' w'=>?_)
  rintro ⟨ι',σ',hc',hΦ⟩
  cases ex with
  |normal=>exact Q3e y σ' Φ hΦ E ι' a' w' hc'
  |_=>exact⟨ι',σ',hc',hΦ⟩
 |.cond c x y,σ,Φ,h=>fun E ι a w hc=>by
  unfold evC at h
  obtain⟨h0,h⟩:=h
  split at h
  · rename_i t ht
    have hv:=hc.ev c h0
    rw[ht] at hv
    obtain⟨e,_⟩:=hv.v_inv
    exact wp_cond_split e (fun h'=>Q3e x σ Φ (h.1 h') E ι a w hc) (fun h'=>Q3e y σ Φ (h.2 h') E ι a w hc)
  · exact h.elim
 |.block id c,σ,Φ,h=>fun E ι a w hc=>by
  refine wp_block (wp_mono (Q3e c σ _ h E ι a w hc) fun ex a' w'=>?_)
  rintro ⟨ι',σ',hc',hΦ⟩
  cases ex with
  |exit j=>
   unfold Exit.inBlock
   simp only at hΦ ⊢
   split at hΦ
   · rename_i e;rw[if_pos e];exact⟨ι',σ',hc',hΦ⟩
   · rename_i e;rw[if_neg e];exact⟨ι',σ',hc',hΦ⟩
  |_=>exact⟨ι',σ',hc',hΦ⟩
 |.exit id,σ,Φ,h=>fun E ι a w hc=>wp_exit ⟨ι,σ,hc,h⟩
 |.ret,σ,Φ,h=>fun E ι a w hc=>wp_ret ⟨ι,σ,hc,h⟩
 |.loop c,σ,Φ,h=>h
 |.rangeFunc _ _ _ _,σ,Φ,h=>h
 |.scope _,σ,Φ,h=>h
 |.label _,σ,Φ,h=>h
 |.goto _,σ,Φ,h=>h
 |.refuse _,σ,Φ,h=>h
theorem AW.mono{P:Program}{c:Code}{σ : St}{Φ Ψ : Exit→St→Prop}(h:AW P c σ Φ)(hΦ : ∀ex σ,Φ ex σ→Ψ ex σ):AW P c σ Ψ:=
 fun E ι a w hc=>wp_mono (h E ι a w hc) fun ex a' w' ⟨ι',σ',hc',hq⟩=>⟨ι',σ',hc',hΦ _ _ hq⟩
theorem AW.loop{P:Program}{c:Code}{σ : St}{Φ : Exit→St→Prop}{α : Type}(I:α→St)(μ : α→Nat)(x0:α)(h0:σ.le (I x0))
 (round:∀x,evC P c (I x) fun ex σ'=>match ex with | .normal=>∃y,μ y < μ x∧σ'.le (I y)|ex=>Φ ex σ'):AW P (.loop c) σ Φ:=by
 intro E ι a w hc b k cs
 have key:∀n x ι a w,μ x=n→Conc E ι (I x) a w→∃e a' w',(∃ι' σ',Conc E ι' σ' a' w'∧Φ e σ')∧Arrives P (lone (b.at a (.code c :: .inLoop c::k)) cs w) b k cs e a' w':=by
  intro n
  induction n using Nat.strongRecOn with
  |_ n ih=>
   intro x ι a w hn hI
   obtain⟨e,a₁,w₁,⟨ι₁,σ₁,hc₁,hq⟩,harr⟩:=Q3e c (I x) _ (round x) E ι a w hI b (.inLoop c::k) cs
   cases e with
   |normal=>
    obtain⟨y,hlt,hle⟩:=hq
    obtain⟨e₂,a₂,w₂,hq₂,harr₂⟩:=ih (μ y) (hn▸hlt) y ι₁ a₁ w₁ rfl (hc₁.le hle)
    exact⟨e₂,a₂,w₂,hq₂,.of_steps (Steps.trans harr (.one step_inLoop)) harr₂⟩
   |exit id=>exact⟨_,a₁,w₁,⟨ι₁,σ₁,hc₁,hq⟩,.pass (x:=.inLoop c) rfl (fun _ _=>.inl (by simp)) harr⟩
   |goto l=>exact⟨_,a₁,w₁,⟨ι₁,σ₁,hc₁,hq⟩,.pass (x:=.inLoop c) rfl (fun _ _=>.inl (by simp)) harr⟩
   |ret=>exact⟨_,a₁,w₁,⟨ι₁,σ₁,hc₁,hq⟩,.pass (x:=.inLoop c) rfl (fun _ _=>.inl (by simp)) harr⟩
   |panic ch=>exact⟨_,a₁,w₁,⟨ι₁,σ₁,hc₁,hq⟩,.pass (x:=.inLoop c) rfl (fun _ _=>.inl (by simp)) harr⟩
   |outgrown=>exact⟨_,a₁,w₁,⟨ι₁,σ₁,hc₁,hq⟩,.pass (x:=.inLoop c) rfl (fun _ _=>.inl (by simp)) harr⟩
 obtain⟨e,a',w',hq,harr⟩:=key _ x0 ι a w rfl (hc.le h0)
 exact⟨e,a',w',hq,.of_steps (.one step_loop) harr⟩
mutual
def AV.ren(ρ : Nat→Nat):AV→AV
 |.any=>.any
 |.c x=>.c x
 |.agg cs=>.agg (AV.renL ρ cs)
 |.tup cs=>.tup (AV.renL ρ cs)
 |.ptr r off=>.ptr (ρ r) off
 |.row r e sz n=>.row (ρ r) e sz n
 |.cut r e sz lo n m ex=>.cut (ρ r) e sz lo n m ex
 |.ep cs=>.ep cs
 |.fn f cs=>.fn f (AV.renL ρ cs)
 |.fnb f cs=>.fnb f (AV.renL ρ cs)
 |.amp b ks cs=>.amp b ks (AV.renL ρ cs)
def AV.renL(ρ : Nat→Nat):List AV→List AV
 |[]=>[]
 |x::l=>AV.ren ρ x::AV.renL ρ l
end
@[simp] theorem Q0p (ρ : Nat→Nat) (l:List PV):AV.renL ρ (l.map .c)=l.map .c:=by
  induction l with
  |nil=>rfl
  |cons x l ih=>simp[AV.renL,AV.ren,ih]
theorem Q2c(ρ : Nat→Nat):∀(l:List AV) (j:Nat),(AV.renL ρ l)[j]? = (l[j]?).map (AV.ren ρ)
 |[],j=>by simp[AV.renL]
 |x::l,0=>by simp[AV.renL]
 |x::l,j+1=>by simpa [AV.renL] using Q2c ρ l j
theorem Q1i(ρ : Nat→Nat)(l:List AV):(AV.renL ρ l).length=l.length:=by
 induction l with
 |nil=>rfl
 |cons x l ih=>simp[AV.renL,ih]
mutual
def AV.inN(N:List Nat):AV→Bool
 |.any=>true
 |.c _=>true
 |.agg cs=>AV.inNL N cs
 |.tup cs=>AV.inNL N cs
 |.ptr r _=>N.contains r
 |.row r _ _ _=>N.contains r
 |.cut r _ _ _ _ _ _=>N.contains r
 |.ep _=>true
 |.fn _ cs=>AV.inNL N cs
 |.fnb _ cs=>AV.inNL N cs
 |.amp _ _ cs=>AV.inNL N cs
def AV.inNL(N:List Nat):List AV→Bool
 |[]=>true
 |x::l=>AV.inN N x&&AV.inNL N l
end
@[simp] theorem Q0x (N:List Nat) (l:List PV):AV.inNL N (l.map .c)=true:=by
  induction l with
  |nil=>rfl
  |cons x l ih=>simp[AV.inNL,AV.inN,ih]
theorem Q4k{N:List Nat}:∀{l:List AV},AV.inNL N l=true→∀(j:Nat) (x:AV),l[j]? = some x→AV.inN N x=true
 |[],_,j,x,hx=>by simp at hx
 |y::l,h,j,x,hx=>by
  unfold AV.inNL at h
  rw[Bool.and_eq_true] at h
  cases j with
  |zero=>simp at hx;subst hx;exact h.1
  |succ j=>exact Q4k h.2 j x (by simpa using hx)
theorem RV.unren{S:Nat→Prop}{ι : Nat→Nat×Nat×Nat}{ρ : Nat→Nat}{w:World}{v:Value}{y:AV}(h:RV S ι w v y):∀x:AV,y=AV.ren ρ x→RV S (fun r=>ι (ρ r)) w v x:=by
 induction h with
 |any v=>intro x hx;cases x<;>simp only[AV.ren] at hx<;>first|exact .any _|cases hx
 |c v p hp=>intro x hx;cases x<;>simp only[AV.ren] at hx<;>first|(cases hx;exact .c _ _ hp)|cases hx
 |agg us cs hl h1 _ ih=>
  intro x hx
  cases x with
  |agg ds=>
   simp only[AV.ren,AV.agg.injEq] at hx
   subst hx
   rw[Q1i] at hl
   exact .agg us ds hl h1 fun j u x hu hx=>ih j u (AV.ren ρ x) hu (by rw[Q2c,hx];rfl) x rfl
  |_=>simp only[AV.ren] at hx;cases hx
 |tup us cs hl _ ih=>
  intro x hx
  cases x with
  |tup ds=>
   simp only[AV.ren,AV.tup.injEq] at hx
   subst hx
   rw[Q1i] at hl
   exact .tup us ds hl fun j u x hu hx=>ih j u (AV.ren ρ x) hu (by rw[Q2c,hx];rfl) x rfl
  |_=>simp only[AV.ren] at hx;cases hx
 |ptr r off=>
  intro x hx
  cases x with
  |ptr q off'=>simp only[AV.ren,AV.ptr.injEq] at hx;obtain⟨rfl,rfl⟩:=hx;exact .ptr (ι:=fun r=>ι (ρ r)) q off
  |_=>simp only[AV.ren] at hx;cases hx
 |row r e sz n c h1 h2 h3 h4 h0=>
  intro x hx
  cases x with
  |row q e' sz' n'=>simp only[AV.ren,AV.row.injEq] at hx;obtain⟨rfl,rfl,rfl,rfl⟩:=hx;exact .row (ι:=fun r=>ι (ρ r)) q e sz n c h1 h2 h3 h4 h0
  |_=>simp only[AV.ren] at hx;cases hx
 |rnil A r e sz h=>
  intro x hx
  cases x with
  |row q e' sz' n'=>simp only[AV.ren,AV.row.injEq] at hx;obtain⟨rfl,rfl,rfl,rfl⟩:=hx;exact .rnil (ι:=fun r=>ι (ρ r)) A q e sz h
  |_=>simp only[AV.ren] at hx;cases hx
 |cut r e sz lo n c ex h1 h2 h3 hx' h4 h0=>
  intro x hx
  cases x with
  |cut q e' sz' lo' n' c' ex'=>simp only[AV.ren,AV.cut.injEq] at hx;obtain⟨rfl,rfl,rfl,rfl,rfl,rfl,rfl⟩:=hx;exact .cut (ι:=fun r=>ι (ρ r)) q e sz lo n c ex h1 h2 h3 hx' h4 h0
  |_=>simp only[AV.ren] at hx;cases hx
 |cnil A r e sz lo ex h=>
  intro x hx
  cases x with
  |cut q e' sz' lo' n' c' ex'=>simp only[AV.ren,AV.cut.injEq] at hx;obtain⟨rfl,rfl,rfl,rfl,rfl,rfl,rfl⟩:=hx;exact .cnil (ι:=fun r=>ι (ρ r)) A q e sz lo ex h
  |_=>simp only[AV.ren] at hx;cases hx
 |ep b o us cs hl hne hS h4 h5=>intro x hx;cases x<;>simp only[AV.ren] at hx<;>first|(cases hx;exact .ep b o us _ hl hne hS h4 h5)|cases hx
 |fn f us cs hl _ ih=>
  intro x hx
  cases x with
  |fn f' ds=>
   simp only[AV.ren,AV.fn.injEq] at hx
   obtain⟨rfl,rfl⟩:=hx
   rw[Q1i] at hl
   exact .fn f us ds hl fun j u x hu hx=>ih j u (AV.ren ρ x) hu (by rw[Q2c,hx];rfl) x rfl
  |_=>simp only[AV.ren] at hx;cases hx
 |fnb f us cs hl _ ih=>
  intro x hx
  cases x with
  |fnb f' ds=>
   simp only[AV.ren,AV.fnb.injEq] at hx
   obtain⟨rfl,rfl⟩:=hx
   rw[Q1i] at hl
   exact .fnb f us ds hl fun j u x hu hx=>ih j u (AV.ren ρ x) hu (by rw[Q2c,hx];rfl) x rfl
  |_=>simp only[AV.ren] at hx;cases hx
 |amp b X clk ks us cs hb hh hk hu hl _ ih=>
  intro x hx
  cases x with
  |amp b' ks' ds=>
   simp only[AV.ren,AV.amp.injEq] at hx
   obtain⟨rfl,rfl,rfl⟩:=hx
   rw[Q1i] at hl
   exact .amp b X clk ks us ds hb hh hk hu hl fun j u x hu hx=>ih j u (AV.ren ρ x) hu (by rw[Q2c,hx];rfl) x rfl
  |_=>simp only[AV.ren] at hx;cases hx
theorem RV.reren{S:Nat→Prop}{κ ι : Nat→Nat×Nat×Nat}{ρ : Nat→Nat}{w:World}{N:List Nat}(hN:∀r∈N,ι (ρ r) = κ r){v:Value}{x:AV}(h:RV S κ w v x):AV.inN N x=true→RV S ι w v (AV.ren ρ x):=by
 induction h with
 |any v=>exact fun _=>.any _
 |c v p hp=>exact fun _=>.c _ _ hp
 |agg us cs hl h1 _ ih=>
  intro hx
  refine .agg us _ (by rw[Q1i];exact hl) h1 fun j u y hu hy=>?_
  rw[Q2c,Option.map_eq_some_iff] at hy
  obtain⟨x,hx',rfl⟩:=hy
  exact ih j u x hu hx' (Q4k hx j x hx')
 |tup us cs hl _ ih=>
  intro hx
  refine .tup us _ (by rw[Q1i];exact hl) fun j u y hu hy=>?_
  rw[Q2c,Option.map_eq_some_iff] at hy
  obtain⟨x,hx',rfl⟩:=hy
  exact ih j u x hu hx' (Q4k hx j x hx')
 |ptr r off=>intro hx;rw[←hN r (by simpa [AV.inN] using hx)];exact .ptr (ρ r) off
 |row r e sz n c h1 h2 h3 h4 h0=>intro hx;have e':=hN r (by simpa [AV.inN] using hx);rw[←e'] at h3 h4 h0 ⊢;exact .row (ρ r) e sz n c h1 h2 h3 h4 h0
 |rnil A r e sz h=>intro hx;have e':=hN r (by simpa [AV.inN] using hx);rw[←e'] at h;exact .rnil A (ρ r) e sz h
 |cut r e sz lo n c ex h1 h2 h3 hx' h4 h0=>intro hx;have e':=hN r (by simpa [AV.inN] using hx);rw[←e'] at h3 hx' h4 h0 ⊢;exact .cut (ρ r) e sz lo n c ex h1 h2 h3 hx' h4 h0
 |cnil A r e sz lo ex h=>intro hx;have e':=hN r (by simpa [AV.inN] using hx);rw[←e'] at h;exact .cnil A (ρ r) e sz lo ex h
 |ep b o us cs hl hne hS h4 h5=>exact fun _=>.ep b o us cs hl hne hS h4 h5
 |fn f us cs hl _ ih=>
  intro hx
  refine .fn f us _ (by rw[Q1i];exact hl) fun j u y hu hy=>?_
  rw[Q2c,Option.map_eq_some_iff] at hy
  obtain⟨x,hx',rfl⟩:=hy
  exact ih j u x hu hx' (Q4k hx j x hx')
 |fnb f us cs hl _ ih=>
  intro hx
  refine .fnb f us _ (by rw[Q1i];exact hl) fun j u y hu hy=>?_
  rw[Q2c,Option.map_eq_some_iff] at hy
  obtain⟨x,hx',rfl⟩:=hy
  exact ih j u x hu hx' (Q4k hx j x hx')
 |amp b X clk ks us cs hb hh hk hu hl _ ih=>
  intro hx
  refine .amp b X clk ks us _ hb hh hk hu (by rw[Q1i];exact hl) fun j u y hu hy=>?_
  rw[Q2c,Option.map_eq_some_iff] at hy
  obtain⟨x,hx',rfl⟩:=hy
  exact ih j u x hu hx' (Q4k hx j x hx')
def Fn(P:Program)(f:FuncId)(args:List AV)(H0:List (Nat×List AV))(res:AV)(H1:List (Nat×List AV)):Prop:=
 ∀(E:Env) (vs:List Value),E.D=H0.map (·.1)→(∀r cs b,hget H0 r=some cs→(E.ι r).2.1≠0→E.S b→(E.ι r).1≠b)→ConcH E.S E.ι H0 E.w→vs.length=args.length→(∀(j:Nat) (v:Value) (x:AV),vs[j]? = some v→args[j]? = some x→RV E.S E.ι E.w v x) →
  Calls P f vs.toArray E.w fun e w'=>∃v ι',e = .returned v∧RV (Sx E ι' H1) ι' w' v res∧ConcH (Sx E ι' H1) ι' H1 w'∧Keep E ι' H1 w'
def ldA(P:Program)(σ : St)(t:TypeId)(x:AV):Option AV:=
 match x,szT P t,aggT P t with
 |.ptr r off,some s,some true=>match hget σ.H r with
  |some cs=>if off+s≤cs.length∧0<s then some (.agg ((cs.drop off).take s)) else none
  |none=>none
 |.ptr r off,some s,some false=>match hget σ.H r with
  |some cs=>cs[off]?
  |none=>none
 |_,_,_=>none
theorem ldA_run{P:Program}{E:Env}{ι : Nat→Nat×Nat×Nat}{σ : St}{a:Act}{w:World}(h:Conc E ι σ a w){t:TypeId}{x y:AV}{v:Value}(hv:RV (Sx E ι σ.H) ι w v x)(hy:ldA P σ t x=some y) :
 ∃ad u,(asAddr v).run P w = .ok ad w∧(loadVar t ad).run P w = .ok u w∧RV (Sx E ι σ.H) ι w u y:=by
 unfold ldA at hy
 split at hy
 · rename_i r off s e1 e2
   split at hy
   · rename_i cs hr
     split at hy
     · rename_i hcond
       obtain⟨hle,h0⟩:=hcond
       cases hy
       cases hv with
       |ptr=>
        rcases h.heap.blk r cs hr with⟨_,rfl⟩|⟨cur,hh,hsz,hl,hc,hone1⟩
        · simp only[List.length_nil] at hle;omega
        · have hlen:((cur.toList.drop off).take s).length=s:=by simp;omega
          have hrun:=run_loadCells_list (P:=P) w ⟨(ι r).1,off,none⟩ ((cur.toList.drop off).take s) fun j v hv=>by
           rw[Q1q,World.cell?,hh]
           rw[List.getElem?_take] at hv
           split at hv
           · rw[List.getElem?_drop] at hv;simpa using hv
           · cases hv
          rw[hlen] at hrun
          refine⟨_,.agg ((cur.toList.drop off).take s).toArray,rfl,by simp[loadVar,Q3m e2,Q3a e1,hrun],RVs.agg ⟨by simp;omega,fun j u x hu hx=>?_⟩⟩
          rw[List.getElem?_take] at hu hx
          split at hu
          · rename_i hj
            rw[if_pos hj] at hx
            rw[List.getElem?_drop] at hu hx
            exact hc (off+j) u x (by simpa using hu) hx
          · cases hu
     · cases hy
   · cases hy
 · rename_i r off s e1 e2
   split at hy
   · rename_i cs hr
     cases hv with
     |ptr=>
      rcases h.heap.blk r cs hr with⟨_,rfl⟩|⟨cur,hh,hsz,hl,hc,hone1⟩
      · simp at hy
      · have hlt:off<cur.size:=by have:=(List.getElem?_eq_some_iff.1 hy).1;omega
        have hcell:w.cell? ⟨(ι r).1,off,none⟩=some cur[off]:=by simp[World.cell?,hh,hlt]
        exact⟨_,cur[off],rfl,by simp[loadVar,Q3m e2,hcell],(hc off _ _ (Array.getElem?_eq_getElem hlt) hy).1⟩
   · cases hy
 · cases hy
def resL(P:Program)(σ : St):List ResultVar→Option (List AV)
 |[]=>some []
 |.tmp t::l=>(resL P σ l).map (σ.T.getD t .any :: ·)
 |.cell p t::l=>match ldA P σ t (σ.T.getD p .any) with
  |some y=>(resL P σ l).map (y :: ·)
  |none=>none
def Q0o:List AV→AV
 |[y]=>y
 |ys=>.tup ys
def X7i(a:Act):ResultVar→Sem Value
 |.tmp t=>pure (a.tmps.getD t undef)
 |.cell p t=>do loadVar t (←asAddr (a.tmps.getD p undef))
theorem X2v{P:Program}{E:Env}{ι : Nat→Nat×Nat×Nat}{σ : St}{a:Act}{w:World}(h:Conc E ι σ a w):∀(rs:List ResultVar) (ys:List AV),resL P σ rs=some ys →
 ∃us:List Value,(rs.mapM (X7i a)).run P w = .ok us w∧us.length=ys.length∧∀(j:Nat) (u:Value) (x:AV),us[j]? = some u→ys[j]? = some x→RV (Sx E ι σ.H) ι w u x
 |[],ys,hy=>by cases hy;exact⟨[],by simp,rfl,fun j u x hu=>by cases hu⟩
 |.tmp t::rs,ys,hy=>by
  simp only[resL,Option.map_eq_some_iff] at hy
  obtain⟨ys',h1,rfl⟩:=hy
  obtain⟨us,h2,h3,h4⟩:=X2v h rs ys' h1
  refine⟨a.tmps.getD t undef::us,by simp only[List.mapM_cons,X7i,Sem.run_bind,Sem.run_pure,Result.andThen_ok,h2],by simp[h3],fun j u x hu hx=>?_⟩
  cases j with
  |zero=>simp only[List.getElem?_cons_zero,Option.some.injEq] at hu hx;subst hu hx;exact h.tmp t
  |succ j=>simp only[List.getElem?_cons_succ] at hu hx;exact h4 j u x hu hx
 |.cell p t::rs,ys,hy=>by
  unfold resL at hy
  split at hy
  · rename_i y hld
    simp only[Option.map_eq_some_iff] at hy
    obtain⟨ys',h1,rfl⟩:=hy
    obtain⟨us,h2,h3,h4⟩:=X2v h rs ys' h1
    obtain⟨ad,u0,g1,g2,g3⟩:=ldA_run h (h.tmp p) hld
    refine⟨u0::us,by simp only[List.mapM_cons,X7i,Sem.run_bind,Sem.run_pure,Result.andThen_ok,g1,g2,h2],by simp[h3],fun j u x hu hx=>?_⟩
    cases j with
    |zero=>simp only[List.getElem?_cons_zero,Option.some.injEq] at hu hx;subst hu hx;exact g3
    |succ j=>simp only[List.getElem?_cons_succ] at hu hx;exact h4 j u x hu hx
  · cases hy
def FnEnd(P:Program)(rs:List ResultVar)(res:AV)(H1:List (Nat×List AV))(ex:Exit)(σ : St):Prop:=
 (ex = .normal∨ex = .ret)∧(∃r:AV,(resL P σ rs).map Q0o=some r∧r.le res)∧∀r cs,hget H1 r=some cs→hget σ.H r=some cs
theorem Conc.leH{E:Env}{ι : Nat→Nat×Nat×Nat}{σ : St}{a:Act}{w:World}{H1:List (Nat×List AV)}(h:Conc E ι σ a w)(hH:∀r cs,hget H1 r=some cs→hget σ.H r=some cs):Conc E ι ⟨σ.T,H1⟩ a w:=
 h.le ⟨rfl,fun i=>AV.le_refl _,hH⟩
theorem Q8m{w:World}{b o:Nat}{u:Value}(h:w.cell? ⟨b,o,none⟩=some u):∃cur e z,w.heap[b]? = some (Obj.cells cur e z):=by
 unfold World.cell? at h
 split at h
 · rename_i c e z hh;exact⟨c,e,z,hh⟩
 · cases h
def X3g:Obj→Bool
 |.cells .. =>true
 |.map .. =>true
 |_=>false
theorem RVp.cmono{S S':Nat→Prop}{w w':World}(hS:∀b o,S b→w.heap[b]? = some o→X3g o=true→S' b∧w'.heap[b]? = w.heap[b]?){v:Value}{p:PV}(h:RVp S w v p):RVp S' w' v p:=by
 induction h with
 |v x h=>exact .v x h
 |sl ex sz A n c us cs h1 h2 h3 hx hl hn h4 _ ih=>
  refine .sl ex sz A n c us cs h1 h2 h3 hx hl hn (fun hne=>?_) ih
  obtain⟨b,o,hA,hb,hc⟩:=h4 hne
  obtain⟨u,rest,hu⟩:=List.exists_cons_of_ne_nil hne
  obtain⟨cur,e,z,hh0⟩:=Q8m (hc 0 u (by rw[hu];rfl))
  obtain⟨hS',hh⟩:=hS b _ hb hh0 rfl
  exact⟨b,o,hA,hS',fun j u hu=>(World.cell?_of_block (w:=w) (a:=⟨b,o+j,none⟩) hh).trans (hc j u hu)⟩
 |mp b es X clk hb hh he=>
  obtain⟨h1,h2⟩:=hS b _ hb hh rfl
  exact .mp b es X clk h1 (h2.trans hh) he
theorem RV.cmono{S S':Nat→Prop}{ι : Nat→Nat×Nat×Nat}{w w':World}(hS:∀b o,S b→w.heap[b]? = some o→X3g o=true→S' b∧w'.heap[b]? = w.heap[b]?){v:Value}{x:AV}(h:RV S ι w v x):RV S' ι w' v x:=by
 induction h with
 |any x=>exact .any x
 |c x p h=>exact .c x p (h.cmono hS)
 |agg us cs hl h1 _ ih=>exact .agg us cs hl h1 ih
 |tup us cs hl _ ih=>exact .tup us cs hl ih
 |ptr r off=>exact .ptr r off
 |row r e sz n c h1 h2 h3 h4 h0=>exact .row r e sz n c h1 h2 h3 h4 h0
 |rnil A r e sz h=>exact .rnil A r e sz h
 |cut r e sz lo n c ex h1 h2 h3 hx h4 h0=>exact .cut r e sz lo n c ex h1 h2 h3 hx h4 h0
 |cnil A r e sz lo ex h=>exact .cnil A r e sz lo ex h
 |ep b o us cs hl hne hb h4 h5=>
  obtain⟨u0,rest,hu0⟩:=List.exists_cons_of_ne_nil hne
  obtain⟨cur,e,z,hh0⟩:=Q8m (h4 0 u0 (by rw[hu0];rfl))
  obtain⟨hS',hh⟩:=hS b _ hb hh0 rfl
  exact .ep b o _ cs hl hne hS' (fun j u hu=>(World.cell?_of_block (w:=w) (a:=⟨b,o+j,none⟩) hh).trans (h4 j u hu)) (fun j u x hu hx=>(h5 j u x hu hx).cmono hS)
 |fn f us cs hl _ ih=>exact .fn f us cs hl ih
 |fnb f us cs hl _ ih=>exact .fnb f us cs hl ih
 |amp b X clk ks us cs hb hh hk hu hl _ ih=>
  obtain⟨h1,h2⟩:=hS b _ hb hh rfl
  exact .amp b X clk ks us cs h1 (h2.trans hh) hk hu hl ih
theorem Conc.turn{E:Env}{ι : Nat→Nat×Nat×Nat}{σ : St}{a:Act}{w:World}(h:Conc E ι σ a w){l:Nat}{o:Obj}(o':Obj)(hl:w.heap[l]? = some o)(hn:X3g o=false)(hE:E.w.heap.size≤l){ds:List Deferred}(hd:Marks E (Sx E ι σ.H) (w.putObj l o') ds):Conc E ι σ {a with defers:=ds} (w.putObj l o'):=by
 have hne:∀b o1,w.heap[b]? = some o1→X3g o1=true→(w.putObj l o').heap[b]? = w.heap[b]?:=fun b o1 hb h1=>World.putObj_heap_other fun e=>by
  subst e;rw[hb] at hl;cases hl;rw[hn] at h1;cases h1
 have hR:∀{v:Value} {x:AV},RV (Sx E ι σ.H) ι w v x→RV (Sx E ι σ.H) ι (w.putObj l o') v x:=fun hv=>hv.cmono fun b o1 hS hb h1=>⟨hS,hne b o1 hb h1⟩
 refine⟨hd,h.size,fun i=>hR (h.tmp i),⟨fun r cs hr=>?_,h.heap.inj⟩,⟨h.keep.os,h.keep.tape,h.keep.output,by simpa using h.keep.size,fun b hb hbD=>?_,h.keep.mine⟩⟩
 · rcases h.heap.blk r cs hr with h0|⟨cur,hh,hs,hlen,hc,hone1⟩
   · exact .inl h0
   · exact .inr ⟨cur,(hne _ _ hh rfl).trans hh,hs,hlen,fun j u x hu hx=>⟨hR (hc j u x hu hx).1,(hc j u x hu hx).2⟩,hone1⟩
 · rw[World.putObj_heap_other (by omega)];exact h.keep.block b hb hbD
theorem Conc.bare{E:Env}{ι : Nat→Nat×Nat×Nat}{σ : St}{a:Act}{w:World}(h:Conc E ι σ a w):Conc E ι σ {a with defers:=[]} w:=
 ⟨.nil,h.size,h.tmp,h.heap,h.keep⟩
theorem Q9h{P:Program}{fn:Func}{R:Ending→World→Prop}{E:Env}{ι : Nat→Nat×Nat×Nat}{σ : St}{t:Array Value}(hend:∀w',Conc E ι σ {tmps:=t,defers:=[]} w'→∃v,(results fn t).run P w' = .ok v w'∧R (.returned v) w') :
 ∀(Ds:List Nat) (w:World),Ds.Nodup→(∀D∈Ds,E.w.heap.size≤D∧w.heap[D]? = some (.deferred (some [])))→Conc E ι σ {tmps:=t,defers:=[]} w→LeavesInM Fence.wide 0 P fn t R (Ds.map fun D=>({target:=.collected D,args:=#[]}:Deferred)) .returning w
 |[],w,_,_,hc=>hend w hc
 |D::Ds,w,hnd,hD,hc=>by
  obtain⟨h1,h2⟩:=hD D (by simp)
  rw[List.nodup_cons] at hnd
  refine⟨by simp,.inl ⟨D,_,rfl,run_takeDeferred h2,Q9h hend Ds _ hnd.2 (fun D' hD'=>?_) (hc.turn _ h2 rfl h1 .nil)⟩⟩
  obtain⟨g1,g2⟩:=hD D' (by simp[hD'])
  exact⟨g1,(World.putObj_heap_other fun (e:D'=D)=>hnd.1 (by rw[←e];exact hD')).trans g2⟩
def AWE(p:Env→Prop)(P:Program)(c:Code)(σ : St)(Φ : Exit→St→Prop):Prop:=
 ∀(E:Env) (ι : Nat→Nat×Nat×Nat) (a:Act) (w:World),p E→Conc E ι σ a w→c.wp P (fun ex a' w'=>∃ι' σ',Conc E ι' σ' a' w'∧Φ ex σ') a w
def FnW(p:Env→Prop)(P:Program)(f:FuncId)(args:List AV)(H0:List (Nat×List AV))(res:AV)(H1:List (Nat×List AV)):Prop:=
 ∀(E:Env) (vs:List Value),p E→E.D=H0.map (·.1)→(∀r cs b,hget H0 r=some cs→(E.ι r).2.1≠0→E.S b→(E.ι r).1≠b)→ConcH E.S E.ι H0 E.w→vs.length=args.length→(∀(j:Nat) (v:Value) (x:AV),vs[j]? = some v→args[j]? = some x→RV E.S E.ι E.w v x) →
  Calls P f vs.toArray E.w fun e w'=>∃v ι',e = .returned v∧RV (Sx E ι' H1) ι' w' v res∧ConcH (Sx E ι' H1) ι' H1 w'∧Keep E ι' H1 w'
theorem fnW_of{p:Env→Prop}{P:Program}{f:FuncId}{fn:Func}{c:Code}{args:List AV}{H0 H1:List (Nat×List AV)}{res:AV}(hf:P.funcs[f]? = some fn)(hb:fn.body=some c)(hD:H0.all (fun x=>decide (1000≤x.1))=true)
 (h:AWE p P c ⟨args++List.replicate (fn.ntmps-args.length) AV.any,H0⟩ (FnEnd P fn.results.toList res H1)):FnW p P f args H0 res H1:=by
 intro E vs hpE hED hS hH hlen hargs
 refine(callsIn_wide (n:=0)).1 (callsIn_of_wp_marks hf hb trivial (wpIn_wide.2 ?_))
 have hc0:Conc E E.ι ⟨args++List.replicate (fn.ntmps-args.length) AV.any,H0⟩ {tmps:=vs.toArray++Array.replicate (fn.ntmps-vs.toArray.size) undef,defers:=[]} E.w:=by
  have hSx:∀b,E.S b→b<E.w.heap.size→Sx E E.ι H0 b∧E.w.heap[b]? = E.w.heap[b]?:=fun b hb _=>⟨⟨.inl hb,fun r cs hr hz=>hS r cs b hr hz hb⟩,rfl⟩
  have hR:∀{v:Value} {x:AV},RV E.S E.ι E.w v x→RV (Sx E E.ι H0) E.ι E.w v x:=fun hv=>hv.mono hSx fun _ _=>rfl
  refine⟨.nil,by simp[hlen],fun i=>?_,⟨fun r cs hr=>?_,hH.inj⟩,⟨rfl,rfl,rfl,Nat.le_refl _,fun _ _ _=>rfl,fun r cs hr=>⟨fun _=>rfl,fun hn=>?_⟩⟩⟩
  · show RV (Sx E E.ι H0) E.ι E.w ((vs.toArray++Array.replicate (fn.ntmps-vs.toArray.size) undef).getD i undef) ((args++List.replicate (fn.ntmps-args.length) AV.any).getD i .any)
    by_cases hi:i<args.length
    · have e1:(vs.toArray++Array.replicate (fn.ntmps-vs.toArray.size) undef).getD i undef=vs[i]'(by omega):=by
       rw[Array.getD_eq_getD_getElem?,Array.getElem?_append_left (by simp;omega)]
       simp[show i<vs.length by omega]
      have e2:(args++List.replicate (fn.ntmps-args.length) AV.any).getD i .any=args[i]:=by
       rw[List.getD_eq_getElem?_getD,List.getElem?_append_left hi];simp[hi]
      rw[e1,e2]
      exact hR (hargs i _ _ (List.getElem?_eq_getElem (by omega)) (List.getElem?_eq_getElem hi))
    · have e2:(args++List.replicate (fn.ntmps-args.length) AV.any).getD i .any = .any:=by
       rw[List.getD_eq_getElem?_getD,List.getElem?_append_right (by omega),List.getElem?_replicate]
       split<;>rfl
      rw[e2];exact .any _
  · rcases hH.blk r cs hr with h0|⟨cur,hh,hs,hl,hc,hone1⟩
    · exact .inl h0
    · exact .inr ⟨cur,hh,hs,hl,fun j u x hu hx=>⟨hR (hc j u x hu hx).1,(hc j u x hu hx).2⟩,hone1⟩
  · exfalso
    apply hn
    rw[hED]
    have:∀(H:List (Nat×List AV)) (r:Nat) (cs:List AV),hget H r=some cs→r∈H.map (·.1):=by
     intro H
     induction H with
     |nil=>intro r cs h;cases h
     |cons x H ih=>
      obtain⟨k,ds⟩:=x
      intro r cs h
      unfold hget at h
      split at h
      · rename_i e;simp[e]
      · simp[ih r cs h]
    exact this H0 r cs hr
 refine wp_mono (h E E.ι _ E.w hpE hc0) fun ex a' w'=>?_
 rintro ⟨ι',σ',hc',hex,⟨r,hres,hler⟩,hH1⟩
 have key:LeavesInM Fence.wide 0 P fn a'.tmps (fun e w'=>∃v ι',e=Ending.returned v∧RV (Sx E ι' H1) ι' w' v res∧ConcH (Sx E ι' H1) ι' H1 w'∧Keep E ι' H1 w') a'.defers .returning w':=by
  obtain⟨Ds,hnd,hds,hDs⟩:=hc'.defers
  rw[hds]
  refine Q9h (E:=E) (ι:=ι') (σ:=σ') (fun w' hc'=>?_) Ds w' hnd (fun D hD=>⟨(hDs D hD).1,(hDs D hD).2.2⟩) hc'.bare
  rw[Option.map_eq_some_iff] at hres
  obtain⟨ys,hys,rfl⟩:=hres
  obtain⟨us,hrun,hul,hrv⟩:=X2v hc' fn.results.toList ys hys
  have hle:=hc'.leH hH1
  have hSx:∀b,Sx E ι' σ'.H b→b<w'.heap.size→Sx E ι' H1 b∧w'.heap[b]? = w'.heap[b]?:=fun b ⟨h1,h2⟩ _=>⟨⟨h1,fun r cs hr=>h2 r cs (hH1 r cs hr)⟩,rfl⟩
  have hR:∀{v:Value} {x:AV},RV (Sx E ι' σ'.H) ι' w' v x→RV (Sx E ι' H1) ι' w' v x:=fun hv=>hv.mono hSx fun _ _=>rfl
  have hres':(results fn a'.tmps).run P w' = .ok (if h:us.toArray.size=1 then us.toArray[0] else .tuple us.toArray) w':=by
   have e0:results fn a'.tmps=(fn.results.mapM (X7i {tmps:=a'.tmps,defers:=[]}) >>= fun vs=>pure (if h:vs.size=1 then vs[0] else .tuple vs)):=by
    unfold results
    congr 2
   have e:fn.results=fn.results.toList.toArray:=by simp
   rw[e0,Sem.run_bind,e,List.mapM_toArray,Sem.run_map,hrun]
   simp only[Result.andThen_ok,Sem.run_pure]
  refine⟨_,hres',_,ι',rfl,hler _ _ _ _ ?_,hle.heap,hle.keep⟩
  rcases ys with _|⟨y1,_|⟨y2,ys⟩⟩
  · obtain rfl:=List.eq_nil_of_length_eq_zero hul
    exact .tup [] [] rfl fun j u x hu=>by cases hu
  · rcases us with _|⟨u1,_|⟨u2,us⟩⟩
    · simp at hul
    · simpa [Q0o] using hR (hrv 0 u1 y1 rfl rfl)
    · simp at hul
  · rcases us with _|⟨u1,_|⟨u2,us⟩⟩
    · simp at hul
    · simp at hul
    · have:¬(u1::u2::us).toArray.size=1:=by simp
      rw[dif_neg this]
      exact .tup _ _ hul fun j u x hu hx=>hR (hrv j u x hu hx)
 rcases hex with rfl|rfl
 · exact key
 · exact key
theorem Q0n{P:Program}{f:FuncId}{fn:Func}{c:Code}{args:List AV}{H0 H1:List (Nat×List AV)}{res:AV}(hf:P.funcs[f]? = some fn)(hb:fn.body=some c)(hD:H0.all (fun x=>decide (1000≤x.1))=true)
 (h:evC P c ⟨args++List.replicate (fn.ntmps-args.length) AV.any,H0⟩ (FnEnd P fn.results.toList res H1)):Fn P f args H0 res H1:=
 fun E vs=>fnW_of (p:=fun _=>True) hf hb hD (fun E ι a w _ hc=>Q3e c _ _ h E ι a w hc) E vs trivial
end
section
open Go.RowKit
def Q0t(H:List (Nat×List AV)):List (Nat×List AV)→List (Nat×List AV)
 |[]=>H
 |(k,cs)::l=>hput (Q0t H l) k cs
def Q1w(H:List (Nat×List AV)):List (Nat×List AV)→List (Nat×List AV)
 |[]=>H
 |(k,_)::l=>hdel (Q1w H l) k
def renH(ρ : Nat→Nat):List (Nat×List AV)→List (Nat×List AV)
 |[]=>[]
 |(k,cs)::l=>(ρ k,AV.renL ρ cs)::renH ρ l
theorem Q1g(k:Nat)(cs:List AV)(l:List (Nat×List AV))(q:Nat):hget ((k,cs)::l) q=if k=q then some cs else hget l q:=rfl
theorem Q2f(H:List (Nat×List AV)):∀(l:List (Nat×List AV)) (q:Nat),hget (Q0t H l) q=match hget l q with|some cs=>some cs|none=>hget H q
 |[],q=>rfl
 |(k,cs)::l,q=>by
  show hget (hput (Q0t H l) k cs) q=_
  rw[Q2k,Q2f H l q,Q1g]
  by_cases h:k=q
  · subst h;simp
  · rw[if_neg (by omega),if_neg h]
theorem X5f(H:List (Nat×List AV)):∀(l:List (Nat×List AV)) (q:Nat),hget (Q1w H l) q=match hget l q with|some _=>none|none=>hget H q
 |[],q=>rfl
 |(k,cs)::l,q=>by
  show hget (hdel (Q1w H l) k) q=_
  rw[X7u,X5f H l q,Q1g]
  by_cases h:k=q
  · subst h;simp
  · rw[if_neg (by omega),if_neg h]
theorem Q2t:∀{H:List (Nat×List AV)} {r:Nat} {cs:List AV},hget H r=some cs→r∈H.map (·.1)
 |(k,ds)::H,r,cs,h=>by
  unfold hget at h
  split at h
  · rename_i e;simp[e]
  · simp[Q2t h]
theorem Q1d:∀{H:List (Nat×List AV)} {r:Nat},r∈H.map (·.1)→∃cs,hget H r=some cs
 |(k,ds)::H,r,h=>by
  unfold hget
  split
  · exact⟨ds,rfl⟩
  · rename_i e
    simp only[List.map_cons,List.mem_cons] at h
    rcases h with h|h
    · exact absurd h.symm e
    · exact Q1d h
theorem Q8f{ρ : Nat→Nat}{N:List Nat}(hinj:∀r∈N,∀q∈N,ρ r = ρ q→r=q):∀{H:List (Nat×List AV)},(∀r∈H.map (·.1),r∈N)→∀r∈N,hget (renH ρ H) (ρ r)=(hget H r).map (AV.renL ρ)
 |[],_,r,_=>rfl
 |(k,cs)::H,hN,r,hr=>by
  have hk:=hN k (by simp)
  have ih:=Q8f hinj (H:=H) (fun q hq=>hN q (by simp only[List.map_cons,List.mem_cons];exact .inr hq)) r hr
  unfold renH hget
  by_cases h:k=r
  · subst h;simp
  · rw[if_neg (fun e=>h (hinj k hk r hr e)),if_neg h,ih]
theorem Q9i{ρ : Nat→Nat}:∀{H:List (Nat×List AV)} {q:Nat} {ds:List AV},hget (renH ρ H) q=some ds→∃r∈H.map (·.1),q = ρ r
 |(k,cs)::H,q,ds,h=>by
  unfold renH hget at h
  split at h
  · rename_i e;exact⟨k,by simp,e.symm⟩
  · obtain⟨r,hr,e⟩:=Q9i h
    exact⟨r,by simp only[List.map_cons,List.mem_cons];exact .inr hr,e⟩
def Q1y(ρ : Nat→Nat)(x y:AV):Prop:=x = .any∨y=AV.ren ρ x
def Q1e(ρ : Nat→Nat):List AV→List AV→Prop
 |[],[]=>True
 |x::xs,y::ys=>Q1y ρ x y∧Q1e ρ xs ys
 |_,_=>False
theorem Q7c{ρ : Nat→Nat}:∀{xs ys:List AV},Q1e ρ xs ys→xs.length=ys.length∧∀(j:Nat) (x y:AV),xs[j]? = some x→ys[j]? = some y→Q1y ρ x y
 |[],[],_=>⟨rfl,fun j x y hx=>by cases hx⟩
 |x::xs,y::ys,h=>by
  obtain⟨h1,h2⟩:=h
  obtain⟨h3,h4⟩:=Q7c h2
  refine⟨by simp[h3],fun j a b ha hb=>?_⟩
  cases j with
  |zero=>simp at ha hb;subst ha hb;exact h1
  |succ j=>exact h4 j a b (by simpa using ha) (by simpa using hb)
def Q1v(σ : St)(ρ : Nat→Nat)(H0:List (Nat×List AV)):List (Nat×List AV)→Prop
 |[]=>True
 |(k,_)::l=>((H0.map (·.1)).contains k=true∨(σ.free (ρ k)=true∧ρ k<1000))∧Q1v σ ρ H0 l
theorem X4z{σ : St}{ρ : Nat→Nat}{H0:List (Nat×List AV)}:∀{l:List (Nat×List AV)},Q1v σ ρ H0 l→∀r∈l.map (·.1),r∈H0.map (·.1)∨(σ.free (ρ r)=true∧ρ r<1000)
 |(k,cs)::l,h,r,hr=>by
  simp only[List.map_cons,List.mem_cons] at hr
  rcases hr with rfl|hr
  · rcases h.1 with h|h
    · exact .inl (by simpa using h)
    · exact .inr h
  · exact X4z h.2 r hr
def inH(N:List Nat):List (Nat×List AV)→Bool
 |[]=>true
 |(_,cs)::l=>AV.inNL N cs&&inH N l
theorem X6s{N:List Nat}:∀{H:List (Nat×List AV)},inH N H=true→∀r cs,hget H r=some cs→AV.inNL N cs=true
 |(k,ds)::H,h,r,cs,hr=>by
  unfold inH at h
  rw[Bool.and_eq_true] at h
  unfold hget at hr
  split at hr
  · cases hr;exact h.1
  · exact X6s h.2 r cs hr
theorem Conc.enter{E:Env}{ι : Nat→Nat×Nat×Nat}{σ : St}{a:Act}{w:World}(hc:Conc E ι σ a w){H0:List (Nat×List AV)}(ρ : Nat→Nat)(hH0':∀r cs,hget H0 r=some cs→hget σ.H (ρ r)=some (AV.renL ρ cs))
 (hinj:∀r∈H0.map (·.1),∀q∈H0.map (·.1),ρ r = ρ q→r=q):ConcH (Sx E ι σ.H) (fun r=>ι (ρ r)) H0 w:=by
 refine⟨fun r cs hr=>?_,fun r q cs ds hr hq hne hz1 hz2=>hc.heap.inj (ρ r) (ρ q) _ _ (hH0' r cs hr) (hH0' q ds hq) (fun e=>hne (hinj r (Q2t hr) q (Q2t hq) e)) hz1 hz2⟩
 rcases hc.heap.blk (ρ r) _ (hH0' r cs hr) with⟨h0,he⟩|⟨cur,hh,hs,hl,hcur,hone1⟩
 · refine .inl ⟨h0,?_⟩
   have:=congrArg List.length he
   rw[Q1i] at this
   exact List.eq_nil_of_length_eq_zero this
 · rw[Q1i] at hl
   exact .inr ⟨cur,hh,hs,hl,fun j u x hu hx=>⟨(hcur j u (AV.ren ρ x) hu (by rw[Q2c,hx];rfl)).1.unren x rfl,(hcur j u (AV.ren ρ x) hu (by rw[Q2c,hx];rfl)).2⟩,hone1⟩
theorem Conc.back{E:Env}{ι : Nat→Nat×Nat×Nat}{σ : St}{a:Act}{w:World}(hc:Conc E ι σ a w){H0 H1:List (Nat×List AV)}{res:AV}(ρ : Nat→Nat)(hD0':∀r∈H0.map (·.1),1000≤r)(hH0':∀r cs,hget H0 r=some cs→hget σ.H (ρ r)=some (AV.renL ρ cs))
 (hinj:∀r∈H0.map (·.1)++H1.map (·.1),∀q∈H0.map (·.1)++H1.map (·.1),ρ r = ρ q→r=q) (hnew:Q1v σ ρ H0 H1) (hin:AV.inN (H1.map (·.1)) res=true) (hinH:inH (H1.map (·.1)) H1=true)
 {E':Env} {hG0':GlobOK w (Sx E ι σ.H) (fun r=>ι (ρ r)) (H0.map (·.1))} (hE':E'={w:=w,S:=Sx E ι σ.H,ι:=fun r=>ι (ρ r),D:=H0.map (·.1),hD:=hD0',hG:=hG0'}) {v:Value} {ι':Nat→Nat×Nat×Nat} {w':World} (hres:RV (Sx E' ι' H1) ι' w' v res) (hcH:ConcH (Sx E' ι' H1) ι' H1 w') (hk:Keep E' ι' H1 w') :
 ∃ι2,Conc E ι2 ⟨σ.T,Q0t (Q1w σ.H (renH ρ H0)) (renH ρ H1)⟩ a w'∧RV (Sx E ι2 (Q0t (Q1w σ.H (renH ρ H0)) (renH ρ H1))) ι2 w' v (AV.ren ρ res):=by
 obtain⟨N,hN⟩:∃N,N=H0.map (·.1)++H1.map (·.1):=⟨_,rfl⟩
 rw[←hN] at hinj
 have hN0:∀r∈H0.map (·.1),r∈N:=fun r hr=>by rw[hN];exact List.mem_append_left _ hr
 have hN1:∀r∈H1.map (·.1),r∈N:=fun r hr=>by rw[hN];exact List.mem_append_right _ hr
 have hwE:E'.w=w:=by rw[hE']
 obtain⟨ι2,hι2⟩:∃ι2:Nat→Nat×Nat×Nat,ι2=fun q=>match (H1.map (·.1)).find? (fun r=>ρ r==q) with|some r=>ι' r|none=>ι q:=⟨_,rfl⟩
 have hι1:∀r∈H1.map (·.1),ι2 (ρ r) = ι' r:=fun r hr=>by
  rw[hι2]
  simp only
  cases hfd:(H1.map (·.1)).find? (fun r'=>ρ r' == ρ r) with
  |none=>
   have:=List.find?_eq_none.1 hfd r hr
   simp at this
  |some r'=>
   have h1:=List.find?_some hfd
   have h2:=List.mem_of_find?_eq_some hfd
   have:r'=r:=hinj r' (hN1 r' h2) r (hN1 r hr) (by simpa using h1)
   rw[this]
 have hιn:∀q,(∀r∈H1.map (·.1),ρ r≠q)→ι2 q = ι q:=fun q hq=>by
  rw[hι2]
  simp only
  cases hfd:(H1.map (·.1)).find? (fun r'=>ρ r'==q) with
  |none=>rfl
  |some r'=>exact absurd (by simpa using List.find?_some hfd) (hq r' (List.mem_of_find?_eq_some hfd))
 have hmine:=hk.mine
 have hD':E'.D=H0.map (·.1):=by rw[hE']
 have hEι : ∀r,E'.ι r = ι (ρ r):=fun r=>by rw[hE']
 obtain⟨H2,hH2⟩:∃H2,H2=Q0t (Q1w σ.H (renH ρ H0)) (renH ρ H1):=⟨_,rfl⟩
 rw[←hH2]
 have hget2:∀q ds,hget H2 q=some ds→(∃r∈H1.map (·.1),q = ρ r∧∃cs,hget H1 r=some cs∧ds=AV.renL ρ cs)∨((∀r∈N,ρ r≠q)∧hget σ.H q=some ds):=fun q ds hq=>by
  rw[hH2,Q2f] at hq
  cases h1:hget (renH ρ H1) q with
  |some es=>
   rw[h1] at hq
   cases hq
   obtain⟨r,hr,rfl⟩:=Q9i h1
   rw[Q8f hinj hN1 r (hN1 r hr),Option.map_eq_some_iff] at h1
   obtain⟨cs,hcs,rfl⟩:=h1
   exact .inl ⟨r,hr,rfl,cs,hcs,rfl⟩
  |none=>
   rw[h1] at hq
   simp only at hq
   rw[X5f] at hq
   cases h0:hget (renH ρ H0) q with
   |some es=>rw[h0] at hq;cases hq
   |none=>
    rw[h0] at hq
    refine .inr ⟨fun r hr e=>?_,hq⟩
    subst e
    rw[hN] at hr
    rcases List.mem_append.1 hr with hr|hr
    · rw[Q8f hinj hN0 r (hN0 r hr),Option.map_eq_none_iff] at h0
      obtain⟨cs,hcs⟩:=Q1d hr
      rw[h0] at hcs;cases hcs
    · rw[Q8f hinj hN1 r (hN1 r hr),Option.map_eq_none_iff] at h1
      obtain⟨cs,hcs⟩:=Q1d hr
      rw[h1] at hcs;cases hcs
 have hSz:w.heap.size≤w'.heap.size:=by have:=hk.size;rwa [hwE] at this
 have hblk0:∀b,b<w.heap.size→(∀r∈H0.map (·.1),(ι (ρ r)).2.1≠0→(ι (ρ r)).1≠b)→w'.heap[b]? = w.heap[b]?:=fun b hb hne=>by
  have:=hk.block b (by rw[hwE];exact hb) fun r hr=>by rw[hD'] at hr;rw[hEι];exact hne r hr
  rwa [hwE] at this
 have hMine:∀b,Mine E' b→w.heap.size≤b∨∃q∈H0.map (·.1),(ι (ρ q)).2.1≠0∧(ι (ρ q)).1=b:=fun b hb=>by
  rcases hb with hb|⟨q,hq,hz,hb⟩
  · rw[hwE] at hb;exact .inl hb
  · rw[hD'] at hq;rw[hEι] at hz hb;exact .inr ⟨q,hq,hz,hb⟩
 have hMineE:∀b,Mine E' b→Mine E b:=fun b hb=>by
  rcases hMine b hb with hb|⟨q,hq,hz,hb⟩
  · have:=hc.keep.size;exact .inl (by omega)
  · obtain⟨cs0,hcs0⟩:=Q1d hq
    obtain⟨m1,m2⟩:=hc.keep.mine (ρ q) _ (hH0' q cs0 hcs0)
    by_cases hm:ρ q∈E.D
    · rw[m1 hm] at hz hb;exact .inr ⟨ρ q,hm,hz,hb⟩
    · rw[←hb];exact m2 hm hz
 have hnewge:∀r∈H1.map (·.1),r∉H0.map (·.1)→(ι' r).2.1≠0→Mine E' (ι' r).1:=fun r hr hn hz=>by
  obtain⟨cs,hcs⟩:=Q1d hr
  exact(hmine r cs hcs).2 (by rw[hD'];exact hn) hz
 have hold:∀r∈H1.map (·.1),r∈H0.map (·.1)→ι' r = ι (ρ r):=fun r hr hn=>by
  obtain⟨cs,hcs⟩:=Q1d hr
  rw[(hmine r cs hcs).1 (by rw[hD'];exact hn),hEι]
 have hfresh:∀r∈H1.map (·.1),r∉H0.map (·.1)→σ.free (ρ r)=true∧ρ r<1000:=fun r hr hn=>(X4z hnew r hr).resolve_left hn
 have hSc:∀b,Sx E' ι' H1 b→Sx E ι2 H2 b:=fun b ⟨h1,h2⟩=>by
  refine⟨?_,fun q ds hq hz=>?_⟩
  · rcases h1 with h1|h1
    · rw[hE'] at h1;exact h1.1
    · exact .inr (hMineE b h1)
  · rcases hget2 q ds hq with⟨r,hr,rfl,cs,hcs,rfl⟩|⟨hne,hq'⟩
    · rw[hι1 r hr] at hz ⊢;exact h2 r cs hcs hz
    · rw[hιn q (fun r hr=>hne r (hN1 r hr))] at hz ⊢
      rcases h1 with h1|h1
      · rw[hE'] at h1;exact h1.2 q ds hq' hz
      · rcases hMine b h1 with h1|⟨q0,hq0,hz0,h1⟩
        · have:=(hc.heap.blk q ds hq').lt hz;omega
        · obtain⟨cs0,hcs0⟩:=Q1d hq0
          rw[←h1];exact hc.heap.inj q (ρ q0) _ _ hq' (hH0' q0 cs0 hcs0) (fun e=>hne q0 (hN0 q0 hq0) e.symm) hz hz0
 have hSo:∀b,Sx E ι σ.H b→b<w.heap.size→Sx E ι2 H2 b∧w'.heap[b]? = w.heap[b]?:=fun b hb hlt=>by
  refine⟨⟨hb.1,fun q ds hq hz=>?_⟩,hblk0 b hlt fun r hr hz=>?_⟩
  · rcases hget2 q ds hq with⟨r,hr,rfl,cs,hcs,rfl⟩|⟨hne,hq'⟩
    · rw[hι1 r hr] at hz ⊢
      by_cases hr0:r∈H0.map (·.1)
      · rw[hold r hr hr0] at hz ⊢
        obtain⟨cs0,hcs0⟩:=Q1d hr0
        exact hb.2 (ρ r) _ (hH0' r cs0 hcs0) hz
      · rcases hMine _ (hnewge r hr hr0 hz) with h1|⟨q0,hq0,hz0,h1⟩
        · omega
        · obtain⟨cs0,hcs0⟩:=Q1d hq0
          rw[←h1];exact hb.2 (ρ q0) _ (hH0' q0 cs0 hcs0) hz0
    · rw[hιn q (fun r hr=>hne r (hN1 r hr))] at hz ⊢
      exact hb.2 q ds hq' hz
  · obtain⟨cs0,hcs0⟩:=Q1d hr
    exact hb.2 (ρ r) _ (hH0' r cs0 hcs0) hz
 have hRc:∀{v:Value} {x:AV},RV (Sx E' ι' H1) ι' w' v x→AV.inN (H1.map (·.1)) x=true→RV (Sx E ι2 H2) ι2 w' v (AV.ren ρ x):=fun hv hx=>
  (hv.mono (S':=Sx E ι2 H2) (fun b hb _=>⟨hSc b hb,rfl⟩) fun _ _=>rfl).reren hι1 hx
 have hRo:∀{v:Value} {y:AV},RV (Sx E ι σ.H) ι w v y→(∀r∈H1.map (·.1),r∉H0.map (·.1)→AV.refs (ρ r) y=false)→RV (Sx E ι2 H2) ι2 w' v y:=fun hv hx=>
  hv.mono hSo fun q hq=>by
   by_cases hm:∃r∈H1.map (·.1),ρ r=q
   · obtain⟨r,hr,rfl⟩:=hm
     by_cases hr0:r∈H0.map (·.1)
     · rw[hι1 r hr,hold r hr hr0]
     · rw[hx r hr hr0] at hq;cases hq
   · exact hιn q fun r hr e=>hm ⟨r,hr,e⟩
 suffices hcn:Conc E ι2 ⟨σ.T,H2⟩ a w' from⟨ι2,hcn,hRc hres hin⟩
 refine⟨hc.defers.mono hSo,hc.size,fun i=>?_,⟨fun q ds hq=>?_,fun q q' ds es hq hq' hne hz1 hz2=>?_⟩,⟨?_,?_,?_,?_,fun b hb hbD=>?_,fun q ds hq=>?_⟩⟩
 · refine hRo (hc.tmp i) fun r hr hr0=>?_
   have hfr:=(hfresh r hr hr0).1
   unfold St.free at hfr
   simp only[Bool.and_eq_true,Bool.not_eq_true'] at hfr
   rw[List.getD_eq_getElem?_getD]
   cases hi:σ.T[i]? with
   |none=>rfl
   |some x=>exact Q3b hfr.1 i x hi
 · rcases hget2 q ds hq with⟨r,hr,rfl,cs,hcs,rfl⟩|⟨hne,hq'⟩
   · rcases hcH.blk r cs hcs with⟨h0,rfl⟩|⟨cur,hh,hs,hl,hcur,hone1⟩
     · exact .inl ⟨by rw[hι1 r hr];exact h0,rfl⟩
     · refine .inr ⟨cur,by rw[hι1 r hr];exact hh,by rw[hι1 r hr];exact hs,by rw[Q1i];exact hl,fun j u y hu hy=>?_,hone1⟩
       rw[Q2c,Option.map_eq_some_iff] at hy
       obtain⟨x,hx,rfl⟩:=hy
       exact⟨hRc (hcur j u x hu hx).1 (Q4k (X6s hinH r cs hcs) j x hx),(hcur j u x hu hx).2⟩
   · have eq:=hιn q fun r hr=>hne r (hN1 r hr)
     rcases hc.heap.blk q ds hq' with⟨h0,he⟩|⟨cur,hh,hs,hl,hcur,hone1⟩
     · exact .inl ⟨by rw[eq];exact h0,he⟩
     · by_cases hz:(ι q).2.1=0
       · exact .inl ⟨by rw[eq];exact hz,List.eq_nil_of_length_eq_zero (by omega)⟩
       · have hlt:=(hc.heap.blk q ds hq').lt hz
         have hsame:=hblk0 (ι q).1 hlt fun r hr hz'=>by
          obtain⟨cs0,hcs0⟩:=Q1d hr
          exact hc.heap.inj (ρ r) q _ _ (hH0' r cs0 hcs0) hq' (hne r (hN0 r hr)) hz' hz
         refine .inr ⟨cur,by rw[eq,hsame];exact hh,by rw[eq];exact hs,hl,fun j u y hu hy=>⟨hRo (hcur j u y hu hy).1 fun r hr hr0=>?_,(hcur j u y hu hy).2⟩,hone1⟩
         have hfr:=(hfresh r hr hr0).1
         unfold St.free at hfr
         simp only[Bool.and_eq_true,Bool.not_eq_true'] at hfr
         exact Q3b (Q8g hfr.2 q ds hq').2 j y hy
 · rcases hget2 q ds hq with⟨r,hr,rfl,cs,hcs,rfl⟩|⟨hn1,hq1⟩
   · rcases hget2 q' es hq' with⟨r',hr',rfl,cs',hcs',rfl⟩|⟨hn2,hq2⟩
     · rw[hι1 r hr] at hz1 ⊢
       rw[hι1 r' hr'] at hz2 ⊢
       exact hcH.inj r r' cs cs' hcs hcs' (fun e=>hne (by rw[e])) hz1 hz2
     · have eq2:=hιn q' fun r hr=>hn2 r (hN1 r hr)
       rw[hι1 r hr] at hz1 ⊢
       rw[eq2] at hz2 ⊢
       by_cases hr0:r∈H0.map (·.1)
       · rw[hold r hr hr0] at hz1 ⊢
         obtain⟨cs0,hcs0⟩:=Q1d hr0
         exact hc.heap.inj (ρ r) q' _ _ (hH0' r cs0 hcs0) hq2 (hn2 r (hN0 r hr0)) hz1 hz2
       · rcases hMine _ (hnewge r hr hr0 hz1) with h1|⟨q0,hq0,hz0,h1⟩
         · have:=(hc.heap.blk q' es hq2).lt hz2
           omega
         · obtain⟨cs0,hcs0⟩:=Q1d hq0
           rw[←h1];exact hc.heap.inj (ρ q0) q' _ _ (hH0' q0 cs0 hcs0) hq2 (hn2 q0 (hN0 q0 hq0)) hz0 hz2
   · have eq1:=hιn q fun r hr=>hn1 r (hN1 r hr)
     rw[eq1] at hz1 ⊢
     rcases hget2 q' es hq' with⟨r',hr',rfl,cs',hcs',rfl⟩|⟨hn2,hq2⟩
     · rw[hι1 r' hr'] at hz2 ⊢
       by_cases hr0:r'∈H0.map (·.1)
       · rw[hold r' hr' hr0] at hz2 ⊢
         obtain⟨cs0,hcs0⟩:=Q1d hr0
         exact hc.heap.inj q (ρ r') _ _ hq1 (hH0' r' cs0 hcs0) (fun e=>hn1 r' (hN0 r' hr0) e.symm) hz1 hz2
       · rcases hMine _ (hnewge r' hr' hr0 hz2) with h1|⟨q0,hq0,hz0,h1⟩
         · have:=(hc.heap.blk q ds hq1).lt hz1
           omega
         · obtain⟨cs0,hcs0⟩:=Q1d hq0
           rw[←h1];exact hc.heap.inj q (ρ q0) _ _ hq1 (hH0' q0 cs0 hcs0) (fun e=>hn1 q0 (hN0 q0 hq0) e.symm) hz1 hz0
     · have eq2:=hιn q' fun r hr=>hn2 r (hN1 r hr)
       rw[eq2] at hz2 ⊢
       exact hc.heap.inj q q' ds es hq1 hq2 hne hz1 hz2
 · have:=hk.os;rw[hwE] at this;exact this.trans hc.keep.os
 · have:=hk.tape;rw[hwE] at this;exact this.trans hc.keep.tape
 · have:=hk.output;rw[hwE] at this;exact this.trans hc.keep.output
 · have:=hc.keep.size;omega
 · have hs:=hc.keep.size
   rw[hblk0 b (by omega) fun r hr hz=>?_]
   · exact hc.keep.block b hb hbD
   · obtain⟨cs0,hcs0⟩:=Q1d hr
     obtain⟨m1,m2⟩:=hc.keep.mine (ρ r) _ (hH0' r cs0 hcs0)
     by_cases hm:ρ r∈E.D
     · rw[m1 hm] at hz ⊢;exact hbD (ρ r) hm hz
     · rcases m2 hm hz with h1|⟨q0,hq0,hz0,h1⟩
       · omega
       · intro e;exact hbD q0 hq0 hz0 (h1.trans e)
 · rcases hget2 q ds hq with⟨r,hr,rfl,cs,hcs,rfl⟩|⟨hne,hq'⟩
   · rw[hι1 r hr]
     by_cases hr0:r∈H0.map (·.1)
     · rw[hold r hr hr0]
       obtain⟨cs0,hcs0⟩:=Q1d hr0
       exact hc.keep.mine (ρ r) _ (hH0' r cs0 hcs0)
     · refine⟨fun hm=>?_,fun _ hz=>?_⟩
       · have:=E.hD _ hm
         have:=(hfresh r hr hr0).2
         omega
       · exact hMineE _ (hnewge r hr hr0 hz)
   · rw[hιn q fun r hr=>hne r (hN1 r hr)]
     exact hc.keep.mine q ds hq'
theorem X3c{P:Program}{o:Oper}{σ : St}{K:St→Prop}{f:FuncId}{fn:Func}{cargs:List AV}{H0 H1:List (Nat×List AV)}{res:AV}(hF:Fn P f cargs H0 res H1)(ρ : Nat→Nat)
 {fo:Operand} {cas:Array Operand} {ts:Array TypeId} {caps:List AV} (ho:o.op = .call {callee:=.value fo,args:=cas,argTypes:=ts}) (hfo:Q0k fo=true) (has:cas.toList.all Q0k=true) (hf:σ.ev fo = .fn f caps)
 (hfn:P.funcs[f]? = some fn) (hname:(fn.name == "runtime.NumGoroutine")=false) (hbody:fn.body.isNone=false)
 (hD0:H0.all (fun x=>decide (1000≤x.1))=true) (hargs:Q1e ρ cargs (cas.toList.map σ.ev++caps)) (hH0:∀r∈H0.map (·.1),hget σ.H (ρ r)=(hget H0 r).map (AV.renL ρ)) (hinj:∀r∈H0.map (·.1)++H1.map (·.1),∀q∈H0.map (·.1)++H1.map (·.1),ρ r = ρ q→r=q)
 (hnew:Q1v σ ρ H0 H1) (hin:AV.inN (H1.map (·.1)) res=true) (hinH:inH (H1.map (·.1)) H1=true)
 (hK:K ((St.mk σ.T (Q0t (Q1w σ.H (renH ρ H0)) (renH ρ H1))).put o.dst (AV.ren ρ res))):OpA P o σ K:=by
 intro E ι a w hc K' Q hK'
 have hfv:=hc.ev fo hfo
 rw[hf] at hfv
 generalize hfe:a.eval fo=fv at hfv
 cases hfv with
 |fn _ us _ hul hus=>
  have hSx:∀b,Sx E ι σ.H b→b<w.heap.size→Sx E ι σ.H b∧w.heap[b]? = w.heap[b]?:=fun b hb _=>⟨hb,rfl⟩
  have hD0':∀r∈H0.map (·.1),1000≤r:=fun r hr=>by
   obtain⟨x,hx,rfl⟩:=List.mem_map.1 hr
   have:=List.all_eq_true.1 hD0 x hx
   simpa using this
  have hvs:∀(j:Nat) (v:Value) (y:AV),(cas.toList.map a.eval++us)[j]? = some v→(cas.toList.map σ.ev++caps)[j]? = some y→RV (Sx E ι σ.H) ι w v y:=fun j v y hv hy=>by
   rw[List.getElem?_append] at hv hy
   simp only[List.length_map] at hv hy
   split at hv
   · rename_i hj
     rw[if_pos hj] at hy
     rw[List.getElem?_map,Option.map_eq_some_iff] at hv hy
     obtain⟨x1,hx1,rfl⟩:=hv
     obtain⟨x2,hx2,rfl⟩:=hy
     rw[hx1] at hx2;cases hx2
     exact hc.ev x1 (List.all_eq_true.1 has x1 (List.mem_of_getElem? hx1))
   · rename_i hj
     rw[if_neg hj] at hy
     exact hus _ v y hv hy
  obtain⟨hal,hag⟩:=Q7c hargs
  have hlen:(cas.toList.map a.eval++us).length=cargs.length:=by rw[hal];simp[hul]
  have hH0':∀r cs,hget H0 r=some cs→hget σ.H (ρ r)=some (AV.renL ρ cs):=fun r cs hr=>by rw[hH0 r (Q2t hr),hr];rfl
  obtain⟨E',hE'⟩:∃E':Env,E'={w:=w,S:=Sx E ι σ.H,ι:=fun r=>ι (ρ r),D:=H0.map (·.1),hD:=hD0',hG:=hc.glob hH0'}:=⟨_,rfl⟩
  have hconcH:ConcH E'.S E'.ι H0 E'.w:=by
   subst hE'
   exact hc.enter ρ hH0' fun r hr q hq=>hinj r (List.mem_append_left _ hr) q (List.mem_append_left _ hq)
  have hcall:=hF E' (cas.toList.map a.eval++us) (by rw[hE']) (fun r cs b hr hz hS=>by
   subst hE'
   exact hS.2 (ρ r) _ (hH0' r cs hr) hz) hconcH hlen (fun j v x hv hx=>by
   subst hE'
   have hlt:=(List.getElem?_eq_some_iff.1 hv).1
   have hy:(cas.toList.map σ.ev++caps)[j]? = some ((cas.toList.map σ.ev++caps)[j]'(by rw[←hal,←hlen];exact hlt)):=List.getElem?_eq_getElem _
   rcases hag j x _ hx hy with rfl|e
   · exact .any _
   · exact(hvs j v _ hv hy).unren x e)
  have hwE:E'.w=w:=by rw[hE']
  rw[hwE] at hcall
  have hrun:(execOp a.eval o).run P w = .ok (.enter f (cas.toList.map a.eval++us).toArray) w:=by
   have h1:cas.map a.eval=(cas.toList.map a.eval).toArray:=by rw[←Array.toList_map]
   have hen:=X0i hfn hname hbody ((cas.toList.map a.eval).toArray++us.toArray) w
   simp only[List.append_toArray] at hen
   simp only[execOp,ho,resolve,hfe,Deferred.ofValue,h1,Sem.run_bind,Sem.run_pure,Result.andThen_ok,invoke,Array.empty_append,List.append_toArray,List.nil_append,hen]
  unfold Oper.wp
  rw[hrun,Oper.upon_enter]
  refine hcall.mono fun e w'=>?_
  rintro ⟨v,ι',rfl,hres,hcH,hk⟩
  simp only
  obtain⟨ι2,hcn,hrv⟩:=hc.back ρ hD0' hH0' hinj hnew hin hinH hE' hres hcH hk
  exact hK' ι2 _ _ _ hK (hcn.put o.dst hrv)
section
variable {P:Program} {ops:Array Oper} {o:Oper} {rest:List Oper} {σ : St} {K:St→Prop} {Φ : Exit→St→Prop}
theorem Q0d(h:K σ):evL P ops [] σ K:=h
theorem Q0c(hg:o.guard=none)(h:∀K',(∀σ',evL P ops rest σ' K→K' σ')→evO P o σ K'):evL P ops (o::rest) σ K:=by
 unfold evL
 rw[hg]
 exact Q3d (h _ fun _ h=>h)
theorem Q4u(hg:o.guard=none)(h:∀K',(∀σ',evL P ops rest σ' K→K' σ')→OpA P o σ K'):evL P ops (o::rest) σ K:=by
 unfold evL
 rw[hg]
 exact h _ fun _ h=>h
theorem Q0s{j d:Nat}{want b:Bool}(hg:o.guard=some (j,want))(hd:(ops[j]?).bind (·.dst)=some d)(hb:σ.T.getD d .any = .c (.v (.bool b)))
 (h1:b=want→∀K',(∀σ',evL P ops rest σ' K→K' σ')→evO P o (σ.put (some d) (.c (.v (.bool want)))) K')
 (h2:b = !want→evL P ops rest ((σ.put (some d) (.c (.v (.bool !want)))).put o.dst (.tup [])) K):evL P ops (o::rest) σ K:=by
 unfold evL
 simp only[hg,hd,hb]
 exact⟨fun e=>Q3d (h1 e _ fun _ h=>h),h2⟩
theorem Q2v{j d:Nat}{want:Bool}(hg:o.guard=some (j,want))(hd:(ops[j]?).bind (·.dst)=some d)(hb:σ.T.getD d .any = .tup [])(h:evL P ops rest (σ.put o.dst (.tup [])) K):evL P ops (o::rest) σ K:=by
 unfold evL
 simp only[hg,hd,hb]
 exact h
theorem Q0a{id:Nat}{l:List Oper}(h:∀K,(∀σ',Φ .normal σ'→K σ')→evL P l.toArray l σ K):evC P (.region id l.toArray false) σ Φ:=by
 unfold evC
 exact h _ fun _ h=>h
theorem Q0e{x y:Code}(h:∀Ψ : Exit→St→Prop,(∀σ',evC P y σ' Φ→Ψ .normal σ')→(∀ex σ',ex≠.normal→Φ ex σ'→Ψ ex σ')→evC P x σ Ψ):evC P (.seq x y) σ Φ:=by
 unfold evC
 refine h _ (fun _ h=>h) fun ex σ' hne h=>?_
 cases ex<;>first|exact absurd rfl hne|exact h
theorem Q0l{id:Nat}{x:Code}(h:∀Ψ : Exit→St→Prop,(∀σ',Φ .normal σ'→Ψ (.exit id) σ')→(∀ex σ',(∀j,ex = .exit j→j≠id)→Φ ex σ'→Ψ ex σ')→evC P x σ Ψ):evC P (.block id x) σ Φ:=by
 unfold evC
 refine h _ (fun _ h=>?_) fun ex σ' hne h=>?_
 · simp only[if_true];exact h
 · cases ex<;>first|exact h|(simp only;rw[if_neg (hne _ rfl)];exact h)
theorem Q0f{c:Operand}{x y:Code}{t:Bool}(hc:Q0k c=true)(ht:σ.ev c = .c (.v (.bool t)))(h1:t=true→evC P x σ Φ)(h2:t=false→evC P y σ Φ):evC P (.cond c x y) σ Φ:=by
 unfold evC
 rw[ht]
 exact⟨hc,h1,h2⟩
theorem Q1f{id:Nat}(h:Φ (.exit id) σ):evC P (.exit id) σ Φ:=h
theorem Q0h(h:Φ .ret σ):evC P .ret σ Φ:=h
theorem Q0j(h:Φ .normal σ):evC P .skip σ Φ:=h
theorem Q5v{c:Code}{α : Type}(I:α→St)(μ : α→Nat)(x0:α)(h0:σ.le (I x0))
 (round:∀x,∀Ψ : Exit→St→Prop,(∀σ' y,μ y < μ x→σ'.le (I y)→Ψ .normal σ')→(∀ex σ',ex≠.normal→Φ ex σ'→Ψ ex σ')→evC P c (I x) Ψ):evC P (.loop c) σ Φ:=by
 unfold evC
 refine AW.loop I μ x0 h0 fun x=>round x _ (fun σ' y hlt hle=>⟨y,hlt,hle⟩) fun ex σ' hne h=>?_
 cases ex<;>first|exact absurd rfl hne|exact h
end
mutual
theorem X2w(ρ : Nat→Nat):∀(x:AV),AV.inN [] x=true→AV.ren ρ x=x
 |.any,_=>rfl
 |.c _,_=>rfl
 |.agg cs,h=>by unfold AV.ren;rw[Q5b ρ cs (by unfold AV.inN at h;exact h)]
 |.tup cs,h=>by unfold AV.ren;rw[Q5b ρ cs (by unfold AV.inN at h;exact h)]
 |.ptr r off,h=>by simp[AV.inN] at h
 |.row r e sz n,h=>by simp[AV.inN] at h
 |.cut r e sz lo n c ex,h=>by simp[AV.inN] at h
 |.ep _,_=>rfl
 |.fn f cs,h=>by unfold AV.ren;rw[Q5b ρ cs (by unfold AV.inN at h;exact h)]
 |.fnb f cs,h=>by unfold AV.ren;rw[Q5b ρ cs (by unfold AV.inN at h;exact h)]
 |.amp b ks cs,h=>by unfold AV.ren;rw[Q5b ρ cs (by unfold AV.inN at h;exact h)]
theorem Q5b(ρ : Nat→Nat):∀(l:List AV),AV.inNL [] l=true→AV.renL ρ l=l
 |[],_=>rfl
 |x::l,h=>by
  unfold AV.inNL at h
  rw[Bool.and_eq_true] at h
  unfold AV.renL
  rw[X2w ρ x h.1,Q5b ρ l h.2]
end
theorem X1p(ρ : Nat→Nat):∀{l:List AV},AV.inNL [] l=true→Q1e ρ l l
 |[],_=>trivial
 |x::l,h=>by
  unfold AV.inNL at h
  rw[Bool.and_eq_true] at h
  exact⟨.inr (X2w ρ x h.1).symm,X1p ρ h.2⟩
section
variable {P:Program} {o:Oper} {σ : St} {K:St→Prop} {f:FuncId} {fn:Func} {cargs:List AV} {res:AV} {fo:Operand} {cas:Array Operand} {ts:Array TypeId} {caps:List AV}
theorem X0r(hF:Fn P f cargs [] res [])(ho:o.op = .call {callee:=.value fo,args:=cas,argTypes:=ts})(hfo:Q0k fo=true)(has:cas.toList.all Q0k=true)(hf:σ.ev fo = .fn f caps)
 (hfn:P.funcs[f]? = some fn) (hname:(fn.name == "runtime.NumGoroutine")=false) (hbody:fn.body.isNone=false)
 (hargs:cas.toList.map σ.ev++caps=cargs) (hno:AV.inNL [] cargs=true) (hin:AV.inN [] res=true)
 (hK:K (σ.put o.dst res)):OpA P o σ K:=
 X3c hF id ho hfo has hf hfn hname hbody rfl (by rw[hargs];exact X1p id hno) (fun r hr=>by cases hr) (fun r hr=>by cases hr) trivial hin rfl (by
  rw[X2w id res hin]
  exact hK)
end
mutual
def AV.frz(r:Nat)(pcs:List PV):AV→AV
 |.any=>.any
 |.c x=>.c x
 |.agg cs=>.agg (AV.frzL r pcs cs)
 |.tup cs=>.tup (AV.frzL r pcs cs)
 |.ptr q off=>if q=r then(if off<pcs.length then .ep (pcs.drop off) else .any) else .ptr q off
 |.row q e sz n=>if q=r then(if n*sz=pcs.length then .c (.sl false sz n pcs) else .any) else .row q e sz n
 |.cut q e sz lo n m ex=>if q=r then(if (lo+n)*sz≤pcs.length then .c (.sl false sz n ((pcs.drop (lo*sz)).take (n*sz))) else .any) else .cut q e sz lo n m ex
 |.ep cs=>.ep cs
 |.fn f cs=>.fn f (AV.frzL r pcs cs)
 |.fnb f cs=>.fnb f (AV.frzL r pcs cs)
 |.amp b ks cs=>.amp b ks (AV.frzL r pcs cs)
def AV.frzL(r:Nat)(pcs:List PV):List AV→List AV
 |[]=>[]
 |x::l=>AV.frz r pcs x::AV.frzL r pcs l
end
theorem Q4x(r:Nat)(pcs:List PV):∀(l:List AV) (j:Nat),(AV.frzL r pcs l)[j]? = (l[j]?).map (AV.frz r pcs)
 |[],j=>by simp[AV.frzL]
 |x::l,0=>by simp[AV.frzL]
 |x::l,j+1=>by simpa [AV.frzL] using Q4x r pcs l j
theorem Q3r(r:Nat)(pcs:List PV)(l:List AV):(AV.frzL r pcs l).length=l.length:=by
 induction l with
 |nil=>rfl
 |cons x l ih=>simp[AV.frzL,ih]
@[simp] theorem frzL_map (r:Nat) (pcs l:List PV):AV.frzL r pcs (l.map .c)=l.map .c:=by
  induction l with
  |nil=>rfl
  |cons x l ih=>simp[AV.frzL,AV.frz,ih]
def frzH(r:Nat)(pcs:List PV):List (Nat×List AV)→List (Nat×List AV)
 |[]=>[]
 |(k,cs)::H=>if k=r then frzH r pcs H else(k,AV.frzL r pcs cs)::frzH r pcs H
theorem Q5r(r:Nat)(pcs:List PV):∀(H:List (Nat×List AV)) (q:Nat),hget (frzH r pcs H) q=if q=r then none else(hget H q).map (AV.frzL r pcs)
 |[],q=>by simp[frzH,hget]
 |(k,cs)::H,q=>by
  unfold frzH
  by_cases hk:k=r
  · rw[if_pos hk,Q5r r pcs H q,Q1g]
    by_cases hq:q=r
    · rw[if_pos hq,if_pos hq]
    · rw[if_neg hq,if_neg hq,if_neg (by omega)]
  · rw[if_neg hk,Q1g,Q1g,Q5r r pcs H q]
    by_cases hkq:k=q
    · subst hkq;rw[if_pos rfl,if_neg hk,if_pos rfl];rfl
    · rw[if_neg hkq,if_neg hkq]
def St.frz(σ : St)(r:Nat)(pcs:List PV):St:=⟨AV.frzL r pcs σ.T,frzH r pcs σ.H⟩
section
variable {E:Env} {ι : Nat→Nat×Nat×Nat} {σ : St} {a:Act} {w:World}
theorem RV.frz{S S':Nat→Prop}{r:Nat}{pcs:List PV}(hS:∀b,S b→b<w.heap.size→S' b)(hb:Blk S ι w r (pcs.map .c))(hr:(ι r).2.1≠0→S' (ι r).1){v:Value}{x:AV}(h:RV S ι w v x):RV S' ι w v (AV.frz r pcs x):=by
 have hS2:∀b,S b→b<w.heap.size→S' b∧w.heap[b]? = w.heap[b]?:=fun b h1 h2=>⟨hS b h1 h2,rfl⟩
 induction h with
 |any v=>exact .any _
 |c v p hp=>exact .c _ _ (hp.mono hS2)
 |agg us cs hl h1 _ ih=>
  refine .agg us _ (by rw[Q3r];exact hl) h1 fun j u y hu hy=>?_
  rw[Q4x,Option.map_eq_some_iff] at hy
  obtain⟨x,hx',rfl⟩:=hy
  exact ih j u x hu hx'
 |tup us cs hl _ ih=>
  refine .tup us _ (by rw[Q3r];exact hl) fun j u y hu hy=>?_
  rw[Q4x,Option.map_eq_some_iff] at hy
  obtain⟨x,hx',rfl⟩:=hy
  exact ih j u x hu hx'
 |ptr q off=>
  unfold AV.frz
  split
  · rename_i e';subst e'
    split
    · rename_i hn
      rcases hb with⟨_,hz⟩|⟨cur,hh,hs,hl,hc,hone1⟩
      · rw[List.map_eq_nil_iff] at hz;subst hz;simp at hn
      · simp only[List.length_map] at hl
        refine .ep (ι q).1 off ((cur.toList.take pcs.length).drop off) (pcs.drop off) (by simp;omega) (fun h=>?_) (hr (by omega)) (fun j u hu=>?_) fun j u x hu hx=>?_
        · have:=congrArg List.length h
          simp at this;omega
        · rw[List.getElem?_drop,List.getElem?_take] at hu
          split at hu
          · simp only[World.cell?,hh];simpa using hu
          · cases hu
        · rw[List.getElem?_drop,List.getElem?_take] at hu
          rw[List.getElem?_drop] at hx
          split at hu
          · have:=(hc (off+j) u (.c x) (by simpa using hu) (by simp[hx])).1
            cases this with
            |c _ _ hp=>exact hp.mono hS2
          · cases hu
    · exact .any _
  · exact .ptr q off
 |row q e sz n c h1 h2 h3 h4 h0=>
  unfold AV.frz
  split
  · rename_i e';subst e'
    split
    · rename_i hn
      rcases hb with⟨hz,_⟩|⟨cur,hh,hs,hl,hc,hone1⟩
      · exact absurd hz h0
      · simp only[List.length_map] at hl
        refine .c _ _ (.sl false sz _ n c (cur.toList.take pcs.length) pcs h1 h2 (fun e=>by cases e) (fun e=>by cases e) (by simp;omega) hn.symm (fun _=>⟨_,_,rfl,hr h0,fun j u hu=>?_⟩) fun j u x hu hx=>?_)
        · rw[List.getElem?_take] at hu
          split at hu
          · simp only[World.cell?,hh,Nat.zero_add];simpa using hu
          · cases hu
        · rw[List.getElem?_take] at hu
          split at hu
          · have:=(hc j u (.c x) (by simpa using hu) (by simp[hx])).1
            cases this with
            |c _ _ hp=>exact hp.mono hS2
          · cases hu
    · exact .any _
  · exact .row q e sz n c h1 h2 h3 h4 h0
 |rnil A q e sz hz=>
  unfold AV.frz
  split
  · rename_i e';subst e'
    split
    · rename_i hn
      have:pcs=[]:=List.eq_nil_of_length_eq_zero (by omega)
      subst this
      exact .c _ _ (.sl false sz A 0 0 [] [] (Nat.le_refl _) (Nat.zero_le _) (fun _=>rfl) (fun e=>by cases e) rfl hn.symm (fun h=>absurd rfl h) fun j u x hu=>by cases hu)
    · exact .any _
  · exact .rnil A q e sz hz
 |cut q e sz lo n c ex h1 h2 h3 hx4 h4 h0=>
  unfold AV.frz
  split
  · rename_i e';subst e'
    split
    · rename_i hn
      rcases hb with⟨hz,_⟩|⟨cur,hh,hs,hl,hc,hone1⟩
      · exact absurd hz h0
      · simp only[List.length_map] at hl
        have e1:(lo+n)*sz=lo*sz+n*sz:=Nat.add_mul _ _ _
        refine .c _ _ (.sl false sz _ n c ((cur.toList.drop (lo*sz)).take (n*sz)) _ h1 h2 (fun e=>by cases e) (fun e=>by cases e) (by simp;omega) (by simp;omega) (fun _=>⟨_,_,rfl,hr h0,fun j u hu=>?_⟩) fun j u x hu hx=>?_)
        · rw[List.getElem?_take] at hu
          split at hu
          · simp only[World.cell?,hh];rw[List.getElem?_drop] at hu;simpa using hu
          · cases hu
        · rw[List.getElem?_take] at hu hx
          split at hu
          · rename_i hj
            rw[if_pos hj] at hx
            rw[List.getElem?_drop] at hu hx
            have:=(hc (lo*sz+j) u (.c x) (by simpa using hu) (by simp[hx])).1
            cases this with
            |c _ _ hp=>exact hp.mono hS2
          · cases hu
    · exact .any _
  · exact .cut q e sz lo n c ex h1 h2 h3 hx4 h4 h0
 |cnil A q e sz lo ex hz=>
  unfold AV.frz
  split
  · split
    · simp only[Nat.zero_mul,List.take_zero]
      exact .c _ _ (.sl false sz A 0 0 [] [] (Nat.le_refl _) (Nat.zero_le _) (fun _=>rfl) (fun e=>by cases e) rfl (by simp) (fun h=>absurd rfl h) fun j u x hu=>by cases hu)
    · exact .any _
  · exact .cnil A q e sz lo ex hz
 |ep b o us cs hl hne hb' h4 h5=>
  obtain⟨u0,rest,hu0⟩:=List.exists_cons_of_ne_nil hne
  have hlt:=block_lt_of_cell (h4 0 u0 (by rw[hu0];rfl))
  exact .ep b o us cs hl hne (hS b hb' hlt) h4 fun j u x hu hx=>(h5 j u x hu hx).mono hS2
 |fn f us cs hl _ ih=>
  refine .fn f us _ (by rw[Q3r];exact hl) fun j u y hu hy=>?_
  rw[Q4x,Option.map_eq_some_iff] at hy
  obtain⟨x,hx',rfl⟩:=hy
  exact ih j u x hu hx'
 |fnb f us cs hl _ ih=>
  refine .fnb f us _ (by rw[Q3r];exact hl) fun j u y hu hy=>?_
  rw[Q4x,Option.map_eq_some_iff] at hy
  obtain⟨x,hx',rfl⟩:=hy
  exact ih j u x hu hx'
 |amp b X clk ks us cs hb' hh hk hu hl _ ih=>
  refine .amp b X clk ks us _ (hS b hb' (Array.getElem?_eq_some_iff.1 hh).1) hh hk hu (by rw[Q3r];exact hl) fun j u y hu hy=>?_
  rw[Q4x,Option.map_eq_some_iff] at hy
  obtain⟨x,hx',rfl⟩:=hy
  exact ih j u x hu hx'
theorem Conc.frz(h:Conc E ι σ a w){r:Nat}{pcs:List PV}(hr:hget σ.H r=some (pcs.map .c)):Conc E ι (σ.frz r pcs) a w:=by
 have hblk:=h.heap.blk r _ hr
 have hS:∀b,Sx E ι σ.H b→b<w.heap.size→Sx E ι (frzH r pcs σ.H) b:=fun b ⟨h1,h2⟩ _=>⟨h1,fun q ds hq hz=>by
  rw[Q5r] at hq
  split at hq
  · cases hq
  · rw[Option.map_eq_some_iff] at hq
    obtain⟨cs,hcs,_⟩:=hq
    exact h2 q cs hcs hz⟩
 have hrS:(ι r).2.1≠0→Sx E ι (frzH r pcs σ.H) (ι r).1:=fun hz=>by
  refine⟨.inr (by
   by_cases hm:r∈E.D
   · have m1:=(h.keep.mine r _ hr).1 hm
     rw[m1] at hz ⊢;exact .inr ⟨r,hm,hz,rfl⟩
   · exact(h.keep.mine r _ hr).2 hm hz),fun q ds hq hz'=>?_⟩
  rw[Q5r] at hq
  split at hq
  · cases hq
  · rename_i hne
    rw[Option.map_eq_some_iff] at hq
    obtain⟨cs,hcs,_⟩:=hq
    exact h.heap.inj q r _ _ hcs hr hne hz' hz
 have hR:∀{v:Value} {x:AV},RV (Sx E ι σ.H) ι w v x→RV (Sx E ι (frzH r pcs σ.H)) ι w v (AV.frz r pcs x):=fun hv=>hv.frz hS hblk hrS
 refine⟨h.defers.mono fun b h1 h2=>⟨hS b h1 h2,rfl⟩,by show _=(AV.frzL r pcs σ.T).length;rw[Q3r];exact h.size,fun i=>?_,⟨fun q ds hq=>?_,fun q q' ds es hq hq' hne hz1 hz2=>?_⟩,⟨h.keep.os,h.keep.tape,h.keep.output,h.keep.size,h.keep.block,fun q ds hq=>?_⟩⟩
 · show RV _ ι w _ ((AV.frzL r pcs σ.T).getD i .any)
   have:(AV.frzL r pcs σ.T).getD i .any=AV.frz r pcs (σ.T.getD i .any):=by
    rw[List.getD_eq_getElem?_getD,List.getD_eq_getElem?_getD,Q4x]
    cases σ.T[i]? <;> rfl
   rw[this]
   exact hR (h.tmp i)
 · have hq1:hget (frzH r pcs σ.H) q=some ds:=hq
   rw[Q5r] at hq1
   split at hq1
   · cases hq1
   · rw[Option.map_eq_some_iff] at hq1
     obtain⟨cs,hcs,rfl⟩:=hq1
     rcases h.heap.blk q cs hcs with⟨h0,rfl⟩|⟨cur,hh,hs,hl,hc,hone1⟩
     · exact .inl ⟨h0,rfl⟩
     · refine .inr ⟨cur,hh,hs,by rw[Q3r];exact hl,fun j u y hu hy=>?_,hone1⟩
       rw[Q4x,Option.map_eq_some_iff] at hy
       obtain⟨x,hx,rfl⟩:=hy
       exact⟨hR (hc j u x hu hx).1,(hc j u x hu hx).2⟩
 · have hq1:hget (frzH r pcs σ.H) q=some ds:=hq
   have hq2:hget (frzH r pcs σ.H) q'=some es:=hq'
   rw[Q5r] at hq1 hq2
   split at hq1
   · cases hq1
   · split at hq2
     · cases hq2
     · rw[Option.map_eq_some_iff] at hq1 hq2
       obtain⟨cs,hcs,_⟩:=hq1
       obtain⟨cs',hcs',_⟩:=hq2
       exact h.heap.inj q q' cs cs' hcs hcs' hne hz1 hz2
 · have hq1:hget (frzH r pcs σ.H) q=some ds:=hq
   rw[Q5r] at hq1
   split at hq1
   · cases hq1
   · rw[Option.map_eq_some_iff] at hq1
     obtain⟨cs,hcs,_⟩:=hq1
     exact h.keep.mine q cs hcs
theorem OpA.frz{P:Program}{o:Oper}{K:St→Prop}(r:Nat){pcs:List PV}(hr:hget σ.H r=some (pcs.map .c))(h:OpA P o (σ.frz r pcs) K):OpA P o σ K:=
 fun E ι a w hc=>h E ι a w (hc.frz hr)
theorem AW.frz{P:Program}{c:Code}{Φ : Exit→St→Prop}(r:Nat){pcs:List PV}(hr:hget σ.H r=some (pcs.map .c))(h:AW P c (σ.frz r pcs) Φ):AW P c σ Φ:=
 fun E ι a w hc=>h E ι a w (hc.frz hr)
end
end
end Go.Proofs.YtbmcdemnnbndeaaGreatDoor
