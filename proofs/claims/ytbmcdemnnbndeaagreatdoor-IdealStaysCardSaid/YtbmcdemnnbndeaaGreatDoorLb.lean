/-
  Rows of a ledger by value.
-/
import Derived.Test.YtbmcdemnnbndeaaGreatDoorAvW
import Derived.Laws.CopyRow
import Derived.Test.YtbmcdemnnbndeaaGreatDoorAvTy
set_option linter.unusedSimpArgs false
set_option linter.unusedVariables false
namespace Go.Proofs.YtbmcdemnnbndeaaGreatDoor
open Go.RowKit Go.Lib
theorem Q3k(d n:Nat):AV.refsL d (List.replicate n .any)=false:=by
 induction n with
 |zero=>rfl
 |succ n ih=>rw[List.replicate_succ,AV.refsL,ih];rfl
def Q7k(zl:List Value)(n:Nat):List AV:=(List.replicate n (zl.map fun v=>AV.c (.v v))).flatten
theorem X2n(zl:List Value)(n:Nat)(hz:0<zl.length):(Builtin.zeroCells zl.toArray n).toList=(List.replicate n zl).flatten:=by
 have h1:∀n,((List.replicate n zl).flatten).length=n*zl.length:=fun n=>by simp
 apply List.ext_getElem?
 intro i
 have h2:∀n i,i<n*zl.length→((List.replicate n zl).flatten)[i]? = zl[i%zl.length]?:=by
  intro n
  induction n with
  |zero=>intro i hi;omega
  |succ n ih=>
   intro i hi
   rw[List.replicate_succ,List.flatten_cons,List.getElem?_append]
   split
   · rename_i h;rw[Nat.mod_eq_of_lt h]
   · rename_i h
     have e1:(n+1)*zl.length=n*zl.length+zl.length:=Nat.succ_mul n zl.length
     rw[ih (i-zl.length) (by omega)]
     congr 1
     rw[Nat.mod_eq_sub_mod (a:=i) (by omega)]
 unfold Builtin.zeroCells
 by_cases hi:i<n*zl.length
 · rw[h2 n i hi]
   have hm:i%zl.length<zl.length:=Nat.mod_lt _ hz
   simp[hi,hm]
 · rw[List.getElem?_eq_none (by simp;omega),List.getElem?_eq_none (by rw[h1];omega)]
section
variable {P:Program} {o:Oper} {σ : St} {K:St→Prop}
theorem X4w{t sz r e lo n:Nat}{x:Operand}{cs:List AV}{zl:List Value}(ho:o.op = .call {callee:=.builtin .clear,args:=#[x],argTypes:=#[t]})(hx:Q0k x=true)(hs:(slcT P t).map (fun p=>p.2.1)=some sz)(h0:0<sz)
 (hz:(slcT P t).bind (fun p=>Q2b P p.1)=some zl) (hzl:zl.length=sz) (hone:zl.all (fun v=>v.oneCell')=true)
 (hp:(σ.ev x).part=some (r,e,sz,lo,n)) (hr:hget σ.H r=some cs) (hfit:(lo+n)*sz≤cs.length)
 (hK:K ((St.mk σ.T (hput σ.H r (spl cs (lo*sz) (Q7k zl n)))).put o.dst .any)):OpA P o σ K:=by
 intro E ι a w hc K' Q hK'
 obtain⟨e0,by_,hs⟩:=Q7f hs
 obtain⟨A,c,hxv,g1,g2,g3⟩:=(hc.ev x hx).part hp
 obtain⟨hu,i,hi,his,_⟩:=Q4p hs
 rw[hs] at hz
 simp only[Option.bind_some] at hz
 have fin:∀{v:Value} {w':World},(Builtin.clear_ #[t] o.type #[.slice A n c]).run P w = .ok v w'→Conc E ι ⟨σ.T,hput σ.H r (spl cs (lo*sz) (Q7k zl n))⟩ a w'→o.wp P a w K' Q:=fun {v w'} hrun hcn=>by
  unfold Oper.wp execOp
  simp only[ho,resolve,invoke,builtin,Sem.run_bind,Sem.run_pure,Result.andThen_ok,List.map_toArray,List.map_cons,List.map_nil,hxv,hrun]
  exact hK' _ _ _ _ hK (hcn.put o.dst (.any _))
 cases n with
 |zero=>
  have hrun:(Builtin.clear_ #[t] o.type #[.slice A 0 c]).run P w = .ok (.tuple #[]) w:=by
   cases A<;>simp[Builtin.clear_,run_underlying hu,Sem.run_bind,Result.andThen]
  refine fin hrun ?_
  simp only[Q7k,List.replicate_zero,List.flatten_nil,X6a]
  exact hc.same hr
 |succ k=>
  obtain⟨rfl,g4,g5⟩:=g3 (by omega)
  obtain⟨zv,hzr,hzc⟩:=X4h hz w
  rcases hc.heap.blk r cs hr with⟨hz0,_⟩|⟨cur,hh,hcz,hlc,hcur,hone1⟩
  · exact absurd hz0 g5
  · have hzl':(Builtin.zeroCells zv.cells (k+1)).toList=(List.replicate (k+1) zl).flatten:=by
     have:zv.cells=zl.toArray:=by rw[←hzc]
     rw[this];exact X2n zl (k+1) (by omega)
    have hlen:((List.replicate (k+1) zl).flatten).length=(k+1)*sz:=by simp[hzl]
    have e1:(lo+(k+1))*sz=lo*sz+(k+1)*sz:=Nat.add_mul _ _ _
    have h1:∀v∈(List.replicate (k+1) zl).flatten,v.oneCell'=true:=fun v hv=>by
     obtain⟨l,hl,hv⟩:=List.mem_flatten.1 hv
     rw[(List.mem_replicate.1 hl).2] at hv
     exact List.all_eq_true.1 hone v hv
    have hst:=run_storeCells_at (P:=P) (ι r).1 (lo*sz) (ι r).2.2 ((List.replicate (k+1) zl).flatten) 0 cur w hh (by rw[hlen];omega) h1
    have hrun:(Builtin.clear_ #[t] o.type #[.slice (some ⟨(ι r).1,lo*sz,none⟩) (k+1) c]).run P w = .ok (.tuple #[]) (w.setRow (ι r).1 (cur.toList.take (lo*sz)++(List.replicate (k+1) zl).flatten++cur.toList.drop (lo*sz+((List.replicate (k+1) zl).flatten).length)).toArray):=by
     simp only[Builtin.clear_,Sem.run_bind,run_underlying hu,Result.andThen_ok,hzr,hzl',hst,Sem.run_pure,List.getElem?_toArray,List.getElem?_cons_zero,Nat.add_zero]
    refine fin hrun (hc.lay hr hh g5 hcz hlc hcur hone1 ?_ ?_)
    · unfold Q7k
      refine⟨by simp,fun j u y hu hy=>?_⟩
      have e2:(List.replicate (k+1) (zl.map fun v=>AV.c (.v v))).flatten=((List.replicate (k+1) zl).flatten).map fun v=>AV.c (.v v):=by
       rw[List.map_flatten,List.map_replicate]
      rw[e2,List.getElem?_map,hu] at hy
      cases hy
      have ho:=h1 u (List.mem_of_getElem? hu)
      exact⟨.c _ _ (.v _ ho),ho⟩
    · unfold Q7k
      simp[hzl];omega
end
section
variable {P:Program} {o:Oper} {σ : St} {K:St→Prop}
theorem Q1o{t:TypeId}{len e sz by_:Nat}{parts:Array (Nat×Operand)}{z:List Value}{ds:List AV}{pcs:List PV}(ho:o.op = .buildSlice t len parts)(hk:parts.toList.all (fun p=>Q0k p.2)=true)(hs:slcZ P t=some (e,sz,by_))(hz:Q2b P e=some z)(h1:z.all (·.oneCell')=true)
 (hsmall:len*sz≤16777216) (hsz:0<sz) (hl0:0<len) (hf:Q8i (Q4r sz 0 len) (List.replicate (len*sz) .any) (parts.toList.map fun x=>(x.1,σ.ev x.2))=some ds) (hlen:ds.length=len*sz) (hpc:unC ds=some pcs)
 (hK:K (σ.put o.dst (.c (.sl true sz len pcs)))):OpA P o σ K:=by
 intro E ι a w h K' Q hK'
 have hpc:=X7d hpc
 rw[Q8s] at hf
 simp only[Nat.zero_add] at hf
 obtain⟨hu,i,zv,hi,hiz,hsize,hbytes,hzs⟩:=Q6e hs
 have hzl:zv.cells.toList=z:=by simp[Q2b,hi,hiz] at hz;exact hz
 have hz1:∀k,k<zv.cells.size→(zv.cells[k]!).oneCell'=true:=fun k hk=>by
  have hmem:zv.cells[k]!∈z:=by rw[←hzl];simp[hk]
  exact List.all_eq_true.1 h1 _ hmem
 have h0:len*sz≠0:=by
  have:=Nat.mul_pos hl0 hsz
  omega
 have hrow:∃us:List Value,((Array.range (len*i.size)).map (zv.cells[· % zv.cells.size]!))=us.toArray∧RVs (Sx E ι σ.H) ι w us (List.replicate (len*sz) .any):=by
  refine⟨((Array.range (len*i.size)).map (zv.cells[· % zv.cells.size]!)).toList,by apply Array.ext';simp,by simp[hsize],fun j u x hu hx=>?_⟩
  rw[List.getElem?_replicate] at hx
  split at hx
  · cases hx
    refine⟨.any _,?_⟩
    simp only[Array.getElem?_toList,Array.getElem?_map,Option.map_eq_some_iff] at hu
    obtain⟨k,_,rfl⟩:=hu
    exact hz1 _ (Nat.mod_lt _ (by omega))
  · cases hx
 obtain⟨us,hus,hrv⟩:=hrow
 obtain⟨us',hrun,hrv'⟩:=Q8h (S:=Sx E ι σ.H) (ι:=ι) (w:=w) (pl:=(List.range len).map fun k=>(k*sz,sz)) (place:=fun k=>some (k*i.size,i.size)) (fun k p hp=>by
  simp only[List.getElem?_map,Option.map_eq_some_iff] at hp
  obtain⟨m,hm,rfl⟩:=hp
  obtain⟨_,e⟩:=List.getElem?_eq_some_iff.1 hm
  simp at e
  rw[e,hsize]) _ (parts.toList.map fun x=>(x.1,a.eval x.2)) us _ ds hrv (by simp) (X2y h hk) hf
 have hlu:us'.length=len*sz:=by rw[hrv'.1,hlen]
 have hpt:(parts.map fun x=>(x.1,a.eval x.2)).toList=parts.toList.map fun x=>(x.1,a.eval x.2):=by simp
 have hb:=run_buildSlice (P:=P) w t e len (parts.map fun x=>(x.1,a.eval x.2)) us'.toArray i zv hu hi hiz (by rw[hsize];omega) (by rw[hsize];exact h0) (by rw[hus,hpt];exact hrun)
 have hex:(execOp a.eval o).run P w = .ok (.value (.slice (some ⟨w.heap.size,0,none⟩) len len)) (w.alloc (.cells us'.toArray e)):=by
  simp only[execOp,ho,Sem.run_bind,hb,Result.andThen_ok,Sem.run_pure]
 have hcn:=h.alloc (.cells us'.toArray e)
 have hS:∀b,Sx E ι σ.H b→b<w.heap.size→Sx E ι σ.H b∧(w.alloc (.cells us'.toArray e)).heap[b]? = w.heap[b]?:=fun b h1 h2=>⟨h1,Below.heap_alloc _ _ _ h2⟩
 have hml:len≤maxLen:=by
  have:len*1≤len*sz:=Nat.mul_le_mul_left _ hsz
  unfold maxLen;omega
 have hpl:pcs.length=len*sz:=by rw[←hlen,hpc,List.length_map]
 unfold Oper.wp
 rw[hex]
 refine hK' ι _ _ _ hK (hcn.put o.dst (.c _ _ (.sl true sz _ len len us' pcs (Nat.le_refl _) hml (fun h=>by cases h) (fun _=>rfl) (by rw[hlu,hpl]) hpl (fun _=>?_) fun j u x hu hx=>?_)))
 · refine⟨w.heap.size,0,rfl,⟨.inr (.inl h.keep.size),fun r cs hr hz' e'=>?_⟩,fun j u hu=>?_⟩
   · have:=(h.heap.blk r cs hr).lt hz'
     omega
   · have:(w.alloc (.cells us'.toArray e)).heap[w.heap.size]? = some (.cells us'.toArray e):=World.alloc_heap_new w _
     simp only[World.cell?,this,Nat.zero_add]
     simpa using hu
 · have h2:=(hrv'.2 j u (.c x) hu (by rw[hpc,List.getElem?_map,hx];rfl)).1
   cases h2 with
   |c _ _ hp=>exact hp.mono hS
theorem Q4s{t:TypeId}{len e sz by_:Nat}{parts:Array (Nat×Operand)}{z:List Value}{ds:List AV}{pcs:List PV}(ho:o.op = .buildSlice t len parts)(hk:parts.toList.all (fun p=>Q0k p.2)=true)(hs:slcZ P t=some (e,sz,by_))(hz:Q2b P e=some z)(h1:z.all (·.oneCell')=true)
 (hsmall:len*sz≤16777216) (hsz:0<sz) (hl0:0<len) (hf:Q8i (Q4r sz 0 len) (List.replicate (len*sz) .any) (parts.toList.map fun x=>(x.1,σ.ev x.2))=some ds) (hlen:ds.length=len*sz) (hpc:unC ds=some pcs) :
 OpF P o σ.ev (hget σ.H) (.c (.sl true sz len pcs)) [] []:=
 fun τ hA hQ=>by
  have hmap:(parts.toList.map fun x=>(x.1,τ.ev x.2))=parts.toList.map fun x=>(x.1,σ.ev x.2):=List.map_congr_left fun x hx=>by
   rw[hA x.2 (by rw[ho];simp only[Op.operands,Array.toList_map];exact List.mem_map.2 ⟨x,hx,rfl⟩)]
  refine Q1o ho hk hs hz h1 hsmall hsz hl0 (by rw[hmap];exact hf) hlen hpc ?_
  cases o.dst<;>rfl
theorem Q9n{d:Nat}{s x:Operand}{t e sz by_ n m:Nat}{ps:List PV}{ds:List AV}(ho:o.op = .call {callee:=.builtin .append,args:=#[s,x],argTypes:=#[t,t]})(hs0:Q0k s=true)(hx0:Q0k x=true)(hz:slcZ P t=some (e,sz,by_))(h0:0<sz)(hb0:0<by_)
 (h1:σ.ev s = .c (.sl true sz n ps)) (hx:σ.src (σ.ev x)=some (m,ds)) (hm:0<m) (hdl:ds.length=m*sz) (hby:(n+m)*by_≤140737488355328)
 (hd:o.dst=some d) (hf:σ.free d=true) (hd2:d<1000) (hds:AV.refsL d ds=false)
 (hK:K ((St.mk σ.T (hput σ.H d (ps.map .c++ds))).put o.dst (.row d e sz (n+m)))):OpA P o σ K:=by
 intro E ι a w hc K' Q hK'
 obtain⟨hu,i,z,hi,hiz,hsize,hbytes,hzs,hz1⟩:=Q6e hz
 obtain⟨A,c,vs,hxv,hsl,hvs⟩:=hc.src (hc.ev x hx0) hx hdl h0
 have hrefs:AV.refsL d (ps.map .c++ds)=false:=by simp[hds]
 have hsv:=hc.ev s hs0
 rw[h1] at hsv
 generalize he:a.eval s=v at hsv
 cases hsv with
 |c _ _ hp=>
  cases hp with
  |sl _ _ A0 _ c0 us _ g1 g2 g3 gx gl gn g4 g5=>
   obtain rfl:=gx rfl
   have husr:RVs (Sx E ι σ.H) ι w us (ps.map .c):=⟨by simp[gl],fun j u y hu hy=>by
    rw[List.getElem?_map,Option.map_eq_some_iff] at hy
    obtain⟨p,hp,rfl⟩:=hy
    exact⟨.c _ _ (g5 j u p hu hp),(g5 j u p hu hp).one⟩⟩
   obtain⟨b,off,rfl,_,hcell⟩:=hsl.cells hm
   cases A0 with
   |none=>
    have hn0:c0=0:=g3 rfl
    subst hn0
    have hp0:ps=[]:=List.eq_nil_of_length_eq_zero (by simpa using gn)
    subst hp0
    have hu0:us=[]:=List.eq_nil_of_length_eq_zero (by simpa using gl)
    subst hu0
    obtain⟨A',c',w',hrun,how',hg,hblk⟩:=run_app (P:=P) w 0 t o.type e i z sz by_ hu hi hiz hsize hbytes hzs h0 none 0 0 [] Ow.nil w.heap.size (some ⟨b,off,none⟩) m c vs hsl hvs.one hby hb0 (Nat.zero_le _)
    obtain⟨p,hconc,hrv⟩:=hc.appended hf hd2 none (cs:=[]++ds) h0 how' hg (fun g hg'=>by
     rcases hblk with hb|hb
     · exact .inl (hb.symm.trans hg')
     · rw[hb] at hg';exact .inr (by injection hg' with hg';omega)) (fun b hb=>by cases hb) (by simpa using hds) (by simpa using hvs) (X0j w 0 t o.type e i z sz by_ hu hi hiz hsize hbytes hzs h0 none 0 0 [] Ow.nil w.heap.size (some ⟨b,off,none⟩) m c vs hsl hvs.ones hby hb0 hz1 (fun g hg=>by cases hg) hrun)
    unfold Oper.wp execOp
    simp only[ho,resolve,invoke,builtin,Sem.run_bind,Sem.run_pure,Result.andThen_ok,List.map_toArray,List.map_cons,List.map_nil,he,hxv,hrun]
    exact hK' _ _ _ _ hK (hconc.put o.dst (hrv _ _))
   |some b0=>
    have hsu:Sl w w.heap.size sz (some b0) c0 c0 us:=by
     refine⟨Nat.le_refl _,g2,(fun h=>by cases h),by rw[gl,gn],fun hn=>?_⟩
     have hne:us≠[]:=fun e=>by
      rw[e] at gl
      have:=Nat.mul_pos hn h0
      simp at gl;omega
     obtain⟨b1,o1,hA,hS,hcl⟩:=g4 hne
     obtain⟨u0,rest,hu0⟩:=List.exists_cons_of_ne_nil hne
     exact⟨b1,o1,hA,block_lt_of_cell (hcl 0 u0 (by rw[hu0];rfl)),fun j u hu=>hcl j u hu⟩
    have holds:∀j u,us[j]? = some u→w.cell? (b0.add j)=some u:=fun j u hu=>by
     have hne:us≠[]:=fun e=>by rw[e] at hu;cases hu
     obtain⟨b1,o1,hA,hS,hcl⟩:=g4 hne
     cases hA
     rw[Q1q]
     exact hcl j u hu
    have hallg:∀{v':Value} {w':World},(Builtin.append_ #[t,t] o.type #[.slice (some b0) c0 c0,.slice (some ⟨b,off,none⟩) m c]).run P w = .ok v' w'→∀g,v'.ownBlock=some g→Q9m w' g:=fun hrun=>Q6g w t o.type e i z sz by_ hu hi hiz hsize hbytes hzs h0 (some b0) c0 c0 us (Q5a hsu) w.heap.size (some ⟨b,off,none⟩) m c vs hsl hvs.ones (by omega) hby hb0 hz1 husr.ones hrun
    obtain⟨v',w',hrun,how',hg⟩:=run_append_arg_grows (P:=P) w t o.type e i z sz by_ hu hi hiz hsize hbytes hzs h0 b0 c0 c0 us (by rw[gl,gn]) holds ⟨b,off,none⟩ m c vs hsl.len_ (fun j u hu=>by rw[Q1q];exact hcell j u hu) (by omega)
     (by have:(c0+m)*1≤(c0+m)*by_:=Nat.mul_le_mul_left _ hb0;unfold maxLen;omega) hby
    obtain⟨A',c',rfl⟩:∃A' c',v' = .slice A' (c0+m) c':=by
     rcases how' with⟨_,⟨rfl,h0⟩|⟨g,cap,cur,rfl,_⟩⟩
     · omega
     · exact⟨_,_,rfl⟩
    have hown':Ow w' w.heap.size e sz A' (c0+m) c' (us++vs):=how'
    obtain⟨p,hconc,hrv⟩:=hc.appended hf hd2 none (cs:=ps.map .c++ds) h0 (hown'.mono (Nat.zero_le _)) hg (fun g hg'=>by
     rcases hown'.form with⟨rfl,_⟩|⟨g2,_,rfl,hb2,_⟩
     · cases hg'
     · simp only[Value.ownBlock,Option.some.injEq] at hg'
       exact .inr (by omega)) (fun b hb=>by cases hb) hrefs (husr.app hvs) (hallg hrun)
    unfold Oper.wp execOp
    simp only[ho,resolve,invoke,builtin,Sem.run_bind,Sem.run_pure,Result.andThen_ok,List.map_toArray,List.map_cons,List.map_nil,he,hxv,hrun]
    exact hK' _ _ _ _ hK (hconc.put o.dst (hrv _ _))
theorem Q7t{t r e e0 sz by_ n m c:Nat}{ex:Bool}{rd:List Nat}{x y:Operand}{cs ds:List AV}(ho:o.op = .call {callee:=.builtin .append,args:=#[x,y],argTypes:=#[t,t]})(hx:Q0k x=true)(hy:Q0k y=true)(hs:slcT P t=some (e0,sz,by_))(h0:0<sz)
 (h1:σ.ev x = .cut r e sz 0 n c ex) (he:e=e0) (hr:hget σ.H r=some cs) (hsrc:σ.src2 sz (σ.ev y)=some (m,ds)) (hso:szOf (σ.ev y) sz=true) (hl:ds.length=m*sz) (hroom:n+m≤c) (hfit:(n+m)*sz≤cs.length) (hrd:r::AV.rows (σ.ev y)=rd) :
 OpF P o σ.ev (hget σ.H) (.cut r e sz 0 (n+m) c ex) rd [(r,spl cs (n*sz) ds)]:=
 fun τ hA hQ=>by
  have hA':∀z∈[x,y],τ.ev z = σ.ev z:=fun z hz=>hA z (by rw[ho];simpa [Op.operands,Call.operands] using hz)
  have ex':=hA' x (by simp)
  have ey:=hA' y (by simp)
  have hr':hget τ.H r=some cs:=by rw[hQ r (by rw[←hrd];simp)];exact hr
  have hq:∀q∈AV.rows (σ.ev y),hget τ.H q=hget σ.H q:=fun q hq=>hQ q (by rw[←hrd];simp[hq])
  refine X3d ho hx hy hs h0 (by rw[ex'];exact h1) he hr' (m:=m) (ds:=ds) ?_ (by rw[ey];exact hso) hl hroom hfit ?_
  · rw[ey,←hsrc]
    unfold St.src2
    split
    · rename_i heq;rw[hq _ (by rw[heq];simp[AV.rows])]
    · rename_i heq;rw[hq _ (by rw[heq];simp[AV.rows])]
    · rfl
    · rfl
    · rfl
  · cases o.dst<;>rfl
end
def Q8q:Array Value→Sem Value:=fun args=>do
 let (x,y,b) ←Extern.MathBitsCarry.three "Sub64" args
 pure (Extern.MathBitsCarry.pair ((x+Extern.MathBitsCarry.m64-y-b)%Extern.MathBitsCarry.m64) (if x<y+b then 1 else 0))
def sbI(x y c:Int):Int:=(x+18446744073709551616-y-c)%18446744073709551616
def bwI(x y c:Int):Int:=if x<y+c then 1 else 0
theorem run_sub64{P:Program}(x y c:Int)(hx:0≤x)(hy:0≤y)(hy1:y≤18446744073709551615)(hc0:0≤c)(hc:c≤1)(w:World) :
 (Q8q #[.int .u64 x,.int .u64 y,.int .u64 c]).run P w = .ok (.tuple #[.int .u64 (sbI x y c),.int .u64 (bwI x y c)]) w:=by
 have key:∀k:Nat,k≤1→(Q8q #[.int .u64 x,.int .u64 y,.int .u64 (k:Int)]).run P w =
  .ok (Extern.MathBitsCarry.pair ((x.toNat+Extern.MathBitsCarry.m64-y.toNat-k)%Extern.MathBitsCarry.m64) (if x.toNat<y.toNat+k then 1 else 0)) w:=by
  intro k hk
  have:k=0∨k=1:=by omega
  rcases this with rfl|rfl<;>rfl
 obtain⟨k,rfl⟩:=Int.eq_ofNat_of_zero_le hc0
 rw[key k (by omega)]
 obtain⟨X,rfl⟩:=Int.eq_ofNat_of_zero_le hx
 obtain⟨Y,rfl⟩:=Int.eq_ofNat_of_zero_le hy
 have e1:((((X+18446744073709551616-Y-k)%18446744073709551616:Nat)):Int)=sbI X Y k:=by unfold sbI;omega
 have e2:((if X<Y+k then 1 else 0:Nat):Int)=bwI X Y k:=by unfold bwI;split<;>split<;>omega
 simp only[Extern.MathBitsCarry.pair,Extern.MathBitsCarry.m64,Int.toNat_natCast,Int.ofNat_eq_natCast]
 rw[←e1,←e2]
theorem sub64_ext {P:Program} {f:FuncId} {fn:Func} (hf:P.funcs[f]? = some fn) (hname:(fn.name == "runtime.NumGoroutine")=false)
 (hb:fn.body.isNone=true) (hn:Extern.findNext fn=none) (he:Extern.find fn=some Q8q) (x y c:Int) (hx:0≤x) (hy:0≤y) (hy1:y≤18446744073709551615) (hc0:0≤c) (hc:c≤1) :
 Ext P f [.int .u64 x,.int .u64 y,.int .u64 c] (.tup [.c (.v (.int .u64 (sbI x y c))),.c (.v (.int .u64 (bwI x y c)))]):=
 ext_of hf hname hb hn he (fun w=>run_sub64 x y c hx hy hy1 hc0 hc w) fun S ι w'=>.tup [_,_] [_,_] rfl fun j u x hu hx=>by
  rcases j with _|_|j
  · cases hu;cases hx;exact .c _ _ (.v _ rfl)
  · cases hu;cases hx;exact .c _ _ (.v _ rfl)
  · cases hu
open Go.RowKit Go.Lib
section
variable {P:Program} {o:Oper} {σ : St} {K:St→Prop}
end
open Go.RowKit Go.Lib
section
variable {P:Program} {o:Oper} {σ : St} {K:St→Prop}
end
end Go.Proofs.YtbmcdemnnbndeaaGreatDoor
namespace Go.Proofs.YtbmcdemnnbndeaaGreatDoor
open Go.RowKit
set_option maxRecDepth 20000
set_option maxHeartbeats 2000000
abbrev vi(k:IntKind)(n:Int):AV:=.c (.v (.int k n))
abbrev vb(b:Bool):AV:=.c (.v (.bool b))
abbrev U(a:Int):Prop:=0≤a∧a≤18446744073709551615
abbrev WW:Nat:=115792089237316195423570985008687907853269984665640564039457584007913129639936
def l0(x:Nat):Int:=((x%18446744073709551616:Nat):Int)
def l1(x:Nat):Int:=((x/18446744073709551616%18446744073709551616:Nat):Int)
def l2(x:Nat):Int:=((x/18446744073709551616/18446744073709551616%18446744073709551616:Nat):Int)
def l3(x:Nat):Int:=((x/18446744073709551616/18446744073709551616/18446744073709551616%18446744073709551616:Nat):Int)
theorem wrI{x:Int}(h1:-9223372036854775808≤x)(h2:x≤9223372036854775807):IntKind.i64.wrap x=x:=by
 unfold IntKind.wrap;simp[IntKind.bits,IntKind.signed];omega
theorem wrU{x:Int}(h1:0≤x)(h2:x≤18446744073709551615):IntKind.u64.wrap x=x:=by
 unfold IntKind.wrap;simp[IntKind.bits,IntKind.signed];omega
theorem U0(x:Nat):U (l0 x):=by unfold l0;constructor<;>omega
theorem U1(x:Nat):U (l1 x):=by unfold l1;constructor<;>omega
theorem U2(x:Nat):U (l2 x):=by unfold l2;constructor<;>omega
theorem U3(x:Nat):U (l3 x):=by unfold l3;constructor<;>omega
abbrev w4(a b c d:Int):AV:=.agg [vi .u64 a,vi .u64 b,vi .u64 c,vi .u64 d]
abbrev wN(x:Nat):AV:=w4 (l0 x) (l1 x) (l2 x) (l3 x)
theorem Q9y{n s0 s1 s2 s3:Nat}(h:n=s0+18446744073709551616*(s1+18446744073709551616*(s2+18446744073709551616*s3)))(h0:s0<18446744073709551616)(h1:s1<18446744073709551616)(h2:s2<18446744073709551616)(h3:s3<18446744073709551616) :
 l0 n=s0∧l1 n=s1∧l2 n=s2∧l3 n=s3:=by
 have e1:n%18446744073709551616=s0:=by omega
 have q1:n/18446744073709551616=s1+18446744073709551616*(s2+18446744073709551616*s3):=by omega
 have e2:n/18446744073709551616%18446744073709551616=s1:=by omega
 have q2:n/18446744073709551616/18446744073709551616=s2+18446744073709551616*s3:=by rw[q1];omega
 have e3:n/18446744073709551616/18446744073709551616%18446744073709551616=s2:=by rw[q2];omega
 have q3:n/18446744073709551616/18446744073709551616/18446744073709551616=s3:=by rw[q2];omega
 refine⟨by unfold l0;rw[e1],by unfold l1;rw[e2],by unfold l2;rw[e3],by unfold l3;rw[q3,Nat.mod_eq_of_lt h3]⟩
theorem Q6d{x:Nat}(h:x<WW):∃a b c d:Nat,x=a+18446744073709551616*(b+18446744073709551616*(c+18446744073709551616*d))∧a<18446744073709551616∧b<18446744073709551616∧c<18446744073709551616∧d<18446744073709551616∧l0 x=a∧l1 x=b∧l2 x=c∧l3 x=d:=by
 have e:x=x%18446744073709551616+18446744073709551616*(x/18446744073709551616%18446744073709551616+18446744073709551616*(x/18446744073709551616/18446744073709551616%18446744073709551616+18446744073709551616*(x/18446744073709551616/18446744073709551616/18446744073709551616))):=by omega
 have h3:x/18446744073709551616/18446744073709551616/18446744073709551616<18446744073709551616:=by
  have:x<115792089237316195423570985008687907853269984665640564039457584007913129639936:=h
  omega
 exact⟨_,_,_,_,e,Nat.mod_lt _ (by decide),Nat.mod_lt _ (by decide),Nat.mod_lt _ (by decide),h3,Q9y e (Nat.mod_lt _ (by decide)) (Nat.mod_lt _ (by decide)) (Nat.mod_lt _ (by decide)) h3⟩
theorem wN_inj{x y:Nat}(hx:x<WW)(hy:y<WW)(h0:l0 x=l0 y)(h1:l1 x=l1 y)(h2:l2 x=l2 y)(h3:l3 x=l3 y):x=y:=by
 obtain⟨a,b,c,d,rfl,_,_,_,_,e0,e1,e2,e3⟩:=Q6d hx
 obtain⟨a',b',c',d',rfl,_,_,_,_,f0,f1,f2,f3⟩:=Q6d hy
 rw[e0,f0] at h0;rw[e1,f1] at h1;rw[e2,f2] at h2;rw[e3,f3] at h3
 have g0:a=a':=by exact_mod_cast h0
 have g1:b=b':=by exact_mod_cast h1
 have g2:c=c':=by exact_mod_cast h2
 have g3:d=d':=by exact_mod_cast h3
 rw[g0,g1,g2,g3]
theorem wN_eq{x y:Nat}(hx:x<WW)(hy:y<WW):(l0 x==l0 y&&(l1 x==l1 y&&(l2 x==l2 y&&l3 x==l3 y)))=decide (x=y):=by
 rw[Bool.eq_iff_iff]
 simp only[Bool.and_eq_true,beq_iff_eq,decide_eq_true_eq]
 constructor
 · rintro ⟨h0,h1,h2,h3⟩;exact wN_inj hx hy h0 h1 h2 h3
 · rintro rfl;exact⟨rfl,rfl,rfl,rfl⟩
theorem Q2q:l0 0=0:=rfl
theorem Q2p:l1 0=0:=rfl
theorem Q2o:l2 0=0:=rfl
theorem Q2n:l3 0=0:=rfl
theorem X0c{x:Nat}(hx:x<WW):(l0 x==0&&(l1 x==0&&(l2 x==0&&l3 x==0)))=decide (x=0):=by
 have h:=wN_eq hx (show 0<WW by decide)
 rwa [Q2q,Q2p,Q2o,Q2n] at h
end Go.Proofs.YtbmcdemnnbndeaaGreatDoor
namespace Go.Proofs.YtbmcdemnnbndeaaGreatDoor
open Go.RowKit
open Nat (reduceBEq)
set_option maxRecDepth 20000
set_option maxHeartbeats 2000000
theorem Q9p(x y c:Int)(hx:0≤x)(hy:0≤y)(hy1:y≤18446744073709551615)(hc0:0≤c)(hc:c≤1):Ext Tryz.prog 83 [.int .u64 x,.int .u64 y,.int .u64 c] (.tup [.c (.v (.int .u64 (sbI x y c))),.c (.v (.int .u64 (bwI x y c)))]):=
 sub64_ext Tryz.func83 (by kernel_rfl) (by kernel_rfl) (by kernel_rfl) (by kernel_rfl) x y c hx hy hy1 hc0 hc
theorem bw01(x y c:Int):0≤bwI x y c∧bwI x y c≤1:=by unfold bwI;split<;>omega
theorem X3t(a b c d e f g h:Int)(u1:U a)(u2:U b)(u3:U c)(u4:U d)(u5:U e)(u6:U f)(u7:U g)(u8:U h):Fn Tryz.prog 71 [w4 a b c d,w4 e f g h,.fn 83 []] []
 (.tup [w4 (sbI a e 0) (sbI b f (bwI a e 0)) (sbI c g (bwI b f (bwI a e 0))) (sbI d h (bwI c g (bwI b f (bwI a e 0)))),vb (bwI d h (bwI c g (bwI b f (bwI a e 0))) != 0)]) []:=by
 have c1:=bw01 a e 0
 have c2:=bw01 b f (bwI a e 0)
 have c3:=bw01 c g (bwI b f (bwI a e 0))
 (refine Q0n Tryz.func71 rfl (by rfl) ?_;simp only[Tryz.ntmps71,List.length_cons,List.length_nil,Nat.reduceAdd,Nat.reduceSub,List.replicate,List.cons_append,List.nil_append])
 (repeat(any_goals(first|((with_reducible refine Q0c ?_ ?_);rfl;intro K hK;simp(disch:=omega) only[go_sem,wrI,Int.reduceAdd];((repeat(refine ndI (by first|assumption|rfl) ?_));refine hK _ ?_;clear hK K))|(with_reducible first|(refine Q0d ?_;refine hR _ ?_;clear hR R)|((first|refine Q0e ?_|refine Q0l ?_);intro Ψ hΨ hΨ')|(refine Q0a ?_;intro R hR)|(refine hΨ _ ?_;clear hΨ hΨ' Ψ)|refine Q0j ?_|refine Q0h ?_|refine Q1f ?_)|((with_reducible refine hΨ' _ _ ?_ ?_);(focus(simp;done));clear hΨ hΨ' Ψ)|((with_reducible apply Q0f);rfl;rfl;all_goals(intro hc;first|(cases hc;done)|(try simp only at hc)))|(with_reducible refine Q4m 5 ?_)|((with_reducible refine Q5u ?_);intro Ψ hΨ hΨ')|((with_reducible refine Q0v ?_ ?_);kernel_rfl;(with_reducible refine hR _ ?_);clear hR R)|((first|((with_reducible apply Q1c);rfl;rfl;(first|(apply Q6l (Q9p a e 0 u1.1 u5.1 u5.2 (Int.le_refl 0) (by decide));rfl;rfl;rfl;rfl;(focus(simp(disch:=omega) only[AV.ones,Option.map_some,go_sem,wrI,Int.reduceAdd];done)))|(apply Q6l (Q9p b f _ u2.1 u6.1 u6.2 c1.1 c1.2);rfl;rfl;rfl;rfl;(focus(simp(disch:=omega) only[AV.ones,Option.map_some,go_sem,wrI,Int.reduceAdd];done)))|(apply Q6l (Q9p c g _ u3.1 u7.1 u7.2 c2.1 c2.2);rfl;rfl;rfl;rfl;(focus(simp(disch:=omega) only[AV.ones,Option.map_some,go_sem,wrI,Int.reduceAdd];done)))|(apply Q6l (Q9p d h _ u4.1 u8.1 u8.2 c3.1 c3.2);rfl;rfl;rfl;rfl;(focus(simp(disch:=omega) only[AV.ones,Option.map_some,go_sem,wrI,Int.reduceAdd];done)))))|((with_reducible apply Q0w);rfl;rfl;(simp(disch:=omega) only[rdE,rdOf,go_sem,wrI,Int.reduceAdd];rfl);(intro τ hA hQ hN;((try simp only[Q1a,Op.operands,Call.operands,go_sem,wrI,Int.reduceAdd,go_sem,List.mem_cons,List.not_mem_nil,forall_eq_or_imp,forall_eq,List.append_toArray,Option.toArray] at hA);(try simp only[go_sem,wrI,Int.reduceAdd,List.mem_cons,List.not_mem_nil,forall_eq_or_imp,forall_eq] at hQ hN);(first|(revert hA;intro hA));(first|(revert hQ;intro hQ));(first|(revert hN;intro hN));simp(disch:=omega) only[go_sem,wrI,Int.reduceAdd,go_sem,hA,hQ,hN];(repeat(refine ndI (by first|assumption|omega) ?_));(first|apply Q0z|apply Q2g)))));(simp(disch:=omega) only[St.eff,setO,Q0t,go_sem,wrI,Int.reduceAdd]))|((with_reducible refine Q0q ?_ ?_ ?_ ?_);kernel_rfl;kernel_rfl;(first|kernel_rfl);intro R hR))))
 all_goals(refine⟨by simp,⟨_,?_,AV.le_refl _⟩,Q0g (by simp[leH,hget])⟩;simp only[Tryz.results71,resL,ldA,Q0o,go_sem])
theorem sub_nat{x y a0 a1 a2 a3 b0 b1 b2 b3:Nat}(hxw:x<WW)(hyw:y<WW)(hx:x=a0+18446744073709551616*(a1+18446744073709551616*(a2+18446744073709551616*a3)))(hy:y=b0+18446744073709551616*(b1+18446744073709551616*(b2+18446744073709551616*b3)))
 {s0 s1 s2 s3 c1 c2 c3 c4:Nat} (e0:a0+18446744073709551616*c1=s0+b0) (e1:a1+18446744073709551616*c2=s1+b1+c1) (e2:a2+18446744073709551616*c3=s2+b2+c2) (e3:a3+18446744073709551616*c4=s3+b3+c3)
 (h0:s0<18446744073709551616) (h1:s1<18446744073709551616) (h2:s2<18446744073709551616) (h3:s3<18446744073709551616) :
 (x+WW-y)%WW=s0+18446744073709551616*(s1+18446744073709551616*(s2+18446744073709551616*s3))∧(x<y↔c4≠0):=by
 unfold WW at *
 omega
theorem X2t{a b c:Nat}(hb:b<18446744073709551616)(hc:c≤1):sbI a b c=(((a+18446744073709551616-b-c)%18446744073709551616:Nat):Int):=by unfold sbI;omega
theorem X3v{a b c:Nat}:bwI a b c=((if a<b+c then 1 else 0:Nat):Int):=by unfold bwI;split<;>split<;>omega
theorem X7e(x y:Nat)(hx:x<WW)(hy:y<WW):Fn Tryz.prog 52 [wN x,wN y] [] (.tup [wN ((x+WW-y)%WW),vb (decide (x<y))]) []:=by
 have h:=X3t (l0 x) (l1 x) (l2 x) (l3 x) (l0 y) (l1 y) (l2 y) (l3 y) (U0 x) (U1 x) (U2 x) (U3 x) (U0 y) (U1 y) (U2 y) (U3 y)
 obtain⟨a,b,c,d,ex,ha,hb,hc,hd,e0,e1,e2,e3⟩:=Q6d hx
 obtain⟨a',b',c',d',ey,ha',hb',hc',hd',f0,f1,f2,f3⟩:=Q6d hy
 rw[e0,e1,e2,e3,f0,f1,f2,f3] at h
 have z:(0:Int)=((0:Nat):Int):=rfl
 rw[z,X3v] at h
 obtain⟨c1,hc1⟩:∃s:Nat,(if a<a'+0 then 1 else 0)=s:=⟨_,rfl⟩
 have hc1':c1≤1:=by rw[←hc1];split<;>omega
 rw[hc1,X3v] at h
 obtain⟨c2,hc2⟩:∃s:Nat,(if b<b'+c1 then 1 else 0)=s:=⟨_,rfl⟩
 have hc2':c2≤1:=by rw[←hc2];split<;>omega
 rw[hc2,X3v] at h
 obtain⟨c3,hc3⟩:∃s:Nat,(if c<c'+c2 then 1 else 0)=s:=⟨_,rfl⟩
 have hc3':c3≤1:=by rw[←hc3];split<;>omega
 rw[hc3,X3v] at h
 obtain⟨c4,hc4⟩:∃s:Nat,(if d<d'+c3 then 1 else 0)=s:=⟨_,rfl⟩
 have hc4':c4≤1:=by rw[←hc4];split<;>omega
 rw[hc4,X2t ha' (by omega),X2t hb' hc1',X2t hc' hc2',X2t hd' hc3'] at h
 obtain⟨s0,hs0⟩:∃s,(a+18446744073709551616-a'-0)%18446744073709551616=s:=⟨_,rfl⟩
 obtain⟨s1,hs1⟩:∃s,(b+18446744073709551616-b'-c1)%18446744073709551616=s:=⟨_,rfl⟩
 obtain⟨s2,hs2⟩:∃s,(c+18446744073709551616-c'-c2)%18446744073709551616=s:=⟨_,rfl⟩
 obtain⟨s3,hs3⟩:∃s,(d+18446744073709551616-d'-c3)%18446744073709551616=s:=⟨_,rfl⟩
 rw[hs0,hs1,hs2,hs3] at h
 have k0:s0<18446744073709551616:=by omega
 have k1:s1<18446744073709551616:=by omega
 have k2:s2<18446744073709551616:=by omega
 have k3:s3<18446744073709551616:=by omega
 obtain⟨g1,g2⟩:=sub_nat hx hy ex ey (s0:=s0) (c1:=c1) (s1:=s1) (c2:=c2) (s2:=s2) (c3:=c3) (s3:=s3) (c4:=c4) (by split at hc1<;>omega) (by split at hc2<;>omega) (by split at hc3<;>omega) (by split at hc4<;>omega) k0 k1 k2 k3
 obtain⟨m0,m1,m2,m3⟩:=Q9y g1 k0 k1 k2 k3
 rw[←m0,←m1,←m2,←m3] at h
 have hq:(((c4:Nat):Int) != ((0:Nat):Int))=decide (x<y):=by
  rw[Bool.eq_iff_iff]
  simp only[bne_iff_ne,ne_eq,decide_eq_true_eq]
  rw[g2];omega
 rw[hq] at h
 rw[←e0,←e1,←e2,←e3,←f0,←f1,←f2,←f3] at h
 obtain⟨q,hq'⟩:∃q,decide (x<y)=q:=⟨_,rfl⟩
 obtain⟨n,hn⟩:∃n,(x+WW-y)%WW=n:=⟨_,rfl⟩
 rw[hq',hn] at h ⊢
 (refine Q0n Tryz.func52 rfl (by rfl) ?_;simp only[Tryz.ntmps52,List.length_cons,List.length_nil,Nat.reduceAdd,Nat.reduceSub,List.replicate,List.cons_append,List.nil_append])
 (repeat(any_goals(first|((with_reducible refine Q0i ?_ ?_ ?_);rfl;rfl;intro K hK;((apply Q0b (h);rfl;rfl;rfl;rfl;exact Tryz.func71);kernel_rfl;rfl;(focus((simp only[go_sem]);(try rfl);done));(first|rfl));(simp only[go_sem];refine hK _ ?_;clear hK K))|((with_reducible refine Q0c ?_ ?_);rfl;intro K hK;simp only[go_sem];((repeat(refine ndI (by first|assumption) ?_));refine hK _ ?_;clear hK K))|(with_reducible first|(refine Q0d ?_;refine hR _ ?_;clear hR R)|((first|refine Q0e ?_);intro Ψ hΨ hΨ')|(refine Q0a ?_;intro R hR)|(refine hΨ _ ?_;clear hΨ hΨ' Ψ)|refine Q0h ?_))))
 all_goals(refine⟨by simp,⟨_,?_,AV.le_refl _⟩,Q0g (by simp[leH,hget])⟩;simp only[Tryz.results52,resL,ldA,Q0o,go_sem])
end Go.Proofs.YtbmcdemnnbndeaaGreatDoor
namespace Go.Proofs.YtbmcdemnnbndeaaGreatDoor
open Go.RowKit
open Nat (reduceBEq)
set_option maxRecDepth 20000
set_option maxHeartbeats 2000000
theorem X0b(x y c:Int)(hx:0≤x)(hy:0≤y)(hc0:0≤c)(hc:c≤1):Ext Tryz.prog 72 [.int .u64 x,.int .u64 y,.int .u64 c] (.tup [.c (.v (.int .u64 (smI x y c))),.c (.v (.int .u64 (cyI x y c)))]):=
 add64_ext Tryz.func72 (by kernel_rfl) (by kernel_rfl) (by kernel_rfl) (by kernel_rfl) x y c hx hy hc0 hc
theorem cy01{x y c:Int}(hx:U x)(hy:U y)(h:0≤c∧c≤1):0≤cyI x y c∧cyI x y c≤1:=by unfold U at hx hy;unfold cyI;omega
theorem X3u(a b c d e f g h:Int)(u1:U a)(u2:U b)(u3:U c)(u4:U d)(u5:U e)(u6:U f)(u7:U g)(u8:U h):Fn Tryz.prog 71 [w4 a b c d,w4 e f g h,.fn 72 []] []
 (.tup [w4 (smI a e 0) (smI b f (cyI a e 0)) (smI c g (cyI b f (cyI a e 0))) (smI d h (cyI c g (cyI b f (cyI a e 0)))),vb (cyI d h (cyI c g (cyI b f (cyI a e 0))) != 0)]) []:=by
 have c1:=cy01 u1 u5 ⟨Int.le_refl 0,by decide⟩
 have c2:=cy01 u2 u6 c1
 have c3:=cy01 u3 u7 c2
 (refine Q0n Tryz.func71 rfl (by rfl) ?_;simp only[Tryz.ntmps71,List.length_cons,List.length_nil,Nat.reduceAdd,Nat.reduceSub,List.replicate,List.cons_append,List.nil_append])
 (repeat(any_goals(first|((with_reducible refine Q0c ?_ ?_);rfl;intro K hK;simp(disch:=omega) only[go_sem,wrI,Int.reduceAdd];((repeat(refine ndI (by first|assumption|rfl) ?_));refine hK _ ?_;clear hK K))|(with_reducible first|(refine Q0d ?_;refine hR _ ?_;clear hR R)|((first|refine Q0e ?_|refine Q0l ?_);intro Ψ hΨ hΨ')|(refine Q0a ?_;intro R hR)|(refine hΨ _ ?_;clear hΨ hΨ' Ψ)|refine Q0j ?_|refine Q0h ?_|refine Q1f ?_)|((with_reducible refine hΨ' _ _ ?_ ?_);(focus(simp;done));clear hΨ hΨ' Ψ)|((with_reducible apply Q0f);rfl;rfl;all_goals(intro hc;first|(cases hc;done)|(try simp only at hc)))|(with_reducible refine Q4m 5 ?_)|((with_reducible refine Q5u ?_);intro Ψ hΨ hΨ')|((with_reducible refine Q0v ?_ ?_);kernel_rfl;(with_reducible refine hR _ ?_);clear hR R)|((first|((with_reducible apply Q1c);rfl;rfl;(first|(apply Q6l (X0b a e 0 u1.1 u5.1 (Int.le_refl 0) (by decide));rfl;rfl;rfl;rfl;(focus(simp(disch:=omega) only[AV.ones,Option.map_some,go_sem,wrI,Int.reduceAdd];done)))|(apply Q6l (X0b b f _ u2.1 u6.1 c1.1 c1.2);rfl;rfl;rfl;rfl;(focus(simp(disch:=omega) only[AV.ones,Option.map_some,go_sem,wrI,Int.reduceAdd];done)))|(apply Q6l (X0b c g _ u3.1 u7.1 c2.1 c2.2);rfl;rfl;rfl;rfl;(focus(simp(disch:=omega) only[AV.ones,Option.map_some,go_sem,wrI,Int.reduceAdd];done)))|(apply Q6l (X0b d h _ u4.1 u8.1 c3.1 c3.2);rfl;rfl;rfl;rfl;(focus(simp(disch:=omega) only[AV.ones,Option.map_some,go_sem,wrI,Int.reduceAdd];done)))))|((with_reducible apply Q0w);rfl;rfl;(simp(disch:=omega) only[rdE,rdOf,go_sem,wrI,Int.reduceAdd];rfl);(intro τ hA hQ hN;((try simp only[Q1a,Op.operands,Call.operands,go_sem,wrI,Int.reduceAdd,go_sem,List.mem_cons,List.not_mem_nil,forall_eq_or_imp,forall_eq,List.append_toArray,Option.toArray] at hA);(try simp only[go_sem,wrI,Int.reduceAdd,List.mem_cons,List.not_mem_nil,forall_eq_or_imp,forall_eq] at hQ hN);(first|(revert hA;intro hA));(first|(revert hQ;intro hQ));(first|(revert hN;intro hN));simp(disch:=omega) only[go_sem,wrI,Int.reduceAdd,go_sem,hA,hQ,hN];(repeat(refine ndI (by first|assumption|omega) ?_));(first|apply Q0z|apply Q2g)))));(simp(disch:=omega) only[St.eff,setO,Q0t,go_sem,wrI,Int.reduceAdd]))|((with_reducible refine Q0q ?_ ?_ ?_ ?_);kernel_rfl;kernel_rfl;(first|kernel_rfl);intro R hR))))
 all_goals(refine⟨by simp,⟨_,?_,AV.le_refl _⟩,Q0g (by simp[leH,hget])⟩;simp only[Tryz.results71,resL,ldA,Q0o,go_sem])
theorem add_nat{x y a0 a1 a2 a3 b0 b1 b2 b3:Nat}(hx:x=a0+18446744073709551616*(a1+18446744073709551616*(a2+18446744073709551616*a3)))(hy:y=b0+18446744073709551616*(b1+18446744073709551616*(b2+18446744073709551616*b3)))
 {s0 s1 s2 s3 c1 c2 c3 c4:Nat} (e0:a0+b0=s0+18446744073709551616*c1) (e1:a1+b1+c1=s1+18446744073709551616*c2) (e2:a2+b2+c2=s2+18446744073709551616*c3) (e3:a3+b3+c3=s3+18446744073709551616*c4)
 (h0:s0<18446744073709551616) (h1:s1<18446744073709551616) (h2:s2<18446744073709551616) (h3:s3<18446744073709551616) :
 (x+y)%WW=s0+18446744073709551616*(s1+18446744073709551616*(s2+18446744073709551616*s3))∧(x+y)/WW=c4:=by
 unfold WW
 omega
theorem X2s{a b c:Nat}:smI a b c=(((a+b+c)%18446744073709551616:Nat):Int):=by unfold smI;omega
theorem X3s{a b c:Nat}:cyI a b c=(((a+b+c)/18446744073709551616:Nat):Int):=by unfold cyI;omega
theorem X2m(x y:Nat)(hx:x<WW)(hy:y<WW):Fn Tryz.prog 45 [wN x,wN y] [] (.tup [wN ((x+y)%WW),vb (decide (WW≤x+y))]) []:=by
 have h:=X3u (l0 x) (l1 x) (l2 x) (l3 x) (l0 y) (l1 y) (l2 y) (l3 y) (U0 x) (U1 x) (U2 x) (U3 x) (U0 y) (U1 y) (U2 y) (U3 y)
 obtain⟨a,b,c,d,ex,ha,hb,hc,hd,e0,e1,e2,e3⟩:=Q6d hx
 obtain⟨a',b',c',d',ey,ha',hb',hc',hd',f0,f1,f2,f3⟩:=Q6d hy
 rw[e0,e1,e2,e3,f0,f1,f2,f3] at h
 have z:(0:Int)=((0:Nat):Int):=rfl
 rw[z,X2s,X3s,X2s,X3s,X2s,X3s,X2s,X3s] at h
 obtain⟨s0,hs0⟩:∃s,(a+a'+0)%18446744073709551616=s:=⟨_,rfl⟩
 obtain⟨c1,hc1⟩:∃s,(a+a'+0)/18446744073709551616=s:=⟨_,rfl⟩
 rw[hs0,hc1] at h
 obtain⟨s1,hs1⟩:∃s,(b+b'+c1)%18446744073709551616=s:=⟨_,rfl⟩
 obtain⟨c2,hc2⟩:∃s,(b+b'+c1)/18446744073709551616=s:=⟨_,rfl⟩
 rw[hs1,hc2] at h
 obtain⟨s2,hs2⟩:∃s,(c+c'+c2)%18446744073709551616=s:=⟨_,rfl⟩
 obtain⟨c3,hc3⟩:∃s,(c+c'+c2)/18446744073709551616=s:=⟨_,rfl⟩
 rw[hs2,hc3] at h
 obtain⟨s3,hs3⟩:∃s,(d+d'+c3)%18446744073709551616=s:=⟨_,rfl⟩
 obtain⟨c4,hc4⟩:∃s,(d+d'+c3)/18446744073709551616=s:=⟨_,rfl⟩
 rw[hs3,hc4] at h
 have k0:s0<18446744073709551616:=by omega
 have k1:s1<18446744073709551616:=by omega
 have k2:s2<18446744073709551616:=by omega
 have k3:s3<18446744073709551616:=by omega
 obtain⟨g1,g2⟩:=add_nat ex ey (s0:=s0) (c1:=c1) (s1:=s1) (c2:=c2) (s2:=s2) (c3:=c3) (s3:=s3) (c4:=c4) (by omega) (by omega) (by omega) (by omega) k0 k1 k2 k3
 obtain⟨m0,m1,m2,m3⟩:=Q9y g1 k0 k1 k2 k3
 rw[←m0,←m1,←m2,←m3] at h
 have hq:(((c4:Nat):Int) != ((0:Nat):Int))=decide (WW≤x+y):=by
  rw[Bool.eq_iff_iff]
  simp only[bne_iff_ne,ne_eq,decide_eq_true_eq]
  rw[←g2]
  constructor
  · intro h'
    rcases Nat.lt_or_ge (x+y) WW with h|h
    · exact absurd (by rw[Nat.div_eq_of_lt h]) h'
    · exact h
  · intro h' h''
    have:0<(x+y)/WW:=Nat.div_pos h' (by decide)
    omega
 rw[hq] at h
 rw[←e0,←e1,←e2,←e3,←f0,←f1,←f2,←f3] at h
 obtain⟨q,hq'⟩:∃q,decide (WW≤x+y)=q:=⟨_,rfl⟩
 obtain⟨n,hn⟩:∃n,(x+y)%WW=n:=⟨_,rfl⟩
 rw[hq',hn] at h ⊢
 (refine Q0n Tryz.func45 rfl (by rfl) ?_;simp only[Tryz.ntmps45,List.length_cons,List.length_nil,Nat.reduceAdd,Nat.reduceSub,List.replicate,List.cons_append,List.nil_append])
 (repeat(any_goals(first|((with_reducible refine Q0i ?_ ?_ ?_);rfl;rfl;intro K hK;((apply Q0b (h);rfl;rfl;rfl;rfl;exact Tryz.func71);kernel_rfl;rfl;(focus((simp only[go_sem]);(try rfl);done));(first|rfl));(simp only[go_sem];refine hK _ ?_;clear hK K))|((with_reducible refine Q0c ?_ ?_);rfl;intro K hK;simp only[go_sem];((repeat(refine ndI (by first|assumption) ?_));refine hK _ ?_;clear hK K))|(with_reducible first|(refine Q0d ?_;refine hR _ ?_;clear hR R)|((first|refine Q0e ?_);intro Ψ hΨ hΨ')|(refine Q0a ?_;intro R hR)|(refine hΨ _ ?_;clear hΨ hΨ' Ψ)|refine Q0h ?_))))
 all_goals(refine⟨by simp,⟨_,?_,AV.le_refl _⟩,Q0g (by simp[leH,hget])⟩;simp only[Tryz.results45,resL,ldA,Q0o,go_sem])
end Go.Proofs.YtbmcdemnnbndeaaGreatDoor
namespace Go.Proofs.YtbmcdemnnbndeaaGreatDoor
open Go.RowKit
open Nat (reduceBEq)
set_option maxRecDepth 20000
set_option maxHeartbeats 2000000
def wpv(x:Nat):List PV:=[.v (.int .u64 (l0 x)),.v (.int .u64 (l1 x)),.v (.int .u64 (l2 x)),.v (.int .u64 (l3 x))]
abbrev wsl(ex:Bool)(l:List Nat):AV:=.c (.sl ex 4 l.length (l.flatMap wpv))
theorem Q4n(x:Nat):(wpv x).length=4:=rfl
theorem wsl_at{l:List Nat}{i:Nat}{y:Nat}(h:l[i]? = some y):((l.flatMap wpv).drop (i*4)).take 4=[.v (.int .u64 (l0 y)),.v (.int .u64 (l1 y)),.v (.int .u64 (l2 y)),.v (.int .u64 (l3 y))]:=Q5t (f:=wpv) Q4n h
def rcW(l:List Nat):List AV:=(l.flatMap wpv).map .c
theorem Q6i(l:List Nat):(rcW l).length=l.length*4:=by unfold rcW;rw[List.length_map,Q0u Q4n]
theorem Q4w(ρ : Nat→Nat)(l:List Nat):AV.renL ρ (rcW l)=rcW l:=Q0p _ _
theorem Q5q(N:List Nat)(l:List Nat):AV.inNL N (rcW l)=true:=Q0x _ _
theorem X0f(ex:Bool)(l:List Nat)(hl:l.length≤1000)(hw:∀x∈l,x<WW):Fn Tryz.prog 36 [wsl ex l] [] (.tup [wN (l.sum%WW),vb (decide (WW≤l.sum))]) []:=by
 have hW:0<WW:=by decide
 obtain⟨tn,htn⟩:∃n,l.sum%WW=n:=⟨_,rfl⟩
 obtain⟨tq,htq⟩:∃q,decide (WW≤l.sum)=q:=⟨_,rfl⟩
 rw[htn,htq]
 (refine Q0n Tryz.func36 rfl (by rfl) ?_;simp only[Tryz.ntmps36,List.length_cons,List.length_nil,Nat.reduceAdd,Nat.reduceSub,List.replicate,List.cons_append,List.nil_append])
 (repeat(any_goals(first|((with_reducible refine Q0c ?_ ?_);rfl;intro K hK;simp only[go_sem];((repeat(refine ndI (by first|assumption) ?_));refine hK _ ?_;clear hK K))|(with_reducible first|(refine Q0d ?_;refine hR _ ?_;clear hR R)|((first|refine Q0e ?_|refine Q0l ?_);intro Ψ hΨ hΨ')|(refine Q0a ?_;intro R hR)|(refine hΨ _ ?_;clear hΨ hΨ' Ψ)))))
 refine Q5v (α:={p:Nat×Nat×Bool // p.1≤l.length∧p.2.1=(l.take p.1).sum%WW∧p.2.2=decide (WW≤(l.take p.1).sum)}) (fun p=>⟨[wsl ex l,.any,.ptr 2 0,.any,.ptr 4 0,vb p.1.2.2,.any,.any,.any,.any,wsl ex l,vi .i64 l.length,vi .i64 p.1.1,.any,.any,.any,.any,.any,.any,.any,.any,.any,.any,.any,.any,.any,.any,.any,.any,.any],[(2,[vi .u64 0,vi .u64 0,vi .u64 0,vi .u64 0]),(4,[vi .u64 (l0 p.1.2.1),vi .u64 (l1 p.1.2.1),vi .u64 (l2 p.1.2.1),vi .u64 (l3 p.1.2.1)])]⟩) (fun p=>l.length-p.1.1) ⟨(0,0,false),Nat.zero_le _,by simp,by simp[WW]⟩ (St.le_of (by simp[leT]) (by simp[leH,hget,Q2q,Q2p,Q2o,Q2n])) ?_
 rintro ⟨⟨i,n,q⟩,hi,hn,hq⟩ Ψ hΨ hΨ'
 dsimp only at hi hn hq hΨ ⊢
 rcases Nat.lt_or_ge i l.length with hlt|hge
 · obtain⟨y,hy⟩:∃y,l[i]? = some y:=⟨l[i],List.getElem?_eq_getElem hlt⟩
   have k1:(decide ((i:Int)<(l.length:Int)))=true:=by simpa using hlt
   have k2:=wsl_at hy
   have k7:(i:Int)+1=((i+1:Nat):Int):=by omega
   have hnw:n<WW:=by rw[hn];exact Nat.mod_lt _ hW
   have hyw:=hw y (List.mem_of_getElem? hy)
   have ad:=X2m n y hnw hyw
   have hs:(l.take (i+1)).sum=(l.take i).sum+y:=by rw[List.take_add_one,hy];simp
   have h1:(n+y)%WW=(l.take (i+1)).sum%WW:=by rw[hs,hn,Nat.add_mod];simp
   have h2:(q||decide (WW≤n+y))=decide (WW≤(l.take (i+1)).sum):=by
    rw[Bool.eq_iff_iff,hq,hs]
    simp only[Bool.or_eq_true,decide_eq_true_eq]
    rcases Nat.lt_or_ge (l.take i).sum WW with h|h
    · rw[hn,Nat.mod_eq_of_lt h];omega
    · omega
   obtain⟨m,hm⟩:∃m,(n+y)%WW=m:=⟨_,rfl⟩
   obtain⟨b,hb⟩:∃b,decide (WW≤n+y)=b:=⟨_,rfl⟩
   rw[hm,hb] at ad
   rw[hm] at h1
   rw[hb] at h2
   cases q with
   |true=>
    (have W:=ndI k1 (ndI k2 (ndI k7 @wrI));(repeat(any_goals(first|((with_reducible refine Q0i ?_ ?_ ?_);rfl;rfl;intro K hK;((apply Q0b (ad);rfl;rfl;rfl;rfl;exact Tryz.func45);kernel_rfl;rfl;(focus((simp(disch:=omega) only[go_sem,W]);(try rfl);done));(first|rfl));(simp(disch:=omega) only[go_sem,W];refine hK _ ?_;clear hK K))|((with_reducible refine Q0c ?_ ?_);rfl;intro K hK;simp(disch:=omega) only[go_sem,W];((repeat(refine ndI (by first|assumption|omega|rfl) ?_));refine hK _ ?_;clear hK K))|(with_reducible first|(refine Q0d ?_;refine hR _ ?_;clear hR R)|((first|refine Q0e ?_|refine Q0l ?_);intro Ψ hΨ hΨ')|(refine Q0a ?_;intro R hR)|(refine hΨ _ ?_;clear hΨ hΨ' Ψ)|refine Q0j ?_)|((with_reducible refine hΨ' _ _ ?_ ?_);(focus(simp;done));clear hΨ hΨ' Ψ)|((with_reducible apply Q0s);rfl;rfl;rfl;all_goals(intro hb;first|(cases hb;done)|((try simp only[Bool.not_true,Bool.not_false] at hb);(first|((fail_if_success (with_reducible intro _));simp(disch:=omega) only[go_sem,W])))))|((with_reducible apply Q0f);rfl;rfl;all_goals(intro hc;first|(cases hc;done)|(try simp only at hc)))))))
    exact hΨ _ ⟨(i+1,m,true),hlt,h1,by simpa using h2⟩ (by simp only;omega) (St.le_of (by simp[leT]) (by simp[leH,hget]))
   |false=>
    (have W:=ndI k1 (ndI k2 (ndI k7 @wrI));(repeat(any_goals(first|((with_reducible refine Q0i ?_ ?_ ?_);rfl;rfl;intro K hK;((apply Q0b (ad);rfl;rfl;rfl;rfl;exact Tryz.func45);kernel_rfl;rfl;(focus((simp(disch:=omega) only[go_sem,W]);(try rfl);done));(first|rfl));(simp(disch:=omega) only[go_sem,W];refine hK _ ?_;clear hK K))|((with_reducible refine Q0c ?_ ?_);rfl;intro K hK;simp(disch:=omega) only[go_sem,W];((repeat(refine ndI (by first|assumption|omega|rfl) ?_));refine hK _ ?_;clear hK K))|(with_reducible first|(refine Q0d ?_;refine hR _ ?_;clear hR R)|((first|refine Q0e ?_|refine Q0l ?_);intro Ψ hΨ hΨ')|(refine Q0a ?_;intro R hR)|(refine hΨ _ ?_;clear hΨ hΨ' Ψ)|refine Q0j ?_)|((with_reducible refine hΨ' _ _ ?_ ?_);(focus(simp;done));clear hΨ hΨ' Ψ)|((with_reducible apply Q0s);rfl;rfl;rfl;all_goals(intro hb;first|(cases hb;done)|((try simp only[Bool.not_true,Bool.not_false] at hb);(first|((with_reducible intro K hK);simp(disch:=omega) only[go_sem,W];((repeat(refine ndI (by first|assumption|rfl) ?_));refine hK _ ?_;clear hK K))))))|((with_reducible apply Q0f);rfl;rfl;all_goals(intro hc;first|(cases hc;done)|(try simp only at hc)))))))
    exact hΨ _ ⟨(i+1,m,b),hlt,h1,by simpa using h2⟩ (by simp only;omega) (St.le_of (by simp[leT]) (by simp[leH,hget]))
 · have k1:(decide ((i:Int)<(l.length:Int)))=false:=by simpa using hge
   have e:l.take i=l:=List.take_of_length_le hge
   rw[e,htn] at hn
   rw[e,htq] at hq
   rw[hn,hq]
   (repeat(any_goals(first|((with_reducible refine Q0c ?_ ?_);rfl;intro K hK;simp only[go_sem,k1];((repeat(refine ndI (by first|assumption) ?_));refine hK _ ?_;clear hK K))|(with_reducible first|(refine Q0d ?_;refine hR _ ?_;clear hR R)|((first|refine Q0e ?_);intro Ψ hΨ hΨ')|(refine Q0a ?_;intro R hR)|(refine hΨ _ ?_;clear hΨ hΨ' Ψ)|refine Q0h ?_|refine Q1f ?_)|((with_reducible refine hΨ' _ _ ?_ ?_);(focus(simp;done));clear hΨ hΨ' Ψ)|((with_reducible apply Q0f);rfl;rfl;all_goals(intro hc;first|(cases hc;done)|(try simp only at hc))))))
   all_goals(refine⟨by simp,⟨_,?_,AV.le_refl _⟩,Q0g (by simp[leH,hget])⟩;simp only[Tryz.results36,resL,ldA,Q0o,go_sem])
end Go.Proofs.YtbmcdemnnbndeaaGreatDoor
namespace Go.Proofs.YtbmcdemnnbndeaaGreatDoor
open Go.RowKit
open Nat (reduceBEq)
set_option maxRecDepth 20000
set_option maxHeartbeats 2000000
theorem X7y(x y:Nat)(hx:x<WW)(hy:y<WW):Fn Tryz.prog 34 [wN x,wN y] [] (vi .i64 (if x<y then -1 else if y<x then 1 else 0)) []:=by
 have h:∀a b c d e f g h:Int,Fn Tryz.prog 34 [w4 a b c d,w4 e f g h] [] (vi .i64 (if d<h then -1 else if h<d then 1 else if c<g then -1 else if g<c then 1 else if b<f then -1 else if f<b then 1 else if a<e then -1 else if e<a then 1 else 0)) []:=by
  intro a b c d e f g h
  (refine Q0n Tryz.func34 rfl (by rfl) ?_;simp only[Tryz.ntmps34,List.length_cons,List.length_nil,Nat.reduceAdd,Nat.reduceSub,List.replicate,List.cons_append,List.nil_append])
  (repeat(any_goals(first|((with_reducible refine Q0c ?_ ?_);rfl;intro K hK;simp(disch:=omega) only[go_sem,wrI,Int.reduceSub,Int.reduceNeg,Int.reduceGE,decide_true,decide_false,ge_iff_le,gt_iff_lt];((repeat(refine ndI (by first|assumption|rfl) ?_));refine hK _ ?_;clear hK K))|(with_reducible first|(refine Q0d ?_;refine hR _ ?_;clear hR R)|((first|refine Q0e ?_|refine Q0l ?_);intro Ψ hΨ hΨ')|(refine Q0a ?_;intro R hR)|(refine hΨ _ ?_;clear hΨ hΨ' Ψ)|refine Q0j ?_|refine Q0h ?_|refine Q1f ?_)|((with_reducible refine hΨ' _ _ ?_ ?_);(focus(simp;done));clear hΨ hΨ' Ψ)|((with_reducible apply Q0f);rfl;rfl;all_goals(intro hc;first|(cases hc;done)|(try simp only at hc)))|(with_reducible refine Q4m 5 ?_)|((with_reducible refine Q5u ?_);intro Ψ hΨ hΨ')|((with_reducible refine Q0v ?_ ?_);kernel_rfl;(with_reducible refine hR _ ?_);clear hR R)|(((with_reducible apply Q0w);rfl;rfl;(simp(disch:=omega) only[rdE,rdOf,go_sem,wrI,Int.reduceSub,Int.reduceNeg,Int.reduceGE,decide_true,decide_false,ge_iff_le,gt_iff_lt];rfl);(intro τ hA hQ hN;((try simp only[Q1a,Op.operands,Call.operands,go_sem,wrI,Int.reduceSub,Int.reduceNeg,Int.reduceGE,decide_true,decide_false,ge_iff_le,gt_iff_lt,go_sem,List.mem_cons,List.not_mem_nil,forall_eq_or_imp,forall_eq,List.append_toArray,Option.toArray] at hA);(try simp only[go_sem,wrI,Int.reduceSub,Int.reduceNeg,Int.reduceGE,decide_true,decide_false,ge_iff_le,gt_iff_lt,List.mem_cons,List.not_mem_nil,forall_eq_or_imp,forall_eq] at hQ hN);(first|(revert hA;intro hA));(first|(revert hQ;intro hQ));(first|(revert hN;intro hN));simp(disch:=omega) only[go_sem,wrI,Int.reduceSub,Int.reduceNeg,Int.reduceGE,decide_true,decide_false,ge_iff_le,gt_iff_lt,go_sem,hA,hQ,hN];(repeat(refine ndI (by first|assumption|omega|rfl) ?_));(first|apply Q0z))));(simp(disch:=omega) only[St.eff,setO,Q0t,go_sem,wrI,Int.reduceSub,Int.reduceNeg,Int.reduceGE,decide_true,decide_false,ge_iff_le,gt_iff_lt]))|((with_reducible refine Q0q ?_ ?_ ?_ ?_);kernel_rfl;kernel_rfl;(first|kernel_rfl);intro R hR))))
  all_goals(refine⟨by simp,⟨_,?_,AV.le_refl _⟩,Q0g (by simp[leH,hget])⟩;simp only[Tryz.results34,resL,ldA,Q0o,go_sem])
  all_goals simp_all
  all_goals(repeat' split)<;>first|rfl|omega
 have h1:=h (l0 x) (l1 x) (l2 x) (l3 x) (l0 y) (l1 y) (l2 y) (l3 y)
 obtain⟨a,b,c,d,ex,ha,hb,hc,hd,e0,e1,e2,e3⟩:=Q6d hx
 obtain⟨a',b',c',d',ey,ha',hb',hc',hd',f0,f1,f2,f3⟩:=Q6d hy
 have e:(if l3 x<l3 y then(-1:Int) else if l3 y<l3 x then 1 else if l2 x<l2 y then -1 else if l2 y<l2 x then 1 else if l1 x<l1 y then -1 else if l1 y<l1 x then 1 else if l0 x<l0 y then -1 else if l0 y<l0 x then 1 else 0)=(if x<y then -1 else if y<x then 1 else 0):=by
  rw[e0,e1,e2,e3,f0,f1,f2,f3]
  clear h1 h e0 e1 e2 e3 f0 f1 f2 f3 hx hy
  subst ex ey
  repeat' split
  all_goals first|rfl|omega
 rw[e] at h1
 exact h1
end Go.Proofs.YtbmcdemnnbndeaaGreatDoor
namespace Go.Proofs.YtbmcdemnnbndeaaGreatDoor
open Go.RowKit
open Nat (reduceBEq)
set_option maxRecDepth 20000
set_option maxHeartbeats 2000000
structure Pr where
 k:Nat
 v:Nat
def Pr.ok(p:Pr):Prop:=p.k<WW∧p.v<WW
def Pr.pv(p:Pr):List PV:=[.v (.int .u64 (l0 p.k)),.v (.int .u64 (l1 p.k)),.v (.int .u64 (l2 p.k)),.v (.int .u64 (l3 p.k)),.v (.int .u64 (l0 p.v)),.v (.int .u64 (l1 p.v)),.v (.int .u64 (l2 p.v)),.v (.int .u64 (l3 p.v))]
theorem Q9d(p:Pr):p.pv.length=8:=rfl
def bpv(b:Nat):List PV:=[.v (.int .u8 (b:Int))]
theorem Q3f(b:Nat):(bpv b).length=1:=rfl
abbrev bsV(l:List Nat):PV:=.sl false 1 l.length (l.flatMap bpv)
abbrev psV(l:List Pr):PV:=.sl false 8 l.length (l.flatMap Pr.pv)
structure Ac where
 a:Int
 b:Nat
 n:Int
 code:List Nat
 store:List Pr
def Ac.ok(x:Ac):Prop:=U x.a∧x.b<WW∧U x.n∧(x.code.length≤maxLen∧∀c∈x.code,c<256)∧x.store.length≤maxLen∧∀p∈x.store,p.ok
def Ac.pv(x:Ac):List PV:=[.v (.int .u64 x.a),.v (.int .u64 (l0 x.b)),.v (.int .u64 (l1 x.b)),.v (.int .u64 (l2 x.b)),.v (.int .u64 (l3 x.b)),.v (.int .u64 x.n),bsV x.code,psV x.store]
theorem Q6a(x:Ac):x.pv.length=8:=rfl
abbrev ac8(a:Int)(b:Nat)(n:Int)(c s:PV):List AV:=[vi .u64 a,vi .u64 (l0 b),vi .u64 (l1 b),vi .u64 (l2 b),vi .u64 (l3 b),vi .u64 n,.c c,.c s]
abbrev acA(x:Ac):AV:=.agg (ac8 x.a x.b x.n (bsV x.code) (psV x.store))
abbrev acS(ex:Bool)(l:List Ac):AV:=.c (.sl ex 8 l.length (l.flatMap Ac.pv))
abbrev stA(ex:Bool)(l:List Ac):AV:=.agg [acS ex l]
theorem ps_at{l:List Pr}{i:Nat}{y:Pr}(h:l[i]? = some y):((l.flatMap Pr.pv).drop (i*8)).take 8=[.v (.int .u64 (l0 y.k)),.v (.int .u64 (l1 y.k)),.v (.int .u64 (l2 y.k)),.v (.int .u64 (l3 y.k)),.v (.int .u64 (l0 y.v)),.v (.int .u64 (l1 y.v)),.v (.int .u64 (l2 y.v)),.v (.int .u64 (l3 y.v))]:=Q5t (f:=Pr.pv) Q9d h
theorem X5v{l:List Ac}{i:Nat}{y:Ac}(h:l[i]? = some y):((l.flatMap Ac.pv).drop (i*8)).take 8=[.v (.int .u64 y.a),.v (.int .u64 (l0 y.b)),.v (.int .u64 (l1 y.b)),.v (.int .u64 (l2 y.b)),.v (.int .u64 (l3 y.b)),.v (.int .u64 y.n),bsV y.code,psV y.store]:=Q5t (f:=Ac.pv) Q6a h
def okP(st:List Pr)(j:Nat):Bool:=match st[j]? with
 |none=>true
 |some p=>decide (p.v≠0)&&(decide (j=0)||match st[j-1]? with
  |some q=>decide (q.k<p.k)
  |none=>true)
def okTo(st:List Pr):Nat→Bool
 |0=>true
 |i+1=>okTo st i&&okP st i
def okAc(x:Ac):Bool:=decide (x.a≠0)&&decide (x.code.length≤200)&&decide (x.store.length≤24)&&okTo x.store x.store.length
theorem okP_zero{st:List Pr}{p:Pr}(h:st[0]? = some p):okP st 0=decide (p.v≠0):=by
 unfold okP;rw[h];simp
theorem X7q{st:List Pr}{j:Nat}{q p:Pr}(hq:st[j]? = some q)(hp:st[j+1]? = some p):okP st (j+1)=(decide (p.v≠0)&&decide (q.k<p.k)):=by
 unfold okP;rw[hp];simp[hq]
theorem zero_dec{x:Nat}(hx:x<WW):(l0 x==0&&(l1 x==0&&(l2 x==0&&l3 x==0))) = !decide (x≠0):=by
 rw[X0c hx]
 by_cases h:x=0<;>simp[h]
theorem check_no(x:Ac)(hl:x.store.length≤maxLen)(hc:x.code.length≤maxLen)(h0:(decide (x.a≠0)&&decide (x.code.length≤200)&&decide (x.store.length≤24))=false):Fn Tryz.prog 56 [acA x] [] (vi .i64 161) []:=by
 obtain⟨a,b,n,code,store⟩:=x
 dsimp only at hl hc h0
 obtain⟨p1,e1⟩:∃p,decide (a≠0)=p:=⟨_,rfl⟩
 obtain⟨p2,e2⟩:∃p,decide (code.length≤200)=p:=⟨_,rfl⟩
 obtain⟨p3,e3⟩:∃p,decide (store.length≤24)=p:=⟨_,rfl⟩
 have f1:(a != 0)=p1:=by rw[←e1];by_cases h:a=0<;>simp[h]
 have f2:decide ((code.length:Int)≤200)=p2:=by rw[←e2];exact decide_eq_decide.2 (by omega)
 have f3:decide ((store.length:Int)≤24)=p3:=by rw[←e3];exact decide_eq_decide.2 (by omega)
 rw[e1,e2,e3] at h0
 clear e1 e2 e3
 have hlv:store.length<9223372036854775808:=Nat.lt_succ_of_le hl
 (refine Q0n Tryz.func56 rfl (by rfl) ?_;simp only[Tryz.ntmps56,List.length_cons,List.length_nil,Nat.reduceAdd,Nat.reduceSub,List.replicate,List.cons_append,List.nil_append])
 (have W:=ndI f1 (ndI f2 f3);(repeat(any_goals(first|((with_reducible refine Q0c ?_ ?_);rfl;intro K hK;simp only[go_sem,W];((repeat(refine ndI (by first|assumption) ?_));refine hK _ ?_;clear hK K))|(with_reducible first|(refine Q0d ?_;refine hR _ ?_;clear hR R)|((first|refine Q0e ?_|refine Q0l ?_);intro Ψ hΨ hΨ')|(refine Q0a ?_;intro R hR)|(refine hΨ _ ?_;clear hΨ hΨ' Ψ))|((with_reducible apply Q0s);rfl;rfl;rfl;all_goals(intro hb;first|(cases hb;done)|((try simp only[Bool.not_true,Bool.not_false] at hb);(first|((with_reducible intro K hK);simp only[go_sem,W];((repeat(refine ndI (by first|assumption) ?_));refine hK _ ?_;clear hK K))|((fail_if_success (with_reducible intro _));simp only[go_sem,W])))))))))
 all_goals refine Q3n store.length (fun i=>⟨[.any,.ptr 1 0,vi .i64 0,vb false,.any,.any,.any,.any,.any,.any,.any,.any,.any,.any,.any,.any,.any,.any,.any,.any,.any,.any,.c (psV store),vi .i64 store.length,vi .i64 (i:Int),.any,.any,.any,.any,.any,.any,.any,.any,.any,.any,.any,.any,.any,.any,.any,.any,.any,.any,.any,.any,.any,.any,.any,.any,.any,.any,.any,.any,.any,.any,.any],[(1,ac8 a b n (bsV code) (psV store))]⟩) (St.le_of (by simp_all [leT]) (by simp[leH,hget])) ?_
 all_goals intro i hi Ψ hΨ hΨ'
 all_goals(try dsimp only at hΨ ⊢)
 all_goals rcases Nat.lt_or_ge i store.length with hlt|hge
 all_goals first
  |(have k1:(decide ((i:Int)<(store.length:Int)))=true:=decide_eq_true (by omega))
  |(have k1:(decide ((i:Int)<(store.length:Int)))=false:=decide_eq_false (by omega))
 all_goals first
  |(have hx:=hlt
    obtain⟨p,hp⟩:∃p,store[i]? = some p:=⟨_,List.getElem?_eq_getElem hx⟩
    have k2:=ps_at hp)
  |(have k2:=True.intro)
 all_goals have k7:(i:Int)+1=((i+1:Nat):Int):=by omega
 all_goals(have W:=ndI k1 (ndI k2 (ndI k7 @wrI));(repeat(any_goals(first|((with_reducible refine Q0c ?_ ?_);rfl;intro K hK;simp(disch:=omega) only[go_sem,W];((repeat(refine ndI (by first|assumption|omega|rfl) ?_));refine hK _ ?_;clear hK K))|(with_reducible first|(refine Q0d ?_;refine hR _ ?_;clear hR R)|((first|refine Q0e ?_|refine Q0l ?_);intro Ψ hΨ hΨ')|(refine Q0a ?_;intro R hR)|(refine hΨ _ ?_;clear hΨ hΨ' Ψ)|refine Q0j ?_|refine Q0h ?_|refine Q1f ?_)|((with_reducible refine hΨ' _ _ ?_ ?_);(focus(simp;done));clear hΨ hΨ' Ψ)|((with_reducible apply Q0f);rfl;rfl;all_goals(intro hc;first|(cases hc;done)|(try simp only at hc)))|((with_reducible refine Q0v ?_ ?_);kernel_rfl;(with_reducible refine hR _ ?_);clear hR R)|((first|((with_reducible apply Q2y);rfl;rfl;rfl;rfl)|((with_reducible apply Q3l);rfl;rfl;rfl)|((first|((with_reducible apply Q0w);rfl;rfl));(simp(disch:=omega) only[rdE,rdOf,go_sem,W];rfl);(intro τ hA hQ hN;((try simp only[Q1a,Op.operands,Call.operands,go_sem,W,go_sem,List.mem_cons,List.not_mem_nil,forall_eq_or_imp,forall_eq,List.append_toArray,Option.toArray] at hA);(try simp only[go_sem,W,List.mem_cons,List.not_mem_nil,forall_eq_or_imp,forall_eq] at hQ hN);(first|(revert hA;intro hA));(first|(revert hQ;intro hQ));(first|(revert hN;intro hN));simp(disch:=omega) only[go_sem,W,go_sem,hA,hQ,hN];(repeat(refine ndI (by first|assumption|rfl) ?_));(first|apply Q0z)))));(simp(disch:=omega) only[St.eff,setO,Q0t,go_sem,W]))|((with_reducible refine Q0q ?_ ?_ ?_ ?_);kernel_rfl;kernel_rfl;(first|kernel_rfl);intro R hR)))))
 all_goals first|exact hΨ _ hlt (St.le_of (by simp[leT]) (by simp[leH,hget]))|(refine⟨by simp,⟨_,?_,AV.le_refl _⟩,Q0g (by simp[leH,hget])⟩;simp only[Tryz.results56,resL,ldA,Q0o,go_sem])
theorem check_yes(x:Ac)(hs:∀p∈x.store,p.ok)(h0:(decide (x.a≠0)&&decide (x.code.length≤200)&&decide (x.store.length≤24))=true):Fn Tryz.prog 56 [acA x] [] (vi .i64 (if okTo x.store x.store.length then 0 else 161)) []:=by
 obtain⟨a,b,n,code,store⟩:=x
 dsimp only at hs h0 ⊢
 simp only[Bool.and_eq_true,decide_eq_true_eq] at h0
 obtain⟨⟨h1,h2⟩,h3⟩:=h0
 have f1:(a != 0)=true:=by simp[h1]
 have f2:decide ((code.length:Int)≤200)=true:=decide_eq_true (by omega)
 have f3:decide ((store.length:Int)≤24)=true:=decide_eq_true (by omega)
 obtain⟨rr,hrr⟩:∃r,okTo store store.length=r:=⟨_,rfl⟩
 rw[hrr]
 (refine Q0n Tryz.func56 rfl (by rfl) ?_;simp only[Tryz.ntmps56,List.length_cons,List.length_nil,Nat.reduceAdd,Nat.reduceSub,List.replicate,List.cons_append,List.nil_append])
 (have W:=ndI f1 (ndI f2 f3);(repeat(any_goals(first|((with_reducible refine Q0c ?_ ?_);rfl;intro K hK;simp only[go_sem,W];((repeat(refine ndI (by first|assumption) ?_));refine hK _ ?_;clear hK K))|(with_reducible first|(refine Q0d ?_;refine hR _ ?_;clear hR R)|((first|refine Q0e ?_|refine Q0l ?_);intro Ψ hΨ hΨ')|(refine Q0a ?_;intro R hR)|(refine hΨ _ ?_;clear hΨ hΨ' Ψ))|((with_reducible apply Q0s);rfl;rfl;rfl;all_goals(intro hb;first|(cases hb;done)|((try simp only[Bool.not_true,Bool.not_false] at hb);(first|((with_reducible intro K hK);simp only[go_sem,W];((repeat(refine ndI (by first|assumption) ?_));refine hK _ ?_;clear hK K))))))))))
 refine Q3n store.length (fun i=>⟨[.any,.ptr 1 0,vi .i64 0,vb (okTo store i),.any,.any,.any,.any,.any,.any,.any,.any,.any,.any,.any,.any,.any,.any,.any,.any,.any,.any,.c (psV store),vi .i64 store.length,vi .i64 (i:Int),.any,.any,.any,.any,.any,.any,.any,.any,.any,.any,.any,.any,.any,.any,.any,.any,.any,.any,.any,.any,.any,.any,.any,.any,.any,.any,.any,.any,.any,.any,.any],[(1,ac8 a b n (bsV code) (psV store))]⟩) (St.le_of (by simp[leT,okTo]) (by simp[leH,hget])) ?_
 intro i hi Ψ hΨ hΨ'
 (try dsimp only at hΨ ⊢)
 have k7:(i:Int)+1=((i+1:Nat):Int):=by omega
 rcases Nat.lt_or_ge i store.length with hlt|hge
 · obtain⟨p,hp⟩:∃p,store[i]? = some p:=⟨_,List.getElem?_eq_getElem hlt⟩
   have k1:(decide ((i:Int)<(store.length:Int)))=true:=decide_eq_true (by omega)
   have k2:=ps_at hp
   have hv:=zero_dec (hs p (List.mem_of_getElem? hp)).2
   obtain⟨q1,hq1⟩:∃q,decide (p.v≠0)=q:=⟨_,rfl⟩
   rw[hq1] at hv
   have hnx:okTo store (i+1)=(okTo store i&&okP store i):=rfl
   rw[hnx] at hΨ
   generalize okTo store i=g at hΨ ⊢
   rcases Nat.eq_zero_or_pos i with h0|h0
   · have n3:((i:Int)==0)=true:=by rw[h0];rfl
     have hok:okP store i=q1:=by
      rw[h0] at hp ⊢
      rw[okP_zero hp,hq1]
     rw[hok] at hΨ
     cases g<;>cases q1
     all_goals simp only[Bool.not_true,Bool.not_false] at hv
     all_goals(have W:=ndI k1 (ndI k2 (ndI k7 (ndI n3 @wrI)));(repeat(any_goals(first|((with_reducible refine Q0c ?_ ?_);rfl;intro K hK;simp(disch:=omega) only[go_sem,W,hv];((repeat(refine ndI (by first|assumption|omega|rfl) ?_));refine hK _ ?_;clear hK K))|(with_reducible first|(refine Q0d ?_;refine hR _ ?_;clear hR R)|((first|refine Q0e ?_|refine Q0l ?_);intro Ψ hΨ hΨ')|(refine Q0a ?_;intro R hR)|(refine hΨ _ ?_;clear hΨ hΨ' Ψ)|refine Q0j ?_)|((with_reducible refine hΨ' _ _ ?_ ?_);(focus(simp;done));clear hΨ hΨ' Ψ)|((with_reducible apply Q0f);rfl;rfl;all_goals(intro hc;first|(cases hc;done)|(try simp only at hc)))|((with_reducible refine Q0v ?_ ?_);kernel_rfl;(with_reducible refine hR _ ?_);clear hR R)|((first|((with_reducible apply Q2y);rfl;rfl;rfl;rfl)|((with_reducible apply Q3l);rfl;rfl;rfl)|((first|((with_reducible apply Q0w);rfl;rfl)|((with_reducible apply Q1u);rfl;rfl;rfl;rfl;rfl));(simp(disch:=omega) only[rdE,rdOf,go_sem,W,hv];rfl);(intro τ hA hQ hN;((try simp only[Q1a,Op.operands,Call.operands,go_sem,W,hv,go_sem,List.mem_cons,List.not_mem_nil,forall_eq_or_imp,forall_eq,List.append_toArray,Option.toArray] at hA);(try simp only[go_sem,W,hv,List.mem_cons,List.not_mem_nil,forall_eq_or_imp,forall_eq] at hQ hN);(first|(revert hA;intro hA));(first|(revert hQ;intro hQ));(first|(revert hN;intro hN));simp(disch:=omega) only[go_sem,W,hv,go_sem,hA,hQ,hN];(repeat(refine ndI (by first|assumption|rfl) ?_));(first|apply Q0z)))));(simp(disch:=omega) only[St.eff,setO,Q0t,go_sem,W,hv]))|((with_reducible refine Q0q ?_ ?_ ?_ ?_);kernel_rfl;kernel_rfl;(first|kernel_rfl);intro R hR)))))
     all_goals exact hΨ _ hlt (St.le_of (by simp[leT]) (by simp[leH,hget]))
   · obtain⟨j,hj⟩:∃j,i=j+1:=⟨i-1,by omega⟩
     obtain⟨q,hq⟩:∃q,store[j]? = some q:=⟨_,List.getElem?_eq_getElem (by omega)⟩
     have n3:((i:Int)==0)=false:=by rw[beq_eq_false_iff_ne];omega
     have n4:=ps_at hq
     have n5:(i:Int)-1=(j:Int):=by omega
     have hjl:j<store.length:=by omega
     have cm:=X7y q.k p.k (hs q (List.mem_of_getElem? hq)).1 (hs p (List.mem_of_getElem? hp)).1
     obtain⟨q2,hq2⟩:∃c,decide (q.k<p.k)=c:=⟨_,rfl⟩
     have hok:okP store i=(q1&&q2):=by
      rw[hj] at hp ⊢
      rw[X7q hq hp,hq1,hq2]
     rw[hok] at hΨ
     obtain⟨cv,hcv,hcd⟩:∃cv:Int,(if q.k<p.k then -1 else if p.k<q.k then 1 else 0:Int)=cv∧decide (cv<0)=q2:=by
      refine⟨_,rfl,?_⟩
      rw[←hq2]
      by_cases h:q.k<p.k
      · rw[if_pos h,decide_eq_true h];rfl
      · rw[if_neg h,decide_eq_false h];split<;>rfl
     rw[hcv] at cm
     cases g<;>cases q1<;>cases q2
     all_goals simp only[Bool.not_true,Bool.not_false] at hv
     all_goals(have W:=ndI k1 (ndI k2 (ndI k7 (ndI n3 (ndI n4 (ndI n5 @wrI)))));(repeat(any_goals(first|((with_reducible refine Q0c ?_ ?_);rfl;intro K hK;simp(disch:=omega) only[go_sem,W,hv,hcd];((repeat(refine ndI (by first|assumption|omega|rfl) ?_));refine hK _ ?_;clear hK K))|(with_reducible first|(refine Q0d ?_;refine hR _ ?_;clear hR R)|((first|refine Q0e ?_|refine Q0l ?_);intro Ψ hΨ hΨ')|(refine Q0a ?_;intro R hR)|(refine hΨ _ ?_;clear hΨ hΨ' Ψ)|refine Q0j ?_)|((with_reducible refine hΨ' _ _ ?_ ?_);(focus(simp;done));clear hΨ hΨ' Ψ)|((with_reducible apply Q0f);rfl;rfl;all_goals(intro hc;first|(cases hc;done)|(try simp only at hc)))|((with_reducible refine Q0v ?_ ?_);kernel_rfl;(with_reducible refine hR _ ?_);clear hR R)|((first|((with_reducible apply Q2y);rfl;rfl;rfl;rfl)|((with_reducible apply Q3l);rfl;rfl;rfl)|((first|((with_reducible apply Q4v);rfl;rfl;rfl;rfl;rfl));((apply Q0r (cm);rfl;rfl;rfl;rfl;exact Tryz.func34);kernel_rfl;rfl;(focus((simp(disch:=omega) only[go_sem,W,hv,hcd]);(try rfl);done));(first|rfl)))|((first|((with_reducible apply Q0w);rfl;rfl)|((with_reducible apply Q1u);rfl;rfl;rfl;rfl;rfl));(simp(disch:=omega) only[rdE,rdOf,go_sem,W,hv,hcd];rfl);(intro τ hA hQ hN;((try simp only[Q1a,Op.operands,Call.operands,go_sem,W,hv,hcd,go_sem,List.mem_cons,List.not_mem_nil,forall_eq_or_imp,forall_eq,List.append_toArray,Option.toArray] at hA);(try simp only[go_sem,W,hv,hcd,List.mem_cons,List.not_mem_nil,forall_eq_or_imp,forall_eq] at hQ hN);(first|(revert hA;intro hA));(first|(revert hQ;intro hQ));(first|(revert hN;intro hN));simp(disch:=omega) only[go_sem,W,hv,hcd,go_sem,hA,hQ,hN];(repeat(refine ndI (by first|assumption|omega|rfl) ?_));(first|apply Q0z)))));(simp(disch:=omega) only[St.eff,setO,Q0t,go_sem,W,hv,hcd]))|((with_reducible refine Q0q ?_ ?_ ?_ ?_);kernel_rfl;kernel_rfl;(first|kernel_rfl);intro R hR)))))
     all_goals exact hΨ _ hlt (St.le_of (by simp[leT]) (by simp[leH,hget]))
 · have k1:(decide ((i:Int)<(store.length:Int)))=false:=decide_eq_false (by omega)
   have e:i=store.length:=by omega
   rw[e,hrr]
   rw[e] at k1
   (repeat(any_goals(first|((with_reducible refine Q0c ?_ ?_);rfl;intro K hK;simp only[go_sem,k1];((repeat(refine ndI (by first|assumption) ?_));refine hK _ ?_;clear hK K))|(with_reducible first|(refine Q0d ?_;refine hR _ ?_;clear hR R)|((first|refine Q0e ?_);intro Ψ hΨ hΨ')|(refine Q0a ?_;intro R hR)|(refine hΨ _ ?_;clear hΨ hΨ' Ψ)|refine Q0j ?_|refine Q0h ?_|refine Q1f ?_)|((with_reducible refine hΨ' _ _ ?_ ?_);(focus(simp;done));clear hΨ hΨ' Ψ)|((with_reducible apply Q0f);rfl;rfl;all_goals(intro hc;first|(cases hc;done)|(try simp only at hc))))))
   all_goals simp only[Bool.not_eq_true',Bool.not_eq_false'] at hc
   all_goals rw[hc]
   all_goals(refine⟨by simp,⟨_,?_,AV.le_refl _⟩,Q0g (by simp[leH,hget])⟩;simp only[Tryz.results56,resL,ldA,Q0o,go_sem])
theorem check_fn(x:Ac)(hs:∀p∈x.store,p.ok)(hl:x.store.length≤maxLen)(hc:x.code.length≤maxLen):Fn Tryz.prog 56 [acA x] [] (vi .i64 (if okAc x then 0 else 161)) []:=by
 unfold okAc
 obtain⟨c,h0⟩:∃c,(decide (x.a≠0)&&decide (x.code.length≤200)&&decide (x.store.length≤24))=c:=⟨_,rfl⟩
 rw[h0]
 cases c
 · rw[Bool.false_and]
   exact check_no x hl hc h0
 · rw[Bool.true_and]
   exact check_yes x hs h0
def Q1s(x:Ac):Bool:=decide (x.b=0)&&decide (x.n=0)&&decide (x.code.length+x.store.length=0)
theorem Q7a(x:Ac)(hb:x.b<WW)(hl:x.store.length≤maxLen)(hc:x.code.length≤maxLen)(h:x.code.length+x.store.length≤maxLen):Fn Tryz.prog 57 [acA x] [] (vb (Q1s x)) []:=by
 obtain⟨a,b,n,code,store⟩:=x
 dsimp only at hb hl hc h
 unfold Q1s
 dsimp only
 have f1:=X0c hb
 obtain⟨p1,e1⟩:∃p,decide (b=0)=p:=⟨_,rfl⟩
 obtain⟨p2,e2⟩:∃p,decide (n=0)=p:=⟨_,rfl⟩
 obtain⟨p3,e3⟩:∃p,decide (code.length+store.length=0)=p:=⟨_,rfl⟩
 have f2:(n==0)=p2:=by rw[←e2,Bool.eq_iff_iff];simp
 have f3:((code.length:Int)+(store.length:Int))=((code.length+store.length:Nat):Int):=by omega
 have f4:(((code.length+store.length:Nat):Int)==0)=p3:=by
  rw[←e3,Bool.eq_iff_iff,beq_iff_eq,decide_eq_true_eq];omega
 have hm:code.length+store.length<9223372036854775808:=Nat.lt_succ_of_le h
 rw[e1] at f1
 rw[e1,e2,e3]
 clear e1 e2 e3
 generalize code.length+store.length=m at f3 f4 hm
 cases p1<;>cases p2<;>cases p3
 all_goals(refine Q0n Tryz.func57 rfl (by rfl) ?_;simp only[Tryz.ntmps57,List.length_cons,List.length_nil,Nat.reduceAdd,Nat.reduceSub,List.replicate,List.cons_append,List.nil_append])
 all_goals(have W:=ndI f1 (ndI f2 (ndI f3 (ndI f4 @wrI)));(repeat(any_goals(first|((with_reducible refine Q0c ?_ ?_);rfl;intro K hK;simp(disch:=omega) only[go_sem,W];((repeat(refine ndI (by first|assumption|rfl) ?_));refine hK _ ?_;clear hK K))|(with_reducible first|(refine Q0d ?_;refine hR _ ?_;clear hR R)|((first|refine Q0e ?_);intro Ψ hΨ hΨ')|(refine Q0a ?_;intro R hR)|(refine hΨ _ ?_;clear hΨ hΨ' Ψ)|refine Q0h ?_)|((with_reducible apply Q0s);rfl;rfl;rfl;all_goals(intro hb;first|(cases hb;done)|((try simp only[Bool.not_true,Bool.not_false] at hb);(first|((with_reducible intro K hK);simp(disch:=omega) only[go_sem,W];((repeat(refine ndI (by first|assumption|rfl) ?_));refine hK _ ?_;clear hK K))|((fail_if_success (with_reducible intro _));simp(disch:=omega) only[go_sem,W])))))))))
 all_goals(refine⟨by simp,⟨_,?_,AV.le_refl _⟩,Q0g (by simp[leH,hget])⟩;simp only[Tryz.results57,resL,ldA,Q0o,go_sem])
 all_goals rfl
end Go.Proofs.YtbmcdemnnbndeaaGreatDoor
namespace Go.Proofs.YtbmcdemnnbndeaaGreatDoor
open Go.RowKit Go.Lib
abbrev Fr(ro:Option Nat):Fence:={Fence.wide with round:=ro}
def opNd(o:Oper):Bool:=match o.op with | .defer _=>false|_=>true
theorem opNd_ne{o:Oper}(h:opNd o=true):∀c,o.op≠.defer c:=fun c e=>by simp[opNd,e] at h
theorem X1u{P:Program}{ro:Option Nat}{o:Oper}{a:Act}{w:World}{K:Act→World→Prop}{Q:Exit→Act→World→Prop}(hd:opNd o=true)(h:o.wp P a w K Q):o.wpIn (Fr ro) 0 P a w K Q:=by
 refine⟨fun _ _=>trivial,?_⟩
 rw[Oper.semAt_eq _ _ _ (opNd_ne hd)]
 unfold Oper.wp at h
 generalize (execOp a.eval o).run P w=r at h ⊢
 cases r with
 |ok x w'=>
  cases x with
  |value v=>exact h
  |skip=>exact h
  |defer d=>exact h
  |enter f args=>exact⟨fun e=>(by cases e),(callsIn_wide (n:=0-1)).2 h⟩
  |row row args=>exact⟨fun e=>(by cases e),fun c cs _=>let ⟨v,w',r,s⟩:=h c cs;⟨v,w',r,stepsIn_wide.2 s⟩⟩
  |_=>exact h.elim
 |halt x w'=>cases x<;>first|exact h|exact h.elim
theorem X6u{P:Program}{ops:Array Oper}{K:St→Prop}{ro:Option Nat}{Q:Exit→Act→World→Prop}{more:List Oper}:∀(l:List Oper),l.all opNd=true→∀(σ : St),evL P ops l σ K→∀(E:Env) (ι : Nat→Nat×Nat×Nat) (a:Act) (w:World),Conc E ι σ a w →
 (∀ι' σ' a' w',K σ'→Conc E ι' σ' a' w'→wpListIn (Fr ro) 0 P ops Q more a' w')→wpListIn (Fr ro) 0 P ops Q (l++more) a w
 |[],_,σ,h,E,ι,a,w,hc,hk=>hk ι σ a w h hc
 |o::rest,hnd,σ,h,E,ι,a,w,hc,hk=>by
  rw[List.all_cons,Bool.and_eq_true] at hnd
  obtain⟨hn1,hn2⟩:=hnd
  unfold evL at h
  split at h
  · rename_i hg
    refine wpListIn_plain hg fun K hK=>?_
    exact X1u hn1 (h E ι a w hc K _ fun ι' σ' a' w' hk' hc'=>hK _ _ (X6u rest hn2 σ' hk' E ι' a' w' hc' hk))
  · rename_i j want hg
    split at h
    · rename_i d hd
      split at h
      · rename_i b hb
        have hv:=hc.tmp d
        rw[hb] at hv
        obtain⟨e,_⟩:=hv.v_inv
        have hlt:d<a.tmps.size:=by
         rw[hc.size]
         rcases Nat.lt_or_ge d σ.T.length with h|h
         · exact h
         · rw[List.getD_eq_getElem?_getD,List.getElem?_eq_none h] at hb;cases hb
        have hy:yielded ops a.tmps j=some b:=by
         unfold yielded
         rw[hd]
         simp only[Option.bind_some]
         have:a.tmps[d]? = some (.bool b):=by
          rw[Array.getElem?_eq_getElem hlt]
          simp only[Array.getD,hlt,dif_pos] at e
          simpa using e
         rw[this]
        refine wpListIn_step fun K hK=>?_
        have hw:Region.wanted o (yielded ops a.tmps)=(some b==some want):=by
         unfold Region.wanted
         rw[hg]
         simp only[hy]
        rw[hw]
        by_cases hbw:b=want
        · subst hbw
          simp only[beq_self_eq_true,if_true]
          have h1:=h.1 rfl
          rw[Q6y hb (by simp)] at h1
          exact X1u hn1 (h1 E ι a w hc K _ fun ι' σ' a' w' hk' hc'=>hK _ _ (X6u rest hn2 σ' hk' E ι' a' w' hc' hk))
        · have hbw':b = !want:=by cases b<;>cases want<;>simp_all
          have:(some b==some want)=false:=by simp[hbw]
          simp only[this,Bool.false_eq_true,if_false]
          have h2:=h.2 hbw'
          rw[Q6y (by rw[hb,hbw']) (by simp)] at h2
          exact⟨fun _ _=>trivial,hK _ _ (X6u rest hn2 _ h2 E ι _ w (hc.put o.dst .undef) hk)⟩
      · rename_i hb
        have hv:=hc.tmp d
        rw[hb] at hv
        have e:=hv.undef_inv
        have hy:yielded ops a.tmps j=none:=by
         unfold yielded
         rw[hd]
         simp only[Option.bind_some]
         simp only[Array.getD_eq_getD_getElem?] at e
         cases hh:a.tmps[d]? with
         |none=>rfl
         |some u=>rw[hh] at e;simp only[Option.getD_some] at e;rw[e];rfl
        refine wpListIn_step fun K hK=>?_
        have hw:Region.wanted o (yielded ops a.tmps)=false:=by
         unfold Region.wanted
         rw[hg]
         simp only[hy]
         rfl
        rw[hw]
        simp only[Bool.false_eq_true,if_false]
        exact⟨fun _ _=>trivial,hK _ _ (X6u rest hn2 _ h E ι _ w (hc.put o.dst .undef) hk)⟩
      · exact h.elim
    · exact h.elim
def Q6s:Code→Bool
 |.skip=>true
 |.region _ ops d=>!d&&ops.toList.all opNd
 |.seq a b=>Q6s a&&Q6s b
 |.cond _ a b=>Q6s a&&Q6s b
 |.block _ c=>Q6s c
 |.exit _=>true
 |.ret=>true
 |_=>false
theorem X6w{P:Program}{ro:Option Nat}:∀(c:Code),Q6s c=true→∀(σ : St) (Φ : Exit→St→Prop),evC P c σ Φ→∀(E:Env) (ι : Nat→Nat×Nat×Nat) (a:Act) (w:World),Conc E ι σ a w→c.wpIn (Fr ro) 0 P (fun ex a' w'=>∃ι' σ',Conc E ι' σ' a' w'∧Φ ex σ') a w
 |.skip,_,σ,Φ,h,E,ι,a,w,hc=>wpIn_skip ⟨ι,σ,hc,h⟩
 |.region id ops false,hr,σ,Φ,h,E,ι,a,w,hc=>by
  have hr':ops.toList.all opNd=true:=by simpa [Q6s] using hr
  refine wpIn_region_list ?_
  have:=X6u (ro:=ro) (Q:=fun ex a' w'=>∃ι' σ',Conc E ι' σ' a' w'∧Φ ex σ') (more:=[]) ops.toList hr' σ h E ι a w hc fun ι' σ' a' w' hk hc'=>wpListIn_nil ⟨ι',σ',hc',hk⟩
  rwa [List.append_nil] at this
 |.region id ops true,hr,σ,Φ,h,E,ι,a,w,hc=>by simp[Q6s] at hr
 |.seq x y,hr,σ,Φ,h,E,ι,a,w,hc=>by
  rw[Q6s,Bool.and_eq_true] at hr
  refine wpIn_seq (wpIn_mono (X6w x hr.1 σ _ h E ι a w hc) fun ex a' w'=>?_)
  rintro ⟨ι',σ',hc',hΦ⟩
  cases ex with
  |normal=>exact X6w y hr.2 σ' Φ hΦ E ι' a' w' hc'
  |_=>exact⟨ι',σ',hc',hΦ⟩
 |.cond c x y,hr,σ,Φ,h,E,ι,a,w,hc=>by
  rw[Q6s,Bool.and_eq_true] at hr
  unfold evC at h
  obtain⟨h0,h⟩:=h
  split at h
  · rename_i t ht
    have hv:=hc.ev c h0
    rw[ht] at hv
    obtain⟨e,_⟩:=hv.v_inv
    exact wpIn_cond_split e (fun h'=>X6w x hr.1 σ Φ (h.1 h') E ι a w hc) (fun h'=>X6w y hr.2 σ Φ (h.2 h') E ι a w hc)
  · exact h.elim
 |.block id c,hr,σ,Φ,h,E,ι,a,w,hc=>by
  rw[Q6s] at hr
  refine wpIn_block (wpIn_mono (X6w c hr σ _ h E ι a w hc) fun ex a' w'=>?_)
  rintro ⟨ι',σ',hc',hΦ⟩
  cases ex with
  |exit j=>
   unfold Exit.inBlock
   simp only at hΦ ⊢
   split at hΦ
   · rename_i e;rw[if_pos e];exact⟨ι',σ',hc',hΦ⟩
   · rename_i e;rw[if_neg e];exact⟨ι',σ',hc',hΦ⟩
  |_=>exact⟨ι',σ',hc',hΦ⟩
 |.exit id,_,σ,Φ,h,E,ι,a,w,hc=>wpIn_exit ⟨ι,σ,hc,h⟩
 |.ret,_,σ,Φ,h,E,ι,a,w,hc=>wpIn_ret ⟨ι,σ,hc,h⟩
 |.loop c,hr,_,_,_,_,_,_,_,_=>by simp[Q6s] at hr
 |.rangeFunc _ _ _ _,hr,_,_,_,_,_,_,_,_=>by simp[Q6s] at hr
 |.scope _,hr,_,_,_,_,_,_,_,_=>by simp[Q6s] at hr
 |.label _,hr,_,_,_,_,_,_,_,_=>by simp[Q6s] at hr
theorem X6d{w:World}{l:Nat}{o o':Obj}(h:w.heap[l]? = some o):(w.putObj l o').putObj l o=w:=by
 have:((w.heap.setIfInBounds l o').setIfInBounds l o)=w.heap:=by
  apply Array.ext_getElem?
  intro i
  by_cases hi:i=l
  · subst hi
    have hlt:=(Array.getElem?_eq_some_iff.1 h).1
    rw[Array.getElem?_setIfInBounds_self_of_lt (by simpa using hlt),h]
  · rw[Array.getElem?_setIfInBounds_ne (Ne.symm hi),Array.getElem?_setIfInBounds_ne (Ne.symm hi)]
 unfold World.putObj
 simp only[this]
mutual
theorem X7k{N:List Nat}{r:Nat}:∀x:AV,AV.inN N x=true→AV.refs r x=true→r∈N
 |.any,_,h=>by simp[AV.refs] at h
 |.c _,_,h=>by simp[AV.refs] at h
 |.agg cs,hi,h=>Q5c cs (by simpa [AV.inN] using hi) (by simpa [AV.refs] using h)
 |.tup cs,hi,h=>Q5c cs (by simpa [AV.inN] using hi) (by simpa [AV.refs] using h)
 |.ptr q _,hi,h=>by simp[AV.refs] at h;subst h;simpa [AV.inN] using hi
 |.row q _ _ _,hi,h=>by simp[AV.refs] at h;subst h;simpa [AV.inN] using hi
 |.cut q _ _ _ _ _ _,hi,h=>by simp[AV.refs] at h;subst h;simpa [AV.inN] using hi
 |.ep _,_,h=>by simp[AV.refs] at h
 |.fn _ cs,hi,h=>Q5c cs (by simpa [AV.inN] using hi) (by simpa [AV.refs] using h)
 |.fnb _ cs,hi,h=>Q5c cs (by simpa [AV.inN] using hi) (by simpa [AV.refs] using h)
 |.amp _ _ cs,hi,h=>Q5c cs (by simpa [AV.inN] using hi) (by simpa [AV.refs] using h)
theorem Q5c{N:List Nat}{r:Nat}:∀l:List AV,AV.inNL N l=true→AV.refsL r l=true→r∈N
 |[],_,h=>by simp[AV.refsL] at h
 |x::l,hi,h=>by
  rw[AV.inNL,Bool.and_eq_true] at hi
  rw[AV.refsL,Bool.or_eq_true] at h
  exact h.elim (X7k x hi.1) (Q5c l hi.2)
end
theorem Conc.begin(E:Env){H0:List (Nat×List AV)}{T:List AV}{t:Array Value}(hED:E.D=H0.map (·.1))(hS:∀r cs b,hget H0 r=some cs→(E.ι r).2.1≠0→E.S b→(E.ι r).1≠b)(hH:ConcH E.S E.ι H0 E.w)(hsz:t.size=T.length)(ht:∀i,RV E.S E.ι E.w (t.getD i undef) (T.getD i .any)) :
 Conc E E.ι ⟨T,H0⟩ {tmps:=t,defers:=[]} E.w:=by
 have hSx:∀b,E.S b→b<E.w.heap.size→Sx E E.ι H0 b∧E.w.heap[b]? = E.w.heap[b]?:=fun b hb _=>⟨⟨.inl hb,fun r cs hr hz=>hS r cs b hr hz hb⟩,rfl⟩
 have hR:∀{v:Value} {x:AV},RV E.S E.ι E.w v x→RV (Sx E E.ι H0) E.ι E.w v x:=fun hv=>hv.mono hSx fun _ _=>rfl
 refine⟨.nil,hsz,fun i=>hR (ht i),⟨fun r cs hr=>?_,hH.inj⟩,⟨rfl,rfl,rfl,Nat.le_refl _,fun _ _ _=>rfl,fun r cs hr=>⟨fun _=>rfl,fun hn=>absurd (by rw[hED];exact Q2t hr) hn⟩⟩⟩
 rcases hH.blk r cs hr with h0|⟨cur,hh,hs,hl,hc,hone1⟩
 · exact .inl h0
 · exact .inr ⟨cur,hh,hs,hl,fun j u x hu hx=>⟨hR (hc j u x hu hx).1,(hc j u x hu hx).2⟩,hone1⟩
theorem GlobOK.putObj{w:World}{S:Nat→Prop}{ι : Nat→Nat×Nat×Nat}{D:List Nat}{l:Nat}{o o':Obj}(h:GlobOK w S ι D)(hl:w.heap[l]? = some o)(hn:X3g o=false):GlobOK (w.putObj l o') S ι D:=fun g cs hg=>by
 obtain⟨h1,h2,h3,h4,h5⟩:=h g cs hg
 refine⟨h1,h2,h3,h4,fun j u hu=>?_⟩
 have hj:=h5 j u hu
 have hne:g≠l:=fun e=>by
  subst e
  unfold World.cell? at hj
  dsimp only at hj
  rw[hl] at hj
  cases o<;>simp[X3g] at hn hj
 exact(World.cell?_of_block (w:=w) (a:=⟨g,j,none⟩) (World.putObj_heap_other hne)).trans hj
theorem Conc.rebase{E:Env}{ι : Nat→Nat×Nat×Nat}{σ : St}{a:Act}{w:World}(h:Conc E ι σ a w){l:Nat}{o:Obj}(o':Obj)(hE:E.w.heap[l]? = some o)(hl:w.heap[l]? = some o)(hn:X3g o=false):Conc {E with w:=E.w.putObj l o',hG:=E.hG.putObj hE hn} ι σ a (w.putObj l o'):=by
 have hlt:=(Array.getElem?_eq_some_iff.1 hE).1
 have hlt':=(Array.getElem?_eq_some_iff.1 hl).1
 have hM:∀b,Mine {E with w:=E.w.putObj l o',hG:=E.hG.putObj hE hn} b↔Mine E b:=fun b=>by unfold Mine;rw[World.putObj_size]
 have hSx:∀ι H b,Sx {E with w:=E.w.putObj l o',hG:=E.hG.putObj hE hn} ι H b↔Sx E ι H b:=fun ι H b=>by unfold Sx;rw[hM]
 have hne:∀b o1,w.heap[b]? = some o1→X3g o1=true→(w.putObj l o').heap[b]? = w.heap[b]?:=fun b o1 hb h1=>World.putObj_heap_other fun e=>by
  subst e;rw[hb] at hl;cases hl;rw[hn] at h1;cases h1
 have hR:∀{v:Value} {x:AV},RV (Sx E ι σ.H) ι w v x→RV (Sx {E with w:=E.w.putObj l o',hG:=E.hG.putObj hE hn} ι σ.H) ι (w.putObj l o') v x:=fun hv=>hv.cmono fun b o1 hS hb h1=>⟨(hSx _ _ _).2 hS,hne b o1 hb h1⟩
 refine⟨?_,h.size,fun i=>hR (h.tmp i),⟨fun r cs hr=>?_,h.heap.inj⟩,⟨h.keep.os,h.keep.tape,h.keep.output,by simpa using h.keep.size,fun b hb hbD=>?_,fun r cs hr=>⟨(h.keep.mine r cs hr).1,fun h1 h2=>(hM _).2 ((h.keep.mine r cs hr).2 h1 h2)⟩⟩⟩
 · obtain⟨Ds,h1,h2,h3⟩:=h.defers
   refine⟨Ds,h1,h2,fun D hD=>?_⟩
   obtain⟨g1,g2,g3⟩:=h3 D hD
   exact⟨by simpa using g1,(hSx _ _ _).2 g2,(World.putObj_heap_other (by omega)).trans g3⟩
 · rcases h.heap.blk r cs hr with h0|⟨cur,hh,hs,hlen,hc,hone1⟩
   · exact .inl h0
   · exact .inr ⟨cur,(hne _ _ hh rfl).trans hh,hs,hlen,fun j u x hu hx=>⟨hR (hc j u x hu hx).1,(hc j u x hu hx).2⟩,hone1⟩
 · show(w.putObj l o').heap[b]? = (E.w.putObj l o').heap[b]?
   have hb':b<E.w.heap.size:=by simpa using hb
   by_cases hbl:b=l
   · subst hbl;rw[World.putObj_heap_same hlt,World.putObj_heap_same hlt']
   · rw[World.putObj_heap_other hbl,World.putObj_heap_other hbl];exact h.keep.block b hb' hbD
abbrev Q6h(ps:Array Tmp)(assign body:Code)(f:FuncId)(t:Array Value)(D:Nat):Loop:={state:=.ready,pending:=none,fn:=f,tmps:=t,params:=ps,assign,body,defers:=D}
def YC(P:Program)(t:Tmp)(assign body:Code)(T0:List AV)(l:Nat)(x:AV)(H0 H1:List (Nat×List AV)):Prop:=
 ∀(E:Env) (v:Value) (f:FuncId) (ts:Array Value) (D:Nat),E.D=H0.map (·.1)→(∀r cs b,hget H0 r=some cs→(E.ι r).2.1≠0→E.S b→(E.ι r).1≠b)→ConcH E.S E.ι H0 E.w→RV E.S E.ι E.w v x →
  E.w.heap[l]? = some (.loop (Q6h #[t] assign body f ts D))→ts.size=T0.length→(∀i,RV E.S E.ι E.w (ts.getD i undef) (T0.getD i .any)) →
  RoundIn Fence.wide 0 P l f (ts.setIfInBounds t v) assign body E.w fun e w'=>∃v ι',e = .returned v∧RV (Sx E ι' H1) ι' w' v (.c (.v (.bool true)))∧ConcH (Sx E ι' H1) ι' H1 w'∧Keep E ι' H1 w'
theorem blk_ne{S:Nat→Prop}{ι : Nat→Nat×Nat×Nat}{w:World}{H:List (Nat×List AV)}(hH:ConcH S ι H w){l:Nat}{o:Obj}(hl:w.heap[l]? = some o)(hn:X3g o=false):∀r∈H.map (·.1),(ι r).2.1≠0→(ι r).1≠l:=fun r hr hz e=>by
 obtain⟨cs,hcs⟩:=Q1d hr
 rcases hH.blk r cs hcs with⟨h0,_⟩|⟨cur,hh,_⟩
 · exact hz h0
 · rw[e,hl] at hh;cases hh;cases hn
theorem yc_of{P:Program}{t:Tmp}{assign body:Code}{T0:List AV}{l:Nat}{x:AV}{H0 H1:List (Nat×List AV)}(hA:Q6s assign=true)(hB:Q6s body=true)
 (h:evC P assign ⟨T0.set t x,H0⟩ fun ex σ1=>ex = .normal∧evC P body σ1 fun ex σ2=>ex = .normal∧∀r cs,hget H1 r=some cs→hget σ2.H r=some cs):YC P t assign body T0 l x H0 H1:=by
 intro E v f ts D hED hS hH hv hl hsz hts
 have hlt:=(Array.getElem?_eq_some_iff.1 hl).1
 have hne:∀r∈E.D,(E.ι r).2.1≠0→(E.ι r).1≠l:=by rw[hED];exact blk_ne hH hl rfl
 have hv':RV (Sx E E.ι H0) E.ι E.w v x:=hv.mono (fun b hb _=>⟨⟨.inl hb,fun r cs hr hz=>hS r cs b hr hz hb⟩,rfl⟩) fun _ _=>rfl
 have hc0:=(Conc.begin E hED hS hH hsz hts).put (some t) hv'
 refine roundIn_of_wpIn trivial ?_
 refine wpIn_mono (X6w (ro:=some l) assign hA _ _ h E E.ι _ E.w hc0) ?_
 rintro ex a1 w1 ⟨ι1,σ1,hc1,rfl,h2⟩
 have hl1:w1.heap[l]? = some (.loop (Q6h #[t] assign body f ts D)):=(hc1.keep.block l hlt hne).trans hl
 refine⟨_,run_beginRound hl1 rfl,?_⟩
 have hc2:=hc1.rebase (.loop {Q6h #[t] assign body f ts D with state:=.busy}) hl hl1 rfl
 refine wpIn_mono (X6w (ro:=some l) body hB _ _ h2 _ ι1 _ _ hc2) ?_
 rintro ex a2 w3 ⟨ι2,σ2,hc3,rfl,h3⟩
 have hlb:(E.w.putObj l (.loop {Q6h #[t] assign body f ts D with state:=.busy})).heap[l]? = some (.loop {Q6h #[t] assign body f ts D with state:=.busy}):=World.putObj_heap_same hlt
 have hl3:w3.heap[l]? = some (.loop {Q6h #[t] assign body f ts D with state:=.busy}):=(hc3.keep.block l (by simpa using hlt) hne).trans hlb
 refine⟨_,_,run_endRound none hl3,?_⟩
 have hc4:=hc3.rebase (.loop (Q6h #[t] assign body f ts D)) hlb hl3 rfl
 have key:∀(w':World) (hG':GlobOK w' E.S E.ι E.D),w'=E.w→Conc {E with w:=w',hG:=hG'} ι2 σ2 a2 (w3.putObj l (.loop (Q6h #[t] assign body f ts D)))→Conc E ι2 σ2 a2 (w3.putObj l (.loop (Q6h #[t] assign body f ts D))):=by
  rintro _ _ rfl h;exact h
 have hc5:Conc E ι2 σ2 a2 (w3.putObj l (.loop (Q6h #[t] assign body f ts D))):=key _ _ (X6d hl) hc4
 have hc6:=hc5.leH h3
 exact⟨_,ι2,rfl,.c _ _ (.v _ rfl),hc6.heap,hc6.keep⟩
structure LoopAt (t:Tmp) (assign body:Code) (T0:List AV) (DD:List Nat) (l:Nat) (E:Env):Prop where
 rc:∃f ts D,E.w.heap[l]? = some (.loop (Q6h #[t] assign body f ts D))∧ts.size=T0.length∧∀i,RV E.S E.ι E.w (ts.getD i undef) (T0.getD i .any)
 free:∀r∈E.D,(E.ι r).2.1≠0→(E.ι r).1≠l
 dis:∀r∈E.D,(E.ι r).2.1≠0→∀b,E.S b→(E.ι r).1≠b
 names:E.D=DD
def OpE(p:Env→Prop)(P:Program)(o:Oper)(σ : St)(K:St→Prop):Prop:=
 ∀(E:Env) (ι : Nat→Nat×Nat×Nat) (a:Act) (w:World),p E→Conc E ι σ a w→∀(K':Act→World→Prop) (Q:Exit→Act→World→Prop),(∀ι' σ' a' w',K σ'→Conc E ι' σ' a' w'→K' a' w')→o.wpIn Fence.wide 0 P a w K' Q
theorem opE_yield{P:Program}{o:Oper}{σ : St}{K:St→Prop}{t:Tmp}{assign body:Code}{T0:List AV}{DD:List Nat}{l:Nat}{x:AV}{H0 H1:List (Nat×List AV)}(hY:YC P t assign body T0 l x H0 H1)(ρ : Nat→Nat)
 {fo ao:Operand} {ts:Array TypeId} (ho:o.op = .call {callee:=.value fo,args:=#[ao],argTypes:=ts}) (hfo:Q0k fo=true) (hao:Q0k ao=true) (hf:σ.ev fo = .c (.v (.func (.yield l) #[] #[]))) (hx:Q1y ρ x (σ.ev ao))
 (hD0:H0.all (fun x=>decide (1000≤x.1))=true) (hH0:∀r∈H0.map (·.1),hget σ.H (ρ r)=(hget H0 r).map (AV.renL ρ)) (hinj:∀r∈H0.map (·.1)++H1.map (·.1),∀q∈H0.map (·.1)++H1.map (·.1),ρ r = ρ q→r=q)
 (hnew:Q1v σ ρ H0 H1) (hinH:inH (H1.map (·.1)) H1=true) (NT:List Nat) (hT0:AV.inNL NT T0=true) (hNT:∀r∈NT,r∈DD∧ρ r=r∧(hget σ.H r).isSome=true)
 (hK:K ((St.mk σ.T (Q0t (Q1w σ.H (renH ρ H0)) (renH ρ H1))).put o.dst (.c (.v (.bool true))))):OpE (LoopAt t assign body T0 DD l) P o σ K:=by
 intro E ι a w hp hc K' Q hK'
 obtain⟨⟨f,tt,D,hl,hsz,htt⟩,hfree,hdis,hnames⟩:=hp
 have hlt:=(Array.getElem?_eq_some_iff.1 hl).1
 have hlw:w.heap[l]? = some (.loop (Q6h #[t] assign body f tt D)):=(hc.keep.block l hlt hfree).trans hl
 have hfv:=hc.ev fo hfo
 rw[hf] at hfv
 obtain⟨hfe,_⟩:=hfv.v_inv
 have hav:=hc.ev ao hao
 have hD0':∀r∈H0.map (·.1),1000≤r:=fun r hr=>by
  obtain⟨y,hy,rfl⟩:=List.mem_map.1 hr
  have:=List.all_eq_true.1 hD0 y hy
  simpa using this
 have hH0':∀r cs,hget H0 r=some cs→hget σ.H (ρ r)=some (AV.renL ρ cs):=fun r cs hr=>by rw[hH0 r (Q2t hr),hr];rfl
 obtain⟨E',hE'⟩:∃E':Env,E'={w:=w,S:=Sx E ι σ.H,ι:=fun r=>ι (ρ r),D:=H0.map (·.1),hD:=hD0',hG:=hc.glob hH0'}:=⟨_,rfl⟩
 have hconcH:ConcH E'.S E'.ι H0 E'.w:=by
  subst hE'
  exact hc.enter ρ hH0' fun r hr q hq=>hinj r (List.mem_append_left _ hr) q (List.mem_append_left _ hq)
 have hSE:∀b,E.S b→b<E.w.heap.size→Sx E ι σ.H b∧w.heap[b]? = E.w.heap[b]?:=fun b hb hlt=>by
  refine⟨⟨.inl hb,fun r cs hr hz=>?_⟩,hc.keep.block b hlt fun r hr hz=>hdis r hr hz b hb⟩
  obtain⟨m1,m2⟩:=hc.keep.mine r cs hr
  by_cases hm:r∈E.D
  · rw[m1 hm] at hz ⊢;exact hdis r hm hz b hb
  · rcases m2 hm hz with h1|⟨q,hq,hqz,h1⟩
    · omega
    · rw[←h1];exact hdis q hq hqz b hb
 have hround:=hY E' (a.eval ao) f tt D (by rw[hE']) (fun r cs b hr hz hS=>by
  subst hE'
  exact hS.2 (ρ r) _ (hH0' r cs hr) hz) hconcH (by
   subst hE'
   rcases hx with rfl|e
   · exact .any _
   · exact hav.unren x e) (by rw[hE'];exact hlw) hsz (fun i=>by
     subst hE'
     refine(htt i).mono hSE fun r hr=>?_
     have hin:AV.inN NT (T0.getD i .any)=true:=inL_get hT0 i
     obtain⟨g1,g2,g3⟩:=hNT r (X7k _ hin hr)
     obtain⟨cs,hcs⟩:=Option.isSome_iff_exists.1 g3
     show ι (ρ r)=E.ι r
     rw[g2]
     exact(hc.keep.mine r cs hcs).1 (by rw[hnames];exact g1))
 have hwE:E'.w=w:=by rw[hE']
 rw[hwE] at hround
 have hrun:(execOp a.eval o).run P w = .ok (.round l f (tt.setIfInBounds t (a.eval ao)) assign body) w:=by
  have hy:=run_yield (P:=P) (args:=#[a.eval ao]) hlw rfl
  simp only[execOp,ho,resolve,hfe,Deferred.ofValue,List.map_toArray,List.map_cons,List.map_nil,Sem.run_bind,Sem.run_pure,Result.andThen_ok,invoke,callFunc,Array.empty_append,List.append_toArray,List.nil_append,List.append_nil]
  simpa using hy
 refine⟨fun _ _=>trivial,?_⟩
 rw[Oper.semAt_eq _ _ _ (fun c e=>by rw[ho] at e;cases e),hrun,Oper.uponIn_round]
 refine⟨fun e=>(by cases e),RoundIn.mono hround fun e w'=>?_⟩
 rintro ⟨v,ι',rfl,hres,hcH,hk⟩
 simp only
 obtain⟨ι2,hcn,hrv⟩:=hc.back ρ hD0' hH0' hinj hnew rfl hinH hE' hres hcH hk
 exact hK' ι2 _ _ _ hK (hcn.put o.dst hrv)
section
variable {p:Env→Prop} {P:Program} {σ : St} {Φ : Exit→St→Prop}
theorem AWE.of{c:Code}(h:evC P c σ Φ):AWE p P c σ Φ:=fun E ι a w _ hc=>Q3e c σ Φ h E ι a w hc
theorem AWE.mono{c:Code}{Ψ : Exit→St→Prop}(h:AWE p P c σ Φ)(hΦ : ∀ex σ,Φ ex σ→Ψ ex σ):AWE p P c σ Ψ:=
 fun E ι a w hp hc=>wp_mono (h E ι a w hp hc) fun ex a' w' ⟨ι',σ',hc',h'⟩=>⟨ι',σ',hc',hΦ _ _ h'⟩
theorem AWE.to{c:Code}{τ : St}(ht:σ.to τ)(h:AWE p P c τ Φ):AWE p P c σ Φ:=fun E ι a w hp hc=>by
 obtain⟨ι',hc'⟩:=ht E ι a w hc
 exact h E ι' a w hp hc'
theorem AWE.seq{x y:Code}(h:AWE p P x σ fun ex σ'=>match ex with | .normal=>AWE p P y σ' Φ | ex=>Φ ex σ'):AWE p P (.seq x y) σ Φ:=fun E ι a w hp hc=>by
 refine wp_seq (wp_mono (h E ι a w hp hc) fun ex a' w'=>?_)
 rintro ⟨ι',σ',hc',hΦ⟩
 cases ex with
 |normal=>exact hΦ E ι' a' w' hp hc'
 |_=>exact⟨ι',σ',hc',hΦ⟩
theorem AWE.cond{c:Operand}{x y:Code}{t:Bool}(h0:Q0k c=true)(ht:σ.ev c = .c (.v (.bool t)))(h1:t=true→AWE p P x σ Φ)(h2:t=false→AWE p P y σ Φ):AWE p P (.cond c x y) σ Φ:=fun E ι a w hp hc=>by
 have hv:=hc.ev c h0
 rw[ht] at hv
 obtain⟨e,_⟩:=hv.v_inv
 exact wp_cond_split e (fun h'=>h1 h' E ι a w hp hc) (fun h'=>h2 h' E ι a w hp hc)
theorem AWE.block{id:Nat}{c:Code}(h:AWE p P c σ fun ex σ'=>match ex with | .exit j=>if j=id then Φ .normal σ' else Φ (.exit j) σ'|ex=>Φ ex σ'):AWE p P (.block id c) σ Φ:=fun E ι a w hp hc=>by
 refine wp_block (wp_mono (h E ι a w hp hc) fun ex a' w'=>?_)
 rintro ⟨ι',σ',hc',hΦ⟩
 cases ex with
 |exit j=>
  unfold Exit.inBlock
  simp only at hΦ ⊢
  split at hΦ
  · rename_i e;rw[if_pos e];exact⟨ι',σ',hc',hΦ⟩
  · rename_i e;rw[if_neg e];exact⟨ι',σ',hc',hΦ⟩
 |_=>exact⟨ι',σ',hc',hΦ⟩
theorem AWE.loop{c:Code}{α : Type}(I:α→St)(μ : α→Nat)(x0:α)(h0:σ.to (I x0))
 (round:∀x,AWE p P c (I x) fun ex σ'=>match ex with | .normal=>∃y,μ y < μ x∧σ'.to (I y)|ex=>Φ ex σ'):AWE p P (.loop c) σ Φ:=by
 intro E ι a w hp hc b k cs
 have key:∀n x ι a w,μ x=n→Conc E ι (I x) a w→∃e a' w',(∃ι' σ',Conc E ι' σ' a' w'∧Φ e σ')∧Arrives P (lone (b.at a (.code c :: .inLoop c::k)) cs w) b k cs e a' w':=by
  intro n
  induction n using Nat.strongRecOn with
  |_ n ih=>
   intro x ι a w hn hI
   obtain⟨e,a₁,w₁,⟨ι₁,σ₁,hc₁,hq⟩,harr⟩:=round x E ι a w hp hI b (.inLoop c::k) cs
   cases e with
   |normal=>
    obtain⟨y,hlt,hle⟩:=hq
    obtain⟨ι2,hc2⟩:=hle E ι₁ a₁ w₁ hc₁
    obtain⟨e₂,a₂,w₂,hq₂,harr₂⟩:=ih (μ y) (hn▸hlt) y ι2 a₁ w₁ rfl hc2
    exact⟨e₂,a₂,w₂,hq₂,.of_steps (Steps.trans harr (.one step_inLoop)) harr₂⟩
   |exit id=>exact⟨_,a₁,w₁,⟨ι₁,σ₁,hc₁,hq⟩,.pass (x:=.inLoop c) rfl (fun _ _=>.inl (by simp)) harr⟩
   |goto l=>exact⟨_,a₁,w₁,⟨ι₁,σ₁,hc₁,hq⟩,.pass (x:=.inLoop c) rfl (fun _ _=>.inl (by simp)) harr⟩
   |ret=>exact⟨_,a₁,w₁,⟨ι₁,σ₁,hc₁,hq⟩,.pass (x:=.inLoop c) rfl (fun _ _=>.inl (by simp)) harr⟩
   |panic ch=>exact⟨_,a₁,w₁,⟨ι₁,σ₁,hc₁,hq⟩,.pass (x:=.inLoop c) rfl (fun _ _=>.inl (by simp)) harr⟩
   |outgrown=>exact⟨_,a₁,w₁,⟨ι₁,σ₁,hc₁,hq⟩,.pass (x:=.inLoop c) rfl (fun _ _=>.inl (by simp)) harr⟩
 obtain⟨ι0,hc0⟩:=h0 E ι a w hc
 obtain⟨e,a',w',hq,harr⟩:=key _ x0 ι0 a w rfl hc0
 exact⟨e,a',w',hq,.of_steps (.one step_loop) harr⟩
theorem AWE.region{id:Nat}{ops:Array Oper}(l1:List Oper)(o:Oper)(l2:List Oper)(hops:ops.toList=l1++o::l2)(n1:l1.all opNd=true)(n2:l2.all opNd=true)
 (h:evL P ops l1 σ fun σ1=>(o.guard=none∨∃j want d,o.guard=some (j,want)∧(ops[j]?).bind (·.dst)=some d∧σ1.T.getD d .any = .c (.v (.bool want)))∧OpE p P o σ1 fun σ2=>evL P ops l2 σ2 (Φ .normal)):AWE p P (.region id ops false) σ Φ:=by
 intro E ι a w hp hc
 refine(wpIn_wide (n:=0)).1 (wpIn_region_list ?_)
 rw[hops]
 refine X6u (ro:=none) l1 n1 σ h E ι a w hc fun ι1 σ1 a1 w1=>?_
 rintro ⟨hg,hop⟩ hc1
 refine wpListIn_step fun K hK=>?_
 have hw:Region.wanted o (yielded ops a1.tmps)=true:=by
  rcases hg with hg|⟨j,want,d,hg,hd,hb⟩
  · simp only[Region.wanted,hg]
  · have hv:=hc1.tmp d
    rw[hb] at hv
    obtain⟨e,_⟩:=hv.v_inv
    have hlt:d<a1.tmps.size:=by
     rw[hc1.size]
     rcases Nat.lt_or_ge d σ1.T.length with h|h
     · exact h
     · rw[List.getD_eq_getElem?_getD,List.getElem?_eq_none h] at hb;cases hb
    have hy:yielded ops a1.tmps j=some want:=by
     unfold yielded
     rw[hd]
     simp only[Option.bind_some]
     have:a1.tmps[d]? = some (.bool want):=by
      rw[Array.getElem?_eq_getElem hlt]
      simp only[Array.getD,hlt,dif_pos] at e
      simpa using e
     rw[this]
    unfold Region.wanted
    rw[hg]
    simp only[hy,beq_self_eq_true]
 rw[hw,if_pos rfl]
 refine hop E ι1 a1 w1 hp hc1 K _ fun ι2 σ2 a2 w2 hk hc2=>hK _ _ ?_
 have:=X6u (ro:=none) (Q:=fun ex a' w'=>∃ι' σ',Conc E ι' σ' a' w'∧Φ ex σ') (more:=[]) l2 n2 σ2 hk E ι2 a2 w2 hc2 fun ι' σ' a' w' hk hc'=>wpListIn_nil ⟨ι',σ',hc',hk⟩
 rwa [List.append_nil] at this
end
theorem AWE.region_at{p:Env→Prop}{P:Program}{σ : St}{Φ : Exit→St→Prop}{id:Nat}{ops:Array Oper}(k:Nat){o:Oper}(hk:ops.toList[k]? = some o)(n0:ops.toList.all (fun x=>opNd x)=true)
 (h:∀R:St→Prop,(∀σ1,((o.guard=none∨∃j want d,o.guard=some (j,want)∧(ops[j]?).bind (·.dst)=some d∧σ1.T.getD d .any = .c (.v (.bool want)))∧OpE p P o σ1 fun σ2=>∀R2:St→Prop,(∀σ',Φ .normal σ'→R2 σ')→evL P ops (ops.toList.drop (k+1)) σ2 R2)→R σ1)→evL P ops (ops.toList.take k) σ R):AWE p P (.region id ops false) σ Φ:=by
 obtain⟨hlt,rfl⟩:=List.getElem?_eq_some_iff.1 hk
 have n0':=List.all_eq_true.1 n0
 refine AWE.region (ops.toList.take k) ops.toList[k] (ops.toList.drop (k+1)) (by rw[←List.drop_eq_getElem_cons hlt,List.take_append_drop]) (List.all_eq_true.2 fun x hx=>n0' x (List.mem_of_mem_take hx)) (List.all_eq_true.2 fun x hx=>n0' x (List.mem_of_mem_drop hx)) ?_
 refine h _ fun σ1 ⟨h1,h2⟩=>⟨h1,fun E ι a w hp hc K' Q hK'=>h2 E ι a w hp hc K' Q fun ι' σ' a' w' hk hc'=>hK' ι' σ' a' w' (hk _ fun _ h=>h) hc'⟩
abbrev yv(l:Nat):AV:=.c (.v (.func (.yield l) #[] #[]))
theorem AW.range{P:Program}{σ : St}{Φ : Exit→St→Prop}{g:Operand}{t:Tmp}{assign body:Code}{gf:FuncId}{fn:Func}{caps:List AV}{cargs:List AV}{H0 H1:List (Nat×List AV)}{res:AV}{T0:List AV}(ρ : Nat→Nat)
 (hF:∀l,FnW (LoopAt t assign body T0 (H0.map (·.1)) l) P gf (yv l::cargs) H0 res H1) (hg0:Q0k g=true) (hg:σ.ev g = .fn gf caps) (hfn:P.funcs[gf]? = some fn) (hname:(fn.name == "runtime.NumGoroutine")=false) (hbody:fn.body.isNone=false)
 (hD0:H0.all (fun x=>decide (1000≤x.1))=true) (hargs:Q1e ρ cargs caps) (hT0:Q1e ρ T0 σ.T) (hH0:∀r∈H0.map (·.1),hget σ.H (ρ r)=(hget H0 r).map (AV.renL ρ)) (hinj:∀r∈H0.map (·.1)++H1.map (·.1),∀q∈H0.map (·.1)++H1.map (·.1),ρ r = ρ q→r=q)
 (hnew:Q1v σ ρ H0 H1) (hin:AV.inN (H1.map (·.1)) res=true) (hinH:inH (H1.map (·.1)) H1=true)
 (hK:Φ .normal ⟨σ.T,Q0t (Q1w σ.H (renH ρ H0)) (renH ρ H1)⟩):AW P (.rangeFunc g #[t] assign body) σ Φ:=by
 intro E ι a w hc
 have hfv:=hc.ev g hg0
 rw[hg] at hfv
 generalize hge:a.eval g=fv at hfv
 cases hfv with
 |fn _ us _ hul hus=>
  refine(wpIn_wide (n:=0)).1 (wpIn_rangeFunc fun f _=>?_)
  obtain⟨w1,hw1⟩:∃w1,(w.alloc (.deferred (some []))).alloc (.loop (Q6h #[t] assign body f a.tmps w.heap.size))=w1:=⟨_,rfl⟩
  have hc1:Conc E ι σ a w1:=hw1▸(hc.alloc _).alloc _
  have hL:w1.heap[w.heap.size+1]? = some (.loop (Q6h #[t] assign body f a.tmps w.heap.size)):=by
   rw[←hw1]
   have:=World.alloc_heap_new (w.alloc (.deferred (some []))) (.loop (Q6h #[t] assign body f a.tmps w.heap.size))
   rwa [World.size_alloc] at this
  have hB:w1.heap[w.heap.size]? = some (.deferred (some [])):=by
   rw[←hw1,Below.heap_alloc _ _ _ (by rw[World.size_alloc];omega)]
   exact World.alloc_heap_new _ _
  have hD0':∀r∈H0.map (·.1),1000≤r:=fun r hr=>by
   obtain⟨y,hy,rfl⟩:=List.mem_map.1 hr
   have:=List.all_eq_true.1 hD0 y hy
   simpa using this
  have hH0':∀r cs,hget H0 r=some cs→hget σ.H (ρ r)=some (AV.renL ρ cs):=fun r cs hr=>by rw[hH0 r (Q2t hr),hr];rfl
  obtain⟨E',hE'⟩:∃E':Env,E'={w:=w1,S:=Sx E ι σ.H,ι:=fun r=>ι (ρ r),D:=H0.map (·.1),hD:=hD0',hG:=hc1.glob hH0'}:=⟨_,rfl⟩
  have hwE:E'.w=w1:=by rw[hE']
  have hED:E'.D=H0.map (·.1):=by rw[hE']
  have hconcH:ConcH E'.S E'.ι H0 E'.w:=by
   subst hE'
   exact hc1.enter ρ hH0' fun r hr q hq=>hinj r (List.mem_append_left _ hr) q (List.mem_append_left _ hq)
  have hdis:∀r cs b,hget H0 r=some cs→(E'.ι r).2.1≠0→E'.S b→(E'.ι r).1≠b:=fun r cs b hr hz hS=>by
   subst hE'
   exact hS.2 (ρ r) _ (hH0' r cs hr) hz
  have hneL:∀r∈E'.D,(E'.ι r).2.1≠0→(E'.ι r).1≠w.heap.size+1:=by
   rw[hED];exact blk_ne hconcH (by rw[hwE];exact hL) rfl
  have hneB:∀r∈E'.D,(E'.ι r).2.1≠0→(E'.ι r).1≠w.heap.size:=by
   rw[hED];exact blk_ne hconcH (by rw[hwE];exact hB) rfl
  obtain⟨hTl,hTg⟩:=Q7c hT0
  obtain⟨hal,hag⟩:=Q7c hargs
  have hat:LoopAt t assign body T0 (H0.map (·.1)) (w.heap.size+1) E':=by
   refine⟨⟨f,a.tmps,w.heap.size,by rw[hwE];exact hL,hc1.size.trans hTl.symm,fun i=>?_⟩,hneL,fun r hr hz b hb=>?_,hED⟩
   · subst hE'
     have hv:=hc1.tmp i
     rw[List.getD_eq_getElem?_getD] at hv ⊢
     cases hi:T0[i]? with
     |none=>exact .any _
     |some x=>
      have hlt:=(List.getElem?_eq_some_iff.1 hi).1
      rw[List.getElem?_eq_getElem (by omega)] at hv
      rcases hTg i x _ hi (List.getElem?_eq_getElem (by omega)) with rfl|e
      · exact .any _
      · exact hv.unren x e
   · obtain⟨cs,hcs⟩:=Q1d (hED▸hr)
     exact hdis r cs b hcs hz hb
  have hcall:=hF (w.heap.size+1) E' (.func (.yield (w.heap.size+1)) #[] #[]::us) hat hED hdis hconcH (by simp[hul,hal]) (fun j v x hv hx=>by
   cases j with
   |zero=>cases hv;cases hx;exact .c _ _ (.v _ rfl)
   |succ j=>
    simp only[List.getElem?_cons_succ] at hv hx
    have hlt:=(List.getElem?_eq_some_iff.1 hx).1
    subst hE'
    rcases hag j x _ hx (List.getElem?_eq_getElem (by omega)) with rfl|e
    · exact .any _
    · have:=hus j v _ hv (List.getElem?_eq_getElem (by omega))
      exact(this.mono (S':=Sx E ι σ.H) (w':=w1) (fun b hb hlt=>⟨hb,by rw[←hw1,Below.heap_alloc _ _ _ (by rw[World.size_alloc];omega),Below.heap_alloc _ _ _ hlt]⟩) fun _ _=>rfl).unren x e)
  rw[hwE] at hcall
  refine⟨w.heap.size+1,[{target:=.collected w.heap.size,args:=#[]}],w1,{target:=.fn (.func gf) us.toArray,args:=#[.func (.yield (w.heap.size+1)) #[] #[]]},w1,gf,(.func (.yield (w.heap.size+1)) #[] #[]::us:List Value).toArray,w1,?_,?_,fun _ _=>trivial,?_,fun e=>(by cases e),(callsIn_wide (n:=0-1)).2 (hcall.mono fun e w'=>?_)⟩
  · rw[←hw1];exact run_enterLoop_outer f a.tmps #[t] assign body
  · simp only[resolve,hge,Deferred.ofValue,List.map_toArray,List.map_cons,List.map_nil,Sem.run_bind,Sem.run_pure,Result.andThen_ok,Array.empty_append]
    rfl
  · have hen:=X0i hfn hname hbody (.func (.yield (w.heap.size+1)) #[] #[]::us:List Value).toArray w1
    simpa only[invoke,List.append_toArray,List.cons_append,List.nil_append] using hen
  · rintro ⟨v,ι',rfl,hres,hcH,hk⟩
    obtain⟨ι2,hcn,-⟩:=hc1.back ρ hD0' hH0' hinj hnew hin hinH hE' hres hcH hk
    have hlt1:w.heap.size+1<w1.heap.size:=(Array.getElem?_eq_some_iff.1 hL).1
    have hL':w'.heap[w.heap.size+1]? = some (.loop (Q6h #[t] assign body f a.tmps w.heap.size)):=by
     rw[hk.block _ (by rw[hwE];exact hlt1) hneL,hwE];exact hL
    have hB':w'.heap[w.heap.size]? = some (.deferred (some [])):=by
     rw[hk.block _ (by rw[hwE];omega) hneB,hwE];exact hB
    refine⟨none,_,run_endLoop hL' (by simp),?_⟩
    have hE0:=hc.keep.size
    have hMk:Marks E (Sx E ι2 (Q0t (Q1w σ.H (renH ρ H0)) (renH ρ H1))) (w'.putObj (w.heap.size+1) (.loop {Q6h #[t] assign body f a.tmps w.heap.size with state:=.exhausted})) ({target:=.collected w.heap.size,args:=#[]}::a.defers):=by
     obtain⟨Ds,g1,g2,g3⟩:=hcn.defers
     obtain⟨Ds0,k1,k2,k3⟩:=hc.defers
     have hinjm:Ds=Ds0:=by
      have:=g2.symm.trans k2
      exact(List.map_inj_right (fun x y e=>by simpa using e)).1 this
     subst hinjm
     refine⟨w.heap.size::Ds,List.nodup_cons.2 ⟨fun hm=>?_,g1⟩,by rw[List.map_cons,←g2],fun D hD=>?_⟩
     · have:=(Array.getElem?_eq_some_iff.1 (k3 _ hm).2.2).1;omega
     · rcases List.mem_cons.1 hD with rfl|hD
       · refine⟨hE0,⟨.inr (.inl hE0),fun r cs hr hz e=>?_⟩,(World.putObj_heap_other (by omega)).trans hB'⟩
         rcases hcn.heap.blk r cs hr with⟨h0,_⟩|⟨cur,hh,_⟩
         · exact hz h0
         · rw[e,hB'] at hh;cases hh
       · obtain⟨m1,m2,m3⟩:=g3 D hD
         have:=(Array.getElem?_eq_some_iff.1 (k3 D hD).2.2).1
         exact⟨m1,m2,(World.putObj_heap_other (by omega)).trans m3⟩
    exact⟨ι2,_,hcn.turn _ hL' rfl (by omega) hMk,hK⟩
theorem St.to.nilcell{σ : St}(r d e sz j:Nat){cs:List AV}(hr:hget σ.H r=some cs)(h1:cs[j]? = some (.c (.v (.slice none 0 0))))(hf:σ.free d=true)(hrd:d≠r)(hd:d<1000):σ.to ⟨σ.T,hput (hput σ.H d []) r (cs.set j (.row d e sz 0))⟩:=fun E ι a w hc=>by
 have hg:Conc E (upd ι d (0,0,e)) ⟨σ.T,hput σ.H d []⟩ a w:=hc.grow (w':=w) hf hd (World.grownBy.refl w none) none (fun b hb=>by cases hb) (0,0,e) (cs:=[]) (fun h=>absurd rfl h) rfl (.inl ⟨rfl,rfl⟩)
 refine⟨upd ι d (0,0,e),?_⟩
 have hget':∀q ds,hget (hput (hput σ.H d []) r (cs.set j (.row d e sz 0))) q=some ds→(q=r∧ds=cs.set j (.row d e sz 0))∨(q≠r∧hget (hput σ.H d []) q=some ds):=fun q ds hq=>by
  rw[Q2k] at hq
  split at hq
  · rename_i e;cases hq;exact .inl ⟨e,rfl⟩
  · rename_i e;exact .inr ⟨e,hq⟩
 have hr':hget (hput σ.H d []) r=some cs:=by rw[Q2k,if_neg (Ne.symm hrd)];exact hr
 have hold:∀q ds,hget (hput (hput σ.H d []) r (cs.set j (.row d e sz 0))) q=some ds→∃es,hget (hput σ.H d []) q=some es:=fun q ds hq=>by
  rcases hget' q ds hq with⟨rfl,_⟩|⟨_,h⟩
  · exact⟨_,hr'⟩
  · exact⟨_,h⟩
 have hSx:∀b,Sx E (upd ι d (0,0,e)) (hput σ.H d []) b→Sx E (upd ι d (0,0,e)) (hput (hput σ.H d []) r (cs.set j (.row d e sz 0))) b:=fun b ⟨g1,g2⟩=>⟨g1,fun q ds hq hz=>by
  obtain⟨es,hes⟩:=hold q ds hq
  exact g2 q es hes hz⟩
 have hR:∀{v:Value} {x:AV},RV (Sx E (upd ι d (0,0,e)) (hput σ.H d [])) (upd ι d (0,0,e)) w v x→RV (Sx E (upd ι d (0,0,e)) (hput (hput σ.H d []) r (cs.set j (.row d e sz 0)))) (upd ι d (0,0,e)) w v x:=fun hv=>hv.mono (fun b hb _=>⟨hSx b hb,rfl⟩) fun _ _=>rfl
 refine⟨hg.defers.mono fun b hb _=>⟨hSx b hb,rfl⟩,hg.size,fun i=>hR (hg.tmp i),⟨fun q ds hq=>?_,fun q q' ds es hq hq'=>?_⟩,⟨hg.keep.os,hg.keep.tape,hg.keep.output,hg.keep.size,hg.keep.block,fun q ds hq=>?_⟩⟩
 · rcases hget' q ds hq with⟨rfl,rfl⟩|⟨_,h⟩
   · rcases hg.heap.blk q cs hr' with⟨_,rfl⟩|⟨cur,hh,hs,hlen,hcur,hone1⟩
     · simp at h1
     · refine .inr ⟨cur,hh,hs,by rw[List.length_set];exact hlen,fun i u x hu hx=>?_,hone1⟩
       rw[List.getElem?_set] at hx
       split at hx
       · rename_i hji
         subst hji
         have hcv:=hcur j u _ hu h1
         obtain⟨rfl,_⟩:=hcv.1.v_inv
         split at hx
         · cases hx;exact⟨.rnil none d e sz (by rw[Q1m]),rfl⟩
         · cases hx
       · exact⟨hR (hcur i u x hu hx).1,(hcur i u x hu hx).2⟩
   · rcases hg.heap.blk q ds h with h0|⟨cur,hh,hs,hlen,hcur,hone1⟩
     · exact .inl h0
     · exact .inr ⟨cur,hh,hs,hlen,fun i u x hu hx=>⟨hR (hcur i u x hu hx).1,(hcur i u x hu hx).2⟩,hone1⟩
 · obtain⟨ds',h1'⟩:=hold q ds hq
   obtain⟨es',h2'⟩:=hold q' es hq'
   exact hg.heap.inj q q' ds' es' h1' h2'
 · obtain⟨ds',h1'⟩:=hold q ds hq
   exact hg.keep.mine q ds' h1'
end Go.Proofs.YtbmcdemnnbndeaaGreatDoor
namespace Go.Proofs.YtbmcdemnnbndeaaGreatDoor
open Go.RowKit
def forced(l:List Oper)(k:Nat):Bool:=(List.range l.length).all fun i=>decide (i<k)||(List.range i).all fun j=>pre l i j
def Q5g(l:List Oper):Bool:=l.all fun o=>o.guard.isNone
theorem Q7n{l:List Oper}{listed:Array Bool}{i:Nat}(hsz:listed.size=l.length)(hi:i∈Region.ready .any l.toArray listed):∃o,l[i]? = some o∧listed.getD i false=false∧∀e∈o.after,Region.binds .any e=true→listed.getD e.on false=true:=by
 unfold Region.ready at hi
 rw[List.mem_filter] at hi
 obtain⟨h1,h2⟩:=hi
 have hin:i<l.length:=by simpa using h1
 have ho:l[i]? = some l[i]:=List.getElem?_eq_getElem hin
 simp only[Bool.and_eq_true,Bool.not_eq_true',List.getElem?_toArray,ho,Option.map_some,Option.getD_some,Array.all_eq_true_iff_forall_mem] at h2
 refine⟨_,ho,?_,fun e he hb=>?_⟩
 · have:=h2.1
   simp only[Array.getD,hsz,hin,dif_pos] at this ⊢
   exact this
 · have:=h2.2 e he
   simpa [hb] using this
theorem X7r{l:List Oper}{listed:Array Bool}{j:Nat}(hback:Q3w l=true)(hsz:listed.size=l.length)(hjl:j<l.length)(hju:listed.getD j false=false)(hlow:∀k,k<j→listed.getD k false=true):j∈Region.ready .any l.toArray listed:=by
 have ho:l[j]? = some l[j]:=List.getElem?_eq_getElem hjl
 have hb:=List.all_eq_true.1 hback j (by simpa using hjl)
 simp only[ho,Array.all_eq_true_iff_forall_mem,Bool.or_eq_true,Bool.not_eq_true',decide_eq_true_eq] at hb
 unfold Region.ready
 rw[List.mem_filter]
 refine⟨by simpa using hjl,?_⟩
 simp only[Bool.and_eq_true,Bool.not_eq_true',List.getElem?_toArray,ho,Option.map_some,Option.getD_some,Array.all_eq_true_iff_forall_mem]
 refine⟨?_,fun e he=>?_⟩
 · simp only[Array.getD,hsz,hjl,dif_pos] at hju ⊢
   exact hju
 · rcases hb e he with h|h
   · simp[h]
   · simp[hlow e.on h]
theorem X5i{L:Nat→Bool}:∀{n:Nat},(∃j,j<n∧L j=false)→∃j,j<n∧L j=false∧∀k,k<j→L k=true
 |0,⟨j,hj,_⟩=>absurd hj (Nat.not_lt_zero _)
 |n+1,⟨j,hj,hL⟩=>by
  by_cases hlow:∃k,k<n∧L k=false
  · obtain⟨i,h1,h2,h3⟩:=X5i hlow
    exact⟨i,by omega,h2,h3⟩
  · refine⟨j,hj,hL,fun k hk=>Classical.byContradiction fun hn=>hlow ⟨k,by omega,by simpa using hn⟩⟩
theorem X2i{l:List Oper}{k i j:Nat}(h:forced l k=true)(hk:k≤i)(hi:i<l.length)(hj:j<i):pre l i j=true:=by
 have h1:=List.all_eq_true.1 h i (by simpa using hi)
 rw[Bool.or_eq_true] at h1
 rcases h1 with h1|h1
 · have:=of_decide_eq_true h1;omega
 · exact List.all_eq_true.1 h1 j (by simpa using hj)
theorem Q9j{l:List Oper}{i:Nat}{o:Oper}(h:Q5g l=true)(ho:l[i]? = some o):o.guard=none:=by
 have:=List.all_eq_true.1 h o (List.mem_of_getElem? ho)
 simpa using this
theorem X2q{P:Program}{E:Env}{Φ : Exit→St→Prop}{l:List Oper}{k:Nat}(hback:Q3w l=true)(hf:forced l k=true)(hg:Q5g l=true):∀(r n:Nat),r+n=l.length→k≤n→∀(fuel:Nat) (listed:Array Bool) (a:Act) (w:World) (ι : Nat→Nat×Nat×Nat) (σ : St),listed.size=l.length→Q3x l (fun j=>listed.getD j false)→cntL (fun j=>listed.getD j false) l.length≤fuel →
 (∀j,j<l.length→listed.getD j false=decide (j<n))→Conc E ι σ a w→evL P l.toArray (l.drop n) σ (Φ .normal)→wpAny P .any l.toArray (fun ex a' w'=>∃ι' σ',Conc E ι' σ' a' w'∧Φ ex σ') fuel listed a w
 |0,n,hr,hk,fuel,listed,a,w,ι,σ,hsz,hcl,hcnt,hL,hc,h=>by
  have hall:∀j,j<l.length→listed.getD j false=true:=fun j hj=>by rw[hL j hj];simp;omega
  rw[List.drop_of_length_le (by omega)] at h
  have hnil:Region.ready .any l.toArray listed=[]:=List.eq_nil_iff_forall_not_mem.2 fun i hi=>by
   obtain⟨o,ho,hu,_⟩:=Q7n hsz hi
   have:=hall i (List.getElem?_eq_some_iff.1 ho).1
   rw[hu] at this;cases this
  cases fuel with
  |zero=>exact⟨hnil,ι,σ,hc,h⟩
  |succ fuel=>exact⟨fun _=>⟨ι,σ,hc,h⟩,fun i hi=>by rw[hnil] at hi;cases hi⟩
 |r+1,n,hr,hk,fuel,listed,a,w,ι,σ,hsz,hcl,hcnt,hL,hc,h=>by
  have hnl:n<l.length:=by omega
  have ho:l[n]? = some l[n]:=List.getElem?_eq_getElem hnl
  have hun:listed.getD n false=false:=by rw[hL n hnl];simp
  have hlow:∀j,j<n→listed.getD j false=true:=fun j hj=>by rw[hL j (by omega)];simp[hj]
  have hrd:=X7r hback hsz hnl hun hlow
  have honly:∀i,i∈Region.ready .any l.toArray listed→i=n:=fun i hi=>by
   obtain⟨o,ho',hu,hpre⟩:=Q7n hsz hi
   have hil:=(List.getElem?_eq_some_iff.1 ho').1
   rcases Nat.lt_trichotomy i n with h1|h1|h1
   · rw[hlow i h1] at hu;cases hu
   · exact h1
   · have:=Q2d hcl i (fun o2 ho2=>by rw[ho'] at ho2;cases ho2;exact hpre) n (X2i hf (by omega) hil h1)
     rw[hun] at this;cases this
  cases fuel with
  |zero=>
   have:=Q6t (L:=fun j=>listed.getD j false) l.length (by omega) n hnl
   rw[hun] at this;cases this
  |succ fuel=>
   refine⟨fun hnil=>(by rw[hnil] at hrd;cases hrd),fun i hi=>?_⟩
   obtain rfl:=honly i hi
   have hgo:=Q9j hg ho
   rw[List.drop_eq_getElem_cons hnl] at h
   unfold evL at h
   rw[hgo] at h
   unfold wpOp
   simp only[List.getElem?_toArray,ho]
   have hw:Region.wanted l[i] (yielded l.toArray a.tmps)=true:=by simp[Region.wanted,hgo]
   rw[if_pos hw]
   refine .inl (h E ι a w hc _ _ fun ι' σ' a' w' hk' hc'=>?_)
   have hset:∀j,j≠i→(listed.setIfInBounds i true).getD j false=listed.getD j false:=fun j hj=>by
    simp[Array.getD_eq_getD_getElem?,Array.getElem?_setIfInBounds_ne (Ne.symm hj)]
   have hset':(listed.setIfInBounds i true).getD i false=true:=by
    simp[Array.getD,hsz,hnl]
   refine X2q hback hf hg r (i+1) (by omega) (by omega) fuel _ a' w' ι' σ' (by simpa using hsz) (fun j x hx hLj ed hed hb=>?_) ?_ (fun j hj=>?_) hc' hk'
   · by_cases hji:j=i
     · subst hji
       obtain⟨o2,ho2,_,hpre⟩:=Q7n hsz hi
       rw[ho2] at hx;cases hx
       have:=hpre ed hed hb
       show(listed.setIfInBounds j true).getD ed.on false=true
       by_cases h2:ed.on=j
       · rw[h2];exact hset'
       · rw[hset _ h2];exact this
     · have hLj':listed.getD j false=true:=by rw[←hset j hji];exact hLj
       have:=hcl j x hx hLj' ed hed hb
       show(listed.setIfInBounds i true).getD ed.on false=true
       by_cases h2:ed.on=i
       · rw[h2];exact hset'
       · rw[hset _ h2];exact this
   · have:=(Q8l (L:=fun j=>listed.getD j false) (L':=fun j=>(listed.setIfInBounds i true).getD j false) hun hset' hset l.length).1 hnl
     omega
   · by_cases hji:j=i
     · subst hji;rw[hset'];simp
     · rw[hset j hji,hL j hj]
       exact decide_eq_decide.2 (by omega)
theorem X0k{P:Program}{id:Nat}{l m:List Oper}{es:List Ef}{σ0:St}{Φ : Exit→St→Prop}(hm:P.follows .mixedOrders=true)(hlen:es.length=l.length)(hok:Q5j l es=true)(hback:Q3w (l++m)=true)(hf:forced (l++m) l.length=true)(hgl:Q5g (l++m)=true)(hnew:∀d∈Q1n l,σ0.free d=true)
 (steps:∀i o e,l[i]? = some o→es[i]? = some e→StepD P l (stL l es (fun _=>true) i σ0) o e) (hrest:evL P (l++m).toArray m (stL l es (fun _=>true) l.length σ0) (Φ .normal)):AW P (.region id (l++m).toArray true) σ0 Φ:=by
 intro E ι a w hc
 refine wp_region_any hm ?_
 have hd0:=hc.drawn (w.drawn+1)
 generalize ({w with drawn:=w.drawn+1}:World)=w0 at hd0
 have pair:∀i j x y ex ey,j<i→l[i]? = some x→l[j]? = some y→es[i]? = some ex→es[j]? = some ey→pre l i j=true∨Q5z l.toArray x y ex ey=true:=fun i j x y ex ey hji hx hy hex hey=>by
  have hi:=(List.getElem?_eq_some_iff.1 hx).1
  have hok2:=hok
  unfold Q5j at hok2
  rw[Bool.and_eq_true] at hok2
  have h1:=List.all_eq_true.1 hok2.2 i (by simpa using hi)
  have h2:=List.all_eq_true.1 h1 j (by simpa using hji)
  simp only[hx,hy,hex,hey,Bool.or_eq_true] at h2
  exact h2
 have ef:∀i x,l[i]? = some x→∃e,es[i]? = some e:=fun i x hx=>⟨es[i]'(by rw[hlen];exact(List.getElem?_eq_some_iff.1 hx).1),List.getElem?_eq_getElem _⟩
 have key:∀(fuel:Nat) (listed:Array Bool) (a:Act) (w:World) (ι : Nat→Nat×Nat×Nat),listed.size=(l++m).length→Q3x (l++m) (fun j=>listed.getD j false)→cntL (fun j=>listed.getD j false) (l++m).length≤fuel→(∀j,l.length≤j→listed.getD j false=false) →
  Conc E ι (stL l es (fun j=>listed.getD j false) l.length σ0) a w→wpAny P .any (l++m).toArray (fun ex a' w'=>∃ι' σ',Conc E ι' σ' a' w'∧Φ ex σ') fuel listed a w:=by
  intro fuel
  induction fuel with
  |zero=>
   intro listed a w ι hsz hclF hcnt hout hc
   have hall:=Q6t (L:=fun j=>listed.getD j false) (l++m).length (by omega)
   refine X2q hback hf hgl m.length l.length (by rw[List.length_append];omega) (Nat.le_refl _) 0 listed a w ι (stL l es (fun _=>true) l.length σ0) hsz hclF hcnt (fun j hj=>?_) (hc.le ⟨by rw[Q1k,Q1k],fun t=>AV.le_of ?_,fun r cs hr=>?_⟩) (by rw[List.drop_left];exact hrest)
   · rcases Nat.lt_or_ge j l.length with h|h
     · have:=hall j hj
       rw[this];simp[h]
     · rw[hout j h];simp;omega
   · exact X4d _ fun j o hj hne _=>absurd (hall j (by rw[List.length_append];omega)) (by simpa using hne)
   · rw[←hr];exact X4e _ fun j e hj hne _=>absurd (hall j (by rw[List.length_append];omega)) (by simpa using hne)
  |succ fuel ih=>
   intro listed a w ι hsz hclF hcnt hout hc
   by_cases hhead:∃j,j<l.length∧listed.getD j false=false
   · obtain⟨j0,hj0,hu0,hlow0⟩:=X5i (L:=fun j=>listed.getD j false) hhead
     have hrd:=X7r hback hsz (by rw[List.length_append];omega) hu0 hlow0
     refine⟨fun hnil=>(by rw[hnil] at hrd;cases hrd),fun i hi=>?_⟩
     obtain⟨o,hoF,hu,hpre⟩:=Q7n hsz hi
     have hiF:=(List.getElem?_eq_some_iff.1 hoF).1
     have hil:i<l.length:=by
      rcases Nat.lt_or_ge i l.length with h|h
      · exact h
      · have:=Q2d hclF i (fun o2 ho2=>by rw[hoF] at ho2;cases ho2;exact hpre) j0 (X2i hf h hiF (by omega))
        rw[hu0] at this;cases this
     have ho:l[i]? = some o:=by rw[←hoF,List.getElem?_append_left hil]
     obtain⟨e,he⟩:=ef i o ho
     have hcl:Q3x l (fun j=>listed.getD j false):=fun j x hx=>hclF j x (by rw[List.getElem?_append_left (List.getElem?_eq_some_iff.1 hx).1];exact hx)
     have hdiff:∀j x ex,j<l.length→l[j]? = some x→es[j]? = some ex→(listed.getD j false)≠decide (j<i)→x.dst.toList.all (fun d=>!(o.looksAt l.toArray).contains d)=true∧(∀r∈e.rd,r∉ex.wn):=fun j x ex hj hx hex hne=>by
      rcases Nat.lt_trichotomy j i with hji|hji|hji
      · have hun:listed.getD j false=false:=by
         cases h:listed.getD j false with
         |false=>rfl
         |true=>rw[h] at hne;simp[hji] at hne
        rcases pair i j o x e ex hji ho hx he hex with hr|hr
        · have:=Q2d hcl i (fun o' ho'=>by rw[ho] at ho';cases ho';exact hpre) j hr
          rw[hun] at this;cases this
        · unfold Q5z at hr
          simp only[Bool.and_eq_true] at hr
          obtain⟨_,_,h3⟩:=Oper.apart_spec hr.1.1
          refine⟨?_,fun r hr' hrw=>?_⟩
          · cases hd:x.dst with
            |none=>rfl
            |some d=>simpa using h3 d hd
          · have:=List.all_eq_true.1 hr.1.2 r hrw
            simp at this
            exact this.1 hr'
      · subst hji
        rw[hu] at hne;simp at hne
      · have hli:listed.getD j false=true:=by
         cases h:listed.getD j false with
         |true=>rfl
         |false=>rw[h] at hne;simp at hne;omega
        rcases pair j i x o ex e hji hx ho hex he with hr|hr
        · have:=Q2d hcl j (fun o' ho'=>hcl j o' ho' hli) i hr
          rw[hu] at this;cases this
        · unfold Q5z at hr
          simp only[Bool.and_eq_true] at hr
          obtain⟨h1,_,_⟩:=Oper.apart_spec hr.1.1
          refine⟨?_,fun r hr' hrw=>?_⟩
          · cases hd:x.dst with
            |none=>rfl
            |some d=>simpa using h1 d hd
          · have:=List.all_eq_true.1 hr.2 r hrw
            simp at this
            exact this hr'
     have htext:=stL_all (l:=l) (es:=es) (σ:=σ0) i l.length (by omega)
     have hT:∀t∈o.looksAt l.toArray,(stL l es (fun j=>listed.getD j false) l.length σ0).T.getD t .any=(stL l es (fun _=>true) i σ0).T.getD t .any:=fun t ht=>by
      rw[←htext]
      refine X4d _ fun j x hj hne hx hd=>?_
      obtain⟨ex,hex⟩:=ef j x hx
      have:=(hdiff j x ex hj hx hex hne).1
      rw[hd] at this
      simp at this
      exact this ht
     have hH:∀r∈e.rd,hget (stL l es (fun j=>listed.getD j false) l.length σ0).H r=hget (stL l es (fun _=>true) i σ0).H r:=fun r hr=>by
      rw[←htext]
      refine X4e _ fun j ex hj hne hex hrw=>?_
      have hx:l[j]? = some l[j]:=List.getElem?_eq_getElem hj
      exact(hdiff j _ ex hj hx hex hne).2 r hr hrw
     have hN:∀d∈e.nw,(stL l es (fun j=>listed.getD j false) l.length σ0).free d=true:=fun d hd=>by
      have hf:=hok
      unfold Q5j at hf
      rw[Bool.and_eq_true] at hf
      have h1:=List.all_eq_true.1 hf.1 i (by simpa using hil)
      simp only[he] at h1
      have h2:=List.all_eq_true.1 h1 d hd
      rw[Bool.and_eq_true] at h2
      refine X2r (hnew d (by simpa using h2.1)) _ fun j ej hj hLj hej=>?_
      have h3:=List.all_eq_true.1 h2.2 j (by simpa using hj)
      simp only[hej,Bool.or_eq_true,Bool.not_eq_true'] at h3
      rcases h3 with(h3|h3)|h3
      · have:j=i:=by simpa using h3
        subst this
        rw[hu] at hLj;cases hLj
      · have hjo:l[j]? = some l[j]:=List.getElem?_eq_getElem hj
        have:=Q2d hcl j (fun o' ho'=>hcl j o' ho' hLj) i h3
        rw[hu] at this;cases this
      · exact h3
     generalize hτ : stL l es (fun j=>listed.getD j false) l.length σ0 = τ at *
     have hag:Q1a o (stL l es (fun _=>true) i σ0).ev τ.ev:=fun x hx=>by
      cases x with
      |tmp t=>exact hT t (List.mem_append_left _ (List.mem_filterMap.2 ⟨.tmp t,hx,rfl⟩))
      |_=>rfl
     have hset:∀j,j≠i→(listed.setIfInBounds i true).getD j false=listed.getD j false:=fun j hj=>by
      simp[Array.getD_eq_getD_getElem?,Array.getElem?_setIfInBounds_ne (Ne.symm hj)]
     have hset':(listed.setIfInBounds i true).getD i false=true:=by
      have:i<listed.size:=by rw[hsz,List.length_append];omega
      simp[Array.getD,this]
     have hclF':Q3x (l++m) (fun j=>(listed.setIfInBounds i true).getD j false):=fun j x hx hLj ed hed hb=>by
      by_cases hj:j=i
      · subst hj
        rw[hoF] at hx;cases hx
        have:=hpre ed hed hb
        show(listed.setIfInBounds j true).getD ed.on false=true
        by_cases h:ed.on=j
        · rw[h];exact hset'
        · rw[hset _ h];exact this
      · have hLj':listed.getD j false=true:=by rw[←hset j hj];exact hLj
        have:=hclF j x hx hLj' ed hed hb
        show(listed.setIfInBounds i true).getD ed.on false=true
        by_cases h:ed.on=i
        · rw[h];exact hset'
        · rw[hset _ h];exact this
     have hcl':Q3x l (fun j=>(listed.setIfInBounds i true).getD j false):=fun j x hx hLj ed hed hb=>by
      by_cases hj:j=i
      · subst hj
        rw[ho] at hx;cases hx
        have:=hpre ed hed hb
        show(listed.setIfInBounds j true).getD ed.on false=true
        by_cases h:ed.on=j
        · rw[h];exact hset'
        · rw[hset _ h];exact this
      · have hLj':listed.getD j false=true:=by rw[←hset j hj];exact hLj
        have:=hcl j x hx hLj' ed hed hb
        show(listed.setIfInBounds i true).getD ed.on false=true
        by_cases h:ed.on=i
        · rw[h];exact hset'
        · rw[hset _ h];exact this
     have hcnt':cntL (fun j=>(listed.setIfInBounds i true).getD j false) (l++m).length≤fuel:=by
      have:=(Q8l (L:=fun j=>listed.getD j false) (L':=fun j=>(listed.setIfInBounds i true).getD j false) hu hset' hset (l++m).length).1 (by rw[List.length_append];omega)
      omega
     have hlater:∀j x ex,i<j→l[j]? = some x→es[j]? = some ex→(listed.setIfInBounds i true).getD j false=true→x.dst≠o.dst∨x.dst=none:=fun j x ex hij hx hex hLj=>by
      rw[hset j (by omega)] at hLj
      rcases pair j i x o ex e hij hx ho hex he with hr|hr
      · have:=Q2d hcl j (fun o' ho'=>hcl j o' ho' hLj) i hr
        rw[hu] at this;cases this
      · unfold Q5z at hr
        simp only[Bool.and_eq_true] at hr
        obtain⟨_,h2,_⟩:=Oper.apart_spec hr.1.1
        cases hd:x.dst with
        |none=>exact .inr rfl
        |some d=>exact .inl fun e=>h2 d hd e.symm
     have hlaterH:∀j x ex,i<j→l[j]? = some x→es[j]? = some ex→(listed.setIfInBounds i true).getD j false=true→∀r∈e.wn,r∉ex.wn:=fun j x ex hij hx hex hLj r hr hrw=>by
      rw[hset j (by omega)] at hLj
      rcases pair j i x o ex e hij hx ho hex he with hr'|hr'
      · have:=Q2d hcl j (fun o' ho'=>hcl j o' ho' hLj) i hr'
        rw[hu] at this;cases this
      · unfold Q5z at hr'
        simp only[Bool.and_eq_true] at hr'
        have:=List.all_eq_true.1 hr'.1.2 r hr
        simp at this
        exact this.2 hrw
     have hle:(τ.eff o.dst e.v e.wr).le (stL l es (fun j=>(listed.setIfInBounds i true).getD j false) l.length σ0):=by
      have hstep:stL l es (fun j=>(listed.setIfInBounds i true).getD j false) (i+1) σ0=(stL l es (fun j=>(listed.setIfInBounds i true).getD j false) i σ0).eff o.dst e.v e.wr:=by
       conv=>lhs;unfold stL
       simp only[hset',if_true,ho,he]
      refine⟨by show(setO τ.T o.dst e.v).length=_;rw[Q7g,←hτ,Q1k,Q1k],fun t=>AV.le_of ?_,fun r cs hr=>?_⟩
      · by_cases hd:o.dst=some t
        · have h1:∀k,i+1≤k→k≤l.length→(stL l es (fun j=>(listed.setIfInBounds i true).getD j false) k σ0).T.getD t .any=(stL l es (fun j=>(listed.setIfInBounds i true).getD j false) (i+1) σ0).T.getD t .any:=by
           intro k
           induction k with
           |zero=>intro h;omega
           |succ k ihk=>
            intro h1 h2
            by_cases hk:k=i
            · subst hk;rfl
            · rw[←ihk (by omega) (by omega)]
              conv=>lhs;unfold stL
              simp only
              split
              · rename_i hLk
                split
                · rename_i x ex hx hex
                  refine Q6f ?_
                  rcases hlater k x ex (by omega) hx hex hLk with h|h
                  · rwa [hd] at h
                  · rw[h];simp
                · rfl
              · rfl
          rw[h1 l.length (by omega) (Nat.le_refl _),hstep]
          show(setO τ.T o.dst e.v).getD t .any=(setO _ o.dst e.v).getD t .any
          rw[hd]
          exact X0g (by rw[←hτ,Q1k,Q1k])
        · show(setO τ.T o.dst e.v).getD t .any=_
          rw[Q6f hd,←hτ]
          refine X4d _ fun j x hj hne hx hdx=>?_
          by_cases hji:j=i
          · subst hji;rw[ho] at hx;cases hx;exact hd hdx
          · exact hne (hset j hji).symm
      · show hget (Q0t τ.H e.wr) r=some cs
        rw[←hr]
        by_cases hrw:r∈e.wn
        · have h1:∀k,i+1≤k→k≤l.length→hget (stL l es (fun j=>(listed.setIfInBounds i true).getD j false) k σ0).H r=hget (stL l es (fun j=>(listed.setIfInBounds i true).getD j false) (i+1) σ0).H r:=by
           intro k
           induction k with
           |zero=>intro h;omega
           |succ k ihk=>
            intro h1 h2
            by_cases hk:k=i
            · subst hk;rfl
            · rw[←ihk (by omega) (by omega)]
              conv=>lhs;unfold stL
              simp only
              split
              · rename_i hLk
                split
                · rename_i x ex hx hex
                  show hget (Q0t _ ex.wr) r=_
                  rw[Q2f,Q8w (hlaterH k x ex (by omega) hx hex hLk r hrw)]
                · rfl
              · rfl
          rw[h1 l.length (by omega) (Nat.le_refl _),hstep]
          show hget (Q0t τ.H e.wr) r=hget (Q0t _ e.wr) r
          rw[Q2f,Q2f]
          obtain⟨ds,hds⟩:=Q1d hrw
          rw[hds]
        · rw[Q2f,Q8w hrw,←hτ]
          refine X4e _ fun j ex hj hne hex hrx=>?_
          by_cases hji:j=i
          · subst hji;rw[he] at hex;cases hex;exact hrw hrx
          · exact hne (hset j hji).symm
     have hnext:∀ι' a' w',Conc E ι' (τ.eff o.dst e.v e.wr) a' w'→wpAny P .any (l++m).toArray (fun ex a' w'=>∃ι' σ',Conc E ι' σ' a' w'∧Φ ex σ') fuel (listed.setIfInBounds i true) a' w':=fun ι' a' w' hc'=>
      ih _ a' w' ι' (by simpa using hsz) hclF' hcnt' (fun j hj=>by rw[hset j (by omega)];exact hout j hj) (hc'.le hle)
     have hgo:=Q9j hgl hoF
     unfold wpOp
     simp only[List.getElem?_toArray,hoF]
     have run:OpN P o (stL l es (fun _=>true) i σ0).ev (hget (stL l es (fun _=>true) i σ0).H) e→o.wp P a w (wpAny P .any (l++m).toArray (fun ex a' w'=>∃ι' σ',Conc E ι' σ' a' w'∧Φ ex σ') fuel (listed.setIfInBounds i true)) (fun ex a' w'=>∃ι' σ',Conc E ι' σ' a' w'∧Φ ex σ'):=fun hF=>
      hF τ hag hH hN E ι a w hc _ _ fun ι' σ' a' w' hk hc'=>hnext ι' a' w' (by rw[←hk];exact hc')
     have hw:Region.wanted o (yielded (l++m).toArray a.tmps)=true:=by simp[Region.wanted,hgo]
     rw[if_pos hw]
     rcases steps i o e ho he with⟨hg,hF⟩|⟨j,want,d,b,hg,hd,_⟩
     · exact .inl (run hF)
     · rw[hgo] at hg;cases hg
   · have hall:∀j,j<l.length→listed.getD j false=true:=fun j hj=>by
      cases h:listed.getD j false with
      |true=>rfl
      |false=>exact absurd ⟨j,hj,h⟩ hhead
     refine X2q hback hf hgl m.length l.length (by rw[List.length_append];omega) (Nat.le_refl _) (fuel+1) listed a w ι (stL l es (fun _=>true) l.length σ0) hsz hclF hcnt (fun j hj=>?_) (hc.le ⟨by rw[Q1k,Q1k],fun t=>AV.le_of ?_,fun r cs hr=>?_⟩) (by rw[List.drop_left];exact hrest)
     · rcases Nat.lt_or_ge j l.length with h|h
       · rw[hall j h];simp[h]
       · rw[hout j h];simp;omega
     · exact X4d _ fun j o hj hne _=>absurd (hall j hj) (by simpa using hne)
     · rw[←hr];exact X4e _ fun j e hj hne _=>absurd (hall j hj) (by simpa using hne)
 have hrep:∀j,(Array.replicate (l++m).length false).getD j false=false:=fun j=>by
  simp[Array.getD_eq_getD_getElem?,Array.getElem?_replicate]
  split<;>rfl
 have hempty:∀k,stL l es (fun j=>(Array.replicate (l++m).length false).getD j false) k σ0 = σ0:=by
  intro k
  induction k with
  |zero=>rfl
  |succ k ih=>
   unfold stL
   simp only[hrep k,Bool.false_eq_true,if_false,ih]
 have hsz:(l++m).toArray.size=(l++m).length:=by simp
 rw[hsz]
 refine key (l++m).length _ a w0 ι (by simp) (fun j o ho hL=>?_) ?_ (fun j _=>hrep j) (by rw[hempty];exact hd0)
 · simp only[hrep j] at hL;cases hL
 · have:∀k,cntL (fun j=>(Array.replicate (l++m).length false).getD j false) k≤k:=by
    intro k
    induction k with
    |zero=>exact Nat.le_refl _
    |succ k ih=>unfold cntL;split<;>omega
   exact this _
theorem X5m{P:Program}{σ : St}{Φ : Exit→St→Prop}{id:Nat}(l m:List Oper)(hm:P.follows .mixedOrders=true)(hback:Q3w (l++m)=true)(hf:forced (l++m) l.length=true)(hgl:Q5g (l++m)=true)(hnew:(Q1n l).all (fun d=>σ.free d)=true)(h:∀R:St→Prop,(∀σ',evL P (l++m).toArray m σ' (Φ .normal)→R σ')→evD P l l σ [] R):evC P (.region id (l++m).toArray true) σ Φ:=by
 obtain⟨es,h1,_,h3,h4,h5⟩:=X3o (P:=P) (l0:=l) (σ0:=σ) l σ [] 0 rfl rfl (Nat.zero_le _) (fun _ _=>rfl) (h _ fun _ h=>h)
 exact X0k hm h1 h3 hback hf hgl (fun d hd=>List.all_eq_true.1 hnew d hd) (fun i o e ho he=>h4 i o e (Nat.zero_le _) ho he) h5
theorem X6v{P:Program}{σ : St}{Φ : Exit→St→Prop}{id:Nat}{ops:List Oper}(k:Nat)(hk:k≤ops.length)(hm:P.follows .mixedOrders=true)(hback:Q3w ops=true)(hf:forced ops k=true)(hgl:Q5g ops=true)(hnew:(Q1n (ops.take k)).all (fun d=>σ.free d)=true)(h:∀R:St→Prop,(∀σ',evL P ops.toArray (ops.drop k) σ' (Φ .normal)→R σ')→evD P (ops.take k) (ops.take k) σ [] R):evC P (.region id ops.toArray true) σ Φ:=by
 have e:=List.take_append_drop k ops
 have hl:(ops.take k).length=k:=by rw[List.length_take];omega
 have:=X5m (P:=P) (σ:=σ) (Φ:=Φ) (id:=id) (ops.take k) (ops.drop k) hm (by rw[e];exact hback) (by rw[e,hl];exact hf) (by rw[e];exact hgl) hnew (by rw[e];exact h)
 rwa [e] at this
section
variable {P:Program} {o:Oper} {σ : St}
theorem X4p{f:FuncId}{fn:Func}{cargs:List AV}{d r e sz n:Nat}{pcs:List PV}{fo:Operand}{cas:Array Operand}{ts:Array TypeId}{caps:List AV}(hF:Fn P f cargs [] (.row r e sz n) [(r,pcs.map .c)])(ho:o.op = .call {callee:=.value fo,args:=cas,argTypes:=ts})(hfo:Q0k fo=true)(has:cas.toList.all Q0k=true)(hf:σ.ev fo = .fn f caps)
 (hfn:P.funcs[f]? = some fn) (hname:(fn.name == "runtime.NumGoroutine")=false) (hbody:fn.body.isNone=false) (hargs:Q1e (fun _=>d) cargs (cas.toList.map σ.ev++caps)) (hd:o.dst=some d) (hd2:d<1000) :
 OpN P o σ.ev (hget σ.H) ⟨.row d e sz n,[],[(d,pcs.map .c)],[d]⟩:=fun τ hA _ hN=>by
 have h1:τ.ev fo = σ.ev fo:=hA fo (by rw[ho];simp[Op.operands,Call.operands])
 have h2:cas.toList.map τ.ev=cas.toList.map σ.ev:=List.map_congr_left fun x hx=>hA x (by rw[ho];simp[Op.operands,Call.operands];first|exact .inr (by simpa using hx))
 have hrn:AV.renL (fun _=>d) (pcs.map .c)=pcs.map .c:=by simp
 refine X3c hF (fun _=>d) ho hfo has (by rw[h1];exact hf) hfn hname hbody rfl (by rw[h2];exact hargs) (fun r hr=>by cases hr) (fun a ha b hb _=>?_) ⟨.inr ⟨hN d (by simp),hd2⟩,trivial⟩ (by simp[AV.inN]) (by simp[inH]) ?_
 · simp at ha hb
   rw[ha,hb]
 · rw[hd]
   simp only[renH,Q1w,Q0t,hrn,AV.ren]
   rfl
theorem Q9k{f:FuncId}{fn:Func}{cargs:List AV}{d r e sz n:Nat}{pcs:List PV}{fo:Operand}{cas:Array Operand}{ts:Array TypeId}{caps:List AV}{l0 rest:List Oper}{acc:List Ef}{K:St→Prop}(hF:Fn P f cargs [] (.row r e sz n) [(r,pcs.map .c)])(hg:o.guard=none)(ho:o.op = .call {callee:=.value fo,args:=cas,argTypes:=ts})(hfo:Q0k fo=true)(has:cas.toList.all Q0k=true)(hf:σ.ev fo = .fn f caps)
 (hfn:P.funcs[f]? = some fn) (hname:(fn.name == "runtime.NumGoroutine")=false) (hbody:fn.body.isNone=false) (hargs:Q1e (fun _=>d) cargs (cas.toList.map σ.ev++caps)) (hd:o.dst=some d) (hd2:d<1000)
 (h:evD P l0 rest (σ.eff o.dst (.row d e sz n) [(d,pcs.map .c)]) (⟨.row d e sz n,[],[(d,pcs.map .c)],[d]⟩::acc) K):evD P l0 (o::rest) σ acc K:=
 ⟨_,.inl ⟨hg,X4p hF ho hfo has hf hfn hname hbody hargs hd hd2⟩,h⟩
end
end Go.Proofs.YtbmcdemnnbndeaaGreatDoor
namespace Go.Proofs.YtbmcdemnnbndeaaGreatDoor
open Go.RowKit
set_option maxRecDepth 20000
set_option maxHeartbeats 2000000
def oneA(x:Ac):Ac:=⟨x.a,x.b,x.n,x.code.take 201,x.store.take 25⟩
def rcS(l:List Ac):List AV:=(l.flatMap Ac.pv).map .c
theorem Q6j(l:List Ac):(rcS l).length=l.length*8:=by unfold rcS;rw[List.length_map,Q0u Q6a]
end Go.Proofs.YtbmcdemnnbndeaaGreatDoor
namespace Go.Proofs.YtbmcdemnnbndeaaGreatDoor
open Go.RowKit
open Nat (reduceBEq)
set_option maxRecDepth 20000
set_option maxHeartbeats 2000000
theorem many_fn(ex:Bool)(L:List Ac)(hL:L.length≤maxLen):Fn Tryz.prog 55 [stA ex L] [] (vi .i64 ((L.filter fun x=>decide (16≤x.a)).length:Nat)) []:=by
 (refine Q0n Tryz.func55 rfl (by rfl) ?_;simp only[Tryz.ntmps55,List.length_cons,List.length_nil,Nat.reduceAdd,Nat.reduceSub,List.replicate,List.cons_append,List.nil_append])
 (repeat(any_goals(first|((with_reducible refine Q0c ?_ ?_);rfl;intro K hK;simp only[go_sem];((repeat(refine ndI (by first|assumption) ?_));refine hK _ ?_;clear hK K))|(with_reducible first|(refine Q0d ?_;refine hR _ ?_;clear hR R)|((first|refine Q0e ?_|refine Q0l ?_);intro Ψ hΨ hΨ')|(refine Q0a ?_;intro R hR)|(refine hΨ _ ?_;clear hΨ hΨ' Ψ)))))
 refine Q3n L.length (fun i=>⟨[.any,.ptr 1 0,.any,vi .i64 (((L.take i).filter fun x=>decide (16≤x.a)).length:Nat),.any,.any,.any,acS ex L,vi .i64 L.length,vi .i64 (i:Int),.any,.any,.any,.any,.any,.any,.any,.any,.any,.any],[(1,[acS ex L])]⟩) (St.le_of (by simp[leT]) (by simp[leH,hget])) ?_
 intro i hi Ψ hΨ hΨ'
 (try dsimp only at hΨ ⊢)
 have k8:L.length<9223372036854775808:=Nat.lt_succ_of_le hL
 rcases Nat.lt_or_ge i L.length with hlt|hge
 · obtain⟨x,hx⟩:∃x,L[i]? = some x:=⟨_,List.getElem?_eq_getElem hlt⟩
   have k1:(decide ((i:Int)<(L.length:Int)))=true:=decide_eq_true (by omega)
   have k2:=X5v hx
   have k7:(i:Int)+1=((i+1:Nat):Int):=by omega
   have k3:((L.take (i+1)).filter fun x=>decide (16≤x.a))=((L.take i).filter fun x=>decide (16≤x.a))++(if decide (16≤x.a) then[x] else[]):=by
    rw[List.take_add_one,hx,List.filter_append];simp[List.filter_cons]
   have k5:((L.take i).filter fun x=>decide (16≤x.a)).length≤i:=Nat.le_trans (List.length_filter_le _ _) (by rw[List.length_take];omega)
   rw[k3,List.length_append] at hΨ
   generalize ((L.take i).filter fun x=>decide (16≤x.a)).length=c at hΨ k5 ⊢
   cases hq:decide (16≤x.a) with
   |true=>
    rw[hq] at hΨ
    have k6:(c:Int)+1=((c+1:Nat):Int):=by omega
    (have W:=ndI k1 (ndI k2 (ndI k6 (ndI k7 @wrI)));(repeat(any_goals(first|((with_reducible refine Q0c ?_ ?_);rfl;intro K hK;simp(disch:=omega) only[go_sem,W,hq];((repeat(refine ndI (by first|assumption|omega|rfl) ?_));refine hK _ ?_;clear hK K))|(with_reducible first|(refine Q0d ?_;refine hR _ ?_;clear hR R)|((first|refine Q0e ?_|refine Q0l ?_);intro Ψ hΨ hΨ')|(refine Q0a ?_;intro R hR)|(refine hΨ _ ?_;clear hΨ hΨ' Ψ)|refine Q0j ?_)|((with_reducible refine hΨ' _ _ ?_ ?_);(focus(simp;done));clear hΨ hΨ' Ψ)|((with_reducible apply Q0f);rfl;rfl;all_goals(intro hc;first|(cases hc;done)|(try simp only at hc)))))))
    all_goals exact hΨ _ hlt (St.le_of (by simp[leT]) (by simp[leH,hget]))
   |false=>
    rw[hq] at hΨ
    (have W:=ndI k1 (ndI k2 (ndI k7 @wrI));(repeat(any_goals(first|((with_reducible refine Q0c ?_ ?_);rfl;intro K hK;simp(disch:=omega) only[go_sem,W,hq];((repeat(refine ndI (by first|assumption|omega|rfl) ?_));refine hK _ ?_;clear hK K))|(with_reducible first|(refine Q0d ?_;refine hR _ ?_;clear hR R)|((first|refine Q0e ?_|refine Q0l ?_);intro Ψ hΨ hΨ')|(refine Q0a ?_;intro R hR)|(refine hΨ _ ?_;clear hΨ hΨ' Ψ)|refine Q0j ?_)|((with_reducible refine hΨ' _ _ ?_ ?_);(focus(simp;done));clear hΨ hΨ' Ψ)|((with_reducible apply Q0f);rfl;rfl;all_goals(intro hc;first|(cases hc;done)|(try simp only at hc)))))))
    all_goals exact hΨ _ hlt (St.le_of (by simp[leT]) (by simp[leH,hget]))
 · have k1:(decide ((i:Int)<(L.length:Int)))=false:=decide_eq_false (by omega)
   rw[List.take_of_length_le hge]
   (repeat(any_goals(first|((with_reducible refine Q0c ?_ ?_);rfl;intro K hK;simp only[go_sem,k1];((repeat(refine ndI (by first|assumption) ?_));refine hK _ ?_;clear hK K))|(with_reducible first|(refine Q0d ?_;refine hR _ ?_;clear hR R)|((first|refine Q0e ?_);intro Ψ hΨ hΨ')|(refine Q0a ?_;intro R hR)|(refine hΨ _ ?_;clear hΨ hΨ' Ψ)|refine Q0h ?_|refine Q1f ?_)|((with_reducible refine hΨ' _ _ ?_ ?_);(focus(simp;done));clear hΨ hΨ' Ψ)|((with_reducible apply Q0f);rfl;rfl;all_goals(intro hc;first|(cases hc;done)|(try simp only at hc))))))
   all_goals(refine⟨by simp,⟨_,?_,AV.le_refl _⟩,Q0g (by simp[leH,hget])⟩;simp only[Tryz.results55,resL,ldA,Q0o,go_sem])
theorem X1o(ex:Bool)(L:List Ac):Fn Tryz.prog 82 [stA ex L] [] (.fn 102 [.ptr 1 0]) [(1,[acS ex L])]:=by
 (refine Q0n Tryz.func82 rfl (by rfl) ?_;simp only[Tryz.ntmps82,List.length_cons,List.length_nil,Nat.reduceAdd,Nat.reduceSub,List.replicate,List.cons_append,List.nil_append])
 (repeat(any_goals(first|((with_reducible refine Q0c ?_ ?_);rfl;intro K hK;simp only[go_sem];((repeat(refine ndI (by first|assumption) ?_));refine hK _ ?_;clear hK K))|(with_reducible first|(refine Q0d ?_;refine hR _ ?_;clear hR R)|((first|refine Q0e ?_);intro Ψ hΨ hΨ')|(refine Q0a ?_;intro R hR)|(refine hΨ _ ?_;clear hΨ hΨ' Ψ)|refine Q0h ?_))))
 all_goals exact⟨by simp,⟨_,rfl,AV.le_of (by simp[Q0o])⟩,Q0g (by simp[leH,hget])⟩
abbrev balH0(out:List Nat):List (Nat×List AV):=[(1003,[.row 1600 34 4 out.length]),(1600,rcW out)]
abbrev balH1(out:List Nat)(y:Nat):List (Nat×List AV):=[(1003,[.row 15 34 4 (out.length+1)]),(15,rcW (out++[y]))]
abbrev stB(ex:Bool)(L:List Ac)(lp r:Nat)(out:List Nat)(i:Nat):St:=⟨[yv lp,.ptr 1101 0,.any,.any,.any,.any,acS ex L,vi .i64 L.length,vi .i64 i,.any,.any,.any,.any,.any,.any,.any,.any,.any],[(1003,[.row r 34 4 out.length]),(r,rcW out),(1101,[acS ex L])]⟩
theorem stB_rn(ex:Bool)(L:List Ac)(lp:Nat)(out:List Nat)(i:Nat):(stB ex L lp 15 out i).to (stB ex L lp 600 out i):=by
 have h:=St.to.rn (σ:=stB ex L lp 15 out i) (fun r=>if r=15 then 600 else r) (fun r=>if r=600 then 15 else r) [15,1003,1101] (by simp[AV.inNL,AV.inN]) (by simp) (by simp[inH,AV.inNL,AV.inN,Q5q]) (by simp) (by simp)
 simpa [AV.renL,AV.ren,renH,Q4w] using h
theorem stB_rn0(ex:Bool)(L:List Ac)(lp:Nat)(out:List Nat)(i:Nat):(stB ex L lp 1600 out i).to (stB ex L lp 600 out i):=by
 have h:=St.to.rn (σ:=stB ex L lp 1600 out i) (fun r=>if r=1600 then 600 else r) (fun r=>if r=600 then 1600 else r) [1600,1003,1101] (by simp[AV.inNL,AV.inN]) (by simp) (by simp[inH,AV.inNL,AV.inN,Q5q]) (by simp) (by simp)
 simpa [AV.renL,AV.ren,renH,Q4w] using h
theorem bal1_fn(ex:Bool)(m:List Nat)(hm1:m.length≤10)(L:List Ac)(hl:L.length≤900){t:Tmp}{asg bod:Code}{T0:List AV}(hT0:AV.inNL [1003] T0=true)(lp:Nat)
 (hY:∀(out:List Nat) (y:Ac),y∈L→out.length≤1000→YC Tryz.prog t asg bod T0 lp (wN y.b) (balH0 out) (balH1 out y.b)) :
 FnW (LoopAt t asg bod T0 [1003,1600,1101] lp) Tryz.prog 102 [yv lp,.ptr 1101 0] [(1003,[.row 1600 34 4 m.length]),(1600,rcW m),(1101,[acS ex L])] (.tup []) [(1003,[.row 600 34 4 (m++L.map Ac.b).length]),(600,rcW (m++L.map Ac.b))]:=by
 (refine fnW_of Tryz.func102 rfl (by rfl) ?_;simp only[Tryz.ntmps102,List.length_cons,List.length_nil,Nat.reduceAdd,Nat.reduceSub,List.replicate,List.cons_append,List.nil_append])
 refine AWE.seq (AWE.of ?_)
 have k8:∀r,AV.refsL r (rcW m)=false:=fun r=>Q0m r _
 (repeat(any_goals(first|((with_reducible refine Q0c ?_ ?_);rfl;intro K hK;simp only[go_sem,k8];((repeat(refine ndI (by first|assumption) ?_));refine hK _ ?_;clear hK K))|(with_reducible first|(refine Q0d ?_;refine hR _ ?_;clear hR R)|(refine Q0a ?_;intro R hR)))))
 refine AWE.block ?_
 refine AWE.loop (α:={i:Nat // i≤L.length}) (fun p=>stB ex L lp 600 (m++(L.take p.1).map Ac.b) p.1) (fun p=>L.length-p.1) ⟨0,Nat.zero_le _⟩ ?_ ?_
 · refine St.to.trans (St.to.of_le (τ:=stB ex L lp 1600 (m++(L.take 0).map Ac.b) 0) (St.le_of (by simp[leT]) (by simp[leH,hget]))) (stB_rn0 ex L lp _ _)
 rintro ⟨i,hi⟩
 dsimp only[stB]
 rcases Nat.lt_or_ge i L.length with hlt|hge
 · obtain⟨y,hy⟩:∃y,L[i]? = some y:=⟨L[i],List.getElem?_eq_getElem hlt⟩
   have k1:(decide ((i:Int)<(L.length:Int)))=true:=by simpa using hlt
   have k2:=X5v hy
   have k7:(i:Int)+1=((i+1:Nat):Int):=by omega
   have k5:(m++(L.take i).map Ac.b).length≤1000:=by rw[List.length_append,List.length_map,List.length_take];omega
   have hm:=List.mem_of_getElem? hy
   have m1:m++(L.take (i+1)).map Ac.b=(m++(L.take i).map Ac.b)++[y.b]:=by
    rw[List.take_add_one,hy,List.map_append,List.append_assoc];rfl
   have fin:∀τ : St,τ.to (stB ex L lp 600 (m++(L.take (i+1)).map Ac.b) (i+1))→∃q:{i:Nat // i≤L.length},L.length-q.1<L.length-i∧τ.to (stB ex L lp 600 (m++(L.take q.1).map Ac.b) q.1):=fun τ h=>⟨⟨i+1,hlt⟩,by simp only;omega,h⟩
   rw[m1] at fin
   generalize m++(L.take i).map Ac.b=out at k5 fin ⊢
   have k9:∀r,AV.refsL r (rcW out)=false:=fun r=>Q0m r _
   refine AWE.seq (AWE.of ?_)
   (repeat(any_goals(first|((with_reducible refine Q0c ?_ ?_);rfl;intro K hK;simp only[go_sem,k1];((repeat(refine ndI (by first|assumption) ?_));refine hK _ ?_;clear hK K))|(with_reducible first|(refine Q0d ?_;refine hR _ ?_;clear hR R)|(refine Q0a ?_;intro R hR)))))
   refine AWE.seq (AWE.of ?_)
   (repeat(any_goals(first|(with_reducible first|refine Q0j ?_)|((with_reducible apply Q0f);rfl;rfl;all_goals(intro hc;first|(cases hc;done)|(try simp only at hc))))))
   refine AWE.seq (AWE.block (AWE.seq (AWE.of ?_)))
   (have W:=ndI k1 (ndI k2 (ndI k7 (ndI k9 @wrI)));(repeat(any_goals(first|((with_reducible refine Q0c ?_ ?_);rfl;intro K hK;simp(disch:=omega) only[go_sem,W];((repeat(refine ndI (by first|assumption|omega|rfl) ?_));refine hK _ ?_;clear hK K))|(with_reducible first|(refine Q0d ?_;refine hR _ ?_;clear hR R)|(refine Q0a ?_;intro R hR))))))
   refine AWE.seq (AWE.region_at 3 rfl rfl ?_)
   intro R hR
   simp only[List.take,List.drop]
   (have W:=ndI k1 (ndI k2 (ndI k7 (ndI k9 @wrI)));(repeat(any_goals(first|((with_reducible refine Q0c ?_ ?_);rfl;intro K hK;simp(disch:=omega) only[go_sem,W];((repeat(refine ndI (by first|assumption|rfl) ?_));refine hK _ ?_;clear hK K))|(with_reducible first|(refine Q0d ?_;refine hR _ ?_;clear hR R))))))
   refine⟨.inl rfl,opE_yield (hY out y hm (by omega)) (fun r=>if r=1600 then 600 else r) rfl rfl rfl rfl (.inr ?_) (by rfl) ?_ ?_ ?_ ?_ [1003] hT0 ?_ ?_⟩
   · simp[AV.ren,AV.renL,St.ev]
   · simp[hget,AV.renL,AV.ren,Q4w]
   · intro r hr q hq h
     simp only[List.map_cons,List.map_nil,List.cons_append,List.nil_append,List.mem_cons,List.not_mem_nil,or_false] at hr hq
     rcases hr with rfl|rfl|rfl|rfl<;>rcases hq with rfl|rfl|rfl|rfl<;>simp at h ⊢
   · simp[Q1v,St.free,Q2i,AV.refs,AV.refsL,k9]
   · simp[inH,AV.inNL,AV.inN,Q5q]
   · simp[hget]
   intro R hR
   simp only[List.drop,Q0t,Q1w,renH,AV.ren,AV.renL,Q4w,hput,hdel,hget,St.put,List.set]
   (have W:=ndI k1 (ndI k2 (ndI k7 (ndI k9 @wrI)));(repeat(any_goals(first|((with_reducible refine Q0c ?_ ?_);rfl;intro K hK;simp(disch:=omega) only[go_sem,W];((repeat(refine ndI (by first|assumption|rfl) ?_));refine hK _ ?_;clear hK K))|(with_reducible first|(refine Q0d ?_;refine hR _ ?_;clear hR R))))))
   show AWE _ _ _ _ _
   refine AWE.of ?_
   (repeat(any_goals(first|(with_reducible first|refine Q0j ?_)|((with_reducible apply Q0f);rfl;rfl;all_goals(intro hc;first|(cases hc;done)|(try simp only at hc))))))
   show AWE _ _ _ _ _
   refine AWE.of ?_
   (repeat(any_goals(first|((with_reducible refine Q0c ?_ ?_);rfl;intro K hK;simp(disch:=omega) only[go_sem,k7,wrI];((repeat(refine ndI (by first|assumption|rfl) ?_));refine hK _ ?_;clear hK K))|(with_reducible first|(refine Q0d ?_;refine hR _ ?_;clear hR R)|(refine Q0a ?_;intro R hR)))))
   exact fin _ (St.to.trans (St.to.of_le (τ:=stB ex L lp 15 (out++[y.b]) (i+1)) (St.le_of (by simp[leT]) (by simp[leH,hget]))) (stB_rn ex L lp _ _))
 · have k1:(decide ((i:Int)<(L.length:Int)))=false:=by simpa using hge
   have e:L.take i=L:=List.take_of_length_le hge
   rw[e]
   refine AWE.seq (AWE.of ?_)
   (repeat(any_goals(first|((with_reducible refine Q0c ?_ ?_);rfl;intro K hK;simp only[go_sem,k1];((repeat(refine ndI (by first|assumption) ?_));refine hK _ ?_;clear hK K))|(with_reducible first|(refine Q0d ?_;refine hR _ ?_;clear hR R)|(refine Q0a ?_;intro R hR)))))
   refine AWE.seq (AWE.of ?_)
   (repeat(any_goals(first|(with_reducible first|refine Q1f ?_)|((with_reducible apply Q0f);rfl;rfl;all_goals(intro hc;first|(cases hc;done)|(try simp only at hc))))))
   exact⟨by simp,⟨_,rfl,AV.le_of (by simp[Q0o])⟩,Q0g (by simp[leH,hget])⟩
theorem X7l(l:List Nat)(x:Nat):rcW (l++[x])=rcW l++(wpv x).map .c:=by
 unfold rcW;rw[List.flatMap_append,List.map_append,List.flatMap_cons,List.flatMap_nil,List.append_nil]
theorem X0d(ex:Bool)(L:List Ac)(hl:L.length≤900)(ok:∀x∈L,x.b<WW):Fn Tryz.prog 50 [stA ex L,.c (.v (.slice none 0 0))] [] (.tup [wN ((L.map Ac.b).sum%WW),vb (!decide (WW≤(L.map Ac.b).sum))]) []:=by
 have hs:=fun ex=>X0f ex (L.map Ac.b) (by rw[List.length_map];omega) (by simpa using ok)
 obtain⟨q,hq⟩:∃q,decide (WW≤(L.map Ac.b).sum)=q:=⟨_,rfl⟩
 obtain⟨n,hn⟩:∃n,(L.map Ac.b).sum%WW=n:=⟨_,rfl⟩
 rw[hq,hn] at hs
 rw[hq,hn]
 (refine Q0n Tryz.func50 rfl (by rfl) ?_;simp only[Tryz.ntmps50,List.length_cons,List.length_nil,Nat.reduceAdd,Nat.reduceSub,List.replicate,List.cons_append,List.nil_append])
 (repeat(any_goals(first|((with_reducible refine Q0i ?_ ?_ ?_);rfl;rfl;intro K hK;(apply Q0y (X1o ex L) (fun r=>r+100);rfl;rfl;rfl;rfl;exact Tryz.func82;kernel_rfl;rfl;rfl;(intro r hr q hq h;simp only[List.map_cons,List.map_nil,List.cons_append,List.nil_append,List.mem_cons,List.not_mem_nil,or_false] at hr hq;(try dsimp only at h);first|omega);(simp only[Q1e,Q1y,AV.ren,AV.renL,Q0p,List.mem_cons,List.not_mem_nil,forall_eq_or_imp,forall_eq,Q1v,List.contains_cons,List.contains_nil,AV.refsL,AV.refs,Q0m,AV.inN,AV.inNL,inH,Q0x,go_sem]));(simp only[Q0t,Q1w,renH,AV.ren,AV.renL,Q0p,go_sem];refine hK _ ?_;clear hK K))|((with_reducible refine Q0c ?_ ?_);rfl;intro K hK;simp only[go_sem];((repeat(refine ndI (by first|assumption) ?_));refine hK _ ?_;clear hK K))|(with_reducible first|(refine Q0d ?_;refine hR _ ?_;clear hR R)|((first|refine Q0e ?_|refine Q0l ?_);intro Ψ hΨ hΨ')|(refine Q0a ?_;intro R hR)|(refine hΨ _ ?_;clear hΨ hΨ' Ψ)))))
 show AW _ _ _ _
 refine AW.to (St.to.nilcell 3 700 34 4 0 (cs:=[.c (.v (.slice none 0 0))]) (by simp[hget]) rfl (by simp[St.free,Q2i,AV.refsL,AV.refs]) (by decide) (by decide)) ?_
 refine AW.range (T0:=[.any,.any,.any,.ptr 1003 0,.any,.any,.any,.any,.any,.any,.any,.any,.any,.any,.any,.any,.any,.any,.any,.any,.any,.any,.any,.any]) (cargs:=[.ptr 1101 0]) (H0:=[(1003,[.row 1600 34 4 ([]:List Nat).length]),(1600,rcW []),(1101,[acS ex L])]) (H1:=[(1003,[.row 600 34 4 ([]++L.map Ac.b).length]),(600,rcW ([]++L.map Ac.b))]) (res:=.tup []) (fun r=>if r=1600 then 700 else if 1000≤r then r-1000 else r) (fun lp=>bal1_fn ex [] (by simp) L hl rfl lp fun out y hm ho=>yc_of rfl rfl ?_) rfl rfl Tryz.func102 (by kernel_rfl) rfl rfl ?_ ?_ ?_ ?_ ?_ rfl ?_ ?_
 · have k4:=Q6i out
   have k9:∀r,AV.refsL r (rcW out)=false:=fun r=>Q0m r _
   simp only[List.set]
   (repeat(any_goals(first|((with_reducible refine Q0c ?_ ?_);rfl;intro K hK;simp(disch:=omega) only[go_sem,k4,k9];((repeat(refine ndI (by first|assumption|rfl) ?_));refine hK _ ?_;clear hK K))|(with_reducible first|(refine Q0d ?_;refine hR _ ?_;clear hR R)|(refine Q0a ?_;intro R hR)))))
   refine⟨rfl,?_⟩
   (have W:=ndI k4 (ndI k9 @Q0m);(repeat(any_goals(first|((with_reducible refine Q0c ?_ ?_);rfl;intro K hK;simp(disch:=omega) only[go_sem,W,Q4e,AV.refsL,AV.refs,List.length_append,List.length_cons,List.length_nil,Bool.or_false];((repeat(refine ndI (by first|assumption|omega|rfl) ?_));refine hK _ ?_;clear hK K))|(with_reducible first|(refine Q0d ?_;refine hR _ ?_;clear hR R)|((first|refine Q0l ?_);intro Ψ hΨ hΨ')|(refine Q0a ?_;intro R hR))|((with_reducible refine hΨ' _ _ ?_ ?_);(focus(simp;done));clear hΨ hΨ' Ψ)))))
   exact⟨rfl,Q0g (by simp[leH,hget,X7l,wpv])⟩
 · simp[Q1e,Q1y,AV.ren]
 · simp[Q1e,Q1y,AV.ren]
 · simp[hget,AV.renL,AV.ren,hput,rcW]
 · intro r hr q hq h
   simp only[List.map_cons,List.map_nil,List.cons_append,List.nil_append,List.mem_cons,List.not_mem_nil,or_false] at hr hq
   rcases hr with rfl|rfl|rfl|rfl|rfl<;>rcases hq with rfl|rfl|rfl|rfl|rfl<;>simp at h ⊢
 · simp[Q1v,St.free,Q2i,AV.refs,AV.refsL,hput]
 · simp[inH,AV.inNL,AV.inN,Q5q]
 · simp only[Q0t,Q1w,renH,AV.ren,AV.renL,Q4w,hput,hdel,hget,Nat.reduceLeDiff,Nat.reduceSub,Nat.reduceEqDiff,↓reduceIte,List.nil_append]
   (repeat(any_goals(first|((with_reducible refine Q0c ?_ ?_);rfl;intro K hK;simp only[go_sem];((repeat(refine ndI (by first|assumption) ?_));refine hK _ ?_;clear hK K))|(with_reducible first|((first|refine Q0e ?_);intro Ψ hΨ hΨ')|(refine Q0a ?_;intro R hR)|(refine hΨ _ ?_;clear hΨ hΨ' Ψ))|((with_reducible refine hΨ' _ _ ?_ ?_);(focus(simp;done));clear hΨ hΨ' Ψ))))
   refine Q8j rfl (St.to.frz 600 (pcs:=(L.map Ac.b).flatMap wpv) (by simp[hget,rcW])) ?_
   have el:((L.map Ac.b).flatMap wpv).length=(L.map Ac.b).length*4:=Q0u Q4n _
   simp only[St.frz,AV.frzL,AV.frz,frzH,el,if_true,eq_self,↓reduceIte,Nat.reduceEqDiff]
   (repeat(any_goals(first|((with_reducible refine Q0i ?_ ?_ ?_);rfl;rfl;intro K hK;((apply Q0b (hs _);rfl;rfl;rfl;rfl;exact Tryz.func36);kernel_rfl;rfl;(focus((simp only[go_sem]);(try rfl);done));(first|rfl));(simp only[go_sem];refine hK _ ?_;clear hK K))|((with_reducible refine Q0c ?_ ?_);rfl;intro K hK;simp only[go_sem];((repeat(refine ndI (by first|assumption|rfl) ?_));refine hK _ ?_;clear hK K))|(with_reducible first|(refine Q0d ?_;refine hR _ ?_;clear hR R)|((first|refine Q0e ?_);intro Ψ hΨ hΨ')|(refine Q0a ?_;intro R hR)|(refine hΨ _ ?_;clear hΨ hΨ' Ψ)|refine Q0h ?_))))
   all_goals(refine⟨by simp,⟨_,?_,AV.le_refl _⟩,Q0g (by simp[leH,hget])⟩;simp only[Tryz.results50,resL,ldA,Q0o,go_sem])
theorem total_row(ex:Bool)(m:List Nat)(hm1:m.length≤10)(hm2:∀x∈m,x<WW)(L:List Ac)(hl:L.length≤900)(ok:∀x∈L,x.b<WW):Fn Tryz.prog 50 [stA ex L,.row 1700 34 4 m.length] [(1700,rcW m)] (.tup [wN ((m++L.map Ac.b).sum%WW),vb (!decide (WW≤(m++L.map Ac.b).sum))]) []:=by
 have hs:=fun ex=>X0f ex (m++L.map Ac.b) (by rw[List.length_append,List.length_map];omega) (fun x hx=>by rcases List.mem_append.1 hx with h|h;exact hm2 x h;obtain⟨y,hy,rfl⟩:=List.mem_map.1 h;exact ok y hy)
 obtain⟨q,hq⟩:∃q,decide (WW≤(m++L.map Ac.b).sum)=q:=⟨_,rfl⟩
 obtain⟨n,hn⟩:∃n,(m++L.map Ac.b).sum%WW=n:=⟨_,rfl⟩
 rw[hq,hn] at hs
 rw[hq,hn]
 (refine Q0n Tryz.func50 rfl (by rfl) ?_;simp only[Tryz.ntmps50,List.length_cons,List.length_nil,Nat.reduceAdd,Nat.reduceSub,List.replicate,List.cons_append,List.nil_append])
 have k8:∀r,AV.refsL r (rcW m)=false:=fun r=>Q0m r _
 (repeat(any_goals(first|((with_reducible refine Q0i ?_ ?_ ?_);rfl;rfl;intro K hK;(apply Q0y (X1o ex L) (fun r=>r+100);rfl;rfl;rfl;rfl;exact Tryz.func82;kernel_rfl;rfl;rfl;(intro r hr q hq h;simp only[List.map_cons,List.map_nil,List.cons_append,List.nil_append,List.mem_cons,List.not_mem_nil,or_false] at hr hq;(try dsimp only at h);first|omega);(simp only[Q1e,Q1y,AV.ren,AV.renL,Q0p,List.mem_cons,List.not_mem_nil,forall_eq_or_imp,forall_eq,Q1v,List.contains_cons,List.contains_nil,AV.refsL,AV.refs,Q0m,AV.inN,AV.inNL,inH,Q0x,go_sem,k8]));(simp only[Q0t,Q1w,renH,AV.ren,AV.renL,Q0p,go_sem,k8];refine hK _ ?_;clear hK K))|((with_reducible refine Q0c ?_ ?_);rfl;intro K hK;simp only[go_sem,k8];((repeat(refine ndI (by first|assumption) ?_));refine hK _ ?_;clear hK K))|(with_reducible first|(refine Q0d ?_;refine hR _ ?_;clear hR R)|((first|refine Q0e ?_|refine Q0l ?_);intro Ψ hΨ hΨ')|(refine Q0a ?_;intro R hR)|(refine hΨ _ ?_;clear hΨ hΨ' Ψ)))))
 show AW _ _ _ _
 refine AW.range (T0:=[.any,.any,.any,.ptr 1003 0,.any,.any,.any,.any,.any,.any,.any,.any,.any,.any,.any,.any,.any,.any,.any,.any,.any,.any,.any,.any]) (cargs:=[.ptr 1101 0]) (H0:=[(1003,[.row 1600 34 4 m.length]),(1600,rcW m),(1101,[acS ex L])]) (H1:=[(1003,[.row 600 34 4 (m++L.map Ac.b).length]),(600,rcW (m++L.map Ac.b))]) (res:=.tup []) (fun r=>if r=1600 then 1700 else if 1000≤r then r-1000 else r) (fun lp=>bal1_fn ex m hm1 L hl rfl lp fun out y hm ho=>yc_of rfl rfl ?_) rfl rfl Tryz.func102 (by kernel_rfl) rfl rfl ?_ ?_ ?_ ?_ ?_ rfl ?_ ?_
 · have k4:=Q6i out
   have k9:∀r,AV.refsL r (rcW out)=false:=fun r=>Q0m r _
   simp only[List.set]
   (repeat(any_goals(first|((with_reducible refine Q0c ?_ ?_);rfl;intro K hK;simp(disch:=omega) only[go_sem,k4,k9];((repeat(refine ndI (by first|assumption|rfl) ?_));refine hK _ ?_;clear hK K))|(with_reducible first|(refine Q0d ?_;refine hR _ ?_;clear hR R)|(refine Q0a ?_;intro R hR)))))
   refine⟨rfl,?_⟩
   (have W:=ndI k4 (ndI k9 @Q0m);(repeat(any_goals(first|((with_reducible refine Q0c ?_ ?_);rfl;intro K hK;simp(disch:=omega) only[go_sem,W,Q4e,AV.refsL,AV.refs,List.length_append,List.length_cons,List.length_nil,Bool.or_false];((repeat(refine ndI (by first|assumption|omega|rfl) ?_));refine hK _ ?_;clear hK K))|(with_reducible first|(refine Q0d ?_;refine hR _ ?_;clear hR R)|((first|refine Q0l ?_);intro Ψ hΨ hΨ')|(refine Q0a ?_;intro R hR))|((with_reducible refine hΨ' _ _ ?_ ?_);(focus(simp;done));clear hΨ hΨ' Ψ)))))
   exact⟨rfl,Q0g (by simp[leH,hget,X7l,wpv])⟩
 · simp[Q1e,Q1y,AV.ren]
 · simp[Q1e,Q1y,AV.ren]
 · simp[hget,AV.renL,AV.ren,hput,rcW]
 · intro r hr q hq h
   simp only[List.map_cons,List.map_nil,List.cons_append,List.nil_append,List.mem_cons,List.not_mem_nil,or_false] at hr hq
   rcases hr with rfl|rfl|rfl|rfl|rfl<;>rcases hq with rfl|rfl|rfl|rfl|rfl<;>simp at h ⊢
 · simp[Q1v,St.free,Q2i,AV.refs,AV.refsL,hput,k8]
 · simp[inH,AV.inNL,AV.inN,Q5q]
 · simp only[Q0t,Q1w,renH,AV.ren,AV.renL,Q4w,hput,hdel,hget,Nat.reduceLeDiff,Nat.reduceSub,Nat.reduceEqDiff,↓reduceIte]
   (repeat(any_goals(first|((with_reducible refine Q0c ?_ ?_);rfl;intro K hK;simp only[go_sem,k8];((repeat(refine ndI (by first|assumption) ?_));refine hK _ ?_;clear hK K))|(with_reducible first|((first|refine Q0e ?_);intro Ψ hΨ hΨ')|(refine Q0a ?_;intro R hR)|(refine hΨ _ ?_;clear hΨ hΨ' Ψ))|((with_reducible refine hΨ' _ _ ?_ ?_);(focus(simp;done));clear hΨ hΨ' Ψ))))
   refine Q8j rfl (St.to.frz 600 (pcs:=(m++L.map Ac.b).flatMap wpv) (by simp[hget,rcW])) ?_
   have el:((m++L.map Ac.b).flatMap wpv).length=(m++L.map Ac.b).length*4:=Q0u Q4n _
   simp only[St.frz,AV.frzL,AV.frz,frzH,el,if_true,eq_self,↓reduceIte,Nat.reduceEqDiff]
   (repeat(any_goals(first|((with_reducible refine Q0i ?_ ?_ ?_);rfl;rfl;intro K hK;((apply Q0b (hs _);rfl;rfl;rfl;rfl;exact Tryz.func36);kernel_rfl;rfl;(focus((simp only[go_sem]);(try rfl);done));(first|rfl));(simp only[go_sem];refine hK _ ?_;clear hK K))|((with_reducible refine Q0c ?_ ?_);rfl;intro K hK;simp only[go_sem];((repeat(refine ndI (by first|assumption|rfl) ?_));refine hK _ ?_;clear hK K))|(with_reducible first|(refine Q0d ?_;refine hR _ ?_;clear hR R)|((first|refine Q0e ?_);intro Ψ hΨ hΨ')|(refine Q0a ?_;intro R hR)|(refine hΨ _ ?_;clear hΨ hΨ' Ψ)|refine Q0h ?_))))
   all_goals(refine⟨by simp,⟨_,?_,AV.le_refl _⟩,Q0g (by simp[leH,hget])⟩;simp only[Tryz.results50,resL,ldA,Q0o,go_sem])
end Go.Proofs.YtbmcdemnnbndeaaGreatDoor
namespace Go.Proofs.YtbmcdemnnbndeaaGreatDoor
open Go.RowKit
open Nat (reduceBEq)
set_option maxRecDepth 20000
set_option maxHeartbeats 2000000
def okS1(L:List Ac)(j:Nat):Bool:=match L[j]? with
 |none=>true
 |some x=>okAc x && !Q1s x&&(decide (j=0)||match L[j-1]? with
  |some q=>decide (q.a<x.a)
  |none=>true)
def okS(q:Bool)(L:List Ac):Nat→Bool
 |0=>q
 |i+1=>okS q L i&&okS1 L i
def X0y(L:List Ac):Nat:=(L.filter fun x=>decide (16≤x.a)).length
def okSt(L:List Ac):Bool:=okS (!decide (WW≤(L.map Ac.b).sum)&&decide (X0y L≤24)) L L.length
theorem X4x{L:List Ac}{x:Ac}(h:L[0]? = some x):okS1 L 0=(okAc x && !Q1s x):=by
 unfold okS1;rw[h];simp
theorem X0t{L:List Ac}{j:Nat}{q x:Ac}(hq:L[j]? = some q)(hx:L[j+1]? = some x):okS1 L (j+1)=(okAc x && !Q1s x&&decide (q.a<x.a)):=by
 unfold okS1;rw[hx];simp[hq]
theorem X7p{q:Bool}{L:List Ac}{i:Nat}(h:okS q L i=false):∀j,i≤j→okS q L j=false
 |0,hj=>by
  obtain rfl:i=0:=by omega
  exact h
 |j+1,hj=>by
  by_cases e:i=j+1
  · rw[←e];exact h
  · unfold okS;rw[X7p h j (by omega),Bool.false_and]
def Ac.fine(x:Ac):Prop:=x.ok∧x.code.length+x.store.length≤maxLen
theorem Q6u(ex:Bool)(L:List Ac)(hl:L.length≤900)(ok:∀x∈L,x.fine):Fn Tryz.prog 21 [stA ex L] [] (vi .i64 (if okSt L then 0 else 160)) []:=by
 have tn:=X0d ex L hl fun x hx=>(ok x hx).1.2.1
 have mn:=many_fn ex L (Nat.le_trans hl (by decide))
 obtain⟨rr,hrr⟩:∃r,okSt L=r:=⟨_,rfl⟩
 rw[hrr]
 unfold okSt at hrr
 obtain⟨s1,hs1⟩:∃q,decide (WW≤(L.map Ac.b).sum)=q:=⟨_,rfl⟩
 obtain⟨s2,hs2⟩:∃q,decide (X0y L≤24)=q:=⟨_,rfl⟩
 obtain⟨tt,htt⟩:∃q,(L.map Ac.b).sum%WW=q:=⟨_,rfl⟩
 have f1:decide ((((L.filter fun x=>decide (16≤x.a)).length:Nat):Int)≤24)=s2:=by
  rw[←hs2];exact decide_eq_decide.2 (by unfold X0y;omega)
 rw[hs1,htt] at tn
 rw[hs1,hs2] at hrr
 clear hs1 hs2 htt
 have inv:(!s1&&s2)=true∨((!s1&&s2)=false∧rr=false):=by
  cases h:(!s1&&s2) with
  |true=>exact .inl rfl
  |false=>
   rw[h] at hrr
   exact .inr ⟨rfl,by rw[←hrr];exact X7p (i:=0) rfl _ (Nat.zero_le _)⟩
 rcases inv with hq|⟨hq,rfl⟩
 · simp only[Bool.and_eq_true,Bool.not_eq_true'] at hq
   obtain⟨rfl,rfl⟩:=hq
   rw[show(!false&&true)=true from rfl] at hrr
   (refine Q0n Tryz.func21 rfl (by rfl) ?_;simp only[Tryz.ntmps21,List.length_cons,List.length_nil,Nat.reduceAdd,Nat.reduceSub,List.replicate,List.cons_append,List.nil_append])
   (repeat(any_goals(first|((with_reducible refine Q0i ?_ ?_ ?_);rfl;rfl;intro K hK;((apply Q0b (tn);rfl;rfl;rfl;rfl;exact Tryz.func50);kernel_rfl;rfl;(focus((simp only[go_sem,f1]);(try rfl);done));(first|rfl));(simp only[go_sem,f1];refine hK _ ?_;clear hK K))|((with_reducible refine Q0c ?_ ?_);rfl;intro K hK;simp only[go_sem,f1];((repeat(refine ndI (by first|assumption) ?_));refine hK _ ?_;clear hK K))|(with_reducible first|(refine Q0d ?_;refine hR _ ?_;clear hR R)|((first|refine Q0e ?_|refine Q0l ?_|refine X5k ?_);intro Ψ hΨ hΨ')|(refine Q0a ?_;intro R hR)|(refine hΨ _ ?_;clear hΨ hΨ' Ψ)|refine X5l ?_)|((with_reducible apply Q0s);rfl;rfl;rfl;all_goals(intro hb;first|(cases hb;done)|((try simp only[Bool.not_true,Bool.not_false] at hb);(first|((with_reducible intro K hK);(first|((apply Q0b (mn);rfl;rfl;rfl;rfl;exact Tryz.func55);kernel_rfl;rfl;(focus((simp only[go_sem,f1]);(try rfl);done));(first|rfl))|skip);simp only[go_sem,f1];((repeat(refine ndI (by first|assumption) ?_));refine hK _ ?_;clear hK K)))))))))
   refine Q3n L.length (fun i=>⟨[.any,.ptr 1 0,vi .i64 0,.any,vb (okS true L i),.any,.any,.any,.any,.any,.any,.any,.any,.any,.any,.any,.any,.any,.any,acS ex L,vi .i64 L.length,vi .i64 (i:Int),.any,.any,.any,.any,.any,.any,.any,.any,.any,.any,.any,.any,.any,.any,.any,.any,.any,.any,.any,.any,.any,.any,.any,.any,.any,.any,.any,.any,.any,.any,.any,.any,.any,.any,.any,.any],[(1,[acS ex L])]⟩) (St.le_of (by simp[leT,okS]) (by simp[leH,hget])) ?_
   intro i hi Ψ hΨ hΨ'
   (try dsimp only at hΨ ⊢)
   have k7:(i:Int)+1=((i+1:Nat):Int):=by omega
   rcases Nat.lt_or_ge i L.length with hlt|hge
   · obtain⟨x,hx⟩:∃x,L[i]? = some x:=⟨_,List.getElem?_eq_getElem hlt⟩
     have k1:(decide ((i:Int)<(L.length:Int)))=true:=decide_eq_true (by omega)
     have k2:=X5v hx
     obtain⟨⟨u1,u2,u3,⟨u4,u5⟩,u6,u7⟩,u8⟩:=ok x (List.mem_of_getElem? hx)
     have hck:=check_fn x u7 u6 u4
     have hem:=Q7a x u2 u6 u4 u8
     obtain⟨q1,hq1⟩:∃q,okAc x=q:=⟨_,rfl⟩
     obtain⟨q2,hq2⟩:∃q,Q1s x=q:=⟨_,rfl⟩
     rw[hq1] at hck
     rw[hq2] at hem
     have hnx:okS true L (i+1)=(okS true L i&&okS1 L i):=rfl
     have hno:okS true L (i+1)=false→rr=false:=fun h=>by rw[←hrr];exact X7p h _ hlt
     have hno0:okS true L i=false→rr=false:=fun h=>by rw[←hrr];exact X7p h _ hi
     rw[hnx] at hΨ hno
     generalize okS true L i=g at hΨ hno hno0 ⊢
     rcases Nat.eq_zero_or_pos i with h0|h0
     · have n3:((i:Int)==0)=true:=by rw[h0];rfl
       have hok:okS1 L i=(q1 && !q2):=by
        rw[h0] at hx ⊢
        rw[X4x hx,hq1,hq2]
       rw[hok] at hΨ hno
       cases g<;>cases q1<;>cases q2
       all_goals have hr:=hno
       all_goals try replace hr:=hr rfl
       all_goals simp only[Bool.false_eq_true,if_true,if_false] at hck
       all_goals(have W:=ndI k1 (ndI k2 (ndI k7 (ndI n3 @wrI)));(repeat(any_goals(first|((with_reducible refine Q0c ?_ ?_);rfl;intro K hK;simp(disch:=omega) only[go_sem,W];((repeat(refine ndI (by first|assumption|omega|rfl) ?_));refine hK _ ?_;clear hK K))|(with_reducible first|(refine Q0d ?_;refine hR _ ?_;clear hR R)|((first|refine Q0e ?_|refine Q0l ?_);intro Ψ hΨ hΨ')|(refine Q0a ?_;intro R hR)|(refine hΨ _ ?_;clear hΨ hΨ' Ψ)|refine Q0j ?_|refine Q0h ?_|refine Q1f ?_)|((with_reducible refine hΨ' _ _ ?_ ?_);(focus(simp;done));clear hΨ hΨ' Ψ)|((with_reducible apply Q0f);rfl;rfl;all_goals(intro hc;first|(cases hc;done)|(try simp only at hc)))|((with_reducible refine Q0v ?_ ?_);kernel_rfl;(with_reducible refine hR _ ?_);clear hR R)|((first|((with_reducible apply Q2y);rfl;rfl;rfl;rfl)|((with_reducible apply Q3l);rfl;rfl;rfl)|((first|((with_reducible apply Q4v);rfl;rfl;rfl;rfl;rfl));((first|(apply Q0r (hck);rfl;rfl;rfl;rfl;exact Tryz.func56)|(apply Q0r (hem);rfl;rfl;rfl;rfl;exact Tryz.func57));kernel_rfl;rfl;(focus((simp(disch:=omega) only[go_sem,W]);(try rfl);done));(first|rfl)))|((first|((with_reducible apply Q0w);rfl;rfl)|((with_reducible apply Q1u);rfl;rfl;rfl;rfl;rfl));(simp(disch:=omega) only[rdE,rdOf,go_sem,W];rfl);(intro τ hA hQ hN;((try simp only[Q1a,Op.operands,Call.operands,go_sem,W,go_sem,List.mem_cons,List.not_mem_nil,forall_eq_or_imp,forall_eq,List.append_toArray,Option.toArray] at hA);(try simp only[go_sem,W,List.mem_cons,List.not_mem_nil,forall_eq_or_imp,forall_eq] at hQ hN);(first|(revert hA;intro hA));(first|(revert hQ;intro hQ));(first|(revert hN;intro hN));simp(disch:=omega) only[go_sem,W,go_sem,hA,hQ,hN];(repeat(refine ndI (by first|assumption|rfl) ?_));(first|apply Q0z)))));(simp(disch:=omega) only[St.eff,setO,Q0t,go_sem,W]))|((with_reducible refine Q0q ?_ ?_ ?_ ?_);kernel_rfl;kernel_rfl;(first|kernel_rfl);intro R hR)))))
       all_goals first
        |exact hΨ _ hlt (St.le_of (by simp[leT]) (by simp[leH,hget]))
        |(rw[hr];(refine⟨by simp,⟨_,?_,AV.le_refl _⟩,Q0g (by simp[leH,hget])⟩;simp only[Tryz.results21,resL,ldA,Q0o,go_sem]))
     · obtain⟨j,hj⟩:∃j,i=j+1:=⟨i-1,by omega⟩
       obtain⟨q,hq⟩:∃q,L[j]? = some q:=⟨_,List.getElem?_eq_getElem (by omega)⟩
       have n3:((i:Int)==0)=false:=by rw[beq_eq_false_iff_ne];omega
       have n4:=X5v hq
       have n5:(i:Int)-1=(j:Int):=by omega
       have hjl:j<L.length:=by omega
       obtain⟨q3,hq3⟩:∃c,decide (q.a<x.a)=c:=⟨_,rfl⟩
       have hok:okS1 L i=(q1 && !q2&&q3):=by
        rw[hj] at hx ⊢
        rw[X0t hq hx,hq1,hq2,hq3]
       rw[hok] at hΨ hno
       cases g<;>cases q1<;>cases q2<;>cases q3
       all_goals have hr:=hno
       all_goals try replace hr:=hr rfl
       all_goals simp only[Bool.false_eq_true,if_true,if_false] at hck
       all_goals(have W:=ndI k1 (ndI k2 (ndI k7 (ndI n3 (ndI n4 (ndI n5 (ndI hq3 @wrI))))));(repeat(any_goals(first|((with_reducible refine Q0c ?_ ?_);rfl;intro K hK;simp(disch:=omega) only[go_sem,W];((repeat(refine ndI (by first|assumption|omega|rfl) ?_));refine hK _ ?_;clear hK K))|(with_reducible first|(refine Q0d ?_;refine hR _ ?_;clear hR R)|((first|refine Q0e ?_|refine Q0l ?_);intro Ψ hΨ hΨ')|(refine Q0a ?_;intro R hR)|(refine hΨ _ ?_;clear hΨ hΨ' Ψ)|refine Q0j ?_|refine Q0h ?_|refine Q1f ?_)|((with_reducible refine hΨ' _ _ ?_ ?_);(focus(simp;done));clear hΨ hΨ' Ψ)|((with_reducible apply Q0f);rfl;rfl;all_goals(intro hc;first|(cases hc;done)|(try simp only at hc)))|((with_reducible refine Q0v ?_ ?_);kernel_rfl;(with_reducible refine hR _ ?_);clear hR R)|((first|((with_reducible apply Q2y);rfl;rfl;rfl;rfl)|((with_reducible apply Q3l);rfl;rfl;rfl)|((first|((with_reducible apply Q4v);rfl;rfl;rfl;rfl;rfl));((first|(apply Q0r (hck);rfl;rfl;rfl;rfl;exact Tryz.func56)|(apply Q0r (hem);rfl;rfl;rfl;rfl;exact Tryz.func57));kernel_rfl;rfl;(focus((simp(disch:=omega) only[go_sem,W]);(try rfl);done));(first|rfl)))|((first|((with_reducible apply Q0w);rfl;rfl)|((with_reducible apply Q1u);rfl;rfl;rfl;rfl;rfl));(simp(disch:=omega) only[rdE,rdOf,go_sem,W];rfl);(intro τ hA hQ hN;((try simp only[Q1a,Op.operands,Call.operands,go_sem,W,go_sem,List.mem_cons,List.not_mem_nil,forall_eq_or_imp,forall_eq,List.append_toArray,Option.toArray] at hA);(try simp only[go_sem,W,List.mem_cons,List.not_mem_nil,forall_eq_or_imp,forall_eq] at hQ hN);(first|(revert hA;intro hA));(first|(revert hQ;intro hQ));(first|(revert hN;intro hN));simp(disch:=omega) only[go_sem,W,go_sem,hA,hQ,hN];(repeat(refine ndI (by first|assumption|omega|rfl) ?_));(first|apply Q0z)))));(simp(disch:=omega) only[St.eff,setO,Q0t,go_sem,W]))|((with_reducible refine Q0q ?_ ?_ ?_ ?_);kernel_rfl;kernel_rfl;(first|kernel_rfl);intro R hR)))))
       all_goals first
        |exact hΨ _ hlt (St.le_of (by simp[leT]) (by simp[leH,hget]))
        |(rw[hr];(refine⟨by simp,⟨_,?_,AV.le_refl _⟩,Q0g (by simp[leH,hget])⟩;simp only[Tryz.results21,resL,ldA,Q0o,go_sem]))
   · have k1:(decide ((i:Int)<(L.length:Int)))=false:=decide_eq_false (by omega)
     have e:i=L.length:=by omega
     rw[e,hrr]
     rw[e] at k1
     (repeat(any_goals(first|((with_reducible refine Q0c ?_ ?_);rfl;intro K hK;simp only[go_sem,k1];((repeat(refine ndI (by first|assumption) ?_));refine hK _ ?_;clear hK K))|(with_reducible first|(refine Q0d ?_;refine hR _ ?_;clear hR R)|((first|refine Q0e ?_);intro Ψ hΨ hΨ')|(refine Q0a ?_;intro R hR)|(refine hΨ _ ?_;clear hΨ hΨ' Ψ)|refine Q0j ?_|refine Q0h ?_|refine Q1f ?_)|((with_reducible refine hΨ' _ _ ?_ ?_);(focus(simp;done));clear hΨ hΨ' Ψ)|((with_reducible apply Q0f);rfl;rfl;all_goals(intro hc;first|(cases hc;done)|(try simp only at hc))))))
     all_goals simp only[Bool.not_eq_true',Bool.not_eq_false'] at hc
     all_goals rw[hc]
     all_goals(refine⟨by simp,⟨_,?_,AV.le_refl _⟩,Q0g (by simp[leH,hget])⟩;simp only[Tryz.results21,resL,ldA,Q0o,go_sem])
 · (refine Q0n Tryz.func21 rfl (by rfl) ?_;simp only[Tryz.ntmps21,List.length_cons,List.length_nil,Nat.reduceAdd,Nat.reduceSub,List.replicate,List.cons_append,List.nil_append])
   cases s1<;>cases s2
   all_goals first|(exact absurd hq (by decide))|skip
   all_goals(repeat(any_goals(first|((with_reducible refine Q0i ?_ ?_ ?_);rfl;rfl;intro K hK;((apply Q0b (tn);rfl;rfl;rfl;rfl;exact Tryz.func50);kernel_rfl;rfl;(focus((simp only[go_sem,f1]);(try rfl);done));(first|rfl));(simp only[go_sem,f1];refine hK _ ?_;clear hK K))|((with_reducible refine Q0c ?_ ?_);rfl;intro K hK;simp only[go_sem,f1];((repeat(refine ndI (by first|assumption) ?_));refine hK _ ?_;clear hK K))|(with_reducible first|(refine Q0d ?_;refine hR _ ?_;clear hR R)|((first|refine Q0e ?_|refine Q0l ?_|refine X5k ?_);intro Ψ hΨ hΨ')|(refine Q0a ?_;intro R hR)|(refine hΨ _ ?_;clear hΨ hΨ' Ψ)|refine X5l ?_)|((with_reducible apply Q0s);rfl;rfl;rfl;all_goals(intro hb;first|(cases hb;done)|((try simp only[Bool.not_true,Bool.not_false] at hb);(first|((with_reducible intro K hK);(first|((apply Q0b (mn);rfl;rfl;rfl;rfl;exact Tryz.func55);kernel_rfl;rfl;(focus((simp only[go_sem,f1]);(try rfl);done));(first|rfl))|skip);simp only[go_sem,f1];((repeat(refine ndI (by first|assumption) ?_));refine hK _ ?_;clear hK K))|((fail_if_success (with_reducible intro _));simp only[go_sem,f1]))))))))
   all_goals refine Q3n L.length (fun i=>⟨[.any,.ptr 1 0,vi .i64 0,.any,vb false,.any,.any,.any,.any,.any,.any,.any,.any,.any,.any,.any,.any,.any,.any,acS ex L,vi .i64 L.length,vi .i64 (i:Int),.any,.any,.any,.any,.any,.any,.any,.any,.any,.any,.any,.any,.any,.any,.any,.any,.any,.any,.any,.any,.any,.any,.any,.any,.any,.any,.any,.any,.any,.any,.any,.any,.any,.any,.any,.any],[(1,[acS ex L])]⟩) (St.le_of (by simp[leT]) (by simp[leH,hget])) ?_
   all_goals intro i hi Ψ hΨ hΨ'
   all_goals(try dsimp only at hΨ ⊢)
   all_goals rcases Nat.lt_or_ge i L.length with hlt|hge
   all_goals first
    |(have k1:(decide ((i:Int)<(L.length:Int)))=true:=decide_eq_true (by omega)
      have hx:=hlt
      obtain⟨x,hx⟩:∃x,L[i]? = some x:=⟨_,List.getElem?_eq_getElem hx⟩
      have k2:=X5v hx)
    |(have k1:(decide ((i:Int)<(L.length:Int)))=false:=decide_eq_false (by omega)
      have k2:=True.intro)
   all_goals(repeat(any_goals(first|((with_reducible refine Q0c ?_ ?_);rfl;intro K hK;simp(disch:=omega) only[go_sem,k1,k2];((repeat(refine ndI (by first|assumption|omega|rfl) ?_));refine hK _ ?_;clear hK K))|(with_reducible first|(refine Q0d ?_;refine hR _ ?_;clear hR R)|((first|refine Q0e ?_|refine Q0l ?_);intro Ψ hΨ hΨ')|(refine Q0a ?_;intro R hR)|(refine hΨ _ ?_;clear hΨ hΨ' Ψ)|refine Q0j ?_|refine Q0h ?_|refine Q1f ?_)|((with_reducible refine hΨ' _ _ ?_ ?_);(focus(simp;done));clear hΨ hΨ' Ψ)|((with_reducible apply Q0f);rfl;rfl;all_goals(intro hc;first|(cases hc;done)|(try simp only at hc)))|((with_reducible refine Q0v ?_ ?_);kernel_rfl;(with_reducible refine hR _ ?_);clear hR R)|((first|((with_reducible apply Q2y);rfl;rfl;rfl;rfl)|((with_reducible apply Q3l);rfl;rfl;rfl)|((first|((with_reducible apply Q0w);rfl;rfl));(simp(disch:=omega) only[rdE,rdOf,go_sem,k1,k2];rfl);(intro τ hA hQ hN;((try simp only[Q1a,Op.operands,Call.operands,go_sem,k1,k2,go_sem,List.mem_cons,List.not_mem_nil,forall_eq_or_imp,forall_eq,List.append_toArray,Option.toArray] at hA);(try simp only[go_sem,k1,k2,List.mem_cons,List.not_mem_nil,forall_eq_or_imp,forall_eq] at hQ hN);(first|(revert hA;intro hA));(first|(revert hQ;intro hQ));(first|(revert hN;intro hN));simp(disch:=omega) only[go_sem,k1,k2,go_sem,hA,hQ,hN];(repeat(refine ndI (by first|assumption|rfl) ?_));(first|apply Q0z)))));(simp(disch:=omega) only[St.eff,setO,Q0t,go_sem,k1,k2]))|((with_reducible refine Q0q ?_ ?_ ?_ ?_);kernel_rfl;kernel_rfl;(first|kernel_rfl);intro R hR))))
   all_goals(refine⟨by simp,⟨_,?_,AV.le_refl _⟩,Q0g (by simp[leH,hget])⟩;simp only[Tryz.results21,resL,ldA,Q0o,go_sem])
end Go.Proofs.YtbmcdemnnbndeaaGreatDoor
namespace Go.Proofs.YtbmcdemnnbndeaaGreatDoor.lg
open Go.RowKit
set_option maxRecDepth 20000
set_option maxHeartbeats 2000000
structure Hd where
 a:Int
 p:Nat
 s:Nat
 d:Int
 f:Int
def Hd.pv(h:Hd):List PV:=[.v (.int .u64 h.a),.v (.int .u64 (l0 h.p)),.v (.int .u64 (l1 h.p)),.v (.int .u64 (l2 h.p)),.v (.int .u64 (l3 h.p)),.v (.int .u64 (l0 h.s)),.v (.int .u64 (l1 h.s)),.v (.int .u64 (l2 h.s)),.v (.int .u64 (l3 h.s)),.v (.int .u64 h.d),.v (.int .u64 h.f)]
def Hd.ok(h:Hd):Prop:=U h.a∧h.p<WW∧h.s<WW∧U h.d∧U h.f
theorem hd_len(h:Hd):h.pv.length=11:=rfl
abbrev c11(a:Int)(p s:Nat)(d f:Int):List AV:=[vi .u64 a,vi .u64 (l0 p),vi .u64 (l1 p),vi .u64 (l2 p),vi .u64 (l3 p),vi .u64 (l0 s),vi .u64 (l1 s),vi .u64 (l2 s),vi .u64 (l3 s),vi .u64 d,vi .u64 f]
abbrev h11(a:Int)(p s:Nat)(d f:Int):AV:=.agg (c11 a p s d f)
abbrev hsl(ex:Bool)(l:List Hd):AV:=.c (.sl ex 11 l.length (l.flatMap Hd.pv))
abbrev lg(ex:Bool)(l:List Hd):AV:=.agg [hsl ex l]
abbrev nilS:AV:=.c (.v (.slice none 0 0))
abbrev lgN:AV:=.agg [nilS]
theorem X2e{l:List Hd}{i:Nat}{y:Hd}(h:l[i]? = some y):((l.flatMap Hd.pv).drop (i*11)).take 11=[.v (.int .u64 y.a),.v (.int .u64 (l0 y.p)),.v (.int .u64 (l1 y.p)),.v (.int .u64 (l2 y.p)),.v (.int .u64 (l3 y.p)),.v (.int .u64 (l0 y.s)),.v (.int .u64 (l1 y.s)),.v (.int .u64 (l2 y.s)),.v (.int .u64 (l3 y.s)),.v (.int .u64 y.d),.v (.int .u64 y.f)]:=Q5t (f:=Hd.pv) hd_len h
end Go.Proofs.YtbmcdemnnbndeaaGreatDoor.lg
