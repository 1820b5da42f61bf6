/-
  A loop whose ends meet in one state; the two scans. No program in sight.
-/
import Derived.Test.YtbmcdemnnbndeaaAvW
import Derived.Laws.CopyRow
import Derived.Test.YtbmcdemnnbndeaaAvTy
import Derived.Sort.AssemblyPlain
namespace Go.Proofs.Ytbmcdemnnbndeaa
set_option linter.unusedSimpArgs false
set_option linter.unusedVariables false
section
open Go.RowKit Go.Lib
section
variable {P:Program} {o:Oper} {σ : St} {K:St→Prop}
end
section
variable {P:Program} {o:Oper} {σ : St} {K:St→Prop}
theorem Q2c{t:TypeId}{len e sz by_:Nat}{parts:Array (Nat×Operand)}{z:List Value}{ds:List AV}{pcs:List PV}(ho:o.op = .buildSlice t len parts)(hk:parts.toList.all (fun p=>Q0v p.2)=true)(hs:slcZ P t=some (e,sz,by_))(hz:Q2p P e=some z)(h1:z.all (·.oneCell')=true)
 (hsmall:len*sz≤16777216) (hsz:0<sz) (hl0:0<len) (hf:Q6z (Q4e sz 0 len) (List.replicate (len*sz) .any) (parts.toList.map fun x=>(x.1,σ.ev x.2))=some ds) (hlen:ds.length=len*sz) (hpc:unC ds=some pcs)
 (hK:K (σ.put o.dst (.c (.sl true sz len pcs)))):OpA P o σ K:=by
 intro E ι a w h K' Q hK'
 have hpc:=X4e hpc
 rw[Q7g] at hf
 simp only[Nat.zero_add] at hf
 obtain⟨hu,i,zv,hi,hiz,hsize,hbytes,hzs⟩:=Q8e hs
 have hzl:zv.cells.toList=z:=by simp[Q2p,hi,hiz] at hz;exact hz
 have hz1:∀k,k<zv.cells.size→(zv.cells[k]!).oneCell'=true:=fun k hk=>by
  have hmem:zv.cells[k]!∈z:=by rw[←hzl];simp[hk]
  exact List.all_eq_true.1 h1 _ hmem
 have h0:len*sz≠0:=by
  have:=Nat.mul_pos hl0 hsz
  omega
 have hrow:∃us:List Value,((Array.range (len*i.size)).map (zv.cells[· % zv.cells.size]!))=us.toArray∧RVs (Sx E ι σ.H) ι w us (List.replicate (len*sz) .any):=by
  refine⟨((Array.range (len*i.size)).map (zv.cells[· % zv.cells.size]!)).toList,by apply Array.ext';simp,by simp[hsize],fun j u x hu hx=>?_⟩
  rw[List.getElem?_replicate] at hx
  split at hx
  · cases hx
    refine⟨.any _,?_⟩
    simp only[Array.getElem?_toList,Array.getElem?_map,Option.map_eq_some_iff] at hu
    obtain⟨k,_,rfl⟩:=hu
    exact hz1 _ (Nat.mod_lt _ (by omega))
  · cases hx
 obtain⟨us,hus,hrv⟩:=hrow
 obtain⟨us',hrun,hrv'⟩:=Q6y (S:=Sx E ι σ.H) (ι:=ι) (w:=w) (pl:=(List.range len).map fun k=>(k*sz,sz)) (place:=fun k=>some (k*i.size,i.size)) (fun k p hp=>by
  simp only[List.getElem?_map,Option.map_eq_some_iff] at hp
  obtain⟨m,hm,rfl⟩:=hp
  obtain⟨_,e⟩:=List.getElem?_eq_some_iff.1 hm
  simp at e
  rw[e,hsize]) _ (parts.toList.map fun x=>(x.1,a.eval x.2)) us _ ds hrv (by simp) (X0h h hk) hf
 have hlu:us'.length=len*sz:=by rw[hrv'.1,hlen]
 have hpt:(parts.map fun x=>(x.1,a.eval x.2)).toList=parts.toList.map fun x=>(x.1,a.eval x.2):=by simp
 have hb:=run_buildSlice (P:=P) w t e len (parts.map fun x=>(x.1,a.eval x.2)) us'.toArray i zv hu hi hiz (by rw[hsize];omega) (by rw[hsize];exact h0) (by rw[hus,hpt];exact hrun)
 have hex:(execOp a.eval o).run P w = .ok (.value (.slice (some ⟨w.heap.size,0,none⟩) len len)) (w.alloc (.cells us'.toArray e)):=by
  simp only[execOp,ho,Sem.run_bind,hb,Result.andThen_ok,Sem.run_pure]
 have hcn:=h.alloc (.cells us'.toArray e)
 have hS:∀b,Sx E ι σ.H b→b<w.heap.size→Sx E ι σ.H b∧(w.alloc (.cells us'.toArray e)).heap[b]? = w.heap[b]?:=fun b h1 h2=>⟨h1,Below.heap_alloc _ _ _ h2⟩
 have hml:len≤maxLen:=by
  have:len*1≤len*sz:=Nat.mul_le_mul_left _ hsz
  unfold maxLen;omega
 have hpl:pcs.length=len*sz:=by rw[←hlen,hpc,List.length_map]
 unfold Oper.wp
 rw[hex]
 refine hK' ι _ _ _ hK (hcn.put o.dst (.c _ _ (.sl true sz _ len len us' pcs (Nat.le_refl _) hml (fun h=>by cases h) (fun _=>rfl) (by rw[hlu,hpl]) hpl (fun _=>?_) fun j u x hu hx=>?_)))
 · refine⟨w.heap.size,0,rfl,⟨.inr (.inl h.keep.size),fun r cs hr hz' e'=>?_⟩,fun j u hu=>?_⟩
   · have:=(h.heap.blk r cs hr).lt hz'
     omega
   · have:(w.alloc (.cells us'.toArray e)).heap[w.heap.size]? = some (.cells us'.toArray e):=World.alloc_heap_new w _
     simp only[World.cell?,this,Nat.zero_add]
     simpa using hu
 · have h2:=(hrv'.2 j u (.c x) hu (by rw[hpc,List.getElem?_map,hx];rfl)).1
   cases h2 with
   |c _ _ hp=>exact hp.mono hS
theorem Q6m{t:TypeId}{len e sz by_:Nat}{parts:Array (Nat×Operand)}{z:List Value}{ds:List AV}{pcs:List PV}(ho:o.op = .buildSlice t len parts)(hk:parts.toList.all (fun p=>Q0v p.2)=true)(hs:slcZ P t=some (e,sz,by_))(hz:Q2p P e=some z)(h1:z.all (·.oneCell')=true)
 (hsmall:len*sz≤16777216) (hsz:0<sz) (hl0:0<len) (hf:Q6z (Q4e sz 0 len) (List.replicate (len*sz) .any) (parts.toList.map fun x=>(x.1,σ.ev x.2))=some ds) (hlen:ds.length=len*sz) (hpc:unC ds=some pcs) :
 OpF P o σ.ev (hget σ.H) (.c (.sl true sz len pcs)) [] []:=
 fun τ hA hQ=>by
  have hmap:(parts.toList.map fun x=>(x.1,τ.ev x.2))=parts.toList.map fun x=>(x.1,σ.ev x.2):=List.map_congr_left fun x hx=>by
   rw[hA x.2 (by rw[ho];simp only[Op.operands,Array.toList_map];exact List.mem_map.2 ⟨x,hx,rfl⟩)]
  refine Q2c ho hk hs hz h1 hsmall hsz hl0 (by rw[hmap];exact hf) hlen hpc ?_
  cases o.dst<;>rfl
end
def Q7d:Array Value→Sem Value:=fun args=>do
 let (x,y,b) ←Extern.MathBitsCarry.three "Sub64" args
 pure (Extern.MathBitsCarry.pair ((x+Extern.MathBitsCarry.m64-y-b)%Extern.MathBitsCarry.m64) (if x<y+b then 1 else 0))
def sbI(x y c:Int):Int:=(x+18446744073709551616-y-c)%18446744073709551616
def bwI(x y c:Int):Int:=if x<y+c then 1 else 0
theorem run_sub64{P:Program}(x y c:Int)(hx:0≤x)(hy:0≤y)(hy1:y≤18446744073709551615)(hc0:0≤c)(hc:c≤1)(w:World) :
 (Q7d #[.int .u64 x,.int .u64 y,.int .u64 c]).run P w = .ok (.tuple #[.int .u64 (sbI x y c),.int .u64 (bwI x y c)]) w:=by
 have key:∀k:Nat,k≤1→(Q7d #[.int .u64 x,.int .u64 y,.int .u64 (k:Int)]).run P w =
  .ok (Extern.MathBitsCarry.pair ((x.toNat+Extern.MathBitsCarry.m64-y.toNat-k)%Extern.MathBitsCarry.m64) (if x.toNat<y.toNat+k then 1 else 0)) w:=by
  intro k hk
  have:k=0∨k=1:=by omega
  rcases this with rfl|rfl<;>rfl
 obtain⟨k,rfl⟩:=Int.eq_ofNat_of_zero_le hc0
 rw[key k (by omega)]
 obtain⟨X,rfl⟩:=Int.eq_ofNat_of_zero_le hx
 obtain⟨Y,rfl⟩:=Int.eq_ofNat_of_zero_le hy
 have e1:((((X+18446744073709551616-Y-k)%18446744073709551616:Nat)):Int)=sbI X Y k:=by unfold sbI;omega
 have e2:((if X<Y+k then 1 else 0:Nat):Int)=bwI X Y k:=by unfold bwI;split<;>split<;>omega
 simp only[Extern.MathBitsCarry.pair,Extern.MathBitsCarry.m64,Int.toNat_natCast,Int.ofNat_eq_natCast]
 rw[←e1,←e2]
theorem sub64_ext {P:Program} {f:FuncId} {fn:Func} (hf:P.funcs[f]? = some fn) (hname:(fn.name == "runtime.NumGoroutine")=false)
 (hb:fn.body.isNone=true) (hn:Extern.findNext fn=none) (he:Extern.find fn=some Q7d) (x y c:Int) (hx:0≤x) (hy:0≤y) (hy1:y≤18446744073709551615) (hc0:0≤c) (hc:c≤1) :
 Ext P f [.int .u64 x,.int .u64 y,.int .u64 c] (.tup [.c (.v (.int .u64 (sbI x y c))),.c (.v (.int .u64 (bwI x y c)))]):=
 ext_of hf hname hb hn he (fun w=>run_sub64 x y c hx hy hy1 hc0 hc w) fun S ι w'=>.tup [_,_] [_,_] rfl fun j u x hu hx=>by
  rcases j with _|_|j
  · cases hu;cases hx;exact .c _ _ (.v _ rfl)
  · cases hu;cases hx;exact .c _ _ (.v _ rfl)
  · cases hu
open Go.RowKit Go.Lib
section
variable {P:Program} {o:Oper} {σ : St} {K:St→Prop}
theorem Q4v{t:TypeId}{x i:Operand}{s:ByteArray}{k:IntKind}{m:Int}{b:UInt8}(ho:o.op = .index t x i)(hx:Q0v x=true)(hi0:Q0v i=true)(h1:σ.ev x = .c (.v (.string s)))(hi:σ.ev i = .c (.v (.int k m)))(ht:P.underlying t=some .string)
 (hb:(if 0≤m then s[m.toNat]? else none)=some b) (hK:K (σ.put o.dst (.c (.v (.int .u8 (b.toNat:Int)))))):OpA P o σ K:=
 Q1y _ hK fun E ι a w h=>by
  have hxv:=h.ev x hx
  rw[h1] at hxv
  obtain⟨ex,_⟩:=hxv.v_inv
  have hiv:=h.ev i hi0
  rw[hi] at hiv
  obtain⟨ei,_⟩:=hiv.v_inv
  refine⟨.int .u8 (b.toNat:Int),?_,.c _ _ (.v _ rfl)⟩
  simp[execOp,ho,ex,ei,Instr.index,run_underlying ht,Q3n,hb]
end
open Go.RowKit Go.Lib
section
variable {P:Program} {o:Oper} {σ : St} {K:St→Prop}
end
end
section
open Go.RowKit
set_option maxRecDepth 20000
set_option maxHeartbeats 2000000
abbrev vi(k:IntKind)(n:Int):AV:=.c (.v (.int k n))
abbrev vb(b:Bool):AV:=.c (.v (.bool b))
abbrev U(a:Int):Prop:=0≤a∧a≤18446744073709551615
abbrev WW:Nat:=115792089237316195423570985008687907853269984665640564039457584007913129639936
def l0(x:Nat):Int:=((x%18446744073709551616:Nat):Int)
def l1(x:Nat):Int:=((x/18446744073709551616%18446744073709551616:Nat):Int)
def l2(x:Nat):Int:=((x/18446744073709551616/18446744073709551616%18446744073709551616:Nat):Int)
def l3(x:Nat):Int:=((x/18446744073709551616/18446744073709551616/18446744073709551616%18446744073709551616:Nat):Int)
theorem wrI{x:Int}(h1:-9223372036854775808≤x)(h2:x≤9223372036854775807):IntKind.i64.wrap x=x:=by
 unfold IntKind.wrap;simp[IntKind.bits,IntKind.signed];omega
theorem wrU{x:Int}(h1:0≤x)(h2:x≤18446744073709551615):IntKind.u64.wrap x=x:=by
 unfold IntKind.wrap;simp[IntKind.bits,IntKind.signed];omega
theorem U0(x:Nat):U (l0 x):=by unfold l0;constructor<;>omega
theorem U1(x:Nat):U (l1 x):=by unfold l1;constructor<;>omega
theorem U2(x:Nat):U (l2 x):=by unfold l2;constructor<;>omega
theorem U3(x:Nat):U (l3 x):=by unfold l3;constructor<;>omega
abbrev w4(a b c d:Int):AV:=.agg [vi .u64 a,vi .u64 b,vi .u64 c,vi .u64 d]
abbrev wN(x:Nat):AV:=w4 (l0 x) (l1 x) (l2 x) (l3 x)
theorem Q8b{n s0 s1 s2 s3:Nat}(h:n=s0+18446744073709551616*(s1+18446744073709551616*(s2+18446744073709551616*s3)))(h0:s0<18446744073709551616)(h1:s1<18446744073709551616)(h2:s2<18446744073709551616)(h3:s3<18446744073709551616) :
 l0 n=s0∧l1 n=s1∧l2 n=s2∧l3 n=s3:=by
 have e1:n%18446744073709551616=s0:=by omega
 have q1:n/18446744073709551616=s1+18446744073709551616*(s2+18446744073709551616*s3):=by omega
 have e2:n/18446744073709551616%18446744073709551616=s1:=by omega
 have q2:n/18446744073709551616/18446744073709551616=s2+18446744073709551616*s3:=by rw[q1];omega
 have e3:n/18446744073709551616/18446744073709551616%18446744073709551616=s2:=by rw[q2];omega
 have q3:n/18446744073709551616/18446744073709551616/18446744073709551616=s3:=by rw[q2];omega
 refine⟨by unfold l0;rw[e1],by unfold l1;rw[e2],by unfold l2;rw[e3],by unfold l3;rw[q3,Nat.mod_eq_of_lt h3]⟩
theorem Q5f{x:Nat}(h:x<WW):∃a b c d:Nat,x=a+18446744073709551616*(b+18446744073709551616*(c+18446744073709551616*d))∧a<18446744073709551616∧b<18446744073709551616∧c<18446744073709551616∧d<18446744073709551616∧l0 x=a∧l1 x=b∧l2 x=c∧l3 x=d:=by
 have e:x=x%18446744073709551616+18446744073709551616*(x/18446744073709551616%18446744073709551616+18446744073709551616*(x/18446744073709551616/18446744073709551616%18446744073709551616+18446744073709551616*(x/18446744073709551616/18446744073709551616/18446744073709551616))):=by omega
 have h3:x/18446744073709551616/18446744073709551616/18446744073709551616<18446744073709551616:=by
  have:x<115792089237316195423570985008687907853269984665640564039457584007913129639936:=h
  omega
 exact⟨_,_,_,_,e,Nat.mod_lt _ (by decide),Nat.mod_lt _ (by decide),Nat.mod_lt _ (by decide),h3,Q8b e (Nat.mod_lt _ (by decide)) (Nat.mod_lt _ (by decide)) (Nat.mod_lt _ (by decide)) h3⟩
theorem wN_inj{x y:Nat}(hx:x<WW)(hy:y<WW)(h0:l0 x=l0 y)(h1:l1 x=l1 y)(h2:l2 x=l2 y)(h3:l3 x=l3 y):x=y:=by
 obtain⟨a,b,c,d,rfl,_,_,_,_,e0,e1,e2,e3⟩:=Q5f hx
 obtain⟨a',b',c',d',rfl,_,_,_,_,f0,f1,f2,f3⟩:=Q5f hy
 rw[e0,f0] at h0;rw[e1,f1] at h1;rw[e2,f2] at h2;rw[e3,f3] at h3
 have g0:a=a':=by exact_mod_cast h0
 have g1:b=b':=by exact_mod_cast h1
 have g2:c=c':=by exact_mod_cast h2
 have g3:d=d':=by exact_mod_cast h3
 rw[g0,g1,g2,g3]
theorem wN_eq{x y:Nat}(hx:x<WW)(hy:y<WW):(l0 x==l0 y&&(l1 x==l1 y&&(l2 x==l2 y&&l3 x==l3 y)))=decide (x=y):=by
 rw[Bool.eq_iff_iff]
 simp only[Bool.and_eq_true,beq_iff_eq,decide_eq_true_eq]
 constructor
 · rintro ⟨h0,h1,h2,h3⟩;exact wN_inj hx hy h0 h1 h2 h3
 · rintro rfl;exact⟨rfl,rfl,rfl,rfl⟩
theorem Q4i:l0 0=0:=rfl
theorem Q4h:l1 0=0:=rfl
theorem Q4g:l2 0=0:=rfl
theorem Q4f:l3 0=0:=rfl
theorem X2z{x:Nat}(hx:x<WW):(l0 x==0&&(l1 x==0&&(l2 x==0&&l3 x==0)))=decide (x=0):=by
 have h:=wN_eq hx (show 0<WW by decide)
 rwa [Q4i,Q4h,Q4g,Q4f] at h
end
section
open Go.RowKit
set_option maxRecDepth 20000
set_option maxHeartbeats 2000000
def apv(a:Int):List PV:=[.v (.int .u64 a)]
theorem X4b(a:Int):(apv a).length=1:=rfl
end
section
open Go.RowKit Go.Lib
abbrev Fr(ro:Option Nat):Fence:={Fence.wide with round:=ro}
def opNd(o:Oper):Bool:=match o.op with | .defer _=>false|_=>true
theorem opNd_ne{o:Oper}(h:opNd o=true):∀c,o.op≠.defer c:=fun c e=>by simp[opNd,e] at h
theorem Q4a{P:Program}{ro:Option Nat}{o:Oper}{a:Act}{w:World}{K:Act→World→Prop}{Q:Exit→Act→World→Prop}(hd:opNd o=true)(h:o.wp P a w K Q):o.wpIn (Fr ro) 0 P a w K Q:=by
 refine⟨fun _ _=>trivial,?_⟩
 rw[Oper.semAt_eq _ _ _ (opNd_ne hd)]
 unfold Oper.wp at h
 generalize (execOp a.eval o).run P w=r at h ⊢
 cases r with
 |ok x w'=>
  cases x with
  |value v=>exact h
  |skip=>exact h
  |defer d=>exact h
  |enter f args=>exact⟨fun e=>(by cases e),(callsIn_wide (n:=0-1)).2 h⟩
  |row row args=>exact⟨fun e=>(by cases e),fun c cs _=>let ⟨v,w',r,s⟩:=h c cs;⟨v,w',r,stepsIn_wide.2 s⟩⟩
  |_=>exact h.elim
 |halt x w'=>cases x<;>first|exact h|exact h.elim
theorem X3r{P:Program}{ops:Array Oper}{K:St→Prop}{ro:Option Nat}{Q:Exit→Act→World→Prop}{more:List Oper}:∀(l:List Oper),l.all opNd=true→∀(σ : St),evL P ops l σ K→∀(E:Env) (ι : Nat→Nat×Nat×Nat) (a:Act) (w:World),Conc E ι σ a w →
 (∀ι' σ' a' w',K σ'→Conc E ι' σ' a' w'→wpListIn (Fr ro) 0 P ops Q more a' w')→wpListIn (Fr ro) 0 P ops Q (l++more) a w
 |[],_,σ,h,E,ι,a,w,hc,hk=>hk ι σ a w h hc
 |o::rest,hnd,σ,h,E,ι,a,w,hc,hk=>by
  rw[List.all_cons,Bool.and_eq_true] at hnd
  obtain⟨hn1,hn2⟩:=hnd
  unfold evL at h
  split at h
  · rename_i hg
    refine wpListIn_plain hg fun K hK=>?_
    exact Q4a hn1 (h E ι a w hc K _ fun ι' σ' a' w' hk' hc'=>hK _ _ (X3r rest hn2 σ' hk' E ι' a' w' hc' hk))
  · rename_i j want hg
    split at h
    · rename_i d hd
      split at h
      · rename_i b hb
        have hv:=hc.tmp d
        rw[hb] at hv
        obtain⟨e,_⟩:=hv.v_inv
        have hlt:d<a.tmps.size:=by
         rw[hc.size]
         rcases Nat.lt_or_ge d σ.T.length with h|h
         · exact h
         · rw[List.getD_eq_getElem?_getD,List.getElem?_eq_none h] at hb;cases hb
        have hy:yielded ops a.tmps j=some b:=by
         unfold yielded
         rw[hd]
         simp only[Option.bind_some]
         have:a.tmps[d]? = some (.bool b):=by
          rw[Array.getElem?_eq_getElem hlt]
          simp only[Array.getD,hlt,dif_pos] at e
          simpa using e
         rw[this]
        refine wpListIn_step fun K hK=>?_
        have hw:Region.wanted o (yielded ops a.tmps)=(some b==some want):=by
         unfold Region.wanted
         rw[hg]
         simp only[hy]
        rw[hw]
        by_cases hbw:b=want
        · subst hbw
          simp only[beq_self_eq_true,if_true]
          have h1:=h.1 rfl
          rw[Q6d hb (by simp)] at h1
          exact Q4a hn1 (h1 E ι a w hc K _ fun ι' σ' a' w' hk' hc'=>hK _ _ (X3r rest hn2 σ' hk' E ι' a' w' hc' hk))
        · have hbw':b = !want:=by cases b<;>cases want<;>simp_all
          have:(some b==some want)=false:=by simp[hbw]
          simp only[this,Bool.false_eq_true,if_false]
          have h2:=h.2 hbw'
          rw[Q6d (by rw[hb,hbw']) (by simp)] at h2
          exact⟨fun _ _=>trivial,hK _ _ (X3r rest hn2 _ h2 E ι _ w (hc.put o.dst .undef) hk)⟩
      · rename_i hb
        have hv:=hc.tmp d
        rw[hb] at hv
        have e:=hv.undef_inv
        have hy:yielded ops a.tmps j=none:=by
         unfold yielded
         rw[hd]
         simp only[Option.bind_some]
         simp only[Array.getD_eq_getD_getElem?] at e
         cases hh:a.tmps[d]? with
         |none=>rfl
         |some u=>rw[hh] at e;simp only[Option.getD_some] at e;rw[e];rfl
        refine wpListIn_step fun K hK=>?_
        have hw:Region.wanted o (yielded ops a.tmps)=false:=by
         unfold Region.wanted
         rw[hg]
         simp only[hy]
         rfl
        rw[hw]
        simp only[Bool.false_eq_true,if_false]
        exact⟨fun _ _=>trivial,hK _ _ (X3r rest hn2 _ h E ι _ w (hc.put o.dst .undef) hk)⟩
      · exact h.elim
    · exact h.elim
def Q5w:Code→Bool
 |.skip=>true
 |.region _ ops d=>!d&&ops.toList.all opNd
 |.seq a b=>Q5w a&&Q5w b
 |.cond _ a b=>Q5w a&&Q5w b
 |.block _ c=>Q5w c
 |.exit _=>true
 |.ret=>true
 |_=>false
theorem X3u{P:Program}{ro:Option Nat}:∀(c:Code),Q5w c=true→∀(σ : St) (Φ : Exit→St→Prop),evC P c σ Φ→∀(E:Env) (ι : Nat→Nat×Nat×Nat) (a:Act) (w:World),Conc E ι σ a w→c.wpIn (Fr ro) 0 P (fun ex a' w'=>∃ι' σ',Conc E ι' σ' a' w'∧Φ ex σ') a w
 |.skip,_,σ,Φ,h,E,ι,a,w,hc=>wpIn_skip ⟨ι,σ,hc,h⟩
 |.region id ops false,hr,σ,Φ,h,E,ι,a,w,hc=>by
  have hr':ops.toList.all opNd=true:=by simpa [Q5w] using hr
  refine wpIn_region_list ?_
  have:=X3r (ro:=ro) (Q:=fun ex a' w'=>∃ι' σ',Conc E ι' σ' a' w'∧Φ ex σ') (more:=[]) ops.toList hr' σ h E ι a w hc fun ι' σ' a' w' hk hc'=>wpListIn_nil ⟨ι',σ',hc',hk⟩
  rwa [List.append_nil] at this
 |.region id ops true,hr,σ,Φ,h,E,ι,a,w,hc=>by simp[Q5w] at hr
 |.seq x y,hr,σ,Φ,h,E,ι,a,w,hc=>by
  rw[Q5w,Bool.and_eq_true] at hr
  refine wpIn_seq (wpIn_mono (X3u x hr.1 σ _ h E ι a w hc) fun ex a' w'=>?_)
  rintro ⟨ι',σ',hc',hΦ⟩
  cases ex with
  |normal=>exact X3u y hr.2 σ' Φ hΦ E ι' a' w' hc'
  |_=>exact⟨ι',σ',hc',hΦ⟩
 |.cond c x y,hr,σ,Φ,h,E,ι,a,w,hc=>by
  rw[Q5w,Bool.and_eq_true] at hr
  unfold evC at h
  obtain⟨h0,h⟩:=h
  split at h
  · rename_i t ht
    have hv:=hc.ev c h0
    rw[ht] at hv
    obtain⟨e,_⟩:=hv.v_inv
    exact wpIn_cond_split e (fun h'=>X3u x hr.1 σ Φ (h.1 h') E ι a w hc) (fun h'=>X3u y hr.2 σ Φ (h.2 h') E ι a w hc)
  · exact h.elim
 |.block id c,hr,σ,Φ,h,E,ι,a,w,hc=>by
  rw[Q5w] at hr
  refine wpIn_block (wpIn_mono (X3u c hr σ _ h E ι a w hc) fun ex a' w'=>?_)
  rintro ⟨ι',σ',hc',hΦ⟩
  cases ex with
  |exit j=>
   unfold Exit.inBlock
   simp only at hΦ ⊢
   split at hΦ
   · rename_i e;rw[if_pos e];exact⟨ι',σ',hc',hΦ⟩
   · rename_i e;rw[if_neg e];exact⟨ι',σ',hc',hΦ⟩
  |_=>exact⟨ι',σ',hc',hΦ⟩
 |.exit id,_,σ,Φ,h,E,ι,a,w,hc=>wpIn_exit ⟨ι,σ,hc,h⟩
 |.ret,_,σ,Φ,h,E,ι,a,w,hc=>wpIn_ret ⟨ι,σ,hc,h⟩
 |.loop c,hr,_,_,_,_,_,_,_,_=>by simp[Q5w] at hr
 |.rangeFunc _ _ _ _,hr,_,_,_,_,_,_,_,_=>by simp[Q5w] at hr
 |.scope _,hr,_,_,_,_,_,_,_,_=>by simp[Q5w] at hr
 |.label _,hr,_,_,_,_,_,_,_,_=>by simp[Q5w] at hr
theorem X3e{w:World}{l:Nat}{o o':Obj}(h:w.heap[l]? = some o):(w.putObj l o').putObj l o=w:=by
 have:((w.heap.setIfInBounds l o').setIfInBounds l o)=w.heap:=by
  apply Array.ext_getElem?
  intro i
  by_cases hi:i=l
  · subst hi
    have hlt:=(Array.getElem?_eq_some_iff.1 h).1
    rw[Array.getElem?_setIfInBounds_self_of_lt (by simpa using hlt),h]
  · rw[Array.getElem?_setIfInBounds_ne (Ne.symm hi),Array.getElem?_setIfInBounds_ne (Ne.symm hi)]
 unfold World.putObj
 simp only[this]
mutual
theorem X0e{N:List Nat}{r:Nat}:∀x:AV,AV.inN N x=true→AV.refs r x=true→r∈N
 |.any,_,h=>by simp[AV.refs] at h
 |.c _,_,h=>by simp[AV.refs] at h
 |.agg cs,hi,h=>Q4n cs (by simpa [AV.inN] using hi) (by simpa [AV.refs] using h)
 |.tup cs,hi,h=>Q4n cs (by simpa [AV.inN] using hi) (by simpa [AV.refs] using h)
 |.ptr q _,hi,h=>by simp[AV.refs] at h;subst h;simpa [AV.inN] using hi
 |.row q _ _ _,hi,h=>by simp[AV.refs] at h;subst h;simpa [AV.inN] using hi
 |.cut q _ _ _ _ _ _,hi,h=>by simp[AV.refs] at h;subst h;simpa [AV.inN] using hi
 |.ep _,_,h=>by simp[AV.refs] at h
 |.fn _ cs,hi,h=>Q4n cs (by simpa [AV.inN] using hi) (by simpa [AV.refs] using h)
 |.fnb _ cs,hi,h=>Q4n cs (by simpa [AV.inN] using hi) (by simpa [AV.refs] using h)
 |.amp _ _ cs,hi,h=>Q4n cs (by simpa [AV.inN] using hi) (by simpa [AV.refs] using h)
theorem Q4n{N:List Nat}{r:Nat}:∀l:List AV,AV.inNL N l=true→AV.refsL r l=true→r∈N
 |[],_,h=>by simp[AV.refsL] at h
 |x::l,hi,h=>by
  rw[AV.inNL,Bool.and_eq_true] at hi
  rw[AV.refsL,Bool.or_eq_true] at h
  exact h.elim (X0e x hi.1) (Q4n l hi.2)
end
theorem Conc.begin(E:Env){H0:List (Nat×List AV)}{T:List AV}{t:Array Value}(hED:E.D=H0.map (·.1))(hS:∀r cs b,hget H0 r=some cs→(E.ι r).2.1≠0→E.S b→(E.ι r).1≠b)(hH:ConcH E.S E.ι H0 E.w)(hsz:t.size=T.length)(ht:∀i,RV E.S E.ι E.w (t.getD i undef) (T.getD i .any)) :
 Conc E E.ι ⟨T,H0⟩ {tmps:=t,defers:=[]} E.w:=by
 have hSx:∀b,E.S b→b<E.w.heap.size→Sx E E.ι H0 b∧E.w.heap[b]? = E.w.heap[b]?:=fun b hb _=>⟨⟨.inl hb,fun r cs hr hz=>hS r cs b hr hz hb⟩,rfl⟩
 have hR:∀{v:Value} {x:AV},RV E.S E.ι E.w v x→RV (Sx E E.ι H0) E.ι E.w v x:=fun hv=>hv.mono hSx fun _ _=>rfl
 refine⟨.nil,hsz,fun i=>hR (ht i),⟨fun r cs hr=>?_,hH.inj⟩,⟨rfl,rfl,rfl,Nat.le_refl _,fun _ _ _=>rfl,fun r cs hr=>⟨fun _=>rfl,fun hn=>absurd (by rw[hED];exact Q3d hr) hn⟩⟩⟩
 rcases hH.blk r cs hr with h0|⟨cur,hh,hs,hl,hc,hone1⟩
 · exact .inl h0
 · exact .inr ⟨cur,hh,hs,hl,fun j u x hu hx=>⟨hR (hc j u x hu hx).1,(hc j u x hu hx).2⟩,hone1⟩
theorem GlobOK.putObj{w:World}{S:Nat→Prop}{ι : Nat→Nat×Nat×Nat}{D:List Nat}{l:Nat}{o o':Obj}(h:GlobOK w S ι D)(hl:w.heap[l]? = some o)(hn:Q8q o=false):GlobOK (w.putObj l o') S ι D:=fun g cs hg=>by
 obtain⟨h1,h2,h3,h4,h5⟩:=h g cs hg
 refine⟨h1,h2,h3,h4,fun j u hu=>?_⟩
 have hj:=h5 j u hu
 have hne:g≠l:=fun e=>by
  subst e
  unfold World.cell? at hj
  dsimp only at hj
  rw[hl] at hj
  cases o<;>simp[Q8q] at hn hj
 exact(World.cell?_of_block (w:=w) (a:=⟨g,j,none⟩) (World.putObj_heap_other hne)).trans hj
theorem Conc.rebase{E:Env}{ι : Nat→Nat×Nat×Nat}{σ : St}{a:Act}{w:World}(h:Conc E ι σ a w){l:Nat}{o:Obj}(o':Obj)(hE:E.w.heap[l]? = some o)(hl:w.heap[l]? = some o)(hn:Q8q o=false):Conc {E with w:=E.w.putObj l o',hG:=E.hG.putObj hE hn} ι σ a (w.putObj l o'):=by
 have hlt:=(Array.getElem?_eq_some_iff.1 hE).1
 have hlt':=(Array.getElem?_eq_some_iff.1 hl).1
 have hM:∀b,Mine {E with w:=E.w.putObj l o',hG:=E.hG.putObj hE hn} b↔Mine E b:=fun b=>by unfold Mine;rw[World.putObj_size]
 have hSx:∀ι H b,Sx {E with w:=E.w.putObj l o',hG:=E.hG.putObj hE hn} ι H b↔Sx E ι H b:=fun ι H b=>by unfold Sx;rw[hM]
 have hne:∀b o1,w.heap[b]? = some o1→Q8q o1=true→(w.putObj l o').heap[b]? = w.heap[b]?:=fun b o1 hb h1=>World.putObj_heap_other fun e=>by
  subst e;rw[hb] at hl;cases hl;rw[hn] at h1;cases h1
 have hR:∀{v:Value} {x:AV},RV (Sx E ι σ.H) ι w v x→RV (Sx {E with w:=E.w.putObj l o',hG:=E.hG.putObj hE hn} ι σ.H) ι (w.putObj l o') v x:=fun hv=>hv.cmono fun b o1 hS hb h1=>⟨(hSx _ _ _).2 hS,hne b o1 hb h1⟩
 refine⟨?_,h.size,fun i=>hR (h.tmp i),⟨fun r cs hr=>?_,h.heap.inj⟩,⟨h.keep.os,h.keep.tape,h.keep.output,by simpa using h.keep.size,fun b hb hbD=>?_,fun r cs hr=>⟨(h.keep.mine r cs hr).1,fun h1 h2=>(hM _).2 ((h.keep.mine r cs hr).2 h1 h2)⟩⟩⟩
 · obtain⟨Ds,h1,h2,h3⟩:=h.defers
   refine⟨Ds,h1,h2,fun D hD=>?_⟩
   obtain⟨g1,g2,g3⟩:=h3 D hD
   exact⟨by simpa using g1,(hSx _ _ _).2 g2,(World.putObj_heap_other (by omega)).trans g3⟩
 · rcases h.heap.blk r cs hr with h0|⟨cur,hh,hs,hlen,hc,hone1⟩
   · exact .inl h0
   · exact .inr ⟨cur,(hne _ _ hh rfl).trans hh,hs,hlen,fun j u x hu hx=>⟨hR (hc j u x hu hx).1,(hc j u x hu hx).2⟩,hone1⟩
 · show(w.putObj l o').heap[b]? = (E.w.putObj l o').heap[b]?
   have hb':b<E.w.heap.size:=by simpa using hb
   by_cases hbl:b=l
   · subst hbl;rw[World.putObj_heap_same hlt,World.putObj_heap_same hlt']
   · rw[World.putObj_heap_other hbl,World.putObj_heap_other hbl];exact h.keep.block b hb' hbD
abbrev Q4d(ps:Array Tmp)(assign body:Code)(f:FuncId)(t:Array Value)(D:Nat):Loop:={state:=.ready,pending:=none,fn:=f,tmps:=t,params:=ps,assign,body,defers:=D}
def YC(P:Program)(t:Tmp)(assign body:Code)(T0:List AV)(l:Nat)(x:AV)(H0 H1:List (Nat×List AV)):Prop:=
 ∀(E:Env) (v:Value) (f:FuncId) (ts:Array Value) (D:Nat),E.D=H0.map (·.1)→(∀r cs b,hget H0 r=some cs→(E.ι r).2.1≠0→E.S b→(E.ι r).1≠b)→ConcH E.S E.ι H0 E.w→RV E.S E.ι E.w v x →
  E.w.heap[l]? = some (.loop (Q4d #[t] assign body f ts D))→ts.size=T0.length→(∀i,RV E.S E.ι E.w (ts.getD i undef) (T0.getD i .any)) →
  RoundIn Fence.wide 0 P l f (ts.setIfInBounds t v) assign body E.w fun e w'=>∃v ι',e = .returned v∧RV (Sx E ι' H1) ι' w' v (.c (.v (.bool true)))∧ConcH (Sx E ι' H1) ι' H1 w'∧Keep E ι' H1 w'
theorem X2v{S:Nat→Prop}{ι : Nat→Nat×Nat×Nat}{w:World}{H:List (Nat×List AV)}(hH:ConcH S ι H w){l:Nat}{o:Obj}(hl:w.heap[l]? = some o)(hn:Q8q o=false):∀r∈H.map (·.1),(ι r).2.1≠0→(ι r).1≠l:=fun r hr hz e=>by
 obtain⟨cs,hcs⟩:=Q1v hr
 rcases hH.blk r cs hcs with⟨h0,_⟩|⟨cur,hh,_⟩
 · exact hz h0
 · rw[e,hl] at hh;cases hh;cases hn
theorem yc_of{P:Program}{t:Tmp}{assign body:Code}{T0:List AV}{l:Nat}{x:AV}{H0 H1:List (Nat×List AV)}(hA:Q5w assign=true)(hB:Q5w body=true)
 (h:evC P assign ⟨T0.set t x,H0⟩ fun ex σ1=>ex = .normal∧evC P body σ1 fun ex σ2=>ex = .normal∧∀r cs,hget H1 r=some cs→hget σ2.H r=some cs):YC P t assign body T0 l x H0 H1:=by
 intro E v f ts D hED hS hH hv hl hsz hts
 have hlt:=(Array.getElem?_eq_some_iff.1 hl).1
 have hne:∀r∈E.D,(E.ι r).2.1≠0→(E.ι r).1≠l:=by rw[hED];exact X2v hH hl rfl
 have hv':RV (Sx E E.ι H0) E.ι E.w v x:=hv.mono (fun b hb _=>⟨⟨.inl hb,fun r cs hr hz=>hS r cs b hr hz hb⟩,rfl⟩) fun _ _=>rfl
 have hc0:=(Conc.begin E hED hS hH hsz hts).put (some t) hv'
 refine roundIn_of_wpIn trivial ?_
 refine wpIn_mono (X3u (ro:=some l) assign hA _ _ h E E.ι _ E.w hc0) ?_
 rintro ex a1 w1 ⟨ι1,σ1,hc1,rfl,h2⟩
 have hl1:w1.heap[l]? = some (.loop (Q4d #[t] assign body f ts D)):=(hc1.keep.block l hlt hne).trans hl
 refine⟨_,run_beginRound hl1 rfl,?_⟩
 have hc2:=hc1.rebase (.loop {Q4d #[t] assign body f ts D with state:=.busy}) hl hl1 rfl
 refine wpIn_mono (X3u (ro:=some l) body hB _ _ h2 _ ι1 _ _ hc2) ?_
 rintro ex a2 w3 ⟨ι2,σ2,hc3,rfl,h3⟩
 have hlb:(E.w.putObj l (.loop {Q4d #[t] assign body f ts D with state:=.busy})).heap[l]? = some (.loop {Q4d #[t] assign body f ts D with state:=.busy}):=World.putObj_heap_same hlt
 have hl3:w3.heap[l]? = some (.loop {Q4d #[t] assign body f ts D with state:=.busy}):=(hc3.keep.block l (by simpa using hlt) hne).trans hlb
 refine⟨_,_,run_endRound none hl3,?_⟩
 have hc4:=hc3.rebase (.loop (Q4d #[t] assign body f ts D)) hlb hl3 rfl
 have key:∀(w':World) (hG':GlobOK w' E.S E.ι E.D),w'=E.w→Conc {E with w:=w',hG:=hG'} ι2 σ2 a2 (w3.putObj l (.loop (Q4d #[t] assign body f ts D)))→Conc E ι2 σ2 a2 (w3.putObj l (.loop (Q4d #[t] assign body f ts D))):=by
  rintro _ _ rfl h;exact h
 have hc5:Conc E ι2 σ2 a2 (w3.putObj l (.loop (Q4d #[t] assign body f ts D))):=key _ _ (X3e hl) hc4
 have hc6:=hc5.leH h3
 exact⟨_,ι2,rfl,.c _ _ (.v _ rfl),hc6.heap,hc6.keep⟩
structure LoopAt (t:Tmp) (assign body:Code) (T0:List AV) (DD:List Nat) (l:Nat) (E:Env):Prop where
 rc:∃f ts D,E.w.heap[l]? = some (.loop (Q4d #[t] assign body f ts D))∧ts.size=T0.length∧∀i,RV E.S E.ι E.w (ts.getD i undef) (T0.getD i .any)
 free:∀r∈E.D,(E.ι r).2.1≠0→(E.ι r).1≠l
 dis:∀r∈E.D,(E.ι r).2.1≠0→∀b,E.S b→(E.ι r).1≠b
 names:E.D=DD
def OpE(p:Env→Prop)(P:Program)(o:Oper)(σ : St)(K:St→Prop):Prop:=
 ∀(E:Env) (ι : Nat→Nat×Nat×Nat) (a:Act) (w:World),p E→Conc E ι σ a w→∀(K':Act→World→Prop) (Q:Exit→Act→World→Prop),(∀ι' σ' a' w',K σ'→Conc E ι' σ' a' w'→K' a' w')→o.wpIn Fence.wide 0 P a w K' Q
theorem opE_yield{P:Program}{o:Oper}{σ : St}{K:St→Prop}{t:Tmp}{assign body:Code}{T0:List AV}{DD:List Nat}{l:Nat}{x:AV}{H0 H1:List (Nat×List AV)}(hY:YC P t assign body T0 l x H0 H1)(ρ : Nat→Nat)
 {fo ao:Operand} {ts:Array TypeId} (ho:o.op = .call {callee:=.value fo,args:=#[ao],argTypes:=ts}) (hfo:Q0v fo=true) (hao:Q0v ao=true) (hf:σ.ev fo = .c (.v (.func (.yield l) #[] #[]))) (hx:Q2h ρ x (σ.ev ao))
 (hD0:H0.all (fun x=>decide (1000≤x.1))=true) (hH0:∀r∈H0.map (·.1),hget σ.H (ρ r)=(hget H0 r).map (AV.renL ρ)) (hinj:∀r∈H0.map (·.1)++H1.map (·.1),∀q∈H0.map (·.1)++H1.map (·.1),ρ r = ρ q→r=q)
 (hnew:Q2d σ ρ H0 H1) (hinH:inH (H1.map (·.1)) H1=true) (NT:List Nat) (hT0:AV.inNL NT T0=true) (hNT:∀r∈NT,r∈DD∧ρ r=r∧(hget σ.H r).isSome=true)
 (hK:K ((St.mk σ.T (Q0q (Q2k σ.H (renH ρ H0)) (renH ρ H1))).put o.dst (.c (.v (.bool true))))):OpE (LoopAt t assign body T0 DD l) P o σ K:=by
 intro E ι a w hp hc K' Q hK'
 obtain⟨⟨f,tt,D,hl,hsz,htt⟩,hfree,hdis,hnames⟩:=hp
 have hlt:=(Array.getElem?_eq_some_iff.1 hl).1
 have hlw:w.heap[l]? = some (.loop (Q4d #[t] assign body f tt D)):=(hc.keep.block l hlt hfree).trans hl
 have hfv:=hc.ev fo hfo
 rw[hf] at hfv
 obtain⟨hfe,_⟩:=hfv.v_inv
 have hav:=hc.ev ao hao
 have hD0':∀r∈H0.map (·.1),1000≤r:=fun r hr=>by
  obtain⟨y,hy,rfl⟩:=List.mem_map.1 hr
  have:=List.all_eq_true.1 hD0 y hy
  simpa using this
 have hH0':∀r cs,hget H0 r=some cs→hget σ.H (ρ r)=some (AV.renL ρ cs):=fun r cs hr=>by rw[hH0 r (Q3d hr),hr];rfl
 obtain⟨E',hE'⟩:∃E':Env,E'={w:=w,S:=Sx E ι σ.H,ι:=fun r=>ι (ρ r),D:=H0.map (·.1),hD:=hD0',hG:=hc.glob hH0'}:=⟨_,rfl⟩
 have hconcH:ConcH E'.S E'.ι H0 E'.w:=by
  subst hE'
  exact hc.enter ρ hH0' fun r hr q hq=>hinj r (List.mem_append_left _ hr) q (List.mem_append_left _ hq)
 have hSE:∀b,E.S b→b<E.w.heap.size→Sx E ι σ.H b∧w.heap[b]? = E.w.heap[b]?:=fun b hb hlt=>by
  refine⟨⟨.inl hb,fun r cs hr hz=>?_⟩,hc.keep.block b hlt fun r hr hz=>hdis r hr hz b hb⟩
  obtain⟨m1,m2⟩:=hc.keep.mine r cs hr
  by_cases hm:r∈E.D
  · rw[m1 hm] at hz ⊢;exact hdis r hm hz b hb
  · rcases m2 hm hz with h1|⟨q,hq,hqz,h1⟩
    · omega
    · rw[←h1];exact hdis q hq hqz b hb
 have hround:=hY E' (a.eval ao) f tt D (by rw[hE']) (fun r cs b hr hz hS=>by
  subst hE'
  exact hS.2 (ρ r) _ (hH0' r cs hr) hz) hconcH (by
   subst hE'
   rcases hx with rfl|e
   · exact .any _
   · exact hav.unren x e) (by rw[hE'];exact hlw) hsz (fun i=>by
     subst hE'
     refine(htt i).mono hSE fun r hr=>?_
     have hin:AV.inN NT (T0.getD i .any)=true:=X3n hT0 i
     obtain⟨g1,g2,g3⟩:=hNT r (X0e _ hin hr)
     obtain⟨cs,hcs⟩:=Option.isSome_iff_exists.1 g3
     show ι (ρ r)=E.ι r
     rw[g2]
     exact(hc.keep.mine r cs hcs).1 (by rw[hnames];exact g1))
 have hwE:E'.w=w:=by rw[hE']
 rw[hwE] at hround
 have hrun:(execOp a.eval o).run P w = .ok (.round l f (tt.setIfInBounds t (a.eval ao)) assign body) w:=by
  have hy:=run_yield (P:=P) (args:=#[a.eval ao]) hlw rfl
  simp only[execOp,ho,resolve,hfe,Deferred.ofValue,List.map_toArray,List.map_cons,List.map_nil,Sem.run_bind,Sem.run_pure,Result.andThen_ok,invoke,callFunc,Array.empty_append,List.append_toArray,List.nil_append,List.append_nil]
  simpa using hy
 refine⟨fun _ _=>trivial,?_⟩
 rw[Oper.semAt_eq _ _ _ (fun c e=>by rw[ho] at e;cases e),hrun,Oper.uponIn_round]
 refine⟨fun e=>(by cases e),RoundIn.mono hround fun e w'=>?_⟩
 rintro ⟨v,ι',rfl,hres,hcH,hk⟩
 simp only
 obtain⟨ι2,hcn,hrv⟩:=hc.back ρ hD0' hH0' hinj hnew rfl hinH hE' hres hcH hk
 exact hK' ι2 _ _ _ hK (hcn.put o.dst hrv)
section
variable {p:Env→Prop} {P:Program} {σ : St} {Φ : Exit→St→Prop}
theorem AWE.of{c:Code}(h:evC P c σ Φ):AWE p P c σ Φ:=fun E ι a w _ hc=>Q2g c σ Φ h E ι a w hc
theorem AWE.mono{c:Code}{Ψ : Exit→St→Prop}(h:AWE p P c σ Φ)(hΦ : ∀ex σ,Φ ex σ→Ψ ex σ):AWE p P c σ Ψ:=
 fun E ι a w hp hc=>wp_mono (h E ι a w hp hc) fun ex a' w' ⟨ι',σ',hc',h'⟩=>⟨ι',σ',hc',hΦ _ _ h'⟩
theorem AWE.to{c:Code}{τ : St}(ht:σ.to τ)(h:AWE p P c τ Φ):AWE p P c σ Φ:=fun E ι a w hp hc=>by
 obtain⟨ι',hc'⟩:=ht E ι a w hc
 exact h E ι' a w hp hc'
theorem AWE.seq{x y:Code}(h:AWE p P x σ fun ex σ'=>match ex with | .normal=>AWE p P y σ' Φ | ex=>Φ ex σ'):AWE p P (.seq x y) σ Φ:=fun E ι a w hp hc=>by
 refine wp_seq (wp_mono (h E ι a w hp hc) fun ex a' w'=>?_)
 rintro ⟨ι',σ',hc',hΦ⟩
 cases ex with
 |normal=>exact hΦ E ι' a' w' hp hc'
 |_=>exact⟨ι',σ',hc',hΦ⟩
theorem AWE.cond{c:Operand}{x y:Code}{t:Bool}(h0:Q0v c=true)(ht:σ.ev c = .c (.v (.bool t)))(h1:t=true→AWE p P x σ Φ)(h2:t=false→AWE p P y σ Φ):AWE p P (.cond c x y) σ Φ:=fun E ι a w hp hc=>by
 have hv:=hc.ev c h0
 rw[ht] at hv
 obtain⟨e,_⟩:=hv.v_inv
 exact wp_cond_split e (fun h'=>h1 h' E ι a w hp hc) (fun h'=>h2 h' E ι a w hp hc)
theorem AWE.block{id:Nat}{c:Code}(h:AWE p P c σ fun ex σ'=>match ex with | .exit j=>if j=id then Φ .normal σ' else Φ (.exit j) σ'|ex=>Φ ex σ'):AWE p P (.block id c) σ Φ:=fun E ι a w hp hc=>by
 refine wp_block (wp_mono (h E ι a w hp hc) fun ex a' w'=>?_)
 rintro ⟨ι',σ',hc',hΦ⟩
 cases ex with
 |exit j=>
  unfold Exit.inBlock
  simp only at hΦ ⊢
  split at hΦ
  · rename_i e;rw[if_pos e];exact⟨ι',σ',hc',hΦ⟩
  · rename_i e;rw[if_neg e];exact⟨ι',σ',hc',hΦ⟩
 |_=>exact⟨ι',σ',hc',hΦ⟩
theorem AWE.loop{c:Code}{α : Type}(I:α→St)(μ : α→Nat)(x0:α)(h0:σ.to (I x0))
 (round:∀x,AWE p P c (I x) fun ex σ'=>match ex with | .normal=>∃y,μ y < μ x∧σ'.to (I y)|ex=>Φ ex σ'):AWE p P (.loop c) σ Φ:=by
 intro E ι a w hp hc b k cs
 have key:∀n x ι a w,μ x=n→Conc E ι (I x) a w→∃e a' w',(∃ι' σ',Conc E ι' σ' a' w'∧Φ e σ')∧Arrives P (lone (b.at a (.code c :: .inLoop c::k)) cs w) b k cs e a' w':=by
  intro n
  induction n using Nat.strongRecOn with
  |_ n ih=>
   intro x ι a w hn hI
   obtain⟨e,a₁,w₁,⟨ι₁,σ₁,hc₁,hq⟩,harr⟩:=round x E ι a w hp hI b (.inLoop c::k) cs
   cases e with
   |normal=>
    obtain⟨y,hlt,hle⟩:=hq
    obtain⟨ι2,hc2⟩:=hle E ι₁ a₁ w₁ hc₁
    obtain⟨e₂,a₂,w₂,hq₂,harr₂⟩:=ih (μ y) (hn▸hlt) y ι2 a₁ w₁ rfl hc2
    exact⟨e₂,a₂,w₂,hq₂,.of_steps (Steps.trans harr (.one step_inLoop)) harr₂⟩
   |exit id=>exact⟨_,a₁,w₁,⟨ι₁,σ₁,hc₁,hq⟩,.pass (x:=.inLoop c) rfl (fun _ _=>.inl (by simp)) harr⟩
   |goto l=>exact⟨_,a₁,w₁,⟨ι₁,σ₁,hc₁,hq⟩,.pass (x:=.inLoop c) rfl (fun _ _=>.inl (by simp)) harr⟩
   |ret=>exact⟨_,a₁,w₁,⟨ι₁,σ₁,hc₁,hq⟩,.pass (x:=.inLoop c) rfl (fun _ _=>.inl (by simp)) harr⟩
   |panic ch=>exact⟨_,a₁,w₁,⟨ι₁,σ₁,hc₁,hq⟩,.pass (x:=.inLoop c) rfl (fun _ _=>.inl (by simp)) harr⟩
   |outgrown=>exact⟨_,a₁,w₁,⟨ι₁,σ₁,hc₁,hq⟩,.pass (x:=.inLoop c) rfl (fun _ _=>.inl (by simp)) harr⟩
 obtain⟨ι0,hc0⟩:=h0 E ι a w hc
 obtain⟨e,a',w',hq,harr⟩:=key _ x0 ι0 a w rfl hc0
 exact⟨e,a',w',hq,.of_steps (.one step_loop) harr⟩
theorem AWE.region{id:Nat}{ops:Array Oper}(l1:List Oper)(o:Oper)(l2:List Oper)(hops:ops.toList=l1++o::l2)(n1:l1.all opNd=true)(n2:l2.all opNd=true)
 (h:evL P ops l1 σ fun σ1=>(o.guard=none∨∃j want d,o.guard=some (j,want)∧(ops[j]?).bind (·.dst)=some d∧σ1.T.getD d .any = .c (.v (.bool want)))∧OpE p P o σ1 fun σ2=>evL P ops l2 σ2 (Φ .normal)):AWE p P (.region id ops false) σ Φ:=by
 intro E ι a w hp hc
 refine(wpIn_wide (n:=0)).1 (wpIn_region_list ?_)
 rw[hops]
 refine X3r (ro:=none) l1 n1 σ h E ι a w hc fun ι1 σ1 a1 w1=>?_
 rintro ⟨hg,hop⟩ hc1
 refine wpListIn_step fun K hK=>?_
 have hw:Region.wanted o (yielded ops a1.tmps)=true:=by
  rcases hg with hg|⟨j,want,d,hg,hd,hb⟩
  · simp only[Region.wanted,hg]
  · have hv:=hc1.tmp d
    rw[hb] at hv
    obtain⟨e,_⟩:=hv.v_inv
    have hlt:d<a1.tmps.size:=by
     rw[hc1.size]
     rcases Nat.lt_or_ge d σ1.T.length with h|h
     · exact h
     · rw[List.getD_eq_getElem?_getD,List.getElem?_eq_none h] at hb;cases hb
    have hy:yielded ops a1.tmps j=some want:=by
     unfold yielded
     rw[hd]
     simp only[Option.bind_some]
     have:a1.tmps[d]? = some (.bool want):=by
      rw[Array.getElem?_eq_getElem hlt]
      simp only[Array.getD,hlt,dif_pos] at e
      simpa using e
     rw[this]
    unfold Region.wanted
    rw[hg]
    simp only[hy,beq_self_eq_true]
 rw[hw,if_pos rfl]
 refine hop E ι1 a1 w1 hp hc1 K _ fun ι2 σ2 a2 w2 hk hc2=>hK _ _ ?_
 have:=X3r (ro:=none) (Q:=fun ex a' w'=>∃ι' σ',Conc E ι' σ' a' w'∧Φ ex σ') (more:=[]) l2 n2 σ2 hk E ι2 a2 w2 hc2 fun ι' σ' a' w' hk hc'=>wpListIn_nil ⟨ι',σ',hc',hk⟩
 rwa [List.append_nil] at this
end
theorem AWE.region_at{p:Env→Prop}{P:Program}{σ : St}{Φ : Exit→St→Prop}{id:Nat}{ops:Array Oper}(k:Nat){o:Oper}(hk:ops.toList[k]? = some o)(n0:ops.toList.all (fun x=>opNd x)=true)
 (h:∀R:St→Prop,(∀σ1,((o.guard=none∨∃j want d,o.guard=some (j,want)∧(ops[j]?).bind (·.dst)=some d∧σ1.T.getD d .any = .c (.v (.bool want)))∧OpE p P o σ1 fun σ2=>∀R2:St→Prop,(∀σ',Φ .normal σ'→R2 σ')→evL P ops (ops.toList.drop (k+1)) σ2 R2)→R σ1)→evL P ops (ops.toList.take k) σ R):AWE p P (.region id ops false) σ Φ:=by
 obtain⟨hlt,rfl⟩:=List.getElem?_eq_some_iff.1 hk
 have n0':=List.all_eq_true.1 n0
 refine AWE.region (ops.toList.take k) ops.toList[k] (ops.toList.drop (k+1)) (by rw[←List.drop_eq_getElem_cons hlt,List.take_append_drop]) (List.all_eq_true.2 fun x hx=>n0' x (List.mem_of_mem_take hx)) (List.all_eq_true.2 fun x hx=>n0' x (List.mem_of_mem_drop hx)) ?_
 refine h _ fun σ1 ⟨h1,h2⟩=>⟨h1,fun E ι a w hp hc K' Q hK'=>h2 E ι a w hp hc K' Q fun ι' σ' a' w' hk hc'=>hK' ι' σ' a' w' (hk _ fun _ h=>h) hc'⟩
abbrev yv(l:Nat):AV:=.c (.v (.func (.yield l) #[] #[]))
theorem AW.range{P:Program}{σ : St}{Φ : Exit→St→Prop}{g:Operand}{t:Tmp}{assign body:Code}{gf:FuncId}{fn:Func}{caps:List AV}{cargs:List AV}{H0 H1:List (Nat×List AV)}{res:AV}{T0:List AV}(ρ : Nat→Nat)
 (hF:∀l,FnW (LoopAt t assign body T0 (H0.map (·.1)) l) P gf (yv l::cargs) H0 res H1) (hg0:Q0v g=true) (hg:σ.ev g = .fn gf caps) (hfn:P.funcs[gf]? = some fn) (hname:(fn.name == "runtime.NumGoroutine")=false) (hbody:fn.body.isNone=false)
 (hD0:H0.all (fun x=>decide (1000≤x.1))=true) (hargs:Q1t ρ cargs caps) (hT0:Q1t ρ T0 σ.T) (hH0:∀r∈H0.map (·.1),hget σ.H (ρ r)=(hget H0 r).map (AV.renL ρ)) (hinj:∀r∈H0.map (·.1)++H1.map (·.1),∀q∈H0.map (·.1)++H1.map (·.1),ρ r = ρ q→r=q)
 (hnew:Q2d σ ρ H0 H1) (hin:AV.inN (H1.map (·.1)) res=true) (hinH:inH (H1.map (·.1)) H1=true)
 (hK:Φ .normal ⟨σ.T,Q0q (Q2k σ.H (renH ρ H0)) (renH ρ H1)⟩):AW P (.rangeFunc g #[t] assign body) σ Φ:=by
 intro E ι a w hc
 have hfv:=hc.ev g hg0
 rw[hg] at hfv
 generalize hge:a.eval g=fv at hfv
 cases hfv with
 |fn _ us _ hul hus=>
  refine(wpIn_wide (n:=0)).1 (wpIn_rangeFunc fun f _=>?_)
  obtain⟨w1,hw1⟩:∃w1,(w.alloc (.deferred (some []))).alloc (.loop (Q4d #[t] assign body f a.tmps w.heap.size))=w1:=⟨_,rfl⟩
  have hc1:Conc E ι σ a w1:=hw1▸(hc.alloc _).alloc _
  have hL:w1.heap[w.heap.size+1]? = some (.loop (Q4d #[t] assign body f a.tmps w.heap.size)):=by
   rw[←hw1]
   have:=World.alloc_heap_new (w.alloc (.deferred (some []))) (.loop (Q4d #[t] assign body f a.tmps w.heap.size))
   rwa [World.size_alloc] at this
  have hB:w1.heap[w.heap.size]? = some (.deferred (some [])):=by
   rw[←hw1,Below.heap_alloc _ _ _ (by rw[World.size_alloc];omega)]
   exact World.alloc_heap_new _ _
  have hD0':∀r∈H0.map (·.1),1000≤r:=fun r hr=>by
   obtain⟨y,hy,rfl⟩:=List.mem_map.1 hr
   have:=List.all_eq_true.1 hD0 y hy
   simpa using this
  have hH0':∀r cs,hget H0 r=some cs→hget σ.H (ρ r)=some (AV.renL ρ cs):=fun r cs hr=>by rw[hH0 r (Q3d hr),hr];rfl
  obtain⟨E',hE'⟩:∃E':Env,E'={w:=w1,S:=Sx E ι σ.H,ι:=fun r=>ι (ρ r),D:=H0.map (·.1),hD:=hD0',hG:=hc1.glob hH0'}:=⟨_,rfl⟩
  have hwE:E'.w=w1:=by rw[hE']
  have hED:E'.D=H0.map (·.1):=by rw[hE']
  have hconcH:ConcH E'.S E'.ι H0 E'.w:=by
   subst hE'
   exact hc1.enter ρ hH0' fun r hr q hq=>hinj r (List.mem_append_left _ hr) q (List.mem_append_left _ hq)
  have hdis:∀r cs b,hget H0 r=some cs→(E'.ι r).2.1≠0→E'.S b→(E'.ι r).1≠b:=fun r cs b hr hz hS=>by
   subst hE'
   exact hS.2 (ρ r) _ (hH0' r cs hr) hz
  have hneL:∀r∈E'.D,(E'.ι r).2.1≠0→(E'.ι r).1≠w.heap.size+1:=by
   rw[hED];exact X2v hconcH (by rw[hwE];exact hL) rfl
  have hneB:∀r∈E'.D,(E'.ι r).2.1≠0→(E'.ι r).1≠w.heap.size:=by
   rw[hED];exact X2v hconcH (by rw[hwE];exact hB) rfl
  obtain⟨hTl,hTg⟩:=Q3v hT0
  obtain⟨hal,hag⟩:=Q3v hargs
  have hat:LoopAt t assign body T0 (H0.map (·.1)) (w.heap.size+1) E':=by
   refine⟨⟨f,a.tmps,w.heap.size,by rw[hwE];exact hL,hc1.size.trans hTl.symm,fun i=>?_⟩,hneL,fun r hr hz b hb=>?_,hED⟩
   · subst hE'
     have hv:=hc1.tmp i
     rw[List.getD_eq_getElem?_getD] at hv ⊢
     cases hi:T0[i]? with
     |none=>exact .any _
     |some x=>
      have hlt:=(List.getElem?_eq_some_iff.1 hi).1
      rw[List.getElem?_eq_getElem (by omega)] at hv
      rcases hTg i x _ hi (List.getElem?_eq_getElem (by omega)) with rfl|e
      · exact .any _
      · exact hv.unren x e
   · obtain⟨cs,hcs⟩:=Q1v (hED▸hr)
     exact hdis r cs b hcs hz hb
  have hcall:=hF (w.heap.size+1) E' (.func (.yield (w.heap.size+1)) #[] #[]::us) hat hED hdis hconcH (by simp[hul,hal]) (fun j v x hv hx=>by
   cases j with
   |zero=>cases hv;cases hx;exact .c _ _ (.v _ rfl)
   |succ j=>
    simp only[List.getElem?_cons_succ] at hv hx
    have hlt:=(List.getElem?_eq_some_iff.1 hx).1
    subst hE'
    rcases hag j x _ hx (List.getElem?_eq_getElem (by omega)) with rfl|e
    · exact .any _
    · have:=hus j v _ hv (List.getElem?_eq_getElem (by omega))
      exact(this.mono (S':=Sx E ι σ.H) (w':=w1) (fun b hb hlt=>⟨hb,by rw[←hw1,Below.heap_alloc _ _ _ (by rw[World.size_alloc];omega),Below.heap_alloc _ _ _ hlt]⟩) fun _ _=>rfl).unren x e)
  rw[hwE] at hcall
  refine⟨w.heap.size+1,[{target:=.collected w.heap.size,args:=#[]}],w1,{target:=.fn (.func gf) us.toArray,args:=#[.func (.yield (w.heap.size+1)) #[] #[]]},w1,gf,(.func (.yield (w.heap.size+1)) #[] #[]::us:List Value).toArray,w1,?_,?_,fun _ _=>trivial,?_,fun e=>(by cases e),(callsIn_wide (n:=0-1)).2 (hcall.mono fun e w'=>?_)⟩
  · rw[←hw1];exact run_enterLoop_outer f a.tmps #[t] assign body
  · simp only[resolve,hge,Deferred.ofValue,List.map_toArray,List.map_cons,List.map_nil,Sem.run_bind,Sem.run_pure,Result.andThen_ok,Array.empty_append]
    rfl
  · have hen:=Q5h hfn hname hbody (.func (.yield (w.heap.size+1)) #[] #[]::us:List Value).toArray w1
    simpa only[invoke,List.append_toArray,List.cons_append,List.nil_append] using hen
  · rintro ⟨v,ι',rfl,hres,hcH,hk⟩
    obtain⟨ι2,hcn,-⟩:=hc1.back ρ hD0' hH0' hinj hnew hin hinH hE' hres hcH hk
    have hlt1:w.heap.size+1<w1.heap.size:=(Array.getElem?_eq_some_iff.1 hL).1
    have hL':w'.heap[w.heap.size+1]? = some (.loop (Q4d #[t] assign body f a.tmps w.heap.size)):=by
     rw[hk.block _ (by rw[hwE];exact hlt1) hneL,hwE];exact hL
    have hB':w'.heap[w.heap.size]? = some (.deferred (some [])):=by
     rw[hk.block _ (by rw[hwE];omega) hneB,hwE];exact hB
    refine⟨none,_,run_endLoop hL' (by simp),?_⟩
    have hE0:=hc.keep.size
    have hMk:Marks E (Sx E ι2 (Q0q (Q2k σ.H (renH ρ H0)) (renH ρ H1))) (w'.putObj (w.heap.size+1) (.loop {Q4d #[t] assign body f a.tmps w.heap.size with state:=.exhausted})) ({target:=.collected w.heap.size,args:=#[]}::a.defers):=by
     obtain⟨Ds,g1,g2,g3⟩:=hcn.defers
     obtain⟨Ds0,k1,k2,k3⟩:=hc.defers
     have hinjm:Ds=Ds0:=by
      have:=g2.symm.trans k2
      exact(List.map_inj_right (fun x y e=>by simpa using e)).1 this
     subst hinjm
     refine⟨w.heap.size::Ds,List.nodup_cons.2 ⟨fun hm=>?_,g1⟩,by rw[List.map_cons,←g2],fun D hD=>?_⟩
     · have:=(Array.getElem?_eq_some_iff.1 (k3 _ hm).2.2).1;omega
     · rcases List.mem_cons.1 hD with rfl|hD
       · refine⟨hE0,⟨.inr (.inl hE0),fun r cs hr hz e=>?_⟩,(World.putObj_heap_other (by omega)).trans hB'⟩
         rcases hcn.heap.blk r cs hr with⟨h0,_⟩|⟨cur,hh,_⟩
         · exact hz h0
         · rw[e,hB'] at hh;cases hh
       · obtain⟨m1,m2,m3⟩:=g3 D hD
         have:=(Array.getElem?_eq_some_iff.1 (k3 D hD).2.2).1
         exact⟨m1,m2,(World.putObj_heap_other (by omega)).trans m3⟩
    exact⟨ι2,_,hcn.turn _ hL' rfl (by omega) hMk,hK⟩
theorem St.to.nilcell{σ : St}(r d e sz j:Nat){cs:List AV}(hr:hget σ.H r=some cs)(h1:cs[j]? = some (.c (.v (.slice none 0 0))))(hf:σ.free d=true)(hrd:d≠r)(hd:d<1000):σ.to ⟨σ.T,hput (hput σ.H d []) r (cs.set j (.row d e sz 0))⟩:=fun E ι a w hc=>by
 have hg:Conc E (upd ι d (0,0,e)) ⟨σ.T,hput σ.H d []⟩ a w:=hc.grow (w':=w) hf hd (World.grownBy.refl w none) none (fun b hb=>by cases hb) (0,0,e) (cs:=[]) (fun h=>absurd rfl h) rfl (.inl ⟨rfl,rfl⟩)
 refine⟨upd ι d (0,0,e),?_⟩
 have hget':∀q ds,hget (hput (hput σ.H d []) r (cs.set j (.row d e sz 0))) q=some ds→(q=r∧ds=cs.set j (.row d e sz 0))∨(q≠r∧hget (hput σ.H d []) q=some ds):=fun q ds hq=>by
  rw[Q2y] at hq
  split at hq
  · rename_i e;cases hq;exact .inl ⟨e,rfl⟩
  · rename_i e;exact .inr ⟨e,hq⟩
 have hr':hget (hput σ.H d []) r=some cs:=by rw[Q2y,if_neg (Ne.symm hrd)];exact hr
 have hold:∀q ds,hget (hput (hput σ.H d []) r (cs.set j (.row d e sz 0))) q=some ds→∃es,hget (hput σ.H d []) q=some es:=fun q ds hq=>by
  rcases hget' q ds hq with⟨rfl,_⟩|⟨_,h⟩
  · exact⟨_,hr'⟩
  · exact⟨_,h⟩
 have hSx:∀b,Sx E (upd ι d (0,0,e)) (hput σ.H d []) b→Sx E (upd ι d (0,0,e)) (hput (hput σ.H d []) r (cs.set j (.row d e sz 0))) b:=fun b ⟨g1,g2⟩=>⟨g1,fun q ds hq hz=>by
  obtain⟨es,hes⟩:=hold q ds hq
  exact g2 q es hes hz⟩
 have hR:∀{v:Value} {x:AV},RV (Sx E (upd ι d (0,0,e)) (hput σ.H d [])) (upd ι d (0,0,e)) w v x→RV (Sx E (upd ι d (0,0,e)) (hput (hput σ.H d []) r (cs.set j (.row d e sz 0)))) (upd ι d (0,0,e)) w v x:=fun hv=>hv.mono (fun b hb _=>⟨hSx b hb,rfl⟩) fun _ _=>rfl
 refine⟨hg.defers.mono fun b hb _=>⟨hSx b hb,rfl⟩,hg.size,fun i=>hR (hg.tmp i),⟨fun q ds hq=>?_,fun q q' ds es hq hq'=>?_⟩,⟨hg.keep.os,hg.keep.tape,hg.keep.output,hg.keep.size,hg.keep.block,fun q ds hq=>?_⟩⟩
 · rcases hget' q ds hq with⟨rfl,rfl⟩|⟨_,h⟩
   · rcases hg.heap.blk q cs hr' with⟨_,rfl⟩|⟨cur,hh,hs,hlen,hcur,hone1⟩
     · simp at h1
     · refine .inr ⟨cur,hh,hs,by rw[List.length_set];exact hlen,fun i u x hu hx=>?_,hone1⟩
       rw[List.getElem?_set] at hx
       split at hx
       · rename_i hji
         subst hji
         have hcv:=hcur j u _ hu h1
         obtain⟨rfl,_⟩:=hcv.1.v_inv
         split at hx
         · cases hx;exact⟨.rnil none d e sz (by rw[Q2a]),rfl⟩
         · cases hx
       · exact⟨hR (hcur i u x hu hx).1,(hcur i u x hu hx).2⟩
   · rcases hg.heap.blk q ds h with h0|⟨cur,hh,hs,hlen,hcur,hone1⟩
     · exact .inl h0
     · exact .inr ⟨cur,hh,hs,hlen,fun i u x hu hx=>⟨hR (hcur i u x hu hx).1,(hcur i u x hu hx).2⟩,hone1⟩
 · obtain⟨ds',h1'⟩:=hold q ds hq
   obtain⟨es',h2'⟩:=hold q' es hq'
   exact hg.heap.inj q q' ds' es' h1' h2'
 · obtain⟨ds',h1'⟩:=hold q ds hq
   exact hg.keep.mine q ds' h1'
end
section
open Go.RowKit
theorem St.to.cells{σ : St}(r:Nat){cs ds:List AV}(hr:hget σ.H r=some cs)(hle:leL cs ds):σ.to ⟨σ.T,hput σ.H r ds⟩:=fun E ι a w hg=>by
 refine⟨ι,?_⟩
 obtain⟨hlen0,hle2⟩:=X0q hle
 have hget':∀q es,hget (hput σ.H r ds) q=some es→(q=r∧es=ds)∨(q≠r∧hget σ.H q=some es):=fun q es hq=>by
  rw[Q2y] at hq
  split at hq
  · rename_i e;cases hq;exact .inl ⟨e,rfl⟩
  · rename_i e;exact .inr ⟨e,hq⟩
 have hold:∀q es,hget (hput σ.H r ds) q=some es→∃fs,hget σ.H q=some fs:=fun q es hq=>by
  rcases hget' q es hq with⟨rfl,_⟩|⟨_,h⟩
  · exact⟨_,hr⟩
  · exact⟨_,h⟩
 have hSx:∀b,Sx E ι σ.H b→Sx E ι (hput σ.H r ds) b:=fun b ⟨g1,g2⟩=>⟨g1,fun q es hq hz=>by
  obtain⟨fs,hes⟩:=hold q es hq
  exact g2 q fs hes hz⟩
 have hR:∀{v:Value} {x:AV},RV (Sx E ι σ.H) ι w v x→RV (Sx E ι (hput σ.H r ds)) ι w v x:=fun hv=>hv.mono (fun b hb _=>⟨hSx b hb,rfl⟩) fun _ _=>rfl
 refine⟨hg.defers.mono fun b hb _=>⟨hSx b hb,rfl⟩,hg.size,fun i=>hR (hg.tmp i),⟨fun q es hq=>?_,fun q q' es fs hq hq'=>?_⟩,⟨hg.keep.os,hg.keep.tape,hg.keep.output,hg.keep.size,hg.keep.block,fun q es hq=>?_⟩⟩
 · rcases hget' q es hq with⟨rfl,rfl⟩|⟨_,h⟩
   · rcases hg.heap.blk q cs hr with⟨h0,rfl⟩|⟨cur,hh,hs,hlen,hcur,hone1⟩
     · exact .inl ⟨h0,List.eq_nil_of_length_eq_zero hlen0.symm⟩
     · refine .inr ⟨cur,hh,hs,by rw[←hlen0];exact hlen,fun i u x hu hx=>?_,hone1⟩
       have hi:i<cs.length:=by rw[hlen0];exact(List.getElem?_eq_some_iff.1 hx).1
       have hy:cs[i]? = some cs[i]:=List.getElem?_eq_getElem hi
       exact⟨hle2 i _ _ hy hx _ _ _ _ (hR (hcur i u _ hu hy).1),(hcur i u _ hu hy).2⟩
   · rcases hg.heap.blk q es h with h0|⟨cur,hh,hs,hlen,hcur,hone1⟩
     · exact .inl h0
     · exact .inr ⟨cur,hh,hs,hlen,fun i u x hu hx=>⟨hR (hcur i u x hu hx).1,(hcur i u x hu hx).2⟩,hone1⟩
 · obtain⟨ds',h1'⟩:=hold q es hq
   obtain⟨es',h2'⟩:=hold q' fs hq'
   exact hg.heap.inj q q' ds' es' h1' h2'
 · obtain⟨ds',h1'⟩:=hold q es hq
   exact hg.keep.mine q ds' h1'
section
variable {P:Program} {o:Oper} {σ : St} {K:St→Prop}
end
end
section
open Go.RowKit
open Nat (reduceBEq)
attribute [-go_sem] IntKind.bits
set_option maxRecDepth 20000
set_option maxHeartbeats 2000000
abbrev adT:Nat:=24
def rI(d:Array Int):List AV:=(d.toList.flatMap apv).map .c
theorem Q1z(d:Array Int):(rI d).length=d.size:=by
 unfold rI
 rw[List.length_map,Q1u X4b]
 simp
theorem rI_eq(d:Array Int):rI d=d.toList.map fun x=>vi .u64 x:=by
 unfold rI
 induction d.toList with
 |nil=>rfl
 |cons x l ih=>simp only[List.flatMap_cons,apv,List.cons_append,List.nil_append,List.map_cons,ih]
theorem Q2o(d:Array Int){j:Nat}(h:j<d.size):(rI d)[j]? = some (vi .u64 d[j]!):=by
 rw[rI_eq,List.getElem?_map,Array.getElem?_toList,Array.getElem?_eq_getElem h]
 simp[getElem!_pos d j h]
theorem rI_set(d:Array Int)(j:Nat)(y:Int)(h:j<d.size):spl (rI d) j [vi .u64 y]=rI (d.setIfInBounds j y):=by
 rw[rI_eq,rI_eq,Array.toList_setIfInBounds,List.map_set]
 unfold spl
 rw[List.set_eq_take_append_cons_drop,if_pos (by simpa using h)]
 simp
theorem Q0a(r:Nat)(d:Array Int):AV.refsL r (rI d)=false:=Q0z r _
theorem Q0k(ρ : Nat→Nat)(d:Array Int):AV.renL ρ (rI d)=rI d:=Q1c ρ _
theorem Q0l(N:List Nat)(d:Array Int):AV.inNL N (rI d)=true:=Q1k N _
attribute [local simp] Q0l Q0a Q0k
theorem Q2m(d:Array Int)(i j:Nat):(Sort.swp d i j).size=d.size:=by unfold Sort.swp;simp
theorem Q3p(d:Array Int){i j:Nat}(hi:i<d.size)(hj:j<d.size):spl (rI d) i [vi .u64 d[j]!]=rI (d.setIfInBounds i d[j]!)∧spl (rI (d.setIfInBounds i d[j]!)) j [vi .u64 d[i]!]=rI (Sort.swp d i j):=
 ⟨rI_set d i _ hi,rI_set _ j _ (by simpa using hj)⟩
theorem Q6t(x:Int):Fn Try.prog 89 [vi .u64 x] [] (vb false) []:=by
 have e:(x != x)=false:=by simp
 (refine Q1q Try.func89 rfl (by rfl) ?_;simp only[Try.ntmps89,List.length_cons,List.length_nil,Nat.reduceAdd,Nat.reduceSub,List.replicate,List.cons_append,List.nil_append])
 (repeat(any_goals(first|((with_reducible refine Q0g ?_ ?_);rfl;intro K hK;simp only[go_sem,e];((repeat(refine ndI (by first|assumption|omega|rfl) ?_));refine hK _ ?_;clear hK K))|(with_reducible first|(refine Q0i ?_;refine hR _ ?_;clear hR R)|((first|refine Q0h ?_|refine Q0c ?_);intro Ψ hΨ hΨ')|(refine Q0b ?_;intro R hR)|(refine hΨ _ ?_;clear hΨ hΨ' Ψ)|refine Q0d ?_|refine Q0j ?_|refine Q0e ?_)|((with_reducible refine hΨ' _ _ ?_ ?_);(focus(simp;done));clear hΨ hΨ' Ψ)|((with_reducible apply Q0f);rfl;rfl;all_goals(intro hc;first|(cases hc;done)|(try simp only at hc))))))
 all_goals(refine⟨by simp,⟨_,?_,AV.le_refl _⟩,Q0y (by simp[leH,hget])⟩;simp only[Try.results89,resL,ldA,Q1o,go_sem])
theorem Q3a(x y:Int):Fn Try.prog 70 [vi .u64 x,vi .u64 y] [] (vb (decide (x<y))) []:=by
 have g:=Q6t x
 (refine Q1q Try.func70 rfl (by rfl) ?_;simp only[Try.ntmps70,List.length_cons,List.length_nil,Nat.reduceAdd,Nat.reduceSub,List.replicate,List.cons_append,List.nil_append])
 (repeat(any_goals(first|((with_reducible refine Q1d ?_ ?_ ?_);rfl;rfl;intro K hK;((apply Q0x (g);rfl;rfl;rfl;rfl;exact Try.func89);kernel_rfl;rfl;(focus((simp only[go_sem]);(try rfl);done));(first|rfl|simp[AV.inNL,AV.inN]));(simp only[go_sem];refine hK _ ?_;clear hK K))|((with_reducible refine Q0g ?_ ?_);rfl;intro K hK;simp only[go_sem];((repeat(refine ndI (by first|assumption|omega|rfl) ?_));refine hK _ ?_;clear hK K))|(with_reducible first|(refine Q0i ?_;refine hR _ ?_;clear hR R)|((first|refine Q0h ?_|refine Q0c ?_);intro Ψ hΨ hΨ')|(refine Q0b ?_;intro R hR)|(refine hΨ _ ?_;clear hΨ hΨ' Ψ)|refine Q0d ?_|refine Q0j ?_|refine Q0e ?_)|((with_reducible refine hΨ' _ _ ?_ ?_);(focus(simp;done));clear hΨ hΨ' Ψ)|((with_reducible apply Q1e);rfl;rfl;rfl;(try simp only[go_sem]))|((with_reducible apply Q1l);rfl;rfl;rfl;all_goals(intro hb;first|(cases hb;done)|((try simp only[Bool.not_true,Bool.not_false] at hb);(first|((with_reducible intro K hK);simp only[go_sem];((repeat(refine ndI (by first|assumption|omega|rfl) ?_));refine hK _ ?_;clear hK K))|((fail_if_success (with_reducible intro _));simp only[go_sem])))))|((with_reducible apply Q0f);rfl;rfl;all_goals(intro hc;first|(cases hc;done)|(try simp only at hc))))))
 all_goals(refine⟨by simp,⟨_,?_,AV.le_refl _⟩,Q0y (by simp[leH,hget])⟩;simp only[Try.results70,resL,ldA,Q1o,go_sem])
abbrev ltI:Int→Int→Bool:=fun x y=>decide (x<y)
abbrev stIn(d:Array Int)(n a b i:Nat)(j:Nat):St:=⟨[.row 1000 adT 1 n,vi .i64 (a:Int),vi .i64 (b:Int),.any,.any,.any,vi .i64 (i:Int),vi .i64 (j:Int),.any,.any,.any,.any,.any,.any,.any,.any,.any,.any,.any,.any,.any,.any,.any,.any,.any,.any,.any,.any,.any,.any,.any,.any,.any,.any,.any,.any,.any,.any,.any,.any,.any,.any,.any,.any,.any,.any,.any,.any,.any],[(1000,rI d)]⟩
abbrev stOu(d:Array Int)(n a b i:Nat):St:=⟨[.row 1000 adT 1 n,vi .i64 (a:Int),vi .i64 (b:Int),.any,.any,.any,vi .i64 (i:Int),.any,.any,.any,.any,.any,.any,.any,.any,.any,.any,.any,.any,.any,.any,.any,.any,.any,.any,.any,.any,.any,.any,.any,.any,.any,.any,.any,.any,.any,.any,.any,.any,.any,.any,.any,.any,.any,.any,.any,.any,.any,.any],[(1000,rI d)]⟩
theorem ins_fn(n a b:Nat)(hab:a≤b)(hb:b≤n)(hn:n≤1000000)(d0:Array Int)(h0:d0.size=n):Fn Try.prog 64 [.row 1000 adT 1 n,vi .i64 (a:Int),vi .i64 (b:Int)] [(1000,rI d0)] (.tup []) [(1000,rI (Sort.insertionSort ltI d0 a b))]:=by
 obtain⟨res,hres⟩:∃res,Sort.insertionSort ltI d0 a b=res:=⟨_,rfl⟩
 rw[hres]
 unfold Sort.insertionSort at hres
 have w1:(a:Int)+1=((a+1:Nat):Int):=by omega
 (refine Q1q Try.func64 rfl (by rfl) ?_;simp only[Try.ntmps64,List.length_cons,List.length_nil,Nat.reduceAdd,Nat.reduceSub,List.replicate,List.cons_append,List.nil_append])
 (repeat(any_goals(first|((with_reducible refine Q0g ?_ ?_);rfl;intro K hK;simp(disch:=omega) only[go_sem,w1,wrI];((repeat(refine ndI (by first|assumption|omega|rfl) ?_));refine hK _ ?_;clear hK K))|(with_reducible first|(refine Q0i ?_;refine hR _ ?_;clear hR R)|((first|refine Q0h ?_|refine Q0c ?_);intro Ψ hΨ hΨ')|(refine Q0b ?_;intro R hR)|(refine hΨ _ ?_;clear hΨ hΨ' Ψ)|refine Q0d ?_|refine Q0j ?_|refine Q0e ?_)|((with_reducible refine hΨ' _ _ ?_ ?_);(focus(simp;done));clear hΨ hΨ' Ψ)|((with_reducible apply Q0f);rfl;rfl;all_goals(intro hc;first|(cases hc;done)|(try simp only at hc)))|((with_reducible refine Q0t ?_ ?_);kernel_rfl;(with_reducible refine hR _ ?_);clear hR R)|((first|((with_reducible apply Q0r);rfl;rfl;rfl;rfl)|((with_reducible apply Q0n);rfl;rfl;rfl)|((first|((with_reducible apply Q0u);rfl;rfl)|((with_reducible apply Q0s);rfl;rfl;rfl;rfl;rfl));(simp(disch:=omega) only[rdE,rdOf,go_sem,w1,wrI];rfl);(intro τ hA hQ hN;((try simp only[Q1h,Op.operands,Call.operands,go_sem,w1,wrI,go_sem,List.mem_cons,List.not_mem_nil,forall_eq_or_imp,forall_eq,List.append_toArray,Option.toArray] at hA);(try simp only[go_sem,w1,wrI,List.mem_cons,List.not_mem_nil,forall_eq_or_imp,forall_eq] at hQ hN);(first|(revert hA;intro hA)|have hA:=trivial);(first|(revert hQ;intro hQ)|have hQ:=trivial);(first|(revert hN;intro hN)|have hN:=trivial);simp(disch:=omega) only[go_sem,w1,wrI,go_sem,hA,hQ,hN];(repeat(refine ndI (by first|assumption|omega|rfl) ?_));(first|apply Q1b|apply Q1a|apply Q0w)))));(simp(disch:=omega) only[St.eff,setO,Q0q,go_sem,w1,wrI]))|((with_reducible apply Q0o);rfl;rfl;rfl;all_goals intro hb;all_goals(simp(disch:=omega) only[St.eff,setO,Q0q,go_sem,w1,wrI]))|((with_reducible refine Q0p ?_ ?_ ?_ ?_);kernel_rfl;kernel_rfl;(first|kernel_rfl|simp[Q0m,Q1j,St.free,Q1i,AV.refsL,AV.refs]);intro R hR))))
 refine Q2v (α:={q:Nat×Array Int // q.1≤b+1∧a+1≤q.1∧q.2.size=n∧Sort.insOuter ltI a b q.1 q.2=res}) (fun q=>stOu q.1.2 n a b q.1.1) (fun q=>b+1-q.1.1) ⟨(a+1,d0),by dsimp only;omega,Nat.le_refl _,h0,hres⟩ (St.le_of (by simp[leT]) (by simp[leH,hget])) ?_
 rintro ⟨⟨i,d⟩,hi1,hi2,hs,hr⟩ Ψ hΨ hΨ'
 (try dsimp only at hi1 hi2 hs hr hΨ ⊢)
 clear hres h0
 by_cases hib:i<b
 · have k1:decide ((i:Int)<(b:Int))=true:=decide_eq_true (by omega)
   have k7:(i:Int)+1=((i+1:Nat):Int):=by omega
   have hr2:Sort.insOuter ltI a b (i+1) (Sort.insInner ltI a i d)=res:=by
    rw[←hr]
    conv=>rhs;unfold Sort.insOuter
    rw[if_pos hib]
   clear hr
   obtain⟨e,he⟩:∃e,Sort.insInner ltI a i d=e:=⟨_,rfl⟩
   rw[he] at hr2
   have fin:e.size=n→∀σ':St,σ'.le (stOu e n a b (i+1))→Ψ .normal σ':=fun hse σ' h=>hΨ σ' ⟨(i+1,e),by dsimp only;omega,by dsimp only;omega,hse,hr2⟩ (by dsimp only;omega) h
   clear hΨ
   (repeat(any_goals(first|((with_reducible refine Q0g ?_ ?_);rfl;intro K hK;simp only[go_sem,k1];((repeat(refine ndI (by first|assumption|omega|rfl) ?_));refine hK _ ?_;clear hK K))|(with_reducible first|(refine Q0i ?_;refine hR _ ?_;clear hR R)|((first|refine Q0h ?_|refine Q0c ?_);intro Ψ hΨ hΨ')|(refine Q0b ?_;intro R hR)|(refine hΨ _ ?_;clear hΨ hΨ' Ψ)|refine Q0d ?_|refine Q0j ?_|refine Q0e ?_)|((with_reducible refine hΨ' _ _ ?_ ?_);(focus(simp;done));clear hΨ hΨ' Ψ)|((with_reducible apply Q0f);rfl;rfl;all_goals(intro hc;first|(cases hc;done)|(try simp only at hc)))|((with_reducible refine Q0t ?_ ?_);kernel_rfl;(with_reducible refine hR _ ?_);clear hR R)|((first|((with_reducible apply Q0r);rfl;rfl;rfl;rfl)|((with_reducible apply Q0n);rfl;rfl;rfl)|((first|((with_reducible apply Q0u);rfl;rfl)|((with_reducible apply Q0s);rfl;rfl;rfl;rfl;rfl));(simp only[rdE,rdOf,go_sem,k1];rfl);(intro τ hA hQ hN;((try simp only[Q1h,Op.operands,Call.operands,go_sem,k1,go_sem,List.mem_cons,List.not_mem_nil,forall_eq_or_imp,forall_eq,List.append_toArray,Option.toArray] at hA);(try simp only[go_sem,k1,List.mem_cons,List.not_mem_nil,forall_eq_or_imp,forall_eq] at hQ hN);(first|(revert hA;intro hA)|have hA:=trivial);(first|(revert hQ;intro hQ)|have hQ:=trivial);(first|(revert hN;intro hN)|have hN:=trivial);simp only[go_sem,k1,go_sem,hA,hQ,hN];(repeat(refine ndI (by first|assumption|omega|rfl) ?_));(first|apply Q1b|apply Q1a|apply Q0w)))));(simp only[St.eff,setO,Q0q,go_sem,k1]))|((with_reducible apply Q0o);rfl;rfl;rfl;all_goals intro hb;all_goals(simp only[St.eff,setO,Q0q,go_sem,k1]))|((with_reducible refine Q0p ?_ ?_ ?_ ?_);kernel_rfl;kernel_rfl;(first|kernel_rfl|simp[Q0m,Q1j,St.free,Q1i,AV.refsL,AV.refs]);intro R hR))))
   refine Q2v (α:={q:Nat×Array Int // q.1≤i∧q.2.size=n∧Sort.insInner ltI a q.1 q.2=e}) (fun q=>stIn q.1.2 n a b i q.1.1) (fun q=>q.1.1) ⟨(i,d),Nat.le_refl _,hs,he⟩ (St.le_of (by simp[leT]) (by simp[leH,hget])) ?_
   rintro ⟨⟨j,d⟩,hj,hs,hr⟩ Ψ hΨ hΨ'
   (try dsimp only at hj hs hr hΨ ⊢)
   clear he
   by_cases hja:j>a
   · obtain⟨j,rfl⟩:∃k,j=k+1:=⟨j-1,by omega⟩
     have c1:decide (((j+1:Nat):Int)>(a:Int))=true:=decide_eq_true (by omega)
     have c2:((j+1:Nat):Int)-1=(j:Int):=by omega
     have x1:=Q2o d (j:=j+1) (by omega)
     have x2:=Q2o d (j:=j) (by omega)
     have x0:=Q1z d
     rw[hs] at x0
     have lf:=Q3a d[j+1]! d[j]!
     have hu:Sort.insInner ltI a (j+1) d=if (j+1>a&&ltI d[j+1]! d[j]!)=true then Sort.insInner ltI a j (Sort.swp d (j+1) j) else d:=by
      conv=>lhs;unfold Sort.insInner
     obtain⟨s1,s2⟩:=Q3p d (i:=j+1) (j:=j) (by omega) (by omega)
     have ss:=Q2m d (j+1) j
     generalize hx:d[j+1]! = x at *
     generalize hy:d[j]! = y at *
     have ha:decide (j+1>a)=true:=decide_eq_true hja
     rw[hu,ha,Bool.true_and] at hr
     by_cases hlt:x<y
     · have c3:decide (x<y)=true:=decide_eq_true hlt
       rw[c3] at lf
       rw[if_pos c3] at hr
       have hΨ1:∀σ':St,σ'.le (stIn (Sort.swp d (j+1) j) n a b i j)→Ψ .normal σ':=fun σ' h=>hΨ σ' ⟨(j,Sort.swp d (j+1) j),by dsimp only;omega,by rw[ss];exact hs,hr⟩ (by dsimp only;omega) h
       clear hΨ hr hu hx hy fin
       have x4:(rI (d.setIfInBounds (j+1) y)).length=n:=by rw[Q1z,Array.size_setIfInBounds];exact hs
       generalize d.setIfInBounds (j+1) y=d1 at s1 s2 x4
       (have W:=ndI c1 (ndI c2 (ndI x1 (ndI x2 (ndI x0 (ndI x4 (ndI s1 (ndI s2 @wrI)))))));(repeat(any_goals(first|((with_reducible refine Q0g ?_ ?_);rfl;intro K hK;simp(disch:=omega) only[go_sem,W,Q0a,Nat.mul_one];((repeat(refine ndI (by first|assumption|omega|rfl) ?_));refine hK _ ?_;clear hK K))|(with_reducible first|(refine Q0i ?_;refine hR _ ?_;clear hR R)|((first|refine Q0h ?_|refine Q0c ?_);intro Ψ hΨ hΨ')|(refine Q0b ?_;intro R hR)|(refine hΨ _ ?_;clear hΨ hΨ' Ψ)|refine Q0d ?_|refine Q0j ?_|refine Q0e ?_)|((with_reducible refine hΨ' _ _ ?_ ?_);(focus(simp;done));clear hΨ hΨ' Ψ)|((with_reducible apply Q0f);rfl;rfl;all_goals(intro hc;first|(cases hc;done)|(try simp only at hc)))|((with_reducible refine Q0t ?_ ?_);(apply Q1f);(focus(repeat(first|exact Sims.nil|((apply Sims.cons);(focus(first|((apply Ef.sim_row);assumption)|exact Ef.sim_refl _))))));kernel_rfl;(with_reducible refine hR _ ?_);clear hR R)|((first|((with_reducible apply Q0r);rfl;rfl;rfl;rfl)|((with_reducible apply Q0n);rfl;rfl;rfl)|((first|((with_reducible apply Q1m);rfl;rfl)|((with_reducible apply Q1p);rfl;rfl;rfl;rfl;rfl));((apply Q1g (lf);rfl;rfl;rfl;rfl;exact Try.func70);kernel_rfl;rfl;(focus((simp(disch:=omega) only[go_sem,W,Q0a,Nat.mul_one]);(try rfl);done));(first|rfl|simp[AV.inNL,AV.inN])))|((first|((with_reducible apply Q0u);rfl;rfl)|((with_reducible apply Q0s);rfl;rfl;rfl;rfl;rfl));(simp(disch:=omega) only[rdE,rdOf,go_sem,W,Q0a,Nat.mul_one];rfl);(intro τ hA hQ hN;((try simp only[Q1h,Op.operands,Call.operands,go_sem,W,Q0a,Nat.mul_one,go_sem,List.mem_cons,List.not_mem_nil,forall_eq_or_imp,forall_eq,List.append_toArray,Option.toArray] at hA);(try simp only[go_sem,W,Q0a,Nat.mul_one,List.mem_cons,List.not_mem_nil,forall_eq_or_imp,forall_eq] at hQ hN);(first|(revert hA;intro hA)|have hA:=trivial);(first|(revert hQ;intro hQ)|have hQ:=trivial);(first|(revert hN;intro hN)|have hN:=trivial);simp(disch:=omega) only[go_sem,W,Q0a,Nat.mul_one,go_sem,hA,hQ,hN];(repeat(refine ndI (by first|assumption|omega|rfl) ?_));(first|apply Q1b|apply Q1a|apply Q0w)))));(simp(disch:=omega) only[St.eff,setO,Q0q,go_sem,W,Q0a,Nat.mul_one]))|((with_reducible apply Q0o);rfl;rfl;rfl;all_goals intro hb;all_goals(simp(disch:=omega) only[St.eff,setO,Q0q,go_sem,W,Q0a,Nat.mul_one]))|((with_reducible refine Q0p ?_ ?_ ?_ ?_);kernel_rfl;kernel_rfl;(simp[Q0m,Q1j,St.free,Q1i,AV.refsL,AV.refs,Q0a]);intro R hR)))))
       all_goals exact hΨ1 _ (St.le_of (by simp[leT]) (by simp[leH,hget]))
     · have c3:decide (x<y)=false:=decide_eq_false hlt
       rw[c3] at lf
       rw[if_neg (show ¬(decide (x<y))=true by rw[c3];simp)] at hr
       have hr:=hr.symm
       subst hr
       have fin:=fin hs
       clear hu hx hy s1 s2
       (have W:=ndI c1 (ndI c2 (ndI x1 (ndI x2 (ndI x0 (ndI k7 @wrI)))));(repeat(any_goals(first|((with_reducible refine Q0g ?_ ?_);rfl;intro K hK;simp(disch:=omega) only[go_sem,W,Q0a,Nat.mul_one];((repeat(refine ndI (by first|assumption|omega|rfl) ?_));refine hK _ ?_;clear hK K))|(with_reducible first|(refine Q0i ?_;refine hR _ ?_;clear hR R)|((first|refine Q0h ?_|refine Q0c ?_);intro Ψ hΨ hΨ')|(refine Q0b ?_;intro R hR)|(refine hΨ _ ?_;clear hΨ hΨ' Ψ)|refine Q0d ?_|refine Q0j ?_|refine Q0e ?_)|((with_reducible refine hΨ' _ _ ?_ ?_);(focus(simp;done));clear hΨ hΨ' Ψ)|((with_reducible apply Q0f);rfl;rfl;all_goals(intro hc;first|(cases hc;done)|(try simp only at hc)))|((with_reducible refine Q0t ?_ ?_);(apply Q1f);(focus(repeat(first|exact Sims.nil|((apply Sims.cons);(focus(first|((apply Ef.sim_row);assumption)|exact Ef.sim_refl _))))));kernel_rfl;(with_reducible refine hR _ ?_);clear hR R)|((first|((with_reducible apply Q0r);rfl;rfl;rfl;rfl)|((with_reducible apply Q0n);rfl;rfl;rfl)|((first|((with_reducible apply Q1m);rfl;rfl)|((with_reducible apply Q1p);rfl;rfl;rfl;rfl;rfl));((apply Q1g (lf);rfl;rfl;rfl;rfl;exact Try.func70);kernel_rfl;rfl;(focus((simp(disch:=omega) only[go_sem,W,Q0a,Nat.mul_one]);(try rfl);done));(first|rfl|simp[AV.inNL,AV.inN])))|((first|((with_reducible apply Q0u);rfl;rfl)|((with_reducible apply Q0s);rfl;rfl;rfl;rfl;rfl));(simp(disch:=omega) only[rdE,rdOf,go_sem,W,Q0a,Nat.mul_one];rfl);(intro τ hA hQ hN;((try simp only[Q1h,Op.operands,Call.operands,go_sem,W,Q0a,Nat.mul_one,go_sem,List.mem_cons,List.not_mem_nil,forall_eq_or_imp,forall_eq,List.append_toArray,Option.toArray] at hA);(try simp only[go_sem,W,Q0a,Nat.mul_one,List.mem_cons,List.not_mem_nil,forall_eq_or_imp,forall_eq] at hQ hN);(first|(revert hA;intro hA)|have hA:=trivial);(first|(revert hQ;intro hQ)|have hQ:=trivial);(first|(revert hN;intro hN)|have hN:=trivial);simp(disch:=omega) only[go_sem,W,Q0a,Nat.mul_one,go_sem,hA,hQ,hN];(repeat(refine ndI (by first|assumption|omega|rfl) ?_));(first|apply Q1b|apply Q1a|apply Q0w)))));(simp(disch:=omega) only[St.eff,setO,Q0q,go_sem,W,Q0a,Nat.mul_one]))|((with_reducible apply Q0o);rfl;rfl;rfl;all_goals intro hb;all_goals(simp(disch:=omega) only[St.eff,setO,Q0q,go_sem,W,Q0a,Nat.mul_one]))|((with_reducible refine Q0p ?_ ?_ ?_ ?_);kernel_rfl;kernel_rfl;(simp[Q0m,Q1j,St.free,Q1i,AV.refsL,AV.refs,Q0a]);intro R hR)))))
       all_goals exact fin _ (St.le_of (by simp[leT]) (by simp[leH,hget]))
   · have c1:decide ((j:Int)>(a:Int))=false:=decide_eq_false (by omega)
     have hr2:e=d:=by
      rw[←hr]
      cases j with
      |zero=>rfl
      |succ j=>
       unfold Sort.insInner
       have ha:decide (j+1>a)=false:=decide_eq_false hja
       rw[ha,Bool.false_and]
       rfl
     subst hr2
     have fin:=fin hs
     clear hr
     (have W:=ndI c1 (ndI k7 @wrI);(repeat(any_goals(first|((with_reducible refine Q0g ?_ ?_);rfl;intro K hK;simp(disch:=omega) only[go_sem,W,Q0a];((repeat(refine ndI (by first|assumption|omega|rfl) ?_));refine hK _ ?_;clear hK K))|(with_reducible first|(refine Q0i ?_;refine hR _ ?_;clear hR R)|((first|refine Q0h ?_|refine Q0c ?_);intro Ψ hΨ hΨ')|(refine Q0b ?_;intro R hR)|(refine hΨ _ ?_;clear hΨ hΨ' Ψ)|refine Q0d ?_|refine Q0j ?_|refine Q0e ?_)|((with_reducible refine hΨ' _ _ ?_ ?_);(focus(simp;done));clear hΨ hΨ' Ψ)|((with_reducible apply Q0f);rfl;rfl;all_goals(intro hc;first|(cases hc;done)|(try simp only at hc)))|((with_reducible refine Q0t ?_ ?_);(apply Q1f);(focus(repeat(first|exact Sims.nil|((apply Sims.cons);(focus(first|((apply Ef.sim_row);assumption)|exact Ef.sim_refl _))))));kernel_rfl;(with_reducible refine hR _ ?_);clear hR R)|((first|((with_reducible apply Q0r);rfl;rfl;rfl;rfl)|((with_reducible apply Q0n);rfl;rfl;rfl)|((first|((with_reducible apply Q0u);rfl;rfl)|((with_reducible apply Q0s);rfl;rfl;rfl;rfl;rfl));(simp(disch:=omega) only[rdE,rdOf,go_sem,W,Q0a];rfl);(intro τ hA hQ hN;((try simp only[Q1h,Op.operands,Call.operands,go_sem,W,Q0a,go_sem,List.mem_cons,List.not_mem_nil,forall_eq_or_imp,forall_eq,List.append_toArray,Option.toArray] at hA);(try simp only[go_sem,W,Q0a,List.mem_cons,List.not_mem_nil,forall_eq_or_imp,forall_eq] at hQ hN);(first|(revert hA;intro hA)|have hA:=trivial);(first|(revert hQ;intro hQ)|have hQ:=trivial);(first|(revert hN;intro hN)|have hN:=trivial);simp(disch:=omega) only[go_sem,W,Q0a,go_sem,hA,hQ,hN];(repeat(refine ndI (by first|assumption|omega|rfl) ?_));(first|apply Q1b|apply Q1a|apply Q0w)))));(simp(disch:=omega) only[St.eff,setO,Q0q,go_sem,W,Q0a]))|((with_reducible apply Q0o);rfl;rfl;rfl;all_goals intro hb;all_goals(simp(disch:=omega) only[St.eff,setO,Q0q,go_sem,W,Q0a]))|((with_reducible refine Q0p ?_ ?_ ?_ ?_);kernel_rfl;kernel_rfl;(simp[Q0m,Q1j,St.free,Q1i,AV.refsL,AV.refs,Q0a]);intro R hR)))))
     all_goals exact fin _ (St.le_of (by simp[leT]) (by simp[leH,hget]))
 · have k1:decide ((i:Int)<(b:Int))=false:=decide_eq_false (by omega)
   have hr2:res=d:=by
    rw[←hr]
    unfold Sort.insOuter
    rw[if_neg hib]
   subst hr2
   (repeat(any_goals(first|((with_reducible refine Q0g ?_ ?_);rfl;intro K hK;simp only[go_sem,k1];((repeat(refine ndI (by first|assumption|omega|rfl) ?_));refine hK _ ?_;clear hK K))|(with_reducible first|(refine Q0i ?_;refine hR _ ?_;clear hR R)|((first|refine Q0h ?_|refine Q0c ?_);intro Ψ hΨ hΨ')|(refine Q0b ?_;intro R hR)|(refine hΨ _ ?_;clear hΨ hΨ' Ψ)|refine Q0d ?_|refine Q0j ?_|refine Q0e ?_)|((with_reducible refine hΨ' _ _ ?_ ?_);(focus(simp;done));clear hΨ hΨ' Ψ)|((with_reducible apply Q0f);rfl;rfl;all_goals(intro hc;first|(cases hc;done)|(try simp only at hc)))|((with_reducible refine Q0t ?_ ?_);kernel_rfl;(with_reducible refine hR _ ?_);clear hR R)|((first|((with_reducible apply Q0r);rfl;rfl;rfl;rfl)|((with_reducible apply Q0n);rfl;rfl;rfl)|((first|((with_reducible apply Q0u);rfl;rfl)|((with_reducible apply Q0s);rfl;rfl;rfl;rfl;rfl));(simp only[rdE,rdOf,go_sem,k1];rfl);(intro τ hA hQ hN;((try simp only[Q1h,Op.operands,Call.operands,go_sem,k1,go_sem,List.mem_cons,List.not_mem_nil,forall_eq_or_imp,forall_eq,List.append_toArray,Option.toArray] at hA);(try simp only[go_sem,k1,List.mem_cons,List.not_mem_nil,forall_eq_or_imp,forall_eq] at hQ hN);(first|(revert hA;intro hA)|have hA:=trivial);(first|(revert hQ;intro hQ)|have hQ:=trivial);(first|(revert hN;intro hN)|have hN:=trivial);simp only[go_sem,k1,go_sem,hA,hQ,hN];(repeat(refine ndI (by first|assumption|omega|rfl) ?_));(first|apply Q1b|apply Q1a|apply Q0w)))));(simp only[St.eff,setO,Q0q,go_sem,k1]))|((with_reducible apply Q0o);rfl;rfl;rfl;all_goals intro hb;all_goals(simp only[St.eff,setO,Q0q,go_sem,k1]))|((with_reducible refine Q0p ?_ ?_ ?_ ?_);kernel_rfl;kernel_rfl;(first|kernel_rfl|simp[Q0m,Q1j,St.free,Q1i,AV.refsL,AV.refs]);intro R hR))))
   all_goals(refine⟨by simp,⟨_,?_,AV.le_refl _⟩,Q0y (by simp[leH,hget])⟩;simp only[Try.results64,resL,ldA,Q1o,go_sem])
end
section
open Go.RowKit
open Nat (reduceBEq)
attribute [-go_sem] IntKind.bits
set_option maxRecDepth 20000
set_option maxHeartbeats 2000000
attribute [local simp] Q0l Q0a Q0k
theorem X0b{hi f r:Nat}{d:Array Int}(h:2*r+1≥hi):Sort.siftDown ltI hi f r d=d:=by
 unfold Sort.siftDown
 rw[dif_pos h]
def Ch(hi f r c:Nat)(d:Array Int):Prop:=(2*r+2<hi∧d[f+(2*r+1)]! < d[f+(2*r+2)]!∧c=2*r+2)∨(2*r+1<hi∧¬(2*r+2<hi∧d[f+(2*r+1)]! < d[f+(2*r+2)]!)∧c=2*r+1)
theorem X0a{hi f r c:Nat}{d:Array Int}(h:Ch hi f r c d):Sort.siftDown ltI hi f r d=if d[f+r]! < d[f+c]! then Sort.siftDown ltI hi f c (Sort.swp d (f+r) (f+c)) else d:=by
 conv=>lhs;unfold Sort.siftDown
 rcases h with⟨h1,h2,rfl⟩|⟨h1,h2,rfl⟩
 · rw[dif_neg (by omega),if_pos (by simp only[ltI,Bool.and_eq_true,decide_eq_true_eq];exact⟨by omega,h2⟩)]
   by_cases h3:d[f+r]! < d[f+(2*r+2)]!
   · rw[if_neg (by simp only[ltI,Bool.not_eq_true',decide_eq_false_iff_not];exact fun h=>h h3),dif_pos h1,if_pos h3]
   · rw[if_pos (by simp only[ltI,Bool.not_eq_true',decide_eq_false_iff_not];exact h3),if_neg h3]
 · rw[dif_neg (by omega),if_neg (by simp only[ltI,Bool.and_eq_true,decide_eq_true_eq];exact fun h=>h2 ⟨by omega,h.2⟩)]
   by_cases h3:d[f+r]! < d[f+(2*r+1)]!
   · rw[if_neg (by simp only[ltI,Bool.not_eq_true',decide_eq_false_iff_not];exact fun h=>h h3),if_pos h3]
   · rw[if_pos (by simp only[ltI,Bool.not_eq_true',decide_eq_false_iff_not];exact h3),if_neg h3]
abbrev stSi(d:Array Int)(n lo hi f r:Nat):St:=⟨[.row 1000 adT 1 n,vi .i64 (lo:Int),vi .i64 (hi:Int),vi .i64 (f:Int),.any,.any,.any,.any,vi .i64 (r:Int),.any,.any,.any,.any,.any,.any,.any,.any,.any,.any,.any,.any,.any,.any,.any,.any,.any,.any,.any,.any,.any,.any,.any,.any,.any,.any,.any,.any,.any,.any,.any,.any,.any,.any,.any,.any,.any,.any,.any,.any,.any,.any,.any,.any,.any,.any,.any,.any,.any,.any,.any,.any,.any,.any,.any,.any,.any,.any,.any,.any,.any,.any,.any,.any,.any,.any,.any],[(1000,rI d)]⟩
theorem sift_fn(n lo hi f:Nat)(hlo:lo≤n)(hf:f+hi≤n)(hn:n≤1000000)(d0:Array Int)(h0:d0.size=n):Fn Try.prog 84 [.row 1000 adT 1 n,vi .i64 (lo:Int),vi .i64 (hi:Int),vi .i64 (f:Int)] [(1000,rI d0)] (.tup []) [(1000,rI (Sort.siftDown ltI hi f lo d0))]:=by
 obtain⟨res,hres⟩:∃res,Sort.siftDown ltI hi f lo d0=res:=⟨_,rfl⟩
 rw[hres]
 (refine Q1q Try.func84 rfl (by rfl) ?_;simp only[Try.ntmps84,List.length_cons,List.length_nil,Nat.reduceAdd,Nat.reduceSub,List.replicate,List.cons_append,List.nil_append])
 (repeat(any_goals(first|((with_reducible refine Q0g ?_ ?_);rfl;intro K hK;simp(disch:=omega) only[go_sem];((repeat(refine ndI (by first|assumption|omega|rfl) ?_));refine hK _ ?_;clear hK K))|(with_reducible first|(refine Q0i ?_;refine hR _ ?_;clear hR R)|((first|refine Q0h ?_|refine Q0c ?_);intro Ψ hΨ hΨ')|(refine Q0b ?_;intro R hR)|(refine hΨ _ ?_;clear hΨ hΨ' Ψ)|refine Q0d ?_|refine Q0j ?_|refine Q0e ?_)|((with_reducible refine hΨ' _ _ ?_ ?_);(focus(simp;done));clear hΨ hΨ' Ψ)|((with_reducible apply Q0f);rfl;rfl;all_goals(intro hc;first|(cases hc;done)|(try simp only at hc)))|((with_reducible refine Q0t ?_ ?_);kernel_rfl;(with_reducible refine hR _ ?_);clear hR R)|((first|((with_reducible apply Q0r);rfl;rfl;rfl;rfl)|((with_reducible apply Q0n);rfl;rfl;rfl)|((first|((with_reducible apply Q0u);rfl;rfl)|((with_reducible apply Q0s);rfl;rfl;rfl;rfl;rfl));(simp(disch:=omega) only[rdE,rdOf,go_sem];rfl);(intro τ hA hQ hN;((try simp only[Q1h,Op.operands,Call.operands,go_sem,List.mem_cons,List.not_mem_nil,forall_eq_or_imp,forall_eq,List.append_toArray,Option.toArray] at hA);(try simp only[go_sem,List.mem_cons,List.not_mem_nil,forall_eq_or_imp,forall_eq] at hQ hN);(first|(revert hA;intro hA)|have hA:=trivial);(first|(revert hQ;intro hQ)|have hQ:=trivial);(first|(revert hN;intro hN)|have hN:=trivial);simp(disch:=omega) only[go_sem,hA,hQ,hN];(repeat(refine ndI (by first|assumption|omega|rfl) ?_));(first|apply Q1b|apply Q1a|apply Q0w)))));(simp(disch:=omega) only[St.eff,setO,Q0q,go_sem]))|((with_reducible apply Q0o);rfl;rfl;rfl;all_goals intro hb;all_goals(simp(disch:=omega) only[St.eff,setO,Q0q,go_sem]))|((with_reducible refine Q0p ?_ ?_ ?_ ?_);kernel_rfl;kernel_rfl;(first|kernel_rfl|simp[Q0m,Q1j,St.free,Q1i,AV.refsL,AV.refs]);intro R hR))))
 refine Q2v (α:={q:Nat×Array Int // q.1≤n∧q.2.size=n∧Sort.siftDown ltI hi f q.1 q.2=res}) (fun q=>stSi q.1.2 n lo hi f q.1.1) (fun q=>n-q.1.1) ⟨(lo,d0),hlo,h0,hres⟩ (St.le_of (by simp[leT]) (by simp[leH,hget])) ?_
 rintro ⟨⟨r,d⟩,hr1,hs,hr⟩ Ψ hΨ hΨ'
 (try dsimp only at hr1 hs hr hΨ ⊢)
 clear hres h0
 have x0:=Q1z d
 rw[hs] at x0
 by_cases hc0:2*r+1≥hi
 · have w2:2*(r:Int)+1=((2*r+1:Nat):Int):=by omega
   have k1:decide (((2*r+1:Nat):Int)≥(hi:Int))=true:=decide_eq_true (by omega)
   have hr2:res=d:=by
    rw[←hr]
    exact X0b hc0
   subst hr2
   (have W:=ndI w2 (ndI k1 @wrI);(repeat(any_goals(first|((with_reducible refine Q0g ?_ ?_);rfl;intro K hK;simp(disch:=omega) only[go_sem,W];((repeat(refine ndI (by first|assumption|omega|rfl) ?_));refine hK _ ?_;clear hK K))|(with_reducible first|(refine Q0i ?_;refine hR _ ?_;clear hR R)|((first|refine Q0h ?_|refine Q0c ?_);intro Ψ hΨ hΨ')|(refine Q0b ?_;intro R hR)|(refine hΨ _ ?_;clear hΨ hΨ' Ψ)|refine Q0d ?_|refine Q0j ?_|refine Q0e ?_)|((with_reducible refine hΨ' _ _ ?_ ?_);(focus(simp;done));clear hΨ hΨ' Ψ)|((with_reducible apply Q0f);rfl;rfl;all_goals(intro hc;first|(cases hc;done)|(try simp only at hc)))|((with_reducible refine Q0t ?_ ?_);kernel_rfl;(with_reducible refine hR _ ?_);clear hR R)|((first|((with_reducible apply Q0r);rfl;rfl;rfl;rfl)|((with_reducible apply Q0n);rfl;rfl;rfl)|((first|((with_reducible apply Q0u);rfl;rfl)|((with_reducible apply Q0s);rfl;rfl;rfl;rfl;rfl));(simp(disch:=omega) only[rdE,rdOf,go_sem,W];rfl);(intro τ hA hQ hN;((try simp only[Q1h,Op.operands,Call.operands,go_sem,W,go_sem,List.mem_cons,List.not_mem_nil,forall_eq_or_imp,forall_eq,List.append_toArray,Option.toArray] at hA);(try simp only[go_sem,W,List.mem_cons,List.not_mem_nil,forall_eq_or_imp,forall_eq] at hQ hN);(first|(revert hA;intro hA)|have hA:=trivial);(first|(revert hQ;intro hQ)|have hQ:=trivial);(first|(revert hN;intro hN)|have hN:=trivial);simp(disch:=omega) only[go_sem,W,go_sem,hA,hQ,hN];(repeat(refine ndI (by first|assumption|omega|rfl) ?_));(first|apply Q1b|apply Q1a|apply Q0w)))));(simp(disch:=omega) only[St.eff,setO,Q0q,go_sem,W]))|((with_reducible apply Q0o);rfl;rfl;rfl;all_goals intro hb;all_goals(simp(disch:=omega) only[St.eff,setO,Q0q,go_sem,W]))|((with_reducible refine Q0p ?_ ?_ ?_ ?_);kernel_rfl;kernel_rfl;(first|kernel_rfl|simp[Q0m,Q1j,St.free,Q1i,AV.refsL,AV.refs]);intro R hR)))))
   all_goals(refine⟨by simp,⟨_,?_,AV.le_refl _⟩,Q0y (by simp[leH,hget])⟩;simp only[Try.results84,resL,ldA,Q1o,go_sem])
 have k1:decide (((2*r+1:Nat):Int)≥(hi:Int))=false:=decide_eq_false (by omega)
 have w2:2*(r:Int)+1=((2*r+1:Nat):Int):=by omega
 have w3:(f:Int)+((2*r+1:Nat):Int)=((f+(2*r+1):Nat):Int):=by omega
 have w4:((2*r+1:Nat):Int)+1=((2*r+2:Nat):Int):=by omega
 have w5:((f+(2*r+1):Nat):Int)+1=((f+(2*r+2):Nat):Int):=by omega
 have w6:(f:Int)+(r:Int)=((f+r:Nat):Int):=by omega
 have w7:(f:Int)+((2*r+2:Nat):Int)=((f+(2*r+2):Nat):Int):=by omega
 have x1:=Q2o d (j:=f+(2*r+1)) (by omega)
 have x3:=Q2o d (j:=f+r) (by omega)
 obtain⟨p,hp⟩:∃p,f+(2*r+1)=p:=⟨_,rfl⟩
 obtain⟨p2,hp2⟩:∃p,f+(2*r+2)=p:=⟨_,rfl⟩
 obtain⟨t,ht⟩:∃p,f+r=p:=⟨_,rfl⟩
 obtain⟨c,hc⟩:∃c,2*r+1=c:=⟨_,rfl⟩
 obtain⟨c2,hc2⟩:∃c,2*r+2=c:=⟨_,rfl⟩
 rw[hp] at x1 w3 w5
 rw[ht] at x3 w6
 rw[hp2] at w5 w7
 rw[hc] at k1 w2 w3 w4
 rw[hc2] at w4 w7
 by_cases hc9:c2<hi
 · have k2:decide ((c2:Int)<(hi:Int))=true:=decide_eq_true (by omega)
   have x2:=Q2o d (j:=p2) (by omega)
   have lf:=Q3a d[p]! d[p2]!
   by_cases hl1:d[p]! < d[p2]!
   · have c4:decide (d[p]! < d[p2]!)=true:=decide_eq_true hl1
     rw[c4] at lf
     have ch:Ch hi f r c2 d:=.inl ⟨by omega,by rw[hp,hp2];exact hl1,hc2.symm⟩
     have eq0:f+c2=p2:=by omega
     have eq:=X0a ch
     rw[hr,ht,eq0] at eq
     obtain⟨s1,s2⟩:=Q3p d (i:=t) (j:=p2) (by omega) (by omega)
     have ss:=Q2m d t p2
     have lg:=Q3a d[t]! d[p2]!
     by_cases hlt:d[t]! < d[p2]!
     · have c3:decide (d[t]! < d[p2]!)=true:=decide_eq_true hlt
       rw[c3] at lg
       rw[if_pos hlt] at eq
       have hΨ1:∀σ':St,σ'.le (stSi (Sort.swp d t p2) n lo hi f c2)→Ψ .normal σ':=fun σ' h=>hΨ σ' ⟨(c2,Sort.swp d t p2),by dsimp only;omega,by rw[ss];exact hs,eq.symm⟩ (by dsimp only;omega) h
       clear hΨ hr eq ch
       have x4:(rI (d.setIfInBounds t d[p2]!)).length=n:=by rw[Q1z,Array.size_setIfInBounds];exact hs
       generalize d.setIfInBounds t d[p2]! = d1 at s1 s2 x4
       generalize d[t]! = zt at *
       generalize d[p]! = zp at *
       generalize d[p2]! = zq at *
       (have W:=ndI k1 (ndI k2 (ndI w2 (ndI w3 (ndI w4 (ndI w5 (ndI w6 (ndI w7 (ndI x0 (ndI x1 (ndI x3 (ndI x2 (ndI x4 (ndI s1 (ndI s2 @wrI))))))))))))));(repeat(any_goals(first|((with_reducible refine Q0g ?_ ?_);rfl;intro K hK;simp(disch:=omega) only[go_sem,W,Q0a,Nat.mul_one];((repeat(refine ndI (by first|assumption|omega|rfl) ?_));refine hK _ ?_;clear hK K))|(with_reducible first|(refine Q0i ?_;refine hR _ ?_;clear hR R)|((first|refine Q0h ?_|refine Q0c ?_);intro Ψ hΨ hΨ')|(refine Q0b ?_;intro R hR)|(refine hΨ _ ?_;clear hΨ hΨ' Ψ)|refine Q0d ?_|refine Q0j ?_|refine Q0e ?_)|((with_reducible refine hΨ' _ _ ?_ ?_);(focus(simp;done));clear hΨ hΨ' Ψ)|((with_reducible apply Q0f);rfl;rfl;all_goals(intro hc;first|(cases hc;done)|(try simp only at hc)))|((with_reducible refine Q0t ?_ ?_);(apply Q1f);(focus(repeat(first|exact Sims.nil|((apply Sims.cons);(focus(first|((apply Ef.sim_row);assumption)|exact Ef.sim_refl _))))));kernel_rfl;(with_reducible refine hR _ ?_);clear hR R)|((first|((with_reducible apply Q0r);rfl;rfl;rfl;rfl)|((with_reducible apply Q0n);rfl;rfl;rfl)|((first|((with_reducible apply Q1m);rfl;rfl)|((with_reducible apply Q1p);rfl;rfl;rfl;rfl;rfl));(first|((apply Q1g (lf);rfl;rfl;rfl;rfl;exact Try.func70);kernel_rfl;rfl;(focus((simp(disch:=omega) only[go_sem,W,Q0a,Nat.mul_one]);(try rfl);done));(first|rfl|simp[AV.inNL,AV.inN]))|((apply Q1g (lg);rfl;rfl;rfl;rfl;exact Try.func70);kernel_rfl;rfl;(focus((simp(disch:=omega) only[go_sem,W,Q0a,Nat.mul_one]);(try rfl);done));(first|rfl|simp[AV.inNL,AV.inN]))))|((first|((with_reducible apply Q0u);rfl;rfl)|((with_reducible apply Q0s);rfl;rfl;rfl;rfl;rfl));(simp(disch:=omega) only[rdE,rdOf,go_sem,W,Q0a,Nat.mul_one];rfl);(intro τ hA hQ hN;((try simp only[Q1h,Op.operands,Call.operands,go_sem,W,Q0a,Nat.mul_one,go_sem,List.mem_cons,List.not_mem_nil,forall_eq_or_imp,forall_eq,List.append_toArray,Option.toArray] at hA);(try simp only[go_sem,W,Q0a,Nat.mul_one,List.mem_cons,List.not_mem_nil,forall_eq_or_imp,forall_eq] at hQ hN);(first|(revert hA;intro hA)|have hA:=trivial);(first|(revert hQ;intro hQ)|have hQ:=trivial);(first|(revert hN;intro hN)|have hN:=trivial);simp(disch:=omega) only[go_sem,W,Q0a,Nat.mul_one,go_sem,hA,hQ,hN];(repeat(refine ndI (by first|assumption|omega|rfl) ?_));(first|apply Q1b|apply Q1a|apply Q0w)))));(simp(disch:=omega) only[St.eff,setO,Q0q,go_sem,W,Q0a,Nat.mul_one]))|((with_reducible apply Q0o);rfl;rfl;rfl;all_goals intro hb;all_goals(simp(disch:=omega) only[St.eff,setO,Q0q,go_sem,W,Q0a,Nat.mul_one]))|((with_reducible refine Q0p ?_ ?_ ?_ ?_);kernel_rfl;kernel_rfl;(simp[Q0m,Q1j,St.free,Q1i,AV.refsL,AV.refs,Q0a]);intro R hR)))))
       all_goals exact hΨ1 _ (St.le_of (by simp[leT]) (by simp[leH,hget]))
     · have c3:decide (d[t]! < d[p2]!)=false:=decide_eq_false hlt
       rw[c3] at lg
       rw[if_neg hlt] at eq
       subst eq
       clear hr ch s1 s2
       generalize res[t]! = zt at *
       generalize res[p]! = zp at *
       generalize res[p2]! = zq at *
       (have W:=ndI k1 (ndI k2 (ndI w2 (ndI w3 (ndI w4 (ndI w5 (ndI w6 (ndI w7 (ndI x0 (ndI x1 (ndI x3 (ndI x2 @wrI)))))))))));(repeat(any_goals(first|((with_reducible refine Q0g ?_ ?_);rfl;intro K hK;simp(disch:=omega) only[go_sem,W,Q0a,Nat.mul_one];((repeat(refine ndI (by first|assumption|omega|rfl) ?_));refine hK _ ?_;clear hK K))|(with_reducible first|(refine Q0i ?_;refine hR _ ?_;clear hR R)|((first|refine Q0h ?_|refine Q0c ?_);intro Ψ hΨ hΨ')|(refine Q0b ?_;intro R hR)|(refine hΨ _ ?_;clear hΨ hΨ' Ψ)|refine Q0d ?_|refine Q0j ?_|refine Q0e ?_)|((with_reducible refine hΨ' _ _ ?_ ?_);(focus(simp;done));clear hΨ hΨ' Ψ)|((with_reducible apply Q0f);rfl;rfl;all_goals(intro hc;first|(cases hc;done)|(try simp only at hc)))|((with_reducible refine Q0t ?_ ?_);(apply Q1f);(focus(repeat(first|exact Sims.nil|((apply Sims.cons);(focus(first|((apply Ef.sim_row);assumption)|exact Ef.sim_refl _))))));kernel_rfl;(with_reducible refine hR _ ?_);clear hR R)|((first|((with_reducible apply Q0r);rfl;rfl;rfl;rfl)|((with_reducible apply Q0n);rfl;rfl;rfl)|((first|((with_reducible apply Q1m);rfl;rfl)|((with_reducible apply Q1p);rfl;rfl;rfl;rfl;rfl));(first|((apply Q1g (lf);rfl;rfl;rfl;rfl;exact Try.func70);kernel_rfl;rfl;(focus((simp(disch:=omega) only[go_sem,W,Q0a,Nat.mul_one]);(try rfl);done));(first|rfl|simp[AV.inNL,AV.inN]))|((apply Q1g (lg);rfl;rfl;rfl;rfl;exact Try.func70);kernel_rfl;rfl;(focus((simp(disch:=omega) only[go_sem,W,Q0a,Nat.mul_one]);(try rfl);done));(first|rfl|simp[AV.inNL,AV.inN]))))|((first|((with_reducible apply Q0u);rfl;rfl)|((with_reducible apply Q0s);rfl;rfl;rfl;rfl;rfl));(simp(disch:=omega) only[rdE,rdOf,go_sem,W,Q0a,Nat.mul_one];rfl);(intro τ hA hQ hN;((try simp only[Q1h,Op.operands,Call.operands,go_sem,W,Q0a,Nat.mul_one,go_sem,List.mem_cons,List.not_mem_nil,forall_eq_or_imp,forall_eq,List.append_toArray,Option.toArray] at hA);(try simp only[go_sem,W,Q0a,Nat.mul_one,List.mem_cons,List.not_mem_nil,forall_eq_or_imp,forall_eq] at hQ hN);(first|(revert hA;intro hA)|have hA:=trivial);(first|(revert hQ;intro hQ)|have hQ:=trivial);(first|(revert hN;intro hN)|have hN:=trivial);simp(disch:=omega) only[go_sem,W,Q0a,Nat.mul_one,go_sem,hA,hQ,hN];(repeat(refine ndI (by first|assumption|omega|rfl) ?_));(first|apply Q1b|apply Q1a|apply Q0w)))));(simp(disch:=omega) only[St.eff,setO,Q0q,go_sem,W,Q0a,Nat.mul_one]))|((with_reducible apply Q0o);rfl;rfl;rfl;all_goals intro hb;all_goals(simp(disch:=omega) only[St.eff,setO,Q0q,go_sem,W,Q0a,Nat.mul_one]))|((with_reducible refine Q0p ?_ ?_ ?_ ?_);kernel_rfl;kernel_rfl;(simp[Q0m,Q1j,St.free,Q1i,AV.refsL,AV.refs,Q0a]);intro R hR)))))
       all_goals(refine⟨by simp,⟨_,?_,AV.le_refl _⟩,Q0y (by simp[leH,hget])⟩;simp only[Try.results84,resL,ldA,Q1o,go_sem])
   · have c4:decide (d[p]! < d[p2]!)=false:=decide_eq_false hl1
     rw[c4] at lf
     have ch:Ch hi f r c d:=.inr ⟨by omega,by rw[hp,hp2];exact fun h=>hl1 h.2,hc.symm⟩
     have eq0:f+c=p:=by omega
     have eq:=X0a ch
     rw[hr,ht,eq0] at eq
     obtain⟨s1,s2⟩:=Q3p d (i:=t) (j:=p) (by omega) (by omega)
     have ss:=Q2m d t p
     have lg:=Q3a d[t]! d[p]!
     by_cases hlt:d[t]! < d[p]!
     · have c3:decide (d[t]! < d[p]!)=true:=decide_eq_true hlt
       rw[c3] at lg
       rw[if_pos hlt] at eq
       have hΨ1:∀σ':St,σ'.le (stSi (Sort.swp d t p) n lo hi f c)→Ψ .normal σ':=fun σ' h=>hΨ σ' ⟨(c,Sort.swp d t p),by dsimp only;omega,by rw[ss];exact hs,eq.symm⟩ (by dsimp only;omega) h
       clear hΨ hr eq ch
       have x4:(rI (d.setIfInBounds t d[p]!)).length=n:=by rw[Q1z,Array.size_setIfInBounds];exact hs
       generalize d.setIfInBounds t d[p]! = d1 at s1 s2 x4
       generalize d[t]! = zt at *
       generalize d[p]! = zp at *
       generalize d[p2]! = zq at *
       (have W:=ndI k1 (ndI k2 (ndI w2 (ndI w3 (ndI w4 (ndI w5 (ndI w6 (ndI w7 (ndI x0 (ndI x1 (ndI x3 (ndI x2 (ndI x4 (ndI s1 (ndI s2 @wrI))))))))))))));(repeat(any_goals(first|((with_reducible refine Q0g ?_ ?_);rfl;intro K hK;simp(disch:=omega) only[go_sem,W,Q0a,Nat.mul_one];((repeat(refine ndI (by first|assumption|omega|rfl) ?_));refine hK _ ?_;clear hK K))|(with_reducible first|(refine Q0i ?_;refine hR _ ?_;clear hR R)|((first|refine Q0h ?_|refine Q0c ?_);intro Ψ hΨ hΨ')|(refine Q0b ?_;intro R hR)|(refine hΨ _ ?_;clear hΨ hΨ' Ψ)|refine Q0d ?_|refine Q0j ?_|refine Q0e ?_)|((with_reducible refine hΨ' _ _ ?_ ?_);(focus(simp;done));clear hΨ hΨ' Ψ)|((with_reducible apply Q0f);rfl;rfl;all_goals(intro hc;first|(cases hc;done)|(try simp only at hc)))|((with_reducible refine Q0t ?_ ?_);(apply Q1f);(focus(repeat(first|exact Sims.nil|((apply Sims.cons);(focus(first|((apply Ef.sim_row);assumption)|exact Ef.sim_refl _))))));kernel_rfl;(with_reducible refine hR _ ?_);clear hR R)|((first|((with_reducible apply Q0r);rfl;rfl;rfl;rfl)|((with_reducible apply Q0n);rfl;rfl;rfl)|((first|((with_reducible apply Q1m);rfl;rfl)|((with_reducible apply Q1p);rfl;rfl;rfl;rfl;rfl));(first|((apply Q1g (lf);rfl;rfl;rfl;rfl;exact Try.func70);kernel_rfl;rfl;(focus((simp(disch:=omega) only[go_sem,W,Q0a,Nat.mul_one]);(try rfl);done));(first|rfl|simp[AV.inNL,AV.inN]))|((apply Q1g (lg);rfl;rfl;rfl;rfl;exact Try.func70);kernel_rfl;rfl;(focus((simp(disch:=omega) only[go_sem,W,Q0a,Nat.mul_one]);(try rfl);done));(first|rfl|simp[AV.inNL,AV.inN]))))|((first|((with_reducible apply Q0u);rfl;rfl)|((with_reducible apply Q0s);rfl;rfl;rfl;rfl;rfl));(simp(disch:=omega) only[rdE,rdOf,go_sem,W,Q0a,Nat.mul_one];rfl);(intro τ hA hQ hN;((try simp only[Q1h,Op.operands,Call.operands,go_sem,W,Q0a,Nat.mul_one,go_sem,List.mem_cons,List.not_mem_nil,forall_eq_or_imp,forall_eq,List.append_toArray,Option.toArray] at hA);(try simp only[go_sem,W,Q0a,Nat.mul_one,List.mem_cons,List.not_mem_nil,forall_eq_or_imp,forall_eq] at hQ hN);(first|(revert hA;intro hA)|have hA:=trivial);(first|(revert hQ;intro hQ)|have hQ:=trivial);(first|(revert hN;intro hN)|have hN:=trivial);simp(disch:=omega) only[go_sem,W,Q0a,Nat.mul_one,go_sem,hA,hQ,hN];(repeat(refine ndI (by first|assumption|omega|rfl) ?_));(first|apply Q1b|apply Q1a|apply Q0w)))));(simp(disch:=omega) only[St.eff,setO,Q0q,go_sem,W,Q0a,Nat.mul_one]))|((with_reducible apply Q0o);rfl;rfl;rfl;all_goals intro hb;all_goals(simp(disch:=omega) only[St.eff,setO,Q0q,go_sem,W,Q0a,Nat.mul_one]))|((with_reducible refine Q0p ?_ ?_ ?_ ?_);kernel_rfl;kernel_rfl;(simp[Q0m,Q1j,St.free,Q1i,AV.refsL,AV.refs,Q0a]);intro R hR)))))
       all_goals exact hΨ1 _ (St.le_of (by simp[leT]) (by simp[leH,hget]))
     · have c3:decide (d[t]! < d[p]!)=false:=decide_eq_false hlt
       rw[c3] at lg
       rw[if_neg hlt] at eq
       subst eq
       clear hr ch s1 s2
       generalize res[t]! = zt at *
       generalize res[p]! = zp at *
       generalize res[p2]! = zq at *
       (have W:=ndI k1 (ndI k2 (ndI w2 (ndI w3 (ndI w4 (ndI w5 (ndI w6 (ndI w7 (ndI x0 (ndI x1 (ndI x3 (ndI x2 @wrI)))))))))));(repeat(any_goals(first|((with_reducible refine Q0g ?_ ?_);rfl;intro K hK;simp(disch:=omega) only[go_sem,W,Q0a,Nat.mul_one];((repeat(refine ndI (by first|assumption|omega|rfl) ?_));refine hK _ ?_;clear hK K))|(with_reducible first|(refine Q0i ?_;refine hR _ ?_;clear hR R)|((first|refine Q0h ?_|refine Q0c ?_);intro Ψ hΨ hΨ')|(refine Q0b ?_;intro R hR)|(refine hΨ _ ?_;clear hΨ hΨ' Ψ)|refine Q0d ?_|refine Q0j ?_|refine Q0e ?_)|((with_reducible refine hΨ' _ _ ?_ ?_);(focus(simp;done));clear hΨ hΨ' Ψ)|((with_reducible apply Q0f);rfl;rfl;all_goals(intro hc;first|(cases hc;done)|(try simp only at hc)))|((with_reducible refine Q0t ?_ ?_);(apply Q1f);(focus(repeat(first|exact Sims.nil|((apply Sims.cons);(focus(first|((apply Ef.sim_row);assumption)|exact Ef.sim_refl _))))));kernel_rfl;(with_reducible refine hR _ ?_);clear hR R)|((first|((with_reducible apply Q0r);rfl;rfl;rfl;rfl)|((with_reducible apply Q0n);rfl;rfl;rfl)|((first|((with_reducible apply Q1m);rfl;rfl)|((with_reducible apply Q1p);rfl;rfl;rfl;rfl;rfl));(first|((apply Q1g (lf);rfl;rfl;rfl;rfl;exact Try.func70);kernel_rfl;rfl;(focus((simp(disch:=omega) only[go_sem,W,Q0a,Nat.mul_one]);(try rfl);done));(first|rfl|simp[AV.inNL,AV.inN]))|((apply Q1g (lg);rfl;rfl;rfl;rfl;exact Try.func70);kernel_rfl;rfl;(focus((simp(disch:=omega) only[go_sem,W,Q0a,Nat.mul_one]);(try rfl);done));(first|rfl|simp[AV.inNL,AV.inN]))))|((first|((with_reducible apply Q0u);rfl;rfl)|((with_reducible apply Q0s);rfl;rfl;rfl;rfl;rfl));(simp(disch:=omega) only[rdE,rdOf,go_sem,W,Q0a,Nat.mul_one];rfl);(intro τ hA hQ hN;((try simp only[Q1h,Op.operands,Call.operands,go_sem,W,Q0a,Nat.mul_one,go_sem,List.mem_cons,List.not_mem_nil,forall_eq_or_imp,forall_eq,List.append_toArray,Option.toArray] at hA);(try simp only[go_sem,W,Q0a,Nat.mul_one,List.mem_cons,List.not_mem_nil,forall_eq_or_imp,forall_eq] at hQ hN);(first|(revert hA;intro hA)|have hA:=trivial);(first|(revert hQ;intro hQ)|have hQ:=trivial);(first|(revert hN;intro hN)|have hN:=trivial);simp(disch:=omega) only[go_sem,W,Q0a,Nat.mul_one,go_sem,hA,hQ,hN];(repeat(refine ndI (by first|assumption|omega|rfl) ?_));(first|apply Q1b|apply Q1a|apply Q0w)))));(simp(disch:=omega) only[St.eff,setO,Q0q,go_sem,W,Q0a,Nat.mul_one]))|((with_reducible apply Q0o);rfl;rfl;rfl;all_goals intro hb;all_goals(simp(disch:=omega) only[St.eff,setO,Q0q,go_sem,W,Q0a,Nat.mul_one]))|((with_reducible refine Q0p ?_ ?_ ?_ ?_);kernel_rfl;kernel_rfl;(simp[Q0m,Q1j,St.free,Q1i,AV.refsL,AV.refs,Q0a]);intro R hR)))))
       all_goals(refine⟨by simp,⟨_,?_,AV.le_refl _⟩,Q0y (by simp[leH,hget])⟩;simp only[Try.results84,resL,ldA,Q1o,go_sem])
 · have k2:decide ((c2:Int)<(hi:Int))=false:=decide_eq_false (by omega)
   have ch:Ch hi f r c d:=.inr ⟨by omega,fun h=>hc9 (by omega),hc.symm⟩
   have eq0:f+c=p:=by omega
   have eq:=X0a ch
   rw[hr,ht,eq0] at eq
   obtain⟨s1,s2⟩:=Q3p d (i:=t) (j:=p) (by omega) (by omega)
   have ss:=Q2m d t p
   have lg:=Q3a d[t]! d[p]!
   by_cases hlt:d[t]! < d[p]!
   · have c3:decide (d[t]! < d[p]!)=true:=decide_eq_true hlt
     rw[c3] at lg
     rw[if_pos hlt] at eq
     have hΨ1:∀σ':St,σ'.le (stSi (Sort.swp d t p) n lo hi f c)→Ψ .normal σ':=fun σ' h=>hΨ σ' ⟨(c,Sort.swp d t p),by dsimp only;omega,by rw[ss];exact hs,eq.symm⟩ (by dsimp only;omega) h
     clear hΨ hr eq ch
     have x4:(rI (d.setIfInBounds t d[p]!)).length=n:=by rw[Q1z,Array.size_setIfInBounds];exact hs
     generalize d.setIfInBounds t d[p]! = d1 at s1 s2 x4
     generalize d[t]! = zt at *
     generalize d[p]! = zp at *
     (have W:=ndI k1 (ndI k2 (ndI w2 (ndI w3 (ndI w4 (ndI w5 (ndI w6 (ndI w7 (ndI x0 (ndI x1 (ndI x3 (ndI x4 (ndI s1 (ndI s2 @wrI)))))))))))));(repeat(any_goals(first|((with_reducible refine Q0g ?_ ?_);rfl;intro K hK;simp(disch:=omega) only[go_sem,W,Q0a,Nat.mul_one];((repeat(refine ndI (by first|assumption|omega|rfl) ?_));refine hK _ ?_;clear hK K))|(with_reducible first|(refine Q0i ?_;refine hR _ ?_;clear hR R)|((first|refine Q0h ?_|refine Q0c ?_);intro Ψ hΨ hΨ')|(refine Q0b ?_;intro R hR)|(refine hΨ _ ?_;clear hΨ hΨ' Ψ)|refine Q0d ?_|refine Q0j ?_|refine Q0e ?_)|((with_reducible refine hΨ' _ _ ?_ ?_);(focus(simp;done));clear hΨ hΨ' Ψ)|((with_reducible apply Q0f);rfl;rfl;all_goals(intro hc;first|(cases hc;done)|(try simp only at hc)))|((with_reducible refine Q0t ?_ ?_);(apply Q1f);(focus(repeat(first|exact Sims.nil|((apply Sims.cons);(focus(first|((apply Ef.sim_row);assumption)|exact Ef.sim_refl _))))));kernel_rfl;(with_reducible refine hR _ ?_);clear hR R)|((first|((with_reducible apply Q0r);rfl;rfl;rfl;rfl)|((with_reducible apply Q0n);rfl;rfl;rfl)|((first|((with_reducible apply Q1m);rfl;rfl)|((with_reducible apply Q1p);rfl;rfl;rfl;rfl;rfl));((apply Q1g (lg);rfl;rfl;rfl;rfl;exact Try.func70);kernel_rfl;rfl;(focus((simp(disch:=omega) only[go_sem,W,Q0a,Nat.mul_one]);(try rfl);done));(first|rfl|simp[AV.inNL,AV.inN])))|((first|((with_reducible apply Q0u);rfl;rfl)|((with_reducible apply Q0s);rfl;rfl;rfl;rfl;rfl));(simp(disch:=omega) only[rdE,rdOf,go_sem,W,Q0a,Nat.mul_one];rfl);(intro τ hA hQ hN;((try simp only[Q1h,Op.operands,Call.operands,go_sem,W,Q0a,Nat.mul_one,go_sem,List.mem_cons,List.not_mem_nil,forall_eq_or_imp,forall_eq,List.append_toArray,Option.toArray] at hA);(try simp only[go_sem,W,Q0a,Nat.mul_one,List.mem_cons,List.not_mem_nil,forall_eq_or_imp,forall_eq] at hQ hN);(first|(revert hA;intro hA)|have hA:=trivial);(first|(revert hQ;intro hQ)|have hQ:=trivial);(first|(revert hN;intro hN)|have hN:=trivial);simp(disch:=omega) only[go_sem,W,Q0a,Nat.mul_one,go_sem,hA,hQ,hN];(repeat(refine ndI (by first|assumption|omega|rfl) ?_));(first|apply Q1b|apply Q1a|apply Q0w)))));(simp(disch:=omega) only[St.eff,setO,Q0q,go_sem,W,Q0a,Nat.mul_one]))|((with_reducible apply Q0o);rfl;rfl;rfl;all_goals intro hb;all_goals(simp(disch:=omega) only[St.eff,setO,Q0q,go_sem,W,Q0a,Nat.mul_one]))|((with_reducible refine Q0p ?_ ?_ ?_ ?_);kernel_rfl;kernel_rfl;(simp[Q0m,Q1j,St.free,Q1i,AV.refsL,AV.refs,Q0a]);intro R hR)))))
     all_goals exact hΨ1 _ (St.le_of (by simp[leT]) (by simp[leH,hget]))
   · have c3:decide (d[t]! < d[p]!)=false:=decide_eq_false hlt
     rw[c3] at lg
     rw[if_neg hlt] at eq
     subst eq
     clear hr ch s1 s2
     generalize res[t]! = zt at *
     generalize res[p]! = zp at *
     (have W:=ndI k1 (ndI k2 (ndI w2 (ndI w3 (ndI w4 (ndI w5 (ndI w6 (ndI w7 (ndI x0 (ndI x1 (ndI x3 @wrI))))))))));(repeat(any_goals(first|((with_reducible refine Q0g ?_ ?_);rfl;intro K hK;simp(disch:=omega) only[go_sem,W,Q0a,Nat.mul_one];((repeat(refine ndI (by first|assumption|omega|rfl) ?_));refine hK _ ?_;clear hK K))|(with_reducible first|(refine Q0i ?_;refine hR _ ?_;clear hR R)|((first|refine Q0h ?_|refine Q0c ?_);intro Ψ hΨ hΨ')|(refine Q0b ?_;intro R hR)|(refine hΨ _ ?_;clear hΨ hΨ' Ψ)|refine Q0d ?_|refine Q0j ?_|refine Q0e ?_)|((with_reducible refine hΨ' _ _ ?_ ?_);(focus(simp;done));clear hΨ hΨ' Ψ)|((with_reducible apply Q0f);rfl;rfl;all_goals(intro hc;first|(cases hc;done)|(try simp only at hc)))|((with_reducible refine Q0t ?_ ?_);(apply Q1f);(focus(repeat(first|exact Sims.nil|((apply Sims.cons);(focus(first|((apply Ef.sim_row);assumption)|exact Ef.sim_refl _))))));kernel_rfl;(with_reducible refine hR _ ?_);clear hR R)|((first|((with_reducible apply Q0r);rfl;rfl;rfl;rfl)|((with_reducible apply Q0n);rfl;rfl;rfl)|((first|((with_reducible apply Q1m);rfl;rfl)|((with_reducible apply Q1p);rfl;rfl;rfl;rfl;rfl));((apply Q1g (lg);rfl;rfl;rfl;rfl;exact Try.func70);kernel_rfl;rfl;(focus((simp(disch:=omega) only[go_sem,W,Q0a,Nat.mul_one]);(try rfl);done));(first|rfl|simp[AV.inNL,AV.inN])))|((first|((with_reducible apply Q0u);rfl;rfl)|((with_reducible apply Q0s);rfl;rfl;rfl;rfl;rfl));(simp(disch:=omega) only[rdE,rdOf,go_sem,W,Q0a,Nat.mul_one];rfl);(intro τ hA hQ hN;((try simp only[Q1h,Op.operands,Call.operands,go_sem,W,Q0a,Nat.mul_one,go_sem,List.mem_cons,List.not_mem_nil,forall_eq_or_imp,forall_eq,List.append_toArray,Option.toArray] at hA);(try simp only[go_sem,W,Q0a,Nat.mul_one,List.mem_cons,List.not_mem_nil,forall_eq_or_imp,forall_eq] at hQ hN);(first|(revert hA;intro hA)|have hA:=trivial);(first|(revert hQ;intro hQ)|have hQ:=trivial);(first|(revert hN;intro hN)|have hN:=trivial);simp(disch:=omega) only[go_sem,W,Q0a,Nat.mul_one,go_sem,hA,hQ,hN];(repeat(refine ndI (by first|assumption|omega|rfl) ?_));(first|apply Q1b|apply Q1a|apply Q0w)))));(simp(disch:=omega) only[St.eff,setO,Q0q,go_sem,W,Q0a,Nat.mul_one]))|((with_reducible apply Q0o);rfl;rfl;rfl;all_goals intro hb;all_goals(simp(disch:=omega) only[St.eff,setO,Q0q,go_sem,W,Q0a,Nat.mul_one]))|((with_reducible refine Q0p ?_ ?_ ?_ ?_);kernel_rfl;kernel_rfl;(simp[Q0m,Q1j,St.free,Q1i,AV.refsL,AV.refs,Q0a]);intro R hR)))))
     all_goals(refine⟨by simp,⟨_,?_,AV.le_refl _⟩,Q0y (by simp[leH,hget])⟩;simp only[Try.results84,resL,ldA,Q1o,go_sem])
end
section
open Go.RowKit
open Nat (reduceBEq)
attribute [-go_sem] IntKind.bits
set_option maxRecDepth 20000
set_option maxHeartbeats 2000000
attribute [local simp] Q0l Q0a Q0k
theorem X1m(hi f:Nat):∀(m r:Nat) (d:Array Int),hi-r≤m→(Sort.siftDown ltI hi f r d).size=d.size:=by
 intro m
 induction m with
 |zero=>
  intro r d h
  rw[X0b (by omega)]
 |succ m ih=>
  intro r d h
  by_cases h1:2*r+1≥hi
  · rw[X0b h1]
  · obtain⟨c,hc,hcr⟩:∃c,Ch hi f r c d∧r<c:=by
     by_cases h2:2*r+2<hi∧d[f+(2*r+1)]! < d[f+(2*r+2)]!
     · exact⟨_,.inl ⟨h2.1,h2.2,rfl⟩,by omega⟩
     · exact⟨_,.inr ⟨by omega,h2,rfl⟩,by omega⟩
    rw[X0a hc]
    split
    · rw[ih _ _ (by omega),Q2m]
    · rfl
abbrev stHa(d:Array Int)(n a b m k:Nat):St:=⟨[.row 1000 adT 1 n,vi .i64 (a:Int),vi .i64 (b:Int),.any,.any,.any,vi .i64 (a:Int),vi .i64 0,vi .i64 (m:Int),vi .i64 ((k:Int)-1),.any,.any,.any,.any,.any,.any,.any,.any,.any,.any,.any,.any,.any,.any,.any,.any,.any,.any,.any,.any,.any,.any,.any,.any,.any,.any,.any,.any,.any,.any,.any,.any,.any,.any,.any,.any,.any,.any,.any,.any,.any,.any,.any,.any,.any,.any],[(1000,rI d)]⟩
abbrev stHb(d:Array Int)(n a b m k:Nat):St:=⟨[.row 1000 adT 1 n,vi .i64 (a:Int),vi .i64 (b:Int),.any,.any,.any,vi .i64 (a:Int),vi .i64 0,vi .i64 (m:Int),.any,vi .i64 ((k:Int)-1),.any,.any,.any,.any,.any,.any,.any,.any,.any,.any,.any,.any,.any,.any,.any,.any,.any,.any,.any,.any,.any,.any,.any,.any,.any,.any,.any,.any,.any,.any,.any,.any,.any,.any,.any,.any,.any,.any,.any,.any,.any,.any,.any,.any,.any],[(1000,rI d)]⟩
theorem heap_fn(n a b:Nat)(hab:a≤b)(hb:b≤n)(hn:n≤1000000)(d0:Array Int)(h0:d0.size=n):Fn Try.prog 65 [.row 1000 adT 1 n,vi .i64 (a:Int),vi .i64 (b:Int)] [(1000,rI d0)] (.tup []) [(1000,rI (Sort.heapSort ltI d0 a b))]:=by
 obtain⟨res,hres⟩:∃res,Sort.heapSort ltI d0 a b=res:=⟨_,rfl⟩
 rw[hres]
 unfold Sort.heapSort at hres
 obtain⟨m,hm⟩:∃m,b-a=m:=⟨_,rfl⟩
 rw[hm] at hres
 obtain⟨k0,hk0⟩:∃k,(m-1)/2+1=k:=⟨_,rfl⟩
 rw[hk0] at hres
 have w1:(b:Int)-(a:Int)=(m:Int):=by omega
 have w2:((m:Int)-1).tdiv 2=(k0:Int)-1:=by
  rcases Nat.eq_zero_or_pos m with h|h
  · subst h
    rw[←hk0]
    rfl
  · obtain⟨m',rfl⟩:∃x,m=x+1:=⟨m-1,by omega⟩
    have:((m'+1:Nat):Int)-1=(m':Int):=by omega
    rw[this,←hk0,Nat.add_sub_cancel]
    show Int.tdiv (Int.ofNat m') (Int.ofNat 2)=_
    simp only[Int.tdiv]
    show((m'/2:Nat):Int)=_
    omega
 have hk1:k0≤m+1:=by omega
 (refine Q1q Try.func65 rfl (by rfl) ?_;simp only[Try.ntmps65,List.length_cons,List.length_nil,Nat.reduceAdd,Nat.reduceSub,List.replicate,List.cons_append,List.nil_append])
 (have W:=ndI w1 (ndI w2 @wrI);(repeat(any_goals(first|((with_reducible refine Q0g ?_ ?_);rfl;intro K hK;simp(disch:=omega) only[go_sem,W];((repeat(refine ndI (by first|assumption|omega|rfl) ?_));refine hK _ ?_;clear hK K))|(with_reducible first|(refine Q0i ?_;refine hR _ ?_;clear hR R)|((first|refine Q0h ?_|refine Q0c ?_);intro Ψ hΨ hΨ')|(refine Q0b ?_;intro R hR)|(refine hΨ _ ?_;clear hΨ hΨ' Ψ)|refine Q0d ?_|refine Q0j ?_|refine Q0e ?_)|((with_reducible refine hΨ' _ _ ?_ ?_);(focus(simp;done));clear hΨ hΨ' Ψ)|((with_reducible apply Q0f);rfl;rfl;all_goals(intro hc;first|(cases hc;done)|(try simp only at hc)))|((with_reducible refine Q0t ?_ ?_);kernel_rfl;(with_reducible refine hR _ ?_);clear hR R)|(((with_reducible apply Q0u);rfl;rfl;(simp(disch:=omega) only[rdE,rdOf,go_sem,W];rfl);(intro τ hA hQ hN;((try simp only[Q1h,Op.operands,Call.operands,go_sem,W,go_sem,List.mem_cons,List.not_mem_nil,forall_eq_or_imp,forall_eq,List.append_toArray,Option.toArray] at hA);(try simp only[go_sem,W,List.mem_cons,List.not_mem_nil,forall_eq_or_imp,forall_eq] at hQ hN);(first|(revert hA;intro hA)|have hA:=trivial);(first|(revert hQ;intro hQ)|have hQ:=trivial);(first|(revert hN;intro hN)|have hN:=trivial);simp(disch:=omega) only[go_sem,W,go_sem,hA,hQ,hN];(repeat(refine ndI (by first|assumption|omega|rfl) ?_));(first|apply Q1b|apply Q1a|apply Q0w))));(simp(disch:=omega) only[St.eff,setO,Q0q,go_sem,W]))|((with_reducible refine Q0p ?_ ?_ ?_ ?_);kernel_rfl;kernel_rfl;(first|kernel_rfl|simp[Q0m,Q1j,St.free,Q1i,AV.refsL,AV.refs]);intro R hR)))))
 refine Q2v (α:={q:Nat×Array Int // q.1≤k0∧q.2.size=n∧Sort.heapPop ltI a m (Sort.heapBuild ltI m a q.1 q.2)=res}) (fun q=>stHa q.1.2 n a b m q.1.1) (fun q=>q.1.1) ⟨(k0,d0),Nat.le_refl _,h0,hres⟩ (St.le_of (by simp[leT]) (by simp[leH,hget])) ?_
 rintro ⟨⟨k,d⟩,hk,hs,hr⟩ Ψ hΨ hΨ'
 (try dsimp only at hk hs hr hΨ ⊢)
 clear hres h0 w2 hk0
 rcases Nat.eq_zero_or_pos k with h|h
 · subst h
   have k1:decide (((0:Nat):Int)-1≥0)=false:=rfl
   replace hr:Sort.heapPop ltI a m d=res:=hr
   (repeat(any_goals(first|((with_reducible refine Q0g ?_ ?_);rfl;intro K hK;simp(disch:=omega) only[go_sem,k1,wrI];((repeat(refine ndI (by first|assumption|omega|rfl) ?_));refine hK _ ?_;clear hK K))|(with_reducible first|(refine Q0i ?_;refine hR _ ?_;clear hR R)|((first|refine Q0h ?_|refine Q0c ?_);intro Ψ hΨ hΨ')|(refine Q0b ?_;intro R hR)|(refine hΨ _ ?_;clear hΨ hΨ' Ψ)|refine Q0d ?_|refine Q0j ?_|refine Q0e ?_)|((with_reducible refine hΨ' _ _ ?_ ?_);(focus(simp;done));clear hΨ hΨ' Ψ)|((with_reducible apply Q0f);rfl;rfl;all_goals(intro hc;first|(cases hc;done)|(try simp only at hc)))|((with_reducible refine Q0t ?_ ?_);kernel_rfl;(with_reducible refine hR _ ?_);clear hR R)|(((with_reducible apply Q0u);rfl;rfl;(simp(disch:=omega) only[rdE,rdOf,go_sem,k1,wrI];rfl);(intro τ hA hQ hN;((try simp only[Q1h,Op.operands,Call.operands,go_sem,k1,wrI,go_sem,List.mem_cons,List.not_mem_nil,forall_eq_or_imp,forall_eq,List.append_toArray,Option.toArray] at hA);(try simp only[go_sem,k1,wrI,List.mem_cons,List.not_mem_nil,forall_eq_or_imp,forall_eq] at hQ hN);(first|(revert hA;intro hA)|have hA:=trivial);(first|(revert hQ;intro hQ)|have hQ:=trivial);(first|(revert hN;intro hN)|have hN:=trivial);simp(disch:=omega) only[go_sem,k1,wrI,go_sem,hA,hQ,hN];(repeat(refine ndI (by first|assumption|omega|rfl) ?_));(first|apply Q1b|apply Q1a|apply Q0w))));(simp(disch:=omega) only[St.eff,setO,Q0q,go_sem,k1,wrI]))|((with_reducible refine Q0p ?_ ?_ ?_ ?_);kernel_rfl;kernel_rfl;(first|kernel_rfl|simp[Q0m,Q1j,St.free,Q1i,AV.refsL,AV.refs]);intro R hR))))
   refine Q2v (α:={q:Nat×Array Int // q.1≤m∧q.2.size=n∧Sort.heapPop ltI a q.1 q.2=res}) (fun q=>stHb q.1.2 n a b m q.1.1) (fun q=>q.1.1) ⟨(m,d),Nat.le_refl _,hs,hr⟩ (St.le_of (by simp[leT]) (by simp[leH,hget])) ?_
   clear hs hr k1
   rintro ⟨⟨k,d⟩,hk,hs,hr⟩ Ψ hΨ hΨ'
   (try dsimp only at hk hs hr hΨ ⊢)
   rcases Nat.eq_zero_or_pos k with h|h
   · subst h
     have k1:decide (((0:Nat):Int)-1≥0)=false:=rfl
     replace hr:res=d:=hr.symm
     subst hr
     (repeat(any_goals(first|((with_reducible refine Q0g ?_ ?_);rfl;intro K hK;simp(disch:=omega) only[go_sem,k1,wrI];((repeat(refine ndI (by first|assumption|omega|rfl) ?_));refine hK _ ?_;clear hK K))|(with_reducible first|(refine Q0i ?_;refine hR _ ?_;clear hR R)|((first|refine Q0h ?_|refine Q0c ?_);intro Ψ hΨ hΨ')|(refine Q0b ?_;intro R hR)|(refine hΨ _ ?_;clear hΨ hΨ' Ψ)|refine Q0d ?_|refine Q0j ?_|refine Q0e ?_)|((with_reducible refine hΨ' _ _ ?_ ?_);(focus(simp;done));clear hΨ hΨ' Ψ)|((with_reducible apply Q0f);rfl;rfl;all_goals(intro hc;first|(cases hc;done)|(try simp only at hc)))|((with_reducible refine Q0t ?_ ?_);kernel_rfl;(with_reducible refine hR _ ?_);clear hR R)|(((with_reducible apply Q0u);rfl;rfl;(simp(disch:=omega) only[rdE,rdOf,go_sem,k1,wrI];rfl);(intro τ hA hQ hN;((try simp only[Q1h,Op.operands,Call.operands,go_sem,k1,wrI,go_sem,List.mem_cons,List.not_mem_nil,forall_eq_or_imp,forall_eq,List.append_toArray,Option.toArray] at hA);(try simp only[go_sem,k1,wrI,List.mem_cons,List.not_mem_nil,forall_eq_or_imp,forall_eq] at hQ hN);(first|(revert hA;intro hA)|have hA:=trivial);(first|(revert hQ;intro hQ)|have hQ:=trivial);(first|(revert hN;intro hN)|have hN:=trivial);simp(disch:=omega) only[go_sem,k1,wrI,go_sem,hA,hQ,hN];(repeat(refine ndI (by first|assumption|omega|rfl) ?_));(first|apply Q1b|apply Q1a|apply Q0w))));(simp(disch:=omega) only[St.eff,setO,Q0q,go_sem,k1,wrI]))|((with_reducible refine Q0p ?_ ?_ ?_ ?_);kernel_rfl;kernel_rfl;(first|kernel_rfl|simp[Q0m,Q1j,St.free,Q1i,AV.refsL,AV.refs]);intro R hR))))
     all_goals(refine⟨by simp,⟨_,?_,AV.le_refl _⟩,Q0y (by simp[leH,hget])⟩;simp only[Try.results65,resL,ldA,Q1o,go_sem])
   · obtain⟨k,rfl⟩:∃x,k=x+1:=⟨k-1,by omega⟩
     have k2:((k+1:Nat):Int)-1=(k:Int):=by omega
     have k1:decide ((k:Int)≥0)=true:=decide_eq_true (by omega)
     have w3:(a:Int)+(k:Int)=((a+k:Nat):Int):=by omega
     have x0:=Q1z d
     rw[hs] at x0
     have x1:=Q2o d (j:=a) (by omega)
     have x2:=Q2o d (j:=a+k) (by omega)
     obtain⟨s1,s2⟩:=Q3p d (i:=a) (j:=a+k) (by omega) (by omega)
     have hs1:(Sort.swp d a (a+k)).size=n:=by rw[Q2m];exact hs
     have x4:(rI (d.setIfInBounds a d[a+k]!)).length=n:=by rw[Q1z,Array.size_setIfInBounds];exact hs
     have sf:=sift_fn n 0 k a (by omega) (by omega) hn _ hs1
     rw[show((0:Nat):Int)=0 from rfl] at sf
     have hs2:(Sort.siftDown ltI k a 0 (Sort.swp d a (a+k))).size=n:=by rw[X1m k a _ _ _ (Nat.le_refl _)];exact hs1
     have hr2:Sort.heapPop ltI a k (Sort.siftDown ltI k a 0 (Sort.swp d a (a+k)))=res:=hr
     generalize Sort.siftDown ltI k a 0 (Sort.swp d a (a+k))=d2 at sf hs2 hr2
     generalize Sort.swp d a (a+k)=d3 at sf s2
     have hΨ1:∀σ':St,σ'.le (stHb d2 n a b m k)→Ψ .normal σ':=fun σ' h=>hΨ σ' ⟨(k,d2),by dsimp only;omega,hs2,hr2⟩ (by dsimp only;omega) h
     clear hΨ hr hr2
     generalize d.setIfInBounds a d[a+k]! = d1 at s1 s2 x4
     generalize d[a]! = za at *
     generalize d[a+k]! = zk at *
     obtain⟨p,hp⟩:∃p,a+k=p:=⟨_,rfl⟩
     rw[hp] at w3 x2 s2
     (have W:=ndI k1 (ndI k2 (ndI w3 (ndI x0 (ndI x1 (ndI x2 (ndI x4 (ndI s1 (ndI s2 @wrI))))))));(repeat(any_goals(first|((with_reducible refine Q1d ?_ ?_ ?_);rfl;rfl;intro K hK;(apply Q1n (sf) (fun r=>r);rfl;rfl;rfl;rfl;exact Try.func84;kernel_rfl;rfl;rfl;(intro r hr q hq h;simp(disch:=omega) only[List.map_cons,List.map_nil,List.cons_append,List.nil_append,List.mem_cons,List.not_mem_nil,or_false] at hr hq;(try dsimp only at h);first|omega|(rcases hr with rfl|rfl|rfl<;>rcases hq with rfl|rfl|rfl<;>simp at h ⊢)|(rcases hr with rfl|rfl<;>rcases hq with rfl|rfl<;>simp at h ⊢)|((repeat' split at h)<;>omega));(simp(disch:=omega) only[Q1t,Q2h,AV.ren,AV.renL,Q1c,List.mem_cons,List.not_mem_nil,forall_eq_or_imp,forall_eq,Q2d,List.contains_cons,List.contains_nil,AV.refsL,AV.refs,Q0z,AV.inN,AV.inNL,inH,Q1k,go_sem,W,Q0l,Q0k,Q0a,Nat.mul_one]));(simp(disch:=omega) only[Q0q,Q2k,renH,AV.ren,AV.renL,Q1c,go_sem,W,Q0l,Q0k,Q0a,Nat.mul_one];refine hK _ ?_;clear hK K))|((with_reducible refine Q0g ?_ ?_);rfl;intro K hK;simp(disch:=omega) only[go_sem,W,Q0l,Q0k,Q0a,Nat.mul_one];((repeat(refine ndI (by first|assumption|omega|rfl) ?_));refine hK _ ?_;clear hK K))|(with_reducible first|(refine Q0i ?_;refine hR _ ?_;clear hR R)|((first|refine Q0h ?_|refine Q0c ?_);intro Ψ hΨ hΨ')|(refine Q0b ?_;intro R hR)|(refine hΨ _ ?_;clear hΨ hΨ' Ψ)|refine Q0d ?_|refine Q0j ?_|refine Q0e ?_)|((with_reducible refine hΨ' _ _ ?_ ?_);(focus(simp;done));clear hΨ hΨ' Ψ)|((with_reducible apply Q0f);rfl;rfl;all_goals(intro hc;first|(cases hc;done)|(try simp only at hc)))|((with_reducible refine Q0t ?_ ?_);(apply Q1f);(focus(repeat(first|exact Sims.nil|((apply Sims.cons);(focus(first|((apply Ef.sim_row);assumption)|exact Ef.sim_refl _))))));kernel_rfl;(with_reducible refine hR _ ?_);clear hR R)|((first|((with_reducible apply Q0r);rfl;rfl;rfl;rfl)|((with_reducible apply Q0n);rfl;rfl;rfl)|((first|((with_reducible apply Q0u);rfl;rfl)|((with_reducible apply Q0s);rfl;rfl;rfl;rfl;rfl));(simp(disch:=omega) only[rdE,rdOf,go_sem,W,Q0l,Q0k,Q0a,Nat.mul_one];rfl);(intro τ hA hQ hN;((try simp only[Q1h,Op.operands,Call.operands,go_sem,W,Q0l,Q0k,Q0a,Nat.mul_one,go_sem,List.mem_cons,List.not_mem_nil,forall_eq_or_imp,forall_eq,List.append_toArray,Option.toArray] at hA);(try simp only[go_sem,W,Q0l,Q0k,Q0a,Nat.mul_one,List.mem_cons,List.not_mem_nil,forall_eq_or_imp,forall_eq] at hQ hN);(first|(revert hA;intro hA)|have hA:=trivial);(first|(revert hQ;intro hQ)|have hQ:=trivial);(first|(revert hN;intro hN)|have hN:=trivial);simp(disch:=omega) only[go_sem,W,Q0l,Q0k,Q0a,Nat.mul_one,go_sem,hA,hQ,hN];(repeat(refine ndI (by first|assumption|omega|rfl) ?_));(first|apply Q1b|apply Q1a|apply Q0w)))));(simp(disch:=omega) only[St.eff,setO,Q0q,go_sem,W,Q0l,Q0k,Q0a,Nat.mul_one]))|((with_reducible apply Q0o);rfl;rfl;rfl;all_goals intro hb;all_goals(simp(disch:=omega) only[St.eff,setO,Q0q,go_sem,W,Q0l,Q0k,Q0a,Nat.mul_one]))|((with_reducible refine Q0p ?_ ?_ ?_ ?_);kernel_rfl;kernel_rfl;(simp[Q0m,Q1j,St.free,Q1i,AV.refsL,AV.refs,Q0a]);intro R hR)))))
     all_goals exact hΨ1 _ (St.le_of (by simp[leT]) (by simp[leH,hget]))
 · obtain⟨k,rfl⟩:∃x,k=x+1:=⟨k-1,by omega⟩
   have k2:((k+1:Nat):Int)-1=(k:Int):=by omega
   have k1:decide ((k:Int)≥0)=true:=decide_eq_true (by omega)
   have sf:=sift_fn n k m a (by omega) (by omega) hn d hs
   have hs2:(Sort.siftDown ltI m a k d).size=n:=by rw[X1m m a _ _ _ (Nat.le_refl _)];exact hs
   have hr2:Sort.heapPop ltI a m (Sort.heapBuild ltI m a k (Sort.siftDown ltI m a k d))=res:=hr
   generalize Sort.siftDown ltI m a k d=d2 at sf hs2 hr2
   have hΨ1:∀σ':St,σ'.le (stHa d2 n a b m k)→Ψ .normal σ':=fun σ' h=>hΨ σ' ⟨(k,d2),by dsimp only;omega,hs2,hr2⟩ (by dsimp only;omega) h
   clear hΨ hr hr2
   (have W:=ndI k1 (ndI k2 @wrI);(repeat(any_goals(first|((with_reducible refine Q1d ?_ ?_ ?_);rfl;rfl;intro K hK;(apply Q1n (sf) (fun r=>r);rfl;rfl;rfl;rfl;exact Try.func84;kernel_rfl;rfl;rfl;(intro r hr q hq h;simp(disch:=omega) only[List.map_cons,List.map_nil,List.cons_append,List.nil_append,List.mem_cons,List.not_mem_nil,or_false] at hr hq;(try dsimp only at h);first|omega|(rcases hr with rfl|rfl|rfl<;>rcases hq with rfl|rfl|rfl<;>simp at h ⊢)|(rcases hr with rfl|rfl<;>rcases hq with rfl|rfl<;>simp at h ⊢)|((repeat' split at h)<;>omega));(simp(disch:=omega) only[Q1t,Q2h,AV.ren,AV.renL,Q1c,List.mem_cons,List.not_mem_nil,forall_eq_or_imp,forall_eq,Q2d,List.contains_cons,List.contains_nil,AV.refsL,AV.refs,Q0z,AV.inN,AV.inNL,inH,Q1k,go_sem,W,Q0l,Q0k,Q0a]));(simp(disch:=omega) only[Q0q,Q2k,renH,AV.ren,AV.renL,Q1c,go_sem,W,Q0l,Q0k,Q0a];refine hK _ ?_;clear hK K))|((with_reducible refine Q0g ?_ ?_);rfl;intro K hK;simp(disch:=omega) only[go_sem,W,Q0l,Q0k,Q0a];((repeat(refine ndI (by first|assumption|omega|rfl) ?_));refine hK _ ?_;clear hK K))|(with_reducible first|(refine Q0i ?_;refine hR _ ?_;clear hR R)|((first|refine Q0h ?_|refine Q0c ?_);intro Ψ hΨ hΨ')|(refine Q0b ?_;intro R hR)|(refine hΨ _ ?_;clear hΨ hΨ' Ψ)|refine Q0d ?_|refine Q0j ?_|refine Q0e ?_)|((with_reducible refine hΨ' _ _ ?_ ?_);(focus(simp;done));clear hΨ hΨ' Ψ)|((with_reducible apply Q0f);rfl;rfl;all_goals(intro hc;first|(cases hc;done)|(try simp only at hc)))|((with_reducible refine Q0t ?_ ?_);kernel_rfl;(with_reducible refine hR _ ?_);clear hR R)|(((with_reducible apply Q0u);rfl;rfl;(simp(disch:=omega) only[rdE,rdOf,go_sem,W,Q0l,Q0k,Q0a];rfl);(intro τ hA hQ hN;((try simp only[Q1h,Op.operands,Call.operands,go_sem,W,Q0l,Q0k,Q0a,go_sem,List.mem_cons,List.not_mem_nil,forall_eq_or_imp,forall_eq,List.append_toArray,Option.toArray] at hA);(try simp only[go_sem,W,Q0l,Q0k,Q0a,List.mem_cons,List.not_mem_nil,forall_eq_or_imp,forall_eq] at hQ hN);(first|(revert hA;intro hA)|have hA:=trivial);(first|(revert hQ;intro hQ)|have hQ:=trivial);(first|(revert hN;intro hN)|have hN:=trivial);simp(disch:=omega) only[go_sem,W,Q0l,Q0k,Q0a,go_sem,hA,hQ,hN];(repeat(refine ndI (by first|assumption|omega|rfl) ?_));(first|apply Q1b|apply Q1a|apply Q0w))));(simp(disch:=omega) only[St.eff,setO,Q0q,go_sem,W,Q0l,Q0k,Q0a]))|((with_reducible refine Q0p ?_ ?_ ?_ ?_);kernel_rfl;kernel_rfl;(first|kernel_rfl|simp[Q0m,Q1j,St.free,Q1i,AV.refsL,AV.refs]);intro R hR)))))
   all_goals exact hΨ1 _ (St.le_of (by simp[leT]) (by simp[leH,hget]))
abbrev stRv(d:Array Int)(n a b i j:Nat):St:=⟨[.row 1000 adT 1 n,vi .i64 (a:Int),vi .i64 (b:Int),.any,.any,.any,vi .i64 (i:Int),vi .i64 (j:Int),.any,.any,.any,.any,.any,.any,.any,.any,.any,.any,.any,.any,.any,.any,.any,.any,.any,.any,.any,.any,.any,.any,.any,.any],[(1000,rI d)]⟩
theorem rev_fn(n a b:Nat)(hab:a<b)(hb:b≤n)(hn:n≤1000000)(d0:Array Int)(h0:d0.size=n):Fn Try.prog 68 [.row 1000 adT 1 n,vi .i64 (a:Int),vi .i64 (b:Int)] [(1000,rI d0)] (.tup []) [(1000,rI (Sort.reverseRange d0 a b))]:=by
 obtain⟨res,hres⟩:∃res,Sort.reverseRange d0 a b=res:=⟨_,rfl⟩
 rw[hres]
 unfold Sort.reverseRange at hres
 have w1:(b:Int)-1=((b-1:Nat):Int):=by omega
 (refine Q1q Try.func68 rfl (by rfl) ?_;simp only[Try.ntmps68,List.length_cons,List.length_nil,Nat.reduceAdd,Nat.reduceSub,List.replicate,List.cons_append,List.nil_append])
 (repeat(any_goals(first|((with_reducible refine Q0g ?_ ?_);rfl;intro K hK;simp(disch:=omega) only[go_sem,w1,wrI];((repeat(refine ndI (by first|assumption|omega|rfl) ?_));refine hK _ ?_;clear hK K))|(with_reducible first|(refine Q0i ?_;refine hR _ ?_;clear hR R)|((first|refine Q0h ?_|refine Q0c ?_);intro Ψ hΨ hΨ')|(refine Q0b ?_;intro R hR)|(refine hΨ _ ?_;clear hΨ hΨ' Ψ)|refine Q0d ?_|refine Q0j ?_|refine Q0e ?_)|((with_reducible refine hΨ' _ _ ?_ ?_);(focus(simp;done));clear hΨ hΨ' Ψ)|((with_reducible apply Q0f);rfl;rfl;all_goals(intro hc;first|(cases hc;done)|(try simp only at hc)))|((with_reducible refine Q0t ?_ ?_);kernel_rfl;(with_reducible refine hR _ ?_);clear hR R)|(((with_reducible apply Q0u);rfl;rfl;(simp(disch:=omega) only[rdE,rdOf,go_sem,w1,wrI];rfl);(intro τ hA hQ hN;((try simp only[Q1h,Op.operands,Call.operands,go_sem,w1,wrI,go_sem,List.mem_cons,List.not_mem_nil,forall_eq_or_imp,forall_eq,List.append_toArray,Option.toArray] at hA);(try simp only[go_sem,w1,wrI,List.mem_cons,List.not_mem_nil,forall_eq_or_imp,forall_eq] at hQ hN);(first|(revert hA;intro hA)|have hA:=trivial);(first|(revert hQ;intro hQ)|have hQ:=trivial);(first|(revert hN;intro hN)|have hN:=trivial);simp(disch:=omega) only[go_sem,w1,wrI,go_sem,hA,hQ,hN];(repeat(refine ndI (by first|assumption|omega|rfl) ?_));(first|apply Q1b|apply Q1a|apply Q0w))));(simp(disch:=omega) only[St.eff,setO,Q0q,go_sem,w1,wrI]))|((with_reducible refine Q0p ?_ ?_ ?_ ?_);kernel_rfl;kernel_rfl;(first|kernel_rfl|simp[Q0m,Q1j,St.free,Q1i,AV.refsL,AV.refs]);intro R hR))))
 refine Q2v (α:={q:(Nat×Nat)×Array Int // q.1.1≤n∧q.1.2<n∧q.2.size=n∧Sort.reverseLoop q.1.1 q.1.2 q.2=res}) (fun q=>stRv q.1.2 n a b q.1.1.1 q.1.1.2) (fun q=>n-q.1.1.1) ⟨((a,b-1),d0),by dsimp only;omega,by dsimp only;omega,h0,hres⟩ (St.le_of (by simp[leT]) (by simp[leH,hget])) ?_
 rintro ⟨⟨⟨i,j⟩,d⟩,hi,hj,hs,hr⟩ Ψ hΨ hΨ'
 (try dsimp only at hi hj hs hr hΨ ⊢)
 clear hres h0
 by_cases hij:i<j
 · have k1:decide ((i:Int)<(j:Int))=true:=decide_eq_true (by omega)
   have k2:(i:Int)+1=((i+1:Nat):Int):=by omega
   have k3:(j:Int)-1=((j-1:Nat):Int):=by omega
   have hr2:Sort.reverseLoop (i+1) (j-1) (Sort.swp d i j)=res:=by
    rw[←hr]
    conv=>rhs;unfold Sort.reverseLoop
    rw[if_pos hij]
   have x0:=Q1z d
   rw[hs] at x0
   have x1:=Q2o d (j:=i) (by omega)
   have x2:=Q2o d (j:=j) (by omega)
   obtain⟨s1,s2⟩:=Q3p d (i:=i) (j:=j) (by omega) (by omega)
   have hs1:(Sort.swp d i j).size=n:=by rw[Q2m];exact hs
   have x4:(rI (d.setIfInBounds i d[j]!)).length=n:=by rw[Q1z,Array.size_setIfInBounds];exact hs
   have hΨ1:∀σ':St,σ'.le (stRv (Sort.swp d i j) n a b (i+1) (j-1))→Ψ .normal σ':=fun σ' h=>hΨ σ' ⟨((i+1,j-1),Sort.swp d i j),by dsimp only;omega,by dsimp only;omega,hs1,hr2⟩ (by dsimp only;omega) h
   clear hΨ hr hr2 hs1
   generalize Sort.swp d i j=d3 at s2 hΨ1
   generalize d.setIfInBounds i d[j]! = d1 at s1 s2 x4
   generalize d[i]! = zi at *
   generalize d[j]! = zj at *
   (have W:=ndI k1 (ndI k2 (ndI k3 (ndI x0 (ndI x1 (ndI x2 (ndI x4 (ndI s1 (ndI s2 @wrI))))))));(repeat(any_goals(first|((with_reducible refine Q0g ?_ ?_);rfl;intro K hK;simp(disch:=omega) only[go_sem,W,Q0a,Nat.mul_one];((repeat(refine ndI (by first|assumption|omega|rfl) ?_));refine hK _ ?_;clear hK K))|(with_reducible first|(refine Q0i ?_;refine hR _ ?_;clear hR R)|((first|refine Q0h ?_|refine Q0c ?_);intro Ψ hΨ hΨ')|(refine Q0b ?_;intro R hR)|(refine hΨ _ ?_;clear hΨ hΨ' Ψ)|refine Q0d ?_|refine Q0j ?_|refine Q0e ?_)|((with_reducible refine hΨ' _ _ ?_ ?_);(focus(simp;done));clear hΨ hΨ' Ψ)|((with_reducible apply Q0f);rfl;rfl;all_goals(intro hc;first|(cases hc;done)|(try simp only at hc)))|((with_reducible refine Q0t ?_ ?_);(apply Q1f);(focus(repeat(first|exact Sims.nil|((apply Sims.cons);(focus(first|((apply Ef.sim_row);assumption)|exact Ef.sim_refl _))))));kernel_rfl;(with_reducible refine hR _ ?_);clear hR R)|((first|((with_reducible apply Q0r);rfl;rfl;rfl;rfl)|((with_reducible apply Q0n);rfl;rfl;rfl)|((first|((with_reducible apply Q0u);rfl;rfl)|((with_reducible apply Q0s);rfl;rfl;rfl;rfl;rfl));(simp(disch:=omega) only[rdE,rdOf,go_sem,W,Q0a,Nat.mul_one];rfl);(intro τ hA hQ hN;((try simp only[Q1h,Op.operands,Call.operands,go_sem,W,Q0a,Nat.mul_one,go_sem,List.mem_cons,List.not_mem_nil,forall_eq_or_imp,forall_eq,List.append_toArray,Option.toArray] at hA);(try simp only[go_sem,W,Q0a,Nat.mul_one,List.mem_cons,List.not_mem_nil,forall_eq_or_imp,forall_eq] at hQ hN);(first|(revert hA;intro hA)|have hA:=trivial);(first|(revert hQ;intro hQ)|have hQ:=trivial);(first|(revert hN;intro hN)|have hN:=trivial);simp(disch:=omega) only[go_sem,W,Q0a,Nat.mul_one,go_sem,hA,hQ,hN];(repeat(refine ndI (by first|assumption|omega|rfl) ?_));(first|apply Q1b|apply Q1a|apply Q0w)))));(simp(disch:=omega) only[St.eff,setO,Q0q,go_sem,W,Q0a,Nat.mul_one]))|((with_reducible apply Q0o);rfl;rfl;rfl;all_goals intro hb;all_goals(simp(disch:=omega) only[St.eff,setO,Q0q,go_sem,W,Q0a,Nat.mul_one]))|((with_reducible refine Q0p ?_ ?_ ?_ ?_);kernel_rfl;kernel_rfl;(simp[Q0m,Q1j,St.free,Q1i,AV.refsL,AV.refs,Q0a]);intro R hR)))))
   all_goals exact hΨ1 _ (St.le_of (by simp[leT]) (by simp[leH,hget]))
 · have k1:decide ((i:Int)<(j:Int))=false:=decide_eq_false (by omega)
   have hr2:res=d:=by
    rw[←hr]
    unfold Sort.reverseLoop
    rw[if_neg hij]
   subst hr2
   (repeat(any_goals(first|((with_reducible refine Q0g ?_ ?_);rfl;intro K hK;simp(disch:=omega) only[go_sem,k1,wrI];((repeat(refine ndI (by first|assumption|omega|rfl) ?_));refine hK _ ?_;clear hK K))|(with_reducible first|(refine Q0i ?_;refine hR _ ?_;clear hR R)|((first|refine Q0h ?_|refine Q0c ?_);intro Ψ hΨ hΨ')|(refine Q0b ?_;intro R hR)|(refine hΨ _ ?_;clear hΨ hΨ' Ψ)|refine Q0d ?_|refine Q0j ?_|refine Q0e ?_)|((with_reducible refine hΨ' _ _ ?_ ?_);(focus(simp;done));clear hΨ hΨ' Ψ)|((with_reducible apply Q0f);rfl;rfl;all_goals(intro hc;first|(cases hc;done)|(try simp only at hc)))|((with_reducible refine Q0t ?_ ?_);kernel_rfl;(with_reducible refine hR _ ?_);clear hR R)|(((with_reducible apply Q0u);rfl;rfl;(simp(disch:=omega) only[rdE,rdOf,go_sem,k1,wrI];rfl);(intro τ hA hQ hN;((try simp only[Q1h,Op.operands,Call.operands,go_sem,k1,wrI,go_sem,List.mem_cons,List.not_mem_nil,forall_eq_or_imp,forall_eq,List.append_toArray,Option.toArray] at hA);(try simp only[go_sem,k1,wrI,List.mem_cons,List.not_mem_nil,forall_eq_or_imp,forall_eq] at hQ hN);(first|(revert hA;intro hA)|have hA:=trivial);(first|(revert hQ;intro hQ)|have hQ:=trivial);(first|(revert hN;intro hN)|have hN:=trivial);simp(disch:=omega) only[go_sem,k1,wrI,go_sem,hA,hQ,hN];(repeat(refine ndI (by first|assumption|omega|rfl) ?_));(first|apply Q1b|apply Q1a|apply Q0w))));(simp(disch:=omega) only[St.eff,setO,Q0q,go_sem,k1,wrI]))|((with_reducible refine Q0p ?_ ?_ ?_ ?_);kernel_rfl;kernel_rfl;(first|kernel_rfl|simp[Q0m,Q1j,St.free,Q1i,AV.refsL,AV.refs]);intro R hR))))
   all_goals(refine⟨by simp,⟨_,?_,AV.le_refl _⟩,Q0y (by simp[leH,hget])⟩;simp only[Try.results68,resL,ldA,Q1o,go_sem])
end
section
open Go.RowKit
open Nat (reduceBEq)
attribute [-go_sem] IntKind.bits
set_option maxRecDepth 20000
set_option maxHeartbeats 2000000
attribute [local simp] Q0l Q0a Q0k
theorem Q4o(d:Array Int){n a b s:Nat}(ha:a<n)(hb:b<n):(Sort.order2 ltI d a b s).1<n∧(Sort.order2 ltI d a b s).2.1<n∧(Sort.order2 ltI d a b s).2.2≤s+1:=by
 unfold Sort.order2
 split<;>exact⟨by assumption,by assumption,by simp⟩
theorem Q8m(n a b s:Nat)(ha:a<n)(hb:b<n)(hn:n≤1000000)(hs:s≤1000)(d:Array Int)(h0:d.size=n):Fn Try.prog 96 [.row 1000 adT 1 n,vi .i64 (a:Int),vi .i64 (b:Int),.ptr 1001 0] [(1000,rI d),(1001,[vi .i64 (s:Int)])] (.tup [vi .i64 ((Sort.order2 ltI d a b s).1:Int),vi .i64 ((Sort.order2 ltI d a b s).2.1:Int)]) [(1000,rI d),(1001,[vi .i64 ((Sort.order2 ltI d a b s).2.2:Int)])]:=by
 have x0:=Q1z d
 rw[h0] at x0
 have x1:=Q2o d (j:=a) (by omega)
 have x2:=Q2o d (j:=b) (by omega)
 have lf:=Q3a d[b]! d[a]!
 have w1:(s:Int)+1=((s+1:Nat):Int):=by omega
 unfold Sort.order2
 by_cases hlt:d[b]! < d[a]!
 · have c3:decide (d[b]! < d[a]!)=true:=decide_eq_true hlt
   rw[c3] at lf
   rw[if_pos c3]
   dsimp only
   clear c3 hlt
   generalize d[a]! = za at *
   generalize d[b]! = zb at *
   (refine Q1q Try.func96 rfl (by rfl) ?_;simp only[Try.ntmps96,List.length_cons,List.length_nil,Nat.reduceAdd,Nat.reduceSub,List.replicate,List.cons_append,List.nil_append])
   (have W:=ndI w1 (ndI x0 (ndI x1 (ndI x2 @wrI)));(repeat(any_goals(first|((with_reducible refine Q0g ?_ ?_);rfl;intro K hK;simp(disch:=omega) only[go_sem,W,Q0a,Nat.mul_one];((repeat(refine ndI (by first|assumption|omega|rfl) ?_));refine hK _ ?_;clear hK K))|(with_reducible first|(refine Q0i ?_;refine hR _ ?_;clear hR R)|((first|refine Q0h ?_|refine Q0c ?_);intro Ψ hΨ hΨ')|(refine Q0b ?_;intro R hR)|(refine hΨ _ ?_;clear hΨ hΨ' Ψ)|refine Q0d ?_|refine Q0j ?_|refine Q0e ?_)|((with_reducible refine hΨ' _ _ ?_ ?_);(focus(simp;done));clear hΨ hΨ' Ψ)|((with_reducible apply Q0f);rfl;rfl;all_goals(intro hc;first|(cases hc;done)|(try simp only at hc)))|((with_reducible refine Q0t ?_ ?_);(apply Q1f);(focus(repeat(first|exact Sims.nil|((apply Sims.cons);(focus(first|((apply Ef.sim_row);assumption)|exact Ef.sim_refl _))))));kernel_rfl;(with_reducible refine hR _ ?_);clear hR R)|((first|((with_reducible apply Q0r);rfl;rfl;rfl;rfl)|((with_reducible apply Q0n);rfl;rfl;rfl)|((first|((with_reducible apply Q1m);rfl;rfl)|((with_reducible apply Q1p);rfl;rfl;rfl;rfl;rfl));((apply Q1g (lf);rfl;rfl;rfl;rfl;exact Try.func70);kernel_rfl;rfl;(focus((simp(disch:=omega) only[go_sem,W,Q0a,Nat.mul_one]);(try rfl);done));(first|rfl|simp[AV.inNL,AV.inN])))|((first|((with_reducible apply Q0u);rfl;rfl)|((with_reducible apply Q0s);rfl;rfl;rfl;rfl;rfl));(simp(disch:=omega) only[rdE,rdOf,go_sem,W,Q0a,Nat.mul_one];rfl);(intro τ hA hQ hN;((try simp only[Q1h,Op.operands,Call.operands,go_sem,W,Q0a,Nat.mul_one,go_sem,List.mem_cons,List.not_mem_nil,forall_eq_or_imp,forall_eq,List.append_toArray,Option.toArray] at hA);(try simp only[go_sem,W,Q0a,Nat.mul_one,List.mem_cons,List.not_mem_nil,forall_eq_or_imp,forall_eq] at hQ hN);(first|(revert hA;intro hA)|have hA:=trivial);(first|(revert hQ;intro hQ)|have hQ:=trivial);(first|(revert hN;intro hN)|have hN:=trivial);simp(disch:=omega) only[go_sem,W,Q0a,Nat.mul_one,go_sem,hA,hQ,hN];(repeat(refine ndI (by first|assumption|omega|rfl) ?_));(first|apply Q1b|apply Q1a|apply Q0w)))));(simp(disch:=omega) only[St.eff,setO,Q0q,go_sem,W,Q0a,Nat.mul_one]))|((with_reducible apply Q0o);rfl;rfl;rfl;all_goals intro hb;all_goals(simp(disch:=omega) only[St.eff,setO,Q0q,go_sem,W,Q0a,Nat.mul_one]))|((with_reducible refine Q0p ?_ ?_ ?_ ?_);kernel_rfl;kernel_rfl;(simp[Q0m,Q1j,St.free,Q1i,AV.refsL,AV.refs,Q0a]);intro R hR)))))
   all_goals(refine⟨by simp,⟨_,?_,AV.le_refl _⟩,Q0y (by simp[leH,hget])⟩;simp only[Try.results96,resL,ldA,Q1o,go_sem])
 · have c3:decide (d[b]! < d[a]!)=false:=decide_eq_false hlt
   rw[c3] at lf
   rw[if_neg (show ¬decide (d[b]! < d[a]!)=true by rw[c3];simp)]
   dsimp only
   clear c3 hlt
   generalize d[a]! = za at *
   generalize d[b]! = zb at *
   (refine Q1q Try.func96 rfl (by rfl) ?_;simp only[Try.ntmps96,List.length_cons,List.length_nil,Nat.reduceAdd,Nat.reduceSub,List.replicate,List.cons_append,List.nil_append])
   (have W:=ndI w1 (ndI x0 (ndI x1 (ndI x2 @wrI)));(repeat(any_goals(first|((with_reducible refine Q0g ?_ ?_);rfl;intro K hK;simp(disch:=omega) only[go_sem,W,Q0a,Nat.mul_one];((repeat(refine ndI (by first|assumption|omega|rfl) ?_));refine hK _ ?_;clear hK K))|(with_reducible first|(refine Q0i ?_;refine hR _ ?_;clear hR R)|((first|refine Q0h ?_|refine Q0c ?_);intro Ψ hΨ hΨ')|(refine Q0b ?_;intro R hR)|(refine hΨ _ ?_;clear hΨ hΨ' Ψ)|refine Q0d ?_|refine Q0j ?_|refine Q0e ?_)|((with_reducible refine hΨ' _ _ ?_ ?_);(focus(simp;done));clear hΨ hΨ' Ψ)|((with_reducible apply Q0f);rfl;rfl;all_goals(intro hc;first|(cases hc;done)|(try simp only at hc)))|((with_reducible refine Q0t ?_ ?_);(apply Q1f);(focus(repeat(first|exact Sims.nil|((apply Sims.cons);(focus(first|((apply Ef.sim_row);assumption)|exact Ef.sim_refl _))))));kernel_rfl;(with_reducible refine hR _ ?_);clear hR R)|((first|((with_reducible apply Q0r);rfl;rfl;rfl;rfl)|((with_reducible apply Q0n);rfl;rfl;rfl)|((first|((with_reducible apply Q1m);rfl;rfl)|((with_reducible apply Q1p);rfl;rfl;rfl;rfl;rfl));((apply Q1g (lf);rfl;rfl;rfl;rfl;exact Try.func70);kernel_rfl;rfl;(focus((simp(disch:=omega) only[go_sem,W,Q0a,Nat.mul_one]);(try rfl);done));(first|rfl|simp[AV.inNL,AV.inN])))|((first|((with_reducible apply Q0u);rfl;rfl)|((with_reducible apply Q0s);rfl;rfl;rfl;rfl;rfl));(simp(disch:=omega) only[rdE,rdOf,go_sem,W,Q0a,Nat.mul_one];rfl);(intro τ hA hQ hN;((try simp only[Q1h,Op.operands,Call.operands,go_sem,W,Q0a,Nat.mul_one,go_sem,List.mem_cons,List.not_mem_nil,forall_eq_or_imp,forall_eq,List.append_toArray,Option.toArray] at hA);(try simp only[go_sem,W,Q0a,Nat.mul_one,List.mem_cons,List.not_mem_nil,forall_eq_or_imp,forall_eq] at hQ hN);(first|(revert hA;intro hA)|have hA:=trivial);(first|(revert hQ;intro hQ)|have hQ:=trivial);(first|(revert hN;intro hN)|have hN:=trivial);simp(disch:=omega) only[go_sem,W,Q0a,Nat.mul_one,go_sem,hA,hQ,hN];(repeat(refine ndI (by first|assumption|omega|rfl) ?_));(first|apply Q1b|apply Q1a|apply Q0w)))));(simp(disch:=omega) only[St.eff,setO,Q0q,go_sem,W,Q0a,Nat.mul_one]))|((with_reducible apply Q0o);rfl;rfl;rfl;all_goals intro hb;all_goals(simp(disch:=omega) only[St.eff,setO,Q0q,go_sem,W,Q0a,Nat.mul_one]))|((with_reducible refine Q0p ?_ ?_ ?_ ?_);kernel_rfl;kernel_rfl;(simp[Q0m,Q1j,St.free,Q1i,AV.refsL,AV.refs,Q0a]);intro R hR)))))
   all_goals(refine⟨by simp,⟨_,?_,AV.le_refl _⟩,Q0y (by simp[leH,hget])⟩;simp only[Try.results96,resL,ldA,Q1o,go_sem])
theorem Q8s(d:Array Int){n a b c s:Nat}(ha:a<n)(hb:b<n)(hc:c<n):(Sort.median ltI d a b c s).1<n∧(Sort.median ltI d a b c s).2≤s+3:=by
 unfold Sort.median
 have h1:=Q4o d (s:=s) ha hb
 have h2:=Q4o d (s:=(Sort.order2 ltI d a b s).2.2) h1.2.1 hc
 have h3:=Q4o d (s:=(Sort.order2 ltI d (Sort.order2 ltI d a b s).2.1 c (Sort.order2 ltI d a b s).2.2).2.2) h1.1 h2.1
 exact⟨h3.2.1,by dsimp only;omega⟩
theorem Q8r(n a b c s:Nat)(ha:a<n)(hb:b<n)(hc:c<n)(hn:n≤1000000)(hs:s≤900)(d:Array Int)(h0:d.size=n):Fn Try.prog 88 [.row 1000 adT 1 n,vi .i64 (a:Int),vi .i64 (b:Int),vi .i64 (c:Int),.ptr 1001 0] [(1000,rI d),(1001,[vi .i64 (s:Int)])] (vi .i64 ((Sort.median ltI d a b c s).1:Int)) [(1000,rI d),(1001,[vi .i64 ((Sort.median ltI d a b c s).2:Int)])]:=by
 unfold Sort.median
 have b1:=Q4o d (s:=s) ha hb
 have o1:=Q8m n a b s ha hb hn (by omega) d h0
 obtain⟨⟨i1,j1,s1⟩,e1⟩:∃r,Sort.order2 ltI d a b s=r:=⟨_,rfl⟩
 rw[e1] at b1 o1
 rw[e1]
 dsimp only at b1 o1 ⊢
 have b2:=Q4o d (s:=s1) b1.2.1 hc
 have o2:=Q8m n j1 c s1 b1.2.1 hc hn (by omega) d h0
 obtain⟨⟨i2,j2,s2⟩,e2⟩:∃r,Sort.order2 ltI d j1 c s1=r:=⟨_,rfl⟩
 rw[e2] at b2 o2
 rw[e2]
 dsimp only at b2 o2 ⊢
 have b3:=Q4o d (s:=s2) b1.1 b2.1
 have o3:=Q8m n i1 i2 s2 b1.1 b2.1 hn (by omega) d h0
 obtain⟨⟨i3,j3,s3⟩,e3⟩:∃r,Sort.order2 ltI d i1 i2 s2=r:=⟨_,rfl⟩
 rw[e3] at b3 o3
 rw[e3]
 dsimp only at b3 o3 ⊢
 clear e1 e2 e3
 (refine Q1q Try.func88 rfl (by rfl) ?_;simp only[Try.ntmps88,List.length_cons,List.length_nil,Nat.reduceAdd,Nat.reduceSub,List.replicate,List.cons_append,List.nil_append])
 (repeat(any_goals(first|((with_reducible refine Q1d ?_ ?_ ?_);rfl;rfl;intro K hK;(first|(apply Q1n (o1) (fun r=>r);rfl;rfl;rfl;rfl;exact Try.func96;kernel_rfl;rfl;rfl;(intro r hr q hq h;simp(disch:=omega) only[List.map_cons,List.map_nil,List.cons_append,List.nil_append,List.mem_cons,List.not_mem_nil,or_false] at hr hq;(try dsimp only at h);first|omega|(rcases hr with rfl|rfl|rfl<;>rcases hq with rfl|rfl|rfl<;>simp at h ⊢)|(rcases hr with rfl|rfl<;>rcases hq with rfl|rfl<;>simp at h ⊢)|((repeat' split at h)<;>omega));(focus((simp(disch:=omega) only[Q1t,Q2h,AV.ren,AV.renL,Q1c,List.mem_cons,List.not_mem_nil,forall_eq_or_imp,forall_eq,Q2d,List.contains_cons,List.contains_nil,AV.refsL,AV.refs,Q0z,AV.inN,AV.inNL,inH,Q1k,go_sem,Q0l,Q0k,Q0a,Nat.mul_one,wrI]);done)))|(apply Q1n (o2) (fun r=>r);rfl;rfl;rfl;rfl;exact Try.func96;kernel_rfl;rfl;rfl;(intro r hr q hq h;simp(disch:=omega) only[List.map_cons,List.map_nil,List.cons_append,List.nil_append,List.mem_cons,List.not_mem_nil,or_false] at hr hq;(try dsimp only at h);first|omega|(rcases hr with rfl|rfl|rfl<;>rcases hq with rfl|rfl|rfl<;>simp at h ⊢)|(rcases hr with rfl|rfl<;>rcases hq with rfl|rfl<;>simp at h ⊢)|((repeat' split at h)<;>omega));(focus((simp(disch:=omega) only[Q1t,Q2h,AV.ren,AV.renL,Q1c,List.mem_cons,List.not_mem_nil,forall_eq_or_imp,forall_eq,Q2d,List.contains_cons,List.contains_nil,AV.refsL,AV.refs,Q0z,AV.inN,AV.inNL,inH,Q1k,go_sem,Q0l,Q0k,Q0a,Nat.mul_one,wrI]);done)))|(apply Q1n (o3) (fun r=>r);rfl;rfl;rfl;rfl;exact Try.func96;kernel_rfl;rfl;rfl;(intro r hr q hq h;simp(disch:=omega) only[List.map_cons,List.map_nil,List.cons_append,List.nil_append,List.mem_cons,List.not_mem_nil,or_false] at hr hq;(try dsimp only at h);first|omega|(rcases hr with rfl|rfl|rfl<;>rcases hq with rfl|rfl|rfl<;>simp at h ⊢)|(rcases hr with rfl|rfl<;>rcases hq with rfl|rfl<;>simp at h ⊢)|((repeat' split at h)<;>omega));(focus((simp(disch:=omega) only[Q1t,Q2h,AV.ren,AV.renL,Q1c,List.mem_cons,List.not_mem_nil,forall_eq_or_imp,forall_eq,Q2d,List.contains_cons,List.contains_nil,AV.refsL,AV.refs,Q0z,AV.inN,AV.inNL,inH,Q1k,go_sem,Q0l,Q0k,Q0a,Nat.mul_one,wrI]);done))));(simp(disch:=omega) only[Q0q,Q2k,renH,AV.ren,AV.renL,Q1c,go_sem,Q0l,Q0k,Q0a,Nat.mul_one,wrI];refine hK _ ?_;clear hK K))|((with_reducible refine Q0g ?_ ?_);rfl;intro K hK;simp(disch:=omega) only[go_sem,Q0l,Q0k,Q0a,Nat.mul_one,wrI];((repeat(refine ndI (by first|assumption|omega|rfl) ?_));refine hK _ ?_;clear hK K))|(with_reducible first|(refine Q0i ?_;refine hR _ ?_;clear hR R)|((first|refine Q0h ?_|refine Q0c ?_);intro Ψ hΨ hΨ')|(refine Q0b ?_;intro R hR)|(refine hΨ _ ?_;clear hΨ hΨ' Ψ)|refine Q0d ?_|refine Q0j ?_|refine Q0e ?_)|((with_reducible refine hΨ' _ _ ?_ ?_);(focus(simp;done));clear hΨ hΨ' Ψ)|((with_reducible apply Q0f);rfl;rfl;all_goals(intro hc;first|(cases hc;done)|(try simp only at hc))))))
 all_goals(refine⟨by simp,⟨_,?_,AV.le_refl _⟩,Q0y (by simp[leH,hget])⟩;simp only[Try.results88,resL,ldA,Q1o,go_sem])
end
section
open Go.RowKit
open Nat (reduceBEq)
attribute [-go_sem] IntKind.bits
set_option maxRecDepth 20000
set_option maxHeartbeats 2000000
attribute [local simp] Q0l Q0a Q0k
theorem Q8u(d:Array Int){n a s:Nat}(ha:a+1<n):(Sort.medianAdjacent ltI d a s).1<n∧(Sort.medianAdjacent ltI d a s).2≤s+3:=Q8s d (by omega) (by omega) ha
theorem Q8t(n a s:Nat)(h1:1≤a)(ha:a+1<n)(hn:n≤1000000)(hs:s≤900)(d:Array Int)(h0:d.size=n):Fn Try.prog 87 [.row 1000 adT 1 n,vi .i64 (a:Int),.ptr 1001 0] [(1000,rI d),(1001,[vi .i64 (s:Int)])] (vi .i64 ((Sort.medianAdjacent ltI d a s).1:Int)) [(1000,rI d),(1001,[vi .i64 ((Sort.medianAdjacent ltI d a s).2:Int)])]:=by
 have m:=Q8r n (a-1) a (a+1) s (by omega) (by omega) ha hn hs d h0
 have w1:(a:Int)-1=((a-1:Nat):Int):=by omega
 have w2:(a:Int)+1=((a+1:Nat):Int):=by omega
 unfold Sort.medianAdjacent
 generalize Sort.median ltI d (a-1) a (a+1) s=r at m
 obtain⟨p,t⟩:=r
 dsimp only at m ⊢
 (refine Q1q Try.func87 rfl (by rfl) ?_;simp only[Try.ntmps87,List.length_cons,List.length_nil,Nat.reduceAdd,Nat.reduceSub,List.replicate,List.cons_append,List.nil_append])
 (have W:=ndI w1 (ndI w2 @wrI);(repeat(any_goals(first|((with_reducible refine Q1d ?_ ?_ ?_);rfl;rfl;intro K hK;(apply Q1n (m) (fun r=>r);rfl;rfl;rfl;rfl;exact Try.func88;kernel_rfl;rfl;rfl;(intro r hr q hq h;simp(disch:=omega) only[List.map_cons,List.map_nil,List.cons_append,List.nil_append,List.mem_cons,List.not_mem_nil,or_false] at hr hq;(try dsimp only at h);first|omega|(rcases hr with rfl|rfl|rfl<;>rcases hq with rfl|rfl|rfl<;>simp at h ⊢)|(rcases hr with rfl|rfl<;>rcases hq with rfl|rfl<;>simp at h ⊢)|((repeat' split at h)<;>omega));(simp(disch:=omega) only[Q1t,Q2h,AV.ren,AV.renL,Q1c,List.mem_cons,List.not_mem_nil,forall_eq_or_imp,forall_eq,Q2d,List.contains_cons,List.contains_nil,AV.refsL,AV.refs,Q0z,AV.inN,AV.inNL,inH,Q1k,go_sem,W,Q0l,Q0k,Q0a,Nat.mul_one]));(simp(disch:=omega) only[Q0q,Q2k,renH,AV.ren,AV.renL,Q1c,go_sem,W,Q0l,Q0k,Q0a,Nat.mul_one];refine hK _ ?_;clear hK K))|((with_reducible refine Q0g ?_ ?_);rfl;intro K hK;simp(disch:=omega) only[go_sem,W,Q0l,Q0k,Q0a,Nat.mul_one];((repeat(refine ndI (by first|assumption|omega|rfl) ?_));refine hK _ ?_;clear hK K))|(with_reducible first|(refine Q0i ?_;refine hR _ ?_;clear hR R)|((first|refine Q0h ?_|refine Q0c ?_);intro Ψ hΨ hΨ')|(refine Q0b ?_;intro R hR)|(refine hΨ _ ?_;clear hΨ hΨ' Ψ)|refine Q0d ?_|refine Q0j ?_|refine Q0e ?_)|((with_reducible refine hΨ' _ _ ?_ ?_);(focus(simp;done));clear hΨ hΨ' Ψ)|((with_reducible apply Q0f);rfl;rfl;all_goals(intro hc;first|(cases hc;done)|(try simp only at hc)))))))
 all_goals(refine⟨by simp,⟨_,?_,AV.le_refl _⟩,Q0y (by simp[leH,hget])⟩;simp only[Try.results87,resL,ldA,Q1o,go_sem])
def Q6v:Sort.Hint→Int
 |.unknown=>0
 |.increasing=>1
 |.decreasing=>2
def pvR(d:Array Int)(l i j k:Nat):Nat×Nat:=
 if l≥8 then
  if l≥50 then Sort.median ltI d (Sort.medianAdjacent ltI d i 0).1 (Sort.medianAdjacent ltI d j (Sort.medianAdjacent ltI d i 0).2).1 (Sort.medianAdjacent ltI d k (Sort.medianAdjacent ltI d j (Sort.medianAdjacent ltI d i 0).2).2).1 (Sort.medianAdjacent ltI d k (Sort.medianAdjacent ltI d j (Sort.medianAdjacent ltI d i 0).2).2).2
  else Sort.median ltI d i j k 0
 else(j,0)
def Q6u(s:Nat):Sort.Hint:=if s=0 then .increasing else if s=12 then .decreasing else .unknown
theorem choose_eq(d:Array Int)(a b:Nat):Sort.choosePivot ltI d a b=((pvR d (b-a) (a+(b-a)/4*1) (a+(b-a)/4*2) (a+(b-a)/4*3)).1,Q6u (pvR d (b-a) (a+(b-a)/4*1) (a+(b-a)/4*2) (a+(b-a)/4*3)).2):=rfl
theorem choose_fn(n a b:Nat)(hab:a<b)(hb:b≤n)(hn:n≤1000000)(d:Array Int)(h0:d.size=n):Fn Try.prog 67 [.row 1000 adT 1 n,vi .i64 (a:Int),vi .i64 (b:Int)] [(1000,rI d)] (.tup [vi .i64 ((Sort.choosePivot ltI d a b).1:Int),vi .i64 (Q6v (Sort.choosePivot ltI d a b).2)]) [(1000,rI d)]:=by
 rw[choose_eq]
 obtain⟨l,hl⟩:∃l,b-a=l:=⟨_,rfl⟩
 rw[hl]
 obtain⟨q,hq⟩:∃q,l/4=q:=⟨_,rfl⟩
 rw[hq]
 obtain⟨i,hi⟩:∃i,a+q*1=i:=⟨_,rfl⟩
 obtain⟨j,hj⟩:∃j,a+q*2=j:=⟨_,rfl⟩
 obtain⟨k,hk⟩:∃k,a+q*3=k:=⟨_,rfl⟩
 rw[hi,hj,hk]
 have w1:(b:Int)-(a:Int)=(l:Int):=by omega
 have w2:Int.tdiv (l:Int) 4=(q:Int):=by rw[←hq];rfl
 have m1:(q:Int)*1=(q:Int):=Int.mul_one _
 have m2:(q:Int)*2=((q*2:Nat):Int):=by omega
 have m3:(q:Int)*3=((q*3:Nat):Int):=by omega
 have w3:(a:Int)+(q:Int)=(i:Int):=by omega
 have w4:(a:Int)+((q*2:Nat):Int)=(j:Int):=by omega
 have w5:(a:Int)+((q*3:Nat):Int)=(k:Int):=by omega
 have hb2:q*4≤l∧l<q*4+4:=by omega
 clear hq
 unfold pvR
 by_cases h8:l≥8
 · have k8:decide ((l:Int)≥8)=true:=decide_eq_true (by omega)
   rw[if_pos h8]
   by_cases h50:l≥50
   · have k50:decide ((l:Int)≥50)=true:=decide_eq_true (by omega)
     rw[if_pos h50]
     have b1:=Q8u d (n:=n) (a:=i) (s:=0) (by omega)
     have f1:=Q8t n i 0 (by omega) (by omega) hn (by omega) d h0
     rw[show((0:Nat):Int)=0 from rfl] at f1
     obtain⟨⟨p1,s1⟩,e1⟩:∃r,Sort.medianAdjacent ltI d i 0=r:=⟨_,rfl⟩
     rw[e1] at b1 f1 ⊢
     dsimp only at b1 f1 ⊢
     have b2:=Q8u d (n:=n) (a:=j) (s:=s1) (by omega)
     have f2:=Q8t n j s1 (by omega) (by omega) hn (by omega) d h0
     obtain⟨⟨p2,s2⟩,e2⟩:∃r,Sort.medianAdjacent ltI d j s1=r:=⟨_,rfl⟩
     rw[e2] at b2 f2 ⊢
     dsimp only at b2 f2 ⊢
     have b3:=Q8u d (n:=n) (a:=k) (s:=s2) (by omega)
     have f3:=Q8t n k s2 (by omega) (by omega) hn (by omega) d h0
     obtain⟨⟨p3,s3⟩,e3⟩:∃r,Sort.medianAdjacent ltI d k s2=r:=⟨_,rfl⟩
     rw[e3] at b3 f3 ⊢
     dsimp only at b3 f3 ⊢
     have b4:=Q8s d (n:=n) (a:=p1) (b:=p2) (c:=p3) (s:=s3) b1.1 b2.1 b3.1
     have f4:=Q8r n p1 p2 p3 s3 b1.1 b2.1 b3.1 hn (by omega) d h0
     obtain⟨⟨p,s⟩,e4⟩:∃r,Sort.median ltI d p1 p2 p3 s3=r:=⟨_,rfl⟩
     rw[e4] at b4 f4 ⊢
     dsimp only at b4 f4 ⊢
     clear e1 e2 e3 e4
     rcases Nat.eq_zero_or_pos s with h|h
     · subst h
       have k0:(((0:Nat):Int)==0)=true:=rfl
       have hh:Q6v (Q6u 0)=1:=rfl
       rw[hh]
       (refine Q1q Try.func67 rfl (by rfl) ?_;simp only[Try.ntmps67,List.length_cons,List.length_nil,Nat.reduceAdd,Nat.reduceSub,List.replicate,List.cons_append,List.nil_append])
       (have W:=ndI w1 (ndI w2 (ndI m1 (ndI m2 (ndI m3 (ndI w3 (ndI w4 (ndI w5 (ndI k8 (ndI k50 (ndI k0 @wrI))))))))));(repeat(any_goals(first|((with_reducible refine Q1d ?_ ?_ ?_);rfl;rfl;intro K hK;(first|(apply Q1n (f1) (fun r=>if r=1001 then 9 else r);rfl;rfl;rfl;rfl;exact Try.func87;kernel_rfl;rfl;rfl;(intro r hr q hq h;simp(disch:=omega) only[List.map_cons,List.map_nil,List.cons_append,List.nil_append,List.mem_cons,List.not_mem_nil,or_false] at hr hq;(try dsimp only at h);first|omega|(rcases hr with rfl|rfl|rfl<;>rcases hq with rfl|rfl|rfl<;>simp at h ⊢)|(rcases hr with rfl|rfl<;>rcases hq with rfl|rfl<;>simp at h ⊢)|((repeat' split at h)<;>omega));(focus((simp(disch:=omega) only[Q1t,Q2h,AV.ren,AV.renL,Q1c,List.mem_cons,List.not_mem_nil,forall_eq_or_imp,forall_eq,Q2d,List.contains_cons,List.contains_nil,AV.refsL,AV.refs,Q0z,AV.inN,AV.inNL,inH,Q1k,go_sem,W,Q0l,Q0k,Q0a,Nat.mul_one]);done)))|(apply Q1n (f2) (fun r=>if r=1001 then 9 else r);rfl;rfl;rfl;rfl;exact Try.func87;kernel_rfl;rfl;rfl;(intro r hr q hq h;simp(disch:=omega) only[List.map_cons,List.map_nil,List.cons_append,List.nil_append,List.mem_cons,List.not_mem_nil,or_false] at hr hq;(try dsimp only at h);first|omega|(rcases hr with rfl|rfl|rfl<;>rcases hq with rfl|rfl|rfl<;>simp at h ⊢)|(rcases hr with rfl|rfl<;>rcases hq with rfl|rfl<;>simp at h ⊢)|((repeat' split at h)<;>omega));(focus((simp(disch:=omega) only[Q1t,Q2h,AV.ren,AV.renL,Q1c,List.mem_cons,List.not_mem_nil,forall_eq_or_imp,forall_eq,Q2d,List.contains_cons,List.contains_nil,AV.refsL,AV.refs,Q0z,AV.inN,AV.inNL,inH,Q1k,go_sem,W,Q0l,Q0k,Q0a,Nat.mul_one]);done)))|(apply Q1n (f3) (fun r=>if r=1001 then 9 else r);rfl;rfl;rfl;rfl;exact Try.func87;kernel_rfl;rfl;rfl;(intro r hr q hq h;simp(disch:=omega) only[List.map_cons,List.map_nil,List.cons_append,List.nil_append,List.mem_cons,List.not_mem_nil,or_false] at hr hq;(try dsimp only at h);first|omega|(rcases hr with rfl|rfl|rfl<;>rcases hq with rfl|rfl|rfl<;>simp at h ⊢)|(rcases hr with rfl|rfl<;>rcases hq with rfl|rfl<;>simp at h ⊢)|((repeat' split at h)<;>omega));(focus((simp(disch:=omega) only[Q1t,Q2h,AV.ren,AV.renL,Q1c,List.mem_cons,List.not_mem_nil,forall_eq_or_imp,forall_eq,Q2d,List.contains_cons,List.contains_nil,AV.refsL,AV.refs,Q0z,AV.inN,AV.inNL,inH,Q1k,go_sem,W,Q0l,Q0k,Q0a,Nat.mul_one]);done)))|(apply Q1n (f4) (fun r=>if r=1001 then 9 else r);rfl;rfl;rfl;rfl;exact Try.func88;kernel_rfl;rfl;rfl;(intro r hr q hq h;simp(disch:=omega) only[List.map_cons,List.map_nil,List.cons_append,List.nil_append,List.mem_cons,List.not_mem_nil,or_false] at hr hq;(try dsimp only at h);first|omega|(rcases hr with rfl|rfl|rfl<;>rcases hq with rfl|rfl|rfl<;>simp at h ⊢)|(rcases hr with rfl|rfl<;>rcases hq with rfl|rfl<;>simp at h ⊢)|((repeat' split at h)<;>omega));(simp(disch:=omega) only[Q1t,Q2h,AV.ren,AV.renL,Q1c,List.mem_cons,List.not_mem_nil,forall_eq_or_imp,forall_eq,Q2d,List.contains_cons,List.contains_nil,AV.refsL,AV.refs,Q0z,AV.inN,AV.inNL,inH,Q1k,go_sem,W,Q0l,Q0k,Q0a,Nat.mul_one])));(simp(disch:=omega) only[Q0q,Q2k,renH,AV.ren,AV.renL,Q1c,go_sem,W,Q0l,Q0k,Q0a,Nat.mul_one];refine hK _ ?_;clear hK K))|((with_reducible refine Q0g ?_ ?_);rfl;intro K hK;simp(disch:=omega) only[go_sem,W,Q0l,Q0k,Q0a,Nat.mul_one];((repeat(refine ndI (by first|assumption|omega|rfl) ?_));refine hK _ ?_;clear hK K))|(with_reducible first|(refine Q0i ?_;refine hR _ ?_;clear hR R)|((first|refine Q0h ?_|refine Q0c ?_);intro Ψ hΨ hΨ')|(refine Q0b ?_;intro R hR)|(refine hΨ _ ?_;clear hΨ hΨ' Ψ)|refine Q0d ?_|refine Q0j ?_|refine Q0e ?_)|((with_reducible refine hΨ' _ _ ?_ ?_);(focus(simp;done));clear hΨ hΨ' Ψ)|((with_reducible apply Q0f);rfl;rfl;all_goals(intro hc;first|(cases hc;done)|(try simp only at hc)))))))
       all_goals(refine⟨by simp,⟨_,?_,AV.le_refl _⟩,Q0y (by simp[leH,hget])⟩;simp only[Try.results67,resL,ldA,Q1o,go_sem])
     have k0:((s:Int)==0)=false:=by simp;omega
     by_cases h12:s=12
     · subst h12
       have k12:(((12:Nat):Int)==12)=true:=rfl
       have hh:Q6v (Q6u 12)=2:=rfl
       rw[hh]
       (refine Q1q Try.func67 rfl (by rfl) ?_;simp only[Try.ntmps67,List.length_cons,List.length_nil,Nat.reduceAdd,Nat.reduceSub,List.replicate,List.cons_append,List.nil_append])
       (have W:=ndI w1 (ndI w2 (ndI m1 (ndI m2 (ndI m3 (ndI w3 (ndI w4 (ndI w5 (ndI k8 (ndI k50 (ndI k0 (ndI k12 @wrI)))))))))));(repeat(any_goals(first|((with_reducible refine Q1d ?_ ?_ ?_);rfl;rfl;intro K hK;(first|(apply Q1n (f1) (fun r=>if r=1001 then 9 else r);rfl;rfl;rfl;rfl;exact Try.func87;kernel_rfl;rfl;rfl;(intro r hr q hq h;simp(disch:=omega) only[List.map_cons,List.map_nil,List.cons_append,List.nil_append,List.mem_cons,List.not_mem_nil,or_false] at hr hq;(try dsimp only at h);first|omega|(rcases hr with rfl|rfl|rfl<;>rcases hq with rfl|rfl|rfl<;>simp at h ⊢)|(rcases hr with rfl|rfl<;>rcases hq with rfl|rfl<;>simp at h ⊢)|((repeat' split at h)<;>omega));(focus((simp(disch:=omega) only[Q1t,Q2h,AV.ren,AV.renL,Q1c,List.mem_cons,List.not_mem_nil,forall_eq_or_imp,forall_eq,Q2d,List.contains_cons,List.contains_nil,AV.refsL,AV.refs,Q0z,AV.inN,AV.inNL,inH,Q1k,go_sem,W,Q0l,Q0k,Q0a,Nat.mul_one]);done)))|(apply Q1n (f2) (fun r=>if r=1001 then 9 else r);rfl;rfl;rfl;rfl;exact Try.func87;kernel_rfl;rfl;rfl;(intro r hr q hq h;simp(disch:=omega) only[List.map_cons,List.map_nil,List.cons_append,List.nil_append,List.mem_cons,List.not_mem_nil,or_false] at hr hq;(try dsimp only at h);first|omega|(rcases hr with rfl|rfl|rfl<;>rcases hq with rfl|rfl|rfl<;>simp at h ⊢)|(rcases hr with rfl|rfl<;>rcases hq with rfl|rfl<;>simp at h ⊢)|((repeat' split at h)<;>omega));(focus((simp(disch:=omega) only[Q1t,Q2h,AV.ren,AV.renL,Q1c,List.mem_cons,List.not_mem_nil,forall_eq_or_imp,forall_eq,Q2d,List.contains_cons,List.contains_nil,AV.refsL,AV.refs,Q0z,AV.inN,AV.inNL,inH,Q1k,go_sem,W,Q0l,Q0k,Q0a,Nat.mul_one]);done)))|(apply Q1n (f3) (fun r=>if r=1001 then 9 else r);rfl;rfl;rfl;rfl;exact Try.func87;kernel_rfl;rfl;rfl;(intro r hr q hq h;simp(disch:=omega) only[List.map_cons,List.map_nil,List.cons_append,List.nil_append,List.mem_cons,List.not_mem_nil,or_false] at hr hq;(try dsimp only at h);first|omega|(rcases hr with rfl|rfl|rfl<;>rcases hq with rfl|rfl|rfl<;>simp at h ⊢)|(rcases hr with rfl|rfl<;>rcases hq with rfl|rfl<;>simp at h ⊢)|((repeat' split at h)<;>omega));(focus((simp(disch:=omega) only[Q1t,Q2h,AV.ren,AV.renL,Q1c,List.mem_cons,List.not_mem_nil,forall_eq_or_imp,forall_eq,Q2d,List.contains_cons,List.contains_nil,AV.refsL,AV.refs,Q0z,AV.inN,AV.inNL,inH,Q1k,go_sem,W,Q0l,Q0k,Q0a,Nat.mul_one]);done)))|(apply Q1n (f4) (fun r=>if r=1001 then 9 else r);rfl;rfl;rfl;rfl;exact Try.func88;kernel_rfl;rfl;rfl;(intro r hr q hq h;simp(disch:=omega) only[List.map_cons,List.map_nil,List.cons_append,List.nil_append,List.mem_cons,List.not_mem_nil,or_false] at hr hq;(try dsimp only at h);first|omega|(rcases hr with rfl|rfl|rfl<;>rcases hq with rfl|rfl|rfl<;>simp at h ⊢)|(rcases hr with rfl|rfl<;>rcases hq with rfl|rfl<;>simp at h ⊢)|((repeat' split at h)<;>omega));(simp(disch:=omega) only[Q1t,Q2h,AV.ren,AV.renL,Q1c,List.mem_cons,List.not_mem_nil,forall_eq_or_imp,forall_eq,Q2d,List.contains_cons,List.contains_nil,AV.refsL,AV.refs,Q0z,AV.inN,AV.inNL,inH,Q1k,go_sem,W,Q0l,Q0k,Q0a,Nat.mul_one])));(simp(disch:=omega) only[Q0q,Q2k,renH,AV.ren,AV.renL,Q1c,go_sem,W,Q0l,Q0k,Q0a,Nat.mul_one];refine hK _ ?_;clear hK K))|((with_reducible refine Q0g ?_ ?_);rfl;intro K hK;simp(disch:=omega) only[go_sem,W,Q0l,Q0k,Q0a,Nat.mul_one];((repeat(refine ndI (by first|assumption|omega|rfl) ?_));refine hK _ ?_;clear hK K))|(with_reducible first|(refine Q0i ?_;refine hR _ ?_;clear hR R)|((first|refine Q0h ?_|refine Q0c ?_);intro Ψ hΨ hΨ')|(refine Q0b ?_;intro R hR)|(refine hΨ _ ?_;clear hΨ hΨ' Ψ)|refine Q0d ?_|refine Q0j ?_|refine Q0e ?_)|((with_reducible refine hΨ' _ _ ?_ ?_);(focus(simp;done));clear hΨ hΨ' Ψ)|((with_reducible apply Q0f);rfl;rfl;all_goals(intro hc;first|(cases hc;done)|(try simp only at hc)))))))
       all_goals(refine⟨by simp,⟨_,?_,AV.le_refl _⟩,Q0y (by simp[leH,hget])⟩;simp only[Try.results67,resL,ldA,Q1o,go_sem])
     · have k12:((s:Int)==12)=false:=by simp;omega
       have hh:Q6v (Q6u s)=0:=by unfold Q6u;rw[if_neg (by omega),if_neg h12];rfl
       rw[hh]
       (refine Q1q Try.func67 rfl (by rfl) ?_;simp only[Try.ntmps67,List.length_cons,List.length_nil,Nat.reduceAdd,Nat.reduceSub,List.replicate,List.cons_append,List.nil_append])
       (have W:=ndI w1 (ndI w2 (ndI m1 (ndI m2 (ndI m3 (ndI w3 (ndI w4 (ndI w5 (ndI k8 (ndI k50 (ndI k0 (ndI k12 @wrI)))))))))));(repeat(any_goals(first|((with_reducible refine Q1d ?_ ?_ ?_);rfl;rfl;intro K hK;(first|(apply Q1n (f1) (fun r=>if r=1001 then 9 else r);rfl;rfl;rfl;rfl;exact Try.func87;kernel_rfl;rfl;rfl;(intro r hr q hq h;simp(disch:=omega) only[List.map_cons,List.map_nil,List.cons_append,List.nil_append,List.mem_cons,List.not_mem_nil,or_false] at hr hq;(try dsimp only at h);first|omega|(rcases hr with rfl|rfl|rfl<;>rcases hq with rfl|rfl|rfl<;>simp at h ⊢)|(rcases hr with rfl|rfl<;>rcases hq with rfl|rfl<;>simp at h ⊢)|((repeat' split at h)<;>omega));(focus((simp(disch:=omega) only[Q1t,Q2h,AV.ren,AV.renL,Q1c,List.mem_cons,List.not_mem_nil,forall_eq_or_imp,forall_eq,Q2d,List.contains_cons,List.contains_nil,AV.refsL,AV.refs,Q0z,AV.inN,AV.inNL,inH,Q1k,go_sem,W,Q0l,Q0k,Q0a,Nat.mul_one]);done)))|(apply Q1n (f2) (fun r=>if r=1001 then 9 else r);rfl;rfl;rfl;rfl;exact Try.func87;kernel_rfl;rfl;rfl;(intro r hr q hq h;simp(disch:=omega) only[List.map_cons,List.map_nil,List.cons_append,List.nil_append,List.mem_cons,List.not_mem_nil,or_false] at hr hq;(try dsimp only at h);first|omega|(rcases hr with rfl|rfl|rfl<;>rcases hq with rfl|rfl|rfl<;>simp at h ⊢)|(rcases hr with rfl|rfl<;>rcases hq with rfl|rfl<;>simp at h ⊢)|((repeat' split at h)<;>omega));(focus((simp(disch:=omega) only[Q1t,Q2h,AV.ren,AV.renL,Q1c,List.mem_cons,List.not_mem_nil,forall_eq_or_imp,forall_eq,Q2d,List.contains_cons,List.contains_nil,AV.refsL,AV.refs,Q0z,AV.inN,AV.inNL,inH,Q1k,go_sem,W,Q0l,Q0k,Q0a,Nat.mul_one]);done)))|(apply Q1n (f3) (fun r=>if r=1001 then 9 else r);rfl;rfl;rfl;rfl;exact Try.func87;kernel_rfl;rfl;rfl;(intro r hr q hq h;simp(disch:=omega) only[List.map_cons,List.map_nil,List.cons_append,List.nil_append,List.mem_cons,List.not_mem_nil,or_false] at hr hq;(try dsimp only at h);first|omega|(rcases hr with rfl|rfl|rfl<;>rcases hq with rfl|rfl|rfl<;>simp at h ⊢)|(rcases hr with rfl|rfl<;>rcases hq with rfl|rfl<;>simp at h ⊢)|((repeat' split at h)<;>omega));(focus((simp(disch:=omega) only[Q1t,Q2h,AV.ren,AV.renL,Q1c,List.mem_cons,List.not_mem_nil,forall_eq_or_imp,forall_eq,Q2d,List.contains_cons,List.contains_nil,AV.refsL,AV.refs,Q0z,AV.inN,AV.inNL,inH,Q1k,go_sem,W,Q0l,Q0k,Q0a,Nat.mul_one]);done)))|(apply Q1n (f4) (fun r=>if r=1001 then 9 else r);rfl;rfl;rfl;rfl;exact Try.func88;kernel_rfl;rfl;rfl;(intro r hr q hq h;simp(disch:=omega) only[List.map_cons,List.map_nil,List.cons_append,List.nil_append,List.mem_cons,List.not_mem_nil,or_false] at hr hq;(try dsimp only at h);first|omega|(rcases hr with rfl|rfl|rfl<;>rcases hq with rfl|rfl|rfl<;>simp at h ⊢)|(rcases hr with rfl|rfl<;>rcases hq with rfl|rfl<;>simp at h ⊢)|((repeat' split at h)<;>omega));(simp(disch:=omega) only[Q1t,Q2h,AV.ren,AV.renL,Q1c,List.mem_cons,List.not_mem_nil,forall_eq_or_imp,forall_eq,Q2d,List.contains_cons,List.contains_nil,AV.refsL,AV.refs,Q0z,AV.inN,AV.inNL,inH,Q1k,go_sem,W,Q0l,Q0k,Q0a,Nat.mul_one])));(simp(disch:=omega) only[Q0q,Q2k,renH,AV.ren,AV.renL,Q1c,go_sem,W,Q0l,Q0k,Q0a,Nat.mul_one];refine hK _ ?_;clear hK K))|((with_reducible refine Q0g ?_ ?_);rfl;intro K hK;simp(disch:=omega) only[go_sem,W,Q0l,Q0k,Q0a,Nat.mul_one];((repeat(refine ndI (by first|assumption|omega|rfl) ?_));refine hK _ ?_;clear hK K))|(with_reducible first|(refine Q0i ?_;refine hR _ ?_;clear hR R)|((first|refine Q0h ?_|refine Q0c ?_);intro Ψ hΨ hΨ')|(refine Q0b ?_;intro R hR)|(refine hΨ _ ?_;clear hΨ hΨ' Ψ)|refine Q0d ?_|refine Q0j ?_|refine Q0e ?_)|((with_reducible refine hΨ' _ _ ?_ ?_);(focus(simp;done));clear hΨ hΨ' Ψ)|((with_reducible apply Q0f);rfl;rfl;all_goals(intro hc;first|(cases hc;done)|(try simp only at hc)))))))
       all_goals(refine⟨by simp,⟨_,?_,AV.le_refl _⟩,Q0y (by simp[leH,hget])⟩;simp only[Try.results67,resL,ldA,Q1o,go_sem])
   · have k50:decide ((l:Int)≥50)=false:=decide_eq_false (by omega)
     rw[if_neg h50]
     have b4:=Q8s d (n:=n) (a:=i) (b:=j) (c:=k) (s:=0) (by omega) (by omega) (by omega)
     have f4:=Q8r n i j k 0 (by omega) (by omega) (by omega) hn (by omega) d h0
     rw[show((0:Nat):Int)=0 from rfl] at f4
     obtain⟨⟨p,s⟩,e4⟩:∃r,Sort.median ltI d i j k 0=r:=⟨_,rfl⟩
     rw[e4] at b4 f4 ⊢
     dsimp only at b4 f4 ⊢
     clear e4
     rcases Nat.eq_zero_or_pos s with h|h
     · subst h
       have k0:(((0:Nat):Int)==0)=true:=rfl
       have hh:Q6v (Q6u 0)=1:=rfl
       rw[hh]
       (refine Q1q Try.func67 rfl (by rfl) ?_;simp only[Try.ntmps67,List.length_cons,List.length_nil,Nat.reduceAdd,Nat.reduceSub,List.replicate,List.cons_append,List.nil_append])
       (have W:=ndI w1 (ndI w2 (ndI m1 (ndI m2 (ndI m3 (ndI w3 (ndI w4 (ndI w5 (ndI k8 (ndI k50 (ndI k0 @wrI))))))))));(repeat(any_goals(first|((with_reducible refine Q1d ?_ ?_ ?_);rfl;rfl;intro K hK;(apply Q1n (f4) (fun r=>if r=1001 then 9 else r);rfl;rfl;rfl;rfl;exact Try.func88;kernel_rfl;rfl;rfl;(intro r hr q hq h;simp(disch:=omega) only[List.map_cons,List.map_nil,List.cons_append,List.nil_append,List.mem_cons,List.not_mem_nil,or_false] at hr hq;(try dsimp only at h);first|omega|(rcases hr with rfl|rfl|rfl<;>rcases hq with rfl|rfl|rfl<;>simp at h ⊢)|(rcases hr with rfl|rfl<;>rcases hq with rfl|rfl<;>simp at h ⊢)|((repeat' split at h)<;>omega));(simp(disch:=omega) only[Q1t,Q2h,AV.ren,AV.renL,Q1c,List.mem_cons,List.not_mem_nil,forall_eq_or_imp,forall_eq,Q2d,List.contains_cons,List.contains_nil,AV.refsL,AV.refs,Q0z,AV.inN,AV.inNL,inH,Q1k,go_sem,W,Q0l,Q0k,Q0a,Nat.mul_one]));(simp(disch:=omega) only[Q0q,Q2k,renH,AV.ren,AV.renL,Q1c,go_sem,W,Q0l,Q0k,Q0a,Nat.mul_one];refine hK _ ?_;clear hK K))|((with_reducible refine Q0g ?_ ?_);rfl;intro K hK;simp(disch:=omega) only[go_sem,W,Q0l,Q0k,Q0a,Nat.mul_one];((repeat(refine ndI (by first|assumption|omega|rfl) ?_));refine hK _ ?_;clear hK K))|(with_reducible first|(refine Q0i ?_;refine hR _ ?_;clear hR R)|((first|refine Q0h ?_|refine Q0c ?_);intro Ψ hΨ hΨ')|(refine Q0b ?_;intro R hR)|(refine hΨ _ ?_;clear hΨ hΨ' Ψ)|refine Q0d ?_|refine Q0j ?_|refine Q0e ?_)|((with_reducible refine hΨ' _ _ ?_ ?_);(focus(simp;done));clear hΨ hΨ' Ψ)|((with_reducible apply Q0f);rfl;rfl;all_goals(intro hc;first|(cases hc;done)|(try simp only at hc)))))))
       all_goals(refine⟨by simp,⟨_,?_,AV.le_refl _⟩,Q0y (by simp[leH,hget])⟩;simp only[Try.results67,resL,ldA,Q1o,go_sem])
     have k0:((s:Int)==0)=false:=by simp;omega
     by_cases h12:s=12
     · subst h12
       exact absurd b4.2 (by omega)
     · have k12:((s:Int)==12)=false:=by simp;omega
       have hh:Q6v (Q6u s)=0:=by unfold Q6u;rw[if_neg (by omega),if_neg h12];rfl
       rw[hh]
       (refine Q1q Try.func67 rfl (by rfl) ?_;simp only[Try.ntmps67,List.length_cons,List.length_nil,Nat.reduceAdd,Nat.reduceSub,List.replicate,List.cons_append,List.nil_append])
       (have W:=ndI w1 (ndI w2 (ndI m1 (ndI m2 (ndI m3 (ndI w3 (ndI w4 (ndI w5 (ndI k8 (ndI k50 (ndI k0 (ndI k12 @wrI)))))))))));(repeat(any_goals(first|((with_reducible refine Q1d ?_ ?_ ?_);rfl;rfl;intro K hK;(apply Q1n (f4) (fun r=>if r=1001 then 9 else r);rfl;rfl;rfl;rfl;exact Try.func88;kernel_rfl;rfl;rfl;(intro r hr q hq h;simp(disch:=omega) only[List.map_cons,List.map_nil,List.cons_append,List.nil_append,List.mem_cons,List.not_mem_nil,or_false] at hr hq;(try dsimp only at h);first|omega|(rcases hr with rfl|rfl|rfl<;>rcases hq with rfl|rfl|rfl<;>simp at h ⊢)|(rcases hr with rfl|rfl<;>rcases hq with rfl|rfl<;>simp at h ⊢)|((repeat' split at h)<;>omega));(simp(disch:=omega) only[Q1t,Q2h,AV.ren,AV.renL,Q1c,List.mem_cons,List.not_mem_nil,forall_eq_or_imp,forall_eq,Q2d,List.contains_cons,List.contains_nil,AV.refsL,AV.refs,Q0z,AV.inN,AV.inNL,inH,Q1k,go_sem,W,Q0l,Q0k,Q0a,Nat.mul_one]));(simp(disch:=omega) only[Q0q,Q2k,renH,AV.ren,AV.renL,Q1c,go_sem,W,Q0l,Q0k,Q0a,Nat.mul_one];refine hK _ ?_;clear hK K))|((with_reducible refine Q0g ?_ ?_);rfl;intro K hK;simp(disch:=omega) only[go_sem,W,Q0l,Q0k,Q0a,Nat.mul_one];((repeat(refine ndI (by first|assumption|omega|rfl) ?_));refine hK _ ?_;clear hK K))|(with_reducible first|(refine Q0i ?_;refine hR _ ?_;clear hR R)|((first|refine Q0h ?_|refine Q0c ?_);intro Ψ hΨ hΨ')|(refine Q0b ?_;intro R hR)|(refine hΨ _ ?_;clear hΨ hΨ' Ψ)|refine Q0d ?_|refine Q0j ?_|refine Q0e ?_)|((with_reducible refine hΨ' _ _ ?_ ?_);(focus(simp;done));clear hΨ hΨ' Ψ)|((with_reducible apply Q0f);rfl;rfl;all_goals(intro hc;first|(cases hc;done)|(try simp only at hc)))))))
       all_goals(refine⟨by simp,⟨_,?_,AV.le_refl _⟩,Q0y (by simp[leH,hget])⟩;simp only[Try.results67,resL,ldA,Q1o,go_sem])
 · have k8:decide ((l:Int)≥8)=false:=decide_eq_false (by omega)
   rw[if_neg h8]
   have k0:(((0:Nat):Int)==0)=true:=rfl
   dsimp only
   have hh:Q6v (Q6u 0)=1:=rfl
   rw[hh]
   (refine Q1q Try.func67 rfl (by rfl) ?_;simp only[Try.ntmps67,List.length_cons,List.length_nil,Nat.reduceAdd,Nat.reduceSub,List.replicate,List.cons_append,List.nil_append])
   (have W:=ndI w1 (ndI w2 (ndI m1 (ndI m2 (ndI m3 (ndI w3 (ndI w4 (ndI w5 (ndI k8 (ndI k0 @wrI)))))))));(repeat(any_goals(first|((with_reducible refine Q0g ?_ ?_);rfl;intro K hK;simp(disch:=omega) only[go_sem,W,Q0l,Q0k,Q0a,Nat.mul_one];((repeat(refine ndI (by first|assumption|omega|rfl) ?_));refine hK _ ?_;clear hK K))|(with_reducible first|(refine Q0i ?_;refine hR _ ?_;clear hR R)|((first|refine Q0h ?_|refine Q0c ?_);intro Ψ hΨ hΨ')|(refine Q0b ?_;intro R hR)|(refine hΨ _ ?_;clear hΨ hΨ' Ψ)|refine Q0d ?_|refine Q0j ?_|refine Q0e ?_)|((with_reducible refine hΨ' _ _ ?_ ?_);(focus(simp;done));clear hΨ hΨ' Ψ)|((with_reducible apply Q0f);rfl;rfl;all_goals(intro hc;first|(cases hc;done)|(try simp only at hc)))))))
   all_goals(refine⟨by simp,⟨_,?_,AV.le_refl _⟩,Q0y (by simp[leH,hget])⟩;simp only[Try.results67,resL,ldA,Q1o,go_sem])
end
section
open Go.RowKit
theorem Q2z{P:Program}{c:Code}{σ : St}{Φ : Exit→St→Prop}{α : Type}(id:Nat)(J:St)(I:α→St)(μ : α→Nat)(x0:α)(h0:σ.le (I x0))(hJ:Φ (.exit id) J)
 (round:∀x,∀Ψ : Exit→St→Prop,(∀σ' y,μ y < μ x→σ'.le (I y)→Ψ .normal σ')→(∀σ',σ'.le J→Ψ (.exit id) σ')→evC P c (I x) Ψ):evC P (.loop c) σ Φ:=by
 have h1:AW P (.loop c) σ (fun ex σ'=>ex = .exit id∧σ'.le J):=by
  have:evC P (.loop c) σ (fun ex σ'=>ex = .exit id∧σ'.le J):=Q2v I μ x0 h0 fun x Ψ hn hx=>round x Ψ hn fun σ' hle=>hx _ σ' (by simp) ⟨rfl,hle⟩
  exact Q2g _ _ _ this
 show AW P (.loop c) σ Φ
 intro E ι a w hc
 refine wp_mono (h1 E ι a w hc) ?_
 rintro ex a' w' ⟨ι',σ',hc',rfl,hle⟩
 exact⟨ι',J,hc'.le hle,hJ⟩
section
variable {p:Int→Bool} {d:Array Int} {i j:Nat}
theorem up_go(h:i≤j)(hp:p d[i]! = true):Sort.scanUp p d j i=Sort.scanUp p d j (i+1):=by
 conv=>lhs;unfold Sort.scanUp
 rw[if_pos (by simp[h,hp])]
theorem Q7c(h:¬(i≤j∧p d[i]! = true)):Sort.scanUp p d j i=i:=by
 unfold Sort.scanUp
 rw[if_neg (by simpa using h)]
theorem X3v(h:i≤j)(h0:0<j)(hp:p d[j]! = true):Sort.scanDown p d i j=Sort.scanDown p d i (j-1):=by
 obtain⟨j,rfl⟩:∃x,j=x+1:=⟨j-1,by omega⟩
 conv=>lhs;unfold Sort.scanDown
 rw[if_pos (by simp[h,hp]),Nat.add_sub_cancel]
theorem Q4t(h:¬(i≤j∧p d[j]! = true)):Sort.scanDown p d i j=j:=by
 cases j with
 |zero=>rfl
 |succ j=>
  unfold Sort.scanDown
  rw[if_neg (by simpa using h)]
end
end
end Go.Proofs.Ytbmcdemnnbndeaa
