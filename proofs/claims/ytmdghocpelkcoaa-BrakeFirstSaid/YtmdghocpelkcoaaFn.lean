/- All functions, as plain data. -/
import Derived.Test.YtmdghocpelkcoaaFn3
