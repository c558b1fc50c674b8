/- All of it. -/
import Derived.Test.YtcklfcagailoiaaDoorCE1M
import Derived.Test.YtcklfcagailoiaaDoorCE2M
